/- Walks of the functions that the law reaches: each comes to just what the function that is told of it tells, for all arguments. -/
import Derived.Test.YtcmlmjgoidpabaaGreatDoorZMFnFramesPottedx16a
import Derived.Test.YtcmlmjgoidpabaaGreatDoorZU
import Derived.Deep.CutRange
import Derived.Test.YtcmlmjgoidpabaaGreatDoorZMFnFramesPottedx0
import Derived.Test.YtcmlmjgoidpabaaGreatDoorZMFnFramesPottedx1
import Derived.Test.YtcmlmjgoidpabaaGreatDoorZMFnFramesPottedx2
import Derived.Test.YtcmlmjgoidpabaaGreatDoorZMFnFramesPottedx5
import Derived.Test.YtcmlmjgoidpabaaGreatDoorZMFnFramesPottedx6
import Derived.Test.YtcmlmjgoidpabaaGreatDoorZMFnFramesPottedx7
import Derived.Test.YtcmlmjgoidpabaaGreatDoorZMFnFramesPottedx8
import Derived.Test.YtcmlmjgoidpabaaGreatDoorZMFnFramesPottedx9
import Derived.Test.YtcmlmjgoidpabaaGreatDoorZMFnFramesPottedx10
import Derived.Test.YtcmlmjgoidpabaaGreatDoorZMFnFramesPottedx11
import Derived.Test.YtcmlmjgoidpabaaGreatDoorZMFnFramesPottedx12
import Derived.Test.YtcmlmjgoidpabaaGreatDoorZMFnFramesPottedx13
import Derived.Test.YtcmlmjgoidpabaaGreatDoorZMFnFramesPottedx15
namespace Go.Proofs.YtcmlmjgoidpabaaGreatDoor.MFnFramesPotted
open Go.RowKit Go.Proofs.YtcmlmjgoidpabaaGreatDoorW.PrintWords Go.Proofs.YtcmlmjgoidpabaaGreatDoorW.PrintLast Go.Proofs.YtcmlmjgoidpabaaGreatDoorW.PrintMore
attribute [local go_sem] max2_int min2_int max_two min_two max_three min_three max_four min_four
set_option linter.unusedVariables false
set_option linter.unusedSimpArgs false
attribute [local go_sem high] eqA25
set_option maxHeartbeats 400000000 in
set_option maxRecDepth 100000 in
theorem laws_FnFramesPotted.calls (k : Nat) (A0 : Option Addr) (c0 : Nat) (l0 : List Int) (A1 : Option Addr) (c1 : Nat) (l1 : List Int) (r : Bool) (w : World) (hr0 : Kd.C (Kd.int .u8) w A0 l0.length l0) (hc0 : l0.length ≤ c0) (hr1 : Kd.C (Kd.int .u8) w A1 l1.length l1) (hc1 : l1.length ≤ c1) (h : laws_FnFramesPotted.f k l0 l1 = some r) :
    Calls Tryz.prog 3 #[.slice A0 l0.length c0, .slice A1 l1.length c1] w fun e w' => e = .returned (.bool r) ∧ Below w.heap.size w w' := by
 have hu25 := Tryz.underlying25
 have HR0 := Aside0.mk hr0
 have HC0 := Aside0.mk hc0
 clear hr0 hc0
 have HR1 := Aside0.mk hr1
 have HC1 := Aside0.mk hc1
 clear hr1 hc1
 have HB := Aside0.mk (Below.refl w.heap.size w)
 have H : ((laws_big.f l0 l1).bind fun t462 => (if t462 = true then (some true) else (laws_FnFramesPotted.j0 k l0 l1))) = some r := h
 clear h
 replace H := Option.bind_eq_some_iff.mp H
 obtain ⟨t462, A30, H⟩ := H
 (try dsimp only at H)
 have A3 := Aside0.mk A30
 clear A30
 have HC4 := Aside0.mk H
 clear H
 go_enter Tryz.func3, Tryz.ntmps3
 go_upto_if 95 with (first | ((with_reducible refine gate_callee (f := 5) rfl ?_); refine goU (some 95) Tryz.func5 #[.slice A0 l0.length c0, .slice A1 l1.length c1] ?_; (with_reducible refine (laws_big.calls _ _ l0 _ _ l1 t462 _ ?side1 ?side2 ?side3 ?side4 A3.out).mono ?_); (case side1 => repeat (first | exact HR0.out | (with_reducible refine Kd.C_alloc ?_ _) | (with_reducible refine Kd.C_drewN ?_ _) | (with_reducible refine Kd.C_drew ?_))); (case side2 => exact HC0.out); (case side3 => repeat (first | exact HR1.out | (with_reducible refine Kd.C_alloc ?_ _) | (with_reducible refine Kd.C_drewN ?_ _) | (with_reducible refine Kd.C_drew ?_))); (case side4 => exact HC1.out); rintro e w' ⟨rfl, ⟨nd, rfl⟩⟩; refine ⟨_, rfl, ?_⟩))
 (try simp only [Act.put, List.setIfInBounds_toArray, List.set_cons_zero, List.set_cons_succ])
 go_cut [] from 9999 to 9999 (fun wc => ∃ (kq : Nat), Aside0 (laws_FnFramesPotted.j0 kq l0 l1 = some r) ∧ Aside0 (kq ≤ k) ∧ Aside0 (Below w.heap.size w wc))
 case first => as_aux_lemma =>
  have H := HC4.out
  clear HC4
  by_cases c5 : t462 = true
  ·subst c5
   rw [if_pos rfl] at H
   obtain rfl := Option.some.inj H
   go_wp2
   go_ret
   exact ⟨by first | rfl | (simp [errW_none, errW_some] <;> rfl) | (simp [*, errW_none, errW_some] <;> rfl), hbU⟩
  replace c5 := Bool.eq_false_iff.mpr c5
  subst c5
  rw [if_neg (show ¬ (false = true) by decide)] at H
  have H' := Aside0.mk H
  clear H
  go_wp2
  go_meet
  case rel => exact ⟨_, H', ⟨by first | omega | exact Nat.le_refl _⟩, ⟨hbU⟩⟩
 case rest => as_aux_lemma =>
  clear HC4
  (try clear c1); (try clear c5)
  obtain ⟨kq, HA, HJ3, HB⟩ := hcut
  cases kq with
  | zero => exact absurd HA.out (by simp [laws_FnFramesPotted.j0])
  | succ kj3 =>
   have H := HA.out
   clear HA
   simp only [laws_FnFramesPotted.j0] at H
   replace H := Option.bind_eq_some_iff.mp H
   obtain ⟨⟨t463, t464, t465, t466⟩, A60, H⟩ := H
   (try dsimp only at H)
   have A6 := Aside0.mk A60
   clear A60
   replace H := Option.bind_eq_some_iff.mp H
   obtain ⟨⟨t468, t469⟩, A70, H⟩ := H
   (try dsimp only at H)
   have A7 := Aside0.mk A70
   clear A70
   replace H := Option.bind_eq_some_iff.mp H
   obtain ⟨⟨t470, t471⟩, A80, H⟩ := H
   (try dsimp only at H)
   have A8 := Aside0.mk A80
   clear A80
   replace H := Option.bind_eq_some_iff.mp H
   obtain ⟨⟨t472, t473, t474, t475⟩, A90, H⟩ := H
   (try dsimp only at H)
   have A9 := Aside0.mk A90
   clear A90
   replace H := Option.bind_eq_some_iff.mp H
   obtain ⟨⟨t477, t478, t479, t480⟩, A100, H⟩ := H
   (try dsimp only at H)
   have A10 := Aside0.mk A100
   clear A100
   replace H := Option.bind_eq_some_iff.mp H
   obtain ⟨⟨t482, t483⟩, A110, H⟩ := H
   (try dsimp only at H)
   have A11 := Aside0.mk A110
   clear A110
   replace H := Option.bind_eq_some_iff.mp H
   obtain ⟨⟨t484, t485⟩, A120, H⟩ := H
   (try dsimp only at H)
   have A12 := Aside0.mk A120
   clear A120
   replace H := Option.bind_eq_some_iff.mp H
   obtain ⟨⟨t486, t487, t488⟩, A130, H⟩ := H
   (try dsimp only at H)
   have A13 := Aside0.mk A130
   clear A130
   replace H := Option.bind_eq_some_iff.mp H
   obtain ⟨⟨t489, t490, t491⟩, A140, H⟩ := H
   (try dsimp only at H)
   have A14 := Aside0.mk A140
   clear A140
   replace H := Option.bind_eq_some_iff.mp H
   obtain ⟨⟨t492, t493⟩, A150, H⟩ := H
   (try dsimp only at H)
   have A15 := Aside0.mk A150
   clear A150
   replace H := Option.bind_eq_some_iff.mp H
   obtain ⟨⟨t494, t495⟩, A160, H⟩ := H
   (try dsimp only at H)
   have A16 := Aside0.mk A160
   clear A160
   replace H := Option.bind_eq_some_iff.mp H
   obtain ⟨⟨t496, t497⟩, A170, H⟩ := H
   (try dsimp only at H)
   have A17 := Aside0.mk A170
   clear A170
   replace H := Option.bind_eq_some_iff.mp H
   obtain ⟨⟨t498, t499⟩, A180, H⟩ := H
   (try dsimp only at H)
   have A18 := Aside0.mk A180
   clear A180
   replace H := Option.bind_eq_some_iff.mp H
   obtain ⟨⟨t500, t501⟩, A190, H⟩ := H
   (try dsimp only at H)
   have A19 := Aside0.mk A190
   clear A190
   replace H := Option.bind_eq_some_iff.mp H
   obtain ⟨⟨t502, t503⟩, A200, H⟩ := H
   (try dsimp only at H)
   have A20 := Aside0.mk A200
   clear A200
   replace H := Option.bind_eq_some_iff.mp H
   obtain ⟨⟨t504, t505, t506, t507⟩, A210, H⟩ := H
   (try dsimp only at H)
   have A21 := Aside0.mk A210
   clear A210
   replace H := Option.bind_eq_some_iff.mp H
   obtain ⟨⟨t509, t510, t511, t512⟩, A220, H⟩ := H
   (try dsimp only at H)
   have A22 := Aside0.mk A220
   clear A220
   replace H := Option.bind_eq_some_iff.mp H
   obtain ⟨⟨t514, t515⟩, A230, H⟩ := H
   (try dsimp only at H)
   have A23 := Aside0.mk A230
   clear A230
   replace H := Option.bind_eq_some_iff.mp H
   obtain ⟨⟨t516, t517⟩, A240, H⟩ := H
   (try dsimp only at H)
   have A24 := Aside0.mk A240
   clear A240
   have HC25 := Aside0.mk H
   clear H
   go_upto_region 22 with (first | ((with_reducible refine gate_callee (f := 6) rfl ?_); refine goU (some 98) Tryz.func6 #[.slice A0 l0.length c0] ?_; (with_reducible refine (spec_DrawIsBreak.calls kj3 _ _ l0 t463 t464 t465 t466 _ ?side1 ?side2 A6.out).mono ?_); (case side1 => repeat (first | exact (Kd.C_below HR0.out HB.out) | (with_reducible refine Kd.C_alloc ?_ _) | (with_reducible refine Kd.C_drewN ?_ _) | (with_reducible refine Kd.C_drew ?_))); (case side2 => exact HC0.out); rintro e w26 ⟨rfl, hb⟩; refine ⟨_, rfl, ?_⟩; have n0_ := bsU hb; clear HB; have HB := n0_; clear n0_; (try clear hb); (try clear hb2); (try clear hk); (try clear hi)) | ((with_reducible refine gate_dst (N := 5) rfl ?_); (try (refine gate_guard (by rfl) ?_; dsimp only)); refine bxU (cs := #[.int .i64 0, .bool false, .int .i64 0]) (t := 25) ?_; intro gb467 hg w27 hbox hb; have n0_ := bsU hb; have n1_ := Aside0.mk (hbox); have n2_ := geU hg; have n3_ := geU hg; clear HB; have HB := n0_; have BK467 := n1_; have GW467 := n2_; have GE467 := n3_; clear n0_ n1_ n2_ n3_; clear hb hbox hg; obtain ⟨hcz28_0, hcz28_1, hcz28_2, hfz28_0, hfz28_1, hfz28_2⟩ := b3U BK467) | ((with_reducible refine gate_callee (f := 7) rfl ?_); refine goU (some 104) Tryz.func7 #[.agg #[.int .i64 t463, .bool t464, .int .i64 t465], .string t466] ?_; (with_reducible refine (impl_IsBreak.calls kj3 t463 t464 t465 t466 t468 t469 _ A7.out).mono ?_); rintro e w29 ⟨rfl, hb⟩; refine ⟨_, rfl, ?_⟩; have n0_ := Aside0.mk (blk_below (g := gb467) (o := .cells #[.int .i64 t463, .bool t464, .int .i64 t465] 25 (0, 0)) bkU hb); have n1_ := bsU hb; clear BK467; clear HB; have BK467 := n0_; have HB := n1_; clear n0_ n1_; (try clear hb); (try clear hb2); (try clear hk); (try clear hi); obtain ⟨hcz30_0, hcz30_1, hcz30_2, hfz30_0, hfz30_1, hfz30_2⟩ := b3U BK467) | ((with_reducible refine gate_callee (f := 8) rfl ?_); refine goU (some 110) Tryz.func8 #[.agg #[.int .i64 t463, .bool t464, .int .i64 t465], .string t466] ?_; (with_reducible refine (spec_IsBreak.calls kj3 t463 t464 t465 t466 t470 t471 _ A8.out).mono ?_); rintro e w31 ⟨rfl, hb⟩; refine ⟨_, rfl, ?_⟩; have n0_ := bbU BK467 hb; have n1_ := bsU hb; clear BK467; clear HB; have BK467 := n0_; have HB := n1_; clear n0_ n1_; (try clear hb); (try clear hb2); (try clear hk); (try clear hi); obtain ⟨hcz32_0, hcz32_1, hcz32_2, hfz32_0, hfz32_1, hfz32_2⟩ := b3U BK467) | ((with_reducible refine gate_callee (f := 9) rfl ?_); refine goU (some 116) Tryz.func9 #[.agg #[.int .i64 t463, .bool t464, .int .i64 t465], .string t466] ?_; (with_reducible refine (impl_FrameAfter.calls kj3 t463 t464 t465 t466 t472 t473 t474 t475 _ A9.out).mono ?_); rintro e w33 ⟨rfl, hb⟩; refine ⟨_, rfl, ?_⟩; have n0_ := bbU BK467 hb; have n1_ := bsU hb; clear BK467; clear HB; have BK467 := n0_; have HB := n1_; clear n0_ n1_; (try clear hb); (try clear hb2); (try clear hk); (try clear hi)) | ((with_reducible refine gate_dst (N := 11) rfl ?_); (try (refine gate_guard (by rfl) ?_; dsimp only)); refine bxU (cs := #[.int .i64 0, .bool false, .int .i64 0]) (t := 25) ?_; intro gb476 hg w34 hbox hb; have n0_ := bbU BK467 hb; have n1_ := bsU hb; have n2_ := Aside0.mk (hbox); have n3_ := geU hg; have n4_ := geU hg; have n5_ := neU BK467 hg; have n6_ := enU BK467 hg; clear BK467; clear HB; have BK467 := n0_; have HB := n1_; have BK476 := n2_; have GW476 := n3_; have GE476 := n4_; have NB467_476 := n5_; have NB476_467 := n6_; clear n0_ n1_ n2_ n3_ n4_ n5_ n6_; clear hb hbox hg; have hnb35 := NB476_467.out; have hnc35 := NB467_476.out; obtain ⟨hcz36_0, hcz36_1, hcz36_2, hfz36_0, hfz36_1, hfz36_2⟩ := b3U BK476; obtain ⟨hcz37_0, hcz37_1, hcz37_2, hfz37_0, hfz37_1, hfz37_2⟩ := b3U BK467) | ((with_reducible refine gate_callee (f := 10) rfl ?_); refine goU (some 122) Tryz.func10 #[.agg #[.int .i64 t463, .bool t464, .int .i64 t465], .string t466] ?_; (with_reducible refine (spec_FrameAfter.calls kj3 t463 t464 t465 t466 t477 t478 t479 t480 _ A10.out).mono ?_); rintro e w38 ⟨rfl, hb⟩; refine ⟨_, rfl, ?_⟩; have n0_ := bbU BK467 hb; have n1_ := Aside0.mk (blk_below (g := gb476) (o := .cells #[.int .i64 t472, .bool t473, .int .i64 t474] 25 (0, 0)) bkU hb); have n2_ := bsU hb; clear BK467; clear BK476; clear HB; have BK467 := n0_; have BK476 := n1_; have HB := n2_; clear n0_ n1_ n2_; (try clear hb); (try clear hb2); (try clear hk); (try clear hi)) | ((with_reducible refine gate_dst (N := 13) rfl ?_); (try (refine gate_guard (by rfl) ?_; dsimp only)); refine bxU (cs := #[.int .i64 0, .bool false, .int .i64 0]) (t := 25) ?_; intro gb481 hg w39 hbox hb; have n0_ := bbU BK467 hb; have n1_ := bbU BK476 hb; have n2_ := bsU hb; have n3_ := Aside0.mk (hbox); have n4_ := geU hg; have n5_ := geU hg; have n6_ := neU BK467 hg; have n7_ := enU BK467 hg; have n8_ := neU BK476 hg; have n9_ := enU BK476 hg; clear BK467; clear BK476; clear HB; have BK467 := n0_; have BK476 := n1_; have HB := n2_; have BK481 := n3_; have GW481 := n4_; have GE481 := n5_; have NB467_481 := n6_; have NB481_467 := n7_; have NB476_481 := n8_; have NB481_476 := n9_; clear n0_ n1_ n2_ n3_ n4_ n5_ n6_ n7_ n8_ n9_; clear hb hbox hg; have hnb40 := NB481_467.out; have hnc40 := NB467_481.out; have hnb41 := NB481_476.out; have hnc41 := NB476_481.out; obtain ⟨hcz42_0, hcz42_1, hcz42_2, hfz42_0, hfz42_1, hfz42_2⟩ := b3U BK481; obtain ⟨hcz43_0, hcz43_1, hcz43_2, hfz43_0, hfz43_1, hfz43_2⟩ := b3U BK467) | ((with_reducible refine gate_callee (f := 11) rfl ?_); refine goU (some 127) Tryz.func11 #[.agg #[.int .i64 t463, .bool t464, .int .i64 t465]] ?_; (with_reducible refine (impl_NextBalls.calls kj3 t463 t464 t465 t482 t483 _ A11.out).mono ?_); rintro e w44 ⟨rfl, hb⟩; refine ⟨_, rfl, ?_⟩; have n0_ := bbU BK467 hb; have n1_ := bbU BK476 hb; have n2_ := Aside0.mk (blk_below (g := gb481) (o := .cells #[.int .i64 t477, .bool t478, .int .i64 t479] 25 (0, 0)) bkU hb); have n3_ := bsU hb; clear BK467; clear BK476; clear BK481; clear HB; have BK467 := n0_; have BK476 := n1_; have BK481 := n2_; have HB := n3_; clear n0_ n1_ n2_ n3_; (try clear hb); (try clear hb2); (try clear hk); (try clear hi); obtain ⟨hcz45_0, hcz45_1, hcz45_2, hfz45_0, hfz45_1, hfz45_2⟩ := b3U BK467) | ((with_reducible refine gate_callee (f := 12) rfl ?_); refine goU (some 132) Tryz.func12 #[.agg #[.int .i64 t463, .bool t464, .int .i64 t465]] ?_; (with_reducible refine (spec_NextBalls.calls kj3 t463 t464 t465 t484 t485 _ A12.out).mono ?_); rintro e w46 ⟨rfl, hb⟩; refine ⟨_, rfl, ?_⟩; have n0_ := bbU BK467 hb; have n1_ := bbU BK476 hb; have n2_ := bbU BK481 hb; have n3_ := bsU hb; clear BK467; clear BK476; clear BK481; clear HB; have BK467 := n0_; have BK476 := n1_; have BK481 := n2_; have HB := n3_; clear n0_ n1_ n2_ n3_; (try clear hb); (try clear hb2); (try clear hk); (try clear hi); obtain ⟨hcz47_0, hcz47_1, hcz47_2, hfz47_0, hfz47_1, hfz47_2⟩ := b3U BK467) | ((with_reducible refine gate_callee (f := 13) rfl ?_); refine goU (some 137) Tryz.func13 #[.agg #[.int .i64 t463, .bool t464, .int .i64 t465]] ?_; (with_reducible refine (impl_HighestBreak.calls kj3 t463 t464 t465 t486 t487 t488 _ A13.out).mono ?_); rintro e w48 ⟨rfl, hb⟩; refine ⟨_, rfl, ?_⟩; have n0_ := bbU BK467 hb; have n1_ := bbU BK476 hb; have n2_ := bbU BK481 hb; have n3_ := bsU hb; clear BK467; clear BK476; clear BK481; clear HB; have BK467 := n0_; have BK476 := n1_; have BK481 := n2_; have HB := n3_; clear n0_ n1_ n2_ n3_; (try clear hb); (try clear hb2); (try clear hk); (try clear hi); obtain ⟨hcz49_0, hcz49_1, hcz49_2, hfz49_0, hfz49_1, hfz49_2⟩ := b3U BK467) | ((with_reducible refine gate_callee (f := 14) rfl ?_); refine goU (some 143) Tryz.func14 #[.agg #[.int .i64 t463, .bool t464, .int .i64 t465]] ?_; (with_reducible refine (spec_HighestBreak.calls kj3 t463 t464 t465 t489 t490 t491 _ A14.out).mono ?_); rintro e w50 ⟨rfl, hb⟩; refine ⟨_, rfl, ?_⟩; have n0_ := bbU BK467 hb; have n1_ := bbU BK476 hb; have n2_ := bbU BK481 hb; have n3_ := bsU hb; clear BK467; clear BK476; clear BK481; clear HB; have BK467 := n0_; have BK476 := n1_; have BK481 := n2_; have HB := n3_; clear n0_ n1_ n2_ n3_; (try clear hb); (try clear hb2); (try clear hk); (try clear hi); obtain ⟨hcz51_0, hcz51_1, hcz51_2, hfz51_0, hfz51_1, hfz51_2⟩ := b3U BK467) | ((with_reducible refine gate_callee (f := 15) rfl ?_); refine goU (some 149) Tryz.func15 #[.agg #[.int .i64 t463, .bool t464, .int .i64 t465]] ?_; (with_reducible refine (impl_LeastBreak.calls kj3 t463 t464 t465 t492 t493 _ A15.out).mono ?_); rintro e w52 ⟨rfl, hb⟩; refine ⟨_, rfl, ?_⟩; have n0_ := bbU BK467 hb; have n1_ := bbU BK476 hb; have n2_ := bbU BK481 hb; have n3_ := bsU hb; clear BK467; clear BK476; clear BK481; clear HB; have BK467 := n0_; have BK476 := n1_; have BK481 := n2_; have HB := n3_; clear n0_ n1_ n2_ n3_; (try clear hb); (try clear hb2); (try clear hk); (try clear hi); obtain ⟨hcz53_0, hcz53_1, hcz53_2, hfz53_0, hfz53_1, hfz53_2⟩ := b3U BK467) | ((with_reducible refine gate_callee (f := 16) rfl ?_); refine goU (some 154) Tryz.func16 #[.agg #[.int .i64 t463, .bool t464, .int .i64 t465]] ?_; (with_reducible refine (spec_LeastBreak.calls kj3 t463 t464 t465 t494 t495 _ A16.out).mono ?_); rintro e w54 ⟨rfl, hb⟩; refine ⟨_, rfl, ?_⟩; have n0_ := bbU BK467 hb; have n1_ := bbU BK476 hb; have n2_ := bbU BK481 hb; have n3_ := bsU hb; clear BK467; clear BK476; clear BK481; clear HB; have BK467 := n0_; have BK476 := n1_; have BK481 := n2_; have HB := n3_; clear n0_ n1_ n2_ n3_; (try clear hb); (try clear hb2); (try clear hk); (try clear hi); obtain ⟨hcz55_0, hcz55_1, hcz55_2, hfz55_0, hfz55_1, hfz55_2⟩ := b3U BK467) | ((with_reducible refine gate_callee (f := 17) rfl ?_); refine goU (some 159) Tryz.func17 #[.agg #[.int .i64 t463, .bool t464, .int .i64 t465]] ?_; (with_reducible refine (impl_PointsLeft.calls kj3 t463 t464 t465 t496 t497 _ A17.out).mono ?_); rintro e w56 ⟨rfl, hb⟩; refine ⟨_, rfl, ?_⟩; have n0_ := bbU BK467 hb; have n1_ := bbU BK476 hb; have n2_ := bbU BK481 hb; have n3_ := bsU hb; clear BK467; clear BK476; clear BK481; clear HB; have BK467 := n0_; have BK476 := n1_; have BK481 := n2_; have HB := n3_; clear n0_ n1_ n2_ n3_; (try clear hb); (try clear hb2); (try clear hk); (try clear hi); obtain ⟨hcz57_0, hcz57_1, hcz57_2, hfz57_0, hfz57_1, hfz57_2⟩ := b3U BK467) | ((with_reducible refine gate_callee (f := 18) rfl ?_); refine goU (some 164) Tryz.func18 #[.agg #[.int .i64 t463, .bool t464, .int .i64 t465]] ?_; (with_reducible refine (spec_PointsLeft.calls kj3 t463 t464 t465 t498 t499 _ A18.out).mono ?_); rintro e w58 ⟨rfl, hb⟩; refine ⟨_, rfl, ?_⟩; have n0_ := bbU BK467 hb; have n1_ := bbU BK476 hb; have n2_ := bbU BK481 hb; have n3_ := bsU hb; clear BK467; clear BK476; clear BK481; clear HB; have BK467 := n0_; have BK476 := n1_; have BK481 := n2_; have HB := n3_; clear n0_ n1_ n2_ n3_; (try clear hb); (try clear hb2); (try clear hk); (try clear hi); obtain ⟨hcz59_0, hcz59_1, hcz59_2, hfz59_0, hfz59_1, hfz59_2⟩ := b3U BK467) | ((with_reducible refine gate_callee (f := 19) rfl ?_); refine goU (some 169) Tryz.func19 #[.agg #[.int .i64 t463, .bool t464, .int .i64 t465]] ?_; (with_reducible refine (impl_BallsLeft.calls kj3 t463 t464 t465 t500 t501 _ A19.out).mono ?_); rintro e w60 ⟨rfl, hb⟩; refine ⟨_, rfl, ?_⟩; have n0_ := bbU BK467 hb; have n1_ := bbU BK476 hb; have n2_ := bbU BK481 hb; have n3_ := bsU hb; clear BK467; clear BK476; clear BK481; clear HB; have BK467 := n0_; have BK476 := n1_; have BK481 := n2_; have HB := n3_; clear n0_ n1_ n2_ n3_; (try clear hb); (try clear hb2); (try clear hk); (try clear hi); obtain ⟨hcz61_0, hcz61_1, hcz61_2, hfz61_0, hfz61_1, hfz61_2⟩ := b3U BK467) | ((with_reducible refine gate_callee (f := 20) rfl ?_); refine goU (some 174) Tryz.func20 #[.agg #[.int .i64 t463, .bool t464, .int .i64 t465]] ?_; (with_reducible refine (spec_BallsLeft.calls kj3 t463 t464 t465 t502 t503 _ A20.out).mono ?_); rintro e w62 ⟨rfl, hb⟩; refine ⟨_, rfl, ?_⟩; have n0_ := bbU BK467 hb; have n1_ := bbU BK476 hb; have n2_ := bbU BK481 hb; have n3_ := bsU hb; clear BK467; clear BK476; clear BK481; clear HB; have BK467 := n0_; have BK476 := n1_; have BK481 := n2_; have HB := n3_; clear n0_ n1_ n2_ n3_; (try clear hb); (try clear hb2); (try clear hk); (try clear hi); obtain ⟨hcz63_0, hcz63_1, hcz63_2, hfz63_0, hfz63_1, hfz63_2⟩ := b3U BK467) | ((with_reducible refine gate_callee (f := 21) rfl ?_); refine goU (some 179) Tryz.func21 #[.agg #[.int .i64 t463, .bool t464, .int .i64 t465]] ?_; (with_reducible refine (impl_MissBall.calls kj3 t463 t464 t465 t504 t505 t506 t507 _ A21.out).mono ?_); rintro e w64 ⟨rfl, hb⟩; refine ⟨_, rfl, ?_⟩; have n0_ := bbU BK467 hb; have n1_ := bbU BK476 hb; have n2_ := bbU BK481 hb; have n3_ := bsU hb; clear BK467; clear BK476; clear BK481; clear HB; have BK467 := n0_; have BK476 := n1_; have BK481 := n2_; have HB := n3_; clear n0_ n1_ n2_ n3_; (try clear hb); (try clear hb2); (try clear hk); (try clear hi)) | ((with_reducible refine gate_dst (N := 37) rfl ?_); (try (refine gate_guard (by rfl) ?_; dsimp only)); refine bxU (cs := #[.int .i64 0, .bool false, .int .i64 0]) (t := 25) ?_; intro gb508 hg w65 hbox hb; have n0_ := bbU BK467 hb; have n1_ := bbU BK476 hb; have n2_ := bbU BK481 hb; have n3_ := bsU hb; have n4_ := Aside0.mk (hbox); have n5_ := geU hg; have n6_ := geU hg; have n7_ := neU BK467 hg; have n8_ := enU BK467 hg; have n9_ := neU BK476 hg; have n10_ := enU BK476 hg; have n11_ := neU BK481 hg; have n12_ := enU BK481 hg; clear BK467; clear BK476; clear BK481; clear HB; have BK467 := n0_; have BK476 := n1_; have BK481 := n2_; have HB := n3_; have BK508 := n4_; have GW508 := n5_; have GE508 := n6_; have NB467_508 := n7_; have NB508_467 := n8_; have NB476_508 := n9_; have NB508_476 := n10_; have NB481_508 := n11_; have NB508_481 := n12_; clear n0_ n1_ n2_ n3_ n4_ n5_ n6_ n7_ n8_ n9_ n10_ n11_ n12_; clear hb hbox hg; have hnb66 := NB508_467.out; have hnc66 := NB467_508.out; have hnb67 := NB508_476.out; have hnc67 := NB476_508.out; have hnb68 := NB508_481.out; have hnc68 := NB481_508.out; obtain ⟨hcz69_0, hcz69_1, hcz69_2, hfz69_0, hfz69_1, hfz69_2⟩ := b3U BK508; obtain ⟨hcz70_0, hcz70_1, hcz70_2, hfz70_0, hfz70_1, hfz70_2⟩ := b3U BK467) | ((with_reducible refine gate_callee (f := 22) rfl ?_); refine goU (some 184) Tryz.func22 #[.agg #[.int .i64 t463, .bool t464, .int .i64 t465]] ?_; (with_reducible refine (spec_MissBall.calls t463 t464 t465 t509 t510 t511 t512 _ A22.out).mono ?_); rintro e w71 ⟨rfl, hb⟩; refine ⟨_, rfl, ?_⟩; have n0_ := bbU BK467 hb; have n1_ := bbU BK476 hb; have n2_ := bbU BK481 hb; have n3_ := Aside0.mk (blk_below (g := gb508) (o := .cells #[.int .i64 t504, .bool t505, .int .i64 t506] 25 (0, 0)) bkU hb); have n4_ := bsU hb; clear BK467; clear BK476; clear BK481; clear BK508; clear HB; have BK467 := n0_; have BK476 := n1_; have BK481 := n2_; have BK508 := n3_; have HB := n4_; clear n0_ n1_ n2_ n3_ n4_; (try clear hb); (try clear hb2); (try clear hk); (try clear hi)) | ((with_reducible refine gate_dst (N := 39) rfl ?_); (try (refine gate_guard (by rfl) ?_; dsimp only)); refine bxU (cs := #[.int .i64 0, .bool false, .int .i64 0]) (t := 25) ?_; intro gb513 hg w72 hbox hb; have n0_ := bbU BK467 hb; have n1_ := bbU BK476 hb; have n2_ := bbU BK481 hb; have n3_ := bbU BK508 hb; have n4_ := bsU hb; have n5_ := Aside0.mk (hbox); have n6_ := geU hg; have n7_ := geU hg; have n8_ := neU BK467 hg; have n9_ := enU BK467 hg; have n10_ := neU BK476 hg; have n11_ := enU BK476 hg; have n12_ := neU BK481 hg; have n13_ := enU BK481 hg; have n14_ := neU BK508 hg; have n15_ := enU BK508 hg; clear BK467; clear BK476; clear BK481; clear BK508; clear HB; have BK467 := n0_; have BK476 := n1_; have BK481 := n2_; have BK508 := n3_; have HB := n4_; have BK513 := n5_; have GW513 := n6_; have GE513 := n7_; have NB467_513 := n8_; have NB513_467 := n9_; have NB476_513 := n10_; have NB513_476 := n11_; have NB481_513 := n12_; have NB513_481 := n13_; have NB508_513 := n14_; have NB513_508 := n15_; clear n0_ n1_ n2_ n3_ n4_ n5_ n6_ n7_ n8_ n9_ n10_ n11_ n12_ n13_ n14_ n15_; clear hb hbox hg; have hnb73 := NB513_467.out; have hnc73 := NB467_513.out; have hnb74 := NB513_476.out; have hnc74 := NB476_513.out; have hnb75 := NB513_481.out; have hnc75 := NB481_513.out; have hnb76 := NB513_508.out; have hnc76 := NB508_513.out; obtain ⟨hcz77_0, hcz77_1, hcz77_2, hfz77_0, hfz77_1, hfz77_2⟩ := b3U BK513; obtain ⟨hcz78_0, hcz78_1, hcz78_2, hfz78_0, hfz78_1, hfz78_2⟩ := b3U BK467) | ((with_reducible refine gate_callee (f := 23) rfl ?_); refine goU (some 189) Tryz.func23 #[.agg #[.int .i64 t463, .bool t464, .int .i64 t465]] ?_; (with_reducible refine (impl_FrameText.calls kj3 t463 t464 t465 t514 t515 _ A23.out).mono ?_); rintro e w79 ⟨rfl, hb⟩; refine ⟨_, rfl, ?_⟩; have n0_ := bbU BK467 hb; have n1_ := bbU BK476 hb; have n2_ := bbU BK481 hb; have n3_ := bbU BK508 hb; have n4_ := Aside0.mk (blk_below (g := gb513) (o := .cells #[.int .i64 t509, .bool t510, .int .i64 t511] 25 (0, 0)) bkU hb); have n5_ := bsU hb; clear BK467; clear BK476; clear BK481; clear BK508; clear BK513; clear HB; have BK467 := n0_; have BK476 := n1_; have BK481 := n2_; have BK508 := n3_; have BK513 := n4_; have HB := n5_; clear n0_ n1_ n2_ n3_ n4_ n5_; (try clear hb); (try clear hb2); (try clear hk); (try clear hi); obtain ⟨hcz80_0, hcz80_1, hcz80_2, hfz80_0, hfz80_1, hfz80_2⟩ := b3U BK467) | ((with_reducible refine gate_callee (f := 24) rfl ?_); refine goU (some 194) Tryz.func24 #[.agg #[.int .i64 t463, .bool t464, .int .i64 t465]] ?_; (with_reducible refine (spec_FrameText.calls kj3 t463 t464 t465 t516 t517 _ A24.out).mono ?_); rintro e w81 ⟨rfl, hb⟩; refine ⟨_, rfl, ?_⟩; have n0_ := bbU BK467 hb; have n1_ := bbU BK476 hb; have n2_ := bbU BK481 hb; have n3_ := bbU BK508 hb; have n4_ := bbU BK513 hb; have n5_ := bsU hb; clear BK467; clear BK476; clear BK481; clear BK508; clear BK513; clear HB; have BK467 := n0_; have BK476 := n1_; have BK481 := n2_; have BK508 := n3_; have BK513 := n4_; have HB := n5_; clear n0_ n1_ n2_ n3_ n4_ n5_; (try clear hb); (try clear hb2); (try clear hk); (try clear hi)))
   (try simp only [Act.put, List.setIfInBounds_toArray, List.set_cons_zero, List.set_cons_succ])
   go_cut [345] from 9999 to 9999 (fun v345 wc => ∃ (kq : Nat) (x345_24 : Bool), v345 = .bool x345_24 ∧ Aside0 (laws_FnFramesPotted.j1 kq l1 t466 t469 t475 t482 t486 t487 t492 t496 t500 t514 x345_24 t463 t464 t465 t472 t473 t474 t504 t505 t506 = some r) ∧ Aside0 (kq ≤ kj3) ∧ Aside0 (wc.heap[gb467]? = some (.cells #[.int .i64 t463, .bool t464, .int .i64 t465] 25 (0, 0))) ∧ Aside0 (wc.heap[gb476]? = some (.cells #[.int .i64 t472, .bool t473, .int .i64 t474] 25 (0, 0))) ∧ Aside0 (wc.heap[gb481]? = some (.cells #[.int .i64 t477, .bool t478, .int .i64 t479] 25 (0, 0))) ∧ Aside0 (wc.heap[gb508]? = some (.cells #[.int .i64 t504, .bool t505, .int .i64 t506] 25 (0, 0))) ∧ Aside0 (wc.heap[gb513]? = some (.cells #[.int .i64 t509, .bool t510, .int .i64 t511] 25 (0, 0))) ∧ Aside0 (Below w.heap.size w wc))
   case first => as_aux_lemma =>
    have H := HC25.out
    clear HC25
    by_cases c82 : (t469 != t471) = true
    ·rw [if_pos c82] at H
     have c82b0 : (t469 != t471) = true := c82
     (try (have c82b1 : decide (t469 = t471) = false := by simpa using c82))
     (try (have c82b2 : (t469 == t471) = false := by simpa using c82))
     (try (have c82b3 : ¬ (t469 = t471) := by simpa using c82))
     clear c82
     (first | rw [c82b0] | (simp only [i64_w, i32_w]; rw [c82b0]) | skip)
     exact absurd H (by simp)
    rw [if_neg c82] at H
    have c82b0 : (t469 != t471) = false := by simpa using c82
    (try (have c82b1 : decide (t469 = t471) = true := by simpa using c82))
    (try (have c82b2 : (t469 == t471) = true := by simpa using c82))
    clear c82
    (first | rw [c82b0] | (simp only [i64_w, i32_w]; rw [c82b0]) | skip)
    by_cases c83 : (t468 != t470) = true
    ·rw [if_pos c83] at H
     have c83b0 : (t468 != t470) = true := c83
     (try (have c83b1 : decide (t468 = t470) = false := by simpa using c83))
     (try (have c83b2 : (t468 == t470) = false := by simpa using c83))
     (try (have c83b3 : ¬ (t468 = t470) := by simpa using c83))
     clear c83
     exact absurd H (by simp)
    rw [if_neg c83] at H
    have c83b0 : (t468 != t470) = false := by simpa using c83
    (try (have c83b1 : decide (t468 = t470) = true := by simpa using c83))
    (try (have c83b2 : (t468 == t470) = true := by simpa using c83))
    clear c83
    by_cases c84 : (t475 != t480) = true
    ·rw [if_pos c84] at H
     have c84b0 : (t475 != t480) = true := c84
     (try (have c84b1 : decide (t475 = t480) = false := by simpa using c84))
     (try (have c84b2 : (t475 == t480) = false := by simpa using c84))
     (try (have c84b3 : ¬ (t475 = t480) := by simpa using c84))
     clear c84
     exact absurd H (by simp)
    rw [if_neg c84] at H
    have c84b0 : (t475 != t480) = false := by simpa using c84
    (try (have c84b1 : decide (t475 = t480) = true := by simpa using c84))
    (try (have c84b2 : (t475 == t480) = true := by simpa using c84))
    clear c84
    by_cases c85 : (!(t472 == t477) || (!(t473 == t478) || (!(t474 == t479)))) = true
    ·rw [if_pos c85] at H
     have c85b0 : (!(t472 == t477) || (!(t473 == t478) || (!(t474 == t479)))) = true := c85
     clear c85
     exact absurd H (by simp)
    rw [if_neg c85] at H
    have c85b0 : (!(t472 == t477) || (!(t473 == t478) || (!(t474 == t479)))) = false := by simpa using c85
    clear c85
    by_cases c86 : (t483 != t485) = true
    ·rw [if_pos c86] at H
     have c86b0 : (t483 != t485) = true := c86
     (try (have c86b1 : decide (t483 = t485) = false := by simpa using c86))
     (try (have c86b2 : (t483 == t485) = false := by simpa using c86))
     (try (have c86b3 : ¬ (t483 = t485) := by simpa using c86))
     clear c86
     exact absurd H (by simp)
    rw [if_neg c86] at H
    have c86b0 : (t483 != t485) = false := by simpa using c86
    (try (have c86b1 : decide (t483 = t485) = true := by simpa using c86))
    (try (have c86b2 : (t483 == t485) = true := by simpa using c86))
    clear c86
    by_cases c87 : t482.toList = t484.toList
    rotate_left
    ·rw [if_neg c87] at H
     have c87b0 : (t482.toList == t484.toList) = false := beq_eq_false_iff_ne.mpr c87
     have c87b1 : (t482.toList != t484.toList) = true := bne_iff_ne.mpr c87
     exact absurd H (by simp)
    rw [if_pos c87] at H
    have c87b0 : (t482.toList == t484.toList) = true := beq_iff_eq.mpr c87
    have c87b1 : (t482.toList != t484.toList) = false := bne_eq_false_iff_eq.mpr c87
    clear c87
    by_cases c88 : (t488 != t491) = true
    ·rw [if_pos c88] at H
     have c88b0 : (t488 != t491) = true := c88
     (try (have c88b1 : decide (t488 = t491) = false := by simpa using c88))
     (try (have c88b2 : (t488 == t491) = false := by simpa using c88))
     (try (have c88b3 : ¬ (t488 = t491) := by simpa using c88))
     clear c88
     exact absurd H (by simp)
    rw [if_neg c88] at H
    have c88b0 : (t488 != t491) = false := by simpa using c88
    (try (have c88b1 : decide (t488 = t491) = true := by simpa using c88))
    (try (have c88b2 : (t488 == t491) = true := by simpa using c88))
    clear c88
    by_cases c89 : t486.toList = t489.toList
    rotate_left
    ·rw [if_neg c89] at H
     have c89b0 : (t486.toList == t489.toList) = false := beq_eq_false_iff_ne.mpr c89
     have c89b1 : (t486.toList != t489.toList) = true := bne_iff_ne.mpr c89
     exact absurd H (by simp)
    rw [if_pos c89] at H
    have c89b0 : (t486.toList == t489.toList) = true := beq_iff_eq.mpr c89
    have c89b1 : (t486.toList != t489.toList) = false := bne_eq_false_iff_eq.mpr c89
    clear c89
    by_cases c90 : t487 = t490
    rotate_left
    ·rw [if_neg c90] at H
     have c90b0 : (t487 == t490) = false := beq_eq_false_iff_ne.mpr c90
     have c90b1 : (t487 != t490) = true := bne_iff_ne.mpr c90
     exact absurd H (by simp)
    rw [if_pos c90] at H
    have c90b0 : (t487 == t490) = true := beq_iff_eq.mpr c90
    have c90b1 : (t487 != t490) = false := bne_eq_false_iff_eq.mpr c90
    clear c90
    by_cases c91 : (t493 != t495) = true
    ·rw [if_pos c91] at H
     have c91b0 : (t493 != t495) = true := c91
     (try (have c91b1 : decide (t493 = t495) = false := by simpa using c91))
     (try (have c91b2 : (t493 == t495) = false := by simpa using c91))
     (try (have c91b3 : ¬ (t493 = t495) := by simpa using c91))
     clear c91
     exact absurd H (by simp)
    rw [if_neg c91] at H
    have c91b0 : (t493 != t495) = false := by simpa using c91
    (try (have c91b1 : decide (t493 = t495) = true := by simpa using c91))
    (try (have c91b2 : (t493 == t495) = true := by simpa using c91))
    clear c91
    by_cases c92 : t492 = t494
    rotate_left
    ·rw [if_neg c92] at H
     have c92b0 : (t492 == t494) = false := beq_eq_false_iff_ne.mpr c92
     have c92b1 : (t492 != t494) = true := bne_iff_ne.mpr c92
     exact absurd H (by simp)
    rw [if_pos c92] at H
    have c92b0 : (t492 == t494) = true := beq_iff_eq.mpr c92
    have c92b1 : (t492 != t494) = false := bne_eq_false_iff_eq.mpr c92
    clear c92
    by_cases c93 : (t497 != t499) = true
    ·rw [if_pos c93] at H
     have c93b0 : (t497 != t499) = true := c93
     (try (have c93b1 : decide (t497 = t499) = false := by simpa using c93))
     (try (have c93b2 : (t497 == t499) = false := by simpa using c93))
     (try (have c93b3 : ¬ (t497 = t499) := by simpa using c93))
     clear c93
     exact absurd H (by simp)
    rw [if_neg c93] at H
    have c93b0 : (t497 != t499) = false := by simpa using c93
    (try (have c93b1 : decide (t497 = t499) = true := by simpa using c93))
    (try (have c93b2 : (t497 == t499) = true := by simpa using c93))
    clear c93
    by_cases c94 : t496 = t498
    rotate_left
    ·rw [if_neg c94] at H
     have c94b0 : (t496 == t498) = false := beq_eq_false_iff_ne.mpr c94
     have c94b1 : (t496 != t498) = true := bne_iff_ne.mpr c94
     exact absurd H (by simp)
    rw [if_pos c94] at H
    have c94b0 : (t496 == t498) = true := beq_iff_eq.mpr c94
    have c94b1 : (t496 != t498) = false := bne_eq_false_iff_eq.mpr c94
    clear c94
    by_cases c95 : (t501 != t503) = true
    ·rw [if_pos c95] at H
     have c95b0 : (t501 != t503) = true := c95
     (try (have c95b1 : decide (t501 = t503) = false := by simpa using c95))
     (try (have c95b2 : (t501 == t503) = false := by simpa using c95))
     (try (have c95b3 : ¬ (t501 = t503) := by simpa using c95))
     clear c95
     exact absurd H (by simp)
    rw [if_neg c95] at H
    have c95b0 : (t501 != t503) = false := by simpa using c95
    (try (have c95b1 : decide (t501 = t503) = true := by simpa using c95))
    (try (have c95b2 : (t501 == t503) = true := by simpa using c95))
    clear c95
    by_cases c96 : t500 = t502
    rotate_left
    ·rw [if_neg c96] at H
     have c96b0 : (t500 == t502) = false := beq_eq_false_iff_ne.mpr c96
     have c96b1 : (t500 != t502) = true := bne_iff_ne.mpr c96
     exact absurd H (by simp)
    rw [if_pos c96] at H
    have c96b0 : (t500 == t502) = true := beq_iff_eq.mpr c96
    have c96b1 : (t500 != t502) = false := bne_eq_false_iff_eq.mpr c96
    clear c96
    by_cases c97 : (t507 != t512) = true
    ·rw [if_pos c97] at H
     have c97b0 : (t507 != t512) = true := c97
     (try (have c97b1 : decide (t507 = t512) = false := by simpa using c97))
     (try (have c97b2 : (t507 == t512) = false := by simpa using c97))
     (try (have c97b3 : ¬ (t507 = t512) := by simpa using c97))
     clear c97
     exact absurd H (by simp)
    rw [if_neg c97] at H
    have c97b0 : (t507 != t512) = false := by simpa using c97
    (try (have c97b1 : decide (t507 = t512) = true := by simpa using c97))
    (try (have c97b2 : (t507 == t512) = true := by simpa using c97))
    clear c97
    by_cases c98 : (!(t504 == t509) || (!(t505 == t510) || (!(t506 == t511)))) = true
    ·rw [if_pos c98] at H
     have c98b0 : (!(t504 == t509) || (!(t505 == t510) || (!(t506 == t511)))) = true := c98
     clear c98
     exact absurd H (by simp)
    rw [if_neg c98] at H
    have c98b0 : (!(t504 == t509) || (!(t505 == t510) || (!(t506 == t511)))) = false := by simpa using c98
    clear c98
    by_cases c99 : (t515 != t517) = true
    ·rw [if_pos c99] at H
     have c99b0 : (t515 != t517) = true := c99
     (try (have c99b1 : decide (t515 = t517) = false := by simpa using c99))
     (try (have c99b2 : (t515 == t517) = false := by simpa using c99))
     (try (have c99b3 : ¬ (t515 = t517) := by simpa using c99))
     clear c99
     exact absurd H (by simp)
    rw [if_neg c99] at H
    have c99b0 : (t515 != t517) = false := by simpa using c99
    (try (have c99b1 : decide (t515 = t517) = true := by simpa using c99))
    (try (have c99b2 : (t515 == t517) = true := by simpa using c99))
    clear c99
    by_cases c100 : t514.toList = t516.toList
    rotate_left
    ·rw [if_neg c100] at H
     have c100b0 : (t514.toList == t516.toList) = false := beq_eq_false_iff_ne.mpr c100
     have c100b1 : (t514.toList != t516.toList) = true := bne_iff_ne.mpr c100
     exact absurd H (by simp)
    rw [if_pos c100] at H
    have c100b0 : (t514.toList == t516.toList) = true := beq_iff_eq.mpr c100
    have c100b1 : (t514.toList != t516.toList) = false := bne_eq_false_iff_eq.mpr c100
    clear c100
    replace H := Option.bind_eq_some_iff.mp H
    obtain ⟨t518, A1010, H⟩ := H
    (try dsimp only at H)
    have A101 := Aside0.mk A1010
    clear A1010
    by_cases c102 : (t469 != t518) = true
    ·rw [if_pos c102] at H
     have c102b0 : (t469 != t518) = true := c102
     (try (have c102b1 : decide (t469 = t518) = false := by simpa using c102))
     (try (have c102b2 : (t469 == t518) = false := by simpa using c102))
     (try (have c102b3 : ¬ (t469 = t518) := by simpa using c102))
     clear c102
     exact absurd H (by simp)
    rw [if_neg c102] at H
    have c102b0 : (t469 != t518) = false := by simpa using c102
    (try (have c102b1 : decide (t469 = t518) = true := by simpa using c102))
    (try (have c102b2 : (t469 == t518) = true := by simpa using c102))
    clear c102
    replace H := Option.bind_eq_some_iff.mp H
    obtain ⟨t519, A1030, H⟩ := H
    (try dsimp only at H)
    have A103 := Aside0.mk A1030
    clear A1030
    replace H := Option.bind_eq_some_iff.mp H
    obtain ⟨t520, A1040, H⟩ := H
    (try dsimp only at H)
    have A104 := Aside0.mk A1040
    clear A1040
    by_cases c105 : (t519 != t520) = true
    ·rw [if_pos c105] at H
     have c105b0 : (t519 != t520) = true := c105
     (try (have c105b1 : decide (t519 = t520) = false := by simpa using c105))
     (try (have c105b2 : (t519 == t520) = false := by simpa using c105))
     (try (have c105b3 : ¬ (t519 = t520) := by simpa using c105))
     clear c105
     exact absurd H (by simp)
    rw [if_neg c105] at H
    have c105b0 : (t519 != t520) = false := by simpa using c105
    (try (have c105b1 : decide (t519 = t520) = true := by simpa using c105))
    (try (have c105b2 : (t519 == t520) = true := by simpa using c105))
    clear c105
    by_cases c106 : t469 = true
    ·subst c106
     rw [if_pos rfl] at H
     by_cases c107 : (t475 != t468) = true
     ·rw [if_pos c107] at H
      have c107b0 : (t475 != t468) = true := c107
      (try (have c107b1 : decide (t475 = t468) = false := by simpa using c107))
      (try (have c107b2 : (t475 == t468) = false := by simpa using c107))
      (try (have c107b3 : ¬ (t475 = t468) := by simpa using c107))
      clear c107
      exact absurd H (by simp)
     rw [if_neg c107] at H
     have c107b0 : (t475 != t468) = false := by simpa using c107
     (try (have c107b1 : decide (t475 = t468) = true := by simpa using c107))
     (try (have c107b2 : (t475 == t468) = true := by simpa using c107))
     clear c107
     by_cases c108 : (t483 != true) = true
     ·rw [if_pos c108] at H
      have c108b0 : (t483 != true) = true := c108
      (try (have c108b1 : decide (t483 = true) = false := by simpa using c108))
      (try (have c108b2 : (t483 == true) = false := by simpa using c108))
      (try (have c108b3 : ¬ (t483 = true) := by simpa using c108))
      clear c108
      exact absurd H (by simp)
     rw [if_neg c108] at H
     have c108b0 : (t483 != true) = false := by simpa using c108
     (try (have c108b1 : decide (t483 = true) = true := by simpa using c108))
     (try (have c108b2 : (t483 == true) = true := by simpa using c108))
     clear c108
     by_cases c109 : (t488 != true) = true
     ·rw [if_pos c109] at H
      have c109b0 : (t488 != true) = true := c109
      (try (have c109b1 : decide (t488 = true) = false := by simpa using c109))
      (try (have c109b2 : (t488 == true) = false := by simpa using c109))
      (try (have c109b3 : ¬ (t488 = true) := by simpa using c109))
      clear c109
      exact absurd H (by simp)
     rw [if_neg c109] at H
     have c109b0 : (t488 != true) = false := by simpa using c109
     (try (have c109b1 : decide (t488 = true) = true := by simpa using c109))
     (try (have c109b2 : (t488 == true) = true := by simpa using c109))
     clear c109
     by_cases c110 : (t493 != true) = true
     ·rw [if_pos c110] at H
      have c110b0 : (t493 != true) = true := c110
      (try (have c110b1 : decide (t493 = true) = false := by simpa using c110))
      (try (have c110b2 : (t493 == true) = false := by simpa using c110))
      (try (have c110b3 : ¬ (t493 = true) := by simpa using c110))
      clear c110
      exact absurd H (by simp)
     rw [if_neg c110] at H
     have c110b0 : (t493 != true) = false := by simpa using c110
     (try (have c110b1 : decide (t493 = true) = true := by simpa using c110))
     (try (have c110b2 : (t493 == true) = true := by simpa using c110))
     clear c110
     by_cases c111 : (t497 != true) = true
     ·rw [if_pos c111] at H
      have c111b0 : (t497 != true) = true := c111
      (try (have c111b1 : decide (t497 = true) = false := by simpa using c111))
      (try (have c111b2 : (t497 == true) = false := by simpa using c111))
      (try (have c111b3 : ¬ (t497 = true) := by simpa using c111))
      clear c111
      exact absurd H (by simp)
     rw [if_neg c111] at H
     have c111b0 : (t497 != true) = false := by simpa using c111
     (try (have c111b1 : decide (t497 = true) = true := by simpa using c111))
     (try (have c111b2 : (t497 == true) = true := by simpa using c111))
     clear c111
     by_cases c112 : (t501 != true) = true
     ·rw [if_pos c112] at H
      have c112b0 : (t501 != true) = true := c112
      (try (have c112b1 : decide (t501 = true) = false := by simpa using c112))
      (try (have c112b2 : (t501 == true) = false := by simpa using c112))
      (try (have c112b3 : ¬ (t501 = true) := by simpa using c112))
      clear c112
      exact absurd H (by simp)
     rw [if_neg c112] at H
     have c112b0 : (t501 != true) = false := by simpa using c112
     (try (have c112b1 : decide (t501 = true) = true := by simpa using c112))
     (try (have c112b2 : (t501 == true) = true := by simpa using c112))
     clear c112
     by_cases c113 : (t507 != true) = true
     ·rw [if_pos c113] at H
      have c113b0 : (t507 != true) = true := c113
      (try (have c113b1 : decide (t507 = true) = false := by simpa using c113))
      (try (have c113b2 : (t507 == true) = false := by simpa using c113))
      (try (have c113b3 : ¬ (t507 = true) := by simpa using c113))
      clear c113
      exact absurd H (by simp)
     rw [if_neg c113] at H
     have c113b0 : (t507 != true) = false := by simpa using c113
     (try (have c113b1 : decide (t507 = true) = true := by simpa using c113))
     (try (have c113b2 : (t507 == true) = true := by simpa using c113))
     clear c113
     have H' := Aside0.mk H
     clear H
     try go_wp2
     have n0_ := Aside0.mk (blk_drew BK467.out)
     have n1_ := Aside0.mk (blk_drew BK476.out)
     have n2_ := Aside0.mk (blk_drew BK481.out)
     have n3_ := Aside0.mk (blk_drew BK508.out)
     have n4_ := Aside0.mk (blk_drew BK513.out)
     have n5_ := Aside0.mk (below_drew1 HB.out)
     clear BK467 BK476 BK481 BK508 BK513 HB
     have BK467 := n0_
     have BK476 := n1_
     have BK481 := n2_
     have BK508 := n3_
     have BK513 := n4_
     have HB := n5_
     clear n0_ n1_ n2_ n3_ n4_ n5_
     refine start_ (n := 149) (S := fun w' => w'.cell? ⟨gb476, 0, none⟩ = some (.int .i64 t472) ∧ w'.cell? ⟨gb476, 1, none⟩ = some (.bool t473) ∧ w'.cell? ⟨gb476, 2, none⟩ = some (.int .i64 t474) ∧ w'.cell? ⟨gb481, 0, none⟩ = some (.int .i64 t477) ∧ w'.cell? ⟨gb481, 1, none⟩ = some (.bool t478) ∧ w'.cell? ⟨gb481, 2, none⟩ = some (.int .i64 t479) ∧ w'.cell? ⟨gb508, 0, none⟩ = some (.int .i64 t504) ∧ w'.cell? ⟨gb508, 1, none⟩ = some (.bool t505) ∧ w'.cell? ⟨gb508, 2, none⟩ = some (.int .i64 t506) ∧ w'.cell? ⟨gb513, 0, none⟩ = some (.int .i64 t509) ∧ w'.cell? ⟨gb513, 1, none⟩ = some (.bool t510) ∧ w'.cell? ⟨gb513, 2, none⟩ = some (.int .i64 t511) ∧ w'.cell? ⟨gb467, 0, none⟩ = some (.int .i64 t463) ∧ w'.cell? ⟨gb467, 1, none⟩ = some (.bool t464) ∧ w'.cell? ⟨gb467, 2, none⟩ = some (.int .i64 t465)) (ds := []) #[false, false, false, false, false, false, false, false, false, false, false, false, false, false, false, false, false, false, false, false, false, false, false, false, false, false, false, false, false, false, false, false, false, false, false, false, false, false, false, false, false, false, false, false, false, false, false, false, false, false, false, false, false, false, false, false, false, false, false, false, false, false, false, false, false, false, false, false, false, false, false, false, false, false, false, false, false, false, false, false, false, false, false, false, false, false, false, false, false, false, false, false, false, false, false, false, false, false, false, false, false, false, false, false, false, false, false, false, false, false, false, false, false, false, false, false, false, false, false, false, false, false, false, false, false, false, false, false, false, false, false, false, false, false, false, false, false, false, false, false, false, false, false, false, false, false, false, false, false] (by kernel_rfl) rfl rfl ⟨(blk_cell BK476.out 0).trans rfl, (blk_cell BK476.out 1).trans rfl, (blk_cell BK476.out 2).trans rfl, (blk_cell BK481.out 0).trans rfl, (blk_cell BK481.out 1).trans rfl, (blk_cell BK481.out 2).trans rfl, (blk_cell BK508.out 0).trans rfl, (blk_cell BK508.out 1).trans rfl, (blk_cell BK508.out 2).trans rfl, (blk_cell BK513.out 0).trans rfl, (blk_cell BK513.out 1).trans rfl, (blk_cell BK513.out 2).trans rfl, (blk_cell BK467.out 0).trans rfl, (blk_cell BK467.out 1).trans rfl, (blk_cell BK467.out 2).trans rfl⟩ (fun hHeld => ?_); refine with_tabW laws_FnFramesPotted.tab22 laws_FnFramesPotted.bits22 (fun HT_ HW_ => ?_)
     generalize w81.drew = w114 at BK467 BK476 BK481 BK508 BK513 HB hHeld ⊢
     refine puU 0 197 HT_ ?_
     refine puU 1 198 HT_ ?_
     refine puU 2 199 HT_ ?_
     refine puU 3 200 HT_ ?_
     refine puU 4 201 HT_ ?_
     refine puU 5 202 HT_ ?_
     refine puU 6 203 HT_ ?_
     refine puU 7 204 HT_ ?_
     refine puU 8 205 HT_ ?_
     refine puU 9 206 HT_ ?_
     as_aux_lemma =>
      refine puU 10 207 HT_ ?_
      refine puU 11 208 HT_ ?_
      refine puU 12 209 HT_ ?_
      refine puU 13 210 HT_ ?_
      refine tkU 14 211 HT_ HW_ hHeld ?_
      refine tkU 15 212 HT_ HW_ hHeld ?_
      refine puU 16 213 HT_ ?_
      refine puU 17 214 HT_ ?_
      refine puU 18 215 HT_ ?_
      refine puU 19 216 HT_ ?_
      as_aux_lemma =>
       refine puU 20 217 HT_ ?_
       refine puU 21 218 HT_ ?_
       refine puU 22 219 HT_ ?_
       refine puU 23 220 HT_ ?_
       refine puU 24 221 HT_ ?_
       refine puU 25 222 HT_ ?_
       refine puU 26 223 HT_ ?_
       refine puU 27 224 HT_ ?_
       refine puU 28 225 HT_ ?_
       refine puU 29 226 HT_ ?_
       as_aux_lemma =>
        refine puU 30 227 HT_ ?_
        refine puU 31 228 HT_ ?_
        refine puU 32 229 HT_ ?_
        refine puU 33 230 HT_ ?_
        refine puU 34 231 HT_ ?_
        refine puU 35 232 HT_ ?_
        refine puU 36 233 HT_ ?_
        refine puU 37 234 HT_ ?_
        refine puU 38 235 HT_ ?_
        refine puU 39 236 HT_ ?_
        as_aux_lemma =>
         refine puU 40 237 HT_ ?_
         refine puU 41 238 HT_ ?_
         refine puU 42 239 HT_ ?_
         refine puU 43 240 HT_ ?_
         refine puU 44 241 HT_ ?_
         refine puU 45 242 HT_ ?_
         refine puU 46 243 HT_ ?_
         refine puU 47 244 HT_ ?_
         refine puU 48 245 HT_ ?_
         refine puU 49 246 HT_ ?_
         as_aux_lemma =>
          refine puU 50 247 HT_ ?_
          refine puU 51 248 HT_ ?_
          refine puU 52 249 HT_ ?_
          refine puU 53 250 HT_ ?_
          refine puU 54 251 HT_ ?_
          refine puU 55 252 HT_ ?_
          refine puU 56 253 HT_ ?_
          refine puU 57 254 HT_ ?_
          refine puU 58 255 HT_ ?_
          refine puU 59 256 HT_ ?_
          as_aux_lemma =>
           refine puU 60 257 HT_ ?_
           refine puU 61 258 HT_ ?_
           refine puU 62 259 HT_ ?_
           refine puU 63 260 HT_ ?_
           refine puU 64 261 HT_ ?_
           refine puU 65 262 HT_ ?_
           refine puU 66 263 HT_ ?_
           refine puU 67 264 HT_ ?_
           refine puU 68 265 HT_ ?_
           refine puU 69 266 HT_ ?_
           as_aux_lemma =>
            refine puU 70 267 HT_ ?_
            refine puU 71 268 HT_ ?_
            refine puU 72 269 HT_ ?_
            refine puU 73 270 HT_ ?_
            refine puU 74 271 HT_ ?_
            refine puU 75 272 HT_ ?_
            refine puU 76 273 HT_ ?_
            refine puU 77 274 HT_ ?_
            refine puU 78 275 HT_ ?_
            refine tkU 79 276 HT_ HW_ hHeld ?_
            as_aux_lemma =>
             refine tkU 80 277 HT_ HW_ hHeld ?_
             refine puU 81 278 HT_ ?_
             refine puU 82 279 HT_ ?_
             refine puU 83 280 HT_ ?_
             refine puU 84 281 HT_ ?_
             refine puU 85 282 HT_ ?_
             refine puU 86 283 HT_ ?_
             refine puU 87 284 HT_ ?_
             refine puU 88 285 HT_ ?_
             refine puU 89 286 HT_ ?_
             as_aux_lemma =>
              refine puU 90 287 HT_ ?_
              refine puU 91 288 HT_ ?_
              refine puU 92 289 HT_ ?_
              refine puU 93 290 HT_ ?_
              refine puU 94 291 HT_ ?_
              refine tkU 95 292 HT_ HW_ hHeld ?_
              refine onU 96 (some 293) HT_ (fun K hK => ?_)
              refine goes_ Tryz.func25 (by kernel_rfl) rfl #[.agg #[.int .i64 t463, .bool t464, .int .i64 t465]] (by rfl) rfl rfl arU ?_
              with_reducible refine (impl_IsFrame.calls kj3 t463 t464 t465 t518 _ A101.out).mono ?_
              rintro e w115 ⟨rfl, hb⟩
              refine ⟨_, rfl, ?_⟩
              have n0_ := bbU BK467 hb
              have n1_ := bbU BK476 hb
              have n2_ := bbU BK481 hb
              have n3_ := bbU BK508 hb
              have n4_ := bbU BK513 hb
              have n5_ := bsU hb
              clear BK467 BK476 BK481 BK508 BK513 HB
              have BK467 := n0_
              have BK476 := n1_
              have BK481 := n2_
              have BK508 := n3_
              have BK513 := n4_
              have HB := n5_
              clear n0_ n1_ n2_ n3_ n4_ n5_
              (try clear hb)
              refine hK.out _ _ ⟨(blk_cell BK476.out 0).trans rfl, (blk_cell BK476.out 1).trans rfl, (blk_cell BK476.out 2).trans rfl, (blk_cell BK481.out 0).trans rfl, (blk_cell BK481.out 1).trans rfl, (blk_cell BK481.out 2).trans rfl, (blk_cell BK508.out 0).trans rfl, (blk_cell BK508.out 1).trans rfl, (blk_cell BK508.out 2).trans rfl, (blk_cell BK513.out 0).trans rfl, (blk_cell BK513.out 1).trans rfl, (blk_cell BK513.out 2).trans rfl, (blk_cell BK467.out 0).trans rfl, (blk_cell BK467.out 1).trans rfl, (blk_cell BK467.out 2).trans rfl⟩ (fun hHeld => ?_)
              clear hK K
              refine norm_ (a' := ?_) ?_ ?_
              rotate_left
              ·show Act.put _ (some 293) _ = _
               simp only [Act.put, List.setIfInBounds_toArray, List.set_cons_zero, List.set_cons_succ, i64_w, i32_w]
               rfl
              refine puU 97 294 HT_ ?_
              refine puU 98 295 HT_ ?_
              refine puU 99 296 HT_ ?_
              refine tkU 100 297 HT_ HW_ hHeld ?_
              as_aux_lemma =>
               refine tkU 102 299 HT_ HW_ hHeld ?_
               refine onU 101 (some 298) HT_ (fun K hK => ?_)
               refine goes_ Tryz.func25 (by kernel_rfl) rfl #[.agg #[.int .i64 t463, .bool t464, .int .i64 t465]] (by rfl) rfl rfl arU ?_
               with_reducible refine (impl_IsFrame.calls kj3 t463 t464 t465 t519 _ A103.out).mono ?_
               rintro e w116 ⟨rfl, hb⟩
               refine ⟨_, rfl, ?_⟩
               have n0_ := bbU BK467 hb
               have n1_ := bbU BK476 hb
               have n2_ := bbU BK481 hb
               have n3_ := bbU BK508 hb
               have n4_ := bbU BK513 hb
               have n5_ := bsU hb
               clear BK467 BK476 BK481 BK508 BK513 HB
               have BK467 := n0_
               have BK476 := n1_
               have BK481 := n2_
               have BK508 := n3_
               have BK513 := n4_
               have HB := n5_
               clear n0_ n1_ n2_ n3_ n4_ n5_
               (try clear hb)
               refine hK.out _ _ ⟨(blk_cell BK476.out 0).trans rfl, (blk_cell BK476.out 1).trans rfl, (blk_cell BK476.out 2).trans rfl, (blk_cell BK481.out 0).trans rfl, (blk_cell BK481.out 1).trans rfl, (blk_cell BK481.out 2).trans rfl, (blk_cell BK508.out 0).trans rfl, (blk_cell BK508.out 1).trans rfl, (blk_cell BK508.out 2).trans rfl, (blk_cell BK513.out 0).trans rfl, (blk_cell BK513.out 1).trans rfl, (blk_cell BK513.out 2).trans rfl, (blk_cell BK467.out 0).trans rfl, (blk_cell BK467.out 1).trans rfl, (blk_cell BK467.out 2).trans rfl⟩ (fun hHeld => ?_)
               clear hK K
               refine norm_ (a' := ?_) ?_ ?_
               rotate_left
               ·show Act.put _ (some 298) _ = _
                simp only [Act.put, List.setIfInBounds_toArray, List.set_cons_zero, List.set_cons_succ, i64_w, i32_w]
                rfl
               refine onU 103 (some 300) HT_ (fun K hK => ?_)
               refine goes_ Tryz.func26 (by kernel_rfl) rfl #[.agg #[.int .i64 t463, .bool t464, .int .i64 t465]] (by rfl) rfl rfl arU ?_
               with_reducible refine (spec_IsFrame.calls t463 t464 t465 t520 _ A104.out).mono ?_
               rintro e w117 ⟨rfl, hb⟩
               refine ⟨_, rfl, ?_⟩
               have n0_ := bbU BK467 hb
               have n1_ := bbU BK476 hb
               have n2_ := bbU BK481 hb
               have n3_ := bbU BK508 hb
               have n4_ := bbU BK513 hb
               have n5_ := bsU hb
               clear BK467 BK476 BK481 BK508 BK513 HB
               have BK467 := n0_
               have BK476 := n1_
               have BK481 := n2_
               have BK508 := n3_
               have BK513 := n4_
               have HB := n5_
               clear n0_ n1_ n2_ n3_ n4_ n5_
               (try clear hb)
               refine hK.out _ _ ⟨(blk_cell BK476.out 0).trans rfl, (blk_cell BK476.out 1).trans rfl, (blk_cell BK476.out 2).trans rfl, (blk_cell BK481.out 0).trans rfl, (blk_cell BK481.out 1).trans rfl, (blk_cell BK481.out 2).trans rfl, (blk_cell BK508.out 0).trans rfl, (blk_cell BK508.out 1).trans rfl, (blk_cell BK508.out 2).trans rfl, (blk_cell BK513.out 0).trans rfl, (blk_cell BK513.out 1).trans rfl, (blk_cell BK513.out 2).trans rfl, (blk_cell BK467.out 0).trans rfl, (blk_cell BK467.out 1).trans rfl, (blk_cell BK467.out 2).trans rfl⟩ (fun hHeld => ?_)
               clear hK K
               refine norm_ (a' := ?_) ?_ ?_
               rotate_left
               ·show Act.put _ (some 300) _ = _
                simp only [Act.put, List.setIfInBounds_toArray, List.set_cons_zero, List.set_cons_succ, i64_w, i32_w]
                rfl
               refine puU 104 301 HT_ ?_
               refine puU 105 302 HT_ ?_
               refine puU 106 303 HT_ ?_
               refine puU 107 304 HT_ ?_
               refine puU 108 305 HT_ ?_
               refine puU 109 306 HT_ ?_
               refine puU 110 307 HT_ ?_
               refine puU 111 308 HT_ ?_
               refine puU 112 309 HT_ ?_
               as_aux_lemma =>
                refine puU 113 310 HT_ ?_
                refine puU 114 311 HT_ ?_
                refine puU 115 312 HT_ ?_
                refine puU 116 313 HT_ ?_
                refine puU 117 314 HT_ ?_
                refine puU 118 315 HT_ ?_
                refine puU 119 316 HT_ ?_
                refine puU 120 317 HT_ ?_
                refine puU 121 318 HT_ ?_
                refine puU 122 319 HT_ ?_
                as_aux_lemma =>
                 refine puU 123 320 HT_ ?_
                 refine puU 124 321 HT_ ?_
                 refine puU 125 322 HT_ ?_
                 refine puU 126 323 HT_ ?_
                 refine puU 127 324 HT_ ?_
                 refine puU 128 325 HT_ ?_
                 refine puU 129 326 HT_ ?_
                 refine puU 130 327 HT_ ?_
                 refine puU 131 328 HT_ ?_
                 refine puU 132 329 HT_ ?_
                 as_aux_lemma =>
                  refine puU 133 330 HT_ ?_
                  refine puU 134 331 HT_ ?_
                  refine puU 135 332 HT_ ?_
                  refine puU 136 333 HT_ ?_
                  refine puU 137 334 HT_ ?_
                  refine puU 138 335 HT_ ?_
                  refine puU 139 336 HT_ ?_
                  refine puU 140 337 HT_ ?_
                  refine puU 141 338 HT_ ?_
                  refine puU 142 339 HT_ ?_
                  as_aux_lemma =>
                   refine puU 143 340 HT_ ?_
                   refine puU 144 341 HT_ ?_
                   refine puU 145 342 HT_ ?_
                   refine puU 146 343 HT_ ?_
                   refine puU 147 344 HT_ ?_
                   refine puU 148 345 HT_ ?_
                   refine dnU HT_ ?_
                   try go_wp2
                   go_meet
                   case rel => exact ⟨_, ((t515 != true)), eqU, H', ⟨by have := HJ3.out; first | omega | exact Nat.le_refl _⟩, ⟨bkU⟩, ⟨bkU⟩, ⟨bkU⟩, ⟨bkU⟩, ⟨bkU⟩, ⟨hbU⟩⟩
    replace c106 := Bool.eq_false_iff.mpr c106
    subst c106
    rw [if_neg (show ¬ (false = true) by decide)] at H
    by_cases c118 : (t475 != false) = true
    ·rw [if_pos c118] at H
     have c118b0 : (t475 != false) = true := c118
     (try (have c118b1 : decide (t475 = false) = false := by simpa using c118))
     (try (have c118b2 : (t475 == false) = false := by simpa using c118))
     (try (have c118b3 : ¬ (t475 = false) := by simpa using c118))
     clear c118
     exact absurd H (by simp)
    rw [if_neg c118] at H
    have c118b0 : (t475 != false) = false := by simpa using c118
    (try (have c118b1 : decide (t475 = false) = true := by simpa using c118))
    (try (have c118b2 : (t475 == false) = true := by simpa using c118))
    clear c118
    by_cases c119 : (t483 != false) = true
    ·rw [if_pos c119] at H
     have c119b0 : (t483 != false) = true := c119
     (try (have c119b1 : decide (t483 = false) = false := by simpa using c119))
     (try (have c119b2 : (t483 == false) = false := by simpa using c119))
     (try (have c119b3 : ¬ (t483 = false) := by simpa using c119))
     clear c119
     exact absurd H (by simp)
    rw [if_neg c119] at H
    have c119b0 : (t483 != false) = false := by simpa using c119
    (try (have c119b1 : decide (t483 = false) = true := by simpa using c119))
    (try (have c119b2 : (t483 == false) = true := by simpa using c119))
    clear c119
    by_cases c120 : (t488 != false) = true
    ·rw [if_pos c120] at H
     have c120b0 : (t488 != false) = true := c120
     (try (have c120b1 : decide (t488 = false) = false := by simpa using c120))
     (try (have c120b2 : (t488 == false) = false := by simpa using c120))
     (try (have c120b3 : ¬ (t488 = false) := by simpa using c120))
     clear c120
     exact absurd H (by simp)
    rw [if_neg c120] at H
    have c120b0 : (t488 != false) = false := by simpa using c120
    (try (have c120b1 : decide (t488 = false) = true := by simpa using c120))
    (try (have c120b2 : (t488 == false) = true := by simpa using c120))
    clear c120
    by_cases c121 : (t493 != false) = true
    ·rw [if_pos c121] at H
     have c121b0 : (t493 != false) = true := c121
     (try (have c121b1 : decide (t493 = false) = false := by simpa using c121))
     (try (have c121b2 : (t493 == false) = false := by simpa using c121))
     (try (have c121b3 : ¬ (t493 = false) := by simpa using c121))
     clear c121
     exact absurd H (by simp)
    rw [if_neg c121] at H
    have c121b0 : (t493 != false) = false := by simpa using c121
    (try (have c121b1 : decide (t493 = false) = true := by simpa using c121))
    (try (have c121b2 : (t493 == false) = true := by simpa using c121))
    clear c121
    by_cases c122 : (t497 != false) = true
    ·rw [if_pos c122] at H
     have c122b0 : (t497 != false) = true := c122
     (try (have c122b1 : decide (t497 = false) = false := by simpa using c122))
     (try (have c122b2 : (t497 == false) = false := by simpa using c122))
     (try (have c122b3 : ¬ (t497 = false) := by simpa using c122))
     clear c122
     exact absurd H (by simp)
    rw [if_neg c122] at H
    have c122b0 : (t497 != false) = false := by simpa using c122
    (try (have c122b1 : decide (t497 = false) = true := by simpa using c122))
    (try (have c122b2 : (t497 == false) = true := by simpa using c122))
    clear c122
    by_cases c123 : (t501 != false) = true
    ·rw [if_pos c123] at H
     have c123b0 : (t501 != false) = true := c123
     (try (have c123b1 : decide (t501 = false) = false := by simpa using c123))
     (try (have c123b2 : (t501 == false) = false := by simpa using c123))
     (try (have c123b3 : ¬ (t501 = false) := by simpa using c123))
     clear c123
     exact absurd H (by simp)
    rw [if_neg c123] at H
    have c123b0 : (t501 != false) = false := by simpa using c123
    (try (have c123b1 : decide (t501 = false) = true := by simpa using c123))
    (try (have c123b2 : (t501 == false) = true := by simpa using c123))
    clear c123
    by_cases c124 : (t507 != false) = true
    ·rw [if_pos c124] at H
     have c124b0 : (t507 != false) = true := c124
     (try (have c124b1 : decide (t507 = false) = false := by simpa using c124))
     (try (have c124b2 : (t507 == false) = false := by simpa using c124))
     (try (have c124b3 : ¬ (t507 = false) := by simpa using c124))
     clear c124
     exact absurd H (by simp)
    rw [if_neg c124] at H
    have c124b0 : (t507 != false) = false := by simpa using c124
    (try (have c124b1 : decide (t507 = false) = true := by simpa using c124))
    (try (have c124b2 : (t507 == false) = true := by simpa using c124))
    clear c124
    have H' := Aside0.mk H
    clear H
    try go_wp2
    have n0_ := Aside0.mk (blk_drew BK467.out)
    have n1_ := Aside0.mk (blk_drew BK476.out)
    have n2_ := Aside0.mk (blk_drew BK481.out)
    have n3_ := Aside0.mk (blk_drew BK508.out)
    have n4_ := Aside0.mk (blk_drew BK513.out)
    have n5_ := Aside0.mk (below_drew1 HB.out)
    clear BK467 BK476 BK481 BK508 BK513 HB
    have BK467 := n0_
    have BK476 := n1_
    have BK481 := n2_
    have BK508 := n3_
    have BK513 := n4_
    have HB := n5_
    clear n0_ n1_ n2_ n3_ n4_ n5_
    refine start_ (n := 149) (S := fun w' => w'.cell? ⟨gb476, 0, none⟩ = some (.int .i64 t472) ∧ w'.cell? ⟨gb476, 1, none⟩ = some (.bool t473) ∧ w'.cell? ⟨gb476, 2, none⟩ = some (.int .i64 t474) ∧ w'.cell? ⟨gb481, 0, none⟩ = some (.int .i64 t477) ∧ w'.cell? ⟨gb481, 1, none⟩ = some (.bool t478) ∧ w'.cell? ⟨gb481, 2, none⟩ = some (.int .i64 t479) ∧ w'.cell? ⟨gb508, 0, none⟩ = some (.int .i64 t504) ∧ w'.cell? ⟨gb508, 1, none⟩ = some (.bool t505) ∧ w'.cell? ⟨gb508, 2, none⟩ = some (.int .i64 t506) ∧ w'.cell? ⟨gb513, 0, none⟩ = some (.int .i64 t509) ∧ w'.cell? ⟨gb513, 1, none⟩ = some (.bool t510) ∧ w'.cell? ⟨gb513, 2, none⟩ = some (.int .i64 t511) ∧ w'.cell? ⟨gb467, 0, none⟩ = some (.int .i64 t463) ∧ w'.cell? ⟨gb467, 1, none⟩ = some (.bool t464) ∧ w'.cell? ⟨gb467, 2, none⟩ = some (.int .i64 t465)) (ds := []) #[false, false, false, false, false, false, false, false, false, false, false, false, false, false, false, false, false, false, false, false, false, false, false, false, false, false, false, false, false, false, false, false, false, false, false, false, false, false, false, false, false, false, false, false, false, false, false, false, false, false, false, false, false, false, false, false, false, false, false, false, false, false, false, false, false, false, false, false, false, false, false, false, false, false, false, false, false, false, false, false, false, false, false, false, false, false, false, false, false, false, false, false, false, false, false, false, false, false, false, false, false, false, false, false, false, false, false, false, false, false, false, false, false, false, false, false, false, false, false, false, false, false, false, false, false, false, false, false, false, false, false, false, false, false, false, false, false, false, false, false, false, false, false, false, false, false, false, false, false] (by kernel_rfl) rfl rfl ⟨(blk_cell BK476.out 0).trans rfl, (blk_cell BK476.out 1).trans rfl, (blk_cell BK476.out 2).trans rfl, (blk_cell BK481.out 0).trans rfl, (blk_cell BK481.out 1).trans rfl, (blk_cell BK481.out 2).trans rfl, (blk_cell BK508.out 0).trans rfl, (blk_cell BK508.out 1).trans rfl, (blk_cell BK508.out 2).trans rfl, (blk_cell BK513.out 0).trans rfl, (blk_cell BK513.out 1).trans rfl, (blk_cell BK513.out 2).trans rfl, (blk_cell BK467.out 0).trans rfl, (blk_cell BK467.out 1).trans rfl, (blk_cell BK467.out 2).trans rfl⟩ (fun hHeld => ?_); refine with_tabW laws_FnFramesPotted.tab22 laws_FnFramesPotted.bits22 (fun HT_ HW_ => ?_)
    generalize w81.drew = w125 at BK467 BK476 BK481 BK508 BK513 HB hHeld ⊢
    refine puU 0 197 HT_ ?_
    refine puU 1 198 HT_ ?_
    refine puU 2 199 HT_ ?_
    refine puU 3 200 HT_ ?_
    refine puU 4 201 HT_ ?_
    refine puU 5 202 HT_ ?_
    refine puU 6 203 HT_ ?_
    refine puU 7 204 HT_ ?_
    refine puU 8 205 HT_ ?_
    refine puU 9 206 HT_ ?_
    as_aux_lemma =>
     refine puU 10 207 HT_ ?_
     refine puU 11 208 HT_ ?_
     refine puU 12 209 HT_ ?_
     refine puU 13 210 HT_ ?_
     refine tkU 14 211 HT_ HW_ hHeld ?_
     refine tkU 15 212 HT_ HW_ hHeld ?_
     refine puU 16 213 HT_ ?_
     refine puU 17 214 HT_ ?_
     refine puU 18 215 HT_ ?_
     refine puU 19 216 HT_ ?_
     as_aux_lemma =>
      refine puU 20 217 HT_ ?_
      refine puU 21 218 HT_ ?_
      refine puU 22 219 HT_ ?_
      refine puU 23 220 HT_ ?_
      refine puU 24 221 HT_ ?_
      refine puU 25 222 HT_ ?_
      refine puU 26 223 HT_ ?_
      refine puU 27 224 HT_ ?_
      refine puU 28 225 HT_ ?_
      refine puU 29 226 HT_ ?_
      as_aux_lemma =>
       refine puU 30 227 HT_ ?_
       refine puU 31 228 HT_ ?_
       refine puU 32 229 HT_ ?_
       refine puU 33 230 HT_ ?_
       refine puU 34 231 HT_ ?_
       refine puU 35 232 HT_ ?_
       refine puU 36 233 HT_ ?_
       refine puU 37 234 HT_ ?_
       refine puU 38 235 HT_ ?_
       refine puU 39 236 HT_ ?_
       as_aux_lemma =>
        refine puU 40 237 HT_ ?_
        refine puU 41 238 HT_ ?_
        refine puU 42 239 HT_ ?_
        refine puU 43 240 HT_ ?_
        refine puU 44 241 HT_ ?_
        refine puU 45 242 HT_ ?_
        refine puU 46 243 HT_ ?_
        refine puU 47 244 HT_ ?_
        refine puU 48 245 HT_ ?_
        refine puU 49 246 HT_ ?_
        as_aux_lemma =>
         refine puU 50 247 HT_ ?_
         refine puU 51 248 HT_ ?_
         refine puU 52 249 HT_ ?_
         refine puU 53 250 HT_ ?_
         refine puU 54 251 HT_ ?_
         refine puU 55 252 HT_ ?_
         refine puU 56 253 HT_ ?_
         refine puU 57 254 HT_ ?_
         refine puU 58 255 HT_ ?_
         refine puU 59 256 HT_ ?_
         as_aux_lemma =>
          refine puU 60 257 HT_ ?_
          refine puU 61 258 HT_ ?_
          refine puU 62 259 HT_ ?_
          refine puU 63 260 HT_ ?_
          refine puU 64 261 HT_ ?_
          refine puU 65 262 HT_ ?_
          refine puU 66 263 HT_ ?_
          refine puU 67 264 HT_ ?_
          refine puU 68 265 HT_ ?_
          refine puU 69 266 HT_ ?_
          as_aux_lemma =>
           refine puU 70 267 HT_ ?_
           refine puU 71 268 HT_ ?_
           refine puU 72 269 HT_ ?_
           refine puU 73 270 HT_ ?_
           refine puU 74 271 HT_ ?_
           refine puU 75 272 HT_ ?_
           refine puU 76 273 HT_ ?_
           refine puU 77 274 HT_ ?_
           refine puU 78 275 HT_ ?_
           refine tkU 79 276 HT_ HW_ hHeld ?_
           as_aux_lemma =>
            refine tkU 80 277 HT_ HW_ hHeld ?_
            refine puU 81 278 HT_ ?_
            refine puU 82 279 HT_ ?_
            refine puU 83 280 HT_ ?_
            refine puU 84 281 HT_ ?_
            refine puU 85 282 HT_ ?_
            refine puU 86 283 HT_ ?_
            refine puU 87 284 HT_ ?_
            refine puU 88 285 HT_ ?_
            refine puU 89 286 HT_ ?_
            as_aux_lemma =>
             refine puU 90 287 HT_ ?_
             refine puU 91 288 HT_ ?_
             refine puU 92 289 HT_ ?_
             refine puU 93 290 HT_ ?_
             refine puU 94 291 HT_ ?_
             refine tkU 95 292 HT_ HW_ hHeld ?_
             refine onU 96 (some 293) HT_ (fun K hK => ?_)
             refine goes_ Tryz.func25 (by kernel_rfl) rfl #[.agg #[.int .i64 t463, .bool t464, .int .i64 t465]] (by rfl) rfl rfl arU ?_
             with_reducible refine (impl_IsFrame.calls kj3 t463 t464 t465 t518 _ A101.out).mono ?_
             rintro e w126 ⟨rfl, hb⟩
             refine ⟨_, rfl, ?_⟩
             have n0_ := bbU BK467 hb
             have n1_ := bbU BK476 hb
             have n2_ := bbU BK481 hb
             have n3_ := bbU BK508 hb
             have n4_ := bbU BK513 hb
             have n5_ := bsU hb
             clear BK467 BK476 BK481 BK508 BK513 HB
             have BK467 := n0_
             have BK476 := n1_
             have BK481 := n2_
             have BK508 := n3_
             have BK513 := n4_
             have HB := n5_
             clear n0_ n1_ n2_ n3_ n4_ n5_
             (try clear hb)
             refine hK.out _ _ ⟨(blk_cell BK476.out 0).trans rfl, (blk_cell BK476.out 1).trans rfl, (blk_cell BK476.out 2).trans rfl, (blk_cell BK481.out 0).trans rfl, (blk_cell BK481.out 1).trans rfl, (blk_cell BK481.out 2).trans rfl, (blk_cell BK508.out 0).trans rfl, (blk_cell BK508.out 1).trans rfl, (blk_cell BK508.out 2).trans rfl, (blk_cell BK513.out 0).trans rfl, (blk_cell BK513.out 1).trans rfl, (blk_cell BK513.out 2).trans rfl, (blk_cell BK467.out 0).trans rfl, (blk_cell BK467.out 1).trans rfl, (blk_cell BK467.out 2).trans rfl⟩ (fun hHeld => ?_)
             clear hK K
             refine norm_ (a' := ?_) ?_ ?_
             rotate_left
             ·show Act.put _ (some 293) _ = _
              simp only [Act.put, List.setIfInBounds_toArray, List.set_cons_zero, List.set_cons_succ, i64_w, i32_w]
              rfl
             refine puU 97 294 HT_ ?_
             refine puU 98 295 HT_ ?_
             refine puU 99 296 HT_ ?_
             refine tkU 100 297 HT_ HW_ hHeld ?_
             as_aux_lemma =>
              refine tkU 102 299 HT_ HW_ hHeld ?_
              refine onU 101 (some 298) HT_ (fun K hK => ?_)
              refine goes_ Tryz.func25 (by kernel_rfl) rfl #[.agg #[.int .i64 t463, .bool t464, .int .i64 t465]] (by rfl) rfl rfl arU ?_
              with_reducible refine (impl_IsFrame.calls kj3 t463 t464 t465 t519 _ A103.out).mono ?_
              rintro e w127 ⟨rfl, hb⟩
              refine ⟨_, rfl, ?_⟩
              have n0_ := bbU BK467 hb
              have n1_ := bbU BK476 hb
              have n2_ := bbU BK481 hb
              have n3_ := bbU BK508 hb
              have n4_ := bbU BK513 hb
              have n5_ := bsU hb
              clear BK467 BK476 BK481 BK508 BK513 HB
              have BK467 := n0_
              have BK476 := n1_
              have BK481 := n2_
              have BK508 := n3_
              have BK513 := n4_
              have HB := n5_
              clear n0_ n1_ n2_ n3_ n4_ n5_
              (try clear hb)
              refine hK.out _ _ ⟨(blk_cell BK476.out 0).trans rfl, (blk_cell BK476.out 1).trans rfl, (blk_cell BK476.out 2).trans rfl, (blk_cell BK481.out 0).trans rfl, (blk_cell BK481.out 1).trans rfl, (blk_cell BK481.out 2).trans rfl, (blk_cell BK508.out 0).trans rfl, (blk_cell BK508.out 1).trans rfl, (blk_cell BK508.out 2).trans rfl, (blk_cell BK513.out 0).trans rfl, (blk_cell BK513.out 1).trans rfl, (blk_cell BK513.out 2).trans rfl, (blk_cell BK467.out 0).trans rfl, (blk_cell BK467.out 1).trans rfl, (blk_cell BK467.out 2).trans rfl⟩ (fun hHeld => ?_)
              clear hK K
              refine norm_ (a' := ?_) ?_ ?_
              rotate_left
              ·show Act.put _ (some 298) _ = _
               simp only [Act.put, List.setIfInBounds_toArray, List.set_cons_zero, List.set_cons_succ, i64_w, i32_w]
               rfl
              refine onU 103 (some 300) HT_ (fun K hK => ?_)
              refine goes_ Tryz.func26 (by kernel_rfl) rfl #[.agg #[.int .i64 t463, .bool t464, .int .i64 t465]] (by rfl) rfl rfl arU ?_
              with_reducible refine (spec_IsFrame.calls t463 t464 t465 t520 _ A104.out).mono ?_
              rintro e w128 ⟨rfl, hb⟩
              refine ⟨_, rfl, ?_⟩
              have n0_ := bbU BK467 hb
              have n1_ := bbU BK476 hb
              have n2_ := bbU BK481 hb
              have n3_ := bbU BK508 hb
              have n4_ := bbU BK513 hb
              have n5_ := bsU hb
              clear BK467 BK476 BK481 BK508 BK513 HB
              have BK467 := n0_
              have BK476 := n1_
              have BK481 := n2_
              have BK508 := n3_
              have BK513 := n4_
              have HB := n5_
              clear n0_ n1_ n2_ n3_ n4_ n5_
              (try clear hb)
              refine hK.out _ _ ⟨(blk_cell BK476.out 0).trans rfl, (blk_cell BK476.out 1).trans rfl, (blk_cell BK476.out 2).trans rfl, (blk_cell BK481.out 0).trans rfl, (blk_cell BK481.out 1).trans rfl, (blk_cell BK481.out 2).trans rfl, (blk_cell BK508.out 0).trans rfl, (blk_cell BK508.out 1).trans rfl, (blk_cell BK508.out 2).trans rfl, (blk_cell BK513.out 0).trans rfl, (blk_cell BK513.out 1).trans rfl, (blk_cell BK513.out 2).trans rfl, (blk_cell BK467.out 0).trans rfl, (blk_cell BK467.out 1).trans rfl, (blk_cell BK467.out 2).trans rfl⟩ (fun hHeld => ?_)
              clear hK K
              refine norm_ (a' := ?_) ?_ ?_
              rotate_left
              ·show Act.put _ (some 300) _ = _
               simp only [Act.put, List.setIfInBounds_toArray, List.set_cons_zero, List.set_cons_succ, i64_w, i32_w]
               rfl
              refine puU 104 301 HT_ ?_
              refine puU 105 302 HT_ ?_
              refine puU 106 303 HT_ ?_
              refine puU 107 304 HT_ ?_
              refine puU 108 305 HT_ ?_
              refine puU 109 306 HT_ ?_
              refine pfU 110 307 HT_ ?_
              refine puU 111 308 HT_ ?_
              refine puU 112 309 HT_ ?_
              as_aux_lemma =>
               refine puU 113 310 HT_ ?_
               refine puU 114 311 HT_ ?_
               refine puU 115 312 HT_ ?_
               refine puU 116 313 HT_ ?_
               refine puU 117 314 HT_ ?_
               refine puU 118 315 HT_ ?_
               refine puU 119 316 HT_ ?_
               refine puU 120 317 HT_ ?_
               refine puU 121 318 HT_ ?_
               refine puU 122 319 HT_ ?_
               as_aux_lemma =>
                refine puU 123 320 HT_ ?_
                refine puU 124 321 HT_ ?_
                refine puU 125 322 HT_ ?_
                refine puU 126 323 HT_ ?_
                refine puU 127 324 HT_ ?_
                refine puU 128 325 HT_ ?_
                refine puU 129 326 HT_ ?_
                refine puU 130 327 HT_ ?_
                refine puU 131 328 HT_ ?_
                refine puU 132 329 HT_ ?_
                as_aux_lemma =>
                 refine puU 133 330 HT_ ?_
                 refine puU 134 331 HT_ ?_
                 refine puU 135 332 HT_ ?_
                 refine puU 136 333 HT_ ?_
                 refine puU 137 334 HT_ ?_
                 refine puU 138 335 HT_ ?_
                 refine puU 139 336 HT_ ?_
                 refine puU 140 337 HT_ ?_
                 refine puU 141 338 HT_ ?_
                 refine puU 142 339 HT_ ?_
                 as_aux_lemma =>
                  refine puU 143 340 HT_ ?_
                  refine puU 144 341 HT_ ?_
                  refine puU 145 342 HT_ ?_
                  refine puU 146 343 HT_ ?_
                  refine puU 147 344 HT_ ?_
                  refine puU 148 345 HT_ ?_
                  refine dnU HT_ ?_
                  try go_wp2
                  go_meet
                  case rel => exact ⟨_, ((t515 != false)), eqU, H', ⟨by have := HJ3.out; first | omega | exact Nat.le_refl _⟩, ⟨bkU⟩, ⟨bkU⟩, ⟨bkU⟩, ⟨bkU⟩, ⟨bkU⟩, ⟨hbU⟩⟩
   case rest => as_aux_lemma =>
    clear HC25
    (try clear c1); (try clear c87); (try clear c87b0); (try clear c87b1); (try clear c89); (try clear c89b0); (try clear c89b1); (try clear c90); (try clear c90b0); (try clear c90b1); (try clear c92); (try clear c92b0); (try clear c92b1); (try clear c94); (try clear c94b0); (try clear c94b1); (try clear c96); (try clear c96b0); (try clear c96b1); (try clear c100); (try clear c100b0); (try clear c100b1)
    obtain ⟨kq, x345_24, rfl, HA, HJ24, BK467, BK476, BK481, BK508, BK513, HB⟩ := hcut
    cases kq with
    | zero => exact absurd HA.out (by simp [laws_FnFramesPotted.j1])
    | succ kj24 =>
     have H := HA.out
     clear HA
     simp only [laws_FnFramesPotted.j1] at H
     have HC129 := Aside0.mk H
     clear H
     go_upto_if 345 with (fail)
     go_cut [] from 9999 to 9999 (fun wc => ∃ (kq : Nat), Aside0 (laws_FnFramesPotted.j2 kq l1 t466 t469 t475 t482 t486 t487 t492 t496 t500 t514 t463 t464 t465 t472 t473 t474 t504 t505 t506 = some r) ∧ Aside0 (kq ≤ kj24) ∧ Aside0 (wc.heap[gb467]? = some (.cells #[.int .i64 t463, .bool t464, .int .i64 t465] 25 (0, 0))) ∧ Aside0 (wc.heap[gb476]? = some (.cells #[.int .i64 t472, .bool t473, .int .i64 t474] 25 (0, 0))) ∧ Aside0 (wc.heap[gb481]? = some (.cells #[.int .i64 t477, .bool t478, .int .i64 t479] 25 (0, 0))) ∧ Aside0 (wc.heap[gb508]? = some (.cells #[.int .i64 t504, .bool t505, .int .i64 t506] 25 (0, 0))) ∧ Aside0 (wc.heap[gb513]? = some (.cells #[.int .i64 t509, .bool t510, .int .i64 t511] 25 (0, 0))) ∧ Aside0 (Below w.heap.size w wc))
     case first => as_aux_lemma =>
      have H := HC129.out
      clear HC129
      by_cases c130 : x345_24 = true
      ·subst c130
       rw [if_pos rfl] at H
       exact absurd H (by simp)
      replace c130 := Bool.eq_false_iff.mpr c130
      subst c130
      rw [if_neg (show ¬ (false = true) by decide)] at H
      have H' := Aside0.mk H
      clear H
      go_wp2
      go_meet
      case rel => exact ⟨_, H', ⟨by have := HJ3.out; have := HJ24.out; first | omega | exact Nat.le_refl _⟩, ⟨bkU⟩, ⟨bkU⟩, ⟨bkU⟩, ⟨bkU⟩, ⟨bkU⟩, ⟨hbU⟩⟩
     case rest => as_aux_lemma =>
      clear HC129
      (try clear c1); (try clear c87); (try clear c87b0); (try clear c87b1); (try clear c89); (try clear c89b0); (try clear c89b1); (try clear c90); (try clear c90b0); (try clear c90b1); (try clear c92); (try clear c92b0); (try clear c92b1); (try clear c94); (try clear c94b0); (try clear c94b1); (try clear c96); (try clear c96b0); (try clear c96b1); (try clear c100); (try clear c100b0); (try clear c100b1); (try clear c130)
      obtain ⟨kq, HA, HJ128, BK467, BK476, BK481, BK508, BK513, HB⟩ := hcut
      cases kq with
      | zero => exact absurd HA.out (by simp [laws_FnFramesPotted.j2])
      | succ kj128 =>
       have H := HA.out
       clear HA
       simp only [laws_FnFramesPotted.j2] at H
       have HC131 := Aside0.mk H
       clear H
       go_upto_if 346 with (fail)
       go_cut [] from 9999 to 9999 (fun wc => ∃ (kq : Nat), Aside0 (laws_FnFramesPotted.j7 kq l1 t466 t475 t487 t500 t463 t464 t465 t472 t473 t474 = some r) ∧ Aside0 (kq ≤ kj128) ∧ Aside0 (wc.heap[gb467]? = some (.cells #[.int .i64 t463, .bool t464, .int .i64 t465] 25 (0, 0))) ∧ Aside0 (wc.heap[gb476]? = some (.cells #[.int .i64 t472, .bool t473, .int .i64 t474] 25 (0, 0))) ∧ Aside0 (wc.heap[gb481]? = some (.cells #[.int .i64 t477, .bool t478, .int .i64 t479] 25 (0, 0))) ∧ Aside0 (wc.heap[gb508]? = some (.cells #[.int .i64 t504, .bool t505, .int .i64 t506] 25 (0, 0))) ∧ Aside0 (wc.heap[gb513]? = some (.cells #[.int .i64 t509, .bool t510, .int .i64 t511] 25 (0, 0))) ∧ Aside0 (Below w.heap.size w wc))
       case first => as_aux_lemma =>
        have H := HC131.out
        clear HC131
        by_cases c132 : t469 = true
        rotate_left
        ·replace c132 := Bool.eq_false_iff.mpr c132
         subst c132
         rw [if_neg (show ¬ (false = true) by decide)] at H
         have H' := Aside0.mk H
         clear H
         go_wp2
         go_meet
         case rel => exact ⟨_, H', ⟨by have := HJ3.out; have := HJ24.out; have := HJ128.out; first | omega | exact Nat.le_refl _⟩, ⟨bkU⟩, ⟨bkU⟩, ⟨bkU⟩, ⟨bkU⟩, ⟨bkU⟩, ⟨hbU⟩⟩
        subst c132
        rw [if_pos rfl] at H
        replace H := Option.bind_eq_some_iff.mp H
        obtain ⟨⟨t521, t522, t523, t524⟩, A1330, H⟩ := H
        (try dsimp only at H)
        have A133 := Aside0.mk A1330
        clear A1330
        replace H := Option.bind_eq_some_iff.mp H
        obtain ⟨⟨t526, t527⟩, A1340, H⟩ := H
        (try dsimp only at H)
        have A134 := Aside0.mk A1340
        clear A1340
        replace H := Option.bind_eq_some_iff.mp H
        obtain ⟨⟨t528, t529, t530, t531⟩, A1350, H⟩ := H
        (try dsimp only at H)
        have A135 := Aside0.mk A1350
        clear A1350
        have HC136 := Aside0.mk H
        clear H
        have hnb137 := NB467_476.out
        have hnc137 := NB476_467.out
        have hnb138 := NB467_481.out
        have hnc138 := NB481_467.out
        have hnb139 := NB467_508.out
        have hnc139 := NB508_467.out
        have hnb140 := NB467_513.out
        have hnc140 := NB513_467.out
        obtain ⟨hcz141_0, hcz141_1, hcz141_2, hfz141_0, hfz141_1, hfz141_2⟩ := b3U BK467
        go_upto_region 28 with (first | ((with_reducible refine gate_callee (f := 9) rfl ?_); refine goU (some 350) Tryz.func9 #[.agg #[.int .i64 t463, .bool t464, .int .i64 t465], .string t486] ?_; (with_reducible refine (impl_FrameAfter.calls kj128 t463 t464 t465 t486 t521 t522 t523 t524 _ A133.out).mono ?_); rintro e w142 ⟨rfl, hb⟩; refine ⟨_, rfl, ?_⟩; have n0_ := bbU BK467 hb; have n1_ := bbU BK476 hb; have n2_ := bbU BK481 hb; have n3_ := bbU BK508 hb; have n4_ := bbU BK513 hb; have n5_ := bsU hb; clear BK467; clear BK476; clear BK481; clear BK508; clear BK513; clear HB; have BK467 := n0_; have BK476 := n1_; have BK481 := n2_; have BK508 := n3_; have BK513 := n4_; have HB := n5_; clear n0_ n1_ n2_ n3_ n4_ n5_; (try clear hb); (try clear hb2); (try clear hk); (try clear hi)) | ((with_reducible refine gate_dst (N := 45) rfl ?_); (try (refine gate_guard (by rfl) ?_; dsimp only)); refine bxU (cs := #[.int .i64 0, .bool false, .int .i64 0]) (t := 25) ?_; intro gb525 hg w143 hbox hb; have n0_ := bbU BK467 hb; have n1_ := bbU BK476 hb; have n2_ := bbU BK481 hb; have n3_ := bbU BK508 hb; have n4_ := bbU BK513 hb; have n5_ := bsU hb; have n6_ := Aside0.mk (hbox); have n7_ := geU hg; have n8_ := geU hg; have n9_ := neU BK467 hg; have n10_ := enU BK467 hg; have n11_ := neU BK476 hg; have n12_ := enU BK476 hg; have n13_ := neU BK481 hg; have n14_ := enU BK481 hg; have n15_ := neU BK508 hg; have n16_ := enU BK508 hg; have n17_ := neU BK513 hg; have n18_ := enU BK513 hg; clear BK467; clear BK476; clear BK481; clear BK508; clear BK513; clear HB; have BK467 := n0_; have BK476 := n1_; have BK481 := n2_; have BK508 := n3_; have BK513 := n4_; have HB := n5_; have BK525 := n6_; have GW525 := n7_; have GE525 := n8_; have NB467_525 := n9_; have NB525_467 := n10_; have NB476_525 := n11_; have NB525_476 := n12_; have NB481_525 := n13_; have NB525_481 := n14_; have NB508_525 := n15_; have NB525_508 := n16_; have NB513_525 := n17_; have NB525_513 := n18_; clear n0_ n1_ n2_ n3_ n4_ n5_ n6_ n7_ n8_ n9_ n10_ n11_ n12_ n13_ n14_ n15_ n16_ n17_ n18_; clear hb hbox hg; have hnb144 := NB525_467.out; have hnc144 := NB467_525.out; have hnb145 := NB525_476.out; have hnc145 := NB476_525.out; have hnb146 := NB525_481.out; have hnc146 := NB481_525.out; have hnb147 := NB525_508.out; have hnc147 := NB508_525.out; have hnb148 := NB525_513.out; have hnc148 := NB513_525.out; obtain ⟨hcz149_0, hcz149_1, hcz149_2, hfz149_0, hfz149_1, hfz149_2⟩ := b3U BK525) | ((with_reducible refine gate_callee (f := 27) rfl ?_); refine goU (some 355) Tryz.func27 #[.string t486] ?_; (with_reducible refine (impl_PointsOf.calls kj128 t486 t526 t527 _ A134.out).mono ?_); rintro e w150 ⟨rfl, hb⟩; refine ⟨_, rfl, ?_⟩; have n0_ := bbU BK467 hb; have n1_ := bbU BK476 hb; have n2_ := bbU BK481 hb; have n3_ := bbU BK508 hb; have n4_ := bbU BK513 hb; have n5_ := Aside0.mk (blk_below (g := gb525) (o := .cells #[.int .i64 t521, .bool t522, .int .i64 t523] 25 (0, 0)) bkU hb); have n6_ := bsU hb; clear BK467; clear BK476; clear BK481; clear BK508; clear BK513; clear BK525; clear HB; have BK467 := n0_; have BK476 := n1_; have BK481 := n2_; have BK508 := n3_; have BK513 := n4_; have BK525 := n5_; have HB := n6_; clear n0_ n1_ n2_ n3_ n4_ n5_ n6_; (try clear hb); (try clear hb2); (try clear hk); (try clear hi)) | ((with_reducible refine gate_callee (f := 28) rfl ?_); refine goU (some 360) Tryz.func28 #[.string t514] ?_; (with_reducible refine (impl_ParseFrame.calls kj128 t514 t528 t529 t530 t531 _ A135.out).mono ?_); rintro e w151 ⟨rfl, hb⟩; refine ⟨_, rfl, ?_⟩; have n0_ := bbU BK467 hb; have n1_ := bbU BK476 hb; have n2_ := bbU BK481 hb; have n3_ := bbU BK508 hb; have n4_ := bbU BK513 hb; have n5_ := bbU BK525 hb; have n6_ := bsU hb; clear BK467; clear BK476; clear BK481; clear BK508; clear BK513; clear BK525; clear HB; have BK467 := n0_; have BK476 := n1_; have BK481 := n2_; have BK508 := n3_; have BK513 := n4_; have BK525 := n5_; have HB := n6_; clear n0_ n1_ n2_ n3_ n4_ n5_ n6_; (try clear hb); (try clear hb2); (try clear hk); (try clear hi)) | ((with_reducible refine gate_dst (N := 49) rfl ?_); (try (refine gate_guard (by rfl) ?_; dsimp only)); refine bxU (cs := #[.int .i64 0, .bool false, .int .i64 0]) (t := 25) ?_; intro gb532 hg w152 hbox hb; have n0_ := bbU BK467 hb; have n1_ := bbU BK476 hb; have n2_ := bbU BK481 hb; have n3_ := bbU BK508 hb; have n4_ := bbU BK513 hb; have n5_ := bbU BK525 hb; have n6_ := bsU hb; have n7_ := Aside0.mk (hbox); have n8_ := geU hg; have n9_ := geU hg; have n10_ := neU BK467 hg; have n11_ := enU BK467 hg; have n12_ := neU BK476 hg; have n13_ := enU BK476 hg; have n14_ := neU BK481 hg; have n15_ := enU BK481 hg; have n16_ := neU BK508 hg; have n17_ := enU BK508 hg; have n18_ := neU BK513 hg; have n19_ := enU BK513 hg; have n20_ := neU BK525 hg; have n21_ := enU BK525 hg; clear BK467; clear BK476; clear BK481; clear BK508; clear BK513; clear BK525; clear HB; have BK467 := n0_; have BK476 := n1_; have BK481 := n2_; have BK508 := n3_; have BK513 := n4_; have BK525 := n5_; have HB := n6_; have BK532 := n7_; have GW532 := n8_; have GE532 := n9_; have NB467_532 := n10_; have NB532_467 := n11_; have NB476_532 := n12_; have NB532_476 := n13_; have NB481_532 := n14_; have NB532_481 := n15_; have NB508_532 := n16_; have NB532_508 := n17_; have NB513_532 := n18_; have NB532_513 := n19_; have NB525_532 := n20_; have NB532_525 := n21_; clear n0_ n1_ n2_ n3_ n4_ n5_ n6_ n7_ n8_ n9_ n10_ n11_ n12_ n13_ n14_ n15_ n16_ n17_ n18_ n19_ n20_ n21_; clear hb hbox hg; have hnb153 := NB532_467.out; have hnc153 := NB467_532.out; have hnb154 := NB532_476.out; have hnc154 := NB476_532.out; have hnb155 := NB532_481.out; have hnc155 := NB481_532.out; have hnb156 := NB532_508.out; have hnc156 := NB508_532.out; have hnb157 := NB532_513.out; have hnc157 := NB513_532.out; have hnb158 := NB532_525.out; have hnc158 := NB525_532.out; obtain ⟨hcz159_0, hcz159_1, hcz159_2, hfz159_0, hfz159_1, hfz159_2⟩ := b3U BK532))
        (try simp only [Act.put, List.setIfInBounds_toArray, List.set_cons_zero, List.set_cons_succ])
        go_cut [420] from 9999 to 9999 (fun v420 wc => ∃ (kq : Nat) (x420_135 : Bool), v420 = .bool x420_135 ∧ Aside0 (laws_FnFramesPotted.j3 kq l1 t466 t475 t482 t487 t500 x420_135 t463 t464 t465 t472 t473 t474 = some r) ∧ Aside0 (kq ≤ kj128) ∧ Aside0 (wc.heap[gb467]? = some (.cells #[.int .i64 t463, .bool t464, .int .i64 t465] 25 (0, 0))) ∧ Aside0 (wc.heap[gb476]? = some (.cells #[.int .i64 t472, .bool t473, .int .i64 t474] 25 (0, 0))) ∧ Aside0 (wc.heap[gb481]? = some (.cells #[.int .i64 t477, .bool t478, .int .i64 t479] 25 (0, 0))) ∧ Aside0 (wc.heap[gb508]? = some (.cells #[.int .i64 t504, .bool t505, .int .i64 t506] 25 (0, 0))) ∧ Aside0 (wc.heap[gb513]? = some (.cells #[.int .i64 t509, .bool t510, .int .i64 t511] 25 (0, 0))) ∧ Aside0 (wc.heap[gb525]? = some (.cells #[.int .i64 t521, .bool t522, .int .i64 t523] 25 (0, 0))) ∧ Aside0 (wc.heap[gb532]? = some (.cells #[.int .i64 t528, .bool t529, .int .i64 t530] 25 (0, 0))) ∧ Aside0 (Below w.heap.size w wc))
        case first => as_aux_lemma =>
         have H := HC136.out
         clear HC136
         by_cases c160 : (t486.size : Int) = t500
         rotate_left
         ·rw [if_neg c160] at H
          exact absurd H (by simp)
         rw [if_pos c160] at H
         have c160b0 : ((t486.size : Int) == t500) = true := beq_iff_eq.mpr c160
         have c160b1 : ((t486.size : Int) != t500) = false := bne_eq_false_iff_eq.mpr c160
         clear c160
         (first | rw [c160b0] | (simp only [i64_w, i32_w]; rw [c160b0]) | skip)
         by_cases c161 : t524 = true
         rotate_left
         ·replace c161 := Bool.eq_false_iff.mpr c161
          subst c161
          rw [if_neg (show ¬ (false = true) by decide)] at H
          exact absurd H (by simp)
         subst c161
         rw [if_pos rfl] at H
         by_cases c162 : t523 = 8
         rotate_left
         ·rw [if_neg c162] at H
          exact absurd H (by simp)
         rw [if_pos c162] at H
         have c162b0 : (t523 == 8) = true := beq_iff_eq.mpr c162
         have c162b1 : (t523 != 8) = false := bne_eq_false_iff_eq.mpr c162
         clear c162
         by_cases c163 : t527 = true
         rotate_left
         ·replace c163 := Bool.eq_false_iff.mpr c163
          subst c163
          rw [if_neg (show ¬ (false = true) by decide)] at H
          exact absurd H (by simp)
         subst c163
         rw [if_pos rfl] at H
         by_cases c164 : t526 = t487
         rotate_left
         ·rw [if_neg c164] at H
          exact absurd H (by simp)
         rw [if_pos c164] at H
         have c164b0 : (t526 == t487) = true := beq_iff_eq.mpr c164
         have c164b1 : (t526 != t487) = false := bne_eq_false_iff_eq.mpr c164
         clear c164
         by_cases c165 : t496 = t487
         rotate_left
         ·rw [if_neg c165] at H
          exact absurd H (by simp)
         rw [if_pos c165] at H
         have c165b0 : (t496 == t487) = true := beq_iff_eq.mpr c165
         have c165b1 : (t496 != t487) = false := bne_eq_false_iff_eq.mpr c165
         clear c165
         by_cases c166 : t492 > t487
         ·rw [if_pos c166] at H
          exact absurd H (by simp)
         rw [if_neg c166] at H
         have c166b0 : decide (t487 < t492) = false := decide_eq_false c166
         clear c166
         by_cases c167 : t531 = true
         rotate_left
         ·replace c167 := Bool.eq_false_iff.mpr c167
          subst c167
          rw [if_neg (show ¬ (false = true) by decide)] at H
          exact absurd H (by simp)
         subst c167
         rw [if_pos rfl] at H
         by_cases c168 : (!(t528 == t463) || (!(t529 == t464) || (!(t530 == t465)))) = true
         ·rw [if_pos c168] at H
          exact absurd H (by simp)
         rw [if_neg c168] at H
         have c168b0 : (!(t528 == t463) || (!(t529 == t464) || (!(t530 == t465)))) = false := by simpa using c168
         clear c168
         by_cases c169 : t505 = true
         ·subst c169
          rw [if_pos rfl] at H
          exact absurd H (by simp)
         replace c169 := Bool.eq_false_iff.mpr c169
         subst c169
         rw [if_neg (show ¬ (false = true) by decide)] at H
         replace H := Option.bind_eq_some_iff.mp H
         obtain ⟨t533, A1700, H⟩ := H
         (try dsimp only at H)
         have A170 := Aside0.mk A1700
         clear A1700
         by_cases c171 : t533 = true
         rotate_left
         ·replace c171 := Bool.eq_false_iff.mpr c171
          subst c171
          rw [if_neg (show ¬ (false = true) by decide)] at H
          exact absurd H (by simp)
         subst c171
         rw [if_pos rfl] at H
         have H' := Aside0.mk H
         clear H
         have hnb172 := NB525_467.out
         have hnc172 := NB467_525.out
         have hnb173 := NB525_476.out
         have hnc173 := NB476_525.out
         have hnb174 := NB525_481.out
         have hnc174 := NB481_525.out
         have hnb175 := NB525_508.out
         have hnc175 := NB508_525.out
         have hnb176 := NB525_513.out
         have hnc176 := NB513_525.out
         have hnb177 := NB525_532.out
         have hnc177 := NB532_525.out
         obtain ⟨hcz178_0, hcz178_1, hcz178_2, hfz178_0, hfz178_1, hfz178_2⟩ := b3U BK525
         have hnb179 := NB532_467.out
         have hnc179 := NB467_532.out
         have hnb180 := NB532_476.out
         have hnc180 := NB476_532.out
         have hnb181 := NB532_481.out
         have hnc181 := NB481_532.out
         have hnb182 := NB532_508.out
         have hnc182 := NB508_532.out
         have hnb183 := NB532_513.out
         have hnc183 := NB513_532.out
         obtain ⟨hcz184_0, hcz184_1, hcz184_2, hfz184_0, hfz184_1, hfz184_2⟩ := b3U BK532
         have hnb185 := NB467_476.out
         have hnc185 := NB476_467.out
         have hnb186 := NB467_481.out
         have hnc186 := NB481_467.out
         have hnb187 := NB467_508.out
         have hnc187 := NB508_467.out
         have hnb188 := NB467_513.out
         have hnc188 := NB513_467.out
         obtain ⟨hcz189_0, hcz189_1, hcz189_2, hfz189_0, hfz189_1, hfz189_2⟩ := b3U BK467
         have hnb190 := NB508_476.out
         have hnc190 := NB476_508.out
         have hnb191 := NB508_481.out
         have hnc191 := NB481_508.out
         have hnb192 := NB508_513.out
         have hnc192 := NB513_508.out
         obtain ⟨hcz193_0, hcz193_1, hcz193_2, hfz193_0, hfz193_1, hfz193_2⟩ := b3U BK508
         go_wp2_with (first | (go_at_call 25; (with_reducible refine (impl_IsFrame.calls kj128 t504 false t506 true _ A170.out).mono ?_); rintro e w194 ⟨rfl, hb⟩; have n0_ := bbU BK467 hb; have n1_ := bbU BK476 hb; have n2_ := bbU BK481 hb; have n3_ := bbU BK508 hb; have n4_ := bbU BK513 hb; have n5_ := bbU BK525 hb; have n6_ := Aside0.mk (blk_below (g := gb532) (o := .cells #[.int .i64 t528, .bool t529, .int .i64 t530] 25 (0, 0)) bkU hb); have n7_ := bsU hb; clear BK467; clear BK476; clear BK481; clear BK508; clear BK513; clear BK525; clear BK532; clear HB; have BK467 := n0_; have BK476 := n1_; have BK481 := n2_; have BK508 := n3_; have BK513 := n4_; have BK525 := n5_; have BK532 := n6_; have HB := n7_; clear n0_ n1_ n2_ n3_ n4_ n5_ n6_ n7_; (try clear hb); (try clear hb2); (try clear hk); (try clear hi); obtain ⟨hcz195_0, hcz195_1, hcz195_2, hfz195_0, hfz195_1, hfz195_2⟩ := b3U BK467))
         go_meet
         case rel => exact ⟨_, (((t482.toList == ([] : List UInt8)) != (t465 == 8))), congrArg Value.bool (by cases t482.toList <;> cases (t465 == 8) <;> rfl), H', ⟨by have := HJ3.out; have := HJ24.out; have := HJ128.out; first | omega | exact Nat.le_refl _⟩, ⟨bkU⟩, ⟨bkU⟩, ⟨bkU⟩, ⟨bkU⟩, ⟨bkU⟩, ⟨bkU⟩, ⟨bkU⟩, ⟨hbU⟩⟩
        case rest => as_aux_lemma =>
         clear HC136
         (try clear c1); (try clear c87); (try clear c87b0); (try clear c87b1); (try clear c89); (try clear c89b0); (try clear c89b1); (try clear c90); (try clear c90b0); (try clear c90b1); (try clear c92); (try clear c92b0); (try clear c92b1); (try clear c94); (try clear c94b0); (try clear c94b1); (try clear c96); (try clear c96b0); (try clear c96b1); (try clear c100); (try clear c100b0); (try clear c100b1); (try clear c130); (try clear c132); (try clear c160); (try clear c160b0); (try clear c160b1); (try clear c161); (try clear c162); (try clear c162b0); (try clear c162b1); (try clear c163); (try clear c164); (try clear c164b0); (try clear c164b1); (try clear c165); (try clear c165b0); (try clear c165b1); (try clear c166); (try clear c166b0); (try clear c167); (try clear c168); (try clear c168b0); (try clear c169); (try clear c171); (try clear hcz141_0); (try clear hcz141_1); (try clear hcz141_2); (try clear hcz149_0); (try clear hcz149_1); (try clear hcz149_2); (try clear hcz159_0); (try clear hcz159_1); (try clear hcz159_2); (try clear hcz178_0); (try clear hcz178_1); (try clear hcz178_2); (try clear hcz184_0); (try clear hcz184_1); (try clear hcz184_2); (try clear hcz189_0); (try clear hcz189_1); (try clear hcz189_2); (try clear hcz193_0); (try clear hcz193_1); (try clear hcz193_2); (try clear hcz195_0); (try clear hcz195_1); (try clear hcz195_2); (try clear hfz141_0); (try clear hfz141_1); (try clear hfz141_2); (try clear hfz149_0); (try clear hfz149_1); (try clear hfz149_2); (try clear hfz159_0); (try clear hfz159_1); (try clear hfz159_2); (try clear hfz178_0); (try clear hfz178_1); (try clear hfz178_2); (try clear hfz184_0); (try clear hfz184_1); (try clear hfz184_2); (try clear hfz189_0); (try clear hfz189_1); (try clear hfz189_2); (try clear hfz193_0); (try clear hfz193_1); (try clear hfz193_2); (try clear hfz195_0); (try clear hfz195_1); (try clear hfz195_2)
         obtain ⟨kq, x420_135, rfl, HA, HJ135, BK467, BK476, BK481, BK508, BK513, BK525, BK532, HB⟩ := hcut
         cases kq with
         | zero => exact absurd HA.out (by simp [laws_FnFramesPotted.j3])
         | succ kj135 =>
          have H := HA.out
          clear HA
          simp only [laws_FnFramesPotted.j3] at H
          have HC196 := Aside0.mk H
          clear H
          go_upto_if 420 with (fail)
          go_cut [] from 9999 to 9999 (fun wc => ∃ (kq : Nat), Aside0 (laws_FnFramesPotted.j4 kq l1 t466 t475 t482 t487 t500 t463 t464 t465 t472 t473 t474 = some r) ∧ Aside0 (kq ≤ kj135) ∧ Aside0 (wc.heap[gb467]? = some (.cells #[.int .i64 t463, .bool t464, .int .i64 t465] 25 (0, 0))) ∧ Aside0 (wc.heap[gb476]? = some (.cells #[.int .i64 t472, .bool t473, .int .i64 t474] 25 (0, 0))) ∧ Aside0 (wc.heap[gb481]? = some (.cells #[.int .i64 t477, .bool t478, .int .i64 t479] 25 (0, 0))) ∧ Aside0 (wc.heap[gb508]? = some (.cells #[.int .i64 t504, .bool t505, .int .i64 t506] 25 (0, 0))) ∧ Aside0 (wc.heap[gb513]? = some (.cells #[.int .i64 t509, .bool t510, .int .i64 t511] 25 (0, 0))) ∧ Aside0 (wc.heap[gb525]? = some (.cells #[.int .i64 t521, .bool t522, .int .i64 t523] 25 (0, 0))) ∧ Aside0 (wc.heap[gb532]? = some (.cells #[.int .i64 t528, .bool t529, .int .i64 t530] 25 (0, 0))) ∧ Aside0 (Below w.heap.size w wc))
          case first => as_aux_lemma =>
           have H := HC196.out
           clear HC196
           by_cases c197 : x420_135 = true
           ·subst c197
            rw [if_pos rfl] at H
            exact absurd H (by simp)
           replace c197 := Bool.eq_false_iff.mpr c197
           subst c197
           rw [if_neg (show ¬ (false = true) by decide)] at H
           have H' := Aside0.mk H
           clear H
           go_wp2
           go_meet
           case rel => exact ⟨_, H', ⟨by have := HJ3.out; have := HJ24.out; have := HJ128.out; have := HJ135.out; first | omega | exact Nat.le_refl _⟩, ⟨bkU⟩, ⟨bkU⟩, ⟨bkU⟩, ⟨bkU⟩, ⟨bkU⟩, ⟨bkU⟩, ⟨bkU⟩, ⟨hbU⟩⟩
          case rest => as_aux_lemma =>
           clear HC196
           (try clear c1); (try clear c87); (try clear c87b0); (try clear c87b1); (try clear c89); (try clear c89b0); (try clear c89b1); (try clear c90); (try clear c90b0); (try clear c90b1); (try clear c92); (try clear c92b0); (try clear c92b1); (try clear c94); (try clear c94b0); (try clear c94b1); (try clear c96); (try clear c96b0); (try clear c96b1); (try clear c100); (try clear c100b0); (try clear c100b1); (try clear c130); (try clear c132); (try clear c160); (try clear c160b0); (try clear c160b1); (try clear c161); (try clear c162); (try clear c162b0); (try clear c162b1); (try clear c163); (try clear c164); (try clear c164b0); (try clear c164b1); (try clear c165); (try clear c165b0); (try clear c165b1); (try clear c166); (try clear c166b0); (try clear c167); (try clear c168); (try clear c168b0); (try clear c169); (try clear c171); (try clear c197); (try clear hcz141_0); (try clear hcz141_1); (try clear hcz141_2); (try clear hcz149_0); (try clear hcz149_1); (try clear hcz149_2); (try clear hcz159_0); (try clear hcz159_1); (try clear hcz159_2); (try clear hcz178_0); (try clear hcz178_1); (try clear hcz178_2); (try clear hcz184_0); (try clear hcz184_1); (try clear hcz184_2); (try clear hcz189_0); (try clear hcz189_1); (try clear hcz189_2); (try clear hcz193_0); (try clear hcz193_1); (try clear hcz193_2); (try clear hcz195_0); (try clear hcz195_1); (try clear hcz195_2); (try clear hfz141_0); (try clear hfz141_1); (try clear hfz141_2); (try clear hfz149_0); (try clear hfz149_1); (try clear hfz149_2); (try clear hfz159_0); (try clear hfz159_1); (try clear hfz159_2); (try clear hfz178_0); (try clear hfz178_1); (try clear hfz178_2); (try clear hfz184_0); (try clear hfz184_1); (try clear hfz184_2); (try clear hfz189_0); (try clear hfz189_1); (try clear hfz189_2); (try clear hfz193_0); (try clear hfz193_1); (try clear hfz193_2); (try clear hfz195_0); (try clear hfz195_1); (try clear hfz195_2)
           obtain ⟨kq, HA, HJ195, BK467, BK476, BK481, BK508, BK513, BK525, BK532, HB⟩ := hcut
           cases kq with
           | zero => exact absurd HA.out (by simp [laws_FnFramesPotted.j4])
           | succ kj195 =>
            have H := HA.out
            clear HA
            simp only [laws_FnFramesPotted.j4] at H
            have H' := Aside0.mk H
            clear H
            go_wp2_with (first | ((with_reducible refine gate_dst (N := 422) rfl ?_); (try (refine gate_guard (by rfl) ?_; dsimp only)); refine rgU t482 ?_; intro gb534 hg w198 hbox hb; have n0_ := bbU BK467 hb; have n1_ := bbU BK476 hb; have n2_ := bbU BK481 hb; have n3_ := bbU BK508 hb; have n4_ := bbU BK513 hb; have n5_ := bbU BK525 hb; have n6_ := bbU BK532 hb; have n7_ := bsU hb; have n8_ := Aside0.mk (hbox); have n9_ := geU hg; have n10_ := geU hg; have n11_ := neU BK467 hg; have n12_ := enU BK467 hg; have n13_ := neU BK476 hg; have n14_ := enU BK476 hg; have n15_ := neU BK481 hg; have n16_ := enU BK481 hg; have n17_ := neU BK508 hg; have n18_ := enU BK508 hg; have n19_ := neU BK513 hg; have n20_ := enU BK513 hg; have n21_ := neU BK525 hg; have n22_ := enU BK525 hg; have n23_ := neU BK532 hg; have n24_ := enU BK532 hg; clear BK467; clear BK476; clear BK481; clear BK508; clear BK513; clear BK525; clear BK532; clear HB; have BK467 := n0_; have BK476 := n1_; have BK481 := n2_; have BK508 := n3_; have BK513 := n4_; have BK525 := n5_; have BK532 := n6_; have HB := n7_; have BK534 := n8_; have GW534 := n9_; have GE534 := n10_; have NB467_534 := n11_; have NB534_467 := n12_; have NB476_534 := n13_; have NB534_476 := n14_; have NB481_534 := n15_; have NB534_481 := n16_; have NB508_534 := n17_; have NB534_508 := n18_; have NB513_534 := n19_; have NB534_513 := n20_; have NB525_534 := n21_; have NB534_525 := n22_; have NB532_534 := n23_; have NB534_532 := n24_; clear n0_ n1_ n2_ n3_ n4_ n5_ n6_ n7_ n8_ n9_ n10_ n11_ n12_ n13_ n14_ n15_ n16_ n17_ n18_ n19_ n20_ n21_ n22_ n23_ n24_; clear hb hbox hg))
            (try simp only [Act.put, List.setIfInBounds_toArray, List.set_cons_zero, List.set_cons_succ])
            change Code.wp _ _ _ (Act.mk _ _) _
            go_loopg [] kj195 (fun kq w' => ∃ (x535000_6 : Int), Aside0 (laws_FnFramesPotted.l0 kq l1 t466 t475 t482 t487 t500 (t482.size : Int) t463 t464 t465 t472 t473 t474 x535000_6 false 0 = some r) ∧ Aside0 (kq ≤ kj195) ∧ Aside0 (w'.heap[gb467]? = some (.cells #[.int .i64 t463, .bool t464, .int .i64 t465] 25 (0, 0))) ∧ Aside0 (w'.heap[gb476]? = some (.cells #[.int .i64 t472, .bool t473, .int .i64 t474] 25 (0, 0))) ∧ Aside0 (w'.heap[gb481]? = some (.cells #[.int .i64 t477, .bool t478, .int .i64 t479] 25 (0, 0))) ∧ Aside0 (w'.heap[gb508]? = some (.cells #[.int .i64 t504, .bool t505, .int .i64 t506] 25 (0, 0))) ∧ Aside0 (w'.heap[gb513]? = some (.cells #[.int .i64 t509, .bool t510, .int .i64 t511] 25 (0, 0))) ∧ Aside0 (w'.heap[gb525]? = some (.cells #[.int .i64 t521, .bool t522, .int .i64 t523] 25 (0, 0))) ∧ Aside0 (w'.heap[gb532]? = some (.cells #[.int .i64 t528, .bool t529, .int .i64 t530] 25 (0, 0))) ∧ Aside0 (w'.heap[gb534]? = some (.stringIter t482 (x535000_6 : Int).toNat)) ∧ Aside0 (Below w.heap.size w w'))
            case atStart => exact ⟨(0), H', ⟨Nat.le_refl _⟩, ⟨bkU⟩, ⟨bkU⟩, ⟨bkU⟩, ⟨bkU⟩, ⟨bkU⟩, ⟨bkU⟩, ⟨bkU⟩, ⟨bkU⟩, ⟨hbU⟩⟩
            case round => as_aux_lemma =>
             clear H'
             (try clear c1); (try clear c87); (try clear c87b0); (try clear c87b1); (try clear c89); (try clear c89b0); (try clear c89b1); (try clear c90); (try clear c90b0); (try clear c90b1); (try clear c92); (try clear c92b0); (try clear c92b1); (try clear c94); (try clear c94b0); (try clear c94b1); (try clear c96); (try clear c96b0); (try clear c96b1); (try clear c100); (try clear c100b0); (try clear c100b1); (try clear c130); (try clear c132); (try clear c160); (try clear c160b0); (try clear c160b1); (try clear c161); (try clear c162); (try clear c162b0); (try clear c162b1); (try clear c163); (try clear c164); (try clear c164b0); (try clear c164b1); (try clear c165); (try clear c165b0); (try clear c165b1); (try clear c166); (try clear c166b0); (try clear c167); (try clear c168); (try clear c168b0); (try clear c169); (try clear c171); (try clear c197); (try clear hcz141_0); (try clear hcz141_1); (try clear hcz141_2); (try clear hcz149_0); (try clear hcz149_1); (try clear hcz149_2); (try clear hcz159_0); (try clear hcz159_1); (try clear hcz159_2); (try clear hcz178_0); (try clear hcz178_1); (try clear hcz178_2); (try clear hcz184_0); (try clear hcz184_1); (try clear hcz184_2); (try clear hcz189_0); (try clear hcz189_1); (try clear hcz189_2); (try clear hcz193_0); (try clear hcz193_1); (try clear hcz193_2); (try clear hcz195_0); (try clear hcz195_1); (try clear hcz195_2); (try clear hfz141_0); (try clear hfz141_1); (try clear hfz141_2); (try clear hfz149_0); (try clear hfz149_1); (try clear hfz149_2); (try clear hfz159_0); (try clear hfz159_1); (try clear hfz159_2); (try clear hfz178_0); (try clear hfz178_1); (try clear hfz178_2); (try clear hfz184_0); (try clear hfz184_1); (try clear hfz184_2); (try clear hfz189_0); (try clear hfz189_1); (try clear hfz189_2); (try clear hfz193_0); (try clear hfz193_1); (try clear hfz193_2); (try clear hfz195_0); (try clear hfz195_1); (try clear hfz195_2)
             obtain ⟨x535000_6, HA, HK6, BK467, BK476, BK481, BK508, BK513, BK525, BK532, BK534, HB⟩ := hrel
             cases gk with
             | zero => exact absurd HA.out (by simp [laws_FnFramesPotted.l0])
             | succ k6 =>
              have H := HA.out
              clear HA
              simp only [laws_FnFramesPotted.l0] at H
              by_cases c199 : x535000_6 < (t482.size : Int)
              rotate_left
              ·rw [if_neg c199] at H
               have c199b0 : decide (x535000_6 < (t482.size : Int)) = false := decide_eq_false c199
               have hnx := nextEndU (P := Tryz.prog) BK534 (of_decide_eq_false c199b0)
               clear c199
               have H' := Aside0.mk H
               clear H
               have hnb256 := NB534_467.out
               have hnc256 := NB467_534.out
               have hnb257 := NB534_476.out
               have hnc257 := NB476_534.out
               have hnb258 := NB534_481.out
               have hnc258 := NB481_534.out
               have hnb259 := NB534_508.out
               have hnc259 := NB508_534.out
               have hnb260 := NB534_513.out
               have hnc260 := NB513_534.out
               have hnb261 := NB534_525.out
               have hnc261 := NB525_534.out
               have hnb262 := NB534_532.out
               have hnc262 := NB532_534.out
               go_wp2
               go_meet
               case rel => exact ⟨_, H', ⟨by have := HJ3.out; have := HJ24.out; have := HJ128.out; have := HJ135.out; have := HJ195.out; have := HK6.out; first | omega | exact Nat.le_refl _⟩, ⟨bkU⟩, ⟨bkU⟩, ⟨bkU⟩, ⟨bkU⟩, ⟨bkU⟩, ⟨hbU⟩⟩
              rw [if_pos c199] at H
              have c199b0 : decide (x535000_6 < (t482.size : Int)) = true := decide_eq_true c199
              clear c199
              by_cases c200 : 0 ≤ x535000_6
              rotate_left
              ·rw [if_neg c200] at H
               exact absurd H (by simp)
              rw [if_pos c200] at H
              have c200b0 : decide (0 ≤ x535000_6) = true := decide_eq_true c200
              clear c200
              by_cases c201 : x535000_6 < (t482.size : Int)
              rotate_left
              ·rw [if_neg c201] at H
               exact absurd H (by simp)
              rw [if_pos c201] at H
              have c201b0 : decide (x535000_6 < (t482.size : Int)) = true := decide_eq_true c201
              clear c201
              replace H := Option.bind_eq_some_iff.mp H
              obtain ⟨t535, A2030, H⟩ := H
              (try dsimp only at H)
              have A203 := Aside0.mk A2030
              clear A2030
              have c204b0 := eq_true (of_decide_eq_true (by first | (with_reducible assumption) | assumption) : 0 ≤ x535000_6)
              by_cases c205 : x535000_6 ≤ (wrap64 (x535000_6 + 1))
              rotate_left
              ·rw [if_neg c205] at H
               exact absurd H (by simp)
              rw [if_pos c205] at H
              have c205b0 := eq_true c205
              have c205b1 : decide (x535000_6 ≤ (wrap64 (x535000_6 + 1))) = true := decide_eq_true c205
              by_cases c206 : (wrap64 (x535000_6 + 1)) ≤ (t482.size : Int)
              rotate_left
              ·rw [if_neg c206] at H
               exact absurd H (by simp)
              rw [if_pos c206] at H
              have c206b0 := eq_true c206
              have c206b1 : decide ((wrap64 (x535000_6 + 1)) ≤ (t482.size : Int)) = true := decide_eq_true c206
              replace H := Option.bind_eq_some_iff.mp H
              obtain ⟨⟨t536, t537, t538, t539⟩, A2070, H⟩ := H
              (try dsimp only at H)
              have A207 := Aside0.mk A2070
              clear A2070
              have HC208 := Aside0.mk H
              clear H
              have hnb209 := NB534_467.out
              have hnc209 := NB467_534.out
              have hnb210 := NB534_476.out
              have hnc210 := NB476_534.out
              have hnb211 := NB534_481.out
              have hnc211 := NB481_534.out
              have hnb212 := NB534_508.out
              have hnc212 := NB508_534.out
              have hnb213 := NB534_513.out
              have hnc213 := NB513_534.out
              have hnb214 := NB534_525.out
              have hnc214 := NB525_534.out
              have hnb215 := NB534_532.out
              have hnc215 := NB532_534.out
              have p202 : 0 ≤ (x535000_6 : Int) := of_decide_eq_true (by first | (with_reducible assumption) | assumption)
              have q202 : x535000_6 < (t482.size : Int) := of_decide_eq_true (by first | (with_reducible assumption) | assumption)
              have hx202 := bt_at t482 x535000_6
              replace p202 := eq_true p202
              replace q202 := eq_true q202
              have hp_ := of_eq_true p202
              have hq_ := of_eq_true q202
              have ha_ : bt t482 x535000_6 < 128 := by
               have h_ := A203.out
               unfold strconv_Itoa_85.f at h_
               have hb_ := bt_range t482 x535000_6
               rw [show wrap64 (bt t482 x535000_6) = bt t482 x535000_6 by unfold wrap64; omega] at h_
               split at h_
               ·split at h_
                ·omega
                ·cases h_
               ·cases h_
              have hw_ : wrap64 (x535000_6 + 1) = x535000_6 + 1 := by
               have h_ := c205
               unfold wrap64 at h_ ⊢
               omega
              have hnx := nextU (P := Tryz.prog) BK534 hp_ hq_ ha_ hw_
              clear hp_ hq_ ha_ hw_
              go_wp2_with (fail)
              clear hnx
              have n0_ : Aside0 ((iterU wr gb534 t482 (wrap64 (x535000_6 + 1)).toNat).heap[gb467]? = some (.cells #[.int .i64 t463, .bool t464, .int .i64 t465] 25 (0, 0))) := ⟨bkU⟩
              have n1_ : Aside0 ((iterU wr gb534 t482 (wrap64 (x535000_6 + 1)).toNat).heap[gb476]? = some (.cells #[.int .i64 t472, .bool t473, .int .i64 t474] 25 (0, 0))) := ⟨bkU⟩
              have n2_ : Aside0 ((iterU wr gb534 t482 (wrap64 (x535000_6 + 1)).toNat).heap[gb481]? = some (.cells #[.int .i64 t477, .bool t478, .int .i64 t479] 25 (0, 0))) := ⟨bkU⟩
              have n3_ : Aside0 ((iterU wr gb534 t482 (wrap64 (x535000_6 + 1)).toNat).heap[gb508]? = some (.cells #[.int .i64 t504, .bool t505, .int .i64 t506] 25 (0, 0))) := ⟨bkU⟩
              have n4_ : Aside0 ((iterU wr gb534 t482 (wrap64 (x535000_6 + 1)).toNat).heap[gb513]? = some (.cells #[.int .i64 t509, .bool t510, .int .i64 t511] 25 (0, 0))) := ⟨bkU⟩
              have n5_ : Aside0 ((iterU wr gb534 t482 (wrap64 (x535000_6 + 1)).toNat).heap[gb525]? = some (.cells #[.int .i64 t521, .bool t522, .int .i64 t523] 25 (0, 0))) := ⟨bkU⟩
              have n6_ : Aside0 ((iterU wr gb534 t482 (wrap64 (x535000_6 + 1)).toNat).heap[gb532]? = some (.cells #[.int .i64 t528, .bool t529, .int .i64 t530] 25 (0, 0))) := ⟨bkU⟩
              have n7_ : Aside0 ((iterU wr gb534 t482 (wrap64 (x535000_6 + 1)).toNat).heap[gb534]? = some (.stringIter t482 ((wrap64 (x535000_6 + 1)) : Int).toNat)) := ⟨bkU⟩
              have n8_ : Aside0 (Below w.heap.size w (iterU wr gb534 t482 (wrap64 (x535000_6 + 1)).toNat)) := ⟨hbU⟩
              (try clear BK467); (try clear BK476); (try clear BK481); (try clear BK508); (try clear BK513); (try clear BK525); (try clear BK532); (try clear BK534); (try clear HB)
              generalize (iterU wr gb534 t482 (wrap64 (x535000_6 + 1)).toNat) = w217 at n0_ n1_ n2_ n3_ n4_ n5_ n6_ n7_ n8_ ⊢
              have BK467 := n0_
              have BK476 := n1_
              have BK481 := n2_
              have BK508 := n3_
              have BK513 := n4_
              have BK525 := n5_
              have BK532 := n6_
              have BK534 := n7_
              have HB := n8_
              clear n0_ n1_ n2_ n3_ n4_ n5_ n6_ n7_ n8_
              have n0_ := Aside0.mk (blk_drew BK467.out)
              have n1_ := Aside0.mk (blk_drew BK476.out)
              have n2_ := Aside0.mk (blk_drew BK481.out)
              have n3_ := Aside0.mk (blk_drew BK508.out)
              have n4_ := Aside0.mk (blk_drew BK513.out)
              have n5_ := Aside0.mk (blk_drew BK525.out)
              have n6_ := Aside0.mk (blk_drew BK532.out)
              have n7_ := Aside0.mk (blk_drew BK534.out)
              have n8_ := Aside0.mk (below_drew1 HB.out)
              clear BK467 BK476 BK481 BK508 BK513 BK525 BK532 BK534 HB
              have BK467 := n0_
              have BK476 := n1_
              have BK481 := n2_
              have BK508 := n3_
              have BK513 := n4_
              have BK525 := n5_
              have BK532 := n6_
              have BK534 := n7_
              have HB := n8_
              clear n0_ n1_ n2_ n3_ n4_ n5_ n6_ n7_ n8_
              refine start_ (n := 13) (S := fun w' => w'.cell? ⟨gb467, 0, none⟩ = some (.int .i64 t463) ∧ w'.cell? ⟨gb467, 1, none⟩ = some (.bool t464) ∧ w'.cell? ⟨gb467, 2, none⟩ = some (.int .i64 t465)) (ds := []) #[false, false, false, false, false, false, false, false, false, false, false, false, false] (by kernel_rfl) rfl rfl (c3U BK467) (fun hHeld => ?_); refine with_tabW laws_FnFramesPotted.tab33 laws_FnFramesPotted.bits33 (fun HT_ HW_ => ?_)
              generalize w217.drew = w218 at BK467 BK476 BK481 BK508 BK513 BK525 BK532 BK534 HB hHeld ⊢
              refine puU 1 428 HT_ ?_
              refine puU 2 429 HT_ ?_
              refine puU 3 430 HT_ ?_
              refine puU 4 431 HT_ ?_
              refine puU 5 432 HT_ ?_
              refine tkU 0 427 HT_ HW_ hHeld ?_
              refine join_ (σ := Nat) 2 #[true, true, true, true, true, true, true, true, true, true, true, false, false] (fun s_ => [(433, .tuple #[.agg #[.int .i64 t536, .bool t537, .int .i64 t538], .bool t539]), (52, .pointer (some ⟨s_, 0, none⟩)), (426, .tuple #[.agg #[.int .i64 t536, .bool t537, .int .i64 t538], .bool t539]), (434, .agg #[.int .i64 t536, .bool t537, .int .i64 t538]), (435, .bool t539)]) (fun s_ w' => (w'.cell? ⟨gb467, 0, none⟩ = some (.int .i64 t463) ∧ w'.cell? ⟨gb467, 1, none⟩ = some (.bool t464) ∧ w'.cell? ⟨gb467, 2, none⟩ = some (.int .i64 t465)) ∧ (w'.heap[gb467]? = some (.cells #[.int .i64 t463, .bool t464, .int .i64 t465] 25 (0, 0))) ∧ (w'.heap[gb476]? = some (.cells #[.int .i64 t472, .bool t473, .int .i64 t474] 25 (0, 0))) ∧ (w'.heap[gb481]? = some (.cells #[.int .i64 t477, .bool t478, .int .i64 t479] 25 (0, 0))) ∧ (w'.heap[gb508]? = some (.cells #[.int .i64 t504, .bool t505, .int .i64 t506] 25 (0, 0))) ∧ (w'.heap[gb513]? = some (.cells #[.int .i64 t509, .bool t510, .int .i64 t511] 25 (0, 0))) ∧ (w'.heap[gb525]? = some (.cells #[.int .i64 t521, .bool t522, .int .i64 t523] 25 (0, 0))) ∧ (w'.heap[gb532]? = some (.cells #[.int .i64 t528, .bool t529, .int .i64 t530] 25 (0, 0))) ∧ (w'.heap[gb534]? = some (.stringIter t482 ((wrap64 (x535000_6 + 1)) : Int).toNat)) ∧ (w'.heap[s_]? = some (.cells #[.int .i64 0, .bool false, .int .i64 0] 25 (0, 0))) ∧ (w.heap.size ≤ s_) ∧ (w.heap.size ≤ s_) ∧ (gb467 ≠ s_) ∧ (s_ ≠ gb467) ∧ (gb476 ≠ s_) ∧ (s_ ≠ gb476) ∧ (gb481 ≠ s_) ∧ (s_ ≠ gb481) ∧ (gb508 ≠ s_) ∧ (s_ ≠ gb508) ∧ (gb513 ≠ s_) ∧ (s_ ≠ gb513) ∧ (gb525 ≠ s_) ∧ (s_ ≠ gb525) ∧ (gb532 ≠ s_) ∧ (s_ ≠ gb532) ∧ (gb534 ≠ s_) ∧ (s_ ≠ gb534) ∧ (Below w.heap.size w w')) ?_ ?_
              rotate_left
              ·intro hCont
               refine two_ (i := 6) (j := 10) (Ni := some 433) (Nj := some 52) #[true, true, true, true, true, true, true, false, false, false, false, false, false] #[true, true, true, true, true, true, false, false, false, false, true, false, false] rfl rfl rfl rfl (two_of HT_.out (by kernel_rfl)) (by decide) (by decide) (fun K hK => ?_) (fun K hK => ?_)
               ·skip
                refine goes_ Tryz.func29 (by kernel_rfl) rfl #[.agg #[.int .i64 t463, .bool t464, .int .i64 t465], .string (t482.extract (x535000_6 : Int).toNat ((wrap64 (x535000_6 + 1)) : Int).toNat)] (by rfl) rfl rfl arU ?_
                with_reducible refine (impl_PotBall.calls k6 t463 t464 t465 (t482.extract (x535000_6 : Int).toNat ((wrap64 (x535000_6 + 1)) : Int).toNat) t536 t537 t538 t539 _ A207.out).mono ?_
                rintro e w219 ⟨rfl, hb⟩
                refine ⟨_, rfl, ?_⟩
                have n0_ := bbU BK467 hb
                have n1_ := bbU BK476 hb
                have n2_ := bbU BK481 hb
                have n3_ := bbU BK508 hb
                have n4_ := bbU BK513 hb
                have n5_ := bbU BK525 hb
                have n6_ := bbU BK532 hb
                have n7_ := Aside0.mk (blk_below (g := gb534) (o := .stringIter t482 ((wrap64 (x535000_6 + 1)) : Int).toNat) bkU hb)
                have n8_ := bsU hb
                clear BK467 BK476 BK481 BK508 BK513 BK525 BK532 BK534 HB
                have BK467 := n0_
                have BK476 := n1_
                have BK481 := n2_
                have BK508 := n3_
                have BK513 := n4_
                have BK525 := n5_
                have BK532 := n6_
                have BK534 := n7_
                have HB := n8_
                clear n0_ n1_ n2_ n3_ n4_ n5_ n6_ n7_ n8_
                (try clear hb)
                refine hK.out _ _ (c3U BK467) (fun hHeld => ?_)
                clear hK K
                refine norm_ (a' := ?_) ?_ ?_
                rotate_left
                ·show Act.put _ (some 433) _ = _
                 simp only [Act.put, List.setIfInBounds_toArray, List.set_cons_zero, List.set_cons_succ, i64_w, i32_w]
                 rfl
                refine puU 7 426 HT_ ?_
                refine puU 8 434 HT_ ?_
                refine puU 9 435 HT_ ?_
                refine onU 10 (some 52) HT_ (fun K hK => ?_)
                refine box_step ?hg (N := 52) ?hd (cs := #[.int .i64 0, .bool false, .int .i64 0]) (t := 25) ?hr ?_; (case hd => rfl); (case hg => rfl); (case hr => first | (go_simp; done) | (go_simp; rfl))
                intro gb540 hg w220 hbox hb
                have n0_ := bbU BK467 hb
                have n1_ := bbU BK476 hb
                have n2_ := bbU BK481 hb
                have n3_ := bbU BK508 hb
                have n4_ := bbU BK513 hb
                have n5_ := bbU BK525 hb
                have n6_ := bbU BK532 hb
                have n7_ := Aside0.mk (blk_below (g := gb534) (o := .stringIter t482 ((wrap64 (x535000_6 + 1)) : Int).toNat) bkU hb)
                have n8_ := bsU hb
                have n9_ := Aside0.mk (hbox)
                have n10_ := geU hg
                have n11_ := geU hg
                have n12_ := neU BK467 hg
                have n13_ := enU BK467 hg
                have n14_ := neU BK476 hg
                have n15_ := enU BK476 hg
                have n16_ := neU BK481 hg
                have n17_ := enU BK481 hg
                have n18_ := neU BK508 hg
                have n19_ := enU BK508 hg
                have n20_ := neU BK513 hg
                have n21_ := enU BK513 hg
                have n22_ := neU BK525 hg
                have n23_ := enU BK525 hg
                have n24_ := neU BK532 hg
                have n25_ := enU BK532 hg
                have n26_ := Aside0.mk ((by rw [hg]; exact Nat.ne_of_lt (blk_lt (g := gb534) (o := .stringIter t482 ((wrap64 (x535000_6 + 1)) : Int).toNat) bkU) : gb534 ≠ gb540))
                have n27_ := Aside0.mk ((by rw [hg]; exact Nat.ne_of_gt (blk_lt (g := gb534) (o := .stringIter t482 ((wrap64 (x535000_6 + 1)) : Int).toNat) bkU) : gb540 ≠ gb534))
                clear BK467 BK476 BK481 BK508 BK513 BK525 BK532 BK534 HB
                have BK467 := n0_
                have BK476 := n1_
                have BK481 := n2_
                have BK508 := n3_
                have BK513 := n4_
                have BK525 := n5_
                have BK532 := n6_
                have BK534 := n7_
                have HB := n8_
                have BK540 := n9_
                have GW540 := n10_
                have GE540 := n11_
                have NB467_540 := n12_
                have NB540_467 := n13_
                have NB476_540 := n14_
                have NB540_476 := n15_
                have NB481_540 := n16_
                have NB540_481 := n17_
                have NB508_540 := n18_
                have NB540_508 := n19_
                have NB513_540 := n20_
                have NB540_513 := n21_
                have NB525_540 := n22_
                have NB540_525 := n23_
                have NB532_540 := n24_
                have NB540_532 := n25_
                have NB534_540 := n26_
                have NB540_534 := n27_
                clear n0_ n1_ n2_ n3_ n4_ n5_ n6_ n7_ n8_ n9_ n10_ n11_ n12_ n13_ n14_ n15_ n16_ n17_ n18_ n19_ n20_ n21_ n22_ n23_ n24_ n25_ n26_ n27_ hb hbox hg
                refine hK.out _ _ (c3U BK467) (fun hHeld => ?_)
                clear hK K
                refine norm_ (a' := ?_) ?_ ?_
                rotate_left
                ·show Act.put _ (some 52) _ = _
                 simp only [Act.put, List.setIfInBounds_toArray, List.set_cons_zero, List.set_cons_succ, i64_w, i32_w]
                 rfl
                exact norm_ (by simp only [putAll, Act.put, List.setIfInBounds_toArray, List.set_cons_zero, List.set_cons_succ]) (hCont (gb540) _ ⟨hHeld, bkU, bkU, bkU, bkU, bkU, bkU, bkU, bkU, bkU, GW540.out, GE540.out, NB467_540.out, NB540_467.out, NB476_540.out, NB540_476.out, NB481_540.out, NB540_481.out, NB508_540.out, NB540_508.out, NB513_540.out, NB540_513.out, NB525_540.out, NB540_525.out, NB532_540.out, NB540_532.out, NB534_540.out, NB540_534.out, hbU⟩)
               ·skip
                refine box_step ?hg (N := 52) ?hd (cs := #[.int .i64 0, .bool false, .int .i64 0]) (t := 25) ?hr ?_; (case hd => rfl); (case hg => rfl); (case hr => first | (go_simp; done) | (go_simp; rfl))
                intro gb540 hg w219 hbox hb
                have n0_ := bbU BK467 hb
                have n1_ := bbU BK476 hb
                have n2_ := bbU BK481 hb
                have n3_ := bbU BK508 hb
                have n4_ := bbU BK513 hb
                have n5_ := bbU BK525 hb
                have n6_ := bbU BK532 hb
                have n7_ := Aside0.mk (blk_below (g := gb534) (o := .stringIter t482 ((wrap64 (x535000_6 + 1)) : Int).toNat) bkU hb)
                have n8_ := bsU hb
                have n9_ := Aside0.mk (hbox)
                have n10_ := geU hg
                have n11_ := geU hg
                have n12_ := neU BK467 hg
                have n13_ := enU BK467 hg
                have n14_ := neU BK476 hg
                have n15_ := enU BK476 hg
                have n16_ := neU BK481 hg
                have n17_ := enU BK481 hg
                have n18_ := neU BK508 hg
                have n19_ := enU BK508 hg
                have n20_ := neU BK513 hg
                have n21_ := enU BK513 hg
                have n22_ := neU BK525 hg
                have n23_ := enU BK525 hg
                have n24_ := neU BK532 hg
                have n25_ := enU BK532 hg
                have n26_ := Aside0.mk ((by rw [hg]; exact Nat.ne_of_lt (blk_lt (g := gb534) (o := .stringIter t482 ((wrap64 (x535000_6 + 1)) : Int).toNat) bkU) : gb534 ≠ gb540))
                have n27_ := Aside0.mk ((by rw [hg]; exact Nat.ne_of_gt (blk_lt (g := gb534) (o := .stringIter t482 ((wrap64 (x535000_6 + 1)) : Int).toNat) bkU) : gb540 ≠ gb534))
                clear BK467 BK476 BK481 BK508 BK513 BK525 BK532 BK534 HB
                have BK467 := n0_
                have BK476 := n1_
                have BK481 := n2_
                have BK508 := n3_
                have BK513 := n4_
                have BK525 := n5_
                have BK532 := n6_
                have BK534 := n7_
                have HB := n8_
                have BK540 := n9_
                have GW540 := n10_
                have GE540 := n11_
                have NB467_540 := n12_
                have NB540_467 := n13_
                have NB476_540 := n14_
                have NB540_476 := n15_
                have NB481_540 := n16_
                have NB540_481 := n17_
                have NB508_540 := n18_
                have NB540_508 := n19_
                have NB513_540 := n20_
                have NB540_513 := n21_
                have NB525_540 := n22_
                have NB540_525 := n23_
                have NB532_540 := n24_
                have NB540_532 := n25_
                have NB534_540 := n26_
                have NB540_534 := n27_
                clear n0_ n1_ n2_ n3_ n4_ n5_ n6_ n7_ n8_ n9_ n10_ n11_ n12_ n13_ n14_ n15_ n16_ n17_ n18_ n19_ n20_ n21_ n22_ n23_ n24_ n25_ n26_ n27_ hb hbox hg
                refine hK.out _ _ (c3U BK467) (fun hHeld => ?_)
                clear hK K
                refine norm_ (a' := ?_) ?_ ?_
                rotate_left
                ·show Act.put _ (some 52) _ = _
                 simp only [Act.put, List.setIfInBounds_toArray, List.set_cons_zero, List.set_cons_succ, i64_w, i32_w]
                 rfl
                refine onU 6 (some 433) HT_ (fun K hK => ?_)
                refine goes_ Tryz.func29 (by kernel_rfl) rfl #[.agg #[.int .i64 t463, .bool t464, .int .i64 t465], .string (t482.extract (x535000_6 : Int).toNat ((wrap64 (x535000_6 + 1)) : Int).toNat)] (by rfl) rfl rfl arU ?_
                with_reducible refine (impl_PotBall.calls k6 t463 t464 t465 (t482.extract (x535000_6 : Int).toNat ((wrap64 (x535000_6 + 1)) : Int).toNat) t536 t537 t538 t539 _ A207.out).mono ?_
                rintro e w220 ⟨rfl, hb⟩
                refine ⟨_, rfl, ?_⟩
                have n0_ := bbU BK467 hb
                have n1_ := bbU BK476 hb
                have n2_ := bbU BK481 hb
                have n3_ := bbU BK508 hb
                have n4_ := bbU BK513 hb
                have n5_ := bbU BK525 hb
                have n6_ := bbU BK532 hb
                have n7_ := Aside0.mk (blk_below (g := gb534) (o := .stringIter t482 ((wrap64 (x535000_6 + 1)) : Int).toNat) bkU hb)
                have n8_ := bbU BK540 hb
                have n9_ := bsU hb
                clear BK467 BK476 BK481 BK508 BK513 BK525 BK532 BK534 BK540 HB
                have BK467 := n0_
                have BK476 := n1_
                have BK481 := n2_
                have BK508 := n3_
                have BK513 := n4_
                have BK525 := n5_
                have BK532 := n6_
                have BK534 := n7_
                have BK540 := n8_
                have HB := n9_
                clear n0_ n1_ n2_ n3_ n4_ n5_ n6_ n7_ n8_ n9_
                (try clear hb)
                refine hK.out _ _ (c3U BK467) (fun hHeld => ?_)
                clear hK K
                refine norm_ (a' := ?_) ?_ ?_
                rotate_left
                ·show Act.put _ (some 433) _ = _
                 simp only [Act.put, List.setIfInBounds_toArray, List.set_cons_zero, List.set_cons_succ, i64_w, i32_w]
                 rfl
                refine puU 7 426 HT_ ?_
                refine puU 8 434 HT_ ?_
                refine puU 9 435 HT_ ?_
                exact norm_ (by simp only [putAll, Act.put, List.setIfInBounds_toArray, List.set_cons_zero, List.set_cons_succ]) (hCont (gb540) _ ⟨hHeld, bkU, bkU, bkU, bkU, bkU, bkU, bkU, bkU, bkU, GW540.out, GE540.out, NB467_540.out, NB540_467.out, NB476_540.out, NB540_476.out, NB481_540.out, NB540_481.out, NB508_540.out, NB540_508.out, NB513_540.out, NB540_513.out, NB525_540.out, NB540_525.out, NB532_540.out, NB540_532.out, NB534_540.out, NB540_534.out, hbU⟩)
              rintro gb540 w221 ⟨hS_, h0_, h1_, h2_, h3_, h4_, h5_, h6_, h7_, h8_, h9_, h10_, h11_, h12_, h13_, h14_, h15_, h16_, h17_, h18_, h19_, h20_, h21_, h22_, h23_, h24_, h25_, h26_, h27_⟩
              have n0_ : Aside0 (w221.heap[gb467]? = some (.cells #[.int .i64 t463, .bool t464, .int .i64 t465] 25 (0, 0))) := ⟨h0_⟩
              have n1_ : Aside0 (w221.heap[gb476]? = some (.cells #[.int .i64 t472, .bool t473, .int .i64 t474] 25 (0, 0))) := ⟨h1_⟩
              have n2_ : Aside0 (w221.heap[gb481]? = some (.cells #[.int .i64 t477, .bool t478, .int .i64 t479] 25 (0, 0))) := ⟨h2_⟩
              have n3_ : Aside0 (w221.heap[gb508]? = some (.cells #[.int .i64 t504, .bool t505, .int .i64 t506] 25 (0, 0))) := ⟨h3_⟩
              have n4_ : Aside0 (w221.heap[gb513]? = some (.cells #[.int .i64 t509, .bool t510, .int .i64 t511] 25 (0, 0))) := ⟨h4_⟩
              have n5_ : Aside0 (w221.heap[gb525]? = some (.cells #[.int .i64 t521, .bool t522, .int .i64 t523] 25 (0, 0))) := ⟨h5_⟩
              have n6_ : Aside0 (w221.heap[gb532]? = some (.cells #[.int .i64 t528, .bool t529, .int .i64 t530] 25 (0, 0))) := ⟨h6_⟩
              have n7_ : Aside0 (w221.heap[gb534]? = some (.stringIter t482 ((wrap64 (x535000_6 + 1)) : Int).toNat)) := ⟨h7_⟩
              have n8_ : Aside0 (w221.heap[gb540]? = some (.cells #[.int .i64 0, .bool false, .int .i64 0] 25 (0, 0))) := ⟨h8_⟩
              have n9_ : Aside0 (w.heap.size ≤ gb540) := ⟨h9_⟩
              have n10_ : Aside0 (w.heap.size ≤ gb540) := ⟨h10_⟩
              have n11_ : Aside0 (gb467 ≠ gb540) := ⟨h11_⟩
              have n12_ : Aside0 (gb540 ≠ gb467) := ⟨h12_⟩
              have n13_ : Aside0 (gb476 ≠ gb540) := ⟨h13_⟩
              have n14_ : Aside0 (gb540 ≠ gb476) := ⟨h14_⟩
              have n15_ : Aside0 (gb481 ≠ gb540) := ⟨h15_⟩
              have n16_ : Aside0 (gb540 ≠ gb481) := ⟨h16_⟩
              have n17_ : Aside0 (gb508 ≠ gb540) := ⟨h17_⟩
              have n18_ : Aside0 (gb540 ≠ gb508) := ⟨h18_⟩
              have n19_ : Aside0 (gb513 ≠ gb540) := ⟨h19_⟩
              have n20_ : Aside0 (gb540 ≠ gb513) := ⟨h20_⟩
              have n21_ : Aside0 (gb525 ≠ gb540) := ⟨h21_⟩
              have n22_ : Aside0 (gb540 ≠ gb525) := ⟨h22_⟩
              have n23_ : Aside0 (gb532 ≠ gb540) := ⟨h23_⟩
              have n24_ : Aside0 (gb540 ≠ gb532) := ⟨h24_⟩
              have n25_ : Aside0 (gb534 ≠ gb540) := ⟨h25_⟩
              have n26_ : Aside0 (gb540 ≠ gb534) := ⟨h26_⟩
              have n27_ : Aside0 (Below w.heap.size w w221) := ⟨h27_⟩
              clear BK467 BK476 BK481 BK508 BK513 BK525 BK532 BK534 HB h0_ h1_ h2_ h3_ h4_ h5_ h6_ h7_ h8_ h9_ h10_ h11_ h12_ h13_ h14_ h15_ h16_ h17_ h18_ h19_ h20_ h21_ h22_ h23_ h24_ h25_ h26_ h27_
              have BK467 := n0_
              have BK476 := n1_
              have BK481 := n2_
              have BK508 := n3_
              have BK513 := n4_
              have BK525 := n5_
              have BK532 := n6_
              have BK534 := n7_
              have BK540 := n8_
              have GW540 := n9_
              have GE540 := n10_
              have NB467_540 := n11_
              have NB540_467 := n12_
              have NB476_540 := n13_
              have NB540_476 := n14_
              have NB481_540 := n15_
              have NB540_481 := n16_
              have NB508_540 := n17_
              have NB540_508 := n18_
              have NB513_540 := n19_
              have NB540_513 := n20_
              have NB525_540 := n21_
              have NB540_525 := n22_
              have NB532_540 := n23_
              have NB540_532 := n24_
              have NB534_540 := n25_
              have NB540_534 := n26_
              have HB := n27_
              clear n0_ n1_ n2_ n3_ n4_ n5_ n6_ n7_ n8_ n9_ n10_ n11_ n12_ n13_ n14_ n15_ n16_ n17_ n18_ n19_ n20_ n21_ n22_ n23_ n24_ n25_ n26_ n27_
              have hHeld : w221.cell? ⟨gb467, 0, none⟩ = some (.int .i64 t463) ∧ w221.cell? ⟨gb467, 1, none⟩ = some (.bool t464) ∧ w221.cell? ⟨gb467, 2, none⟩ = some (.int .i64 t465) := hS_
              refine norm_ (a' := ?_) ?_ ?_
              rotate_left
              ·simp only [putAll, Act.put, List.setIfInBounds_toArray, List.set_cons_zero, List.set_cons_succ]
               rfl
              refine onU 11 none HT_ (fun K hK => ?_)
              have hs222 : w221.cell? ⟨gb540, 0, none⟩ = some (.int .i64 0) := (blk_cell BK540.out 0).trans rfl
              have hfs222 := blk_frozen BK540.out 0
              have hns222_0 := NB467_540.out
              have hns222_1 := NB476_540.out
              have hns222_2 := NB481_540.out
              have hns222_3 := NB508_540.out
              have hns222_4 := NB513_540.out
              have hns222_5 := NB525_540.out
              have hns222_6 := NB532_540.out
              have hns222_7 := NB534_540.out
              have hms222_0 := NB540_467.out
              have hms222_1 := NB540_476.out
              have hms222_2 := NB540_481.out
              have hms222_3 := NB540_508.out
              have hms222_4 := NB540_513.out
              have hms222_5 := NB540_525.out
              have hms222_6 := NB540_532.out
              have hms222_7 := NB540_534.out
              have hs223 : w221.cell? ⟨gb540, 1, none⟩ = some (.bool false) := (blk_cell BK540.out 1).trans rfl
              have hfs223 := blk_frozen BK540.out 1
              have hns223_0 := NB467_540.out
              have hns223_1 := NB476_540.out
              have hns223_2 := NB481_540.out
              have hns223_3 := NB508_540.out
              have hns223_4 := NB513_540.out
              have hns223_5 := NB525_540.out
              have hns223_6 := NB532_540.out
              have hns223_7 := NB534_540.out
              have hms223_0 := NB540_467.out
              have hms223_1 := NB540_476.out
              have hms223_2 := NB540_481.out
              have hms223_3 := NB540_508.out
              have hms223_4 := NB540_513.out
              have hms223_5 := NB540_525.out
              have hms223_6 := NB540_532.out
              have hms223_7 := NB540_534.out
              have hs224 : w221.cell? ⟨gb540, 2, none⟩ = some (.int .i64 0) := (blk_cell BK540.out 2).trans rfl
              have hfs224 := blk_frozen BK540.out 2
              have hns224_0 := NB467_540.out
              have hns224_1 := NB476_540.out
              have hns224_2 := NB481_540.out
              have hns224_3 := NB508_540.out
              have hns224_4 := NB513_540.out
              have hns224_5 := NB525_540.out
              have hns224_6 := NB532_540.out
              have hns224_7 := NB534_540.out
              have hms224_0 := NB540_467.out
              have hms224_1 := NB540_476.out
              have hms224_2 := NB540_481.out
              have hms224_3 := NB540_508.out
              have hms224_4 := NB540_513.out
              have hms224_5 := NB540_525.out
              have hms224_6 := NB540_532.out
              have hms224_7 := NB540_534.out
              refine skip_ (w1 := ?_) (by rfl) rfl ?_ ?_
              rotate_left
              ·go_simp
               rfl
              refine hK.out _ _ ⟨((cell_far (p := ⟨gb540, _, none⟩) NB467_540.out _).trans (((cell_far (p := ⟨gb540, _, none⟩) NB467_540.out _).trans (((cell_far (p := ⟨gb540, _, none⟩) NB467_540.out _).trans (hHeld.1)))))), ((cell_far (p := ⟨gb540, _, none⟩) NB467_540.out _).trans (((cell_far (p := ⟨gb540, _, none⟩) NB467_540.out _).trans (((cell_far (p := ⟨gb540, _, none⟩) NB467_540.out _).trans (hHeld.2.1)))))), ((cell_far (p := ⟨gb540, _, none⟩) NB467_540.out _).trans (((cell_far (p := ⟨gb540, _, none⟩) NB467_540.out _).trans (((cell_far (p := ⟨gb540, _, none⟩) NB467_540.out _).trans (hHeld.2.2))))))⟩ (fun hHeld => ?_)
              clear hK K
              refine puU 12 53 HT_ ?_
              refine dnU HT_ ?_
              go_upto_region 34 with (fail)
              go_cut [456] from 9999 to 9999 (fun v456 wc => ∃ (kq : Nat) (x456_207 : Bool), v456 = .bool x456_207 ∧ Aside0 (laws_FnFramesPotted.j6 kq l1 t466 t475 t482 t487 t500 (t482.size : Int) x456_207 t463 t464 t465 t472 t473 t474 (wrap64 (x535000_6 + 1)) false 0 t536 t537 t538 = some r) ∧ Aside0 (kq ≤ k6) ∧ Aside0 (wc.heap[gb467]? = some (.cells #[.int .i64 t463, .bool t464, .int .i64 t465] 25 (0, 0))) ∧ Aside0 (wc.heap[gb476]? = some (.cells #[.int .i64 t472, .bool t473, .int .i64 t474] 25 (0, 0))) ∧ Aside0 (wc.heap[gb481]? = some (.cells #[.int .i64 t477, .bool t478, .int .i64 t479] 25 (0, 0))) ∧ Aside0 (wc.heap[gb508]? = some (.cells #[.int .i64 t504, .bool t505, .int .i64 t506] 25 (0, 0))) ∧ Aside0 (wc.heap[gb513]? = some (.cells #[.int .i64 t509, .bool t510, .int .i64 t511] 25 (0, 0))) ∧ Aside0 (wc.heap[gb525]? = some (.cells #[.int .i64 t521, .bool t522, .int .i64 t523] 25 (0, 0))) ∧ Aside0 (wc.heap[gb532]? = some (.cells #[.int .i64 t528, .bool t529, .int .i64 t530] 25 (0, 0))) ∧ Aside0 (wc.heap[gb534]? = some (.stringIter t482 ((wrap64 (x535000_6 + 1)) : Int).toNat)) ∧ Aside0 (wc.heap[gb540]? = some (.cells #[.int .i64 t536, .bool t537, .int .i64 t538] 25 (0, 0))) ∧ Aside0 (Below w.heap.size w wc))
              case first => as_aux_lemma =>
               have H := HC208.out
               clear HC208
               by_cases c225 : x535000_6 > 0
               rotate_left
               ·rw [if_neg c225] at H
                have c225b0 : decide (0 < x535000_6) = false := decide_eq_false c225
                clear c225
                (first | rw [c225b0] | (simp only [i64_w, i32_w]; rw [c225b0]) | skip)
                by_cases c237 : t539 = true
                rotate_left
                ·replace c237 := Bool.eq_false_iff.mpr c237
                 subst c237
                 rw [if_neg (show ¬ (false = true) by decide)] at H
                 exact absurd H (by simp)
                subst c237
                rw [if_pos rfl] at H
                replace H := Option.bind_eq_some_iff.mp H
                obtain ⟨t542, A2380, H⟩ := H
                (try dsimp only at H)
                have A238 := Aside0.mk A2380
                clear A2380
                have H' := Aside0.mk H
                clear H
                try go_wp2
                have n0_ : Aside0 ((((w221.setCell ⟨gb540, 0, none⟩ (.int .i64 t536)).setCell ⟨gb540, 1, none⟩ (.bool t537)).setCell ⟨gb540, 2, none⟩ (.int .i64 t538)).heap[gb467]? = some (.cells #[.int .i64 t463, .bool t464, .int .i64 t465] 25 (0, 0))) := ⟨bkU⟩
                have n1_ : Aside0 ((((w221.setCell ⟨gb540, 0, none⟩ (.int .i64 t536)).setCell ⟨gb540, 1, none⟩ (.bool t537)).setCell ⟨gb540, 2, none⟩ (.int .i64 t538)).heap[gb476]? = some (.cells #[.int .i64 t472, .bool t473, .int .i64 t474] 25 (0, 0))) := ⟨bkU⟩
                have n2_ : Aside0 ((((w221.setCell ⟨gb540, 0, none⟩ (.int .i64 t536)).setCell ⟨gb540, 1, none⟩ (.bool t537)).setCell ⟨gb540, 2, none⟩ (.int .i64 t538)).heap[gb481]? = some (.cells #[.int .i64 t477, .bool t478, .int .i64 t479] 25 (0, 0))) := ⟨bkU⟩
                have n3_ : Aside0 ((((w221.setCell ⟨gb540, 0, none⟩ (.int .i64 t536)).setCell ⟨gb540, 1, none⟩ (.bool t537)).setCell ⟨gb540, 2, none⟩ (.int .i64 t538)).heap[gb508]? = some (.cells #[.int .i64 t504, .bool t505, .int .i64 t506] 25 (0, 0))) := ⟨bkU⟩
                have n4_ : Aside0 ((((w221.setCell ⟨gb540, 0, none⟩ (.int .i64 t536)).setCell ⟨gb540, 1, none⟩ (.bool t537)).setCell ⟨gb540, 2, none⟩ (.int .i64 t538)).heap[gb513]? = some (.cells #[.int .i64 t509, .bool t510, .int .i64 t511] 25 (0, 0))) := ⟨bkU⟩
                have n5_ : Aside0 ((((w221.setCell ⟨gb540, 0, none⟩ (.int .i64 t536)).setCell ⟨gb540, 1, none⟩ (.bool t537)).setCell ⟨gb540, 2, none⟩ (.int .i64 t538)).heap[gb525]? = some (.cells #[.int .i64 t521, .bool t522, .int .i64 t523] 25 (0, 0))) := ⟨bkU⟩
                have n6_ : Aside0 ((((w221.setCell ⟨gb540, 0, none⟩ (.int .i64 t536)).setCell ⟨gb540, 1, none⟩ (.bool t537)).setCell ⟨gb540, 2, none⟩ (.int .i64 t538)).heap[gb532]? = some (.cells #[.int .i64 t528, .bool t529, .int .i64 t530] 25 (0, 0))) := ⟨bkU⟩
                have n7_ : Aside0 ((((w221.setCell ⟨gb540, 0, none⟩ (.int .i64 t536)).setCell ⟨gb540, 1, none⟩ (.bool t537)).setCell ⟨gb540, 2, none⟩ (.int .i64 t538)).heap[gb534]? = some (.stringIter t482 ((wrap64 (x535000_6 + 1)) : Int).toNat)) := ⟨bkU⟩
                have n8_ : Aside0 ((((w221.setCell ⟨gb540, 0, none⟩ (.int .i64 t536)).setCell ⟨gb540, 1, none⟩ (.bool t537)).setCell ⟨gb540, 2, none⟩ (.int .i64 t538)).heap[gb540]? = some (.cells #[.int .i64 t536, .bool t537, .int .i64 t538] 25 (0, 0))) := ⟨bkU⟩
                have n9_ : Aside0 (Below w.heap.size w (((w221.setCell ⟨gb540, 0, none⟩ (.int .i64 t536)).setCell ⟨gb540, 1, none⟩ (.bool t537)).setCell ⟨gb540, 2, none⟩ (.int .i64 t538))) := ⟨hbU⟩
                (try clear BK467); (try clear BK476); (try clear BK481); (try clear BK508); (try clear BK513); (try clear BK525); (try clear BK532); (try clear BK534); (try clear BK540); (try clear HB)
                generalize (((w221.setCell ⟨gb540, 0, none⟩ (.int .i64 t536)).setCell ⟨gb540, 1, none⟩ (.bool t537)).setCell ⟨gb540, 2, none⟩ (.int .i64 t538)) = w239 at n0_ n1_ n2_ n3_ n4_ n5_ n6_ n7_ n8_ n9_ ⊢
                have BK467 := n0_
                have BK476 := n1_
                have BK481 := n2_
                have BK508 := n3_
                have BK513 := n4_
                have BK525 := n5_
                have BK532 := n6_
                have BK534 := n7_
                have BK540 := n8_
                have HB := n9_
                clear n0_ n1_ n2_ n3_ n4_ n5_ n6_ n7_ n8_ n9_
                have n0_ := Aside0.mk (blk_drew BK467.out)
                have n1_ := Aside0.mk (blk_drew BK476.out)
                have n2_ := Aside0.mk (blk_drew BK481.out)
                have n3_ := Aside0.mk (blk_drew BK508.out)
                have n4_ := Aside0.mk (blk_drew BK513.out)
                have n5_ := Aside0.mk (blk_drew BK525.out)
                have n6_ := Aside0.mk (blk_drew BK532.out)
                have n7_ := Aside0.mk (blk_drew BK534.out)
                have n8_ := Aside0.mk (blk_drew BK540.out)
                have n9_ := Aside0.mk (below_drew1 HB.out)
                clear BK467 BK476 BK481 BK508 BK513 BK525 BK532 BK534 BK540 HB
                have BK467 := n0_
                have BK476 := n1_
                have BK481 := n2_
                have BK508 := n3_
                have BK513 := n4_
                have BK525 := n5_
                have BK532 := n6_
                have BK534 := n7_
                have BK540 := n8_
                have HB := n9_
                clear n0_ n1_ n2_ n3_ n4_ n5_ n6_ n7_ n8_ n9_
                refine start_ (n := 21) (S := fun w' => w'.cell? ⟨gb540, 0, none⟩ = some (.int .i64 t536) ∧ w'.cell? ⟨gb540, 1, none⟩ = some (.bool t537) ∧ w'.cell? ⟨gb540, 2, none⟩ = some (.int .i64 t538)) (ds := []) #[false, false, false, false, false, false, false, false, false, false, false, false, false, false, false, false, false, false, false, false, false] (by kernel_rfl) rfl rfl (c3U BK540) (fun hHeld => ?_); refine with_tabW laws_FnFramesPotted.tab34 laws_FnFramesPotted.bits34 (fun HT_ HW_ => ?_)
                generalize w239.drew = w240 at BK467 BK476 BK481 BK508 BK513 BK525 BK532 BK534 BK540 HB hHeld ⊢
                refine puU 0 436 HT_ ?_
                refine puU 1 437 HT_ ?_
                refine puU 2 438 HT_ ?_
                refine pfU 3 439 HT_ ?_
                refine pfU 4 440 HT_ ?_
                refine pfU 5 441 HT_ ?_
                refine pfU 6 442 HT_ ?_
                refine pfU 7 443 HT_ ?_
                refine pfU 8 444 HT_ ?_
                refine pfU 9 445 HT_ ?_
                as_aux_lemma =>
                 refine pfU 10 446 HT_ ?_
                 refine puU 11 447 HT_ ?_
                 refine puU 12 448 HT_ ?_
                 refine puU 13 449 HT_ ?_
                 refine puU 14 450 HT_ ?_
                 refine puU 15 451 HT_ ?_
                 refine puU 16 452 HT_ ?_
                 refine tkU 17 453 HT_ HW_ hHeld ?_
                 refine onU 18 (some 454) HT_ (fun K hK => ?_)
                 refine goes_ Tryz.func25 (by kernel_rfl) rfl #[.agg #[.int .i64 t536, .bool t537, .int .i64 t538]] (by rfl) rfl rfl arU ?_
                 with_reducible refine (impl_IsFrame.calls k6 t536 t537 t538 t542 _ A238.out).mono ?_
                 rintro e w241 ⟨rfl, hb⟩
                 refine ⟨_, rfl, ?_⟩
                 have n0_ := bbU BK467 hb
                 have n1_ := bbU BK476 hb
                 have n2_ := bbU BK481 hb
                 have n3_ := bbU BK508 hb
                 have n4_ := bbU BK513 hb
                 have n5_ := bbU BK525 hb
                 have n6_ := bbU BK532 hb
                 have n7_ := Aside0.mk (blk_below (g := gb534) (o := .stringIter t482 ((wrap64 (x535000_6 + 1)) : Int).toNat) bkU hb)
                 have n8_ := bbU BK540 hb
                 have n9_ := bsU hb
                 clear BK467 BK476 BK481 BK508 BK513 BK525 BK532 BK534 BK540 HB
                 have BK467 := n0_
                 have BK476 := n1_
                 have BK481 := n2_
                 have BK508 := n3_
                 have BK513 := n4_
                 have BK525 := n5_
                 have BK532 := n6_
                 have BK534 := n7_
                 have BK540 := n8_
                 have HB := n9_
                 clear n0_ n1_ n2_ n3_ n4_ n5_ n6_ n7_ n8_ n9_
                 (try clear hb)
                 refine hK.out _ _ (c3U BK540) (fun hHeld => ?_)
                 clear hK K
                 refine norm_ (a' := ?_) ?_ ?_
                 rotate_left
                 ·show Act.put _ (some 454) _ = _
                  simp only [Act.put, List.setIfInBounds_toArray, List.set_cons_zero, List.set_cons_succ, i64_w, i32_w]
                  rfl
                 refine puU 19 455 HT_ ?_
                 refine puU 20 456 HT_ ?_
                 refine dnU HT_ ?_
                 try go_wp2
                 go_meet
                 case rel => exact ⟨_, (!t542), eqU, H', ⟨by have := HJ3.out; have := HJ24.out; have := HJ128.out; have := HJ135.out; have := HJ195.out; have := HK6.out; first | omega | exact Nat.le_refl _⟩, ⟨bkU⟩, ⟨bkU⟩, ⟨bkU⟩, ⟨bkU⟩, ⟨bkU⟩, ⟨bkU⟩, ⟨bkU⟩, ⟨bkU⟩, ⟨bkU⟩, ⟨hbU⟩⟩
               rw [if_pos c225] at H
               have c225b0 : decide (0 < x535000_6) = true := decide_eq_true c225
               clear c225
               (first | rw [c225b0] | (simp only [i64_w, i32_w]; rw [c225b0]) | skip)
               obtain ⟨ji226, hji226⟩ : ∃ j_ : Int, (wrap64 (x535000_6 - 1)) = j_ := ⟨_, rfl⟩
               replace H : (if 0 ≤ (ji226) then (if (ji226) < (t482.size : Int) then (if (bt t482 (ji226)) ≥ (bt t482 x535000_6) then (none) else (if t539 = true then ((impl_IsFrame.f k6 t536 t537 t538).bind fun t541 => (laws_FnFramesPotted.j6 k6 l1 t466 t475 t482 t487 t500 (t482.size : Int) (!t541) t463 t464 t465 t472 t473 t474 (wrap64 (x535000_6 + 1)) false 0 t536 t537 t538)) else (none))) else (none)) else (none)) = some r := by first | (rw [hji226] at H; exact H) | (simp only [hji226] at H ⊢; exact H)
               have hji226w : (IntKind.i64.wrap (x535000_6 - 1)) = ji226 := (i64_w _).trans hji226
               by_cases c227 : 0 ≤ (ji226)
               rotate_left
               ·rw [if_neg c227] at H
                exact absurd H (by simp)
               rw [if_pos c227] at H
               have c227b0 : decide (0 ≤ (ji226)) = true := decide_eq_true c227
               clear c227
               by_cases c228 : (ji226) < (t482.size : Int)
               rotate_left
               ·rw [if_neg c228] at H
                exact absurd H (by simp)
               rw [if_pos c228] at H
               have c228b0 : decide ((ji226) < (t482.size : Int)) = true := decide_eq_true c228
               clear c228
               by_cases c231 : (bt t482 (ji226)) ≥ (bt t482 x535000_6)
               ·rw [if_pos c231] at H
                have c231b0 : decide ((bt t482 x535000_6) ≤ (bt t482 (ji226))) = true := decide_eq_true c231
                clear c231
                exact absurd H (by simp)
               rw [if_neg c231] at H
               have c231b0 : decide ((bt t482 x535000_6) ≤ (bt t482 (ji226))) = false := decide_eq_false c231
               clear c231
               by_cases c232 : t539 = true
               rotate_left
               ·replace c232 := Bool.eq_false_iff.mpr c232
                subst c232
                rw [if_neg (show ¬ (false = true) by decide)] at H
                exact absurd H (by simp)
               subst c232
               rw [if_pos rfl] at H
               replace H := Option.bind_eq_some_iff.mp H
               obtain ⟨t541, A2330, H⟩ := H
               (try dsimp only at H)
               have A233 := Aside0.mk A2330
               clear A2330
               have H' := Aside0.mk H
               clear H
               try go_wp2
               have n0_ : Aside0 ((((w221.setCell ⟨gb540, 0, none⟩ (.int .i64 t536)).setCell ⟨gb540, 1, none⟩ (.bool t537)).setCell ⟨gb540, 2, none⟩ (.int .i64 t538)).heap[gb467]? = some (.cells #[.int .i64 t463, .bool t464, .int .i64 t465] 25 (0, 0))) := ⟨bkU⟩
               have n1_ : Aside0 ((((w221.setCell ⟨gb540, 0, none⟩ (.int .i64 t536)).setCell ⟨gb540, 1, none⟩ (.bool t537)).setCell ⟨gb540, 2, none⟩ (.int .i64 t538)).heap[gb476]? = some (.cells #[.int .i64 t472, .bool t473, .int .i64 t474] 25 (0, 0))) := ⟨bkU⟩
               have n2_ : Aside0 ((((w221.setCell ⟨gb540, 0, none⟩ (.int .i64 t536)).setCell ⟨gb540, 1, none⟩ (.bool t537)).setCell ⟨gb540, 2, none⟩ (.int .i64 t538)).heap[gb481]? = some (.cells #[.int .i64 t477, .bool t478, .int .i64 t479] 25 (0, 0))) := ⟨bkU⟩
               have n3_ : Aside0 ((((w221.setCell ⟨gb540, 0, none⟩ (.int .i64 t536)).setCell ⟨gb540, 1, none⟩ (.bool t537)).setCell ⟨gb540, 2, none⟩ (.int .i64 t538)).heap[gb508]? = some (.cells #[.int .i64 t504, .bool t505, .int .i64 t506] 25 (0, 0))) := ⟨bkU⟩
               have n4_ : Aside0 ((((w221.setCell ⟨gb540, 0, none⟩ (.int .i64 t536)).setCell ⟨gb540, 1, none⟩ (.bool t537)).setCell ⟨gb540, 2, none⟩ (.int .i64 t538)).heap[gb513]? = some (.cells #[.int .i64 t509, .bool t510, .int .i64 t511] 25 (0, 0))) := ⟨bkU⟩
               have n5_ : Aside0 ((((w221.setCell ⟨gb540, 0, none⟩ (.int .i64 t536)).setCell ⟨gb540, 1, none⟩ (.bool t537)).setCell ⟨gb540, 2, none⟩ (.int .i64 t538)).heap[gb525]? = some (.cells #[.int .i64 t521, .bool t522, .int .i64 t523] 25 (0, 0))) := ⟨bkU⟩
               have n6_ : Aside0 ((((w221.setCell ⟨gb540, 0, none⟩ (.int .i64 t536)).setCell ⟨gb540, 1, none⟩ (.bool t537)).setCell ⟨gb540, 2, none⟩ (.int .i64 t538)).heap[gb532]? = some (.cells #[.int .i64 t528, .bool t529, .int .i64 t530] 25 (0, 0))) := ⟨bkU⟩
               have n7_ : Aside0 ((((w221.setCell ⟨gb540, 0, none⟩ (.int .i64 t536)).setCell ⟨gb540, 1, none⟩ (.bool t537)).setCell ⟨gb540, 2, none⟩ (.int .i64 t538)).heap[gb534]? = some (.stringIter t482 ((wrap64 (x535000_6 + 1)) : Int).toNat)) := ⟨bkU⟩
               have n8_ : Aside0 ((((w221.setCell ⟨gb540, 0, none⟩ (.int .i64 t536)).setCell ⟨gb540, 1, none⟩ (.bool t537)).setCell ⟨gb540, 2, none⟩ (.int .i64 t538)).heap[gb540]? = some (.cells #[.int .i64 t536, .bool t537, .int .i64 t538] 25 (0, 0))) := ⟨bkU⟩
               have n9_ : Aside0 (Below w.heap.size w (((w221.setCell ⟨gb540, 0, none⟩ (.int .i64 t536)).setCell ⟨gb540, 1, none⟩ (.bool t537)).setCell ⟨gb540, 2, none⟩ (.int .i64 t538))) := ⟨hbU⟩
               (try clear BK467); (try clear BK476); (try clear BK481); (try clear BK508); (try clear BK513); (try clear BK525); (try clear BK532); (try clear BK534); (try clear BK540); (try clear HB)
               generalize (((w221.setCell ⟨gb540, 0, none⟩ (.int .i64 t536)).setCell ⟨gb540, 1, none⟩ (.bool t537)).setCell ⟨gb540, 2, none⟩ (.int .i64 t538)) = w234 at n0_ n1_ n2_ n3_ n4_ n5_ n6_ n7_ n8_ n9_ ⊢
               have BK467 := n0_
               have BK476 := n1_
               have BK481 := n2_
               have BK508 := n3_
               have BK513 := n4_
               have BK525 := n5_
               have BK532 := n6_
               have BK534 := n7_
               have BK540 := n8_
               have HB := n9_
               clear n0_ n1_ n2_ n3_ n4_ n5_ n6_ n7_ n8_ n9_
               have n0_ := Aside0.mk (blk_drew BK467.out)
               have n1_ := Aside0.mk (blk_drew BK476.out)
               have n2_ := Aside0.mk (blk_drew BK481.out)
               have n3_ := Aside0.mk (blk_drew BK508.out)
               have n4_ := Aside0.mk (blk_drew BK513.out)
               have n5_ := Aside0.mk (blk_drew BK525.out)
               have n6_ := Aside0.mk (blk_drew BK532.out)
               have n7_ := Aside0.mk (blk_drew BK534.out)
               have n8_ := Aside0.mk (blk_drew BK540.out)
               have n9_ := Aside0.mk (below_drew1 HB.out)
               clear BK467 BK476 BK481 BK508 BK513 BK525 BK532 BK534 BK540 HB
               have BK467 := n0_
               have BK476 := n1_
               have BK481 := n2_
               have BK508 := n3_
               have BK513 := n4_
               have BK525 := n5_
               have BK532 := n6_
               have BK534 := n7_
               have BK540 := n8_
               have HB := n9_
               clear n0_ n1_ n2_ n3_ n4_ n5_ n6_ n7_ n8_ n9_
               have p229 : 0 ≤ ((ji226) : Int) := of_decide_eq_true (by first | (with_reducible assumption) | assumption)
               have q229 : (ji226) < (t482.size : Int) := of_decide_eq_true (by first | (with_reducible assumption) | assumption)
               have hx229 := bt_at t482 (ji226)
               replace p229 := eq_true p229
               replace q229 := eq_true q229
               have p230 : 0 ≤ (x535000_6 : Int) := of_decide_eq_true (by first | (with_reducible assumption) | assumption)
               have q230 : x535000_6 < (t482.size : Int) := of_decide_eq_true (by first | (with_reducible assumption) | assumption)
               have hx230 := bt_at t482 x535000_6
               replace p230 := eq_true p230
               replace q230 := eq_true q230
               refine start_ (n := 21) (S := fun w' => w'.cell? ⟨gb540, 0, none⟩ = some (.int .i64 t536) ∧ w'.cell? ⟨gb540, 1, none⟩ = some (.bool t537) ∧ w'.cell? ⟨gb540, 2, none⟩ = some (.int .i64 t538)) (ds := []) #[false, false, false, false, false, false, false, false, false, false, false, false, false, false, false, false, false, false, false, false, false] (by kernel_rfl) rfl rfl (c3U BK540) (fun hHeld => ?_); refine with_tabW laws_FnFramesPotted.tab34 laws_FnFramesPotted.bits34 (fun HT_ HW_ => ?_)
               generalize w234.drew = w235 at BK467 BK476 BK481 BK508 BK513 BK525 BK532 BK534 BK540 HB hHeld ⊢
               refine puU 0 436 HT_ ?_
               refine puU 1 437 HT_ ?_
               refine puU 2 438 HT_ ?_
               refine puU 3 439 HT_ ?_
               refine puU 4 440 HT_ ?_
               refine puU 5 441 HT_ ?_
               refine puU 7 443 HT_ ?_
               refine puU 8 444 HT_ ?_
               refine tkU 6 442 HT_ HW_ hHeld ?_
               refine tkU 9 445 HT_ HW_ hHeld ?_
               as_aux_lemma =>
                refine puU 10 446 HT_ ?_
                refine puU 11 447 HT_ ?_
                refine puU 12 448 HT_ ?_
                refine puU 13 449 HT_ ?_
                refine puU 14 450 HT_ ?_
                refine puU 15 451 HT_ ?_
                refine puU 16 452 HT_ ?_
                refine tkU 17 453 HT_ HW_ hHeld ?_
                refine onU 18 (some 454) HT_ (fun K hK => ?_)
                refine goes_ Tryz.func25 (by kernel_rfl) rfl #[.agg #[.int .i64 t536, .bool t537, .int .i64 t538]] (by rfl) rfl rfl arU ?_
                with_reducible refine (impl_IsFrame.calls k6 t536 t537 t538 t541 _ A233.out).mono ?_
                rintro e w236 ⟨rfl, hb⟩
                refine ⟨_, rfl, ?_⟩
                have n0_ := bbU BK467 hb
                have n1_ := bbU BK476 hb
                have n2_ := bbU BK481 hb
                have n3_ := bbU BK508 hb
                have n4_ := bbU BK513 hb
                have n5_ := bbU BK525 hb
                have n6_ := bbU BK532 hb
                have n7_ := Aside0.mk (blk_below (g := gb534) (o := .stringIter t482 ((wrap64 (x535000_6 + 1)) : Int).toNat) bkU hb)
                have n8_ := bbU BK540 hb
                have n9_ := bsU hb
                clear BK467 BK476 BK481 BK508 BK513 BK525 BK532 BK534 BK540 HB
                have BK467 := n0_
                have BK476 := n1_
                have BK481 := n2_
                have BK508 := n3_
                have BK513 := n4_
                have BK525 := n5_
                have BK532 := n6_
                have BK534 := n7_
                have BK540 := n8_
                have HB := n9_
                clear n0_ n1_ n2_ n3_ n4_ n5_ n6_ n7_ n8_ n9_
                (try clear hb)
                refine hK.out _ _ (c3U BK540) (fun hHeld => ?_)
                clear hK K
                refine norm_ (a' := ?_) ?_ ?_
                rotate_left
                ·show Act.put _ (some 454) _ = _
                 simp only [Act.put, List.setIfInBounds_toArray, List.set_cons_zero, List.set_cons_succ, i64_w, i32_w]
                 rfl
                refine puU 19 455 HT_ ?_
                refine puU 20 456 HT_ ?_
                refine dnU HT_ ?_
                try go_wp2
                go_meet
                case rel => exact ⟨_, (!t541), eqU, H', ⟨by have := HJ3.out; have := HJ24.out; have := HJ128.out; have := HJ135.out; have := HJ195.out; have := HK6.out; first | omega | exact Nat.le_refl _⟩, ⟨bkU⟩, ⟨bkU⟩, ⟨bkU⟩, ⟨bkU⟩, ⟨bkU⟩, ⟨bkU⟩, ⟨bkU⟩, ⟨bkU⟩, ⟨bkU⟩, ⟨hbU⟩⟩
              case rest => as_aux_lemma =>
               clear HC208
               (try clear c225); (try clear c225b0); (try clear c227); (try clear c227b0); (try clear c228); (try clear c228b0); (try clear p229); (try clear q229); (try clear hx229); (try clear p230); (try clear q230); (try clear hx230); (try clear c231); (try clear c231b0); (try clear c232); (try clear c237); (try clear p229); (try clear p230); (try clear q229); (try clear q230)
               obtain ⟨kq, x456_207, rfl, HA, HJ207, BK467, BK476, BK481, BK508, BK513, BK525, BK532, BK534, BK540, HB⟩ := hcut
               cases kq with
               | zero => exact absurd HA.out (by simp [laws_FnFramesPotted.j6])
               | succ kj207 =>
                have H := HA.out
                clear HA
                simp only [laws_FnFramesPotted.j6] at H
                by_cases c242 : x456_207 = true
                ·subst c242
                 rw [if_pos rfl] at H
                 exact absurd H (by simp)
                replace c242 := Bool.eq_false_iff.mpr c242
                subst c242
                rw [if_neg (show ¬ (false = true) by decide)] at H
                replace H := Option.bind_eq_some_iff.mp H
                obtain ⟨⟨t543, t544⟩, A2430, H⟩ := H
                (try dsimp only at H)
                have A243 := Aside0.mk A2430
                clear A2430
                by_cases c244 : t544 = true
                rotate_left
                ·replace c244 := Bool.eq_false_iff.mpr c244
                 subst c244
                 rw [if_neg (show ¬ (false = true) by decide)] at H
                 exact absurd H (by simp)
                subst c244
                rw [if_pos rfl] at H
                by_cases c245 : t543 = (wrap64 (t500 - 1))
                rotate_left
                ·rw [if_neg c245] at H
                 exact absurd H (by simp)
                rw [if_pos c245] at H
                have c245b0 : (t543 == (wrap64 (t500 - 1))) = true := beq_iff_eq.mpr c245
                have c245b1 : (t543 != (wrap64 (t500 - 1))) = false := bne_eq_false_iff_eq.mpr c245
                clear c245
                have H' := Aside0.mk H
                clear H
                have hnb246 := NB540_467.out
                have hnc246 := NB467_540.out
                have hnb247 := NB540_476.out
                have hnc247 := NB476_540.out
                have hnb248 := NB540_481.out
                have hnc248 := NB481_540.out
                have hnb249 := NB540_508.out
                have hnc249 := NB508_540.out
                have hnb250 := NB540_513.out
                have hnc250 := NB513_540.out
                have hnb251 := NB540_525.out
                have hnc251 := NB525_540.out
                have hnb252 := NB540_532.out
                have hnc252 := NB532_540.out
                have hnb253 := NB540_534.out
                have hnc253 := NB534_540.out
                obtain ⟨hcz254_0, hcz254_1, hcz254_2, hfz254_0, hfz254_1, hfz254_2⟩ := b3U BK540
                go_wp2_with (first | ((with_reducible refine gate_callee (f := 19) rfl ?_); refine goU (some 459) Tryz.func19 #[.agg #[.int .i64 t536, .bool t537, .int .i64 t538]] ?_; (with_reducible refine (impl_BallsLeft.calls kj207 t536 t537 t538 t543 true _ A243.out).mono ?_); rintro e w255 ⟨rfl, hb⟩; refine ⟨_, rfl, ?_⟩; have n0_ := bbU BK467 hb; have n1_ := bbU BK476 hb; have n2_ := bbU BK481 hb; have n3_ := bbU BK508 hb; have n4_ := bbU BK513 hb; have n5_ := bbU BK525 hb; have n6_ := bbU BK532 hb; have n7_ := Aside0.mk (blk_below (g := gb534) (o := .stringIter t482 ((wrap64 (x535000_6 + 1)) : Int).toNat) bkU hb); have n8_ := bbU BK540 hb; have n9_ := bsU hb; clear BK467; clear BK476; clear BK481; clear BK508; clear BK513; clear BK525; clear BK532; clear BK534; clear BK540; clear HB; have BK467 := n0_; have BK476 := n1_; have BK481 := n2_; have BK508 := n3_; have BK513 := n4_; have BK525 := n5_; have BK532 := n6_; have BK534 := n7_; have BK540 := n8_; have HB := n9_; clear n0_ n1_ n2_ n3_ n4_ n5_ n6_ n7_ n8_ n9_; (try clear hb); (try clear hb2); (try clear hk); (try clear hi)))
                go_roundg kj207
                case measure => have := HJ3.out; have := HJ24.out; have := HJ128.out; have := HJ135.out; have := HJ195.out; have := HK6.out; have := HJ207.out; omega
                case rel => exact ⟨((wrap64 (x535000_6 + 1))), H', ⟨by have := HJ3.out; have := HJ24.out; have := HJ128.out; have := HJ135.out; have := HJ195.out; have := HK6.out; have := HJ207.out; omega⟩, ⟨bkU⟩, ⟨bkU⟩, ⟨bkU⟩, ⟨bkU⟩, ⟨bkU⟩, ⟨bkU⟩, ⟨bkU⟩, ⟨bkU⟩, ⟨hbU⟩⟩
       case rest => as_aux_lemma =>
        clear HC131
        (try clear c1); (try clear c132); (try clear c199); (try clear c199b0); (try clear c200); (try clear c201); (try clear c205); (try clear c206); (try clear c225); (try clear c225b0); (try clear c227); (try clear c227b0); (try clear c228); (try clear c228b0); (try clear p229); (try clear q229); (try clear hx229); (try clear p230); (try clear q230); (try clear hx230); (try clear c231); (try clear c231b0); (try clear c232); (try clear c237); (try clear c242); (try clear c244); (try clear c245); (try clear c245b0); (try clear c245b1); (try clear hcz254_0); (try clear hcz254_1); (try clear hcz254_2); (try clear hfz254_0); (try clear hfz254_1); (try clear hfz254_2); (try clear p229); (try clear p230); (try clear q229); (try clear q230)
        obtain ⟨kq, HA, HJ130, BK467, BK476, BK481, BK508, BK513, HB⟩ := hcut
        cases kq with
        | zero => exact absurd HA.out (by simp [laws_FnFramesPotted.j7])
        | succ kj130 =>
         have H := HA.out
         clear HA
         simp only [laws_FnFramesPotted.j7] at H
         have HC264 := Aside0.mk H
         clear H
         go_upto_if 470 with (fail)
         go_cut [] from 9999 to 9999 (fun wc => ∃ (kq : Nat), Aside0 (laws_FnFramesPotted.j11 kq l1 = some r) ∧ Aside0 (kq ≤ kj130) ∧ Aside0 (wc.heap[gb467]? = some (.cells #[.int .i64 t463, .bool t464, .int .i64 t465] 25 (0, 0))) ∧ Aside0 (wc.heap[gb476]? = some (.cells #[.int .i64 t472, .bool t473, .int .i64 t474] 25 (0, 0))) ∧ Aside0 (wc.heap[gb481]? = some (.cells #[.int .i64 t477, .bool t478, .int .i64 t479] 25 (0, 0))) ∧ Aside0 (wc.heap[gb508]? = some (.cells #[.int .i64 t504, .bool t505, .int .i64 t506] 25 (0, 0))) ∧ Aside0 (wc.heap[gb513]? = some (.cells #[.int .i64 t509, .bool t510, .int .i64 t511] 25 (0, 0))) ∧ Aside0 (Below w.heap.size w wc))
         case first => as_aux_lemma =>
          have H := HC264.out
          clear HC264
          by_cases c265 : t475 = true
          rotate_left
          ·replace c265 := Bool.eq_false_iff.mpr c265
           subst c265
           rw [if_neg (show ¬ (false = true) by decide)] at H
           have H' := Aside0.mk H
           clear H
           go_wp2
           go_meet
           case rel => exact ⟨_, H', ⟨by have := HJ3.out; have := HJ24.out; have := HJ128.out; have := HJ130.out; first | omega | exact Nat.le_refl _⟩, ⟨bkU⟩, ⟨bkU⟩, ⟨bkU⟩, ⟨bkU⟩, ⟨bkU⟩, ⟨hbU⟩⟩
          subst c265
          rw [if_pos rfl] at H
          replace H := Option.bind_eq_some_iff.mp H
          obtain ⟨⟨t545, t546⟩, A2660, H⟩ := H
          (try dsimp only at H)
          have A266 := Aside0.mk A2660
          clear A2660
          replace H := Option.bind_eq_some_iff.mp H
          obtain ⟨⟨t547, t548⟩, A2670, H⟩ := H
          (try dsimp only at H)
          have A267 := Aside0.mk A2670
          clear A2670
          replace H := Option.bind_eq_some_iff.mp H
          obtain ⟨⟨t549, t550⟩, A2680, H⟩ := H
          (try dsimp only at H)
          have A268 := Aside0.mk A2680
          clear A2680
          have HC269 := Aside0.mk H
          clear H
          have hnb270 := NB476_467.out
          have hnc270 := NB467_476.out
          have hnb271 := NB476_481.out
          have hnc271 := NB481_476.out
          have hnb272 := NB476_508.out
          have hnc272 := NB508_476.out
          have hnb273 := NB476_513.out
          have hnc273 := NB513_476.out
          obtain ⟨hcz274_0, hcz274_1, hcz274_2, hfz274_0, hfz274_1, hfz274_2⟩ := b3U BK476
          go_upto_region 43 with (first | ((with_reducible refine gate_callee (f := 19) rfl ?_); refine goU (some 473) Tryz.func19 #[.agg #[.int .i64 t472, .bool t473, .int .i64 t474]] ?_; (with_reducible refine (impl_BallsLeft.calls kj130 t472 t473 t474 t545 t546 _ A266.out).mono ?_); rintro e w275 ⟨rfl, hb⟩; refine ⟨_, rfl, ?_⟩; have n0_ := bbU BK467 hb; have n1_ := bbU BK476 hb; have n2_ := bbU BK481 hb; have n3_ := bbU BK508 hb; have n4_ := bbU BK513 hb; have n5_ := bsU hb; clear BK467; clear BK476; clear BK481; clear BK508; clear BK513; clear HB; have BK467 := n0_; have BK476 := n1_; have BK481 := n2_; have BK508 := n3_; have BK513 := n4_; have HB := n5_; clear n0_ n1_ n2_ n3_ n4_ n5_; (try clear hb); (try clear hb2); (try clear hk); (try clear hi)) | ((with_reducible refine gate_callee (f := 27) rfl ?_); refine goU (some 478) Tryz.func27 #[.string t466] ?_; (with_reducible refine (impl_PointsOf.calls kj130 t466 t547 t548 _ A267.out).mono ?_); rintro e w276 ⟨rfl, hb⟩; refine ⟨_, rfl, ?_⟩; have n0_ := bbU BK467 hb; have n1_ := bbU BK476 hb; have n2_ := bbU BK481 hb; have n3_ := bbU BK508 hb; have n4_ := bbU BK513 hb; have n5_ := bsU hb; clear BK467; clear BK476; clear BK481; clear BK508; clear BK513; clear HB; have BK467 := n0_; have BK476 := n1_; have BK481 := n2_; have BK508 := n3_; have BK513 := n4_; have HB := n5_; clear n0_ n1_ n2_ n3_ n4_ n5_; (try clear hb); (try clear hb2); (try clear hk); (try clear hi); obtain ⟨hcz277_0, hcz277_1, hcz277_2, hfz277_0, hfz277_1, hfz277_2⟩ := b3U BK476) | ((with_reducible refine gate_callee (f := 17) rfl ?_); refine goU (some 483) Tryz.func17 #[.agg #[.int .i64 t472, .bool t473, .int .i64 t474]] ?_; (with_reducible refine (impl_PointsLeft.calls kj130 t472 t473 t474 t549 t550 _ A268.out).mono ?_); rintro e w278 ⟨rfl, hb⟩; refine ⟨_, rfl, ?_⟩; have n0_ := bbU BK467 hb; have n1_ := bbU BK476 hb; have n2_ := bbU BK481 hb; have n3_ := bbU BK508 hb; have n4_ := bbU BK513 hb; have n5_ := bsU hb; clear BK467; clear BK476; clear BK481; clear BK508; clear BK513; clear HB; have BK467 := n0_; have BK476 := n1_; have BK481 := n2_; have BK508 := n3_; have BK513 := n4_; have HB := n5_; clear n0_ n1_ n2_ n3_ n4_ n5_; (try clear hb); (try clear hb2); (try clear hk); (try clear hi)))
          (try simp only [Act.put, List.setIfInBounds_toArray, List.set_cons_zero, List.set_cons_succ])
          go_cut [510] from 9999 to 9999 (fun v510 wc => ∃ (kq : Nat) (x510_268 : Bool), v510 = .bool x510_268 ∧ Aside0 (laws_FnFramesPotted.j8 kq l1 t466 x510_268 t463 t464 t465 t472 t473 t474 = some r) ∧ Aside0 (kq ≤ kj130) ∧ Aside0 (wc.heap[gb467]? = some (.cells #[.int .i64 t463, .bool t464, .int .i64 t465] 25 (0, 0))) ∧ Aside0 (wc.heap[gb476]? = some (.cells #[.int .i64 t472, .bool t473, .int .i64 t474] 25 (0, 0))) ∧ Aside0 (wc.heap[gb481]? = some (.cells #[.int .i64 t477, .bool t478, .int .i64 t479] 25 (0, 0))) ∧ Aside0 (wc.heap[gb508]? = some (.cells #[.int .i64 t504, .bool t505, .int .i64 t506] 25 (0, 0))) ∧ Aside0 (wc.heap[gb513]? = some (.cells #[.int .i64 t509, .bool t510, .int .i64 t511] 25 (0, 0))) ∧ Aside0 (Below w.heap.size w wc))
          case first => as_aux_lemma =>
           have H := HC269.out
           clear HC269
           by_cases c279 : t546 = true
           rotate_left
           ·replace c279 := Bool.eq_false_iff.mpr c279
            subst c279
            rw [if_neg (show ¬ (false = true) by decide)] at H
            exact absurd H (by simp)
           subst c279
           rw [if_pos rfl] at H
           by_cases c280 : t545 = (wrap64 (t500 - (t466.size : Int)))
           rotate_left
           ·rw [if_neg c280] at H
            exact absurd H (by simp)
           rw [if_pos c280] at H
           have c280b0 : (t545 == (wrap64 (t500 - (t466.size : Int)))) = true := beq_iff_eq.mpr c280
           have c280b1 : (t545 != (wrap64 (t500 - (t466.size : Int)))) = false := bne_eq_false_iff_eq.mpr c280
           clear c280
           (first | rw [c280b0] | (simp only [i64_w, i32_w]; rw [c280b0]) | skip)
           by_cases c281 : t548 = true
           rotate_left
           ·replace c281 := Bool.eq_false_iff.mpr c281
            subst c281
            rw [if_neg (show ¬ (false = true) by decide)] at H
            exact absurd H (by simp)
           subst c281
           rw [if_pos rfl] at H
           by_cases c282 : t550 = true
           rotate_left
           ·replace c282 := Bool.eq_false_iff.mpr c282
            subst c282
            rw [if_neg (show ¬ (false = true) by decide)] at H
            exact absurd H (by simp)
           subst c282
           rw [if_pos rfl] at H
           have H' := Aside0.mk H
           clear H
           go_wp2
           go_meet
           case rel => exact ⟨_, (decide ((wrap64 (t547 + t549)) > t487)), eqU, H', ⟨by have := HJ3.out; have := HJ24.out; have := HJ128.out; have := HJ130.out; first | omega | exact Nat.le_refl _⟩, ⟨bkU⟩, ⟨bkU⟩, ⟨bkU⟩, ⟨bkU⟩, ⟨bkU⟩, ⟨hbU⟩⟩
          case rest => as_aux_lemma =>
           clear HC269
           (try clear c1); (try clear c132); (try clear c199); (try clear c199b0); (try clear c200); (try clear c201); (try clear c205); (try clear c206); (try clear c225); (try clear c225b0); (try clear c227); (try clear c227b0); (try clear c228); (try clear c228b0); (try clear p229); (try clear q229); (try clear hx229); (try clear p230); (try clear q230); (try clear hx230); (try clear c231); (try clear c231b0); (try clear c232); (try clear c237); (try clear c242); (try clear c244); (try clear c245); (try clear c245b0); (try clear c245b1); (try clear c265); (try clear c279); (try clear c280); (try clear c280b0); (try clear c280b1); (try clear c281); (try clear c282); (try clear hcz254_0); (try clear hcz254_1); (try clear hcz254_2); (try clear hcz274_0); (try clear hcz274_1); (try clear hcz274_2); (try clear hcz277_0); (try clear hcz277_1); (try clear hcz277_2); (try clear hfz254_0); (try clear hfz254_1); (try clear hfz254_2); (try clear hfz274_0); (try clear hfz274_1); (try clear hfz274_2); (try clear hfz277_0); (try clear hfz277_1); (try clear hfz277_2); (try clear p229); (try clear p230); (try clear q229); (try clear q230)
           obtain ⟨kq, x510_268, rfl, HA, HJ268, BK467, BK476, BK481, BK508, BK513, HB⟩ := hcut
           cases kq with
           | zero => exact absurd HA.out (by simp [laws_FnFramesPotted.j8])
           | succ kj268 =>
            have H := HA.out
            clear HA
            simp only [laws_FnFramesPotted.j8] at H
            have HC283 := Aside0.mk H
            clear H
            go_upto_if 510 with (fail)
            go_cut [] from 9999 to 9999 (fun wc => ∃ (kq : Nat), Aside0 (laws_FnFramesPotted.j9 kq l1 t466 t463 t464 t465 t472 t473 t474 = some r) ∧ Aside0 (kq ≤ kj268) ∧ Aside0 (wc.heap[gb467]? = some (.cells #[.int .i64 t463, .bool t464, .int .i64 t465] 25 (0, 0))) ∧ Aside0 (wc.heap[gb476]? = some (.cells #[.int .i64 t472, .bool t473, .int .i64 t474] 25 (0, 0))) ∧ Aside0 (wc.heap[gb481]? = some (.cells #[.int .i64 t477, .bool t478, .int .i64 t479] 25 (0, 0))) ∧ Aside0 (wc.heap[gb508]? = some (.cells #[.int .i64 t504, .bool t505, .int .i64 t506] 25 (0, 0))) ∧ Aside0 (wc.heap[gb513]? = some (.cells #[.int .i64 t509, .bool t510, .int .i64 t511] 25 (0, 0))) ∧ Aside0 (Below w.heap.size w wc))
            case first => as_aux_lemma =>
             have H := HC283.out
             clear HC283
             by_cases c284 : x510_268 = true
             ·subst c284
              rw [if_pos rfl] at H
              exact absurd H (by simp)
             replace c284 := Bool.eq_false_iff.mpr c284
             subst c284
             rw [if_neg (show ¬ (false = true) by decide)] at H
             have H' := Aside0.mk H
             clear H
             go_wp2
             go_meet
             case rel => exact ⟨_, H', ⟨by have := HJ3.out; have := HJ24.out; have := HJ128.out; have := HJ130.out; have := HJ268.out; first | omega | exact Nat.le_refl _⟩, ⟨bkU⟩, ⟨bkU⟩, ⟨bkU⟩, ⟨bkU⟩, ⟨bkU⟩, ⟨hbU⟩⟩
            case rest => as_aux_lemma =>
             clear HC283
             (try clear c1); (try clear c132); (try clear c199); (try clear c199b0); (try clear c200); (try clear c201); (try clear c205); (try clear c206); (try clear c225); (try clear c225b0); (try clear c227); (try clear c227b0); (try clear c228); (try clear c228b0); (try clear p229); (try clear q229); (try clear hx229); (try clear p230); (try clear q230); (try clear hx230); (try clear c231); (try clear c231b0); (try clear c232); (try clear c237); (try clear c242); (try clear c244); (try clear c245); (try clear c245b0); (try clear c245b1); (try clear c265); (try clear c279); (try clear c280); (try clear c280b0); (try clear c280b1); (try clear c281); (try clear c282); (try clear c284); (try clear hcz254_0); (try clear hcz254_1); (try clear hcz254_2); (try clear hcz274_0); (try clear hcz274_1); (try clear hcz274_2); (try clear hcz277_0); (try clear hcz277_1); (try clear hcz277_2); (try clear hfz254_0); (try clear hfz254_1); (try clear hfz254_2); (try clear hfz274_0); (try clear hfz274_1); (try clear hfz274_2); (try clear hfz277_0); (try clear hfz277_1); (try clear hfz277_2); (try clear p229); (try clear p230); (try clear q229); (try clear q230)
             obtain ⟨kq, HA, HJ282, BK467, BK476, BK481, BK508, BK513, HB⟩ := hcut
             cases kq with
             | zero => exact absurd HA.out (by simp [laws_FnFramesPotted.j9])
             | succ kj282 =>
              have H := HA.out
              clear HA
              simp only [laws_FnFramesPotted.j9] at H
              have H' := Aside0.mk H
              clear H
              have hnb285 := NB467_476.out
              have hnc285 := NB476_467.out
              have hnb286 := NB467_481.out
              have hnc286 := NB481_467.out
              have hnb287 := NB467_508.out
              have hnc287 := NB508_467.out
              have hnb288 := NB467_513.out
              have hnc288 := NB513_467.out
              obtain ⟨hcz289_0, hcz289_1, hcz289_2, hfz289_0, hfz289_1, hfz289_2⟩ := b3U BK467
              go_wp2_with (first | ((with_reducible refine gate_dst (N := 62) rfl ?_); (try (refine gate_guard (by rfl) ?_; dsimp only)); refine bxU (cs := #[.int .i64 0, .bool false, .int .i64 0]) (t := 25) ?_; intro gb551 hg w290 hbox hb; have n0_ := bbU BK467 hb; have n1_ := bbU BK476 hb; have n2_ := bbU BK481 hb; have n3_ := bbU BK508 hb; have n4_ := bbU BK513 hb; have n5_ := bsU hb; have n6_ := Aside0.mk (hbox); have n7_ := geU hg; have n8_ := geU hg; have n9_ := neU BK467 hg; have n10_ := enU BK467 hg; have n11_ := neU BK476 hg; have n12_ := enU BK476 hg; have n13_ := neU BK481 hg; have n14_ := enU BK481 hg; have n15_ := neU BK508 hg; have n16_ := enU BK508 hg; have n17_ := neU BK513 hg; have n18_ := enU BK513 hg; clear BK467; clear BK476; clear BK481; clear BK508; clear BK513; clear HB; have BK467 := n0_; have BK476 := n1_; have BK481 := n2_; have BK508 := n3_; have BK513 := n4_; have HB := n5_; have BK551 := n6_; have GW551 := n7_; have GE551 := n8_; have NB467_551 := n9_; have NB551_467 := n10_; have NB476_551 := n11_; have NB551_476 := n12_; have NB481_551 := n13_; have NB551_481 := n14_; have NB508_551 := n15_; have NB551_508 := n16_; have NB513_551 := n17_; have NB551_513 := n18_; clear n0_ n1_ n2_ n3_ n4_ n5_ n6_ n7_ n8_ n9_ n10_ n11_ n12_ n13_ n14_ n15_ n16_ n17_ n18_; clear hb hbox hg; have hnb291 := NB551_467.out; have hnc291 := NB467_551.out; have hnb292 := NB551_476.out; have hnc292 := NB476_551.out; have hnb293 := NB551_481.out; have hnc293 := NB481_551.out; have hnb294 := NB551_508.out; have hnc294 := NB508_551.out; have hnb295 := NB551_513.out; have hnc295 := NB513_551.out; obtain ⟨hcz296_0, hcz296_1, hcz296_2, hfz296_0, hfz296_1, hfz296_2⟩ := b3U BK551) | ((with_reducible refine gate_dst (N := 513) rfl ?_); (try (refine gate_guard (by rfl) ?_; dsimp only)); refine rgU t466 ?_; intro gb552 hg w297 hbox hb; have n0_ := bbU BK467 hb; have n1_ := bbU BK476 hb; have n2_ := bbU BK481 hb; have n3_ := bbU BK508 hb; have n4_ := bbU BK513 hb; have n5_ := Aside0.mk (blk_below (g := gb551) (o := .cells #[.int .i64 t463, .bool t464, .int .i64 t465] 25 (0, 0)) bkU hb); have n6_ := bsU hb; have n7_ := Aside0.mk (hbox); have n8_ := geU hg; have n9_ := geU hg; have n10_ := neU BK467 hg; have n11_ := enU BK467 hg; have n12_ := neU BK476 hg; have n13_ := enU BK476 hg; have n14_ := neU BK481 hg; have n15_ := enU BK481 hg; have n16_ := neU BK508 hg; have n17_ := enU BK508 hg; have n18_ := neU BK513 hg; have n19_ := enU BK513 hg; have n20_ := Aside0.mk ((by rw [hg]; exact Nat.ne_of_lt (blk_lt (g := gb551) (o := .cells #[.int .i64 t463, .bool t464, .int .i64 t465] 25 (0, 0)) bkU) : gb551 ≠ gb552)); have n21_ := Aside0.mk ((by rw [hg]; exact Nat.ne_of_gt (blk_lt (g := gb551) (o := .cells #[.int .i64 t463, .bool t464, .int .i64 t465] 25 (0, 0)) bkU) : gb552 ≠ gb551)); clear BK467; clear BK476; clear BK481; clear BK508; clear BK513; clear BK551; clear HB; have BK467 := n0_; have BK476 := n1_; have BK481 := n2_; have BK508 := n3_; have BK513 := n4_; have BK551 := n5_; have HB := n6_; have BK552 := n7_; have GW552 := n8_; have GE552 := n9_; have NB467_552 := n10_; have NB552_467 := n11_; have NB476_552 := n12_; have NB552_476 := n13_; have NB481_552 := n14_; have NB552_481 := n15_; have NB508_552 := n16_; have NB552_508 := n17_; have NB513_552 := n18_; have NB552_513 := n19_; have NB551_552 := n20_; have NB552_551 := n21_; clear n0_ n1_ n2_ n3_ n4_ n5_ n6_ n7_ n8_ n9_ n10_ n11_ n12_ n13_ n14_ n15_ n16_ n17_ n18_ n19_ n20_ n21_; clear hb hbox hg))
              (try simp only [Act.put, List.setIfInBounds_toArray, List.set_cons_zero, List.set_cons_succ])
              change Code.wp _ _ _ (Act.mk _ _) _
              go_loopg [] kj282 (fun kq w' => ∃ (x552000_7 : Int) (x552001_7 : Bool) (x552002_7 : Int) (x553000_7 : Int), Aside0 (laws_FnFramesPotted.l1 kq l1 t466 (t466.size : Int) t472 t473 t474 x552000_7 x552001_7 x552002_7 x553000_7 false 0 = some r) ∧ Aside0 (kq ≤ kj282) ∧ Aside0 (w'.heap[gb467]? = some (.cells #[.int .i64 t463, .bool t464, .int .i64 t465] 25 (0, 0))) ∧ Aside0 (w'.heap[gb476]? = some (.cells #[.int .i64 t472, .bool t473, .int .i64 t474] 25 (0, 0))) ∧ Aside0 (w'.heap[gb481]? = some (.cells #[.int .i64 t477, .bool t478, .int .i64 t479] 25 (0, 0))) ∧ Aside0 (w'.heap[gb508]? = some (.cells #[.int .i64 t504, .bool t505, .int .i64 t506] 25 (0, 0))) ∧ Aside0 (w'.heap[gb513]? = some (.cells #[.int .i64 t509, .bool t510, .int .i64 t511] 25 (0, 0))) ∧ Aside0 (w'.heap[gb551]? = some (.cells #[.int .i64 x552000_7, .bool x552001_7, .int .i64 x552002_7] 25 (0, 0))) ∧ Aside0 (w'.heap[gb552]? = some (.stringIter t466 (x553000_7 : Int).toNat)) ∧ Aside0 (Below w.heap.size w w'))
              case atStart => exact ⟨(t463), (t464), (t465), (0), H', ⟨Nat.le_refl _⟩, ⟨bkU⟩, ⟨bkU⟩, ⟨bkU⟩, ⟨bkU⟩, ⟨bkU⟩, ⟨bkU⟩, ⟨bkU⟩, ⟨hbU⟩⟩
              case round => as_aux_lemma =>
               clear H'
               (try clear c1); (try clear c132); (try clear c199); (try clear c199b0); (try clear c200); (try clear c201); (try clear c205); (try clear c206); (try clear c225); (try clear c225b0); (try clear c227); (try clear c227b0); (try clear c228); (try clear c228b0); (try clear p229); (try clear q229); (try clear hx229); (try clear p230); (try clear q230); (try clear hx230); (try clear c231); (try clear c231b0); (try clear c232); (try clear c237); (try clear c242); (try clear c244); (try clear c245); (try clear c245b0); (try clear c245b1); (try clear c265); (try clear c279); (try clear c280); (try clear c280b0); (try clear c280b1); (try clear c281); (try clear c282); (try clear c284); (try clear hcz254_0); (try clear hcz254_1); (try clear hcz254_2); (try clear hcz274_0); (try clear hcz274_1); (try clear hcz274_2); (try clear hcz277_0); (try clear hcz277_1); (try clear hcz277_2); (try clear hcz289_0); (try clear hcz289_1); (try clear hcz289_2); (try clear hcz296_0); (try clear hcz296_1); (try clear hcz296_2); (try clear hfz254_0); (try clear hfz254_1); (try clear hfz254_2); (try clear hfz274_0); (try clear hfz274_1); (try clear hfz274_2); (try clear hfz277_0); (try clear hfz277_1); (try clear hfz277_2); (try clear hfz289_0); (try clear hfz289_1); (try clear hfz289_2); (try clear hfz296_0); (try clear hfz296_1); (try clear hfz296_2); (try clear p229); (try clear p230); (try clear q229); (try clear q230)
               obtain ⟨x552000_7, x552001_7, x552002_7, x553000_7, HA, HK7, BK467, BK476, BK481, BK508, BK513, BK551, BK552, HB⟩ := hrel
               cases gk with
               | zero => exact absurd HA.out (by simp [laws_FnFramesPotted.l1])
               | succ k7 =>
                have H := HA.out
                clear HA
                simp only [laws_FnFramesPotted.l1] at H
                by_cases c298 : x553000_7 < (t466.size : Int)
                rotate_left
                ·rw [if_neg c298] at H
                 have c298b0 : decide (x553000_7 < (t466.size : Int)) = false := decide_eq_false c298
                 have hnx := nextEndU (P := Tryz.prog) BK552 (of_decide_eq_false c298b0)
                 clear c298
                 by_cases c337 : (!(x552000_7 == t472) || (!(x552001_7 == t473) || (!(x552002_7 == t474)))) = true
                 ·rw [if_pos c337] at H
                  exact absurd H (by simp)
                 rw [if_neg c337] at H
                 have c337b0 : (!(x552000_7 == t472) || (!(x552001_7 == t473) || (!(x552002_7 == t474)))) = false := by simpa using c337
                 clear c337
                 have H' := Aside0.mk H
                 clear H
                 have hnb338 := NB552_467.out
                 have hnc338 := NB467_552.out
                 have hnb339 := NB552_476.out
                 have hnc339 := NB476_552.out
                 have hnb340 := NB552_481.out
                 have hnc340 := NB481_552.out
                 have hnb341 := NB552_508.out
                 have hnc341 := NB508_552.out
                 have hnb342 := NB552_513.out
                 have hnc342 := NB513_552.out
                 have hnb343 := NB552_551.out
                 have hnc343 := NB551_552.out
                 have hnb345 := NB551_467.out
                 have hnc345 := NB467_551.out
                 have hnb346 := NB551_476.out
                 have hnc346 := NB476_551.out
                 have hnb347 := NB551_481.out
                 have hnc347 := NB481_551.out
                 have hnb348 := NB551_508.out
                 have hnc348 := NB508_551.out
                 have hnb349 := NB551_513.out
                 have hnc349 := NB513_551.out
                 obtain ⟨hcz350_0, hcz350_1, hcz350_2, hfz350_0, hfz350_1, hfz350_2⟩ := b3U BK551
                 have hnb351 := NB476_467.out
                 have hnc351 := NB467_476.out
                 have hnb352 := NB476_481.out
                 have hnc352 := NB481_476.out
                 have hnb353 := NB476_508.out
                 have hnc353 := NB508_476.out
                 have hnb354 := NB476_513.out
                 have hnc354 := NB513_476.out
                 obtain ⟨hcz355_0, hcz355_1, hcz355_2, hfz355_0, hfz355_1, hfz355_2⟩ := b3U BK476
                 go_wp2
                 go_meet
                 case rel => exact ⟨_, H', ⟨by have := HJ3.out; have := HJ24.out; have := HJ128.out; have := HJ130.out; have := HJ268.out; have := HJ282.out; have := HK7.out; first | omega | exact Nat.le_refl _⟩, ⟨bkU⟩, ⟨bkU⟩, ⟨bkU⟩, ⟨bkU⟩, ⟨bkU⟩, ⟨hbU⟩⟩
                rw [if_pos c298] at H
                have c298b0 : decide (x553000_7 < (t466.size : Int)) = true := decide_eq_true c298
                clear c298
                by_cases c299 : 0 ≤ x553000_7
                rotate_left
                ·rw [if_neg c299] at H
                 exact absurd H (by simp)
                rw [if_pos c299] at H
                have c299b0 : decide (0 ≤ x553000_7) = true := decide_eq_true c299
                clear c299
                by_cases c300 : x553000_7 < (t466.size : Int)
                rotate_left
                ·rw [if_neg c300] at H
                 exact absurd H (by simp)
                rw [if_pos c300] at H
                have c300b0 : decide (x553000_7 < (t466.size : Int)) = true := decide_eq_true c300
                clear c300
                replace H := Option.bind_eq_some_iff.mp H
                obtain ⟨t553, A3020, H⟩ := H
                (try dsimp only at H)
                have A302 := Aside0.mk A3020
                clear A3020
                have c303b0 := eq_true (of_decide_eq_true (by first | (with_reducible assumption) | assumption) : 0 ≤ x553000_7)
                by_cases c304 : x553000_7 ≤ (wrap64 (x553000_7 + 1))
                rotate_left
                ·rw [if_neg c304] at H
                 exact absurd H (by simp)
                rw [if_pos c304] at H
                have c304b0 := eq_true c304
                have c304b1 : decide (x553000_7 ≤ (wrap64 (x553000_7 + 1))) = true := decide_eq_true c304
                by_cases c305 : (wrap64 (x553000_7 + 1)) ≤ (t466.size : Int)
                rotate_left
                ·rw [if_neg c305] at H
                 exact absurd H (by simp)
                rw [if_pos c305] at H
                have c305b0 := eq_true c305
                have c305b1 : decide ((wrap64 (x553000_7 + 1)) ≤ (t466.size : Int)) = true := decide_eq_true c305
                replace H := Option.bind_eq_some_iff.mp H
                obtain ⟨⟨t554, t555, t556, t557⟩, A3060, H⟩ := H
                (try dsimp only at H)
                have A306 := Aside0.mk A3060
                clear A3060
                by_cases c307 : t557 = true
                rotate_left
                ·replace c307 := Bool.eq_false_iff.mpr c307
                 subst c307
                 rw [if_neg (show ¬ (false = true) by decide)] at H
                 exact absurd H (by simp)
                subst c307
                rw [if_pos rfl] at H
                have H' := Aside0.mk H
                clear H
                have hnb308 := NB552_467.out
                have hnc308 := NB467_552.out
                have hnb309 := NB552_476.out
                have hnc309 := NB476_552.out
                have hnb310 := NB552_481.out
                have hnc310 := NB481_552.out
                have hnb311 := NB552_508.out
                have hnc311 := NB508_552.out
                have hnb312 := NB552_513.out
                have hnc312 := NB513_552.out
                have hnb313 := NB552_551.out
                have hnc313 := NB551_552.out
                have p301 : 0 ≤ (x553000_7 : Int) := of_decide_eq_true (by first | (with_reducible assumption) | assumption)
                have q301 : x553000_7 < (t466.size : Int) := of_decide_eq_true (by first | (with_reducible assumption) | assumption)
                have hx301 := bt_at t466 x553000_7
                replace p301 := eq_true p301
                replace q301 := eq_true q301
                have hp_ := of_eq_true p301
                have hq_ := of_eq_true q301
                have ha_ : bt t466 x553000_7 < 128 := by
                 have h_ := A302.out
                 unfold strconv_Itoa_85.f at h_
                 have hb_ := bt_range t466 x553000_7
                 rw [show wrap64 (bt t466 x553000_7) = bt t466 x553000_7 by unfold wrap64; omega] at h_
                 split at h_
                 ·split at h_
                  ·omega
                  ·cases h_
                 ·cases h_
                have hw_ : wrap64 (x553000_7 + 1) = x553000_7 + 1 := by
                 have h_ := c304
                 unfold wrap64 at h_ ⊢
                 omega
                have hnx := nextU (P := Tryz.prog) BK552 hp_ hq_ ha_ hw_
                clear hp_ hq_ ha_ hw_
                go_wp2_with (fail)
                clear hnx
                have n0_ : Aside0 ((iterU wr gb552 t466 (wrap64 (x553000_7 + 1)).toNat).heap[gb467]? = some (.cells #[.int .i64 t463, .bool t464, .int .i64 t465] 25 (0, 0))) := ⟨bkU⟩
                have n1_ : Aside0 ((iterU wr gb552 t466 (wrap64 (x553000_7 + 1)).toNat).heap[gb476]? = some (.cells #[.int .i64 t472, .bool t473, .int .i64 t474] 25 (0, 0))) := ⟨bkU⟩
                have n2_ : Aside0 ((iterU wr gb552 t466 (wrap64 (x553000_7 + 1)).toNat).heap[gb481]? = some (.cells #[.int .i64 t477, .bool t478, .int .i64 t479] 25 (0, 0))) := ⟨bkU⟩
                have n3_ : Aside0 ((iterU wr gb552 t466 (wrap64 (x553000_7 + 1)).toNat).heap[gb508]? = some (.cells #[.int .i64 t504, .bool t505, .int .i64 t506] 25 (0, 0))) := ⟨bkU⟩
                have n4_ : Aside0 ((iterU wr gb552 t466 (wrap64 (x553000_7 + 1)).toNat).heap[gb513]? = some (.cells #[.int .i64 t509, .bool t510, .int .i64 t511] 25 (0, 0))) := ⟨bkU⟩
                have n5_ : Aside0 ((iterU wr gb552 t466 (wrap64 (x553000_7 + 1)).toNat).heap[gb551]? = some (.cells #[.int .i64 x552000_7, .bool x552001_7, .int .i64 x552002_7] 25 (0, 0))) := ⟨bkU⟩
                have n6_ : Aside0 ((iterU wr gb552 t466 (wrap64 (x553000_7 + 1)).toNat).heap[gb552]? = some (.stringIter t466 ((wrap64 (x553000_7 + 1)) : Int).toNat)) := ⟨bkU⟩
                have n7_ : Aside0 (Below w.heap.size w (iterU wr gb552 t466 (wrap64 (x553000_7 + 1)).toNat)) := ⟨hbU⟩
                (try clear BK467); (try clear BK476); (try clear BK481); (try clear BK508); (try clear BK513); (try clear BK551); (try clear BK552); (try clear HB)
                generalize (iterU wr gb552 t466 (wrap64 (x553000_7 + 1)).toNat) = w315 at n0_ n1_ n2_ n3_ n4_ n5_ n6_ n7_ ⊢
                have BK467 := n0_
                have BK476 := n1_
                have BK481 := n2_
                have BK508 := n3_
                have BK513 := n4_
                have BK551 := n5_
                have BK552 := n6_
                have HB := n7_
                clear n0_ n1_ n2_ n3_ n4_ n5_ n6_ n7_
                have n0_ := Aside0.mk (blk_drew BK467.out)
                have n1_ := Aside0.mk (blk_drew BK476.out)
                have n2_ := Aside0.mk (blk_drew BK481.out)
                have n3_ := Aside0.mk (blk_drew BK508.out)
                have n4_ := Aside0.mk (blk_drew BK513.out)
                have n5_ := Aside0.mk (blk_drew BK551.out)
                have n6_ := Aside0.mk (blk_drew BK552.out)
                have n7_ := Aside0.mk (below_drew1 HB.out)
                clear BK467 BK476 BK481 BK508 BK513 BK551 BK552 HB
                have BK467 := n0_
                have BK476 := n1_
                have BK481 := n2_
                have BK508 := n3_
                have BK513 := n4_
                have BK551 := n5_
                have BK552 := n6_
                have HB := n7_
                clear n0_ n1_ n2_ n3_ n4_ n5_ n6_ n7_
                refine start_ (n := 13) (S := fun w' => w'.cell? ⟨gb551, 0, none⟩ = some (.int .i64 x552000_7) ∧ w'.cell? ⟨gb551, 1, none⟩ = some (.bool x552001_7) ∧ w'.cell? ⟨gb551, 2, none⟩ = some (.int .i64 x552002_7)) (ds := []) #[false, false, false, false, false, false, false, false, false, false, false, false, false] (by kernel_rfl) rfl rfl (c3U BK551) (fun hHeld => ?_); refine with_tabW laws_FnFramesPotted.tab49 laws_FnFramesPotted.bits49 (fun HT_ HW_ => ?_)
                generalize w315.drew = w316 at BK467 BK476 BK481 BK508 BK513 BK551 BK552 HB hHeld ⊢
                refine puU 1 519 HT_ ?_
                refine puU 2 520 HT_ ?_
                refine puU 3 521 HT_ ?_
                refine puU 4 522 HT_ ?_
                refine puU 5 523 HT_ ?_
                refine tkU 0 518 HT_ HW_ hHeld ?_
                refine join_ (σ := Nat) 2 #[true, true, true, true, true, true, true, true, true, true, true, false, false] (fun s_ => [(524, .tuple #[.agg #[.int .i64 t554, .bool t555, .int .i64 t556], .bool true]), (64, .pointer (some ⟨s_, 0, none⟩)), (517, .tuple #[.agg #[.int .i64 t554, .bool t555, .int .i64 t556], .bool true]), (525, .agg #[.int .i64 t554, .bool t555, .int .i64 t556]), (526, .bool true)]) (fun s_ w' => (w'.cell? ⟨gb551, 0, none⟩ = some (.int .i64 x552000_7) ∧ w'.cell? ⟨gb551, 1, none⟩ = some (.bool x552001_7) ∧ w'.cell? ⟨gb551, 2, none⟩ = some (.int .i64 x552002_7)) ∧ (w'.heap[gb467]? = some (.cells #[.int .i64 t463, .bool t464, .int .i64 t465] 25 (0, 0))) ∧ (w'.heap[gb476]? = some (.cells #[.int .i64 t472, .bool t473, .int .i64 t474] 25 (0, 0))) ∧ (w'.heap[gb481]? = some (.cells #[.int .i64 t477, .bool t478, .int .i64 t479] 25 (0, 0))) ∧ (w'.heap[gb508]? = some (.cells #[.int .i64 t504, .bool t505, .int .i64 t506] 25 (0, 0))) ∧ (w'.heap[gb513]? = some (.cells #[.int .i64 t509, .bool t510, .int .i64 t511] 25 (0, 0))) ∧ (w'.heap[gb551]? = some (.cells #[.int .i64 x552000_7, .bool x552001_7, .int .i64 x552002_7] 25 (0, 0))) ∧ (w'.heap[gb552]? = some (.stringIter t466 ((wrap64 (x553000_7 + 1)) : Int).toNat)) ∧ (w'.heap[s_]? = some (.cells #[.int .i64 0, .bool false, .int .i64 0] 25 (0, 0))) ∧ (w.heap.size ≤ s_) ∧ (w.heap.size ≤ s_) ∧ (gb467 ≠ s_) ∧ (s_ ≠ gb467) ∧ (gb476 ≠ s_) ∧ (s_ ≠ gb476) ∧ (gb481 ≠ s_) ∧ (s_ ≠ gb481) ∧ (gb508 ≠ s_) ∧ (s_ ≠ gb508) ∧ (gb513 ≠ s_) ∧ (s_ ≠ gb513) ∧ (gb551 ≠ s_) ∧ (s_ ≠ gb551) ∧ (gb552 ≠ s_) ∧ (s_ ≠ gb552) ∧ (Below w.heap.size w w')) ?_ ?_
                rotate_left
                ·intro hCont
                 refine two_ (i := 6) (j := 10) (Ni := some 524) (Nj := some 64) #[true, true, true, true, true, true, true, false, false, false, false, false, false] #[true, true, true, true, true, true, false, false, false, false, true, false, false] rfl rfl rfl rfl (two_of HT_.out (by kernel_rfl)) (by decide) (by decide) (fun K hK => ?_) (fun K hK => ?_)
                 ·skip
                  refine goes_ Tryz.func29 (by kernel_rfl) rfl #[.agg #[.int .i64 x552000_7, .bool x552001_7, .int .i64 x552002_7], .string (t466.extract (x553000_7 : Int).toNat ((wrap64 (x553000_7 + 1)) : Int).toNat)] (by rfl) rfl rfl arU ?_
                  with_reducible refine (impl_PotBall.calls k7 x552000_7 x552001_7 x552002_7 (t466.extract (x553000_7 : Int).toNat ((wrap64 (x553000_7 + 1)) : Int).toNat) t554 t555 t556 true _ A306.out).mono ?_
                  rintro e w317 ⟨rfl, hb⟩
                  refine ⟨_, rfl, ?_⟩
                  have n0_ := bbU BK467 hb
                  have n1_ := bbU BK476 hb
                  have n2_ := bbU BK481 hb
                  have n3_ := bbU BK508 hb
                  have n4_ := bbU BK513 hb
                  have n5_ := bbU BK551 hb
                  have n6_ := Aside0.mk (blk_below (g := gb552) (o := .stringIter t466 ((wrap64 (x553000_7 + 1)) : Int).toNat) bkU hb)
                  have n7_ := bsU hb
                  clear BK467 BK476 BK481 BK508 BK513 BK551 BK552 HB
                  have BK467 := n0_
                  have BK476 := n1_
                  have BK481 := n2_
                  have BK508 := n3_
                  have BK513 := n4_
                  have BK551 := n5_
                  have BK552 := n6_
                  have HB := n7_
                  clear n0_ n1_ n2_ n3_ n4_ n5_ n6_ n7_
                  (try clear hb)
                  refine hK.out _ _ (c3U BK551) (fun hHeld => ?_)
                  clear hK K
                  refine norm_ (a' := ?_) ?_ ?_
                  rotate_left
                  ·show Act.put _ (some 524) _ = _
                   simp only [Act.put, List.setIfInBounds_toArray, List.set_cons_zero, List.set_cons_succ, i64_w, i32_w]
                   rfl
                  refine puU 7 517 HT_ ?_
                  refine puU 8 525 HT_ ?_
                  refine puU 9 526 HT_ ?_
                  refine onU 10 (some 64) HT_ (fun K hK => ?_)
                  refine box_step ?hg (N := 64) ?hd (cs := #[.int .i64 0, .bool false, .int .i64 0]) (t := 25) ?hr ?_; (case hd => rfl); (case hg => rfl); (case hr => first | (go_simp; done) | (go_simp; rfl))
                  intro gb558 hg w318 hbox hb
                  have n0_ := bbU BK467 hb
                  have n1_ := bbU BK476 hb
                  have n2_ := bbU BK481 hb
                  have n3_ := bbU BK508 hb
                  have n4_ := bbU BK513 hb
                  have n5_ := bbU BK551 hb
                  have n6_ := Aside0.mk (blk_below (g := gb552) (o := .stringIter t466 ((wrap64 (x553000_7 + 1)) : Int).toNat) bkU hb)
                  have n7_ := bsU hb
                  have n8_ := Aside0.mk (hbox)
                  have n9_ := geU hg
                  have n10_ := geU hg
                  have n11_ := neU BK467 hg
                  have n12_ := enU BK467 hg
                  have n13_ := neU BK476 hg
                  have n14_ := enU BK476 hg
                  have n15_ := neU BK481 hg
                  have n16_ := enU BK481 hg
                  have n17_ := neU BK508 hg
                  have n18_ := enU BK508 hg
                  have n19_ := neU BK513 hg
                  have n20_ := enU BK513 hg
                  have n21_ := neU BK551 hg
                  have n22_ := enU BK551 hg
                  have n23_ := Aside0.mk ((by rw [hg]; exact Nat.ne_of_lt (blk_lt (g := gb552) (o := .stringIter t466 ((wrap64 (x553000_7 + 1)) : Int).toNat) bkU) : gb552 ≠ gb558))
                  have n24_ := Aside0.mk ((by rw [hg]; exact Nat.ne_of_gt (blk_lt (g := gb552) (o := .stringIter t466 ((wrap64 (x553000_7 + 1)) : Int).toNat) bkU) : gb558 ≠ gb552))
                  clear BK467 BK476 BK481 BK508 BK513 BK551 BK552 HB
                  have BK467 := n0_
                  have BK476 := n1_
                  have BK481 := n2_
                  have BK508 := n3_
                  have BK513 := n4_
                  have BK551 := n5_
                  have BK552 := n6_
                  have HB := n7_
                  have BK558 := n8_
                  have GW558 := n9_
                  have GE558 := n10_
                  have NB467_558 := n11_
                  have NB558_467 := n12_
                  have NB476_558 := n13_
                  have NB558_476 := n14_
                  have NB481_558 := n15_
                  have NB558_481 := n16_
                  have NB508_558 := n17_
                  have NB558_508 := n18_
                  have NB513_558 := n19_
                  have NB558_513 := n20_
                  have NB551_558 := n21_
                  have NB558_551 := n22_
                  have NB552_558 := n23_
                  have NB558_552 := n24_
                  clear n0_ n1_ n2_ n3_ n4_ n5_ n6_ n7_ n8_ n9_ n10_ n11_ n12_ n13_ n14_ n15_ n16_ n17_ n18_ n19_ n20_ n21_ n22_ n23_ n24_ hb hbox hg
                  refine hK.out _ _ (c3U BK551) (fun hHeld => ?_)
                  clear hK K
                  refine norm_ (a' := ?_) ?_ ?_
                  rotate_left
                  ·show Act.put _ (some 64) _ = _
                   simp only [Act.put, List.setIfInBounds_toArray, List.set_cons_zero, List.set_cons_succ, i64_w, i32_w]
                   rfl
                  exact norm_ (by simp only [putAll, Act.put, List.setIfInBounds_toArray, List.set_cons_zero, List.set_cons_succ]) (hCont (gb558) _ ⟨hHeld, bkU, bkU, bkU, bkU, bkU, bkU, bkU, bkU, GW558.out, GE558.out, NB467_558.out, NB558_467.out, NB476_558.out, NB558_476.out, NB481_558.out, NB558_481.out, NB508_558.out, NB558_508.out, NB513_558.out, NB558_513.out, NB551_558.out, NB558_551.out, NB552_558.out, NB558_552.out, hbU⟩)
                 ·skip
                  refine box_step ?hg (N := 64) ?hd (cs := #[.int .i64 0, .bool false, .int .i64 0]) (t := 25) ?hr ?_; (case hd => rfl); (case hg => rfl); (case hr => first | (go_simp; done) | (go_simp; rfl))
                  intro gb558 hg w317 hbox hb
                  have n0_ := bbU BK467 hb
                  have n1_ := bbU BK476 hb
                  have n2_ := bbU BK481 hb
                  have n3_ := bbU BK508 hb
                  have n4_ := bbU BK513 hb
                  have n5_ := bbU BK551 hb
                  have n6_ := Aside0.mk (blk_below (g := gb552) (o := .stringIter t466 ((wrap64 (x553000_7 + 1)) : Int).toNat) bkU hb)
                  have n7_ := bsU hb
                  have n8_ := Aside0.mk (hbox)
                  have n9_ := geU hg
                  have n10_ := geU hg
                  have n11_ := neU BK467 hg
                  have n12_ := enU BK467 hg
                  have n13_ := neU BK476 hg
                  have n14_ := enU BK476 hg
                  have n15_ := neU BK481 hg
                  have n16_ := enU BK481 hg
                  have n17_ := neU BK508 hg
                  have n18_ := enU BK508 hg
                  have n19_ := neU BK513 hg
                  have n20_ := enU BK513 hg
                  have n21_ := neU BK551 hg
                  have n22_ := enU BK551 hg
                  have n23_ := Aside0.mk ((by rw [hg]; exact Nat.ne_of_lt (blk_lt (g := gb552) (o := .stringIter t466 ((wrap64 (x553000_7 + 1)) : Int).toNat) bkU) : gb552 ≠ gb558))
                  have n24_ := Aside0.mk ((by rw [hg]; exact Nat.ne_of_gt (blk_lt (g := gb552) (o := .stringIter t466 ((wrap64 (x553000_7 + 1)) : Int).toNat) bkU) : gb558 ≠ gb552))
                  clear BK467 BK476 BK481 BK508 BK513 BK551 BK552 HB
                  have BK467 := n0_
                  have BK476 := n1_
                  have BK481 := n2_
                  have BK508 := n3_
                  have BK513 := n4_
                  have BK551 := n5_
                  have BK552 := n6_
                  have HB := n7_
                  have BK558 := n8_
                  have GW558 := n9_
                  have GE558 := n10_
                  have NB467_558 := n11_
                  have NB558_467 := n12_
                  have NB476_558 := n13_
                  have NB558_476 := n14_
                  have NB481_558 := n15_
                  have NB558_481 := n16_
                  have NB508_558 := n17_
                  have NB558_508 := n18_
                  have NB513_558 := n19_
                  have NB558_513 := n20_
                  have NB551_558 := n21_
                  have NB558_551 := n22_
                  have NB552_558 := n23_
                  have NB558_552 := n24_
                  clear n0_ n1_ n2_ n3_ n4_ n5_ n6_ n7_ n8_ n9_ n10_ n11_ n12_ n13_ n14_ n15_ n16_ n17_ n18_ n19_ n20_ n21_ n22_ n23_ n24_ hb hbox hg
                  refine hK.out _ _ (c3U BK551) (fun hHeld => ?_)
                  clear hK K
                  refine norm_ (a' := ?_) ?_ ?_
                  rotate_left
                  ·show Act.put _ (some 64) _ = _
                   simp only [Act.put, List.setIfInBounds_toArray, List.set_cons_zero, List.set_cons_succ, i64_w, i32_w]
                   rfl
                  refine onU 6 (some 524) HT_ (fun K hK => ?_)
                  refine goes_ Tryz.func29 (by kernel_rfl) rfl #[.agg #[.int .i64 x552000_7, .bool x552001_7, .int .i64 x552002_7], .string (t466.extract (x553000_7 : Int).toNat ((wrap64 (x553000_7 + 1)) : Int).toNat)] (by rfl) rfl rfl arU ?_
                  with_reducible refine (impl_PotBall.calls k7 x552000_7 x552001_7 x552002_7 (t466.extract (x553000_7 : Int).toNat ((wrap64 (x553000_7 + 1)) : Int).toNat) t554 t555 t556 true _ A306.out).mono ?_
                  rintro e w318 ⟨rfl, hb⟩
                  refine ⟨_, rfl, ?_⟩
                  have n0_ := bbU BK467 hb
                  have n1_ := bbU BK476 hb
                  have n2_ := bbU BK481 hb
                  have n3_ := bbU BK508 hb
                  have n4_ := bbU BK513 hb
                  have n5_ := bbU BK551 hb
                  have n6_ := Aside0.mk (blk_below (g := gb552) (o := .stringIter t466 ((wrap64 (x553000_7 + 1)) : Int).toNat) bkU hb)
                  have n7_ := bbU BK558 hb
                  have n8_ := bsU hb
                  clear BK467 BK476 BK481 BK508 BK513 BK551 BK552 BK558 HB
                  have BK467 := n0_
                  have BK476 := n1_
                  have BK481 := n2_
                  have BK508 := n3_
                  have BK513 := n4_
                  have BK551 := n5_
                  have BK552 := n6_
                  have BK558 := n7_
                  have HB := n8_
                  clear n0_ n1_ n2_ n3_ n4_ n5_ n6_ n7_ n8_
                  (try clear hb)
                  refine hK.out _ _ (c3U BK551) (fun hHeld => ?_)
                  clear hK K
                  refine norm_ (a' := ?_) ?_ ?_
                  rotate_left
                  ·show Act.put _ (some 524) _ = _
                   simp only [Act.put, List.setIfInBounds_toArray, List.set_cons_zero, List.set_cons_succ, i64_w, i32_w]
                   rfl
                  refine puU 7 517 HT_ ?_
                  refine puU 8 525 HT_ ?_
                  refine puU 9 526 HT_ ?_
                  exact norm_ (by simp only [putAll, Act.put, List.setIfInBounds_toArray, List.set_cons_zero, List.set_cons_succ]) (hCont (gb558) _ ⟨hHeld, bkU, bkU, bkU, bkU, bkU, bkU, bkU, bkU, GW558.out, GE558.out, NB467_558.out, NB558_467.out, NB476_558.out, NB558_476.out, NB481_558.out, NB558_481.out, NB508_558.out, NB558_508.out, NB513_558.out, NB558_513.out, NB551_558.out, NB558_551.out, NB552_558.out, NB558_552.out, hbU⟩)
                rintro gb558 w319 ⟨hS_, h0_, h1_, h2_, h3_, h4_, h5_, h6_, h7_, h8_, h9_, h10_, h11_, h12_, h13_, h14_, h15_, h16_, h17_, h18_, h19_, h20_, h21_, h22_, h23_, h24_⟩
                have n0_ : Aside0 (w319.heap[gb467]? = some (.cells #[.int .i64 t463, .bool t464, .int .i64 t465] 25 (0, 0))) := ⟨h0_⟩
                have n1_ : Aside0 (w319.heap[gb476]? = some (.cells #[.int .i64 t472, .bool t473, .int .i64 t474] 25 (0, 0))) := ⟨h1_⟩
                have n2_ : Aside0 (w319.heap[gb481]? = some (.cells #[.int .i64 t477, .bool t478, .int .i64 t479] 25 (0, 0))) := ⟨h2_⟩
                have n3_ : Aside0 (w319.heap[gb508]? = some (.cells #[.int .i64 t504, .bool t505, .int .i64 t506] 25 (0, 0))) := ⟨h3_⟩
                have n4_ : Aside0 (w319.heap[gb513]? = some (.cells #[.int .i64 t509, .bool t510, .int .i64 t511] 25 (0, 0))) := ⟨h4_⟩
                have n5_ : Aside0 (w319.heap[gb551]? = some (.cells #[.int .i64 x552000_7, .bool x552001_7, .int .i64 x552002_7] 25 (0, 0))) := ⟨h5_⟩
                have n6_ : Aside0 (w319.heap[gb552]? = some (.stringIter t466 ((wrap64 (x553000_7 + 1)) : Int).toNat)) := ⟨h6_⟩
                have n7_ : Aside0 (w319.heap[gb558]? = some (.cells #[.int .i64 0, .bool false, .int .i64 0] 25 (0, 0))) := ⟨h7_⟩
                have n8_ : Aside0 (w.heap.size ≤ gb558) := ⟨h8_⟩
                have n9_ : Aside0 (w.heap.size ≤ gb558) := ⟨h9_⟩
                have n10_ : Aside0 (gb467 ≠ gb558) := ⟨h10_⟩
                have n11_ : Aside0 (gb558 ≠ gb467) := ⟨h11_⟩
                have n12_ : Aside0 (gb476 ≠ gb558) := ⟨h12_⟩
                have n13_ : Aside0 (gb558 ≠ gb476) := ⟨h13_⟩
                have n14_ : Aside0 (gb481 ≠ gb558) := ⟨h14_⟩
                have n15_ : Aside0 (gb558 ≠ gb481) := ⟨h15_⟩
                have n16_ : Aside0 (gb508 ≠ gb558) := ⟨h16_⟩
                have n17_ : Aside0 (gb558 ≠ gb508) := ⟨h17_⟩
                have n18_ : Aside0 (gb513 ≠ gb558) := ⟨h18_⟩
                have n19_ : Aside0 (gb558 ≠ gb513) := ⟨h19_⟩
                have n20_ : Aside0 (gb551 ≠ gb558) := ⟨h20_⟩
                have n21_ : Aside0 (gb558 ≠ gb551) := ⟨h21_⟩
                have n22_ : Aside0 (gb552 ≠ gb558) := ⟨h22_⟩
                have n23_ : Aside0 (gb558 ≠ gb552) := ⟨h23_⟩
                have n24_ : Aside0 (Below w.heap.size w w319) := ⟨h24_⟩
                clear BK467 BK476 BK481 BK508 BK513 BK551 BK552 HB h0_ h1_ h2_ h3_ h4_ h5_ h6_ h7_ h8_ h9_ h10_ h11_ h12_ h13_ h14_ h15_ h16_ h17_ h18_ h19_ h20_ h21_ h22_ h23_ h24_
                have BK467 := n0_
                have BK476 := n1_
                have BK481 := n2_
                have BK508 := n3_
                have BK513 := n4_
                have BK551 := n5_
                have BK552 := n6_
                have BK558 := n7_
                have GW558 := n8_
                have GE558 := n9_
                have NB467_558 := n10_
                have NB558_467 := n11_
                have NB476_558 := n12_
                have NB558_476 := n13_
                have NB481_558 := n14_
                have NB558_481 := n15_
                have NB508_558 := n16_
                have NB558_508 := n17_
                have NB513_558 := n18_
                have NB558_513 := n19_
                have NB551_558 := n20_
                have NB558_551 := n21_
                have NB552_558 := n22_
                have NB558_552 := n23_
                have HB := n24_
                clear n0_ n1_ n2_ n3_ n4_ n5_ n6_ n7_ n8_ n9_ n10_ n11_ n12_ n13_ n14_ n15_ n16_ n17_ n18_ n19_ n20_ n21_ n22_ n23_ n24_
                have hHeld : w319.cell? ⟨gb551, 0, none⟩ = some (.int .i64 x552000_7) ∧ w319.cell? ⟨gb551, 1, none⟩ = some (.bool x552001_7) ∧ w319.cell? ⟨gb551, 2, none⟩ = some (.int .i64 x552002_7) := hS_
                refine norm_ (a' := ?_) ?_ ?_
                rotate_left
                ·simp only [putAll, Act.put, List.setIfInBounds_toArray, List.set_cons_zero, List.set_cons_succ]
                 rfl
                refine onU 11 none HT_ (fun K hK => ?_)
                have hs320 : w319.cell? ⟨gb558, 0, none⟩ = some (.int .i64 0) := (blk_cell BK558.out 0).trans rfl
                have hfs320 := blk_frozen BK558.out 0
                have hns320_0 := NB467_558.out
                have hns320_1 := NB476_558.out
                have hns320_2 := NB481_558.out
                have hns320_3 := NB508_558.out
                have hns320_4 := NB513_558.out
                have hns320_5 := NB551_558.out
                have hns320_6 := NB552_558.out
                have hms320_0 := NB558_467.out
                have hms320_1 := NB558_476.out
                have hms320_2 := NB558_481.out
                have hms320_3 := NB558_508.out
                have hms320_4 := NB558_513.out
                have hms320_5 := NB558_551.out
                have hms320_6 := NB558_552.out
                have hs321 : w319.cell? ⟨gb558, 1, none⟩ = some (.bool false) := (blk_cell BK558.out 1).trans rfl
                have hfs321 := blk_frozen BK558.out 1
                have hns321_0 := NB467_558.out
                have hns321_1 := NB476_558.out
                have hns321_2 := NB481_558.out
                have hns321_3 := NB508_558.out
                have hns321_4 := NB513_558.out
                have hns321_5 := NB551_558.out
                have hns321_6 := NB552_558.out
                have hms321_0 := NB558_467.out
                have hms321_1 := NB558_476.out
                have hms321_2 := NB558_481.out
                have hms321_3 := NB558_508.out
                have hms321_4 := NB558_513.out
                have hms321_5 := NB558_551.out
                have hms321_6 := NB558_552.out
                have hs322 : w319.cell? ⟨gb558, 2, none⟩ = some (.int .i64 0) := (blk_cell BK558.out 2).trans rfl
                have hfs322 := blk_frozen BK558.out 2
                have hns322_0 := NB467_558.out
                have hns322_1 := NB476_558.out
                have hns322_2 := NB481_558.out
                have hns322_3 := NB508_558.out
                have hns322_4 := NB513_558.out
                have hns322_5 := NB551_558.out
                have hns322_6 := NB552_558.out
                have hms322_0 := NB558_467.out
                have hms322_1 := NB558_476.out
                have hms322_2 := NB558_481.out
                have hms322_3 := NB558_508.out
                have hms322_4 := NB558_513.out
                have hms322_5 := NB558_551.out
                have hms322_6 := NB558_552.out
                refine skip_ (w1 := ?_) (by rfl) rfl ?_ ?_
                rotate_left
                ·go_simp
                 rfl
                refine hK.out _ _ ⟨((cell_far (p := ⟨gb558, _, none⟩) NB551_558.out _).trans (((cell_far (p := ⟨gb558, _, none⟩) NB551_558.out _).trans (((cell_far (p := ⟨gb558, _, none⟩) NB551_558.out _).trans (hHeld.1)))))), ((cell_far (p := ⟨gb558, _, none⟩) NB551_558.out _).trans (((cell_far (p := ⟨gb558, _, none⟩) NB551_558.out _).trans (((cell_far (p := ⟨gb558, _, none⟩) NB551_558.out _).trans (hHeld.2.1)))))), ((cell_far (p := ⟨gb558, _, none⟩) NB551_558.out _).trans (((cell_far (p := ⟨gb558, _, none⟩) NB551_558.out _).trans (((cell_far (p := ⟨gb558, _, none⟩) NB551_558.out _).trans (hHeld.2.2))))))⟩ (fun hHeld => ?_)
                clear hK K
                refine puU 12 65 HT_ ?_
                refine dnU HT_ ?_
                have hnb323 := NB558_467.out
                have hnc323 := NB467_558.out
                have hnb324 := NB558_476.out
                have hnc324 := NB476_558.out
                have hnb325 := NB558_481.out
                have hnc325 := NB481_558.out
                have hnb326 := NB558_508.out
                have hnc326 := NB508_558.out
                have hnb327 := NB558_513.out
                have hnc327 := NB513_558.out
                have hnb328 := NB558_551.out
                have hnc328 := NB551_558.out
                have hnb329 := NB558_552.out
                have hnc329 := NB552_558.out
                obtain ⟨hcz330_0, hcz330_1, hcz330_2, hfz330_0, hfz330_1, hfz330_2⟩ := b3U BK558
                have hnb331 := NB551_467.out
                have hnc331 := NB467_551.out
                have hnb332 := NB551_476.out
                have hnc332 := NB476_551.out
                have hnb333 := NB551_481.out
                have hnc333 := NB481_551.out
                have hnb334 := NB551_508.out
                have hnc334 := NB508_551.out
                have hnb335 := NB551_513.out
                have hnc335 := NB513_551.out
                obtain ⟨hcz336_0, hcz336_1, hcz336_2, hfz336_0, hfz336_1, hfz336_2⟩ := b3U BK551
                try go_wp2
                go_roundg k7
                case measure => have := HJ3.out; have := HJ24.out; have := HJ128.out; have := HJ130.out; have := HJ268.out; have := HJ282.out; have := HK7.out; omega
                case rel => exact ⟨(t554), (t555), (t556), (wrap64 (x553000_7 + 1)), H', ⟨by have := HJ3.out; have := HJ24.out; have := HJ128.out; have := HJ130.out; have := HJ268.out; have := HJ282.out; have := HK7.out; omega⟩, ⟨bkU⟩, ⟨bkU⟩, ⟨bkU⟩, ⟨bkU⟩, ⟨bkU⟩, ⟨bkU⟩, ⟨bkU⟩, ⟨hbU⟩⟩
         case rest => as_aux_lemma =>
          clear HC264
          (try clear c265); (try clear c298); (try clear c298b0); (try clear c299); (try clear c300); (try clear c304); (try clear c305); (try clear c307); (try clear c337); (try clear c337b0); (try clear hcz330_0); (try clear hcz330_1); (try clear hcz330_2); (try clear hcz336_0); (try clear hcz336_1); (try clear hcz336_2); (try clear hcz350_0); (try clear hcz350_1); (try clear hcz350_2); (try clear hcz355_0); (try clear hcz355_1); (try clear hcz355_2); (try clear hfz330_0); (try clear hfz330_1); (try clear hfz330_2); (try clear hfz336_0); (try clear hfz336_1); (try clear hfz336_2); (try clear hfz350_0); (try clear hfz350_1); (try clear hfz350_2); (try clear hfz355_0); (try clear hfz355_1); (try clear hfz355_2)
          obtain ⟨kq, HA, HJ263, BK467, BK476, BK481, BK508, BK513, HB⟩ := hcut
          cases kq with
          | zero => exact absurd HA.out (by simp [laws_FnFramesPotted.j11])
          | succ kj263 =>
           have H := HA.out
           clear HA
           simp only [laws_FnFramesPotted.j11] at H
           replace H := Option.bind_eq_some_iff.mp H
           obtain ⟨⟨t559, t560, t561, t562⟩, A3560, H⟩ := H
           (try dsimp only at H)
           have A356 := Aside0.mk A3560
           clear A3560
           replace H := Option.bind_eq_some_iff.mp H
           obtain ⟨⟨t564, t565, t566, t567⟩, A3570, H⟩ := H
           (try dsimp only at H)
           have A357 := Aside0.mk A3570
           clear A3570
           replace H := Option.bind_eq_some_iff.mp H
           obtain ⟨⟨t569, t570, t571, t572⟩, A3580, H⟩ := H
           (try dsimp only at H)
           have A358 := Aside0.mk A3580
           clear A3580
           replace H := Option.bind_eq_some_iff.mp H
           obtain ⟨t574, A3590, H⟩ := H
           (try dsimp only at H)
           have A359 := Aside0.mk A3590
           clear A3590
           replace H := Option.bind_eq_some_iff.mp H
           obtain ⟨⟨t575, t576, t577, t578⟩, A3600, H⟩ := H
           (try dsimp only at H)
           have A360 := Aside0.mk A3600
           clear A3600
           replace H := Option.bind_eq_some_iff.mp H
           obtain ⟨⟨t580, t581, t582, t583⟩, A3610, H⟩ := H
           (try dsimp only at H)
           have A361 := Aside0.mk A3610
           clear A3610
           replace H := Option.bind_eq_some_iff.mp H
           obtain ⟨t585, A3620, H⟩ := H
           (try dsimp only at H)
           have A362 := Aside0.mk A3620
           clear A3620
           replace H := Option.bind_eq_some_iff.mp H
           obtain ⟨⟨t586, t587, t588, t589⟩, A3630, H⟩ := H
           (try dsimp only at H)
           have A363 := Aside0.mk A3630
           clear A3630
           replace H := Option.bind_eq_some_iff.mp H
           obtain ⟨⟨t591, t592, t593, t594⟩, A3640, H⟩ := H
           (try dsimp only at H)
           have A364 := Aside0.mk A3640
           clear A3640
           replace H := Option.bind_eq_some_iff.mp H
           obtain ⟨t596, A3650, H⟩ := H
           (try dsimp only at H)
           have A365 := Aside0.mk A3650
           clear A3650
           replace H := Option.bind_eq_some_iff.mp H
           obtain ⟨⟨t597, t598⟩, A3660, H⟩ := H
           (try dsimp only at H)
           have A366 := Aside0.mk A3660
           clear A3660
           replace H := Option.bind_eq_some_iff.mp H
           obtain ⟨⟨t599, t600⟩, A3670, H⟩ := H
           (try dsimp only at H)
           have A367 := Aside0.mk A3670
           clear A3670
           have HC368 := Aside0.mk H
           clear H
           go_upto_region 67 with (first | ((with_reducible refine gate_callee (f := 30) rfl ?_); refine goU (some 535) Tryz.func30 #[.slice A1 l1.length c1] ?_; (with_reducible refine (spec_DrawPotBall.calls kj263 _ _ l1 t559 t560 t561 t562 _ ?side1 ?side2 A356.out).mono ?_); (case side1 => repeat (first | exact (Kd.C_below HR1.out HB.out) | (with_reducible refine Kd.C_alloc ?_ _) | (with_reducible refine Kd.C_drewN ?_ _) | (with_reducible refine Kd.C_drew ?_))); (case side2 => exact HC1.out); rintro e w369 ⟨rfl, hb⟩; refine ⟨_, rfl, ?_⟩; have n0_ := bbU BK467 hb; have n1_ := bbU BK476 hb; have n2_ := bbU BK481 hb; have n3_ := bbU BK508 hb; have n4_ := bbU BK513 hb; have n5_ := bsU hb; clear BK467; clear BK476; clear BK481; clear BK508; clear BK513; clear HB; have BK467 := n0_; have BK476 := n1_; have BK481 := n2_; have BK508 := n3_; have BK513 := n4_; have HB := n5_; clear n0_ n1_ n2_ n3_ n4_ n5_; (try clear hb); (try clear hb2); (try clear hk); (try clear hi)) | ((with_reducible refine gate_dst (N := 66) rfl ?_); (try (refine gate_guard (by rfl) ?_; dsimp only)); refine bxU (cs := #[.int .i64 0, .bool false, .int .i64 0]) (t := 25) ?_; intro gb563 hg w370 hbox hb; have n0_ := bbU BK467 hb; have n1_ := bbU BK476 hb; have n2_ := bbU BK481 hb; have n3_ := bbU BK508 hb; have n4_ := bbU BK513 hb; have n5_ := bsU hb; have n6_ := Aside0.mk (hbox); have n7_ := geU hg; have n8_ := geU hg; have n9_ := neU BK467 hg; have n10_ := enU BK467 hg; have n11_ := neU BK476 hg; have n12_ := enU BK476 hg; have n13_ := neU BK481 hg; have n14_ := enU BK481 hg; have n15_ := neU BK508 hg; have n16_ := enU BK508 hg; have n17_ := neU BK513 hg; have n18_ := enU BK513 hg; clear BK467; clear BK476; clear BK481; clear BK508; clear BK513; clear HB; have BK467 := n0_; have BK476 := n1_; have BK481 := n2_; have BK508 := n3_; have BK513 := n4_; have HB := n5_; have BK563 := n6_; have GW563 := n7_; have GE563 := n8_; have NB467_563 := n9_; have NB563_467 := n10_; have NB476_563 := n11_; have NB563_476 := n12_; have NB481_563 := n13_; have NB563_481 := n14_; have NB508_563 := n15_; have NB563_508 := n16_; have NB513_563 := n17_; have NB563_513 := n18_; clear n0_ n1_ n2_ n3_ n4_ n5_ n6_ n7_ n8_ n9_ n10_ n11_ n12_ n13_ n14_ n15_ n16_ n17_ n18_; clear hb hbox hg; have hnb371 := NB563_467.out; have hnc371 := NB467_563.out; have hnb372 := NB563_476.out; have hnc372 := NB476_563.out; have hnb373 := NB563_481.out; have hnc373 := NB481_563.out; have hnb374 := NB563_508.out; have hnc374 := NB508_563.out; have hnb375 := NB563_513.out; have hnc375 := NB513_563.out; obtain ⟨hcz376_0, hcz376_1, hcz376_2, hfz376_0, hfz376_1, hfz376_2⟩ := b3U BK563) | ((with_reducible refine gate_callee (f := 29) rfl ?_); refine goU (some 541) Tryz.func29 #[.agg #[.int .i64 t559, .bool t560, .int .i64 t561], .string t562] ?_; (with_reducible refine (impl_PotBall.calls kj263 t559 t560 t561 t562 t564 t565 t566 t567 _ A357.out).mono ?_); rintro e w377 ⟨rfl, hb⟩; refine ⟨_, rfl, ?_⟩; have n0_ := bbU BK467 hb; have n1_ := bbU BK476 hb; have n2_ := bbU BK481 hb; have n3_ := bbU BK508 hb; have n4_ := bbU BK513 hb; have n5_ := Aside0.mk (blk_below (g := gb563) (o := .cells #[.int .i64 t559, .bool t560, .int .i64 t561] 25 (0, 0)) bkU hb); have n6_ := bsU hb; clear BK467; clear BK476; clear BK481; clear BK508; clear BK513; clear BK563; clear HB; have BK467 := n0_; have BK476 := n1_; have BK481 := n2_; have BK508 := n3_; have BK513 := n4_; have BK563 := n5_; have HB := n6_; clear n0_ n1_ n2_ n3_ n4_ n5_ n6_; (try clear hb); (try clear hb2); (try clear hk); (try clear hi)) | ((with_reducible refine gate_dst (N := 68) rfl ?_); (try (refine gate_guard (by rfl) ?_; dsimp only)); refine bxU (cs := #[.int .i64 0, .bool false, .int .i64 0]) (t := 25) ?_; intro gb568 hg w378 hbox hb; have n0_ := bbU BK467 hb; have n1_ := bbU BK476 hb; have n2_ := bbU BK481 hb; have n3_ := bbU BK508 hb; have n4_ := bbU BK513 hb; have n5_ := bbU BK563 hb; have n6_ := bsU hb; have n7_ := Aside0.mk (hbox); have n8_ := geU hg; have n9_ := geU hg; have n10_ := neU BK467 hg; have n11_ := enU BK467 hg; have n12_ := neU BK476 hg; have n13_ := enU BK476 hg; have n14_ := neU BK481 hg; have n15_ := enU BK481 hg; have n16_ := neU BK508 hg; have n17_ := enU BK508 hg; have n18_ := neU BK513 hg; have n19_ := enU BK513 hg; have n20_ := neU BK563 hg; have n21_ := enU BK563 hg; clear BK467; clear BK476; clear BK481; clear BK508; clear BK513; clear BK563; clear HB; have BK467 := n0_; have BK476 := n1_; have BK481 := n2_; have BK508 := n3_; have BK513 := n4_; have BK563 := n5_; have HB := n6_; have BK568 := n7_; have GW568 := n8_; have GE568 := n9_; have NB467_568 := n10_; have NB568_467 := n11_; have NB476_568 := n12_; have NB568_476 := n13_; have NB481_568 := n14_; have NB568_481 := n15_; have NB508_568 := n16_; have NB568_508 := n17_; have NB513_568 := n18_; have NB568_513 := n19_; have NB563_568 := n20_; have NB568_563 := n21_; clear n0_ n1_ n2_ n3_ n4_ n5_ n6_ n7_ n8_ n9_ n10_ n11_ n12_ n13_ n14_ n15_ n16_ n17_ n18_ n19_ n20_ n21_; clear hb hbox hg; have hnb379 := NB568_467.out; have hnc379 := NB467_568.out; have hnb380 := NB568_476.out; have hnc380 := NB476_568.out; have hnb381 := NB568_481.out; have hnc381 := NB481_568.out; have hnb382 := NB568_508.out; have hnc382 := NB508_568.out; have hnb383 := NB568_513.out; have hnc383 := NB513_568.out; have hnb384 := NB568_563.out; have hnc384 := NB563_568.out; obtain ⟨hcz385_0, hcz385_1, hcz385_2, hfz385_0, hfz385_1, hfz385_2⟩ := b3U BK568; obtain ⟨hcz386_0, hcz386_1, hcz386_2, hfz386_0, hfz386_1, hfz386_2⟩ := b3U BK563) | ((with_reducible refine gate_callee (f := 31) rfl ?_); refine goU (some 547) Tryz.func31 #[.agg #[.int .i64 t559, .bool t560, .int .i64 t561], .string t562] ?_; (with_reducible refine (spec_PotBall.calls kj263 t559 t560 t561 t562 t569 t570 t571 t572 _ A358.out).mono ?_); rintro e w387 ⟨rfl, hb⟩; refine ⟨_, rfl, ?_⟩; have n0_ := bbU BK467 hb; have n1_ := bbU BK476 hb; have n2_ := bbU BK481 hb; have n3_ := bbU BK508 hb; have n4_ := bbU BK513 hb; have n5_ := bbU BK563 hb; have n6_ := Aside0.mk (blk_below (g := gb568) (o := .cells #[.int .i64 t564, .bool t565, .int .i64 t566] 25 (0, 0)) bkU hb); have n7_ := bsU hb; clear BK467; clear BK476; clear BK481; clear BK508; clear BK513; clear BK563; clear BK568; clear HB; have BK467 := n0_; have BK476 := n1_; have BK481 := n2_; have BK508 := n3_; have BK513 := n4_; have BK563 := n5_; have BK568 := n6_; have HB := n7_; clear n0_ n1_ n2_ n3_ n4_ n5_ n6_ n7_; (try clear hb); (try clear hb2); (try clear hk); (try clear hi)) | ((with_reducible refine gate_dst (N := 70) rfl ?_); (try (refine gate_guard (by rfl) ?_; dsimp only)); refine bxU (cs := #[.int .i64 0, .bool false, .int .i64 0]) (t := 25) ?_; intro gb573 hg w388 hbox hb; have n0_ := bbU BK467 hb; have n1_ := bbU BK476 hb; have n2_ := bbU BK481 hb; have n3_ := bbU BK508 hb; have n4_ := bbU BK513 hb; have n5_ := bbU BK563 hb; have n6_ := bbU BK568 hb; have n7_ := bsU hb; have n8_ := Aside0.mk (hbox); have n9_ := geU hg; have n10_ := geU hg; have n11_ := neU BK467 hg; have n12_ := enU BK467 hg; have n13_ := neU BK476 hg; have n14_ := enU BK476 hg; have n15_ := neU BK481 hg; have n16_ := enU BK481 hg; have n17_ := neU BK508 hg; have n18_ := enU BK508 hg; have n19_ := neU BK513 hg; have n20_ := enU BK513 hg; have n21_ := neU BK563 hg; have n22_ := enU BK563 hg; have n23_ := neU BK568 hg; have n24_ := enU BK568 hg; clear BK467; clear BK476; clear BK481; clear BK508; clear BK513; clear BK563; clear BK568; clear HB; have BK467 := n0_; have BK476 := n1_; have BK481 := n2_; have BK508 := n3_; have BK513 := n4_; have BK563 := n5_; have BK568 := n6_; have HB := n7_; have BK573 := n8_; have GW573 := n9_; have GE573 := n10_; have NB467_573 := n11_; have NB573_467 := n12_; have NB476_573 := n13_; have NB573_476 := n14_; have NB481_573 := n15_; have NB573_481 := n16_; have NB508_573 := n17_; have NB573_508 := n18_; have NB513_573 := n19_; have NB573_513 := n20_; have NB563_573 := n21_; have NB573_563 := n22_; have NB568_573 := n23_; have NB573_568 := n24_; clear n0_ n1_ n2_ n3_ n4_ n5_ n6_ n7_ n8_ n9_ n10_ n11_ n12_ n13_ n14_ n15_ n16_ n17_ n18_ n19_ n20_ n21_ n22_ n23_ n24_; clear hb hbox hg; have hnb389 := NB573_467.out; have hnc389 := NB467_573.out; have hnb390 := NB573_476.out; have hnc390 := NB476_573.out; have hnb391 := NB573_481.out; have hnc391 := NB481_573.out; have hnb392 := NB573_508.out; have hnc392 := NB508_573.out; have hnb393 := NB573_513.out; have hnc393 := NB513_573.out; have hnb394 := NB573_563.out; have hnc394 := NB563_573.out; have hnb395 := NB573_568.out; have hnc395 := NB568_573.out; obtain ⟨hcz396_0, hcz396_1, hcz396_2, hfz396_0, hfz396_1, hfz396_2⟩ := b3U BK573) | ((with_reducible refine gate_callee (f := 32) rfl ?_); refine goU (some 551) Tryz.func32 #[.slice A1 l1.length c1] ?_; (with_reducible refine (spec_DrawFirstFrame.calls _ _ l1 t574 _ ?side1 ?side2 A359.out).mono ?_); (case side1 => exact Kd.C_below HR1.out hbU); (case side2 => exact HC1.out); rintro e w397 ⟨rfl, hb⟩; refine ⟨_, rfl, ?_⟩; have n0_ := bbU BK467 hb; have n1_ := bbU BK476 hb; have n2_ := bbU BK481 hb; have n3_ := bbU BK508 hb; have n4_ := bbU BK513 hb; have n5_ := bbU BK563 hb; have n6_ := bbU BK568 hb; have n7_ := Aside0.mk (blk_below (g := gb573) (o := .cells #[.int .i64 t569, .bool t570, .int .i64 t571] 25 (0, 0)) bkU hb); have n8_ := bsU hb; clear BK467; clear BK476; clear BK481; clear BK508; clear BK513; clear BK563; clear BK568; clear BK573; clear HB; have BK467 := n0_; have BK476 := n1_; have BK481 := n2_; have BK508 := n3_; have BK513 := n4_; have BK563 := n5_; have BK568 := n6_; have BK573 := n7_; have HB := n8_; clear n0_ n1_ n2_ n3_ n4_ n5_ n6_ n7_ n8_; (try clear hb); (try clear hb2); (try clear hk); (try clear hi)) | ((with_reducible refine gate_callee (f := 33) rfl ?_); refine goU (some 554) Tryz.func33 #[.int .i64 t574] ?_; (with_reducible refine (impl_FirstFrame.calls kj263 t574 t575 t576 t577 t578 _ A360.out).mono ?_); rintro e w398 ⟨rfl, hb⟩; refine ⟨_, rfl, ?_⟩; have n0_ := bbU BK467 hb; have n1_ := bbU BK476 hb; have n2_ := bbU BK481 hb; have n3_ := bbU BK508 hb; have n4_ := bbU BK513 hb; have n5_ := bbU BK563 hb; have n6_ := bbU BK568 hb; have n7_ := bbU BK573 hb; have n8_ := bsU hb; clear BK467; clear BK476; clear BK481; clear BK508; clear BK513; clear BK563; clear BK568; clear BK573; clear HB; have BK467 := n0_; have BK476 := n1_; have BK481 := n2_; have BK508 := n3_; have BK513 := n4_; have BK563 := n5_; have BK568 := n6_; have BK573 := n7_; have HB := n8_; clear n0_ n1_ n2_ n3_ n4_ n5_ n6_ n7_ n8_; (try clear hb); (try clear hb2); (try clear hk); (try clear hi)) | ((with_reducible refine gate_dst (N := 73) rfl ?_); (try (refine gate_guard (by rfl) ?_; dsimp only)); refine bxU (cs := #[.int .i64 0, .bool false, .int .i64 0]) (t := 25) ?_; intro gb579 hg w399 hbox hb; have n0_ := bbU BK467 hb; have n1_ := bbU BK476 hb; have n2_ := bbU BK481 hb; have n3_ := bbU BK508 hb; have n4_ := bbU BK513 hb; have n5_ := bbU BK563 hb; have n6_ := bbU BK568 hb; have n7_ := bbU BK573 hb; have n8_ := bsU hb; have n9_ := Aside0.mk (hbox); have n10_ := geU hg; have n11_ := geU hg; have n12_ := neU BK467 hg; have n13_ := enU BK467 hg; have n14_ := neU BK476 hg; have n15_ := enU BK476 hg; have n16_ := neU BK481 hg; have n17_ := enU BK481 hg; have n18_ := neU BK508 hg; have n19_ := enU BK508 hg; have n20_ := neU BK513 hg; have n21_ := enU BK513 hg; have n22_ := neU BK563 hg; have n23_ := enU BK563 hg; have n24_ := neU BK568 hg; have n25_ := enU BK568 hg; have n26_ := neU BK573 hg; have n27_ := enU BK573 hg; clear BK467; clear BK476; clear BK481; clear BK508; clear BK513; clear BK563; clear BK568; clear BK573; clear HB; have BK467 := n0_; have BK476 := n1_; have BK481 := n2_; have BK508 := n3_; have BK513 := n4_; have BK563 := n5_; have BK568 := n6_; have BK573 := n7_; have HB := n8_; have BK579 := n9_; have GW579 := n10_; have GE579 := n11_; have NB467_579 := n12_; have NB579_467 := n13_; have NB476_579 := n14_; have NB579_476 := n15_; have NB481_579 := n16_; have NB579_481 := n17_; have NB508_579 := n18_; have NB579_508 := n19_; have NB513_579 := n20_; have NB579_513 := n21_; have NB563_579 := n22_; have NB579_563 := n23_; have NB568_579 := n24_; have NB579_568 := n25_; have NB573_579 := n26_; have NB579_573 := n27_; clear n0_ n1_ n2_ n3_ n4_ n5_ n6_ n7_ n8_ n9_ n10_ n11_ n12_ n13_ n14_ n15_ n16_ n17_ n18_ n19_ n20_ n21_ n22_ n23_ n24_ n25_ n26_ n27_; clear hb hbox hg; have hnb400 := NB579_467.out; have hnc400 := NB467_579.out; have hnb401 := NB579_476.out; have hnc401 := NB476_579.out; have hnb402 := NB579_481.out; have hnc402 := NB481_579.out; have hnb403 := NB579_508.out; have hnc403 := NB508_579.out; have hnb404 := NB579_513.out; have hnc404 := NB513_579.out; have hnb405 := NB579_563.out; have hnc405 := NB563_579.out; have hnb406 := NB579_568.out; have hnc406 := NB568_579.out; have hnb407 := NB579_573.out; have hnc407 := NB573_579.out; obtain ⟨hcz408_0, hcz408_1, hcz408_2, hfz408_0, hfz408_1, hfz408_2⟩ := b3U BK579) | ((with_reducible refine gate_callee (f := 34) rfl ?_); refine goU (some 559) Tryz.func34 #[.int .i64 t574] ?_; (with_reducible refine (spec_FirstFrame.calls t574 t580 t581 t582 t583 _ A361.out).mono ?_); rintro e w409 ⟨rfl, hb⟩; refine ⟨_, rfl, ?_⟩; have n0_ := bbU BK467 hb; have n1_ := bbU BK476 hb; have n2_ := bbU BK481 hb; have n3_ := bbU BK508 hb; have n4_ := bbU BK513 hb; have n5_ := bbU BK563 hb; have n6_ := bbU BK568 hb; have n7_ := bbU BK573 hb; have n8_ := Aside0.mk (blk_below (g := gb579) (o := .cells #[.int .i64 t575, .bool t576, .int .i64 t577] 25 (0, 0)) bkU hb); have n9_ := bsU hb; clear BK467; clear BK476; clear BK481; clear BK508; clear BK513; clear BK563; clear BK568; clear BK573; clear BK579; clear HB; have BK467 := n0_; have BK476 := n1_; have BK481 := n2_; have BK508 := n3_; have BK513 := n4_; have BK563 := n5_; have BK568 := n6_; have BK573 := n7_; have BK579 := n8_; have HB := n9_; clear n0_ n1_ n2_ n3_ n4_ n5_ n6_ n7_ n8_ n9_; (try clear hb); (try clear hb2); (try clear hk); (try clear hi)) | ((with_reducible refine gate_dst (N := 75) rfl ?_); (try (refine gate_guard (by rfl) ?_; dsimp only)); refine bxU (cs := #[.int .i64 0, .bool false, .int .i64 0]) (t := 25) ?_; intro gb584 hg w410 hbox hb; have n0_ := bbU BK467 hb; have n1_ := bbU BK476 hb; have n2_ := bbU BK481 hb; have n3_ := bbU BK508 hb; have n4_ := bbU BK513 hb; have n5_ := bbU BK563 hb; have n6_ := bbU BK568 hb; have n7_ := bbU BK573 hb; have n8_ := bbU BK579 hb; have n9_ := bsU hb; have n10_ := Aside0.mk (hbox); have n11_ := geU hg; have n12_ := geU hg; have n13_ := neU BK467 hg; have n14_ := enU BK467 hg; have n15_ := neU BK476 hg; have n16_ := enU BK476 hg; have n17_ := neU BK481 hg; have n18_ := enU BK481 hg; have n19_ := neU BK508 hg; have n20_ := enU BK508 hg; have n21_ := neU BK513 hg; have n22_ := enU BK513 hg; have n23_ := neU BK563 hg; have n24_ := enU BK563 hg; have n25_ := neU BK568 hg; have n26_ := enU BK568 hg; have n27_ := neU BK573 hg; have n28_ := enU BK573 hg; have n29_ := neU BK579 hg; have n30_ := enU BK579 hg; clear BK467; clear BK476; clear BK481; clear BK508; clear BK513; clear BK563; clear BK568; clear BK573; clear BK579; clear HB; have BK467 := n0_; have BK476 := n1_; have BK481 := n2_; have BK508 := n3_; have BK513 := n4_; have BK563 := n5_; have BK568 := n6_; have BK573 := n7_; have BK579 := n8_; have HB := n9_; have BK584 := n10_; have GW584 := n11_; have GE584 := n12_; have NB467_584 := n13_; have NB584_467 := n14_; have NB476_584 := n15_; have NB584_476 := n16_; have NB481_584 := n17_; have NB584_481 := n18_; have NB508_584 := n19_; have NB584_508 := n20_; have NB513_584 := n21_; have NB584_513 := n22_; have NB563_584 := n23_; have NB584_563 := n24_; have NB568_584 := n25_; have NB584_568 := n26_; have NB573_584 := n27_; have NB584_573 := n28_; have NB579_584 := n29_; have NB584_579 := n30_; clear n0_ n1_ n2_ n3_ n4_ n5_ n6_ n7_ n8_ n9_ n10_ n11_ n12_ n13_ n14_ n15_ n16_ n17_ n18_ n19_ n20_ n21_ n22_ n23_ n24_ n25_ n26_ n27_ n28_ n29_ n30_; clear hb hbox hg; have hnb411 := NB584_467.out; have hnc411 := NB467_584.out; have hnb412 := NB584_476.out; have hnc412 := NB476_584.out; have hnb413 := NB584_481.out; have hnc413 := NB481_584.out; have hnb414 := NB584_508.out; have hnc414 := NB508_584.out; have hnb415 := NB584_513.out; have hnc415 := NB513_584.out; have hnb416 := NB584_563.out; have hnc416 := NB563_584.out; have hnb417 := NB584_568.out; have hnc417 := NB568_584.out; have hnb418 := NB584_573.out; have hnc418 := NB573_584.out; have hnb419 := NB584_579.out; have hnc419 := NB579_584.out; obtain ⟨hcz420_0, hcz420_1, hcz420_2, hfz420_0, hfz420_1, hfz420_2⟩ := b3U BK584) | ((with_reducible refine gate_callee (f := 35) rfl ?_); refine goU (some 563) Tryz.func35 #[.slice A1 l1.length c1] ?_; (with_reducible refine (spec_DrawParseFrame.calls kj263 _ _ l1 t585 _ ?side1 ?side2 A362.out).mono ?_); (case side1 => exact Kd.C_below HR1.out hbU); (case side2 => exact HC1.out); rintro e w421 ⟨rfl, hb⟩; refine ⟨_, rfl, ?_⟩; have n0_ := bbU BK467 hb; have n1_ := bbU BK476 hb; have n2_ := bbU BK481 hb; have n3_ := bbU BK508 hb; have n4_ := bbU BK513 hb; have n5_ := bbU BK563 hb; have n6_ := bbU BK568 hb; have n7_ := bbU BK573 hb; have n8_ := bbU BK579 hb; have n9_ := Aside0.mk (blk_below (g := gb584) (o := .cells #[.int .i64 t580, .bool t581, .int .i64 t582] 25 (0, 0)) bkU hb); have n10_ := bsU hb; clear BK467; clear BK476; clear BK481; clear BK508; clear BK513; clear BK563; clear BK568; clear BK573; clear BK579; clear BK584; clear HB; have BK467 := n0_; have BK476 := n1_; have BK481 := n2_; have BK508 := n3_; have BK513 := n4_; have BK563 := n5_; have BK568 := n6_; have BK573 := n7_; have BK579 := n8_; have BK584 := n9_; have HB := n10_; clear n0_ n1_ n2_ n3_ n4_ n5_ n6_ n7_ n8_ n9_ n10_; (try clear hb); (try clear hb2); (try clear hk); (try clear hi)) | ((with_reducible refine gate_callee (f := 28) rfl ?_); refine goU (some 566) Tryz.func28 #[.string t585] ?_; (with_reducible refine (impl_ParseFrame.calls kj263 t585 t586 t587 t588 t589 _ A363.out).mono ?_); rintro e w422 ⟨rfl, hb⟩; refine ⟨_, rfl, ?_⟩; have n0_ := bbU BK467 hb; have n1_ := bbU BK476 hb; have n2_ := bbU BK481 hb; have n3_ := bbU BK508 hb; have n4_ := bbU BK513 hb; have n5_ := bbU BK563 hb; have n6_ := bbU BK568 hb; have n7_ := bbU BK573 hb; have n8_ := bbU BK579 hb; have n9_ := bbU BK584 hb; have n10_ := bsU hb; clear BK467; clear BK476; clear BK481; clear BK508; clear BK513; clear BK563; clear BK568; clear BK573; clear BK579; clear BK584; clear HB; have BK467 := n0_; have BK476 := n1_; have BK481 := n2_; have BK508 := n3_; have BK513 := n4_; have BK563 := n5_; have BK568 := n6_; have BK573 := n7_; have BK579 := n8_; have BK584 := n9_; have HB := n10_; clear n0_ n1_ n2_ n3_ n4_ n5_ n6_ n7_ n8_ n9_ n10_; (try clear hb); (try clear hb2); (try clear hk); (try clear hi)) | ((with_reducible refine gate_dst (N := 78) rfl ?_); (try (refine gate_guard (by rfl) ?_; dsimp only)); refine bxU (cs := #[.int .i64 0, .bool false, .int .i64 0]) (t := 25) ?_; intro gb590 hg w423 hbox hb; have n0_ := bbU BK467 hb; have n1_ := bbU BK476 hb; have n2_ := bbU BK481 hb; have n3_ := bbU BK508 hb; have n4_ := bbU BK513 hb; have n5_ := bbU BK563 hb; have n6_ := bbU BK568 hb; have n7_ := bbU BK573 hb; have n8_ := bbU BK579 hb; have n9_ := bbU BK584 hb; have n10_ := bsU hb; have n11_ := Aside0.mk (hbox); have n12_ := geU hg; have n13_ := geU hg; have n14_ := neU BK467 hg; have n15_ := enU BK467 hg; have n16_ := neU BK476 hg; have n17_ := enU BK476 hg; have n18_ := neU BK481 hg; have n19_ := enU BK481 hg; have n20_ := neU BK508 hg; have n21_ := enU BK508 hg; have n22_ := neU BK513 hg; have n23_ := enU BK513 hg; have n24_ := neU BK563 hg; have n25_ := enU BK563 hg; have n26_ := neU BK568 hg; have n27_ := enU BK568 hg; have n28_ := neU BK573 hg; have n29_ := enU BK573 hg; have n30_ := neU BK579 hg; have n31_ := enU BK579 hg; have n32_ := neU BK584 hg; have n33_ := enU BK584 hg; clear BK467; clear BK476; clear BK481; clear BK508; clear BK513; clear BK563; clear BK568; clear BK573; clear BK579; clear BK584; clear HB; have BK467 := n0_; have BK476 := n1_; have BK481 := n2_; have BK508 := n3_; have BK513 := n4_; have BK563 := n5_; have BK568 := n6_; have BK573 := n7_; have BK579 := n8_; have BK584 := n9_; have HB := n10_; have BK590 := n11_; have GW590 := n12_; have GE590 := n13_; have NB467_590 := n14_; have NB590_467 := n15_; have NB476_590 := n16_; have NB590_476 := n17_; have NB481_590 := n18_; have NB590_481 := n19_; have NB508_590 := n20_; have NB590_508 := n21_; have NB513_590 := n22_; have NB590_513 := n23_; have NB563_590 := n24_; have NB590_563 := n25_; have NB568_590 := n26_; have NB590_568 := n27_; have NB573_590 := n28_; have NB590_573 := n29_; have NB579_590 := n30_; have NB590_579 := n31_; have NB584_590 := n32_; have NB590_584 := n33_; clear n0_ n1_ n2_ n3_ n4_ n5_ n6_ n7_ n8_ n9_ n10_ n11_ n12_ n13_ n14_ n15_ n16_ n17_ n18_ n19_ n20_ n21_ n22_ n23_ n24_ n25_ n26_ n27_ n28_ n29_ n30_ n31_ n32_ n33_; clear hb hbox hg; have hnb424 := NB590_467.out; have hnc424 := NB467_590.out; have hnb425 := NB590_476.out; have hnc425 := NB476_590.out; have hnb426 := NB590_481.out; have hnc426 := NB481_590.out; have hnb427 := NB590_508.out; have hnc427 := NB508_590.out; have hnb428 := NB590_513.out; have hnc428 := NB513_590.out; have hnb429 := NB590_563.out; have hnc429 := NB563_590.out; have hnb430 := NB590_568.out; have hnc430 := NB568_590.out; have hnb431 := NB590_573.out; have hnc431 := NB573_590.out; have hnb432 := NB590_579.out; have hnc432 := NB579_590.out; have hnb433 := NB590_584.out; have hnc433 := NB584_590.out; obtain ⟨hcz434_0, hcz434_1, hcz434_2, hfz434_0, hfz434_1, hfz434_2⟩ := b3U BK590) | ((with_reducible refine gate_callee (f := 36) rfl ?_); refine goU (some 571) Tryz.func36 #[.string t585] ?_; (with_reducible refine (spec_ParseFrame.calls kj263 t585 t591 t592 t593 t594 _ A364.out).mono ?_); rintro e w435 ⟨rfl, hb⟩; refine ⟨_, rfl, ?_⟩; have n0_ := bbU BK467 hb; have n1_ := bbU BK476 hb; have n2_ := bbU BK481 hb; have n3_ := bbU BK508 hb; have n4_ := bbU BK513 hb; have n5_ := bbU BK563 hb; have n6_ := bbU BK568 hb; have n7_ := bbU BK573 hb; have n8_ := bbU BK579 hb; have n9_ := bbU BK584 hb; have n10_ := Aside0.mk (blk_below (g := gb590) (o := .cells #[.int .i64 t586, .bool t587, .int .i64 t588] 25 (0, 0)) bkU hb); have n11_ := bsU hb; clear BK467; clear BK476; clear BK481; clear BK508; clear BK513; clear BK563; clear BK568; clear BK573; clear BK579; clear BK584; clear BK590; clear HB; have BK467 := n0_; have BK476 := n1_; have BK481 := n2_; have BK508 := n3_; have BK513 := n4_; have BK563 := n5_; have BK568 := n6_; have BK573 := n7_; have BK579 := n8_; have BK584 := n9_; have BK590 := n10_; have HB := n11_; clear n0_ n1_ n2_ n3_ n4_ n5_ n6_ n7_ n8_ n9_ n10_ n11_; (try clear hb); (try clear hb2); (try clear hk); (try clear hi)) | ((with_reducible refine gate_dst (N := 80) rfl ?_); (try (refine gate_guard (by rfl) ?_; dsimp only)); refine bxU (cs := #[.int .i64 0, .bool false, .int .i64 0]) (t := 25) ?_; intro gb595 hg w436 hbox hb; have n0_ := bbU BK467 hb; have n1_ := bbU BK476 hb; have n2_ := bbU BK481 hb; have n3_ := bbU BK508 hb; have n4_ := bbU BK513 hb; have n5_ := bbU BK563 hb; have n6_ := bbU BK568 hb; have n7_ := bbU BK573 hb; have n8_ := bbU BK579 hb; have n9_ := bbU BK584 hb; have n10_ := bbU BK590 hb; have n11_ := bsU hb; have n12_ := Aside0.mk (hbox); have n13_ := geU hg; have n14_ := geU hg; have n15_ := neU BK467 hg; have n16_ := enU BK467 hg; have n17_ := neU BK476 hg; have n18_ := enU BK476 hg; have n19_ := neU BK481 hg; have n20_ := enU BK481 hg; have n21_ := neU BK508 hg; have n22_ := enU BK508 hg; have n23_ := neU BK513 hg; have n24_ := enU BK513 hg; have n25_ := neU BK563 hg; have n26_ := enU BK563 hg; have n27_ := neU BK568 hg; have n28_ := enU BK568 hg; have n29_ := neU BK573 hg; have n30_ := enU BK573 hg; have n31_ := neU BK579 hg; have n32_ := enU BK579 hg; have n33_ := neU BK584 hg; have n34_ := enU BK584 hg; have n35_ := neU BK590 hg; have n36_ := enU BK590 hg; clear BK467; clear BK476; clear BK481; clear BK508; clear BK513; clear BK563; clear BK568; clear BK573; clear BK579; clear BK584; clear BK590; clear HB; have BK467 := n0_; have BK476 := n1_; have BK481 := n2_; have BK508 := n3_; have BK513 := n4_; have BK563 := n5_; have BK568 := n6_; have BK573 := n7_; have BK579 := n8_; have BK584 := n9_; have BK590 := n10_; have HB := n11_; have BK595 := n12_; have GW595 := n13_; have GE595 := n14_; have NB467_595 := n15_; have NB595_467 := n16_; have NB476_595 := n17_; have NB595_476 := n18_; have NB481_595 := n19_; have NB595_481 := n20_; have NB508_595 := n21_; have NB595_508 := n22_; have NB513_595 := n23_; have NB595_513 := n24_; have NB563_595 := n25_; have NB595_563 := n26_; have NB568_595 := n27_; have NB595_568 := n28_; have NB573_595 := n29_; have NB595_573 := n30_; have NB579_595 := n31_; have NB595_579 := n32_; have NB584_595 := n33_; have NB595_584 := n34_; have NB590_595 := n35_; have NB595_590 := n36_; clear n0_ n1_ n2_ n3_ n4_ n5_ n6_ n7_ n8_ n9_ n10_ n11_ n12_ n13_ n14_ n15_ n16_ n17_ n18_ n19_ n20_ n21_ n22_ n23_ n24_ n25_ n26_ n27_ n28_ n29_ n30_ n31_ n32_ n33_ n34_ n35_ n36_; clear hb hbox hg; have hnb437 := NB595_467.out; have hnc437 := NB467_595.out; have hnb438 := NB595_476.out; have hnc438 := NB476_595.out; have hnb439 := NB595_481.out; have hnc439 := NB481_595.out; have hnb440 := NB595_508.out; have hnc440 := NB508_595.out; have hnb441 := NB595_513.out; have hnc441 := NB513_595.out; have hnb442 := NB595_563.out; have hnc442 := NB563_595.out; have hnb443 := NB595_568.out; have hnc443 := NB568_595.out; have hnb444 := NB595_573.out; have hnc444 := NB573_595.out; have hnb445 := NB595_579.out; have hnc445 := NB579_595.out; have hnb446 := NB595_584.out; have hnc446 := NB584_595.out; have hnb447 := NB595_590.out; have hnc447 := NB590_595.out; obtain ⟨hcz448_0, hcz448_1, hcz448_2, hfz448_0, hfz448_1, hfz448_2⟩ := b3U BK595) | ((with_reducible refine gate_callee (f := 37) rfl ?_); refine goU (some 575) Tryz.func37 #[.slice A1 l1.length c1] ?_; (with_reducible refine (spec_DrawPointsOf.calls kj263 _ _ l1 t596 _ ?side1 ?side2 A365.out).mono ?_); (case side1 => exact Kd.C_below HR1.out hbU); (case side2 => exact HC1.out); rintro e w449 ⟨rfl, hb⟩; refine ⟨_, rfl, ?_⟩; have n0_ := bbU BK467 hb; have n1_ := bbU BK476 hb; have n2_ := bbU BK481 hb; have n3_ := bbU BK508 hb; have n4_ := bbU BK513 hb; have n5_ := bbU BK563 hb; have n6_ := bbU BK568 hb; have n7_ := bbU BK573 hb; have n8_ := bbU BK579 hb; have n9_ := bbU BK584 hb; have n10_ := bbU BK590 hb; have n11_ := Aside0.mk (blk_below (g := gb595) (o := .cells #[.int .i64 t591, .bool t592, .int .i64 t593] 25 (0, 0)) bkU hb); have n12_ := bsU hb; clear BK467; clear BK476; clear BK481; clear BK508; clear BK513; clear BK563; clear BK568; clear BK573; clear BK579; clear BK584; clear BK590; clear BK595; clear HB; have BK467 := n0_; have BK476 := n1_; have BK481 := n2_; have BK508 := n3_; have BK513 := n4_; have BK563 := n5_; have BK568 := n6_; have BK573 := n7_; have BK579 := n8_; have BK584 := n9_; have BK590 := n10_; have BK595 := n11_; have HB := n12_; clear n0_ n1_ n2_ n3_ n4_ n5_ n6_ n7_ n8_ n9_ n10_ n11_ n12_; (try clear hb); (try clear hb2); (try clear hk); (try clear hi)) | ((with_reducible refine gate_callee (f := 27) rfl ?_); refine goU (some 578) Tryz.func27 #[.string t596] ?_; (with_reducible refine (impl_PointsOf.calls kj263 t596 t597 t598 _ A366.out).mono ?_); rintro e w450 ⟨rfl, hb⟩; refine ⟨_, rfl, ?_⟩; have n0_ := bbU BK467 hb; have n1_ := bbU BK476 hb; have n2_ := bbU BK481 hb; have n3_ := bbU BK508 hb; have n4_ := bbU BK513 hb; have n5_ := bbU BK563 hb; have n6_ := bbU BK568 hb; have n7_ := bbU BK573 hb; have n8_ := bbU BK579 hb; have n9_ := bbU BK584 hb; have n10_ := bbU BK590 hb; have n11_ := bbU BK595 hb; have n12_ := bsU hb; clear BK467; clear BK476; clear BK481; clear BK508; clear BK513; clear BK563; clear BK568; clear BK573; clear BK579; clear BK584; clear BK590; clear BK595; clear HB; have BK467 := n0_; have BK476 := n1_; have BK481 := n2_; have BK508 := n3_; have BK513 := n4_; have BK563 := n5_; have BK568 := n6_; have BK573 := n7_; have BK579 := n8_; have BK584 := n9_; have BK590 := n10_; have BK595 := n11_; have HB := n12_; clear n0_ n1_ n2_ n3_ n4_ n5_ n6_ n7_ n8_ n9_ n10_ n11_ n12_; (try clear hb); (try clear hb2); (try clear hk); (try clear hi)) | ((with_reducible refine gate_callee (f := 38) rfl ?_); refine goU (some 583) Tryz.func38 #[.string t596] ?_; (with_reducible refine (spec_PointsOf.calls kj263 t596 t599 t600 _ A367.out).mono ?_); rintro e w' ⟨rfl, ⟨nd, rfl⟩⟩; refine ⟨_, rfl, ?_⟩))
           (try simp only [Act.put, List.setIfInBounds_toArray, List.set_cons_zero, List.set_cons_succ])
           go_cut [623] from 9999 to 9999 (fun v623 wc => ∃ (kq : Nat) (x623_367 : Bool), v623 = .bool x623_367 ∧ Aside0 (laws_FnFramesPotted.j12 kq t574 t578 t585 t589 x623_367 t575 t576 t577 t586 t587 t588 = some r) ∧ Aside0 (kq ≤ kj263) ∧ Aside0 (wc.heap[gb467]? = some (.cells #[.int .i64 t463, .bool t464, .int .i64 t465] 25 (0, 0))) ∧ Aside0 (wc.heap[gb476]? = some (.cells #[.int .i64 t472, .bool t473, .int .i64 t474] 25 (0, 0))) ∧ Aside0 (wc.heap[gb481]? = some (.cells #[.int .i64 t477, .bool t478, .int .i64 t479] 25 (0, 0))) ∧ Aside0 (wc.heap[gb508]? = some (.cells #[.int .i64 t504, .bool t505, .int .i64 t506] 25 (0, 0))) ∧ Aside0 (wc.heap[gb513]? = some (.cells #[.int .i64 t509, .bool t510, .int .i64 t511] 25 (0, 0))) ∧ Aside0 (wc.heap[gb563]? = some (.cells #[.int .i64 t559, .bool t560, .int .i64 t561] 25 (0, 0))) ∧ Aside0 (wc.heap[gb568]? = some (.cells #[.int .i64 t564, .bool t565, .int .i64 t566] 25 (0, 0))) ∧ Aside0 (wc.heap[gb573]? = some (.cells #[.int .i64 t569, .bool t570, .int .i64 t571] 25 (0, 0))) ∧ Aside0 (wc.heap[gb579]? = some (.cells #[.int .i64 t575, .bool t576, .int .i64 t577] 25 (0, 0))) ∧ Aside0 (wc.heap[gb584]? = some (.cells #[.int .i64 t580, .bool t581, .int .i64 t582] 25 (0, 0))) ∧ Aside0 (wc.heap[gb590]? = some (.cells #[.int .i64 t586, .bool t587, .int .i64 t588] 25 (0, 0))) ∧ Aside0 (wc.heap[gb595]? = some (.cells #[.int .i64 t591, .bool t592, .int .i64 t593] 25 (0, 0))) ∧ Aside0 (Below w.heap.size w wc))
           case first => as_aux_lemma =>
            have H := HC368.out
            clear HC368
            by_cases c451 : (t567 != t572) = true
            ·rw [if_pos c451] at H
             exact absurd H (by simp)
            rw [if_neg c451] at H
            have c451b0 : (t567 != t572) = false := by simpa using c451
            (try (have c451b1 : decide (t567 = t572) = true := by simpa using c451))
            (try (have c451b2 : (t567 == t572) = true := by simpa using c451))
            clear c451
            (first | rw [c451b0] | (simp only [i64_w, i32_w]; rw [c451b0]) | skip)
            by_cases c452 : (!(t564 == t569) || (!(t565 == t570) || (!(t566 == t571)))) = true
            ·rw [if_pos c452] at H
             exact absurd H (by simp)
            rw [if_neg c452] at H
            have c452b0 : (!(t564 == t569) || (!(t565 == t570) || (!(t566 == t571)))) = false := by simpa using c452
            clear c452
            by_cases c453 : (t578 != t583) = true
            ·rw [if_pos c453] at H
             exact absurd H (by simp)
            rw [if_neg c453] at H
            have c453b0 : (t578 != t583) = false := by simpa using c453
            (try (have c453b1 : decide (t578 = t583) = true := by simpa using c453))
            (try (have c453b2 : (t578 == t583) = true := by simpa using c453))
            clear c453
            by_cases c454 : (!(t575 == t580) || (!(t576 == t581) || (!(t577 == t582)))) = true
            ·rw [if_pos c454] at H
             exact absurd H (by simp)
            rw [if_neg c454] at H
            have c454b0 : (!(t575 == t580) || (!(t576 == t581) || (!(t577 == t582)))) = false := by simpa using c454
            clear c454
            by_cases c455 : (t589 != t594) = true
            ·rw [if_pos c455] at H
             exact absurd H (by simp)
            rw [if_neg c455] at H
            have c455b0 : (t589 != t594) = false := by simpa using c455
            (try (have c455b1 : decide (t589 = t594) = true := by simpa using c455))
            (try (have c455b2 : (t589 == t594) = true := by simpa using c455))
            clear c455
            by_cases c456 : (!(t586 == t591) || (!(t587 == t592) || (!(t588 == t593)))) = true
            ·rw [if_pos c456] at H
             exact absurd H (by simp)
            rw [if_neg c456] at H
            have c456b0 : (!(t586 == t591) || (!(t587 == t592) || (!(t588 == t593)))) = false := by simpa using c456
            clear c456
            by_cases c457 : (t598 != t600) = true
            ·rw [if_pos c457] at H
             exact absurd H (by simp)
            rw [if_neg c457] at H
            have c457b0 : (t598 != t600) = false := by simpa using c457
            (try (have c457b1 : decide (t598 = t600) = true := by simpa using c457))
            (try (have c457b2 : (t598 == t600) = true := by simpa using c457))
            clear c457
            have H' := Aside0.mk H
            clear H
            have hnb458 := NB568_467.out
            have hnc458 := NB467_568.out
            have hnb459 := NB568_476.out
            have hnc459 := NB476_568.out
            have hnb460 := NB568_481.out
            have hnc460 := NB481_568.out
            have hnb461 := NB568_508.out
            have hnc461 := NB508_568.out
            have hnb462 := NB568_513.out
            have hnc462 := NB513_568.out
            have hnb463 := NB568_563.out
            have hnc463 := NB563_568.out
            have hnb464 := NB568_573.out
            have hnc464 := NB573_568.out
            have hnb465 := NB568_579.out
            have hnc465 := NB579_568.out
            have hnb466 := NB568_584.out
            have hnc466 := NB584_568.out
            have hnb467 := NB568_590.out
            have hnc467 := NB590_568.out
            have hnb468 := NB568_595.out
            have hnc468 := NB595_568.out
            obtain ⟨hcz469_0, hcz469_1, hcz469_2, hfz469_0, hfz469_1, hfz469_2⟩ := b3U BK568
            have hnb470 := NB573_467.out
            have hnc470 := NB467_573.out
            have hnb471 := NB573_476.out
            have hnc471 := NB476_573.out
            have hnb472 := NB573_481.out
            have hnc472 := NB481_573.out
            have hnb473 := NB573_508.out
            have hnc473 := NB508_573.out
            have hnb474 := NB573_513.out
            have hnc474 := NB513_573.out
            have hnb475 := NB573_563.out
            have hnc475 := NB563_573.out
            have hnb476 := NB573_579.out
            have hnc476 := NB579_573.out
            have hnb477 := NB573_584.out
            have hnc477 := NB584_573.out
            have hnb478 := NB573_590.out
            have hnc478 := NB590_573.out
            have hnb479 := NB573_595.out
            have hnc479 := NB595_573.out
            obtain ⟨hcz480_0, hcz480_1, hcz480_2, hfz480_0, hfz480_1, hfz480_2⟩ := b3U BK573
            have hnb481 := NB579_467.out
            have hnc481 := NB467_579.out
            have hnb482 := NB579_476.out
            have hnc482 := NB476_579.out
            have hnb483 := NB579_481.out
            have hnc483 := NB481_579.out
            have hnb484 := NB579_508.out
            have hnc484 := NB508_579.out
            have hnb485 := NB579_513.out
            have hnc485 := NB513_579.out
            have hnb486 := NB579_563.out
            have hnc486 := NB563_579.out
            have hnb487 := NB579_584.out
            have hnc487 := NB584_579.out
            have hnb488 := NB579_590.out
            have hnc488 := NB590_579.out
            have hnb489 := NB579_595.out
            have hnc489 := NB595_579.out
            obtain ⟨hcz490_0, hcz490_1, hcz490_2, hfz490_0, hfz490_1, hfz490_2⟩ := b3U BK579
            have hnb491 := NB584_467.out
            have hnc491 := NB467_584.out
            have hnb492 := NB584_476.out
            have hnc492 := NB476_584.out
            have hnb493 := NB584_481.out
            have hnc493 := NB481_584.out
            have hnb494 := NB584_508.out
            have hnc494 := NB508_584.out
            have hnb495 := NB584_513.out
            have hnc495 := NB513_584.out
            have hnb496 := NB584_563.out
            have hnc496 := NB563_584.out
            have hnb497 := NB584_590.out
            have hnc497 := NB590_584.out
            have hnb498 := NB584_595.out
            have hnc498 := NB595_584.out
            obtain ⟨hcz499_0, hcz499_1, hcz499_2, hfz499_0, hfz499_1, hfz499_2⟩ := b3U BK584
            have hnb500 := NB590_467.out
            have hnc500 := NB467_590.out
            have hnb501 := NB590_476.out
            have hnc501 := NB476_590.out
            have hnb502 := NB590_481.out
            have hnc502 := NB481_590.out
            have hnb503 := NB590_508.out
            have hnc503 := NB508_590.out
            have hnb504 := NB590_513.out
            have hnc504 := NB513_590.out
            have hnb505 := NB590_563.out
            have hnc505 := NB563_590.out
            have hnb506 := NB590_595.out
            have hnc506 := NB595_590.out
            obtain ⟨hcz507_0, hcz507_1, hcz507_2, hfz507_0, hfz507_1, hfz507_2⟩ := b3U BK590
            have hnb508 := NB595_467.out
            have hnc508 := NB467_595.out
            have hnb509 := NB595_476.out
            have hnc509 := NB476_595.out
            have hnb510 := NB595_481.out
            have hnc510 := NB481_595.out
            have hnb511 := NB595_508.out
            have hnc511 := NB508_595.out
            have hnb512 := NB595_513.out
            have hnc512 := NB513_595.out
            have hnb513 := NB595_563.out
            have hnc513 := NB563_595.out
            obtain ⟨hcz514_0, hcz514_1, hcz514_2, hfz514_0, hfz514_1, hfz514_2⟩ := b3U BK595
            go_wp2
            go_meet
            case rel => exact ⟨_, ((t597 != t599)), eqU, H', ⟨by have := HJ3.out; have := HJ24.out; have := HJ128.out; have := HJ130.out; have := HJ263.out; first | omega | exact Nat.le_refl _⟩, ⟨bkU⟩, ⟨bkU⟩, ⟨bkU⟩, ⟨bkU⟩, ⟨bkU⟩, ⟨bkU⟩, ⟨bkU⟩, ⟨bkU⟩, ⟨bkU⟩, ⟨bkU⟩, ⟨bkU⟩, ⟨bkU⟩, ⟨hbU⟩⟩
           case rest => as_aux_lemma =>
            clear HC368
            (try clear c1); (try clear c5); (try clear c265); (try clear c298); (try clear c298b0); (try clear c299); (try clear c300); (try clear c304); (try clear c305); (try clear c307); (try clear c337); (try clear c337b0); (try clear c451); (try clear c451b0); (try clear c451b1); (try clear c451b2); (try clear c452); (try clear c452b0); (try clear c453); (try clear c453b0); (try clear c453b1); (try clear c453b2); (try clear c454); (try clear c454b0); (try clear c455); (try clear c455b0); (try clear c455b1); (try clear c455b2); (try clear c456); (try clear c456b0); (try clear c457); (try clear c457b0); (try clear c457b1); (try clear c457b2); (try clear hcz330_0); (try clear hcz330_1); (try clear hcz330_2); (try clear hcz336_0); (try clear hcz336_1); (try clear hcz336_2); (try clear hcz350_0); (try clear hcz350_1); (try clear hcz350_2); (try clear hcz355_0); (try clear hcz355_1); (try clear hcz355_2); (try clear hcz376_0); (try clear hcz376_1); (try clear hcz376_2); (try clear hcz385_0); (try clear hcz385_1); (try clear hcz385_2); (try clear hcz386_0); (try clear hcz386_1); (try clear hcz386_2); (try clear hcz396_0); (try clear hcz396_1); (try clear hcz396_2); (try clear hcz408_0); (try clear hcz408_1); (try clear hcz408_2); (try clear hcz420_0); (try clear hcz420_1); (try clear hcz420_2); (try clear hcz434_0); (try clear hcz434_1); (try clear hcz434_2); (try clear hcz448_0); (try clear hcz448_1); (try clear hcz448_2); (try clear hcz469_0); (try clear hcz469_1); (try clear hcz469_2); (try clear hcz480_0); (try clear hcz480_1); (try clear hcz480_2); (try clear hcz490_0); (try clear hcz490_1); (try clear hcz490_2); (try clear hcz499_0); (try clear hcz499_1); (try clear hcz499_2); (try clear hcz507_0); (try clear hcz507_1); (try clear hcz507_2); (try clear hcz514_0); (try clear hcz514_1); (try clear hcz514_2); (try clear hfz330_0); (try clear hfz330_1); (try clear hfz330_2); (try clear hfz336_0); (try clear hfz336_1); (try clear hfz336_2); (try clear hfz350_0); (try clear hfz350_1); (try clear hfz350_2); (try clear hfz355_0); (try clear hfz355_1); (try clear hfz355_2); (try clear hfz376_0); (try clear hfz376_1); (try clear hfz376_2); (try clear hfz385_0); (try clear hfz385_1); (try clear hfz385_2); (try clear hfz386_0); (try clear hfz386_1); (try clear hfz386_2); (try clear hfz396_0); (try clear hfz396_1); (try clear hfz396_2); (try clear hfz408_0); (try clear hfz408_1); (try clear hfz408_2); (try clear hfz420_0); (try clear hfz420_1); (try clear hfz420_2); (try clear hfz434_0); (try clear hfz434_1); (try clear hfz434_2); (try clear hfz448_0); (try clear hfz448_1); (try clear hfz448_2); (try clear hfz469_0); (try clear hfz469_1); (try clear hfz469_2); (try clear hfz480_0); (try clear hfz480_1); (try clear hfz480_2); (try clear hfz490_0); (try clear hfz490_1); (try clear hfz490_2); (try clear hfz499_0); (try clear hfz499_1); (try clear hfz499_2); (try clear hfz507_0); (try clear hfz507_1); (try clear hfz507_2); (try clear hfz514_0); (try clear hfz514_1); (try clear hfz514_2)
            obtain ⟨kq, x623_367, rfl, HA, HJ367, BK467, BK476, BK481, BK508, BK513, BK563, BK568, BK573, BK579, BK584, BK590, BK595, HB⟩ := hcut
            cases kq with
            | zero => exact absurd HA.out (by simp [laws_FnFramesPotted.j12])
            | succ kj367 =>
             have H := HA.out
             clear HA
             simp only [laws_FnFramesPotted.j12] at H
             have HC515 := Aside0.mk H
             clear H
             go_upto_if 623 with (fail)
             go_cut [] from 9999 to 9999 (fun wc => ∃ (kq : Nat), Aside0 (laws_FnFramesPotted.j13 kq t574 t578 t585 t589 t575 t576 t577 t586 t587 t588 = some r) ∧ Aside0 (kq ≤ kj367) ∧ Aside0 (wc.heap[gb467]? = some (.cells #[.int .i64 t463, .bool t464, .int .i64 t465] 25 (0, 0))) ∧ Aside0 (wc.heap[gb476]? = some (.cells #[.int .i64 t472, .bool t473, .int .i64 t474] 25 (0, 0))) ∧ Aside0 (wc.heap[gb481]? = some (.cells #[.int .i64 t477, .bool t478, .int .i64 t479] 25 (0, 0))) ∧ Aside0 (wc.heap[gb508]? = some (.cells #[.int .i64 t504, .bool t505, .int .i64 t506] 25 (0, 0))) ∧ Aside0 (wc.heap[gb513]? = some (.cells #[.int .i64 t509, .bool t510, .int .i64 t511] 25 (0, 0))) ∧ Aside0 (wc.heap[gb563]? = some (.cells #[.int .i64 t559, .bool t560, .int .i64 t561] 25 (0, 0))) ∧ Aside0 (wc.heap[gb568]? = some (.cells #[.int .i64 t564, .bool t565, .int .i64 t566] 25 (0, 0))) ∧ Aside0 (wc.heap[gb573]? = some (.cells #[.int .i64 t569, .bool t570, .int .i64 t571] 25 (0, 0))) ∧ Aside0 (wc.heap[gb579]? = some (.cells #[.int .i64 t575, .bool t576, .int .i64 t577] 25 (0, 0))) ∧ Aside0 (wc.heap[gb584]? = some (.cells #[.int .i64 t580, .bool t581, .int .i64 t582] 25 (0, 0))) ∧ Aside0 (wc.heap[gb590]? = some (.cells #[.int .i64 t586, .bool t587, .int .i64 t588] 25 (0, 0))) ∧ Aside0 (wc.heap[gb595]? = some (.cells #[.int .i64 t591, .bool t592, .int .i64 t593] 25 (0, 0))) ∧ Aside0 (Below w.heap.size w wc))
             case first => as_aux_lemma =>
              have H := HC515.out
              clear HC515
              by_cases c516 : x623_367 = true
              ·subst c516
               rw [if_pos rfl] at H
               exact absurd H (by simp)
              replace c516 := Bool.eq_false_iff.mpr c516
              subst c516
              rw [if_neg (show ¬ (false = true) by decide)] at H
              have H' := Aside0.mk H
              clear H
              go_wp2
              go_meet
              case rel => exact ⟨_, H', ⟨by have := HJ3.out; have := HJ24.out; have := HJ128.out; have := HJ130.out; have := HJ263.out; have := HJ367.out; first | omega | exact Nat.le_refl _⟩, ⟨bkU⟩, ⟨bkU⟩, ⟨bkU⟩, ⟨bkU⟩, ⟨bkU⟩, ⟨bkU⟩, ⟨bkU⟩, ⟨bkU⟩, ⟨bkU⟩, ⟨bkU⟩, ⟨bkU⟩, ⟨bkU⟩, ⟨hbU⟩⟩
             case rest => as_aux_lemma =>
              clear HC515
              (try clear c1); (try clear c5); (try clear c265); (try clear c298); (try clear c298b0); (try clear c299); (try clear c300); (try clear c304); (try clear c305); (try clear c307); (try clear c337); (try clear c337b0); (try clear c451); (try clear c451b0); (try clear c451b1); (try clear c451b2); (try clear c452); (try clear c452b0); (try clear c453); (try clear c453b0); (try clear c453b1); (try clear c453b2); (try clear c454); (try clear c454b0); (try clear c455); (try clear c455b0); (try clear c455b1); (try clear c455b2); (try clear c456); (try clear c456b0); (try clear c457); (try clear c457b0); (try clear c457b1); (try clear c457b2); (try clear c516); (try clear hcz330_0); (try clear hcz330_1); (try clear hcz330_2); (try clear hcz336_0); (try clear hcz336_1); (try clear hcz336_2); (try clear hcz350_0); (try clear hcz350_1); (try clear hcz350_2); (try clear hcz355_0); (try clear hcz355_1); (try clear hcz355_2); (try clear hcz376_0); (try clear hcz376_1); (try clear hcz376_2); (try clear hcz385_0); (try clear hcz385_1); (try clear hcz385_2); (try clear hcz386_0); (try clear hcz386_1); (try clear hcz386_2); (try clear hcz396_0); (try clear hcz396_1); (try clear hcz396_2); (try clear hcz408_0); (try clear hcz408_1); (try clear hcz408_2); (try clear hcz420_0); (try clear hcz420_1); (try clear hcz420_2); (try clear hcz434_0); (try clear hcz434_1); (try clear hcz434_2); (try clear hcz448_0); (try clear hcz448_1); (try clear hcz448_2); (try clear hcz469_0); (try clear hcz469_1); (try clear hcz469_2); (try clear hcz480_0); (try clear hcz480_1); (try clear hcz480_2); (try clear hcz490_0); (try clear hcz490_1); (try clear hcz490_2); (try clear hcz499_0); (try clear hcz499_1); (try clear hcz499_2); (try clear hcz507_0); (try clear hcz507_1); (try clear hcz507_2); (try clear hcz514_0); (try clear hcz514_1); (try clear hcz514_2); (try clear hfz330_0); (try clear hfz330_1); (try clear hfz330_2); (try clear hfz336_0); (try clear hfz336_1); (try clear hfz336_2); (try clear hfz350_0); (try clear hfz350_1); (try clear hfz350_2); (try clear hfz355_0); (try clear hfz355_1); (try clear hfz355_2); (try clear hfz376_0); (try clear hfz376_1); (try clear hfz376_2); (try clear hfz385_0); (try clear hfz385_1); (try clear hfz385_2); (try clear hfz386_0); (try clear hfz386_1); (try clear hfz386_2); (try clear hfz396_0); (try clear hfz396_1); (try clear hfz396_2); (try clear hfz408_0); (try clear hfz408_1); (try clear hfz408_2); (try clear hfz420_0); (try clear hfz420_1); (try clear hfz420_2); (try clear hfz434_0); (try clear hfz434_1); (try clear hfz434_2); (try clear hfz448_0); (try clear hfz448_1); (try clear hfz448_2); (try clear hfz469_0); (try clear hfz469_1); (try clear hfz469_2); (try clear hfz480_0); (try clear hfz480_1); (try clear hfz480_2); (try clear hfz490_0); (try clear hfz490_1); (try clear hfz490_2); (try clear hfz499_0); (try clear hfz499_1); (try clear hfz499_2); (try clear hfz507_0); (try clear hfz507_1); (try clear hfz507_2); (try clear hfz514_0); (try clear hfz514_1); (try clear hfz514_2)
              obtain ⟨kq, HA, HJ514, BK467, BK476, BK481, BK508, BK513, BK563, BK568, BK573, BK579, BK584, BK590, BK595, HB⟩ := hcut
              cases kq with
              | zero => exact absurd HA.out (by simp [laws_FnFramesPotted.j13])
              | succ kj514 =>
               have H := HA.out
               clear HA
               simp only [laws_FnFramesPotted.j13] at H
               by_cases c517 : t578 = true
               rotate_left
               ·replace c517 := Bool.eq_false_iff.mpr c517
                subst c517
                rw [if_neg (show ¬ (false = true) by decide)] at H
                by_cases c582 : t589 = true
                rotate_left
                ·replace c582 := Bool.eq_false_iff.mpr c582
                 subst c582
                 rw [if_neg (show ¬ (false = true) by decide)] at H
                 obtain rfl := Option.some.inj H
                 go_wp2
                 go_ret
                 exact ⟨by first | rfl | (simp [errW_none, errW_some] <;> rfl) | (simp [*, errW_none, errW_some] <;> rfl), hbU⟩
                subst c582
                rw [if_pos rfl] at H
                replace H := Option.bind_eq_some_iff.mp H
                obtain ⟨⟨t607, t608⟩, A5830, H⟩ := H
                (try dsimp only at H)
                have A583 := Aside0.mk A5830
                clear A5830
                by_cases c584 : t608 = true
                ·subst c584
                 rw [if_pos rfl] at H
                 obtain rfl := Option.some.inj H
                 have hnb585 := NB590_467.out
                 have hnc585 := NB467_590.out
                 have hnb586 := NB590_476.out
                 have hnc586 := NB476_590.out
                 have hnb587 := NB590_481.out
                 have hnc587 := NB481_590.out
                 have hnb588 := NB590_508.out
                 have hnc588 := NB508_590.out
                 have hnb589 := NB590_513.out
                 have hnc589 := NB513_590.out
                 have hnb590 := NB590_563.out
                 have hnc590 := NB563_590.out
                 have hnb591 := NB590_568.out
                 have hnc591 := NB568_590.out
                 have hnb592 := NB590_573.out
                 have hnc592 := NB573_590.out
                 have hnb593 := NB590_579.out
                 have hnc593 := NB579_590.out
                 have hnb594 := NB590_584.out
                 have hnc594 := NB584_590.out
                 have hnb595 := NB590_595.out
                 have hnc595 := NB595_590.out
                 obtain ⟨hcz596_0, hcz596_1, hcz596_2, hfz596_0, hfz596_1, hfz596_2⟩ := b3U BK590
                 go_wp2_with (first | ((with_reducible refine gate_callee (f := 23) rfl ?_); refine goU (some 664) Tryz.func23 #[.agg #[.int .i64 t586, .bool t587, .int .i64 t588]] ?_; (with_reducible refine (impl_FrameText.calls kj514 t586 t587 t588 t607 true _ A583.out).mono ?_); rintro e w597 ⟨rfl, hb⟩; refine ⟨_, rfl, ?_⟩; have n0_ := bbU BK467 hb; have n1_ := bbU BK476 hb; have n2_ := bbU BK481 hb; have n3_ := bbU BK508 hb; have n4_ := bbU BK513 hb; have n5_ := bbU BK563 hb; have n6_ := bbU BK568 hb; have n7_ := bbU BK573 hb; have n8_ := bbU BK579 hb; have n9_ := bbU BK584 hb; have n10_ := bbU BK590 hb; have n11_ := bbU BK595 hb; have n12_ := bsU hb; clear BK467; clear BK476; clear BK481; clear BK508; clear BK513; clear BK563; clear BK568; clear BK573; clear BK579; clear BK584; clear BK590; clear BK595; clear HB; have BK467 := n0_; have BK476 := n1_; have BK481 := n2_; have BK508 := n3_; have BK513 := n4_; have BK563 := n5_; have BK568 := n6_; have BK573 := n7_; have BK579 := n8_; have BK584 := n9_; have BK590 := n10_; have BK595 := n11_; have HB := n12_; clear n0_ n1_ n2_ n3_ n4_ n5_ n6_ n7_ n8_ n9_ n10_ n11_ n12_; (try clear hb); (try clear hb2); (try clear hk); (try clear hi)))
                 go_ret
                 exact ⟨by first | rfl | (simp [errW_none, errW_some] <;> rfl) | (simp [*, errW_none, errW_some] <;> rfl), hbU⟩
                replace c584 := Bool.eq_false_iff.mpr c584
                subst c584
                rw [if_neg (show ¬ (false = true) by decide)] at H
                obtain rfl := Option.some.inj H
                have hnb598 := NB590_467.out
                have hnc598 := NB467_590.out
                have hnb599 := NB590_476.out
                have hnc599 := NB476_590.out
                have hnb600 := NB590_481.out
                have hnc600 := NB481_590.out
                have hnb601 := NB590_508.out
                have hnc601 := NB508_590.out
                have hnb602 := NB590_513.out
                have hnc602 := NB513_590.out
                have hnb603 := NB590_563.out
                have hnc603 := NB563_590.out
                have hnb604 := NB590_568.out
                have hnc604 := NB568_590.out
                have hnb605 := NB590_573.out
                have hnc605 := NB573_590.out
                have hnb606 := NB590_579.out
                have hnc606 := NB579_590.out
                have hnb607 := NB590_584.out
                have hnc607 := NB584_590.out
                have hnb608 := NB590_595.out
                have hnc608 := NB595_590.out
                obtain ⟨hcz609_0, hcz609_1, hcz609_2, hfz609_0, hfz609_1, hfz609_2⟩ := b3U BK590
                go_wp2_with (first | ((with_reducible refine gate_callee (f := 23) rfl ?_); refine goU (some 664) Tryz.func23 #[.agg #[.int .i64 t586, .bool t587, .int .i64 t588]] ?_; (with_reducible refine (impl_FrameText.calls kj514 t586 t587 t588 t607 false _ A583.out).mono ?_); rintro e w610 ⟨rfl, hb⟩; refine ⟨_, rfl, ?_⟩; have n0_ := bbU BK467 hb; have n1_ := bbU BK476 hb; have n2_ := bbU BK481 hb; have n3_ := bbU BK508 hb; have n4_ := bbU BK513 hb; have n5_ := bbU BK563 hb; have n6_ := bbU BK568 hb; have n7_ := bbU BK573 hb; have n8_ := bbU BK579 hb; have n9_ := bbU BK584 hb; have n10_ := bbU BK590 hb; have n11_ := bbU BK595 hb; have n12_ := bsU hb; clear BK467; clear BK476; clear BK481; clear BK508; clear BK513; clear BK563; clear BK568; clear BK573; clear BK579; clear BK584; clear BK590; clear BK595; clear HB; have BK467 := n0_; have BK476 := n1_; have BK481 := n2_; have BK508 := n3_; have BK513 := n4_; have BK563 := n5_; have BK568 := n6_; have BK573 := n7_; have BK579 := n8_; have BK584 := n9_; have BK590 := n10_; have BK595 := n11_; have HB := n12_; clear n0_ n1_ n2_ n3_ n4_ n5_ n6_ n7_ n8_ n9_ n10_ n11_ n12_; (try clear hb); (try clear hb2); (try clear hk); (try clear hi)))
                go_ret
                exact ⟨by first | rfl | (simp [errW_none, errW_some] <;> rfl) | (simp [*, errW_none, errW_some] <;> rfl), hbU⟩
               subst c517
               rw [if_pos rfl] at H
               replace H := Option.bind_eq_some_iff.mp H
               obtain ⟨⟨t601, t602⟩, A5180, H⟩ := H
               (try dsimp only at H)
               have A518 := Aside0.mk A5180
               clear A5180
               replace H := Option.bind_eq_some_iff.mp H
               obtain ⟨⟨t603, t604⟩, A5190, H⟩ := H
               (try dsimp only at H)
               have A519 := Aside0.mk A5190
               clear A5190
               have HC520 := Aside0.mk H
               clear H
               have hnb521 := NB579_467.out
               have hnc521 := NB467_579.out
               have hnb522 := NB579_476.out
               have hnc522 := NB476_579.out
               have hnb523 := NB579_481.out
               have hnc523 := NB481_579.out
               have hnb524 := NB579_508.out
               have hnc524 := NB508_579.out
               have hnb525 := NB579_513.out
               have hnc525 := NB513_579.out
               have hnb526 := NB579_563.out
               have hnc526 := NB563_579.out
               have hnb527 := NB579_568.out
               have hnc527 := NB568_579.out
               have hnb528 := NB579_573.out
               have hnc528 := NB573_579.out
               have hnb529 := NB579_584.out
               have hnc529 := NB584_579.out
               have hnb530 := NB579_590.out
               have hnc530 := NB590_579.out
               have hnb531 := NB579_595.out
               have hnc531 := NB595_579.out
               obtain ⟨hcz532_0, hcz532_1, hcz532_2, hfz532_0, hfz532_1, hfz532_2⟩ := b3U BK579
               go_upto_region 72 with (first | ((with_reducible refine gate_callee (f := 19) rfl ?_); refine goU (some 627) Tryz.func19 #[.agg #[.int .i64 t575, .bool t576, .int .i64 t577]] ?_; (with_reducible refine (impl_BallsLeft.calls kj514 t575 t576 t577 t601 t602 _ A518.out).mono ?_); rintro e w533 ⟨rfl, hb⟩; refine ⟨_, rfl, ?_⟩; have n0_ := bbU BK467 hb; have n1_ := bbU BK476 hb; have n2_ := bbU BK481 hb; have n3_ := bbU BK508 hb; have n4_ := bbU BK513 hb; have n5_ := bbU BK563 hb; have n6_ := bbU BK568 hb; have n7_ := bbU BK573 hb; have n8_ := bbU BK579 hb; have n9_ := bbU BK584 hb; have n10_ := bbU BK590 hb; have n11_ := bbU BK595 hb; have n12_ := bsU hb; clear BK467; clear BK476; clear BK481; clear BK508; clear BK513; clear BK563; clear BK568; clear BK573; clear BK579; clear BK584; clear BK590; clear BK595; clear HB; have BK467 := n0_; have BK476 := n1_; have BK481 := n2_; have BK508 := n3_; have BK513 := n4_; have BK563 := n5_; have BK568 := n6_; have BK573 := n7_; have BK579 := n8_; have BK584 := n9_; have BK590 := n10_; have BK595 := n11_; have HB := n12_; clear n0_ n1_ n2_ n3_ n4_ n5_ n6_ n7_ n8_ n9_ n10_ n11_ n12_; (try clear hb); (try clear hb2); (try clear hk); (try clear hi); obtain ⟨hcz534_0, hcz534_1, hcz534_2, hfz534_0, hfz534_1, hfz534_2⟩ := b3U BK579) | ((with_reducible refine gate_callee (f := 17) rfl ?_); refine goU (some 632) Tryz.func17 #[.agg #[.int .i64 t575, .bool t576, .int .i64 t577]] ?_; (with_reducible refine (impl_PointsLeft.calls kj514 t575 t576 t577 t603 t604 _ A519.out).mono ?_); rintro e w535 ⟨rfl, hb⟩; refine ⟨_, rfl, ?_⟩; have n0_ := bbU BK467 hb; have n1_ := bbU BK476 hb; have n2_ := bbU BK481 hb; have n3_ := bbU BK508 hb; have n4_ := bbU BK513 hb; have n5_ := bbU BK563 hb; have n6_ := bbU BK568 hb; have n7_ := bbU BK573 hb; have n8_ := bbU BK579 hb; have n9_ := bbU BK584 hb; have n10_ := bbU BK590 hb; have n11_ := bbU BK595 hb; have n12_ := bsU hb; clear BK467; clear BK476; clear BK481; clear BK508; clear BK513; clear BK563; clear BK568; clear BK573; clear BK579; clear BK584; clear BK590; clear BK595; clear HB; have BK467 := n0_; have BK476 := n1_; have BK481 := n2_; have BK508 := n3_; have BK513 := n4_; have BK563 := n5_; have BK568 := n6_; have BK573 := n7_; have BK579 := n8_; have BK584 := n9_; have BK590 := n10_; have BK595 := n11_; have HB := n12_; clear n0_ n1_ n2_ n3_ n4_ n5_ n6_ n7_ n8_ n9_ n10_ n11_ n12_; (try clear hb); (try clear hb2); (try clear hk); (try clear hi)))
               (try simp only [Act.put, List.setIfInBounds_toArray, List.set_cons_zero, List.set_cons_succ])
               go_cut [660] from 9999 to 9999 (fun v660 wc => ∃ (kq : Nat) (x660_519 : Bool), v660 = .bool x660_519 ∧ Aside0 (laws_FnFramesPotted.j14 kq t585 t589 x660_519 t586 t587 t588 = some r) ∧ Aside0 (kq ≤ kj514) ∧ Aside0 (wc.heap[gb467]? = some (.cells #[.int .i64 t463, .bool t464, .int .i64 t465] 25 (0, 0))) ∧ Aside0 (wc.heap[gb476]? = some (.cells #[.int .i64 t472, .bool t473, .int .i64 t474] 25 (0, 0))) ∧ Aside0 (wc.heap[gb481]? = some (.cells #[.int .i64 t477, .bool t478, .int .i64 t479] 25 (0, 0))) ∧ Aside0 (wc.heap[gb508]? = some (.cells #[.int .i64 t504, .bool t505, .int .i64 t506] 25 (0, 0))) ∧ Aside0 (wc.heap[gb513]? = some (.cells #[.int .i64 t509, .bool t510, .int .i64 t511] 25 (0, 0))) ∧ Aside0 (wc.heap[gb563]? = some (.cells #[.int .i64 t559, .bool t560, .int .i64 t561] 25 (0, 0))) ∧ Aside0 (wc.heap[gb568]? = some (.cells #[.int .i64 t564, .bool t565, .int .i64 t566] 25 (0, 0))) ∧ Aside0 (wc.heap[gb573]? = some (.cells #[.int .i64 t569, .bool t570, .int .i64 t571] 25 (0, 0))) ∧ Aside0 (wc.heap[gb579]? = some (.cells #[.int .i64 t575, .bool t576, .int .i64 t577] 25 (0, 0))) ∧ Aside0 (wc.heap[gb584]? = some (.cells #[.int .i64 t580, .bool t581, .int .i64 t582] 25 (0, 0))) ∧ Aside0 (wc.heap[gb590]? = some (.cells #[.int .i64 t586, .bool t587, .int .i64 t588] 25 (0, 0))) ∧ Aside0 (wc.heap[gb595]? = some (.cells #[.int .i64 t591, .bool t592, .int .i64 t593] 25 (0, 0))) ∧ Aside0 (Below w.heap.size w wc))
               case first => as_aux_lemma =>
                have H := HC520.out
                clear HC520
                by_cases c536 : t575 = t574
                rotate_left
                ·rw [if_neg c536] at H
                 exact absurd H (by simp)
                rw [if_pos c536] at H
                have c536b0 : (t575 == t574) = true := beq_iff_eq.mpr c536
                have c536b1 : (t575 != t574) = false := bne_eq_false_iff_eq.mpr c536
                clear c536
                (first | rw [c536b0] | (simp only [i64_w, i32_w]; rw [c536b0]) | skip)
                by_cases c537 : t602 = true
                rotate_left
                ·replace c537 := Bool.eq_false_iff.mpr c537
                 subst c537
                 rw [if_neg (show ¬ (false = true) by decide)] at H
                 exact absurd H (by simp)
                subst c537
                rw [if_pos rfl] at H
                by_cases c538 : t601 = (wrap64 ((wrap64 (2 * t574)) + 6))
                rotate_left
                ·rw [if_neg c538] at H
                 exact absurd H (by simp)
                rw [if_pos c538] at H
                have c538b0 : (t601 == (wrap64 ((wrap64 (2 * t574)) + 6))) = true := beq_iff_eq.mpr c538
                have c538b1 : (t601 != (wrap64 ((wrap64 (2 * t574)) + 6))) = false := bne_eq_false_iff_eq.mpr c538
                clear c538
                by_cases c539 : t604 = true
                rotate_left
                ·replace c539 := Bool.eq_false_iff.mpr c539
                 subst c539
                 rw [if_neg (show ¬ (false = true) by decide)] at H
                 exact absurd H (by simp)
                subst c539
                rw [if_pos rfl] at H
                have H' := Aside0.mk H
                clear H
                have hnb540 := NB579_467.out
                have hnc540 := NB467_579.out
                have hnb541 := NB579_476.out
                have hnc541 := NB476_579.out
                have hnb542 := NB579_481.out
                have hnc542 := NB481_579.out
                have hnb543 := NB579_508.out
                have hnc543 := NB508_579.out
                have hnb544 := NB579_513.out
                have hnc544 := NB513_579.out
                have hnb545 := NB579_563.out
                have hnc545 := NB563_579.out
                have hnb546 := NB579_568.out
                have hnc546 := NB568_579.out
                have hnb547 := NB579_573.out
                have hnc547 := NB573_579.out
                have hnb548 := NB579_584.out
                have hnc548 := NB584_579.out
                have hnb549 := NB579_590.out
                have hnc549 := NB590_579.out
                have hnb550 := NB579_595.out
                have hnc550 := NB595_579.out
                obtain ⟨hcz551_0, hcz551_1, hcz551_2, hfz551_0, hfz551_1, hfz551_2⟩ := b3U BK579
                go_wp2
                go_meet
                case rel => exact ⟨_, ((t603 != (wrap64 ((wrap64 (8 * t574)) + 27)))), eqU, H', ⟨by have := HJ3.out; have := HJ24.out; have := HJ128.out; have := HJ130.out; have := HJ263.out; have := HJ367.out; have := HJ514.out; first | omega | exact Nat.le_refl _⟩, ⟨bkU⟩, ⟨bkU⟩, ⟨bkU⟩, ⟨bkU⟩, ⟨bkU⟩, ⟨bkU⟩, ⟨bkU⟩, ⟨bkU⟩, ⟨bkU⟩, ⟨bkU⟩, ⟨bkU⟩, ⟨bkU⟩, ⟨hbU⟩⟩
               case rest => as_aux_lemma =>
                clear HC520
                (try clear c1); (try clear c5); (try clear c265); (try clear c298); (try clear c298b0); (try clear c299); (try clear c300); (try clear c304); (try clear c305); (try clear c307); (try clear c337); (try clear c337b0); (try clear c451); (try clear c451b0); (try clear c451b1); (try clear c451b2); (try clear c452); (try clear c452b0); (try clear c453); (try clear c453b0); (try clear c453b1); (try clear c453b2); (try clear c454); (try clear c454b0); (try clear c455); (try clear c455b0); (try clear c455b1); (try clear c455b2); (try clear c456); (try clear c456b0); (try clear c457); (try clear c457b0); (try clear c457b1); (try clear c457b2); (try clear c516); (try clear c517); (try clear c536); (try clear c536b0); (try clear c536b1); (try clear c537); (try clear c538); (try clear c538b0); (try clear c538b1); (try clear c539); (try clear hcz330_0); (try clear hcz330_1); (try clear hcz330_2); (try clear hcz336_0); (try clear hcz336_1); (try clear hcz336_2); (try clear hcz350_0); (try clear hcz350_1); (try clear hcz350_2); (try clear hcz355_0); (try clear hcz355_1); (try clear hcz355_2); (try clear hcz376_0); (try clear hcz376_1); (try clear hcz376_2); (try clear hcz385_0); (try clear hcz385_1); (try clear hcz385_2); (try clear hcz386_0); (try clear hcz386_1); (try clear hcz386_2); (try clear hcz396_0); (try clear hcz396_1); (try clear hcz396_2); (try clear hcz408_0); (try clear hcz408_1); (try clear hcz408_2); (try clear hcz420_0); (try clear hcz420_1); (try clear hcz420_2); (try clear hcz434_0); (try clear hcz434_1); (try clear hcz434_2); (try clear hcz448_0); (try clear hcz448_1); (try clear hcz448_2); (try clear hcz469_0); (try clear hcz469_1); (try clear hcz469_2); (try clear hcz480_0); (try clear hcz480_1); (try clear hcz480_2); (try clear hcz490_0); (try clear hcz490_1); (try clear hcz490_2); (try clear hcz499_0); (try clear hcz499_1); (try clear hcz499_2); (try clear hcz507_0); (try clear hcz507_1); (try clear hcz507_2); (try clear hcz514_0); (try clear hcz514_1); (try clear hcz514_2); (try clear hcz532_0); (try clear hcz532_1); (try clear hcz532_2); (try clear hcz534_0); (try clear hcz534_1); (try clear hcz534_2); (try clear hcz551_0); (try clear hcz551_1); (try clear hcz551_2); (try clear hfz330_0); (try clear hfz330_1); (try clear hfz330_2); (try clear hfz336_0); (try clear hfz336_1); (try clear hfz336_2); (try clear hfz350_0); (try clear hfz350_1); (try clear hfz350_2); (try clear hfz355_0); (try clear hfz355_1); (try clear hfz355_2); (try clear hfz376_0); (try clear hfz376_1); (try clear hfz376_2); (try clear hfz385_0); (try clear hfz385_1); (try clear hfz385_2); (try clear hfz386_0); (try clear hfz386_1); (try clear hfz386_2); (try clear hfz396_0); (try clear hfz396_1); (try clear hfz396_2); (try clear hfz408_0); (try clear hfz408_1); (try clear hfz408_2); (try clear hfz420_0); (try clear hfz420_1); (try clear hfz420_2); (try clear hfz434_0); (try clear hfz434_1); (try clear hfz434_2); (try clear hfz448_0); (try clear hfz448_1); (try clear hfz448_2); (try clear hfz469_0); (try clear hfz469_1); (try clear hfz469_2); (try clear hfz480_0); (try clear hfz480_1); (try clear hfz480_2); (try clear hfz490_0); (try clear hfz490_1); (try clear hfz490_2); (try clear hfz499_0); (try clear hfz499_1); (try clear hfz499_2); (try clear hfz507_0); (try clear hfz507_1); (try clear hfz507_2); (try clear hfz514_0); (try clear hfz514_1); (try clear hfz514_2); (try clear hfz532_0); (try clear hfz532_1); (try clear hfz532_2); (try clear hfz534_0); (try clear hfz534_1); (try clear hfz534_2); (try clear hfz551_0); (try clear hfz551_1); (try clear hfz551_2)
                obtain ⟨kq, x660_519, rfl, HA, HJ519, BK467, BK476, BK481, BK508, BK513, BK563, BK568, BK573, BK579, BK584, BK590, BK595, HB⟩ := hcut
                cases kq with
                | zero => exact absurd HA.out (by simp [laws_FnFramesPotted.j14])
                | succ kj519 =>
                 have H := HA.out
                 clear HA
                 simp only [laws_FnFramesPotted.j14] at H
                 by_cases c552 : x660_519 = true
                 ·subst c552
                  rw [if_pos rfl] at H
                  exact absurd H (by simp)
                 replace c552 := Bool.eq_false_iff.mpr c552
                 subst c552
                 rw [if_neg (show ¬ (false = true) by decide)] at H
                 by_cases c553 : t589 = true
                 rotate_left
                 ·replace c553 := Bool.eq_false_iff.mpr c553
                  subst c553
                  rw [if_neg (show ¬ (false = true) by decide)] at H
                  obtain rfl := Option.some.inj H
                  go_wp2
                  go_ret
                  exact ⟨by first | rfl | (simp [errW_none, errW_some] <;> rfl) | (simp [*, errW_none, errW_some] <;> rfl), hbU⟩
                 subst c553
                 rw [if_pos rfl] at H
                 replace H := Option.bind_eq_some_iff.mp H
                 obtain ⟨⟨t605, t606⟩, A5540, H⟩ := H
                 (try dsimp only at H)
                 have A554 := Aside0.mk A5540
                 clear A5540
                 by_cases c555 : t606 = true
                 ·subst c555
                  rw [if_pos rfl] at H
                  obtain rfl := Option.some.inj H
                  have hnb556 := NB590_467.out
                  have hnc556 := NB467_590.out
                  have hnb557 := NB590_476.out
                  have hnc557 := NB476_590.out
                  have hnb558 := NB590_481.out
                  have hnc558 := NB481_590.out
                  have hnb559 := NB590_508.out
                  have hnc559 := NB508_590.out
                  have hnb560 := NB590_513.out
                  have hnc560 := NB513_590.out
                  have hnb561 := NB590_563.out
                  have hnc561 := NB563_590.out
                  have hnb562 := NB590_568.out
                  have hnc562 := NB568_590.out
                  have hnb563 := NB590_573.out
                  have hnc563 := NB573_590.out
                  have hnb564 := NB590_579.out
                  have hnc564 := NB579_590.out
                  have hnb565 := NB590_584.out
                  have hnc565 := NB584_590.out
                  have hnb566 := NB590_595.out
                  have hnc566 := NB595_590.out
                  obtain ⟨hcz567_0, hcz567_1, hcz567_2, hfz567_0, hfz567_1, hfz567_2⟩ := b3U BK590
                  go_wp2_with (first | ((with_reducible refine gate_callee (f := 23) rfl ?_); refine goU (some 664) Tryz.func23 #[.agg #[.int .i64 t586, .bool t587, .int .i64 t588]] ?_; (with_reducible refine (impl_FrameText.calls kj519 t586 t587 t588 t605 true _ A554.out).mono ?_); rintro e w568 ⟨rfl, hb⟩; refine ⟨_, rfl, ?_⟩; have n0_ := bbU BK467 hb; have n1_ := bbU BK476 hb; have n2_ := bbU BK481 hb; have n3_ := bbU BK508 hb; have n4_ := bbU BK513 hb; have n5_ := bbU BK563 hb; have n6_ := bbU BK568 hb; have n7_ := bbU BK573 hb; have n8_ := bbU BK579 hb; have n9_ := bbU BK584 hb; have n10_ := bbU BK590 hb; have n11_ := bbU BK595 hb; have n12_ := bsU hb; clear BK467; clear BK476; clear BK481; clear BK508; clear BK513; clear BK563; clear BK568; clear BK573; clear BK579; clear BK584; clear BK590; clear BK595; clear HB; have BK467 := n0_; have BK476 := n1_; have BK481 := n2_; have BK508 := n3_; have BK513 := n4_; have BK563 := n5_; have BK568 := n6_; have BK573 := n7_; have BK579 := n8_; have BK584 := n9_; have BK590 := n10_; have BK595 := n11_; have HB := n12_; clear n0_ n1_ n2_ n3_ n4_ n5_ n6_ n7_ n8_ n9_ n10_ n11_ n12_; (try clear hb); (try clear hb2); (try clear hk); (try clear hi)))
                  go_ret
                  exact ⟨by first | rfl | (simp [errW_none, errW_some] <;> rfl) | (simp [*, errW_none, errW_some] <;> rfl), hbU⟩
                 replace c555 := Bool.eq_false_iff.mpr c555
                 subst c555
                 rw [if_neg (show ¬ (false = true) by decide)] at H
                 obtain rfl := Option.some.inj H
                 have hnb569 := NB590_467.out
                 have hnc569 := NB467_590.out
                 have hnb570 := NB590_476.out
                 have hnc570 := NB476_590.out
                 have hnb571 := NB590_481.out
                 have hnc571 := NB481_590.out
                 have hnb572 := NB590_508.out
                 have hnc572 := NB508_590.out
                 have hnb573 := NB590_513.out
                 have hnc573 := NB513_590.out
                 have hnb574 := NB590_563.out
                 have hnc574 := NB563_590.out
                 have hnb575 := NB590_568.out
                 have hnc575 := NB568_590.out
                 have hnb576 := NB590_573.out
                 have hnc576 := NB573_590.out
                 have hnb577 := NB590_579.out
                 have hnc577 := NB579_590.out
                 have hnb578 := NB590_584.out
                 have hnc578 := NB584_590.out
                 have hnb579 := NB590_595.out
                 have hnc579 := NB595_590.out
                 obtain ⟨hcz580_0, hcz580_1, hcz580_2, hfz580_0, hfz580_1, hfz580_2⟩ := b3U BK590
                 go_wp2_with (first | ((with_reducible refine gate_callee (f := 23) rfl ?_); refine goU (some 664) Tryz.func23 #[.agg #[.int .i64 t586, .bool t587, .int .i64 t588]] ?_; (with_reducible refine (impl_FrameText.calls kj519 t586 t587 t588 t605 false _ A554.out).mono ?_); rintro e w581 ⟨rfl, hb⟩; refine ⟨_, rfl, ?_⟩; have n0_ := bbU BK467 hb; have n1_ := bbU BK476 hb; have n2_ := bbU BK481 hb; have n3_ := bbU BK508 hb; have n4_ := bbU BK513 hb; have n5_ := bbU BK563 hb; have n6_ := bbU BK568 hb; have n7_ := bbU BK573 hb; have n8_ := bbU BK579 hb; have n9_ := bbU BK584 hb; have n10_ := bbU BK590 hb; have n11_ := bbU BK595 hb; have n12_ := bsU hb; clear BK467; clear BK476; clear BK481; clear BK508; clear BK513; clear BK563; clear BK568; clear BK573; clear BK579; clear BK584; clear BK590; clear BK595; clear HB; have BK467 := n0_; have BK476 := n1_; have BK481 := n2_; have BK508 := n3_; have BK513 := n4_; have BK563 := n5_; have BK568 := n6_; have BK573 := n7_; have BK579 := n8_; have BK584 := n9_; have BK590 := n10_; have BK595 := n11_; have HB := n12_; clear n0_ n1_ n2_ n3_ n4_ n5_ n6_ n7_ n8_ n9_ n10_ n11_ n12_; (try clear hb); (try clear hb2); (try clear hk); (try clear hi)))
                 go_ret
                 exact ⟨by first | rfl | (simp [errW_none, errW_some] <;> rfl) | (simp [*, errW_none, errW_some] <;> rfl), hbU⟩
def laws_FnFramesPotted.Pure : Prop := ∀ (l0 : List Int) (l1 : List Int), l0.length ≤ maxLen → l0.length * 1 ≤ 140737488351232 → (∀ x ∈ l0, (Lit.int .u8 x).wf = true) → l1.length ≤ maxLen → l1.length * 1 ≤ 140737488351232 → (∀ x ∈ l1, (Lit.int .u8 x).wf = true) → ∃ k, laws_FnFramesPotted.f k l0 l1 = some true
theorem laws_FnFramesPotted.walk (P : laws_FnFramesPotted.Pure) (a0 : Option Addr) (len0 cap0 : Nat) (z0 : List Int) (a1 : Option Addr) (len1 cap1 : Nat) (z1 : List Int) (w : World) (w0 : (a0 = none ∧ len0 = 0 ∧ cap0 = 0 ∧ z0 = []) ∨ ∃ x, a0 = some x ∧ len0 ≤ cap0 ∧ cap0 ≤ maxLen ∧ z0.length = cap0 ∧ (∀ i, i < z0.length → w.cell? (x.add i) = some (.int .u8 (z0.getD i 0))) ∧ ∀ n ∈ z0, (Lit.int .u8 n).wf = true) (y0 : len0 * 1 ≤ 140737488351232) (w1 : (a1 = none ∧ len1 = 0 ∧ cap1 = 0 ∧ z1 = []) ∨ ∃ x, a1 = some x ∧ len1 ≤ cap1 ∧ cap1 ≤ maxLen ∧ z1.length = cap1 ∧ (∀ i, i < z1.length → w.cell? (x.add i) = some (.int .u8 (z1.getD i 0))) ∧ ∀ n ∈ z1, (Lit.int .u8 n).wf = true) (y1 : len1 * 1 ≤ 140737488351232) :
    Calls Tryz.prog 3 #[.slice a0 len0 cap0, .slice a1 len1 cap1] w fun e w' => e = .returned (.bool true) ∧ Below w.heap.size w w' := by
 obtain ⟨l0, rfl, hr0, hm0, hw0, hc0⟩ := ReadsInt.ofRowC w0
 obtain ⟨l1, rfl, hr1, hm1, hw1, hc1⟩ := ReadsInt.ofRowC w1
 obtain ⟨k, h⟩ := P l0 l1 hm0 y0 hw0 hm1 y1 hw1
 refine (laws_FnFramesPotted.calls k _ _ l0 _ _ l1 true w (Kd.C_of_reads (d := (0 : Int)) (h1 := fun _ => rfl) hr0) hc0 (Kd.C_of_reads (d := (0 : Int)) (h1 := fun _ => rfl) hr1) hc1 h).mono ?_
 rintro e w' ⟨rfl, hd⟩
 exact ⟨rfl, hd⟩
end Go.Proofs.YtcmlmjgoidpabaaGreatDoor.MFnFramesPotted

