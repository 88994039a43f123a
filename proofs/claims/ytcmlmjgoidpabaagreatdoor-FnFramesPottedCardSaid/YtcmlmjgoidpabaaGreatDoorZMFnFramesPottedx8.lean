/- Walks of the functions that the law reaches: each comes to just what the function that is told of it tells, for all arguments. -/
import Derived.Test.YtcmlmjgoidpabaaGreatDoorZMFnFramesPottedx0
import Derived.Test.YtcmlmjgoidpabaaGreatDoorZMFnFramesPottedx2
import Derived.Test.YtcmlmjgoidpabaaGreatDoorZMFnFramesPottedx3
import Derived.Test.YtcmlmjgoidpabaaGreatDoorZMFnFramesPottedx5
import Derived.Test.YtcmlmjgoidpabaaGreatDoorZMFnFramesPottedx7
namespace Go.Proofs.YtcmlmjgoidpabaaGreatDoor.MFnFramesPotted
open Go.RowKit Go.Proofs.YtcmlmjgoidpabaaGreatDoorW.PrintWords Go.Proofs.YtcmlmjgoidpabaaGreatDoorW.PrintLast Go.Proofs.YtcmlmjgoidpabaaGreatDoorW.PrintMore
attribute [local go_sem] max2_int min2_int max_two min_two max_three min_three max_four min_four
set_option linter.unusedVariables false
set_option linter.unusedSimpArgs false
def spec_FrameAfter.f (k : Nat) (a0_0 : Int) (a0_1 : Bool) (a0_2 : Int) (a1 : ByteArray) : Option (Int × Bool × Int × Bool) := (spec_frGood.f a0_0 a0_1 a0_2).bind fun t260 => (if t260 = true then ((spec_frAfter.f k a0_0 a0_1 a0_2 a1).bind fun bt261 => (if bt261.2.2.2 = true then (some (bt261.1, bt261.2.1, bt261.2.2.1, true)) else (some (0, false, 0, false)))) else (some (0, false, 0, false)))
theorem spec_FrameAfter.mono : ∀ a0 a1 a2 a3 k, LeO (spec_FrameAfter.f k a0 a1 a2 a3) (spec_FrameAfter.f (k + 1) a0 a1 a2 a3) := by
 intro a0 a1 a2 a3 k
 unfold spec_FrameAfter.f
 repeat' first
   | (with_reducible exact spec_frAfter.mono _ _ _ _ _)
   | (with_reducible exact LeO.refl _)
   | (with_reducible exact LeO.none _)
   | (with_reducible refine LeO.ite ?_ ?_)
   | (with_reducible refine LeO.bind ?_ (fun _ => ?_))
   | exact spec_frAfter.mono _ _ _ _ _
   | exact LeO.none _
   | refine LeO.ite ?_ ?_
   | refine LeO.bind ?_ (fun _ => ?_)
set_option maxHeartbeats 8000000 in
set_option maxRecDepth 100000 in
theorem spec_FrameAfter.calls (k : Nat) (a0_0 : Int) (a0_1 : Bool) (a0_2 : Int) (a1 : ByteArray) (r1 : Int) (r2 : Bool) (r3 : Int) (r4 : Bool) (w : World) (h : spec_FrameAfter.f k a0_0 a0_1 a0_2 a1 = some (r1, r2, r3, r4)) :
  Calls Tryz.prog 10 #[.agg #[.int .i64 a0_0, .bool a0_1, .int .i64 a0_2], .string a1] w fun e w' => e = .returned (.tuple #[.agg #[.int .i64 r1, .bool r2, .int .i64 r3], .bool r4]) ∧ Below w.heap.size w w' := by
 have hu25 := Tryz.underlying25
 have HB := Aside0.mk (Below.refl w.heap.size w)
 have H : ((spec_frGood.f a0_0 a0_1 a0_2).bind fun t260 => (if t260 = true then ((spec_frAfter.f k a0_0 a0_1 a0_2 a1).bind fun bt261 => (if bt261.2.2.2 = true then (some (bt261.1, bt261.2.1, bt261.2.2.1, true)) else (some (0, false, 0, false)))) else (some (0, false, 0, false)))) = some (r1, r2, r3, r4) := h
 clear h
 replace H := Option.bind_eq_some_iff.mp H
 obtain ⟨t260, A30, H⟩ := H
 (try dsimp only at H)
 have A3 := Aside0.mk A30
 clear A30
 by_cases c4 : t260 = true
 ·subst c4
  rw [if_pos rfl] at H
  replace H := Option.bind_eq_some_iff.mp H
  obtain ⟨⟨t261, t262, t263, t264⟩, A50, H⟩ := H
  (try dsimp only at H)
  have A5 := Aside0.mk A50
  clear A50
  by_cases c6 : t264 = true
  ·subst c6
   rw [if_pos rfl] at H
   simp only [Option.some.injEq, Prod.mk.injEq] at H
   obtain ⟨rfl, rfl, rfl, rfl⟩ := H
   go_enter Tryz.func10, Tryz.ntmps10
   go_wp2_with (first | ((with_reducible refine gate_dst (N := 2) rfl ?_); refine bxU (cs := #[.int .i64 a0_0, .bool a0_1, .int .i64 a0_2]) (t := 25) ?_; intro gb258 hg w7 hbox hb; have n0_ := bsU hb; have n1_ := Aside0.mk (hbox); have n2_ := geU hg; have n3_ := geU hg; clear HB; have HB := n0_; have BK258 := n1_; have GW258 := n2_; have GE258 := n3_; clear n0_ n1_ n2_ n3_; clear hb hbox hg) | ((with_reducible refine gate_dst (N := 4) rfl ?_); refine bxU (cs := #[.int .i64 0, .bool false, .int .i64 0]) (t := 25) ?_; intro gb259 hg w8 hbox hb; have n0_ := bbU BK258 hb; have n1_ := bsU hb; have n2_ := Aside0.mk (hbox); have n3_ := geU hg; have n4_ := geU hg; have n5_ := neU BK258 hg; have n6_ := enU BK258 hg; clear BK258; clear HB; have BK258 := n0_; have HB := n1_; have BK259 := n2_; have GW259 := n3_; have GE259 := n4_; have NB258_259 := n5_; have NB259_258 := n6_; clear n0_ n1_ n2_ n3_ n4_ n5_ n6_; clear hb hbox hg; have hnb9 := NB258_259.out; have hnc9 := NB259_258.out; obtain ⟨hcz10_0, hcz10_1, hcz10_2, hfz10_0, hfz10_1, hfz10_2⟩ := b3U BK258) | ((with_reducible refine gate_callee (f := 78) rfl ?_); refine goU (some 9) Tryz.func78 #[.agg #[.int .i64 a0_0, .bool a0_1, .int .i64 a0_2]] ?_; (with_reducible refine (spec_frGood.calls a0_0 a0_1 a0_2 true _ A3.out).mono ?_); rintro e w11 ⟨rfl, hb⟩; refine ⟨_, rfl, ?_⟩; have n0_ := bbU BK258 hb; have n1_ := bbU BK259 hb; have n2_ := bsU hb; clear BK258; clear BK259; clear HB; have BK258 := n0_; have BK259 := n1_; have HB := n2_; clear n0_ n1_ n2_; (try clear hb); (try clear hb2); (try clear hk); (try clear hi); obtain ⟨hcz12_0, hcz12_1, hcz12_2, hfz12_0, hfz12_1, hfz12_2⟩ := b3U BK258) | ((with_reducible refine gate_callee (f := 79) rfl ?_); refine goU (some 15) Tryz.func79 #[.agg #[.int .i64 a0_0, .bool a0_1, .int .i64 a0_2], .string a1] ?_; (with_reducible refine (spec_frAfter.calls k a0_0 a0_1 a0_2 a1 t261 t262 t263 true _ A5.out).mono ?_); rintro e w13 ⟨rfl, hb⟩; refine ⟨_, rfl, ?_⟩; have n0_ := bbU BK258 hb; have n1_ := bbU BK259 hb; have n2_ := bsU hb; clear BK258; clear BK259; clear HB; have BK258 := n0_; have BK259 := n1_; have HB := n2_; clear n0_ n1_ n2_; (try clear hb); (try clear hb2); (try clear hk); (try clear hi)) | ((with_reducible refine gate_dst (N := 6) rfl ?_); refine bxU (cs := #[.int .i64 0, .bool false, .int .i64 0]) (t := 25) ?_; intro gb265 hg w14 hbox hb; have n0_ := bbU BK258 hb; have n1_ := bbU BK259 hb; have n2_ := bsU hb; have n3_ := Aside0.mk (hbox); have n4_ := geU hg; have n5_ := geU hg; have n6_ := neU BK258 hg; have n7_ := enU BK258 hg; have n8_ := neU BK259 hg; have n9_ := enU BK259 hg; clear BK258; clear BK259; clear HB; have BK258 := n0_; have BK259 := n1_; have HB := n2_; have BK265 := n3_; have GW265 := n4_; have GE265 := n5_; have NB258_265 := n6_; have NB265_258 := n7_; have NB259_265 := n8_; have NB265_259 := n9_; clear n0_ n1_ n2_ n3_ n4_ n5_ n6_ n7_ n8_ n9_; clear hb hbox hg; have hnb15 := NB265_258.out; have hnc15 := NB258_265.out; have hnb16 := NB265_259.out; have hnc16 := NB259_265.out; obtain ⟨hcz17_0, hcz17_1, hcz17_2, hfz17_0, hfz17_1, hfz17_2⟩ := b3U BK265; obtain ⟨hcz18_0, hcz18_1, hcz18_2, hfz18_0, hfz18_1, hfz18_2⟩ := b3U BK259))
   refine bodyPost_ret (results_ct rfl _ _ gb259 25 #[.int .i64 t261, .bool t262, .int .i64 t263] (0, 0) _ rfl bkU Tryz.underlying25 rfl (by kernel_rfl)) rfl ?_
   exact ⟨by first | rfl | (simp [errW_none, errW_some] <;> rfl) | (simp [*, errW_none, errW_some] <;> rfl), hbU⟩
  ·replace c6 := Bool.eq_false_iff.mpr c6
   subst c6
   rw [if_neg (show ¬ (false = true) by decide)] at H
   simp only [Option.some.injEq, Prod.mk.injEq] at H
   obtain ⟨rfl, rfl, rfl, rfl⟩ := H
   go_enter Tryz.func10, Tryz.ntmps10
   go_wp2_with (first | ((with_reducible refine gate_dst (N := 2) rfl ?_); refine bxU (cs := #[.int .i64 a0_0, .bool a0_1, .int .i64 a0_2]) (t := 25) ?_; intro gb258 hg w19 hbox hb; have n0_ := bsU hb; have n1_ := Aside0.mk (hbox); have n2_ := geU hg; have n3_ := geU hg; clear HB; have HB := n0_; have BK258 := n1_; have GW258 := n2_; have GE258 := n3_; clear n0_ n1_ n2_ n3_; clear hb hbox hg) | ((with_reducible refine gate_dst (N := 4) rfl ?_); refine bxU (cs := #[.int .i64 0, .bool false, .int .i64 0]) (t := 25) ?_; intro gb259 hg w20 hbox hb; have n0_ := bbU BK258 hb; have n1_ := bsU hb; have n2_ := Aside0.mk (hbox); have n3_ := geU hg; have n4_ := geU hg; have n5_ := neU BK258 hg; have n6_ := enU BK258 hg; clear BK258; clear HB; have BK258 := n0_; have HB := n1_; have BK259 := n2_; have GW259 := n3_; have GE259 := n4_; have NB258_259 := n5_; have NB259_258 := n6_; clear n0_ n1_ n2_ n3_ n4_ n5_ n6_; clear hb hbox hg; have hnb21 := NB258_259.out; have hnc21 := NB259_258.out; obtain ⟨hcz22_0, hcz22_1, hcz22_2, hfz22_0, hfz22_1, hfz22_2⟩ := b3U BK258) | ((with_reducible refine gate_callee (f := 78) rfl ?_); refine goU (some 9) Tryz.func78 #[.agg #[.int .i64 a0_0, .bool a0_1, .int .i64 a0_2]] ?_; (with_reducible refine (spec_frGood.calls a0_0 a0_1 a0_2 true _ A3.out).mono ?_); rintro e w23 ⟨rfl, hb⟩; refine ⟨_, rfl, ?_⟩; have n0_ := bbU BK258 hb; have n1_ := bbU BK259 hb; have n2_ := bsU hb; clear BK258; clear BK259; clear HB; have BK258 := n0_; have BK259 := n1_; have HB := n2_; clear n0_ n1_ n2_; (try clear hb); (try clear hb2); (try clear hk); (try clear hi); obtain ⟨hcz24_0, hcz24_1, hcz24_2, hfz24_0, hfz24_1, hfz24_2⟩ := b3U BK258) | ((with_reducible refine gate_callee (f := 79) rfl ?_); refine goU (some 15) Tryz.func79 #[.agg #[.int .i64 a0_0, .bool a0_1, .int .i64 a0_2], .string a1] ?_; (with_reducible refine (spec_frAfter.calls k a0_0 a0_1 a0_2 a1 t261 t262 t263 false _ A5.out).mono ?_); rintro e w25 ⟨rfl, hb⟩; refine ⟨_, rfl, ?_⟩; have n0_ := bbU BK258 hb; have n1_ := bbU BK259 hb; have n2_ := bsU hb; clear BK258; clear BK259; clear HB; have BK258 := n0_; have BK259 := n1_; have HB := n2_; clear n0_ n1_ n2_; (try clear hb); (try clear hb2); (try clear hk); (try clear hi)) | ((with_reducible refine gate_dst (N := 6) rfl ?_); refine bxU (cs := #[.int .i64 0, .bool false, .int .i64 0]) (t := 25) ?_; intro gb265 hg w26 hbox hb; have n0_ := bbU BK258 hb; have n1_ := bbU BK259 hb; have n2_ := bsU hb; have n3_ := Aside0.mk (hbox); have n4_ := geU hg; have n5_ := geU hg; have n6_ := neU BK258 hg; have n7_ := enU BK258 hg; have n8_ := neU BK259 hg; have n9_ := enU BK259 hg; clear BK258; clear BK259; clear HB; have BK258 := n0_; have BK259 := n1_; have HB := n2_; have BK265 := n3_; have GW265 := n4_; have GE265 := n5_; have NB258_265 := n6_; have NB265_258 := n7_; have NB259_265 := n8_; have NB265_259 := n9_; clear n0_ n1_ n2_ n3_ n4_ n5_ n6_ n7_ n8_ n9_; clear hb hbox hg; have hnb27 := NB265_258.out; have hnc27 := NB258_265.out; have hnb28 := NB265_259.out; have hnc28 := NB259_265.out; obtain ⟨hcz29_0, hcz29_1, hcz29_2, hfz29_0, hfz29_1, hfz29_2⟩ := b3U BK265; obtain ⟨hcz30_0, hcz30_1, hcz30_2, hfz30_0, hfz30_1, hfz30_2⟩ := b3U BK259))
   refine bodyPost_ret (results_ct rfl _ _ gb259 25 #[.int .i64 0, .bool false, .int .i64 0] (0, 0) _ rfl bkU Tryz.underlying25 rfl (by kernel_rfl)) rfl ?_
   exact ⟨by first | rfl | (simp [errW_none, errW_some] <;> rfl) | (simp [*, errW_none, errW_some] <;> rfl), hbU⟩
 ·replace c4 := Bool.eq_false_iff.mpr c4
  subst c4
  rw [if_neg (show ¬ (false = true) by decide)] at H
  simp only [Option.some.injEq, Prod.mk.injEq] at H
  obtain ⟨rfl, rfl, rfl, rfl⟩ := H
  go_enter Tryz.func10, Tryz.ntmps10
  go_wp2_with (first | ((with_reducible refine gate_dst (N := 2) rfl ?_); refine bxU (cs := #[.int .i64 a0_0, .bool a0_1, .int .i64 a0_2]) (t := 25) ?_; intro gb258 hg w31 hbox hb; have n0_ := bsU hb; have n1_ := Aside0.mk (hbox); have n2_ := geU hg; have n3_ := geU hg; clear HB; have HB := n0_; have BK258 := n1_; have GW258 := n2_; have GE258 := n3_; clear n0_ n1_ n2_ n3_; clear hb hbox hg) | ((with_reducible refine gate_dst (N := 4) rfl ?_); refine bxU (cs := #[.int .i64 0, .bool false, .int .i64 0]) (t := 25) ?_; intro gb259 hg w32 hbox hb; have n0_ := bbU BK258 hb; have n1_ := bsU hb; have n2_ := Aside0.mk (hbox); have n3_ := geU hg; have n4_ := geU hg; have n5_ := neU BK258 hg; have n6_ := enU BK258 hg; clear BK258; clear HB; have BK258 := n0_; have HB := n1_; have BK259 := n2_; have GW259 := n3_; have GE259 := n4_; have NB258_259 := n5_; have NB259_258 := n6_; clear n0_ n1_ n2_ n3_ n4_ n5_ n6_; clear hb hbox hg; have hnb33 := NB258_259.out; have hnc33 := NB259_258.out; obtain ⟨hcz34_0, hcz34_1, hcz34_2, hfz34_0, hfz34_1, hfz34_2⟩ := b3U BK258) | ((with_reducible refine gate_callee (f := 78) rfl ?_); refine goU (some 9) Tryz.func78 #[.agg #[.int .i64 a0_0, .bool a0_1, .int .i64 a0_2]] ?_; (with_reducible refine (spec_frGood.calls a0_0 a0_1 a0_2 false _ A3.out).mono ?_); rintro e w35 ⟨rfl, hb⟩; refine ⟨_, rfl, ?_⟩; have n0_ := bbU BK258 hb; have n1_ := bbU BK259 hb; have n2_ := bsU hb; clear BK258; clear BK259; clear HB; have BK258 := n0_; have BK259 := n1_; have HB := n2_; clear n0_ n1_ n2_; (try clear hb); (try clear hb2); (try clear hk); (try clear hi); obtain ⟨hcz36_0, hcz36_1, hcz36_2, hfz36_0, hfz36_1, hfz36_2⟩ := b3U BK259))
  refine bodyPost_ret (results_ct rfl _ _ gb259 25 #[.int .i64 0, .bool false, .int .i64 0] (0, 0) _ rfl bkU Tryz.underlying25 rfl (by kernel_rfl)) rfl ?_
  exact ⟨by first | rfl | (simp [errW_none, errW_some] <;> rfl) | (simp [*, errW_none, errW_some] <;> rfl), hbU⟩
def impl_NextBalls.f (k : Nat) (a0_0 : Int) (a0_1 : Bool) (a0_2 : Int) : Option (ByteArray × Bool) := (impl_IsFrame.f k a0_0 a0_1 a0_2).bind fun t267 => (if t267 = true then ((impl_Frame_next.f a0_0 a0_1 a0_2).bind fun t268 => (some (t268, true))) else (some ((⟨#[]⟩ : ByteArray), false)))
theorem impl_NextBalls.mono : ∀ a0 a1 a2 k, LeO (impl_NextBalls.f k a0 a1 a2) (impl_NextBalls.f (k + 1) a0 a1 a2) := by
 intro a0 a1 a2 k
 unfold impl_NextBalls.f
 repeat' first
   | (with_reducible exact impl_IsFrame.mono _ _ _ _)
   | (with_reducible exact LeO.refl _)
   | (with_reducible exact LeO.none _)
   | (with_reducible refine LeO.ite ?_ ?_)
   | (with_reducible refine LeO.bind ?_ (fun _ => ?_))
   | exact impl_IsFrame.mono _ _ _ _
   | exact LeO.none _
   | refine LeO.ite ?_ ?_
   | refine LeO.bind ?_ (fun _ => ?_)
set_option maxHeartbeats 8000000 in
set_option maxRecDepth 100000 in
theorem impl_NextBalls.calls (k : Nat) (a0_0 : Int) (a0_1 : Bool) (a0_2 : Int) (r1 : ByteArray) (r2 : Bool) (w : World) (h : impl_NextBalls.f k a0_0 a0_1 a0_2 = some (r1, r2)) :
  Calls Tryz.prog 11 #[.agg #[.int .i64 a0_0, .bool a0_1, .int .i64 a0_2]] w fun e w' => e = .returned (.tuple #[.string r1, .bool r2]) ∧ Below w.heap.size w w' := by
 have hu25 := Tryz.underlying25
 have HB := Aside0.mk (Below.refl w.heap.size w)
 have H : ((impl_IsFrame.f k a0_0 a0_1 a0_2).bind fun t267 => (if t267 = true then ((impl_Frame_next.f a0_0 a0_1 a0_2).bind fun t268 => (some (t268, true))) else (some ((⟨#[]⟩ : ByteArray), false)))) = some (r1, r2) := h
 clear h
 replace H := Option.bind_eq_some_iff.mp H
 obtain ⟨t267, A20, H⟩ := H
 (try dsimp only at H)
 have A2 := Aside0.mk A20
 clear A20
 by_cases c3 : t267 = true
 ·subst c3
  rw [if_pos rfl] at H
  replace H := Option.bind_eq_some_iff.mp H
  obtain ⟨t268, A40, H⟩ := H
  (try dsimp only at H)
  have A4 := Aside0.mk A40
  clear A40
  simp only [Option.some.injEq, Prod.mk.injEq] at H
  obtain ⟨rfl, rfl⟩ := H
  go_enter Tryz.func11, Tryz.ntmps11
  go_wp2_with (first | ((with_reducible refine gate_dst (N := 1) rfl ?_); refine bxU (cs := #[.int .i64 a0_0, .bool a0_1, .int .i64 a0_2]) (t := 25) ?_; intro gb266 hg w5 hbox hb; have n0_ := bsU hb; have n1_ := Aside0.mk (hbox); have n2_ := geU hg; have n3_ := geU hg; clear HB; have HB := n0_; have BK266 := n1_; have GW266 := n2_; have GE266 := n3_; clear n0_ n1_ n2_ n3_; clear hb hbox hg; obtain ⟨hcz6_0, hcz6_1, hcz6_2, hfz6_0, hfz6_1, hfz6_2⟩ := b3U BK266) | ((with_reducible refine gate_callee (f := 25) rfl ?_); refine goU (some 5) Tryz.func25 #[.agg #[.int .i64 a0_0, .bool a0_1, .int .i64 a0_2]] ?_; (with_reducible refine (impl_IsFrame.calls k a0_0 a0_1 a0_2 true _ A2.out).mono ?_); rintro e w7 ⟨rfl, hb⟩; refine ⟨_, rfl, ?_⟩; have n0_ := bbU BK266 hb; have n1_ := bsU hb; clear BK266; clear HB; have BK266 := n0_; have HB := n1_; clear n0_ n1_; (try clear hb); (try clear hb2); (try clear hk); (try clear hi); obtain ⟨hcz8_0, hcz8_1, hcz8_2, hfz8_0, hfz8_1, hfz8_2⟩ := b3U BK266) | ((with_reducible refine gate_callee (f := 80) rfl ?_); refine goU (some 8) Tryz.func80 #[.agg #[.int .i64 a0_0, .bool a0_1, .int .i64 a0_2]] ?_; (with_reducible refine (impl_Frame_next.calls a0_0 a0_1 a0_2 t268 _ A4.out).mono ?_); rintro e w9 ⟨rfl, hb⟩; refine ⟨_, rfl, ?_⟩; have n0_ := bbU BK266 hb; have n1_ := bsU hb; clear BK266; clear HB; have BK266 := n0_; have HB := n1_; clear n0_ n1_; (try clear hb); (try clear hb2); (try clear hk); (try clear hi)))
  go_ret2
  exact ⟨by first | rfl | (simp [errW_none, errW_some] <;> rfl) | (simp [*, errW_none, errW_some] <;> rfl), hbU⟩
 ·replace c3 := Bool.eq_false_iff.mpr c3
  subst c3
  rw [if_neg (show ¬ (false = true) by decide)] at H
  simp only [Option.some.injEq, Prod.mk.injEq] at H
  obtain ⟨rfl, rfl⟩ := H
  go_enter Tryz.func11, Tryz.ntmps11
  go_wp2_with (first | ((with_reducible refine gate_dst (N := 1) rfl ?_); refine bxU (cs := #[.int .i64 a0_0, .bool a0_1, .int .i64 a0_2]) (t := 25) ?_; intro gb266 hg w10 hbox hb; have n0_ := bsU hb; have n1_ := Aside0.mk (hbox); have n2_ := geU hg; have n3_ := geU hg; clear HB; have HB := n0_; have BK266 := n1_; have GW266 := n2_; have GE266 := n3_; clear n0_ n1_ n2_ n3_; clear hb hbox hg; obtain ⟨hcz11_0, hcz11_1, hcz11_2, hfz11_0, hfz11_1, hfz11_2⟩ := b3U BK266) | ((with_reducible refine gate_callee (f := 25) rfl ?_); refine goU (some 5) Tryz.func25 #[.agg #[.int .i64 a0_0, .bool a0_1, .int .i64 a0_2]] ?_; (with_reducible refine (impl_IsFrame.calls k a0_0 a0_1 a0_2 false _ A2.out).mono ?_); rintro e w12 ⟨rfl, hb⟩; refine ⟨_, rfl, ?_⟩; have n0_ := bbU BK266 hb; have n1_ := bsU hb; clear BK266; clear HB; have BK266 := n0_; have HB := n1_; clear n0_ n1_; (try clear hb); (try clear hb2); (try clear hk); (try clear hi)))
  go_ret2
  exact ⟨by first | rfl | (simp [errW_none, errW_some] <;> rfl) | (simp [*, errW_none, errW_some] <;> rfl), hbU⟩
def spec_NextBalls.f (k : Nat) (a0_0 : Int) (a0_1 : Bool) (a0_2 : Int) : Option (ByteArray × Bool) := (spec_frGood.f a0_0 a0_1 a0_2).bind fun t270 => (if t270 = true then ((spec_frNext.f k a0_0 a0_1 a0_2).bind fun t271 => (some (t271, true))) else (some ((⟨#[]⟩ : ByteArray), false)))
theorem spec_NextBalls.mono : ∀ a0 a1 a2 k, LeO (spec_NextBalls.f k a0 a1 a2) (spec_NextBalls.f (k + 1) a0 a1 a2) := by
 intro a0 a1 a2 k
 unfold spec_NextBalls.f
 repeat' first
   | (with_reducible exact spec_frNext.mono _ _ _ _)
   | (with_reducible exact LeO.refl _)
   | (with_reducible exact LeO.none _)
   | (with_reducible refine LeO.ite ?_ ?_)
   | (with_reducible refine LeO.bind ?_ (fun _ => ?_))
   | exact spec_frNext.mono _ _ _ _
   | exact LeO.none _
   | refine LeO.ite ?_ ?_
   | refine LeO.bind ?_ (fun _ => ?_)
set_option maxHeartbeats 8000000 in
set_option maxRecDepth 100000 in
theorem spec_NextBalls.calls (k : Nat) (a0_0 : Int) (a0_1 : Bool) (a0_2 : Int) (r1 : ByteArray) (r2 : Bool) (w : World) (h : spec_NextBalls.f k a0_0 a0_1 a0_2 = some (r1, r2)) :
  Calls Tryz.prog 12 #[.agg #[.int .i64 a0_0, .bool a0_1, .int .i64 a0_2]] w fun e w' => e = .returned (.tuple #[.string r1, .bool r2]) ∧ Below w.heap.size w w' := by
 have hu25 := Tryz.underlying25
 have HB := Aside0.mk (Below.refl w.heap.size w)
 have H : ((spec_frGood.f a0_0 a0_1 a0_2).bind fun t270 => (if t270 = true then ((spec_frNext.f k a0_0 a0_1 a0_2).bind fun t271 => (some (t271, true))) else (some ((⟨#[]⟩ : ByteArray), false)))) = some (r1, r2) := h
 clear h
 replace H := Option.bind_eq_some_iff.mp H
 obtain ⟨t270, A20, H⟩ := H
 (try dsimp only at H)
 have A2 := Aside0.mk A20
 clear A20
 by_cases c3 : t270 = true
 ·subst c3
  rw [if_pos rfl] at H
  replace H := Option.bind_eq_some_iff.mp H
  obtain ⟨t271, A40, H⟩ := H
  (try dsimp only at H)
  have A4 := Aside0.mk A40
  clear A40
  simp only [Option.some.injEq, Prod.mk.injEq] at H
  obtain ⟨rfl, rfl⟩ := H
  go_enter Tryz.func12, Tryz.ntmps12
  go_wp2_with (first | ((with_reducible refine gate_dst (N := 1) rfl ?_); refine bxU (cs := #[.int .i64 a0_0, .bool a0_1, .int .i64 a0_2]) (t := 25) ?_; intro gb269 hg w5 hbox hb; have n0_ := bsU hb; have n1_ := Aside0.mk (hbox); have n2_ := geU hg; have n3_ := geU hg; clear HB; have HB := n0_; have BK269 := n1_; have GW269 := n2_; have GE269 := n3_; clear n0_ n1_ n2_ n3_; clear hb hbox hg; obtain ⟨hcz6_0, hcz6_1, hcz6_2, hfz6_0, hfz6_1, hfz6_2⟩ := b3U BK269) | ((with_reducible refine gate_callee (f := 78) rfl ?_); refine goU (some 5) Tryz.func78 #[.agg #[.int .i64 a0_0, .bool a0_1, .int .i64 a0_2]] ?_; (with_reducible refine (spec_frGood.calls a0_0 a0_1 a0_2 true _ A2.out).mono ?_); rintro e w7 ⟨rfl, hb⟩; refine ⟨_, rfl, ?_⟩; have n0_ := bbU BK269 hb; have n1_ := bsU hb; clear BK269; clear HB; have BK269 := n0_; have HB := n1_; clear n0_ n1_; (try clear hb); (try clear hb2); (try clear hk); (try clear hi); obtain ⟨hcz8_0, hcz8_1, hcz8_2, hfz8_0, hfz8_1, hfz8_2⟩ := b3U BK269) | ((with_reducible refine gate_callee (f := 81) rfl ?_); refine goU (some 8) Tryz.func81 #[.agg #[.int .i64 a0_0, .bool a0_1, .int .i64 a0_2]] ?_; (with_reducible refine (spec_frNext.calls k a0_0 a0_1 a0_2 t271 _ A4.out).mono ?_); rintro e w9 ⟨rfl, hb⟩; refine ⟨_, rfl, ?_⟩; have n0_ := bbU BK269 hb; have n1_ := bsU hb; clear BK269; clear HB; have BK269 := n0_; have HB := n1_; clear n0_ n1_; (try clear hb); (try clear hb2); (try clear hk); (try clear hi)))
  go_ret2
  exact ⟨by first | rfl | (simp [errW_none, errW_some] <;> rfl) | (simp [*, errW_none, errW_some] <;> rfl), hbU⟩
 ·replace c3 := Bool.eq_false_iff.mpr c3
  subst c3
  rw [if_neg (show ¬ (false = true) by decide)] at H
  simp only [Option.some.injEq, Prod.mk.injEq] at H
  obtain ⟨rfl, rfl⟩ := H
  go_enter Tryz.func12, Tryz.ntmps12
  go_wp2_with (first | ((with_reducible refine gate_dst (N := 1) rfl ?_); refine bxU (cs := #[.int .i64 a0_0, .bool a0_1, .int .i64 a0_2]) (t := 25) ?_; intro gb269 hg w10 hbox hb; have n0_ := bsU hb; have n1_ := Aside0.mk (hbox); have n2_ := geU hg; have n3_ := geU hg; clear HB; have HB := n0_; have BK269 := n1_; have GW269 := n2_; have GE269 := n3_; clear n0_ n1_ n2_ n3_; clear hb hbox hg; obtain ⟨hcz11_0, hcz11_1, hcz11_2, hfz11_0, hfz11_1, hfz11_2⟩ := b3U BK269) | ((with_reducible refine gate_callee (f := 78) rfl ?_); refine goU (some 5) Tryz.func78 #[.agg #[.int .i64 a0_0, .bool a0_1, .int .i64 a0_2]] ?_; (with_reducible refine (spec_frGood.calls a0_0 a0_1 a0_2 false _ A2.out).mono ?_); rintro e w12 ⟨rfl, hb⟩; refine ⟨_, rfl, ?_⟩; have n0_ := bbU BK269 hb; have n1_ := bsU hb; clear BK269; clear HB; have BK269 := n0_; have HB := n1_; clear n0_ n1_; (try clear hb); (try clear hb2); (try clear hk); (try clear hi)))
  go_ret2
  exact ⟨by first | rfl | (simp [errW_none, errW_some] <;> rfl) | (simp [*, errW_none, errW_some] <;> rfl), hbU⟩
def impl_Frame_whole.l0 : Nat → Bool → ByteArray → Int → Int → Bool → Int → Option (ByteArray × Int)
 | 0, _, _, _, _, _, _ => none
 | k + 1, x1, x6, x7, x273000, x273001, x273002 => (impl_Frame_next.f x273000 x273001 x273002).bind fun t273 => (if t273.toList = ([] : List UInt8) then (some (x6, x7)) else ((impl_Frame_next.f x273000 x273001 x273002).bind fun t274 => (if 0 ≤ 1 then (if 1 ≤ (t274.size : Int) then (if x1 = true then (if 0 ≤ (wrap64 ((t274.size : Int) - 1)) then (if (wrap64 ((t274.size : Int) - 1)) ≤ (t274.size : Int) then (if x6.size + (t274.extract ((wrap64 ((t274.size : Int) - 1)) : Int).toNat t274.size).size ≤ 9223372036854775807 then (if 0 < ((t274.extract ((wrap64 ((t274.size : Int) - 1)) : Int).toNat t274.size).size : Int) then ((impl_Frame_pot.f x273000 x273001 x273002).bind fun bt275 => (impl_Frame_whole.l0 k x1 (x6 ++ (t274.extract ((wrap64 ((t274.size : Int) - 1)) : Int).toNat t274.size)) (wrap64 (x7 + (((bt (t274.extract ((wrap64 ((t274.size : Int) - 1)) : Int).toNat t274.size) 0) - 48) % 256))) bt275.1 bt275.2.1 bt275.2.2)) else (none)) else (none)) else (none)) else (none)) else (if x6.size + (t274.extract 0 1).size ≤ 9223372036854775807 then (if 0 < ((t274.extract 0 1).size : Int) then ((impl_Frame_pot.f x273000 x273001 x273002).bind fun bt278 => (impl_Frame_whole.l0 k x1 (x6 ++ (t274.extract 0 1)) (wrap64 (x7 + (((bt (t274.extract 0 1) 0) - 48) % 256))) bt278.1 bt278.2.1 bt278.2.2)) else (none)) else (none))) else (none)) else (none))))
def impl_Frame_whole.f (k : Nat) (a0_0 : Int) (a0_1 : Bool) (a0_2 : Int) (a1 : Bool) : Option (ByteArray × Int) := impl_Frame_whole.l0 k a1 (⟨#[]⟩ : ByteArray) 0 a0_0 a0_1 a0_2
theorem impl_Frame_whole.mono_l : ∀ k, (∀ y0 y1 y2 y3 y4 y5, LeO (impl_Frame_whole.l0 k y0 y1 y2 y3 y4 y5) (impl_Frame_whole.l0 (k + 1) y0 y1 y2 y3 y4 y5))
 | 0 => fun _ _ _ _ _ _ r h => by simp [impl_Frame_whole.l0] at h
 | k + 1 => by
  have ih0 := impl_Frame_whole.mono_l k
  ·intro y0 y1 y2 y3 y4 y5
   unfold impl_Frame_whole.l0
   repeat' first
   | (with_reducible exact ih0 _ _ _ _ _ _)
   | (with_reducible exact LeO.refl _)
   | (with_reducible exact LeO.none _)
   | (with_reducible refine LeO.ite ?_ ?_)
   | (with_reducible refine LeO.bind ?_ (fun _ => ?_))
   | exact ih0 _ _ _ _ _ _
   | exact LeO.none _
   | refine LeO.ite ?_ ?_
   | refine LeO.bind ?_ (fun _ => ?_)
theorem impl_Frame_whole.mono : ∀ a0 a1 a2 a3 k, LeO (impl_Frame_whole.f k a0 a1 a2 a3) (impl_Frame_whole.f (k + 1) a0 a1 a2 a3) := by
 intro a0 a1 a2 a3 k
 have ih0 := impl_Frame_whole.mono_l k
 unfold impl_Frame_whole.f
 repeat' first
   | (with_reducible exact ih0 _ _ _ _ _ _)
   | (with_reducible exact LeO.refl _)
   | (with_reducible exact LeO.none _)
   | (with_reducible refine LeO.ite ?_ ?_)
   | (with_reducible refine LeO.bind ?_ (fun _ => ?_))
   | exact ih0 _ _ _ _ _ _
   | exact LeO.none _
   | refine LeO.ite ?_ ?_
   | refine LeO.bind ?_ (fun _ => ?_)
set_option maxHeartbeats 8000000 in
set_option maxRecDepth 100000 in
theorem impl_Frame_whole.calls (k : Nat) (a0_0 : Int) (a0_1 : Bool) (a0_2 : Int) (a1 : Bool) (r1 : ByteArray) (r2 : Int) (w : World) (h : impl_Frame_whole.f k a0_0 a0_1 a0_2 a1 = some (r1, r2)) :
  Calls Tryz.prog 82 #[.agg #[.int .i64 a0_0, .bool a0_1, .int .i64 a0_2], .bool a1] w fun e w' => e = .returned (.tuple #[.string r1, .int .i64 r2]) ∧ Below w.heap.size w w' := by
 have hu25 := Tryz.underlying25
 have HB := Aside0.mk (Below.refl w.heap.size w)
 have H : (impl_Frame_whole.l0 k a1 (⟨#[]⟩ : ByteArray) 0 a0_0 a0_1 a0_2) = some (r1, r2) := h
 clear h
 have H' := Aside0.mk H
 clear H
 go_enter Tryz.func82, Tryz.ntmps82
 go_wp2_with (first | ((with_reducible refine gate_dst (N := 2) rfl ?_); refine bxU (cs := #[.int .i64 a0_0, .bool a0_1, .int .i64 a0_2]) (t := 25) ?_; intro gb272 hg w3 hbox hb; have n0_ := bsU hb; have n1_ := Aside0.mk (hbox); have n2_ := geU hg; have n3_ := geU hg; clear HB; have HB := n0_; have BK272 := n1_; have GW272 := n2_; have GE272 := n3_; clear n0_ n1_ n2_ n3_; clear hb hbox hg))
 go_loopg [6, 7] k (fun kq v6 v7 w' => ∃ (x6_1 : ByteArray) (x7_1 : Int) (x273000_1 : Int) (x273001_1 : Bool) (x273002_1 : Int), v6 = .string x6_1 ∧ v7 = .int .i64 x7_1 ∧ Aside0 (impl_Frame_whole.l0 kq a1 x6_1 x7_1 x273000_1 x273001_1 x273002_1 = some (r1, r2)) ∧ Aside0 (kq ≤ k) ∧ Aside0 (w'.heap[gb272]? = some (.cells #[.int .i64 x273000_1, .bool x273001_1, .int .i64 x273002_1] 25 (0, 0))) ∧ Aside0 (Below w.heap.size w w'))
 case atStart => exact ⟨((⟨#[]⟩ : ByteArray)), (0), (a0_0), (a0_1), (a0_2), eqU, eqU, H', ⟨Nat.le_refl _⟩, ⟨bkU⟩, ⟨hbU⟩⟩
 case round =>
  clear H'
  obtain ⟨x6_1, x7_1, x273000_1, x273001_1, x273002_1, rfl, rfl, HA, HK1, BK272, HB⟩ := hrel
  cases gk with
  | zero => exact absurd HA.out (by simp [impl_Frame_whole.l0])
  | succ k1 =>
   have H := HA.out
   clear HA
   simp only [impl_Frame_whole.l0] at H
   replace H := Option.bind_eq_some_iff.mp H
   obtain ⟨t273, A40, H⟩ := H
   (try dsimp only at H)
   have A4 := Aside0.mk A40
   clear A40
   by_cases c5 : t273.toList = ([] : List UInt8)
   ·rw [if_pos c5] at H
    have c5b0 : (t273.toList == ([] : List UInt8)) = true := beq_iff_eq.mpr c5
    have c5b1 : (t273.toList != ([] : List UInt8)) = false := bne_eq_false_iff_eq.mpr c5
    clear c5
    simp only [Option.some.injEq, Prod.mk.injEq] at H
    obtain ⟨rfl, rfl⟩ := H
    obtain ⟨hcz6_0, hcz6_1, hcz6_2, hfz6_0, hfz6_1, hfz6_2⟩ := b3U BK272
    go_wp2_with (first | ((with_reducible refine gate_callee (f := 80) rfl ?_); refine goU (some 11) Tryz.func80 #[.agg #[.int .i64 x273000_1, .bool x273001_1, .int .i64 x273002_1]] ?_; (with_reducible refine (impl_Frame_next.calls x273000_1 x273001_1 x273002_1 t273 _ A4.out).mono ?_); rintro e w7 ⟨rfl, hb⟩; refine ⟨_, rfl, ?_⟩; have n0_ := bbU BK272 hb; have n1_ := bsU hb; clear BK272; clear HB; have BK272 := n0_; have HB := n1_; clear n0_ n1_; (try clear hb); (try clear hb2); (try clear hk); (try clear hi)))
    go_ret2
    exact ⟨by first | rfl | (simp [errW_none, errW_some] <;> rfl) | (simp [*, errW_none, errW_some] <;> rfl), hbU⟩
   ·rw [if_neg c5] at H
    have c5b0 : (t273.toList == ([] : List UInt8)) = false := beq_eq_false_iff_ne.mpr c5
    have c5b1 : (t273.toList != ([] : List UInt8)) = true := bne_iff_ne.mpr c5
    replace H := Option.bind_eq_some_iff.mp H
    obtain ⟨t274, A80, H⟩ := H
    (try dsimp only at H)
    have A8 := Aside0.mk A80
    clear A80
    by_cases c9 : 0 ≤ 1
    ·rw [if_pos c9] at H
     have c9b0 := eq_true c9
     have c9b1 : decide (0 ≤ 1) = true := decide_eq_true c9
     clear c9
     by_cases c10 : 1 ≤ (t274.size : Int)
     ·rw [if_pos c10] at H
      have c10b0 := eq_true c10
      have c10b1 : decide (1 ≤ (t274.size : Int)) = true := decide_eq_true c10
      clear c10
      by_cases c11 : a1 = true
      ·subst c11
       rw [if_pos rfl] at H
       obtain ⟨ji12, hji12⟩ : ∃ j_ : Int, (wrap64 ((t274.size : Int) - 1)) = j_ := ⟨_, rfl⟩
       replace H : (if 0 ≤ (ji12) then (if (ji12) ≤ (t274.size : Int) then (if x6_1.size + (t274.extract ((ji12) : Int).toNat t274.size).size ≤ 9223372036854775807 then (if 0 < ((t274.extract ((ji12) : Int).toNat t274.size).size : Int) then ((impl_Frame_pot.f x273000_1 x273001_1 x273002_1).bind fun bt275 => (impl_Frame_whole.l0 k1 true (x6_1 ++ (t274.extract ((ji12) : Int).toNat t274.size)) (wrap64 (x7_1 + (((bt (t274.extract ((ji12) : Int).toNat t274.size) 0) - 48) % 256))) bt275.1 bt275.2.1 bt275.2.2)) else (none)) else (none)) else (none)) else (none)) = some (r1, r2) := by first | (rw [hji12] at H; exact H) | (simp only [hji12] at H ⊢; exact H)
       (try rw [hji12] at A4)
       (try rw [hji12] at A8)
       have hji12w : (IntKind.i64.wrap ((t274.size : Int) - 1)) = ji12 := (i64_w _).trans hji12
       by_cases c13 : 0 ≤ (ji12)
       ·rw [if_pos c13] at H
        have c13b0 := eq_true c13
        have c13b1 : decide (0 ≤ (ji12)) = true := decide_eq_true c13
        clear c13
        by_cases c14 : (ji12) ≤ (t274.size : Int)
        ·rw [if_pos c14] at H
         have c14b0 := eq_true c14
         have c14b1 : decide ((ji12) ≤ (t274.size : Int)) = true := decide_eq_true c14
         clear c14
         by_cases c15 : x6_1.size + (t274.extract ((ji12) : Int).toNat t274.size).size ≤ 9223372036854775807
         ·rw [if_pos c15] at H
          have c15b0 := eq_true c15
          have c15b1 : decide (x6_1.size + (t274.extract ((ji12) : Int).toNat t274.size).size ≤ 9223372036854775807) = true := decide_eq_true c15
          try have c15b2 : (9223372036854775807 < x6_1.size + (t274.extract ((ji12) : Int).toNat t274.size).size) = False := eq_false (Nat.not_lt.2 c15)
          by_cases c16 : 0 < ((t274.extract ((ji12) : Int).toNat t274.size).size : Int)
          ·rw [if_pos c16] at H
           have c16b0 : decide (0 < ((t274.extract ((ji12) : Int).toNat t274.size).size : Int)) = true := decide_eq_true c16
           have c16b1 : decide (0 < (t274.extract ((ji12) : Int).toNat t274.size).size) = true := decide_eq_true (by omega)
           have c16b1x := of_decide_eq_true c16b1
           simp only [ByteArray.size_extract, Nat.min_self, Nat.sub_zero] at c16b1x
           clear c16
           replace H := Option.bind_eq_some_iff.mp H
           obtain ⟨⟨t275, t276, t277⟩, A180, H⟩ := H
           (try dsimp only at H)
           have A18 := Aside0.mk A180
           clear A180
           have H' := Aside0.mk H
           clear H
           obtain ⟨hcz19_0, hcz19_1, hcz19_2, hfz19_0, hfz19_1, hfz19_2⟩ := b3U BK272
           go_wp2_with (first | ((with_reducible refine gate_callee (f := 80) rfl ?_); refine goU (some 11) Tryz.func80 #[.agg #[.int .i64 x273000_1, .bool x273001_1, .int .i64 x273002_1]] ?_; (with_reducible refine (impl_Frame_next.calls x273000_1 x273001_1 x273002_1 t273 _ A4.out).mono ?_); rintro e w20 ⟨rfl, hb⟩; refine ⟨_, rfl, ?_⟩; have n0_ := bbU BK272 hb; have n1_ := bsU hb; clear BK272; clear HB; have BK272 := n0_; have HB := n1_; clear n0_ n1_; (try clear hb); (try clear hb2); (try clear hk); (try clear hi); obtain ⟨hcz21_0, hcz21_1, hcz21_2, hfz21_0, hfz21_1, hfz21_2⟩ := b3U BK272) | ((with_reducible refine gate_callee (f := 80) rfl ?_); refine goU (some 14) Tryz.func80 #[.agg #[.int .i64 x273000_1, .bool x273001_1, .int .i64 x273002_1]] ?_; (with_reducible refine (impl_Frame_next.calls x273000_1 x273001_1 x273002_1 t274 _ A8.out).mono ?_); rintro e w22 ⟨rfl, hb⟩; refine ⟨_, rfl, ?_⟩; have n0_ := bbU BK272 hb; have n1_ := bsU hb; clear BK272; clear HB; have BK272 := n0_; have HB := n1_; clear n0_ n1_; (try clear hb); (try clear hb2); (try clear hk); (try clear hi); have p17 : 0 ≤ (0 : Int) := (by omega); have q17 : 0 < (t274.extract ((ji12) : Int).toNat t274.size).size := (by have : (0 : Int) < ((t274.extract ((ji12) : Int).toNat t274.size).size : Int) := of_decide_eq_true (by first | (with_reducible assumption) | assumption); omega); have hx17 : ∀ h : 0 < (t274.extract ((ji12) : Int).toNat t274.size).size, (((t274.extract ((ji12) : Int).toNat t274.size)[0]'h).toNat : Int) = bt (t274.extract ((ji12) : Int).toNat t274.size) 0 := bt_at (t274.extract ((ji12) : Int).toNat t274.size) 0; clear p17; have qi17 : (0 < ((t274.extract ((ji12) : Int).toNat t274.size).size : Int)) = True := eq_true (of_decide_eq_true (by first | (with_reducible assumption) | assumption)); replace q17 := eq_true q17; obtain ⟨hcz23_0, hcz23_1, hcz23_2, hfz23_0, hfz23_1, hfz23_2⟩ := b3U BK272) | ((with_reducible refine gate_callee (f := 90) rfl ?_); refine goU (some 33) Tryz.func90 #[.agg #[.int .i64 x273000_1, .bool x273001_1, .int .i64 x273002_1]] ?_; (with_reducible refine (impl_Frame_pot.calls x273000_1 x273001_1 x273002_1 t275 t276 t277 _ A18.out).mono ?_); rintro e w24 ⟨rfl, hb⟩; refine ⟨_, rfl, ?_⟩; have n0_ := bbU BK272 hb; have n1_ := bsU hb; clear BK272; clear HB; have BK272 := n0_; have HB := n1_; clear n0_ n1_; (try clear hb); (try clear hb2); (try clear hk); (try clear hi); obtain ⟨hcz25_0, hcz25_1, hcz25_2, hfz25_0, hfz25_1, hfz25_2⟩ := b3U BK272))
           go_roundg k1
           case measure => have := HK1.out; omega
           case rel => exact ⟨(x6_1 ++ (t274.extract ((ji12) : Int).toNat t274.size)), (wrap64 (x7_1 + (((bt (t274.extract ((ji12) : Int).toNat t274.size) 0) - 48) % 256))), (t275), (t276), (t277), (by first | rfl | (simp; done) | (simp only [← hji12] <;> (first | rfl | simp)) | (simp [*]; done)), (by first | rfl | (simp; done) | (simp only [← hji12] <;> (first | rfl | simp)) | (simp [*]; done)), H', ⟨by have := HK1.out; omega⟩, ⟨bkU⟩, ⟨hbU⟩⟩
          ·rw [if_neg c16] at H
           exact absurd H (by simp)
         ·rw [if_neg c15] at H
          exact absurd H (by simp)
        ·rw [if_neg c14] at H
         exact absurd H (by simp)
       ·rw [if_neg c13] at H
        exact absurd H (by simp)
      ·replace c11 := Bool.eq_false_iff.mpr c11
       subst c11
       rw [if_neg (show ¬ (false = true) by decide)] at H
       by_cases c26 : x6_1.size + (t274.extract 0 1).size ≤ 9223372036854775807
       ·rw [if_pos c26] at H
        have c26b0 := eq_true c26
        have c26b1 : decide (x6_1.size + (t274.extract 0 1).size ≤ 9223372036854775807) = true := decide_eq_true c26
        try have c26b2 : (9223372036854775807 < x6_1.size + (t274.extract 0 1).size) = False := eq_false (Nat.not_lt.2 c26)
        by_cases c27 : 0 < ((t274.extract 0 1).size : Int)
        ·rw [if_pos c27] at H
         have c27b0 : decide (0 < ((t274.extract 0 1).size : Int)) = true := decide_eq_true c27
         have c27b1 : decide (0 < (t274.extract 0 1).size) = true := decide_eq_true (by omega)
         have c27b1x := of_decide_eq_true c27b1
         simp only [ByteArray.size_extract, Nat.min_self, Nat.sub_zero] at c27b1x
         clear c27
         replace H := Option.bind_eq_some_iff.mp H
         obtain ⟨⟨t278, t279, t280⟩, A290, H⟩ := H
         (try dsimp only at H)
         have A29 := Aside0.mk A290
         clear A290
         have H' := Aside0.mk H
         clear H
         obtain ⟨hcz30_0, hcz30_1, hcz30_2, hfz30_0, hfz30_1, hfz30_2⟩ := b3U BK272
         go_wp2_with (first | ((with_reducible refine gate_callee (f := 80) rfl ?_); refine goU (some 11) Tryz.func80 #[.agg #[.int .i64 x273000_1, .bool x273001_1, .int .i64 x273002_1]] ?_; (with_reducible refine (impl_Frame_next.calls x273000_1 x273001_1 x273002_1 t273 _ A4.out).mono ?_); rintro e w31 ⟨rfl, hb⟩; refine ⟨_, rfl, ?_⟩; have n0_ := bbU BK272 hb; have n1_ := bsU hb; clear BK272; clear HB; have BK272 := n0_; have HB := n1_; clear n0_ n1_; (try clear hb); (try clear hb2); (try clear hk); (try clear hi); obtain ⟨hcz32_0, hcz32_1, hcz32_2, hfz32_0, hfz32_1, hfz32_2⟩ := b3U BK272) | ((with_reducible refine gate_callee (f := 80) rfl ?_); refine goU (some 14) Tryz.func80 #[.agg #[.int .i64 x273000_1, .bool x273001_1, .int .i64 x273002_1]] ?_; (with_reducible refine (impl_Frame_next.calls x273000_1 x273001_1 x273002_1 t274 _ A8.out).mono ?_); rintro e w33 ⟨rfl, hb⟩; refine ⟨_, rfl, ?_⟩; have n0_ := bbU BK272 hb; have n1_ := bsU hb; clear BK272; clear HB; have BK272 := n0_; have HB := n1_; clear n0_ n1_; (try clear hb); (try clear hb2); (try clear hk); (try clear hi); have p28 : 0 ≤ (0 : Int) := (by omega); have q28 : 0 < (t274.extract 0 1).size := (by have : (0 : Int) < ((t274.extract 0 1).size : Int) := of_decide_eq_true (by first | (with_reducible assumption) | assumption); omega); have hx28 : ∀ h : 0 < (t274.extract 0 1).size, (((t274.extract 0 1)[0]'h).toNat : Int) = bt (t274.extract 0 1) 0 := bt_at (t274.extract 0 1) 0; clear p28; have qi28 : (0 < ((t274.extract 0 1).size : Int)) = True := eq_true (of_decide_eq_true (by first | (with_reducible assumption) | assumption)); replace q28 := eq_true q28; obtain ⟨hcz34_0, hcz34_1, hcz34_2, hfz34_0, hfz34_1, hfz34_2⟩ := b3U BK272) | ((with_reducible refine gate_callee (f := 90) rfl ?_); refine goU (some 33) Tryz.func90 #[.agg #[.int .i64 x273000_1, .bool x273001_1, .int .i64 x273002_1]] ?_; (with_reducible refine (impl_Frame_pot.calls x273000_1 x273001_1 x273002_1 t278 t279 t280 _ A29.out).mono ?_); rintro e w35 ⟨rfl, hb⟩; refine ⟨_, rfl, ?_⟩; have n0_ := bbU BK272 hb; have n1_ := bsU hb; clear BK272; clear HB; have BK272 := n0_; have HB := n1_; clear n0_ n1_; (try clear hb); (try clear hb2); (try clear hk); (try clear hi); obtain ⟨hcz36_0, hcz36_1, hcz36_2, hfz36_0, hfz36_1, hfz36_2⟩ := b3U BK272))
         go_roundg k1
         case measure => have := HK1.out; omega
         case rel => exact ⟨(x6_1 ++ (t274.extract 0 1)), (wrap64 (x7_1 + (((bt (t274.extract 0 1) 0) - 48) % 256))), (t278), (t279), (t280), eqU, eqU, H', ⟨by have := HK1.out; omega⟩, ⟨bkU⟩, ⟨hbU⟩⟩
        ·rw [if_neg c27] at H
         exact absurd H (by simp)
       ·rw [if_neg c26] at H
        exact absurd H (by simp)
     ·rw [if_neg c10] at H
      exact absurd H (by simp)
    ·rw [if_neg c9] at H
     exact absurd H (by simp)
def impl_HighestBreak.f (k : Nat) (a0_0 : Int) (a0_1 : Bool) (a0_2 : Int) : Option (ByteArray × Int × Bool) := (impl_IsFrame.f k a0_0 a0_1 a0_2).bind fun t282 => (if t282 = true then ((impl_Frame_whole.f k a0_0 a0_1 a0_2 true).bind fun bt283 => (some (bt283.1, bt283.2, true))) else (some ((⟨#[]⟩ : ByteArray), 0, false)))
theorem impl_HighestBreak.mono : ∀ a0 a1 a2 k, LeO (impl_HighestBreak.f k a0 a1 a2) (impl_HighestBreak.f (k + 1) a0 a1 a2) := by
 intro a0 a1 a2 k
 unfold impl_HighestBreak.f
 repeat' first
   | (with_reducible exact impl_Frame_whole.mono _ _ _ _ _)
   | (with_reducible exact impl_IsFrame.mono _ _ _ _)
   | (with_reducible exact LeO.refl _)
   | (with_reducible exact LeO.none _)
   | (with_reducible refine LeO.ite ?_ ?_)
   | (with_reducible refine LeO.bind ?_ (fun _ => ?_))
   | exact impl_Frame_whole.mono _ _ _ _ _
   | exact impl_IsFrame.mono _ _ _ _
   | exact LeO.none _
   | refine LeO.ite ?_ ?_
   | refine LeO.bind ?_ (fun _ => ?_)
set_option maxHeartbeats 8000000 in
set_option maxRecDepth 100000 in
theorem impl_HighestBreak.calls (k : Nat) (a0_0 : Int) (a0_1 : Bool) (a0_2 : Int) (r1 : ByteArray) (r2 : Int) (r3 : Bool) (w : World) (h : impl_HighestBreak.f k a0_0 a0_1 a0_2 = some (r1, r2, r3)) :
  Calls Tryz.prog 13 #[.agg #[.int .i64 a0_0, .bool a0_1, .int .i64 a0_2]] w fun e w' => e = .returned (.tuple #[.string r1, .int .i64 r2, .bool r3]) ∧ Below w.heap.size w w' := by
 have hu25 := Tryz.underlying25
 have HB := Aside0.mk (Below.refl w.heap.size w)
 have H : ((impl_IsFrame.f k a0_0 a0_1 a0_2).bind fun t282 => (if t282 = true then ((impl_Frame_whole.f k a0_0 a0_1 a0_2 true).bind fun bt283 => (some (bt283.1, bt283.2, true))) else (some ((⟨#[]⟩ : ByteArray), 0, false)))) = some (r1, r2, r3) := h
 clear h
 replace H := Option.bind_eq_some_iff.mp H
 obtain ⟨t282, A20, H⟩ := H
 (try dsimp only at H)
 have A2 := Aside0.mk A20
 clear A20
 by_cases c3 : t282 = true
 ·subst c3
  rw [if_pos rfl] at H
  replace H := Option.bind_eq_some_iff.mp H
  obtain ⟨⟨t283, t284⟩, A40, H⟩ := H
  (try dsimp only at H)
  have A4 := Aside0.mk A40
  clear A40
  simp only [Option.some.injEq, Prod.mk.injEq] at H
  obtain ⟨rfl, rfl, rfl⟩ := H
  go_enter Tryz.func13, Tryz.ntmps13
  go_wp2_with (first | ((with_reducible refine gate_dst (N := 1) rfl ?_); refine bxU (cs := #[.int .i64 a0_0, .bool a0_1, .int .i64 a0_2]) (t := 25) ?_; intro gb281 hg w5 hbox hb; have n0_ := bsU hb; have n1_ := Aside0.mk (hbox); have n2_ := geU hg; have n3_ := geU hg; clear HB; have HB := n0_; have BK281 := n1_; have GW281 := n2_; have GE281 := n3_; clear n0_ n1_ n2_ n3_; clear hb hbox hg; obtain ⟨hcz6_0, hcz6_1, hcz6_2, hfz6_0, hfz6_1, hfz6_2⟩ := b3U BK281) | ((with_reducible refine gate_callee (f := 25) rfl ?_); refine goU (some 8) Tryz.func25 #[.agg #[.int .i64 a0_0, .bool a0_1, .int .i64 a0_2]] ?_; (with_reducible refine (impl_IsFrame.calls k a0_0 a0_1 a0_2 true _ A2.out).mono ?_); rintro e w7 ⟨rfl, hb⟩; refine ⟨_, rfl, ?_⟩; have n0_ := bbU BK281 hb; have n1_ := bsU hb; clear BK281; clear HB; have BK281 := n0_; have HB := n1_; clear n0_ n1_; (try clear hb); (try clear hb2); (try clear hk); (try clear hi); obtain ⟨hcz8_0, hcz8_1, hcz8_2, hfz8_0, hfz8_1, hfz8_2⟩ := b3U BK281) | ((with_reducible refine gate_callee (f := 82) rfl ?_); refine goU (some 12) Tryz.func82 #[.agg #[.int .i64 a0_0, .bool a0_1, .int .i64 a0_2], .bool true] ?_; (with_reducible refine (impl_Frame_whole.calls k a0_0 a0_1 a0_2 true t283 t284 _ A4.out).mono ?_); rintro e w9 ⟨rfl, hb⟩; refine ⟨_, rfl, ?_⟩; have n0_ := bbU BK281 hb; have n1_ := bsU hb; clear BK281; clear HB; have BK281 := n0_; have HB := n1_; clear n0_ n1_; (try clear hb); (try clear hb2); (try clear hk); (try clear hi)))
  go_ret3
  exact ⟨by first | rfl | (simp [errW_none, errW_some] <;> rfl) | (simp [*, errW_none, errW_some] <;> rfl), hbU⟩
 ·replace c3 := Bool.eq_false_iff.mpr c3
  subst c3
  rw [if_neg (show ¬ (false = true) by decide)] at H
  simp only [Option.some.injEq, Prod.mk.injEq] at H
  obtain ⟨rfl, rfl, rfl⟩ := H
  go_enter Tryz.func13, Tryz.ntmps13
  go_wp2_with (first | ((with_reducible refine gate_dst (N := 1) rfl ?_); refine bxU (cs := #[.int .i64 a0_0, .bool a0_1, .int .i64 a0_2]) (t := 25) ?_; intro gb281 hg w10 hbox hb; have n0_ := bsU hb; have n1_ := Aside0.mk (hbox); have n2_ := geU hg; have n3_ := geU hg; clear HB; have HB := n0_; have BK281 := n1_; have GW281 := n2_; have GE281 := n3_; clear n0_ n1_ n2_ n3_; clear hb hbox hg; obtain ⟨hcz11_0, hcz11_1, hcz11_2, hfz11_0, hfz11_1, hfz11_2⟩ := b3U BK281) | ((with_reducible refine gate_callee (f := 25) rfl ?_); refine goU (some 8) Tryz.func25 #[.agg #[.int .i64 a0_0, .bool a0_1, .int .i64 a0_2]] ?_; (with_reducible refine (impl_IsFrame.calls k a0_0 a0_1 a0_2 false _ A2.out).mono ?_); rintro e w12 ⟨rfl, hb⟩; refine ⟨_, rfl, ?_⟩; have n0_ := bbU BK281 hb; have n1_ := bsU hb; clear BK281; clear HB; have BK281 := n0_; have HB := n1_; clear n0_ n1_; (try clear hb); (try clear hb2); (try clear hk); (try clear hi)))
  go_ret3
  exact ⟨by first | rfl | (simp [errW_none, errW_some] <;> rfl) | (simp [*, errW_none, errW_some] <;> rfl), hbU⟩
def spec_frAll.l0 : Nat → Int → ByteArray → ByteArray → Int → Bool → Int → Option (ByteArray)
 | 0, _, _, _, _, _, _ => none
 | k + 1, x1, x5, x6, x286000, x286001, x286002 => if x6.toList = ([] : List UInt8) then (some x5) else (if 0 < (x6.size : Int) then (if x286001 = true then (if x5.size + (Utf8.encode (wrap32 (x1))).size ≤ 9223372036854775807 then ((spec_frPot.f k x286000 x286001 x286002 x1).bind fun bt287 => ((spec_frNext.f k bt287.1 bt287.2.1 bt287.2.2.1).bind fun t291 => (spec_frAll.l0 k x1 (x5 ++ (Utf8.encode (wrap32 (x1)))) t291 bt287.1 bt287.2.1 bt287.2.2.1))) else (none)) else (if x5.size + (Utf8.encode (wrap32 (bt x6 0))).size ≤ 9223372036854775807 then ((spec_frPot.f k x286000 x286001 x286002 (bt x6 0)).bind fun bt292 => ((spec_frNext.f k bt292.1 bt292.2.1 bt292.2.2.1).bind fun t296 => (spec_frAll.l0 k x1 (x5 ++ (Utf8.encode (wrap32 (bt x6 0)))) t296 bt292.1 bt292.2.1 bt292.2.2.1))) else (none))) else (none))
def spec_frAll.f (k : Nat) (a0_0 : Int) (a0_1 : Bool) (a0_2 : Int) (a1 : Int) : Option (ByteArray) := (spec_frNext.f k a0_0 a0_1 a0_2).bind fun t286 => (spec_frAll.l0 k a1 (⟨#[]⟩ : ByteArray) t286 a0_0 a0_1 a0_2)
theorem spec_frAll.mono_l : ∀ k, (∀ y0 y1 y2 y3 y4 y5, LeO (spec_frAll.l0 k y0 y1 y2 y3 y4 y5) (spec_frAll.l0 (k + 1) y0 y1 y2 y3 y4 y5))
 | 0 => fun _ _ _ _ _ _ r h => by simp [spec_frAll.l0] at h
 | k + 1 => by
  have ih0 := spec_frAll.mono_l k
  ·intro y0 y1 y2 y3 y4 y5
   unfold spec_frAll.l0
   repeat' first
   | (with_reducible exact ih0 _ _ _ _ _ _)
   | (with_reducible exact spec_frNext.mono _ _ _ _)
   | (with_reducible exact spec_frPot.mono _ _ _ _ _)
   | (with_reducible exact LeO.refl _)
   | (with_reducible exact LeO.none _)
   | (with_reducible refine LeO.ite ?_ ?_)
   | (with_reducible refine LeO.bind ?_ (fun _ => ?_))
   | exact ih0 _ _ _ _ _ _
   | exact spec_frNext.mono _ _ _ _
   | exact spec_frPot.mono _ _ _ _ _
   | exact LeO.none _
   | refine LeO.ite ?_ ?_
   | refine LeO.bind ?_ (fun _ => ?_)
theorem spec_frAll.mono : ∀ a0 a1 a2 a3 k, LeO (spec_frAll.f k a0 a1 a2 a3) (spec_frAll.f (k + 1) a0 a1 a2 a3) := by
 intro a0 a1 a2 a3 k
 have ih0 := spec_frAll.mono_l k
 unfold spec_frAll.f
 repeat' first
   | (with_reducible exact ih0 _ _ _ _ _ _)
   | (with_reducible exact spec_frNext.mono _ _ _ _)
   | (with_reducible exact spec_frPot.mono _ _ _ _ _)
   | (with_reducible exact LeO.refl _)
   | (with_reducible exact LeO.none _)
   | (with_reducible refine LeO.ite ?_ ?_)
   | (with_reducible refine LeO.bind ?_ (fun _ => ?_))
   | exact ih0 _ _ _ _ _ _
   | exact spec_frNext.mono _ _ _ _
   | exact spec_frPot.mono _ _ _ _ _
   | exact LeO.none _
   | refine LeO.ite ?_ ?_
   | refine LeO.bind ?_ (fun _ => ?_)
set_option maxHeartbeats 8000000 in
set_option maxRecDepth 100000 in
theorem spec_frAll.calls (k : Nat) (a0_0 : Int) (a0_1 : Bool) (a0_2 : Int) (a1 : Int) (r : ByteArray) (w : World) (h : spec_frAll.f k a0_0 a0_1 a0_2 a1 = some r) :
  Calls Tryz.prog 83 #[.agg #[.int .i64 a0_0, .bool a0_1, .int .i64 a0_2], .int .u8 a1] w fun e w' => e = .returned (.string r) ∧ Below w.heap.size w w' := by
 have hu25 := Tryz.underlying25
 have HB := Aside0.mk (Below.refl w.heap.size w)
 have H : ((spec_frNext.f k a0_0 a0_1 a0_2).bind fun t286 => (spec_frAll.l0 k a1 (⟨#[]⟩ : ByteArray) t286 a0_0 a0_1 a0_2)) = some r := h
 clear h
 replace H := Option.bind_eq_some_iff.mp H
 obtain ⟨t286, A30, H⟩ := H
 (try dsimp only at H)
 have A3 := Aside0.mk A30
 clear A30
 have H' := Aside0.mk H
 clear H
 go_enter Tryz.func83, Tryz.ntmps83
 go_wp2_with (first | ((with_reducible refine gate_dst (N := 2) rfl ?_); refine bxU (cs := #[.int .i64 a0_0, .bool a0_1, .int .i64 a0_2]) (t := 25) ?_; intro gb285 hg w4 hbox hb; have n0_ := bsU hb; have n1_ := Aside0.mk (hbox); have n2_ := geU hg; have n3_ := geU hg; clear HB; have HB := n0_; have BK285 := n1_; have GW285 := n2_; have GE285 := n3_; clear n0_ n1_ n2_ n3_; clear hb hbox hg; obtain ⟨hcz5_0, hcz5_1, hcz5_2, hfz5_0, hfz5_1, hfz5_2⟩ := b3U BK285) | ((with_reducible refine gate_callee (f := 81) rfl ?_); refine goU (some 9) Tryz.func81 #[.agg #[.int .i64 a0_0, .bool a0_1, .int .i64 a0_2]] ?_; (with_reducible refine (spec_frNext.calls k a0_0 a0_1 a0_2 t286 _ A3.out).mono ?_); rintro e w6 ⟨rfl, hb⟩; refine ⟨_, rfl, ?_⟩; have n0_ := bbU BK285 hb; have n1_ := bsU hb; clear BK285; clear HB; have BK285 := n0_; have HB := n1_; clear n0_ n1_; (try clear hb); (try clear hb2); (try clear hk); (try clear hi)))
 go_loopg [5, 6] k (fun kq v5 v6 w' => ∃ (x5_1 : ByteArray) (x6_1 : ByteArray) (x286000_1 : Int) (x286001_1 : Bool) (x286002_1 : Int), v5 = .string x5_1 ∧ v6 = .string x6_1 ∧ Aside0 (spec_frAll.l0 kq a1 x5_1 x6_1 x286000_1 x286001_1 x286002_1 = some r) ∧ Aside0 (kq ≤ k) ∧ Aside0 (w'.heap[gb285]? = some (.cells #[.int .i64 x286000_1, .bool x286001_1, .int .i64 x286002_1] 25 (0, 0))) ∧ Aside0 (Below w.heap.size w w'))
 case atStart => exact ⟨((⟨#[]⟩ : ByteArray)), (t286), (a0_0), (a0_1), (a0_2), eqU, eqU, H', ⟨Nat.le_refl _⟩, ⟨bkU⟩, ⟨hbU⟩⟩
 case round =>
  clear H'
  (try clear hcz5_0); (try clear hcz5_1); (try clear hcz5_2); (try clear hfz5_0); (try clear hfz5_1); (try clear hfz5_2)
  obtain ⟨x5_1, x6_1, x286000_1, x286001_1, x286002_1, rfl, rfl, HA, HK1, BK285, HB⟩ := hrel
  cases gk with
  | zero => exact absurd HA.out (by simp [spec_frAll.l0])
  | succ k1 =>
   have H := HA.out
   clear HA
   simp only [spec_frAll.l0] at H
   by_cases c7 : x6_1.toList = ([] : List UInt8)
   ·rw [if_pos c7] at H
    have c7b0 : (x6_1.toList == ([] : List UInt8)) = true := beq_iff_eq.mpr c7
    have c7b1 : (x6_1.toList != ([] : List UInt8)) = false := bne_eq_false_iff_eq.mpr c7
    clear c7
    obtain rfl := Option.some.inj H
    go_wp2
    go_ret
    exact ⟨by first | rfl | (simp [errW_none, errW_some] <;> rfl) | (simp [*, errW_none, errW_some] <;> rfl), hbU⟩
   ·rw [if_neg c7] at H
    have c7b0 : (x6_1.toList == ([] : List UInt8)) = false := beq_eq_false_iff_ne.mpr c7
    have c7b1 : (x6_1.toList != ([] : List UInt8)) = true := bne_iff_ne.mpr c7
    by_cases c8 : 0 < (x6_1.size : Int)
    ·rw [if_pos c8] at H
     have c8b0 : decide (0 < (x6_1.size : Int)) = true := decide_eq_true c8
     have c8b1 : decide (0 < x6_1.size) = true := decide_eq_true (by omega)
     clear c8
     by_cases c10 : x286001_1 = true
     ·subst c10
      rw [if_pos rfl] at H
      by_cases c11 : x5_1.size + (Utf8.encode (wrap32 (a1))).size ≤ 9223372036854775807
      ·rw [if_pos c11] at H
       have c11b0 := eq_true c11
       have c11b1 : decide (x5_1.size + (Utf8.encode (wrap32 (a1))).size ≤ 9223372036854775807) = true := decide_eq_true c11
       try have c11b2 : (9223372036854775807 < x5_1.size + (Utf8.encode (wrap32 (a1))).size) = False := eq_false (Nat.not_lt.2 c11)
       replace H := Option.bind_eq_some_iff.mp H
       obtain ⟨⟨t287, t288, t289, t290⟩, A120, H⟩ := H
       (try dsimp only at H)
       have A12 := Aside0.mk A120
       clear A120
       replace H := Option.bind_eq_some_iff.mp H
       obtain ⟨t291, A130, H⟩ := H
       (try dsimp only at H)
       have A13 := Aside0.mk A130
       clear A130
       have H' := Aside0.mk H
       clear H
       have p9 : 0 ≤ (0 : Int) := (by omega)
       have q9 : 0 < x6_1.size := (by have : (0 : Int) < (x6_1.size : Int) := of_decide_eq_true (by first | (with_reducible assumption) | assumption); omega)
       have hx9 : ∀ h : 0 < x6_1.size, ((x6_1[0]'h).toNat : Int) = bt x6_1 0 := bt_at x6_1 0
       clear p9
       have qi9 : (0 < (x6_1.size : Int)) = True := eq_true (of_decide_eq_true (by first | (with_reducible assumption) | assumption))
       replace q9 := eq_true q9
       obtain ⟨hcz14_0, hcz14_1, hcz14_2, hfz14_0, hfz14_1, hfz14_2⟩ := b3U BK285
       go_wp2_with (first | ((with_reducible refine gate_callee (f := 94) rfl ?_); refine goU (some 27) Tryz.func94 #[.agg #[.int .i64 x286000_1, .bool true, .int .i64 x286002_1], .int .u8 a1] ?_; (with_reducible refine (spec_frPot.calls k1 x286000_1 true x286002_1 a1 t287 t288 t289 t290 _ A12.out).mono ?_); rintro e w15 ⟨rfl, hb⟩; refine ⟨_, rfl, ?_⟩; have n0_ := bbU BK285 hb; have n1_ := bsU hb; clear BK285; clear HB; have BK285 := n0_; have HB := n1_; clear n0_ n1_; (try clear hb); (try clear hb2); (try clear hk); (try clear hi); obtain ⟨hcz16_0, hcz16_1, hcz16_2, hfz16_0, hfz16_1, hfz16_2⟩ := b3U BK285) | ((with_reducible refine gate_callee (f := 81) rfl ?_); refine goU (some 13) Tryz.func81 #[.agg #[.int .i64 t287, .bool t288, .int .i64 t289]] ?_; (with_reducible refine (spec_frNext.calls k1 t287 t288 t289 t291 _ A13.out).mono ?_); rintro e w17 ⟨rfl, hb⟩; refine ⟨_, rfl, ?_⟩; have n0_ := Aside0.mk (blk_below (g := gb285) (o := .cells #[.int .i64 t287, .bool t288, .int .i64 t289] 25 (0, 0)) bkU hb); have n1_ := bsU hb; clear BK285; clear HB; have BK285 := n0_; have HB := n1_; clear n0_ n1_; (try clear hb); (try clear hb2); (try clear hk); (try clear hi)))
       go_roundg k1
       case measure => have := HK1.out; omega
       case rel => exact ⟨(x5_1 ++ (Utf8.encode (wrap32 (a1)))), (t291), (t287), (t288), (t289), eqU, eqU, H', ⟨by have := HK1.out; omega⟩, ⟨bkU⟩, ⟨hbU⟩⟩
      ·rw [if_neg c11] at H
       exact absurd H (by simp)
     ·replace c10 := Bool.eq_false_iff.mpr c10
      subst c10
      rw [if_neg (show ¬ (false = true) by decide)] at H
      by_cases c18 : x5_1.size + (Utf8.encode (wrap32 (bt x6_1 0))).size ≤ 9223372036854775807
      ·rw [if_pos c18] at H
       have c18b0 := eq_true c18
       have c18b1 : decide (x5_1.size + (Utf8.encode (wrap32 (bt x6_1 0))).size ≤ 9223372036854775807) = true := decide_eq_true c18
       try have c18b2 : (9223372036854775807 < x5_1.size + (Utf8.encode (wrap32 (bt x6_1 0))).size) = False := eq_false (Nat.not_lt.2 c18)
       replace H := Option.bind_eq_some_iff.mp H
       obtain ⟨⟨t292, t293, t294, t295⟩, A190, H⟩ := H
       (try dsimp only at H)
       have A19 := Aside0.mk A190
       clear A190
       replace H := Option.bind_eq_some_iff.mp H
       obtain ⟨t296, A200, H⟩ := H
       (try dsimp only at H)
       have A20 := Aside0.mk A200
       clear A200
       have H' := Aside0.mk H
       clear H
       have p9 : 0 ≤ (0 : Int) := (by omega)
       have q9 : 0 < x6_1.size := (by have : (0 : Int) < (x6_1.size : Int) := of_decide_eq_true (by first | (with_reducible assumption) | assumption); omega)
       have hx9 : ∀ h : 0 < x6_1.size, ((x6_1[0]'h).toNat : Int) = bt x6_1 0 := bt_at x6_1 0
       clear p9
       have qi9 : (0 < (x6_1.size : Int)) = True := eq_true (of_decide_eq_true (by first | (with_reducible assumption) | assumption))
       replace q9 := eq_true q9
       obtain ⟨hcz21_0, hcz21_1, hcz21_2, hfz21_0, hfz21_1, hfz21_2⟩ := b3U BK285
       go_wp2_with (first | ((with_reducible refine gate_callee (f := 94) rfl ?_); refine goU (some 27) Tryz.func94 #[.agg #[.int .i64 x286000_1, .bool false, .int .i64 x286002_1], .int .u8 (bt x6_1 0)] ?_; (with_reducible refine (spec_frPot.calls k1 x286000_1 false x286002_1 (bt x6_1 0) t292 t293 t294 t295 _ A19.out).mono ?_); rintro e w22 ⟨rfl, hb⟩; refine ⟨_, rfl, ?_⟩; have n0_ := bbU BK285 hb; have n1_ := bsU hb; clear BK285; clear HB; have BK285 := n0_; have HB := n1_; clear n0_ n1_; (try clear hb); (try clear hb2); (try clear hk); (try clear hi); obtain ⟨hcz23_0, hcz23_1, hcz23_2, hfz23_0, hfz23_1, hfz23_2⟩ := b3U BK285) | ((with_reducible refine gate_callee (f := 81) rfl ?_); refine goU (some 13) Tryz.func81 #[.agg #[.int .i64 t292, .bool t293, .int .i64 t294]] ?_; (with_reducible refine (spec_frNext.calls k1 t292 t293 t294 t296 _ A20.out).mono ?_); rintro e w24 ⟨rfl, hb⟩; refine ⟨_, rfl, ?_⟩; have n0_ := Aside0.mk (blk_below (g := gb285) (o := .cells #[.int .i64 t292, .bool t293, .int .i64 t294] 25 (0, 0)) bkU hb); have n1_ := bsU hb; clear BK285; clear HB; have BK285 := n0_; have HB := n1_; clear n0_ n1_; (try clear hb); (try clear hb2); (try clear hk); (try clear hi)))
       go_roundg k1
       case measure => have := HK1.out; omega
       case rel => exact ⟨(x5_1 ++ (Utf8.encode (wrap32 (bt x6_1 0)))), (t296), (t292), (t293), (t294), eqU, eqU, H', ⟨by have := HK1.out; omega⟩, ⟨bkU⟩, ⟨hbU⟩⟩
      ·rw [if_neg c18] at H
       exact absurd H (by simp)
    ·rw [if_neg c8] at H
     exact absurd H (by simp)
def spec_frPoints.l0 : Nat → ByteArray → Int → Int → Option (Int)
 | 0, _, _, _ => none
 | k + 1, x0, x3, x4 => if x4 < (x0.size : Int) then (if 0 ≤ x4 then (spec_frPoints.l0 k x0 (wrap64 (x3 + (((bt x0 x4) - 48) % 256))) (wrap64 (x4 + 1))) else (none)) else (some x3)
def spec_frPoints.f (k : Nat) (a0 : ByteArray) : Option (Int) := spec_frPoints.l0 k a0 0 0
theorem spec_frPoints.mono_l : ∀ k, (∀ y0 y1 y2, LeO (spec_frPoints.l0 k y0 y1 y2) (spec_frPoints.l0 (k + 1) y0 y1 y2))
 | 0 => fun _ _ _ r h => by simp [spec_frPoints.l0] at h
 | k + 1 => by
  have ih0 := spec_frPoints.mono_l k
  ·intro y0 y1 y2
   unfold spec_frPoints.l0
   repeat' first
   | (with_reducible exact ih0 _ _ _)
   | (with_reducible exact LeO.refl _)
   | (with_reducible exact LeO.none _)
   | (with_reducible refine LeO.ite ?_ ?_)
   | (with_reducible refine LeO.bind ?_ (fun _ => ?_))
   | exact ih0 _ _ _
   | exact LeO.none _
   | refine LeO.ite ?_ ?_
   | refine LeO.bind ?_ (fun _ => ?_)
theorem spec_frPoints.mono : ∀ a0 k, LeO (spec_frPoints.f k a0) (spec_frPoints.f (k + 1) a0) := by
 intro a0 k
 have ih0 := spec_frPoints.mono_l k
 unfold spec_frPoints.f
 repeat' first
   | (with_reducible exact ih0 _ _ _)
   | (with_reducible exact LeO.refl _)
   | (with_reducible exact LeO.none _)
   | (with_reducible refine LeO.ite ?_ ?_)
   | (with_reducible refine LeO.bind ?_ (fun _ => ?_))
   | exact ih0 _ _ _
   | exact LeO.none _
   | refine LeO.ite ?_ ?_
   | refine LeO.bind ?_ (fun _ => ?_)
set_option maxHeartbeats 8000000 in
set_option maxRecDepth 100000 in
theorem spec_frPoints.calls (k : Nat) (a0 : ByteArray) (r : Int) (w : World) (h : spec_frPoints.f k a0 = some r) :
  Calls Tryz.prog 84 #[.string a0] w fun e w' => e = .returned (.int .i64 r) ∧ Drawn0 w w' := by
 have H : (spec_frPoints.l0 k a0 0 0) = some r := h
 clear h
 have H' := Aside0.mk H
 clear H
 go_enter Tryz.func84, Tryz.ntmps84
 go_wp2
 go_loopg [3, 4] k (fun kq v3 v4 w' => ∃ (x3_1 : Int) (x4_1 : Int), v3 = .int .i64 x3_1 ∧ v4 = .int .i64 x4_1 ∧ Aside0 (spec_frPoints.l0 kq a0 x3_1 x4_1 = some r) ∧ Aside0 (kq ≤ k) ∧ Drawn0 w w')
 case atStart => exact ⟨(0), (0), eqU, eqU, H', ⟨Nat.le_refl _⟩, by repeat (first | exact Drawn0.refl _ | apply Drawn0.step)⟩
 case round =>
  clear H'
  obtain ⟨x3_1, x4_1, rfl, rfl, HA, HK1, ⟨m1, rfl⟩⟩ := hrel
  cases gk with
  | zero => exact absurd HA.out (by simp [spec_frPoints.l0])
  | succ k1 =>
   have H := HA.out
   clear HA
   simp only [spec_frPoints.l0] at H
   by_cases c2 : x4_1 < (a0.size : Int)
   ·rw [if_pos c2] at H
    have c2b0 : decide (x4_1 < (a0.size : Int)) = true := decide_eq_true c2
    clear c2
    by_cases c3 : 0 ≤ x4_1
    ·rw [if_pos c3] at H
     have c3b0 : decide (0 ≤ x4_1) = true := decide_eq_true c3
     clear c3
     have H' := Aside0.mk H
     clear H
     have p4 : 0 ≤ (x4_1 : Int) := of_decide_eq_true (by first | (with_reducible assumption) | assumption)
     have q4 : x4_1 < (a0.size : Int) := of_decide_eq_true (by first | (with_reducible assumption) | assumption)
     have hx4 := bt_at a0 x4_1
     replace p4 := eq_true p4
     replace q4 := eq_true q4
     go_wp2
     go_roundg k1
     case measure => have := HK1.out; omega
     case rel => exact ⟨(wrap64 (x3_1 + (((bt a0 x4_1) - 48) % 256))), (wrap64 (x4_1 + 1)), eqU, eqU, H', ⟨by have := HK1.out; omega⟩, by repeat (first | exact Drawn0.refl _ | apply Drawn0.step)⟩
    ·rw [if_neg c3] at H
     exact absurd H (by simp)
   ·rw [if_neg c2] at H
    have c2b0 : decide (x4_1 < (a0.size : Int)) = false := decide_eq_false c2
    clear c2
    obtain rfl := Option.some.inj H
    go_wp2
    go_ret
    exact ⟨by first | rfl | (simp; done) | (simp [*]; done), by repeat (first | exact Drawn0.refl _ | apply Drawn0.step)⟩
def spec_HighestBreak.f (k : Nat) (a0_0 : Int) (a0_1 : Bool) (a0_2 : Int) : Option (ByteArray × Int × Bool) := (spec_frGood.f a0_0 a0_1 a0_2).bind fun t298 => (if t298 = true then ((spec_frAll.f k a0_0 a0_1 a0_2 55).bind fun t299 => ((spec_frPoints.f k t299).bind fun t300 => (some (t299, t300, true)))) else (some ((⟨#[]⟩ : ByteArray), 0, false)))
theorem spec_HighestBreak.mono : ∀ a0 a1 a2 k, LeO (spec_HighestBreak.f k a0 a1 a2) (spec_HighestBreak.f (k + 1) a0 a1 a2) := by
 intro a0 a1 a2 k
 unfold spec_HighestBreak.f
 repeat' first
   | (with_reducible exact spec_frAll.mono _ _ _ _ _)
   | (with_reducible exact spec_frPoints.mono _ _)
   | (with_reducible exact LeO.refl _)
   | (with_reducible exact LeO.none _)
   | (with_reducible refine LeO.ite ?_ ?_)
   | (with_reducible refine LeO.bind ?_ (fun _ => ?_))
   | exact spec_frAll.mono _ _ _ _ _
   | exact spec_frPoints.mono _ _
   | exact LeO.none _
   | refine LeO.ite ?_ ?_
   | refine LeO.bind ?_ (fun _ => ?_)
set_option maxHeartbeats 8000000 in
set_option maxRecDepth 100000 in
theorem spec_HighestBreak.calls (k : Nat) (a0_0 : Int) (a0_1 : Bool) (a0_2 : Int) (r1 : ByteArray) (r2 : Int) (r3 : Bool) (w : World) (h : spec_HighestBreak.f k a0_0 a0_1 a0_2 = some (r1, r2, r3)) :
  Calls Tryz.prog 14 #[.agg #[.int .i64 a0_0, .bool a0_1, .int .i64 a0_2]] w fun e w' => e = .returned (.tuple #[.string r1, .int .i64 r2, .bool r3]) ∧ Below w.heap.size w w' := by
 have hu25 := Tryz.underlying25
 have HB := Aside0.mk (Below.refl w.heap.size w)
 have H : ((spec_frGood.f a0_0 a0_1 a0_2).bind fun t298 => (if t298 = true then ((spec_frAll.f k a0_0 a0_1 a0_2 55).bind fun t299 => ((spec_frPoints.f k t299).bind fun t300 => (some (t299, t300, true)))) else (some ((⟨#[]⟩ : ByteArray), 0, false)))) = some (r1, r2, r3) := h
 clear h
 replace H := Option.bind_eq_some_iff.mp H
 obtain ⟨t298, A20, H⟩ := H
 (try dsimp only at H)
 have A2 := Aside0.mk A20
 clear A20
 by_cases c3 : t298 = true
 ·subst c3
  rw [if_pos rfl] at H
  replace H := Option.bind_eq_some_iff.mp H
  obtain ⟨t299, A40, H⟩ := H
  (try dsimp only at H)
  have A4 := Aside0.mk A40
  clear A40
  replace H := Option.bind_eq_some_iff.mp H
  obtain ⟨t300, A50, H⟩ := H
  (try dsimp only at H)
  have A5 := Aside0.mk A50
  clear A50
  simp only [Option.some.injEq, Prod.mk.injEq] at H
  obtain ⟨rfl, rfl, rfl⟩ := H
  go_enter Tryz.func14, Tryz.ntmps14
  go_wp2_with (first | ((with_reducible refine gate_dst (N := 1) rfl ?_); refine bxU (cs := #[.int .i64 a0_0, .bool a0_1, .int .i64 a0_2]) (t := 25) ?_; intro gb297 hg w6 hbox hb; have n0_ := bsU hb; have n1_ := Aside0.mk (hbox); have n2_ := geU hg; have n3_ := geU hg; clear HB; have HB := n0_; have BK297 := n1_; have GW297 := n2_; have GE297 := n3_; clear n0_ n1_ n2_ n3_; clear hb hbox hg; obtain ⟨hcz7_0, hcz7_1, hcz7_2, hfz7_0, hfz7_1, hfz7_2⟩ := b3U BK297) | ((with_reducible refine gate_callee (f := 78) rfl ?_); refine goU (some 7) Tryz.func78 #[.agg #[.int .i64 a0_0, .bool a0_1, .int .i64 a0_2]] ?_; (with_reducible refine (spec_frGood.calls a0_0 a0_1 a0_2 true _ A2.out).mono ?_); rintro e w8 ⟨rfl, hb⟩; refine ⟨_, rfl, ?_⟩; have n0_ := bbU BK297 hb; have n1_ := bsU hb; clear BK297; clear HB; have BK297 := n0_; have HB := n1_; clear n0_ n1_; (try clear hb); (try clear hb2); (try clear hk); (try clear hi); obtain ⟨hcz9_0, hcz9_1, hcz9_2, hfz9_0, hfz9_1, hfz9_2⟩ := b3U BK297) | ((with_reducible refine gate_callee (f := 83) rfl ?_); refine goU (some 10) Tryz.func83 #[.agg #[.int .i64 a0_0, .bool a0_1, .int .i64 a0_2], .int .u8 55] ?_; (with_reducible refine (spec_frAll.calls k a0_0 a0_1 a0_2 55 t299 _ A4.out).mono ?_); rintro e w10 ⟨rfl, hb⟩; refine ⟨_, rfl, ?_⟩; have n0_ := bbU BK297 hb; have n1_ := bsU hb; clear BK297; clear HB; have BK297 := n0_; have HB := n1_; clear n0_ n1_; (try clear hb); (try clear hb2); (try clear hk); (try clear hi)) | ((with_reducible refine gate_callee (f := 84) rfl ?_); refine goU (some 13) Tryz.func84 #[.string t299] ?_; (with_reducible refine (spec_frPoints.calls k t299 t300 _ A5.out).mono ?_); rintro e w' ⟨rfl, ⟨nd, rfl⟩⟩; refine ⟨_, rfl, ?_⟩))
  go_ret3
  exact ⟨by first | rfl | (simp [errW_none, errW_some] <;> rfl) | (simp [*, errW_none, errW_some] <;> rfl), hbU⟩
 ·replace c3 := Bool.eq_false_iff.mpr c3
  subst c3
  rw [if_neg (show ¬ (false = true) by decide)] at H
  simp only [Option.some.injEq, Prod.mk.injEq] at H
  obtain ⟨rfl, rfl, rfl⟩ := H
  go_enter Tryz.func14, Tryz.ntmps14
  go_wp2_with (first | ((with_reducible refine gate_dst (N := 1) rfl ?_); refine bxU (cs := #[.int .i64 a0_0, .bool a0_1, .int .i64 a0_2]) (t := 25) ?_; intro gb297 hg w11 hbox hb; have n0_ := bsU hb; have n1_ := Aside0.mk (hbox); have n2_ := geU hg; have n3_ := geU hg; clear HB; have HB := n0_; have BK297 := n1_; have GW297 := n2_; have GE297 := n3_; clear n0_ n1_ n2_ n3_; clear hb hbox hg; obtain ⟨hcz12_0, hcz12_1, hcz12_2, hfz12_0, hfz12_1, hfz12_2⟩ := b3U BK297) | ((with_reducible refine gate_callee (f := 78) rfl ?_); refine goU (some 7) Tryz.func78 #[.agg #[.int .i64 a0_0, .bool a0_1, .int .i64 a0_2]] ?_; (with_reducible refine (spec_frGood.calls a0_0 a0_1 a0_2 false _ A2.out).mono ?_); rintro e w13 ⟨rfl, hb⟩; refine ⟨_, rfl, ?_⟩; have n0_ := bbU BK297 hb; have n1_ := bsU hb; clear BK297; clear HB; have BK297 := n0_; have HB := n1_; clear n0_ n1_; (try clear hb); (try clear hb2); (try clear hk); (try clear hi)))
  go_ret3
  exact ⟨by first | rfl | (simp [errW_none, errW_some] <;> rfl) | (simp [*, errW_none, errW_some] <;> rfl), hbU⟩
def impl_LeastBreak.f (k : Nat) (a0_0 : Int) (a0_1 : Bool) (a0_2 : Int) : Option (Int × Bool) := (impl_IsFrame.f k a0_0 a0_1 a0_2).bind fun t302 => (if t302 = true then ((impl_Frame_whole.f k a0_0 a0_1 a0_2 false).bind fun bt303 => (some (bt303.2, true))) else (some (0, false)))
theorem impl_LeastBreak.mono : ∀ a0 a1 a2 k, LeO (impl_LeastBreak.f k a0 a1 a2) (impl_LeastBreak.f (k + 1) a0 a1 a2) := by
 intro a0 a1 a2 k
 unfold impl_LeastBreak.f
 repeat' first
   | (with_reducible exact impl_Frame_whole.mono _ _ _ _ _)
   | (with_reducible exact impl_IsFrame.mono _ _ _ _)
   | (with_reducible exact LeO.refl _)
   | (with_reducible exact LeO.none _)
   | (with_reducible refine LeO.ite ?_ ?_)
   | (with_reducible refine LeO.bind ?_ (fun _ => ?_))
   | exact impl_Frame_whole.mono _ _ _ _ _
   | exact impl_IsFrame.mono _ _ _ _
   | exact LeO.none _
   | refine LeO.ite ?_ ?_
   | refine LeO.bind ?_ (fun _ => ?_)
set_option maxHeartbeats 8000000 in
set_option maxRecDepth 100000 in
theorem impl_LeastBreak.calls (k : Nat) (a0_0 : Int) (a0_1 : Bool) (a0_2 : Int) (r1 : Int) (r2 : Bool) (w : World) (h : impl_LeastBreak.f k a0_0 a0_1 a0_2 = some (r1, r2)) :
  Calls Tryz.prog 15 #[.agg #[.int .i64 a0_0, .bool a0_1, .int .i64 a0_2]] w fun e w' => e = .returned (.tuple #[.int .i64 r1, .bool r2]) ∧ Below w.heap.size w w' := by
 have hu25 := Tryz.underlying25
 have HB := Aside0.mk (Below.refl w.heap.size w)
 have H : ((impl_IsFrame.f k a0_0 a0_1 a0_2).bind fun t302 => (if t302 = true then ((impl_Frame_whole.f k a0_0 a0_1 a0_2 false).bind fun bt303 => (some (bt303.2, true))) else (some (0, false)))) = some (r1, r2) := h
 clear h
 replace H := Option.bind_eq_some_iff.mp H
 obtain ⟨t302, A20, H⟩ := H
 (try dsimp only at H)
 have A2 := Aside0.mk A20
 clear A20
 by_cases c3 : t302 = true
 ·subst c3
  rw [if_pos rfl] at H
  replace H := Option.bind_eq_some_iff.mp H
  obtain ⟨⟨t303, t304⟩, A40, H⟩ := H
  (try dsimp only at H)
  have A4 := Aside0.mk A40
  clear A40
  simp only [Option.some.injEq, Prod.mk.injEq] at H
  obtain ⟨rfl, rfl⟩ := H
  go_enter Tryz.func15, Tryz.ntmps15
  go_wp2_with (first | ((with_reducible refine gate_dst (N := 1) rfl ?_); refine bxU (cs := #[.int .i64 a0_0, .bool a0_1, .int .i64 a0_2]) (t := 25) ?_; intro gb301 hg w5 hbox hb; have n0_ := bsU hb; have n1_ := Aside0.mk (hbox); have n2_ := geU hg; have n3_ := geU hg; clear HB; have HB := n0_; have BK301 := n1_; have GW301 := n2_; have GE301 := n3_; clear n0_ n1_ n2_ n3_; clear hb hbox hg; obtain ⟨hcz6_0, hcz6_1, hcz6_2, hfz6_0, hfz6_1, hfz6_2⟩ := b3U BK301) | ((with_reducible refine gate_callee (f := 25) rfl ?_); refine goU (some 7) Tryz.func25 #[.agg #[.int .i64 a0_0, .bool a0_1, .int .i64 a0_2]] ?_; (with_reducible refine (impl_IsFrame.calls k a0_0 a0_1 a0_2 true _ A2.out).mono ?_); rintro e w7 ⟨rfl, hb⟩; refine ⟨_, rfl, ?_⟩; have n0_ := bbU BK301 hb; have n1_ := bsU hb; clear BK301; clear HB; have BK301 := n0_; have HB := n1_; clear n0_ n1_; (try clear hb); (try clear hb2); (try clear hk); (try clear hi); obtain ⟨hcz8_0, hcz8_1, hcz8_2, hfz8_0, hfz8_1, hfz8_2⟩ := b3U BK301) | ((with_reducible refine gate_callee (f := 82) rfl ?_); refine goU (some 11) Tryz.func82 #[.agg #[.int .i64 a0_0, .bool a0_1, .int .i64 a0_2], .bool false] ?_; (with_reducible refine (impl_Frame_whole.calls k a0_0 a0_1 a0_2 false t303 t304 _ A4.out).mono ?_); rintro e w9 ⟨rfl, hb⟩; refine ⟨_, rfl, ?_⟩; have n0_ := bbU BK301 hb; have n1_ := bsU hb; clear BK301; clear HB; have BK301 := n0_; have HB := n1_; clear n0_ n1_; (try clear hb); (try clear hb2); (try clear hk); (try clear hi)))
  go_ret2
  exact ⟨by first | rfl | (simp [errW_none, errW_some] <;> rfl) | (simp [*, errW_none, errW_some] <;> rfl), hbU⟩
 ·replace c3 := Bool.eq_false_iff.mpr c3
  subst c3
  rw [if_neg (show ¬ (false = true) by decide)] at H
  simp only [Option.some.injEq, Prod.mk.injEq] at H
  obtain ⟨rfl, rfl⟩ := H
  go_enter Tryz.func15, Tryz.ntmps15
  go_wp2_with (first | ((with_reducible refine gate_dst (N := 1) rfl ?_); refine bxU (cs := #[.int .i64 a0_0, .bool a0_1, .int .i64 a0_2]) (t := 25) ?_; intro gb301 hg w10 hbox hb; have n0_ := bsU hb; have n1_ := Aside0.mk (hbox); have n2_ := geU hg; have n3_ := geU hg; clear HB; have HB := n0_; have BK301 := n1_; have GW301 := n2_; have GE301 := n3_; clear n0_ n1_ n2_ n3_; clear hb hbox hg; obtain ⟨hcz11_0, hcz11_1, hcz11_2, hfz11_0, hfz11_1, hfz11_2⟩ := b3U BK301) | ((with_reducible refine gate_callee (f := 25) rfl ?_); refine goU (some 7) Tryz.func25 #[.agg #[.int .i64 a0_0, .bool a0_1, .int .i64 a0_2]] ?_; (with_reducible refine (impl_IsFrame.calls k a0_0 a0_1 a0_2 false _ A2.out).mono ?_); rintro e w12 ⟨rfl, hb⟩; refine ⟨_, rfl, ?_⟩; have n0_ := bbU BK301 hb; have n1_ := bsU hb; clear BK301; clear HB; have BK301 := n0_; have HB := n1_; clear n0_ n1_; (try clear hb); (try clear hb2); (try clear hk); (try clear hi)))
  go_ret2
  exact ⟨by first | rfl | (simp [errW_none, errW_some] <;> rfl) | (simp [*, errW_none, errW_some] <;> rfl), hbU⟩
def spec_LeastBreak.f (k : Nat) (a0_0 : Int) (a0_1 : Bool) (a0_2 : Int) : Option (Int × Bool) := (spec_frGood.f a0_0 a0_1 a0_2).bind fun t306 => (if t306 = true then ((spec_frAll.f k a0_0 a0_1 a0_2 50).bind fun t307 => ((spec_frPoints.f k t307).bind fun t308 => (some (t308, true)))) else (some (0, false)))
theorem spec_LeastBreak.mono : ∀ a0 a1 a2 k, LeO (spec_LeastBreak.f k a0 a1 a2) (spec_LeastBreak.f (k + 1) a0 a1 a2) := by
 intro a0 a1 a2 k
 unfold spec_LeastBreak.f
 repeat' first
   | (with_reducible exact spec_frAll.mono _ _ _ _ _)
   | (with_reducible exact spec_frPoints.mono _ _)
   | (with_reducible exact LeO.refl _)
   | (with_reducible exact LeO.none _)
   | (with_reducible refine LeO.ite ?_ ?_)
   | (with_reducible refine LeO.bind ?_ (fun _ => ?_))
   | exact spec_frAll.mono _ _ _ _ _
   | exact spec_frPoints.mono _ _
   | exact LeO.none _
   | refine LeO.ite ?_ ?_
   | refine LeO.bind ?_ (fun _ => ?_)
set_option maxHeartbeats 8000000 in
set_option maxRecDepth 100000 in
theorem spec_LeastBreak.calls (k : Nat) (a0_0 : Int) (a0_1 : Bool) (a0_2 : Int) (r1 : Int) (r2 : Bool) (w : World) (h : spec_LeastBreak.f k a0_0 a0_1 a0_2 = some (r1, r2)) :
  Calls Tryz.prog 16 #[.agg #[.int .i64 a0_0, .bool a0_1, .int .i64 a0_2]] w fun e w' => e = .returned (.tuple #[.int .i64 r1, .bool r2]) ∧ Below w.heap.size w w' := by
 have hu25 := Tryz.underlying25
 have HB := Aside0.mk (Below.refl w.heap.size w)
 have H : ((spec_frGood.f a0_0 a0_1 a0_2).bind fun t306 => (if t306 = true then ((spec_frAll.f k a0_0 a0_1 a0_2 50).bind fun t307 => ((spec_frPoints.f k t307).bind fun t308 => (some (t308, true)))) else (some (0, false)))) = some (r1, r2) := h
 clear h
 replace H := Option.bind_eq_some_iff.mp H
 obtain ⟨t306, A20, H⟩ := H
 (try dsimp only at H)
 have A2 := Aside0.mk A20
 clear A20
 by_cases c3 : t306 = true
 ·subst c3
  rw [if_pos rfl] at H
  replace H := Option.bind_eq_some_iff.mp H
  obtain ⟨t307, A40, H⟩ := H
  (try dsimp only at H)
  have A4 := Aside0.mk A40
  clear A40
  replace H := Option.bind_eq_some_iff.mp H
  obtain ⟨t308, A50, H⟩ := H
  (try dsimp only at H)
  have A5 := Aside0.mk A50
  clear A50
  simp only [Option.some.injEq, Prod.mk.injEq] at H
  obtain ⟨rfl, rfl⟩ := H
  go_enter Tryz.func16, Tryz.ntmps16
  go_wp2_with (first | ((with_reducible refine gate_dst (N := 1) rfl ?_); refine bxU (cs := #[.int .i64 a0_0, .bool a0_1, .int .i64 a0_2]) (t := 25) ?_; intro gb305 hg w6 hbox hb; have n0_ := bsU hb; have n1_ := Aside0.mk (hbox); have n2_ := geU hg; have n3_ := geU hg; clear HB; have HB := n0_; have BK305 := n1_; have GW305 := n2_; have GE305 := n3_; clear n0_ n1_ n2_ n3_; clear hb hbox hg; obtain ⟨hcz7_0, hcz7_1, hcz7_2, hfz7_0, hfz7_1, hfz7_2⟩ := b3U BK305) | ((with_reducible refine gate_callee (f := 78) rfl ?_); refine goU (some 5) Tryz.func78 #[.agg #[.int .i64 a0_0, .bool a0_1, .int .i64 a0_2]] ?_; (with_reducible refine (spec_frGood.calls a0_0 a0_1 a0_2 true _ A2.out).mono ?_); rintro e w8 ⟨rfl, hb⟩; refine ⟨_, rfl, ?_⟩; have n0_ := bbU BK305 hb; have n1_ := bsU hb; clear BK305; clear HB; have BK305 := n0_; have HB := n1_; clear n0_ n1_; (try clear hb); (try clear hb2); (try clear hk); (try clear hi); obtain ⟨hcz9_0, hcz9_1, hcz9_2, hfz9_0, hfz9_1, hfz9_2⟩ := b3U BK305) | ((with_reducible refine gate_callee (f := 83) rfl ?_); refine goU (some 8) Tryz.func83 #[.agg #[.int .i64 a0_0, .bool a0_1, .int .i64 a0_2], .int .u8 50] ?_; (with_reducible refine (spec_frAll.calls k a0_0 a0_1 a0_2 50 t307 _ A4.out).mono ?_); rintro e w10 ⟨rfl, hb⟩; refine ⟨_, rfl, ?_⟩; have n0_ := bbU BK305 hb; have n1_ := bsU hb; clear BK305; clear HB; have BK305 := n0_; have HB := n1_; clear n0_ n1_; (try clear hb); (try clear hb2); (try clear hk); (try clear hi)) | ((with_reducible refine gate_callee (f := 84) rfl ?_); refine goU (some 9) Tryz.func84 #[.string t307] ?_; (with_reducible refine (spec_frPoints.calls k t307 t308 _ A5.out).mono ?_); rintro e w' ⟨rfl, ⟨nd, rfl⟩⟩; refine ⟨_, rfl, ?_⟩))
  go_ret2
  exact ⟨by first | rfl | (simp [errW_none, errW_some] <;> rfl) | (simp [*, errW_none, errW_some] <;> rfl), hbU⟩
 ·replace c3 := Bool.eq_false_iff.mpr c3
  subst c3
  rw [if_neg (show ¬ (false = true) by decide)] at H
  simp only [Option.some.injEq, Prod.mk.injEq] at H
  obtain ⟨rfl, rfl⟩ := H
  go_enter Tryz.func16, Tryz.ntmps16
  go_wp2_with (first | ((with_reducible refine gate_dst (N := 1) rfl ?_); refine bxU (cs := #[.int .i64 a0_0, .bool a0_1, .int .i64 a0_2]) (t := 25) ?_; intro gb305 hg w11 hbox hb; have n0_ := bsU hb; have n1_ := Aside0.mk (hbox); have n2_ := geU hg; have n3_ := geU hg; clear HB; have HB := n0_; have BK305 := n1_; have GW305 := n2_; have GE305 := n3_; clear n0_ n1_ n2_ n3_; clear hb hbox hg; obtain ⟨hcz12_0, hcz12_1, hcz12_2, hfz12_0, hfz12_1, hfz12_2⟩ := b3U BK305) | ((with_reducible refine gate_callee (f := 78) rfl ?_); refine goU (some 5) Tryz.func78 #[.agg #[.int .i64 a0_0, .bool a0_1, .int .i64 a0_2]] ?_; (with_reducible refine (spec_frGood.calls a0_0 a0_1 a0_2 false _ A2.out).mono ?_); rintro e w13 ⟨rfl, hb⟩; refine ⟨_, rfl, ?_⟩; have n0_ := bbU BK305 hb; have n1_ := bsU hb; clear BK305; clear HB; have BK305 := n0_; have HB := n1_; clear n0_ n1_; (try clear hb); (try clear hb2); (try clear hk); (try clear hi)))
  go_ret2
  exact ⟨by first | rfl | (simp [errW_none, errW_some] <;> rfl) | (simp [*, errW_none, errW_some] <;> rfl), hbU⟩
end Go.Proofs.YtcmlmjgoidpabaaGreatDoor.MFnFramesPotted

