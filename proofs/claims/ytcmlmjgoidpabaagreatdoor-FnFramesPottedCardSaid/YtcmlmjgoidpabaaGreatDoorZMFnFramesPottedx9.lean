/- Walks of the functions that the law reaches: each comes to just what the function that is told of it tells, for all arguments. -/
import Derived.Test.YtcmlmjgoidpabaaGreatDoorZMFnFramesPottedx0
import Derived.Test.YtcmlmjgoidpabaaGreatDoorZMFnFramesPottedx2
import Derived.Test.YtcmlmjgoidpabaaGreatDoorZMFnFramesPottedx3
import Derived.Test.YtcmlmjgoidpabaaGreatDoorZMFnFramesPottedx5
import Derived.Test.YtcmlmjgoidpabaaGreatDoorZMFnFramesPottedx8
namespace Go.Proofs.YtcmlmjgoidpabaaGreatDoor.MFnFramesPotted
open Go.RowKit Go.Proofs.YtcmlmjgoidpabaaGreatDoorW.PrintWords Go.Proofs.YtcmlmjgoidpabaaGreatDoorW.PrintLast Go.Proofs.YtcmlmjgoidpabaaGreatDoorW.PrintMore
attribute [local go_sem] max2_int min2_int max_two min_two max_three min_three max_four min_four
set_option linter.unusedVariables false
set_option linter.unusedSimpArgs false
def impl_PointsLeft.f (k : Nat) (a0_0 : Int) (a0_1 : Bool) (a0_2 : Int) : Option (Int × Bool) := (impl_HighestBreak.f k a0_0 a0_1 a0_2).bind fun bt310 => (some (bt310.2.1, bt310.2.2))
theorem impl_PointsLeft.mono : ∀ a0 a1 a2 k, LeO (impl_PointsLeft.f k a0 a1 a2) (impl_PointsLeft.f (k + 1) a0 a1 a2) := by
 intro a0 a1 a2 k
 unfold impl_PointsLeft.f
 repeat' first
   | (with_reducible exact impl_HighestBreak.mono _ _ _ _)
   | (with_reducible exact LeO.refl _)
   | (with_reducible exact LeO.none _)
   | (with_reducible refine LeO.ite ?_ ?_)
   | (with_reducible refine LeO.bind ?_ (fun _ => ?_))
   | exact impl_HighestBreak.mono _ _ _ _
   | exact LeO.none _
   | refine LeO.ite ?_ ?_
   | refine LeO.bind ?_ (fun _ => ?_)
set_option maxHeartbeats 8000000 in
set_option maxRecDepth 100000 in
theorem impl_PointsLeft.calls (k : Nat) (a0_0 : Int) (a0_1 : Bool) (a0_2 : Int) (r1 : Int) (r2 : Bool) (w : World) (h : impl_PointsLeft.f k a0_0 a0_1 a0_2 = some (r1, r2)) :
  Calls Tryz.prog 17 #[.agg #[.int .i64 a0_0, .bool a0_1, .int .i64 a0_2]] w fun e w' => e = .returned (.tuple #[.int .i64 r1, .bool r2]) ∧ Below w.heap.size w w' := by
 have hu25 := Tryz.underlying25
 have HB := Aside0.mk (Below.refl w.heap.size w)
 have H : ((impl_HighestBreak.f k a0_0 a0_1 a0_2).bind fun bt310 => (some (bt310.2.1, bt310.2.2))) = some (r1, r2) := h
 clear h
 replace H := Option.bind_eq_some_iff.mp H
 obtain ⟨⟨t310, t311, t312⟩, A20, H⟩ := H
 (try dsimp only at H)
 have A2 := Aside0.mk A20
 clear A20
 simp only [Option.some.injEq, Prod.mk.injEq] at H
 obtain ⟨rfl, rfl⟩ := H
 go_enter Tryz.func17, Tryz.ntmps17
 go_wp2_with (first | ((with_reducible refine gate_dst (N := 1) rfl ?_); refine bxU (cs := #[.int .i64 a0_0, .bool a0_1, .int .i64 a0_2]) (t := 25) ?_; intro gb309 hg w3 hbox hb; have n0_ := bsU hb; have n1_ := Aside0.mk (hbox); have n2_ := geU hg; have n3_ := geU hg; clear HB; have HB := n0_; have BK309 := n1_; have GW309 := n2_; have GE309 := n3_; clear n0_ n1_ n2_ n3_; clear hb hbox hg; obtain ⟨hcz4_0, hcz4_1, hcz4_2, hfz4_0, hfz4_1, hfz4_2⟩ := b3U BK309) | ((with_reducible refine gate_callee (f := 13) rfl ?_); refine goU (some 9) Tryz.func13 #[.agg #[.int .i64 a0_0, .bool a0_1, .int .i64 a0_2]] ?_; (with_reducible refine (impl_HighestBreak.calls k a0_0 a0_1 a0_2 t310 t311 t312 _ A2.out).mono ?_); rintro e w5 ⟨rfl, hb⟩; refine ⟨_, rfl, ?_⟩; have n0_ := bbU BK309 hb; have n1_ := bsU hb; clear BK309; clear HB; have BK309 := n0_; have HB := n1_; clear n0_ n1_; (try clear hb); (try clear hb2); (try clear hk); (try clear hi)))
 go_ret2
 exact ⟨by first | rfl | (simp [errW_none, errW_some] <;> rfl) | (simp [*, errW_none, errW_some] <;> rfl), hbU⟩
def spec_PointsLeft.f (k : Nat) (a0_0 : Int) (a0_1 : Bool) (a0_2 : Int) : Option (Int × Bool) := (spec_frGood.f a0_0 a0_1 a0_2).bind fun t314 => (if t314 = true then ((spec_frAll.f k a0_0 a0_1 a0_2 55).bind fun t315 => ((spec_frPoints.f k t315).bind fun t316 => (some (t316, true)))) else (some (0, false)))
theorem spec_PointsLeft.mono : ∀ a0 a1 a2 k, LeO (spec_PointsLeft.f k a0 a1 a2) (spec_PointsLeft.f (k + 1) a0 a1 a2) := by
 intro a0 a1 a2 k
 unfold spec_PointsLeft.f
 repeat' first
   | (with_reducible exact spec_frAll.mono _ _ _ _ _)
   | (with_reducible exact spec_frPoints.mono _ _)
   | (with_reducible exact LeO.refl _)
   | (with_reducible exact LeO.none _)
   | (with_reducible refine LeO.ite ?_ ?_)
   | (with_reducible refine LeO.bind ?_ (fun _ => ?_))
   | exact spec_frAll.mono _ _ _ _ _
   | exact spec_frPoints.mono _ _
   | exact LeO.none _
   | refine LeO.ite ?_ ?_
   | refine LeO.bind ?_ (fun _ => ?_)
set_option maxHeartbeats 8000000 in
set_option maxRecDepth 100000 in
theorem spec_PointsLeft.calls (k : Nat) (a0_0 : Int) (a0_1 : Bool) (a0_2 : Int) (r1 : Int) (r2 : Bool) (w : World) (h : spec_PointsLeft.f k a0_0 a0_1 a0_2 = some (r1, r2)) :
  Calls Tryz.prog 18 #[.agg #[.int .i64 a0_0, .bool a0_1, .int .i64 a0_2]] w fun e w' => e = .returned (.tuple #[.int .i64 r1, .bool r2]) ∧ Below w.heap.size w w' := by
 have hu25 := Tryz.underlying25
 have HB := Aside0.mk (Below.refl w.heap.size w)
 have H : ((spec_frGood.f a0_0 a0_1 a0_2).bind fun t314 => (if t314 = true then ((spec_frAll.f k a0_0 a0_1 a0_2 55).bind fun t315 => ((spec_frPoints.f k t315).bind fun t316 => (some (t316, true)))) else (some (0, false)))) = some (r1, r2) := h
 clear h
 replace H := Option.bind_eq_some_iff.mp H
 obtain ⟨t314, A20, H⟩ := H
 (try dsimp only at H)
 have A2 := Aside0.mk A20
 clear A20
 by_cases c3 : t314 = true
 ·subst c3
  rw [if_pos rfl] at H
  replace H := Option.bind_eq_some_iff.mp H
  obtain ⟨t315, A40, H⟩ := H
  (try dsimp only at H)
  have A4 := Aside0.mk A40
  clear A40
  replace H := Option.bind_eq_some_iff.mp H
  obtain ⟨t316, A50, H⟩ := H
  (try dsimp only at H)
  have A5 := Aside0.mk A50
  clear A50
  simp only [Option.some.injEq, Prod.mk.injEq] at H
  obtain ⟨rfl, rfl⟩ := H
  go_enter Tryz.func18, Tryz.ntmps18
  go_wp2_with (first | ((with_reducible refine gate_dst (N := 1) rfl ?_); refine bxU (cs := #[.int .i64 a0_0, .bool a0_1, .int .i64 a0_2]) (t := 25) ?_; intro gb313 hg w6 hbox hb; have n0_ := bsU hb; have n1_ := Aside0.mk (hbox); have n2_ := geU hg; have n3_ := geU hg; clear HB; have HB := n0_; have BK313 := n1_; have GW313 := n2_; have GE313 := n3_; clear n0_ n1_ n2_ n3_; clear hb hbox hg; obtain ⟨hcz7_0, hcz7_1, hcz7_2, hfz7_0, hfz7_1, hfz7_2⟩ := b3U BK313) | ((with_reducible refine gate_callee (f := 78) rfl ?_); refine goU (some 5) Tryz.func78 #[.agg #[.int .i64 a0_0, .bool a0_1, .int .i64 a0_2]] ?_; (with_reducible refine (spec_frGood.calls a0_0 a0_1 a0_2 true _ A2.out).mono ?_); rintro e w8 ⟨rfl, hb⟩; refine ⟨_, rfl, ?_⟩; have n0_ := bbU BK313 hb; have n1_ := bsU hb; clear BK313; clear HB; have BK313 := n0_; have HB := n1_; clear n0_ n1_; (try clear hb); (try clear hb2); (try clear hk); (try clear hi); obtain ⟨hcz9_0, hcz9_1, hcz9_2, hfz9_0, hfz9_1, hfz9_2⟩ := b3U BK313) | ((with_reducible refine gate_callee (f := 83) rfl ?_); refine goU (some 8) Tryz.func83 #[.agg #[.int .i64 a0_0, .bool a0_1, .int .i64 a0_2], .int .u8 55] ?_; (with_reducible refine (spec_frAll.calls k a0_0 a0_1 a0_2 55 t315 _ A4.out).mono ?_); rintro e w10 ⟨rfl, hb⟩; refine ⟨_, rfl, ?_⟩; have n0_ := bbU BK313 hb; have n1_ := bsU hb; clear BK313; clear HB; have BK313 := n0_; have HB := n1_; clear n0_ n1_; (try clear hb); (try clear hb2); (try clear hk); (try clear hi)) | ((with_reducible refine gate_callee (f := 84) rfl ?_); refine goU (some 9) Tryz.func84 #[.string t315] ?_; (with_reducible refine (spec_frPoints.calls k t315 t316 _ A5.out).mono ?_); rintro e w' ⟨rfl, ⟨nd, rfl⟩⟩; refine ⟨_, rfl, ?_⟩))
  go_ret2
  exact ⟨by first | rfl | (simp [errW_none, errW_some] <;> rfl) | (simp [*, errW_none, errW_some] <;> rfl), hbU⟩
 ·replace c3 := Bool.eq_false_iff.mpr c3
  subst c3
  rw [if_neg (show ¬ (false = true) by decide)] at H
  simp only [Option.some.injEq, Prod.mk.injEq] at H
  obtain ⟨rfl, rfl⟩ := H
  go_enter Tryz.func18, Tryz.ntmps18
  go_wp2_with (first | ((with_reducible refine gate_dst (N := 1) rfl ?_); refine bxU (cs := #[.int .i64 a0_0, .bool a0_1, .int .i64 a0_2]) (t := 25) ?_; intro gb313 hg w11 hbox hb; have n0_ := bsU hb; have n1_ := Aside0.mk (hbox); have n2_ := geU hg; have n3_ := geU hg; clear HB; have HB := n0_; have BK313 := n1_; have GW313 := n2_; have GE313 := n3_; clear n0_ n1_ n2_ n3_; clear hb hbox hg; obtain ⟨hcz12_0, hcz12_1, hcz12_2, hfz12_0, hfz12_1, hfz12_2⟩ := b3U BK313) | ((with_reducible refine gate_callee (f := 78) rfl ?_); refine goU (some 5) Tryz.func78 #[.agg #[.int .i64 a0_0, .bool a0_1, .int .i64 a0_2]] ?_; (with_reducible refine (spec_frGood.calls a0_0 a0_1 a0_2 false _ A2.out).mono ?_); rintro e w13 ⟨rfl, hb⟩; refine ⟨_, rfl, ?_⟩; have n0_ := bbU BK313 hb; have n1_ := bsU hb; clear BK313; clear HB; have BK313 := n0_; have HB := n1_; clear n0_ n1_; (try clear hb); (try clear hb2); (try clear hk); (try clear hi)))
  go_ret2
  exact ⟨by first | rfl | (simp [errW_none, errW_some] <;> rfl) | (simp [*, errW_none, errW_some] <;> rfl), hbU⟩
def impl_BallsLeft.f (k : Nat) (a0_0 : Int) (a0_1 : Bool) (a0_2 : Int) : Option (Int × Bool) := (impl_HighestBreak.f k a0_0 a0_1 a0_2).bind fun bt318 => (some ((bt318.1.size : Int), bt318.2.2))
theorem impl_BallsLeft.mono : ∀ a0 a1 a2 k, LeO (impl_BallsLeft.f k a0 a1 a2) (impl_BallsLeft.f (k + 1) a0 a1 a2) := by
 intro a0 a1 a2 k
 unfold impl_BallsLeft.f
 repeat' first
   | (with_reducible exact impl_HighestBreak.mono _ _ _ _)
   | (with_reducible exact LeO.refl _)
   | (with_reducible exact LeO.none _)
   | (with_reducible refine LeO.ite ?_ ?_)
   | (with_reducible refine LeO.bind ?_ (fun _ => ?_))
   | exact impl_HighestBreak.mono _ _ _ _
   | exact LeO.none _
   | refine LeO.ite ?_ ?_
   | refine LeO.bind ?_ (fun _ => ?_)
set_option maxHeartbeats 8000000 in
set_option maxRecDepth 100000 in
theorem impl_BallsLeft.calls (k : Nat) (a0_0 : Int) (a0_1 : Bool) (a0_2 : Int) (r1 : Int) (r2 : Bool) (w : World) (h : impl_BallsLeft.f k a0_0 a0_1 a0_2 = some (r1, r2)) :
  Calls Tryz.prog 19 #[.agg #[.int .i64 a0_0, .bool a0_1, .int .i64 a0_2]] w fun e w' => e = .returned (.tuple #[.int .i64 r1, .bool r2]) ∧ Below w.heap.size w w' := by
 have hu25 := Tryz.underlying25
 have HB := Aside0.mk (Below.refl w.heap.size w)
 have H : ((impl_HighestBreak.f k a0_0 a0_1 a0_2).bind fun bt318 => (some ((bt318.1.size : Int), bt318.2.2))) = some (r1, r2) := h
 clear h
 replace H := Option.bind_eq_some_iff.mp H
 obtain ⟨⟨t318, t319, t320⟩, A20, H⟩ := H
 (try dsimp only at H)
 have A2 := Aside0.mk A20
 clear A20
 simp only [Option.some.injEq, Prod.mk.injEq] at H
 obtain ⟨rfl, rfl⟩ := H
 go_enter Tryz.func19, Tryz.ntmps19
 go_wp2_with (first | ((with_reducible refine gate_dst (N := 1) rfl ?_); refine bxU (cs := #[.int .i64 a0_0, .bool a0_1, .int .i64 a0_2]) (t := 25) ?_; intro gb317 hg w3 hbox hb; have n0_ := bsU hb; have n1_ := Aside0.mk (hbox); have n2_ := geU hg; have n3_ := geU hg; clear HB; have HB := n0_; have BK317 := n1_; have GW317 := n2_; have GE317 := n3_; clear n0_ n1_ n2_ n3_; clear hb hbox hg; obtain ⟨hcz4_0, hcz4_1, hcz4_2, hfz4_0, hfz4_1, hfz4_2⟩ := b3U BK317) | ((with_reducible refine gate_callee (f := 13) rfl ?_); refine goU (some 9) Tryz.func13 #[.agg #[.int .i64 a0_0, .bool a0_1, .int .i64 a0_2]] ?_; (with_reducible refine (impl_HighestBreak.calls k a0_0 a0_1 a0_2 t318 t319 t320 _ A2.out).mono ?_); rintro e w5 ⟨rfl, hb⟩; refine ⟨_, rfl, ?_⟩; have n0_ := bbU BK317 hb; have n1_ := bsU hb; clear BK317; clear HB; have BK317 := n0_; have HB := n1_; clear n0_ n1_; (try clear hb); (try clear hb2); (try clear hk); (try clear hi)))
 go_ret2
 exact ⟨by first | rfl | (simp [errW_none, errW_some] <;> rfl) | (simp [*, errW_none, errW_some] <;> rfl), hbU⟩
def spec_BallsLeft.f (k : Nat) (a0_0 : Int) (a0_1 : Bool) (a0_2 : Int) : Option (Int × Bool) := (spec_frGood.f a0_0 a0_1 a0_2).bind fun t322 => (if t322 = true then ((spec_frAll.f k a0_0 a0_1 a0_2 55).bind fun t323 => (some ((t323.size : Int), true))) else (some (0, false)))
theorem spec_BallsLeft.mono : ∀ a0 a1 a2 k, LeO (spec_BallsLeft.f k a0 a1 a2) (spec_BallsLeft.f (k + 1) a0 a1 a2) := by
 intro a0 a1 a2 k
 unfold spec_BallsLeft.f
 repeat' first
   | (with_reducible exact spec_frAll.mono _ _ _ _ _)
   | (with_reducible exact LeO.refl _)
   | (with_reducible exact LeO.none _)
   | (with_reducible refine LeO.ite ?_ ?_)
   | (with_reducible refine LeO.bind ?_ (fun _ => ?_))
   | exact spec_frAll.mono _ _ _ _ _
   | exact LeO.none _
   | refine LeO.ite ?_ ?_
   | refine LeO.bind ?_ (fun _ => ?_)
set_option maxHeartbeats 8000000 in
set_option maxRecDepth 100000 in
theorem spec_BallsLeft.calls (k : Nat) (a0_0 : Int) (a0_1 : Bool) (a0_2 : Int) (r1 : Int) (r2 : Bool) (w : World) (h : spec_BallsLeft.f k a0_0 a0_1 a0_2 = some (r1, r2)) :
  Calls Tryz.prog 20 #[.agg #[.int .i64 a0_0, .bool a0_1, .int .i64 a0_2]] w fun e w' => e = .returned (.tuple #[.int .i64 r1, .bool r2]) ∧ Below w.heap.size w w' := by
 have hu25 := Tryz.underlying25
 have HB := Aside0.mk (Below.refl w.heap.size w)
 have H : ((spec_frGood.f a0_0 a0_1 a0_2).bind fun t322 => (if t322 = true then ((spec_frAll.f k a0_0 a0_1 a0_2 55).bind fun t323 => (some ((t323.size : Int), true))) else (some (0, false)))) = some (r1, r2) := h
 clear h
 replace H := Option.bind_eq_some_iff.mp H
 obtain ⟨t322, A20, H⟩ := H
 (try dsimp only at H)
 have A2 := Aside0.mk A20
 clear A20
 by_cases c3 : t322 = true
 ·subst c3
  rw [if_pos rfl] at H
  replace H := Option.bind_eq_some_iff.mp H
  obtain ⟨t323, A40, H⟩ := H
  (try dsimp only at H)
  have A4 := Aside0.mk A40
  clear A40
  simp only [Option.some.injEq, Prod.mk.injEq] at H
  obtain ⟨rfl, rfl⟩ := H
  go_enter Tryz.func20, Tryz.ntmps20
  go_wp2_with (first | ((with_reducible refine gate_dst (N := 1) rfl ?_); refine bxU (cs := #[.int .i64 a0_0, .bool a0_1, .int .i64 a0_2]) (t := 25) ?_; intro gb321 hg w5 hbox hb; have n0_ := bsU hb; have n1_ := Aside0.mk (hbox); have n2_ := geU hg; have n3_ := geU hg; clear HB; have HB := n0_; have BK321 := n1_; have GW321 := n2_; have GE321 := n3_; clear n0_ n1_ n2_ n3_; clear hb hbox hg; obtain ⟨hcz6_0, hcz6_1, hcz6_2, hfz6_0, hfz6_1, hfz6_2⟩ := b3U BK321) | ((with_reducible refine gate_callee (f := 78) rfl ?_); refine goU (some 5) Tryz.func78 #[.agg #[.int .i64 a0_0, .bool a0_1, .int .i64 a0_2]] ?_; (with_reducible refine (spec_frGood.calls a0_0 a0_1 a0_2 true _ A2.out).mono ?_); rintro e w7 ⟨rfl, hb⟩; refine ⟨_, rfl, ?_⟩; have n0_ := bbU BK321 hb; have n1_ := bsU hb; clear BK321; clear HB; have BK321 := n0_; have HB := n1_; clear n0_ n1_; (try clear hb); (try clear hb2); (try clear hk); (try clear hi); obtain ⟨hcz8_0, hcz8_1, hcz8_2, hfz8_0, hfz8_1, hfz8_2⟩ := b3U BK321) | ((with_reducible refine gate_callee (f := 83) rfl ?_); refine goU (some 8) Tryz.func83 #[.agg #[.int .i64 a0_0, .bool a0_1, .int .i64 a0_2], .int .u8 55] ?_; (with_reducible refine (spec_frAll.calls k a0_0 a0_1 a0_2 55 t323 _ A4.out).mono ?_); rintro e w9 ⟨rfl, hb⟩; refine ⟨_, rfl, ?_⟩; have n0_ := bbU BK321 hb; have n1_ := bsU hb; clear BK321; clear HB; have BK321 := n0_; have HB := n1_; clear n0_ n1_; (try clear hb); (try clear hb2); (try clear hk); (try clear hi)))
  go_ret2
  exact ⟨by first | rfl | (simp [errW_none, errW_some] <;> rfl) | (simp [*, errW_none, errW_some] <;> rfl), hbU⟩
 ·replace c3 := Bool.eq_false_iff.mpr c3
  subst c3
  rw [if_neg (show ¬ (false = true) by decide)] at H
  simp only [Option.some.injEq, Prod.mk.injEq] at H
  obtain ⟨rfl, rfl⟩ := H
  go_enter Tryz.func20, Tryz.ntmps20
  go_wp2_with (first | ((with_reducible refine gate_dst (N := 1) rfl ?_); refine bxU (cs := #[.int .i64 a0_0, .bool a0_1, .int .i64 a0_2]) (t := 25) ?_; intro gb321 hg w10 hbox hb; have n0_ := bsU hb; have n1_ := Aside0.mk (hbox); have n2_ := geU hg; have n3_ := geU hg; clear HB; have HB := n0_; have BK321 := n1_; have GW321 := n2_; have GE321 := n3_; clear n0_ n1_ n2_ n3_; clear hb hbox hg; obtain ⟨hcz11_0, hcz11_1, hcz11_2, hfz11_0, hfz11_1, hfz11_2⟩ := b3U BK321) | ((with_reducible refine gate_callee (f := 78) rfl ?_); refine goU (some 5) Tryz.func78 #[.agg #[.int .i64 a0_0, .bool a0_1, .int .i64 a0_2]] ?_; (with_reducible refine (spec_frGood.calls a0_0 a0_1 a0_2 false _ A2.out).mono ?_); rintro e w12 ⟨rfl, hb⟩; refine ⟨_, rfl, ?_⟩; have n0_ := bbU BK321 hb; have n1_ := bsU hb; clear BK321; clear HB; have BK321 := n0_; have HB := n1_; clear n0_ n1_; (try clear hb); (try clear hb2); (try clear hk); (try clear hi)))
  go_ret2
  exact ⟨by first | rfl | (simp [errW_none, errW_some] <;> rfl) | (simp [*, errW_none, errW_some] <;> rfl), hbU⟩
def impl_MissBall.f (k : Nat) (a0_0 : Int) (a0_1 : Bool) (a0_2 : Int) : Option (Int × Bool × Int × Bool) := (impl_IsFrame.f k a0_0 a0_1 a0_2).bind fun t326 => (if t326 = true then (some (a0_0, false, a0_2, true)) else (some (0, false, 0, false)))
theorem impl_MissBall.mono : ∀ a0 a1 a2 k, LeO (impl_MissBall.f k a0 a1 a2) (impl_MissBall.f (k + 1) a0 a1 a2) := by
 intro a0 a1 a2 k
 unfold impl_MissBall.f
 repeat' first
   | (with_reducible exact impl_IsFrame.mono _ _ _ _)
   | (with_reducible exact LeO.refl _)
   | (with_reducible exact LeO.none _)
   | (with_reducible refine LeO.ite ?_ ?_)
   | (with_reducible refine LeO.bind ?_ (fun _ => ?_))
   | exact impl_IsFrame.mono _ _ _ _
   | exact LeO.none _
   | refine LeO.ite ?_ ?_
   | refine LeO.bind ?_ (fun _ => ?_)
set_option maxHeartbeats 8000000 in
set_option maxRecDepth 100000 in
theorem impl_MissBall.calls (k : Nat) (a0_0 : Int) (a0_1 : Bool) (a0_2 : Int) (r1 : Int) (r2 : Bool) (r3 : Int) (r4 : Bool) (w : World) (h : impl_MissBall.f k a0_0 a0_1 a0_2 = some (r1, r2, r3, r4)) :
  Calls Tryz.prog 21 #[.agg #[.int .i64 a0_0, .bool a0_1, .int .i64 a0_2]] w fun e w' => e = .returned (.tuple #[.agg #[.int .i64 r1, .bool r2, .int .i64 r3], .bool r4]) ∧ Below w.heap.size w w' := by
 have hu25 := Tryz.underlying25
 have HB := Aside0.mk (Below.refl w.heap.size w)
 have H : ((impl_IsFrame.f k a0_0 a0_1 a0_2).bind fun t326 => (if t326 = true then (some (a0_0, false, a0_2, true)) else (some (0, false, 0, false)))) = some (r1, r2, r3, r4) := h
 clear h
 replace H := Option.bind_eq_some_iff.mp H
 obtain ⟨t326, A20, H⟩ := H
 (try dsimp only at H)
 have A2 := Aside0.mk A20
 clear A20
 by_cases c3 : t326 = true
 ·subst c3
  rw [if_pos rfl] at H
  simp only [Option.some.injEq, Prod.mk.injEq] at H
  obtain ⟨rfl, rfl, rfl, rfl⟩ := H
  go_enter Tryz.func21, Tryz.ntmps21
  go_wp2_with (first | ((with_reducible refine gate_dst (N := 1) rfl ?_); refine bxU (cs := #[.int .i64 a0_0, .bool a0_1, .int .i64 a0_2]) (t := 25) ?_; intro gb324 hg w4 hbox hb; have n0_ := bsU hb; have n1_ := Aside0.mk (hbox); have n2_ := geU hg; have n3_ := geU hg; clear HB; have HB := n0_; have BK324 := n1_; have GW324 := n2_; have GE324 := n3_; clear n0_ n1_ n2_ n3_; clear hb hbox hg) | ((with_reducible refine gate_dst (N := 2) rfl ?_); refine bxU (cs := #[.int .i64 0, .bool false, .int .i64 0]) (t := 25) ?_; intro gb325 hg w5 hbox hb; have n0_ := bbU BK324 hb; have n1_ := bsU hb; have n2_ := Aside0.mk (hbox); have n3_ := geU hg; have n4_ := geU hg; have n5_ := neU BK324 hg; have n6_ := enU BK324 hg; clear BK324; clear HB; have BK324 := n0_; have HB := n1_; have BK325 := n2_; have GW325 := n3_; have GE325 := n4_; have NB324_325 := n5_; have NB325_324 := n6_; clear n0_ n1_ n2_ n3_ n4_ n5_ n6_; clear hb hbox hg; have hnb6 := NB324_325.out; have hnc6 := NB325_324.out; obtain ⟨hcz7_0, hcz7_1, hcz7_2, hfz7_0, hfz7_1, hfz7_2⟩ := b3U BK324) | ((with_reducible refine gate_callee (f := 25) rfl ?_); refine goU (some 5) Tryz.func25 #[.agg #[.int .i64 a0_0, .bool a0_1, .int .i64 a0_2]] ?_; (with_reducible refine (impl_IsFrame.calls k a0_0 a0_1 a0_2 true _ A2.out).mono ?_); rintro e w8 ⟨rfl, hb⟩; refine ⟨_, rfl, ?_⟩; have n0_ := bbU BK324 hb; have n1_ := bbU BK325 hb; have n2_ := bsU hb; clear BK324; clear BK325; clear HB; have BK324 := n0_; have BK325 := n1_; have HB := n2_; clear n0_ n1_ n2_; (try clear hb); (try clear hb2); (try clear hk); (try clear hi); obtain ⟨hcz9_0, hcz9_1, hcz9_2, hfz9_0, hfz9_1, hfz9_2⟩ := b3U BK324; obtain ⟨hcz10_0, hcz10_1, hcz10_2, hfz10_0, hfz10_1, hfz10_2⟩ := b3U BK325))
  refine bodyPost_ret (results_ct rfl _ _ gb325 25 #[.int .i64 a0_0, .bool false, .int .i64 a0_2] (0, 0) _ rfl bkU Tryz.underlying25 rfl (by kernel_rfl)) rfl ?_
  exact ⟨by first | rfl | (simp [errW_none, errW_some] <;> rfl) | (simp [*, errW_none, errW_some] <;> rfl), hbU⟩
 ·replace c3 := Bool.eq_false_iff.mpr c3
  subst c3
  rw [if_neg (show ¬ (false = true) by decide)] at H
  simp only [Option.some.injEq, Prod.mk.injEq] at H
  obtain ⟨rfl, rfl, rfl, rfl⟩ := H
  go_enter Tryz.func21, Tryz.ntmps21
  go_wp2_with (first | ((with_reducible refine gate_dst (N := 1) rfl ?_); refine bxU (cs := #[.int .i64 a0_0, .bool a0_1, .int .i64 a0_2]) (t := 25) ?_; intro gb324 hg w11 hbox hb; have n0_ := bsU hb; have n1_ := Aside0.mk (hbox); have n2_ := geU hg; have n3_ := geU hg; clear HB; have HB := n0_; have BK324 := n1_; have GW324 := n2_; have GE324 := n3_; clear n0_ n1_ n2_ n3_; clear hb hbox hg) | ((with_reducible refine gate_dst (N := 2) rfl ?_); refine bxU (cs := #[.int .i64 0, .bool false, .int .i64 0]) (t := 25) ?_; intro gb325 hg w12 hbox hb; have n0_ := bbU BK324 hb; have n1_ := bsU hb; have n2_ := Aside0.mk (hbox); have n3_ := geU hg; have n4_ := geU hg; have n5_ := neU BK324 hg; have n6_ := enU BK324 hg; clear BK324; clear HB; have BK324 := n0_; have HB := n1_; have BK325 := n2_; have GW325 := n3_; have GE325 := n4_; have NB324_325 := n5_; have NB325_324 := n6_; clear n0_ n1_ n2_ n3_ n4_ n5_ n6_; clear hb hbox hg; have hnb13 := NB324_325.out; have hnc13 := NB325_324.out; obtain ⟨hcz14_0, hcz14_1, hcz14_2, hfz14_0, hfz14_1, hfz14_2⟩ := b3U BK324) | ((with_reducible refine gate_callee (f := 25) rfl ?_); refine goU (some 5) Tryz.func25 #[.agg #[.int .i64 a0_0, .bool a0_1, .int .i64 a0_2]] ?_; (with_reducible refine (impl_IsFrame.calls k a0_0 a0_1 a0_2 false _ A2.out).mono ?_); rintro e w15 ⟨rfl, hb⟩; refine ⟨_, rfl, ?_⟩; have n0_ := bbU BK324 hb; have n1_ := bbU BK325 hb; have n2_ := bsU hb; clear BK324; clear BK325; clear HB; have BK324 := n0_; have BK325 := n1_; have HB := n2_; clear n0_ n1_ n2_; (try clear hb); (try clear hb2); (try clear hk); (try clear hi); obtain ⟨hcz16_0, hcz16_1, hcz16_2, hfz16_0, hfz16_1, hfz16_2⟩ := b3U BK325))
  refine bodyPost_ret (results_ct rfl _ _ gb325 25 #[.int .i64 0, .bool false, .int .i64 0] (0, 0) _ rfl bkU Tryz.underlying25 rfl (by kernel_rfl)) rfl ?_
  exact ⟨by first | rfl | (simp [errW_none, errW_some] <;> rfl) | (simp [*, errW_none, errW_some] <;> rfl), hbU⟩
def spec_MissBall.f (a0_0 : Int) (a0_1 : Bool) (a0_2 : Int) : Option (Int × Bool × Int × Bool) := (spec_frGood.f a0_0 a0_1 a0_2).bind fun t329 => (if t329 = true then (some (a0_0, false, a0_2, true)) else (some (0, false, 0, false)))
set_option maxHeartbeats 8000000 in
set_option maxRecDepth 100000 in
theorem spec_MissBall.calls (a0_0 : Int) (a0_1 : Bool) (a0_2 : Int) (r1 : Int) (r2 : Bool) (r3 : Int) (r4 : Bool) (w : World) (h : spec_MissBall.f a0_0 a0_1 a0_2 = some (r1, r2, r3, r4)) :
  Calls Tryz.prog 22 #[.agg #[.int .i64 a0_0, .bool a0_1, .int .i64 a0_2]] w fun e w' => e = .returned (.tuple #[.agg #[.int .i64 r1, .bool r2, .int .i64 r3], .bool r4]) ∧ Below w.heap.size w w' := by
 have hu25 := Tryz.underlying25
 have HB := Aside0.mk (Below.refl w.heap.size w)
 have H : ((spec_frGood.f a0_0 a0_1 a0_2).bind fun t329 => (if t329 = true then (some (a0_0, false, a0_2, true)) else (some (0, false, 0, false)))) = some (r1, r2, r3, r4) := h
 clear h
 replace H := Option.bind_eq_some_iff.mp H
 obtain ⟨t329, A20, H⟩ := H
 (try dsimp only at H)
 have A2 := Aside0.mk A20
 clear A20
 by_cases c3 : t329 = true
 ·subst c3
  rw [if_pos rfl] at H
  simp only [Option.some.injEq, Prod.mk.injEq] at H
  obtain ⟨rfl, rfl, rfl, rfl⟩ := H
  go_enter Tryz.func22, Tryz.ntmps22
  go_wp2_with (first | ((with_reducible refine gate_dst (N := 1) rfl ?_); refine bxU (cs := #[.int .i64 a0_0, .bool a0_1, .int .i64 a0_2]) (t := 25) ?_; intro gb327 hg w4 hbox hb; have n0_ := bsU hb; have n1_ := Aside0.mk (hbox); have n2_ := geU hg; have n3_ := geU hg; clear HB; have HB := n0_; have BK327 := n1_; have GW327 := n2_; have GE327 := n3_; clear n0_ n1_ n2_ n3_; clear hb hbox hg) | ((with_reducible refine gate_dst (N := 2) rfl ?_); refine bxU (cs := #[.int .i64 0, .bool false, .int .i64 0]) (t := 25) ?_; intro gb328 hg w5 hbox hb; have n0_ := bbU BK327 hb; have n1_ := bsU hb; have n2_ := Aside0.mk (hbox); have n3_ := geU hg; have n4_ := geU hg; have n5_ := neU BK327 hg; have n6_ := enU BK327 hg; clear BK327; clear HB; have BK327 := n0_; have HB := n1_; have BK328 := n2_; have GW328 := n3_; have GE328 := n4_; have NB327_328 := n5_; have NB328_327 := n6_; clear n0_ n1_ n2_ n3_ n4_ n5_ n6_; clear hb hbox hg; have hnb6 := NB327_328.out; have hnc6 := NB328_327.out; obtain ⟨hcz7_0, hcz7_1, hcz7_2, hfz7_0, hfz7_1, hfz7_2⟩ := b3U BK327) | ((with_reducible refine gate_callee (f := 78) rfl ?_); refine goU (some 5) Tryz.func78 #[.agg #[.int .i64 a0_0, .bool a0_1, .int .i64 a0_2]] ?_; (with_reducible refine (spec_frGood.calls a0_0 a0_1 a0_2 true _ A2.out).mono ?_); rintro e w8 ⟨rfl, hb⟩; refine ⟨_, rfl, ?_⟩; have n0_ := bbU BK327 hb; have n1_ := bbU BK328 hb; have n2_ := bsU hb; clear BK327; clear BK328; clear HB; have BK327 := n0_; have BK328 := n1_; have HB := n2_; clear n0_ n1_ n2_; (try clear hb); (try clear hb2); (try clear hk); (try clear hi); obtain ⟨hcz9_0, hcz9_1, hcz9_2, hfz9_0, hfz9_1, hfz9_2⟩ := b3U BK327; obtain ⟨hcz10_0, hcz10_1, hcz10_2, hfz10_0, hfz10_1, hfz10_2⟩ := b3U BK328))
  refine bodyPost_ret (results_ct rfl _ _ gb328 25 #[.int .i64 a0_0, .bool false, .int .i64 a0_2] (0, 0) _ rfl bkU Tryz.underlying25 rfl (by kernel_rfl)) rfl ?_
  exact ⟨by first | rfl | (simp [errW_none, errW_some] <;> rfl) | (simp [*, errW_none, errW_some] <;> rfl), hbU⟩
 ·replace c3 := Bool.eq_false_iff.mpr c3
  subst c3
  rw [if_neg (show ¬ (false = true) by decide)] at H
  simp only [Option.some.injEq, Prod.mk.injEq] at H
  obtain ⟨rfl, rfl, rfl, rfl⟩ := H
  go_enter Tryz.func22, Tryz.ntmps22
  go_wp2_with (first | ((with_reducible refine gate_dst (N := 1) rfl ?_); refine bxU (cs := #[.int .i64 a0_0, .bool a0_1, .int .i64 a0_2]) (t := 25) ?_; intro gb327 hg w11 hbox hb; have n0_ := bsU hb; have n1_ := Aside0.mk (hbox); have n2_ := geU hg; have n3_ := geU hg; clear HB; have HB := n0_; have BK327 := n1_; have GW327 := n2_; have GE327 := n3_; clear n0_ n1_ n2_ n3_; clear hb hbox hg) | ((with_reducible refine gate_dst (N := 2) rfl ?_); refine bxU (cs := #[.int .i64 0, .bool false, .int .i64 0]) (t := 25) ?_; intro gb328 hg w12 hbox hb; have n0_ := bbU BK327 hb; have n1_ := bsU hb; have n2_ := Aside0.mk (hbox); have n3_ := geU hg; have n4_ := geU hg; have n5_ := neU BK327 hg; have n6_ := enU BK327 hg; clear BK327; clear HB; have BK327 := n0_; have HB := n1_; have BK328 := n2_; have GW328 := n3_; have GE328 := n4_; have NB327_328 := n5_; have NB328_327 := n6_; clear n0_ n1_ n2_ n3_ n4_ n5_ n6_; clear hb hbox hg; have hnb13 := NB327_328.out; have hnc13 := NB328_327.out; obtain ⟨hcz14_0, hcz14_1, hcz14_2, hfz14_0, hfz14_1, hfz14_2⟩ := b3U BK327) | ((with_reducible refine gate_callee (f := 78) rfl ?_); refine goU (some 5) Tryz.func78 #[.agg #[.int .i64 a0_0, .bool a0_1, .int .i64 a0_2]] ?_; (with_reducible refine (spec_frGood.calls a0_0 a0_1 a0_2 false _ A2.out).mono ?_); rintro e w15 ⟨rfl, hb⟩; refine ⟨_, rfl, ?_⟩; have n0_ := bbU BK327 hb; have n1_ := bbU BK328 hb; have n2_ := bsU hb; clear BK327; clear BK328; clear HB; have BK327 := n0_; have BK328 := n1_; have HB := n2_; clear n0_ n1_ n2_; (try clear hb); (try clear hb2); (try clear hk); (try clear hi); obtain ⟨hcz16_0, hcz16_1, hcz16_2, hfz16_0, hfz16_1, hfz16_2⟩ := b3U BK328))
  refine bodyPost_ret (results_ct rfl _ _ gb328 25 #[.int .i64 0, .bool false, .int .i64 0] (0, 0) _ rfl bkU Tryz.underlying25 rfl (by kernel_rfl)) rfl ?_
  exact ⟨by first | rfl | (simp [errW_none, errW_some] <;> rfl) | (simp [*, errW_none, errW_some] <;> rfl), hbU⟩
def impl_FrameText.f (k : Nat) (a0_0 : Int) (a0_1 : Bool) (a0_2 : Int) : Option (ByteArray × Bool) := (impl_IsFrame.f k a0_0 a0_1 a0_2).bind fun t331 => (if t331 = true then (if a0_1 = true then ((strconv_Itoa_85.f a0_0).bind fun t332 => (if t332.size + 1 ≤ 9223372036854775807 then ((strconv_Itoa_85.f a0_2).bind fun t333 => (if (t332 ++ (⟨#[99]⟩ : ByteArray)).size + t333.size ≤ 9223372036854775807 then (some ((t332 ++ (⟨#[99]⟩ : ByteArray)) ++ t333, true)) else (none))) else (none))) else ((strconv_Itoa_85.f a0_0).bind fun t334 => (if t334.size + 1 ≤ 9223372036854775807 then ((strconv_Itoa_85.f a0_2).bind fun t335 => (if (t334 ++ (⟨#[45]⟩ : ByteArray)).size + t335.size ≤ 9223372036854775807 then (some ((t334 ++ (⟨#[45]⟩ : ByteArray)) ++ t335, true)) else (none))) else (none)))) else (some ((⟨#[]⟩ : ByteArray), false)))
theorem impl_FrameText.mono : ∀ a0 a1 a2 k, LeO (impl_FrameText.f k a0 a1 a2) (impl_FrameText.f (k + 1) a0 a1 a2) := by
 intro a0 a1 a2 k
 unfold impl_FrameText.f
 repeat' first
   | (with_reducible exact impl_IsFrame.mono _ _ _ _)
   | (with_reducible exact LeO.refl _)
   | (with_reducible exact LeO.none _)
   | (with_reducible refine LeO.ite ?_ ?_)
   | (with_reducible refine LeO.bind ?_ (fun _ => ?_))
   | exact impl_IsFrame.mono _ _ _ _
   | exact LeO.none _
   | refine LeO.ite ?_ ?_
   | refine LeO.bind ?_ (fun _ => ?_)
set_option maxHeartbeats 8000000 in
set_option maxRecDepth 100000 in
theorem impl_FrameText.calls (k : Nat) (a0_0 : Int) (a0_1 : Bool) (a0_2 : Int) (r1 : ByteArray) (r2 : Bool) (w : World) (h : impl_FrameText.f k a0_0 a0_1 a0_2 = some (r1, r2)) :
  Calls Tryz.prog 23 #[.agg #[.int .i64 a0_0, .bool a0_1, .int .i64 a0_2]] w fun e w' => e = .returned (.tuple #[.string r1, .bool r2]) ∧ Below w.heap.size w w' := by
 have hu25 := Tryz.underlying25
 have HB := Aside0.mk (Below.refl w.heap.size w)
 have H : ((impl_IsFrame.f k a0_0 a0_1 a0_2).bind fun t331 => (if t331 = true then (if a0_1 = true then ((strconv_Itoa_85.f a0_0).bind fun t332 => (if t332.size + 1 ≤ 9223372036854775807 then ((strconv_Itoa_85.f a0_2).bind fun t333 => (if (t332 ++ (⟨#[99]⟩ : ByteArray)).size + t333.size ≤ 9223372036854775807 then (some ((t332 ++ (⟨#[99]⟩ : ByteArray)) ++ t333, true)) else (none))) else (none))) else ((strconv_Itoa_85.f a0_0).bind fun t334 => (if t334.size + 1 ≤ 9223372036854775807 then ((strconv_Itoa_85.f a0_2).bind fun t335 => (if (t334 ++ (⟨#[45]⟩ : ByteArray)).size + t335.size ≤ 9223372036854775807 then (some ((t334 ++ (⟨#[45]⟩ : ByteArray)) ++ t335, true)) else (none))) else (none)))) else (some ((⟨#[]⟩ : ByteArray), false)))) = some (r1, r2) := h
 clear h
 replace H := Option.bind_eq_some_iff.mp H
 obtain ⟨t331, A20, H⟩ := H
 (try dsimp only at H)
 have A2 := Aside0.mk A20
 clear A20
 by_cases c3 : t331 = true
 ·subst c3
  rw [if_pos rfl] at H
  by_cases c4 : a0_1 = true
  ·subst c4
   rw [if_pos rfl] at H
   replace H := Option.bind_eq_some_iff.mp H
   obtain ⟨t332, A50, H⟩ := H
   (try dsimp only at H)
   have A5 := Aside0.mk A50
   clear A50
   by_cases c6 : t332.size + 1 ≤ 9223372036854775807
   ·rw [if_pos c6] at H
    have c6b0 := eq_true c6
    have c6b1 : decide (t332.size + 1 ≤ 9223372036854775807) = true := decide_eq_true c6
    try have c6b2 : (9223372036854775807 < t332.size + 1) = False := eq_false (Nat.not_lt.2 c6)
    replace H := Option.bind_eq_some_iff.mp H
    obtain ⟨t333, A70, H⟩ := H
    (try dsimp only at H)
    have A7 := Aside0.mk A70
    clear A70
    by_cases c8 : (t332 ++ (⟨#[99]⟩ : ByteArray)).size + t333.size ≤ 9223372036854775807
    ·rw [if_pos c8] at H
     have c8b0 := eq_true c8
     have c8b1 : decide ((t332 ++ (⟨#[99]⟩ : ByteArray)).size + t333.size ≤ 9223372036854775807) = true := decide_eq_true c8
     try have c8b2 : (9223372036854775807 < (t332 ++ (⟨#[99]⟩ : ByteArray)).size + t333.size) = False := eq_false (Nat.not_lt.2 c8)
     simp only [Option.some.injEq, Prod.mk.injEq] at H
     obtain ⟨rfl, rfl⟩ := H
     go_enter Tryz.func23, Tryz.ntmps23
     go_wp2_with (first | ((with_reducible refine gate_dst (N := 1) rfl ?_); refine bxU (cs := #[.int .i64 a0_0, .bool true, .int .i64 a0_2]) (t := 25) ?_; intro gb330 hg w9 hbox hb; have n0_ := bsU hb; have n1_ := Aside0.mk (hbox); have n2_ := geU hg; have n3_ := geU hg; clear HB; have HB := n0_; have BK330 := n1_; have GW330 := n2_; have GE330 := n3_; clear n0_ n1_ n2_ n3_; clear hb hbox hg; obtain ⟨hcz10_0, hcz10_1, hcz10_2, hfz10_0, hfz10_1, hfz10_2⟩ := b3U BK330) | (go_at_call 25; (with_reducible refine (impl_IsFrame.calls k a0_0 true a0_2 true _ A2.out).mono ?_); rintro e w11 ⟨rfl, hb⟩; have n0_ := bbU BK330 hb; have n1_ := bsU hb; clear BK330; clear HB; have BK330 := n0_; have HB := n1_; clear n0_ n1_; (try clear hb); (try clear hb2); (try clear hk); (try clear hi); obtain ⟨hcz12_0, hcz12_1, hcz12_2, hfz12_0, hfz12_1, hfz12_2⟩ := b3U BK330) | (go_at_call 85; (with_reducible refine (strconv_Itoa_85.calls a0_0 t332 _ A5.out).mono ?_); rintro e w' ⟨rfl, ⟨nd, rfl⟩⟩; (try first | exact ⟨rfl, _, World.drewN_drewN _ _ _⟩ | exact ⟨rfl, _, Eq.trans (World.drewN_drewN _ _ _) (congrArg (World.drewN _) (Nat.add_assoc _ _ _))⟩)) | (go_at_call 85; (with_reducible refine (strconv_Itoa_85.calls a0_2 t333 _ A7.out).mono ?_); rintro e w' ⟨rfl, ⟨nd, rfl⟩⟩; (try first | exact ⟨rfl, _, World.drewN_drewN _ _ _⟩ | exact ⟨rfl, _, Eq.trans (World.drewN_drewN _ _ _) (congrArg (World.drewN _) (Nat.add_assoc _ _ _))⟩)))
     repeat (go_quiet (first | ((with_reducible refine gate_dst (N := 1) rfl ?_); refine bxU (cs := #[.int .i64 a0_0, .bool true, .int .i64 a0_2]) (t := 25) ?_; intro gb330 hg w9 hbox hb; have n0_ := bsU hb; have n1_ := Aside0.mk (hbox); have n2_ := geU hg; have n3_ := geU hg; clear HB; have HB := n0_; have BK330 := n1_; have GW330 := n2_; have GE330 := n3_; clear n0_ n1_ n2_ n3_; clear hb hbox hg; obtain ⟨hcz10_0, hcz10_1, hcz10_2, hfz10_0, hfz10_1, hfz10_2⟩ := b3U BK330) | (go_at_call 25; (with_reducible refine (impl_IsFrame.calls k a0_0 true a0_2 true _ A2.out).mono ?_); rintro e w11 ⟨rfl, hb⟩; have n0_ := bbU BK330 hb; have n1_ := bsU hb; clear BK330; clear HB; have BK330 := n0_; have HB := n1_; clear n0_ n1_; (try clear hb); (try clear hb2); (try clear hk); (try clear hi); obtain ⟨hcz12_0, hcz12_1, hcz12_2, hfz12_0, hfz12_1, hfz12_2⟩ := b3U BK330) | (go_at_call 85; (with_reducible refine (strconv_Itoa_85.calls a0_0 t332 _ A5.out).mono ?_); rintro e w' ⟨rfl, ⟨nd, rfl⟩⟩; (try first | exact ⟨rfl, _, World.drewN_drewN _ _ _⟩ | exact ⟨rfl, _, Eq.trans (World.drewN_drewN _ _ _) (congrArg (World.drewN _) (Nat.add_assoc _ _ _))⟩)) | (go_at_call 85; (with_reducible refine (strconv_Itoa_85.calls a0_2 t333 _ A7.out).mono ?_); rintro e w' ⟨rfl, ⟨nd, rfl⟩⟩; (try first | exact ⟨rfl, _, World.drewN_drewN _ _ _⟩ | exact ⟨rfl, _, Eq.trans (World.drewN_drewN _ _ _) (congrArg (World.drewN _) (Nat.add_assoc _ _ _))⟩))); try go_wp2_with (first | ((with_reducible refine gate_dst (N := 1) rfl ?_); refine bxU (cs := #[.int .i64 a0_0, .bool true, .int .i64 a0_2]) (t := 25) ?_; intro gb330 hg w9 hbox hb; have n0_ := bsU hb; have n1_ := Aside0.mk (hbox); have n2_ := geU hg; have n3_ := geU hg; clear HB; have HB := n0_; have BK330 := n1_; have GW330 := n2_; have GE330 := n3_; clear n0_ n1_ n2_ n3_; clear hb hbox hg; obtain ⟨hcz10_0, hcz10_1, hcz10_2, hfz10_0, hfz10_1, hfz10_2⟩ := b3U BK330) | (go_at_call 25; (with_reducible refine (impl_IsFrame.calls k a0_0 true a0_2 true _ A2.out).mono ?_); rintro e w11 ⟨rfl, hb⟩; have n0_ := bbU BK330 hb; have n1_ := bsU hb; clear BK330; clear HB; have BK330 := n0_; have HB := n1_; clear n0_ n1_; (try clear hb); (try clear hb2); (try clear hk); (try clear hi); obtain ⟨hcz12_0, hcz12_1, hcz12_2, hfz12_0, hfz12_1, hfz12_2⟩ := b3U BK330) | (go_at_call 85; (with_reducible refine (strconv_Itoa_85.calls a0_0 t332 _ A5.out).mono ?_); rintro e w' ⟨rfl, ⟨nd, rfl⟩⟩; (try first | exact ⟨rfl, _, World.drewN_drewN _ _ _⟩ | exact ⟨rfl, _, Eq.trans (World.drewN_drewN _ _ _) (congrArg (World.drewN _) (Nat.add_assoc _ _ _))⟩)) | (go_at_call 85; (with_reducible refine (strconv_Itoa_85.calls a0_2 t333 _ A7.out).mono ?_); rintro e w' ⟨rfl, ⟨nd, rfl⟩⟩; (try first | exact ⟨rfl, _, World.drewN_drewN _ _ _⟩ | exact ⟨rfl, _, Eq.trans (World.drewN_drewN _ _ _) (congrArg (World.drewN _) (Nat.add_assoc _ _ _))⟩))))
     go_ret2
     exact ⟨by first | rfl | (simp [errW_none, errW_some] <;> rfl) | (simp [*, errW_none, errW_some] <;> rfl), hbU⟩
    ·rw [if_neg c8] at H
     exact absurd H (by simp)
   ·rw [if_neg c6] at H
    exact absurd H (by simp)
  ·replace c4 := Bool.eq_false_iff.mpr c4
   subst c4
   rw [if_neg (show ¬ (false = true) by decide)] at H
   replace H := Option.bind_eq_some_iff.mp H
   obtain ⟨t334, A130, H⟩ := H
   (try dsimp only at H)
   have A13 := Aside0.mk A130
   clear A130
   by_cases c14 : t334.size + 1 ≤ 9223372036854775807
   ·rw [if_pos c14] at H
    have c14b0 := eq_true c14
    have c14b1 : decide (t334.size + 1 ≤ 9223372036854775807) = true := decide_eq_true c14
    try have c14b2 : (9223372036854775807 < t334.size + 1) = False := eq_false (Nat.not_lt.2 c14)
    replace H := Option.bind_eq_some_iff.mp H
    obtain ⟨t335, A150, H⟩ := H
    (try dsimp only at H)
    have A15 := Aside0.mk A150
    clear A150
    by_cases c16 : (t334 ++ (⟨#[45]⟩ : ByteArray)).size + t335.size ≤ 9223372036854775807
    ·rw [if_pos c16] at H
     have c16b0 := eq_true c16
     have c16b1 : decide ((t334 ++ (⟨#[45]⟩ : ByteArray)).size + t335.size ≤ 9223372036854775807) = true := decide_eq_true c16
     try have c16b2 : (9223372036854775807 < (t334 ++ (⟨#[45]⟩ : ByteArray)).size + t335.size) = False := eq_false (Nat.not_lt.2 c16)
     simp only [Option.some.injEq, Prod.mk.injEq] at H
     obtain ⟨rfl, rfl⟩ := H
     go_enter Tryz.func23, Tryz.ntmps23
     go_wp2_with (first | ((with_reducible refine gate_dst (N := 1) rfl ?_); refine bxU (cs := #[.int .i64 a0_0, .bool false, .int .i64 a0_2]) (t := 25) ?_; intro gb330 hg w17 hbox hb; have n0_ := bsU hb; have n1_ := Aside0.mk (hbox); have n2_ := geU hg; have n3_ := geU hg; clear HB; have HB := n0_; have BK330 := n1_; have GW330 := n2_; have GE330 := n3_; clear n0_ n1_ n2_ n3_; clear hb hbox hg; obtain ⟨hcz18_0, hcz18_1, hcz18_2, hfz18_0, hfz18_1, hfz18_2⟩ := b3U BK330) | (go_at_call 25; (with_reducible refine (impl_IsFrame.calls k a0_0 false a0_2 true _ A2.out).mono ?_); rintro e w19 ⟨rfl, hb⟩; have n0_ := bbU BK330 hb; have n1_ := bsU hb; clear BK330; clear HB; have BK330 := n0_; have HB := n1_; clear n0_ n1_; (try clear hb); (try clear hb2); (try clear hk); (try clear hi); obtain ⟨hcz20_0, hcz20_1, hcz20_2, hfz20_0, hfz20_1, hfz20_2⟩ := b3U BK330) | (go_at_call 85; (with_reducible refine (strconv_Itoa_85.calls a0_0 t334 _ A13.out).mono ?_); rintro e w' ⟨rfl, ⟨nd, rfl⟩⟩; (try first | exact ⟨rfl, _, World.drewN_drewN _ _ _⟩ | exact ⟨rfl, _, Eq.trans (World.drewN_drewN _ _ _) (congrArg (World.drewN _) (Nat.add_assoc _ _ _))⟩)) | (go_at_call 85; (with_reducible refine (strconv_Itoa_85.calls a0_2 t335 _ A15.out).mono ?_); rintro e w' ⟨rfl, ⟨nd, rfl⟩⟩; (try first | exact ⟨rfl, _, World.drewN_drewN _ _ _⟩ | exact ⟨rfl, _, Eq.trans (World.drewN_drewN _ _ _) (congrArg (World.drewN _) (Nat.add_assoc _ _ _))⟩)))
     repeat (go_quiet (first | ((with_reducible refine gate_dst (N := 1) rfl ?_); refine bxU (cs := #[.int .i64 a0_0, .bool false, .int .i64 a0_2]) (t := 25) ?_; intro gb330 hg w17 hbox hb; have n0_ := bsU hb; have n1_ := Aside0.mk (hbox); have n2_ := geU hg; have n3_ := geU hg; clear HB; have HB := n0_; have BK330 := n1_; have GW330 := n2_; have GE330 := n3_; clear n0_ n1_ n2_ n3_; clear hb hbox hg; obtain ⟨hcz18_0, hcz18_1, hcz18_2, hfz18_0, hfz18_1, hfz18_2⟩ := b3U BK330) | (go_at_call 25; (with_reducible refine (impl_IsFrame.calls k a0_0 false a0_2 true _ A2.out).mono ?_); rintro e w19 ⟨rfl, hb⟩; have n0_ := bbU BK330 hb; have n1_ := bsU hb; clear BK330; clear HB; have BK330 := n0_; have HB := n1_; clear n0_ n1_; (try clear hb); (try clear hb2); (try clear hk); (try clear hi); obtain ⟨hcz20_0, hcz20_1, hcz20_2, hfz20_0, hfz20_1, hfz20_2⟩ := b3U BK330) | (go_at_call 85; (with_reducible refine (strconv_Itoa_85.calls a0_0 t334 _ A13.out).mono ?_); rintro e w' ⟨rfl, ⟨nd, rfl⟩⟩; (try first | exact ⟨rfl, _, World.drewN_drewN _ _ _⟩ | exact ⟨rfl, _, Eq.trans (World.drewN_drewN _ _ _) (congrArg (World.drewN _) (Nat.add_assoc _ _ _))⟩)) | (go_at_call 85; (with_reducible refine (strconv_Itoa_85.calls a0_2 t335 _ A15.out).mono ?_); rintro e w' ⟨rfl, ⟨nd, rfl⟩⟩; (try first | exact ⟨rfl, _, World.drewN_drewN _ _ _⟩ | exact ⟨rfl, _, Eq.trans (World.drewN_drewN _ _ _) (congrArg (World.drewN _) (Nat.add_assoc _ _ _))⟩))); try go_wp2_with (first | ((with_reducible refine gate_dst (N := 1) rfl ?_); refine bxU (cs := #[.int .i64 a0_0, .bool false, .int .i64 a0_2]) (t := 25) ?_; intro gb330 hg w17 hbox hb; have n0_ := bsU hb; have n1_ := Aside0.mk (hbox); have n2_ := geU hg; have n3_ := geU hg; clear HB; have HB := n0_; have BK330 := n1_; have GW330 := n2_; have GE330 := n3_; clear n0_ n1_ n2_ n3_; clear hb hbox hg; obtain ⟨hcz18_0, hcz18_1, hcz18_2, hfz18_0, hfz18_1, hfz18_2⟩ := b3U BK330) | (go_at_call 25; (with_reducible refine (impl_IsFrame.calls k a0_0 false a0_2 true _ A2.out).mono ?_); rintro e w19 ⟨rfl, hb⟩; have n0_ := bbU BK330 hb; have n1_ := bsU hb; clear BK330; clear HB; have BK330 := n0_; have HB := n1_; clear n0_ n1_; (try clear hb); (try clear hb2); (try clear hk); (try clear hi); obtain ⟨hcz20_0, hcz20_1, hcz20_2, hfz20_0, hfz20_1, hfz20_2⟩ := b3U BK330) | (go_at_call 85; (with_reducible refine (strconv_Itoa_85.calls a0_0 t334 _ A13.out).mono ?_); rintro e w' ⟨rfl, ⟨nd, rfl⟩⟩; (try first | exact ⟨rfl, _, World.drewN_drewN _ _ _⟩ | exact ⟨rfl, _, Eq.trans (World.drewN_drewN _ _ _) (congrArg (World.drewN _) (Nat.add_assoc _ _ _))⟩)) | (go_at_call 85; (with_reducible refine (strconv_Itoa_85.calls a0_2 t335 _ A15.out).mono ?_); rintro e w' ⟨rfl, ⟨nd, rfl⟩⟩; (try first | exact ⟨rfl, _, World.drewN_drewN _ _ _⟩ | exact ⟨rfl, _, Eq.trans (World.drewN_drewN _ _ _) (congrArg (World.drewN _) (Nat.add_assoc _ _ _))⟩))))
     go_ret2
     exact ⟨by first | rfl | (simp [errW_none, errW_some] <;> rfl) | (simp [*, errW_none, errW_some] <;> rfl), hbU⟩
    ·rw [if_neg c16] at H
     exact absurd H (by simp)
   ·rw [if_neg c14] at H
    exact absurd H (by simp)
 ·replace c3 := Bool.eq_false_iff.mpr c3
  subst c3
  rw [if_neg (show ¬ (false = true) by decide)] at H
  simp only [Option.some.injEq, Prod.mk.injEq] at H
  obtain ⟨rfl, rfl⟩ := H
  go_enter Tryz.func23, Tryz.ntmps23
  go_wp2_with (first | ((with_reducible refine gate_dst (N := 1) rfl ?_); refine bxU (cs := #[.int .i64 a0_0, .bool a0_1, .int .i64 a0_2]) (t := 25) ?_; intro gb330 hg w21 hbox hb; have n0_ := bsU hb; have n1_ := Aside0.mk (hbox); have n2_ := geU hg; have n3_ := geU hg; clear HB; have HB := n0_; have BK330 := n1_; have GW330 := n2_; have GE330 := n3_; clear n0_ n1_ n2_ n3_; clear hb hbox hg; obtain ⟨hcz22_0, hcz22_1, hcz22_2, hfz22_0, hfz22_1, hfz22_2⟩ := b3U BK330) | (go_at_call 25; (with_reducible refine (impl_IsFrame.calls k a0_0 a0_1 a0_2 false _ A2.out).mono ?_); rintro e w23 ⟨rfl, hb⟩; have n0_ := bbU BK330 hb; have n1_ := bsU hb; clear BK330; clear HB; have BK330 := n0_; have HB := n1_; clear n0_ n1_; (try clear hb); (try clear hb2); (try clear hk); (try clear hi)))
  repeat (go_quiet (first | ((with_reducible refine gate_dst (N := 1) rfl ?_); refine bxU (cs := #[.int .i64 a0_0, .bool a0_1, .int .i64 a0_2]) (t := 25) ?_; intro gb330 hg w21 hbox hb; have n0_ := bsU hb; have n1_ := Aside0.mk (hbox); have n2_ := geU hg; have n3_ := geU hg; clear HB; have HB := n0_; have BK330 := n1_; have GW330 := n2_; have GE330 := n3_; clear n0_ n1_ n2_ n3_; clear hb hbox hg; obtain ⟨hcz22_0, hcz22_1, hcz22_2, hfz22_0, hfz22_1, hfz22_2⟩ := b3U BK330) | (go_at_call 25; (with_reducible refine (impl_IsFrame.calls k a0_0 a0_1 a0_2 false _ A2.out).mono ?_); rintro e w23 ⟨rfl, hb⟩; have n0_ := bbU BK330 hb; have n1_ := bsU hb; clear BK330; clear HB; have BK330 := n0_; have HB := n1_; clear n0_ n1_; (try clear hb); (try clear hb2); (try clear hk); (try clear hi))); try go_wp2_with (first | ((with_reducible refine gate_dst (N := 1) rfl ?_); refine bxU (cs := #[.int .i64 a0_0, .bool a0_1, .int .i64 a0_2]) (t := 25) ?_; intro gb330 hg w21 hbox hb; have n0_ := bsU hb; have n1_ := Aside0.mk (hbox); have n2_ := geU hg; have n3_ := geU hg; clear HB; have HB := n0_; have BK330 := n1_; have GW330 := n2_; have GE330 := n3_; clear n0_ n1_ n2_ n3_; clear hb hbox hg; obtain ⟨hcz22_0, hcz22_1, hcz22_2, hfz22_0, hfz22_1, hfz22_2⟩ := b3U BK330) | (go_at_call 25; (with_reducible refine (impl_IsFrame.calls k a0_0 a0_1 a0_2 false _ A2.out).mono ?_); rintro e w23 ⟨rfl, hb⟩; have n0_ := bbU BK330 hb; have n1_ := bsU hb; clear BK330; clear HB; have BK330 := n0_; have HB := n1_; clear n0_ n1_; (try clear hb); (try clear hb2); (try clear hk); (try clear hi))))
  go_ret2
  exact ⟨by first | rfl | (simp [errW_none, errW_some] <;> rfl) | (simp [*, errW_none, errW_some] <;> rfl), hbU⟩
def spec_frText.f (k : Nat) (a0_0 : Int) (a0_1 : Bool) (a0_2 : Int) : Option (ByteArray) := if a0_1 = true then ((spec_l1Num.f k a0_0).bind fun t337 => (if t337.size + 1 ≤ 9223372036854775807 then ((spec_l1Num.f k a0_2).bind fun t338 => (if (t337 ++ (⟨#[99]⟩ : ByteArray)).size + t338.size ≤ 9223372036854775807 then (some ((t337 ++ (⟨#[99]⟩ : ByteArray)) ++ t338)) else (none))) else (none))) else ((spec_l1Num.f k a0_0).bind fun t339 => (if t339.size + 1 ≤ 9223372036854775807 then ((spec_l1Num.f k a0_2).bind fun t340 => (if (t339 ++ (⟨#[45]⟩ : ByteArray)).size + t340.size ≤ 9223372036854775807 then (some ((t339 ++ (⟨#[45]⟩ : ByteArray)) ++ t340)) else (none))) else (none)))
theorem spec_frText.mono : ∀ a0 a1 a2 k, LeO (spec_frText.f k a0 a1 a2) (spec_frText.f (k + 1) a0 a1 a2) := by
 intro a0 a1 a2 k
 unfold spec_frText.f
 repeat' first
   | (with_reducible exact spec_l1Num.mono _ _)
   | (with_reducible exact LeO.refl _)
   | (with_reducible exact LeO.none _)
   | (with_reducible refine LeO.ite ?_ ?_)
   | (with_reducible refine LeO.bind ?_ (fun _ => ?_))
   | exact spec_l1Num.mono _ _
   | exact LeO.none _
   | refine LeO.ite ?_ ?_
   | refine LeO.bind ?_ (fun _ => ?_)
def spec_frText.T4 : Bool × List (List Nat × List Nat) := (true, [([], []), ([0], [0]), ([1], [1]), ([], []), ([2, 3], [2, 3]), ([], []), ([5], [5]), ([6, 2], [6]), ([4, 7], [4, 7]), ([8, 7, 0, 1, 2, 3, 4, 5, 6, 7, 8], [8])])
def spec_frText.B4 : List Nat := [0, 1, 3, 0, 15, 0, 32, 103, 255, 511]
theorem spec_frText.tab4 : rtab .any (opsOf Tryz.f86 4) = spec_frText.T4 := by kernel_rfl
theorem spec_frText.bits4 : waitsOk spec_frText.T4.2 spec_frText.B4 = true := by kernel_rfl
set_option maxHeartbeats 8000000 in
set_option maxRecDepth 100000 in
theorem spec_frText.calls (k : Nat) (a0_0 : Int) (a0_1 : Bool) (a0_2 : Int) (r : ByteArray) (w : World) (h : spec_frText.f k a0_0 a0_1 a0_2 = some r) :
  Calls Tryz.prog 86 #[.agg #[.int .i64 a0_0, .bool a0_1, .int .i64 a0_2]] w fun e w' => e = .returned (.string r) ∧ Below w.heap.size w w' := by
 have hu25 := Tryz.underlying25
 have HB := Aside0.mk (Below.refl w.heap.size w)
 have H : (if a0_1 = true then ((spec_l1Num.f k a0_0).bind fun t337 => (if t337.size + 1 ≤ 9223372036854775807 then ((spec_l1Num.f k a0_2).bind fun t338 => (if (t337 ++ (⟨#[99]⟩ : ByteArray)).size + t338.size ≤ 9223372036854775807 then (some ((t337 ++ (⟨#[99]⟩ : ByteArray)) ++ t338)) else (none))) else (none))) else ((spec_l1Num.f k a0_0).bind fun t339 => (if t339.size + 1 ≤ 9223372036854775807 then ((spec_l1Num.f k a0_2).bind fun t340 => (if (t339 ++ (⟨#[45]⟩ : ByteArray)).size + t340.size ≤ 9223372036854775807 then (some ((t339 ++ (⟨#[45]⟩ : ByteArray)) ++ t340)) else (none))) else (none)))) = some r := h
 clear h
 by_cases c2 : a0_1 = true
 ·subst c2
  rw [if_pos rfl] at H
  replace H := Option.bind_eq_some_iff.mp H
  obtain ⟨t337, A30, H⟩ := H
  (try dsimp only at H)
  have A3 := Aside0.mk A30
  clear A30
  by_cases c4 : t337.size + 1 ≤ 9223372036854775807
  ·rw [if_pos c4] at H
   have c4b0 := eq_true c4
   have c4b1 : decide (t337.size + 1 ≤ 9223372036854775807) = true := decide_eq_true c4
   try have c4b2 : (9223372036854775807 < t337.size + 1) = False := eq_false (Nat.not_lt.2 c4)
   replace H := Option.bind_eq_some_iff.mp H
   obtain ⟨t338, A50, H⟩ := H
   (try dsimp only at H)
   have A5 := Aside0.mk A50
   clear A50
   by_cases c6 : (t337 ++ (⟨#[99]⟩ : ByteArray)).size + t338.size ≤ 9223372036854775807
   ·rw [if_pos c6] at H
    have c6b0 := eq_true c6
    have c6b1 : decide ((t337 ++ (⟨#[99]⟩ : ByteArray)).size + t338.size ≤ 9223372036854775807) = true := decide_eq_true c6
    try have c6b2 : (9223372036854775807 < (t337 ++ (⟨#[99]⟩ : ByteArray)).size + t338.size) = False := eq_false (Nat.not_lt.2 c6)
    have c6b3 : (9223372036854775807 < t337.size + 1 + t338.size) = False := eq_false (Nat.not_lt.2 (by have h_ := c6; rw [ByteArray.size_append] at h_; exact h_))
    obtain rfl := Option.some.inj H
    go_enter Tryz.func86, Tryz.ntmps86
    try go_wp2_with (first | ((with_reducible refine gate_dst (N := 1) rfl ?_); refine bxU (cs := #[.int .i64 a0_0, .bool true, .int .i64 a0_2]) (t := 25) ?_; intro gb336 hg w7 hbox hb; have n0_ := bsU hb; have n1_ := Aside0.mk (hbox); have n2_ := geU hg; have n3_ := geU hg; clear HB; have HB := n0_; have BK336 := n1_; have GW336 := n2_; have GE336 := n3_; clear n0_ n1_ n2_ n3_; clear hb hbox hg; obtain ⟨hcz8_0, hcz8_1, hcz8_2, hfz8_0, hfz8_1, hfz8_2⟩ := b3U BK336))
    have n0_ := Aside0.mk (blk_drew BK336.out)
    have n1_ := Aside0.mk (below_drew1 HB.out)
    clear BK336
    clear HB
    have BK336 := n0_
    have HB := n1_
    clear n0_ n1_
    refine start_ (n := 10) (S := fun w' => w'.cell? ⟨gb336, 0, none⟩ = some (.int .i64 a0_0) ∧ w'.cell? ⟨gb336, 1, none⟩ = some (.bool true) ∧ w'.cell? ⟨gb336, 2, none⟩ = some (.int .i64 a0_2)) (ds := []) #[false, false, false, false, false, false, false, false, false, false] (by kernel_rfl) rfl rfl (c3U BK336) (fun hHeld => ?_); refine with_tabW spec_frText.tab4 spec_frText.bits4 (fun HT_ HW_ => ?_)
    generalize w7.drew = w9 at BK336 HB hHeld ⊢
    refine puU 0 6 HT_ ?_
    refine puU 3 9 HT_ ?_
    refine puU 5 11 HT_ ?_
    refine tkU 1 7 HT_ HW_ hHeld ?_
    refine tkU 6 12 HT_ HW_ hHeld ?_
    refine onU 2 (some 8) HT_ (fun K hK => ?_)
    refine goes_ Tryz.func126 (by kernel_rfl) rfl #[.int .i64 a0_0] (by rfl) rfl rfl arU ?_
    with_reducible refine (spec_l1Num.calls k a0_0 t337 _ A3.out).mono ?_
    rintro e w10 ⟨rfl, hb⟩
    refine ⟨_, rfl, ?_⟩
    have n0_ := bbU BK336 hb
    have n1_ := bsU hb
    clear BK336
    clear HB
    have BK336 := n0_
    have HB := n1_
    clear n0_ n1_
    (try clear hb)
    refine hK.out _ _ (c3U BK336) (fun hHeld => ?_)
    clear hK K
    refine norm_ (a' := ?_) ?_ ?_
    rotate_left
    ·show Act.put _ (some 8) _ = _
     simp only [Act.put, List.setIfInBounds_toArray, List.set_cons_zero, List.set_cons_succ, i64_w, i32_w]
     rfl
    refine puU 4 10 HT_ ?_
    refine onU 7 (some 13) HT_ (fun K hK => ?_)
    refine goes_ Tryz.func126 (by kernel_rfl) rfl #[.int .i64 a0_2] (by rfl) rfl rfl arU ?_
    with_reducible refine (spec_l1Num.calls k a0_2 t338 _ A5.out).mono ?_
    rintro e w11 ⟨rfl, hb⟩
    refine ⟨_, rfl, ?_⟩
    have n0_ := bbU BK336 hb
    have n1_ := bsU hb
    clear BK336
    clear HB
    have BK336 := n0_
    have HB := n1_
    clear n0_ n1_
    (try clear hb)
    refine hK.out _ _ (c3U BK336) (fun hHeld => ?_)
    clear hK K
    refine norm_ (a' := ?_) ?_ ?_
    rotate_left
    ·show Act.put _ (some 13) _ = _
     simp only [Act.put, List.setIfInBounds_toArray, List.set_cons_zero, List.set_cons_succ, i64_w, i32_w]
     rfl
    refine puU 8 14 HT_ ?_
    refine puU 9 2 HT_ ?_
    refine dnU HT_ ?_
    try go_wp2
    go_ret
    exact ⟨by first | rfl | (simp [errW_none, errW_some] <;> rfl) | (simp [*, errW_none, errW_some] <;> rfl), hbU⟩
   ·rw [if_neg c6] at H
    exact absurd H (by simp)
  ·rw [if_neg c4] at H
   exact absurd H (by simp)
 ·replace c2 := Bool.eq_false_iff.mpr c2
  subst c2
  rw [if_neg (show ¬ (false = true) by decide)] at H
  replace H := Option.bind_eq_some_iff.mp H
  obtain ⟨t339, A120, H⟩ := H
  (try dsimp only at H)
  have A12 := Aside0.mk A120
  clear A120
  by_cases c13 : t339.size + 1 ≤ 9223372036854775807
  ·rw [if_pos c13] at H
   have c13b0 := eq_true c13
   have c13b1 : decide (t339.size + 1 ≤ 9223372036854775807) = true := decide_eq_true c13
   try have c13b2 : (9223372036854775807 < t339.size + 1) = False := eq_false (Nat.not_lt.2 c13)
   replace H := Option.bind_eq_some_iff.mp H
   obtain ⟨t340, A140, H⟩ := H
   (try dsimp only at H)
   have A14 := Aside0.mk A140
   clear A140
   by_cases c15 : (t339 ++ (⟨#[45]⟩ : ByteArray)).size + t340.size ≤ 9223372036854775807
   ·rw [if_pos c15] at H
    have c15b0 := eq_true c15
    have c15b1 : decide ((t339 ++ (⟨#[45]⟩ : ByteArray)).size + t340.size ≤ 9223372036854775807) = true := decide_eq_true c15
    try have c15b2 : (9223372036854775807 < (t339 ++ (⟨#[45]⟩ : ByteArray)).size + t340.size) = False := eq_false (Nat.not_lt.2 c15)
    have c15b3 : (9223372036854775807 < t339.size + 1 + t340.size) = False := eq_false (Nat.not_lt.2 (by have h_ := c15; rw [ByteArray.size_append] at h_; exact h_))
    obtain rfl := Option.some.inj H
    go_enter Tryz.func86, Tryz.ntmps86
    try go_wp2_with (first | ((with_reducible refine gate_dst (N := 1) rfl ?_); refine bxU (cs := #[.int .i64 a0_0, .bool false, .int .i64 a0_2]) (t := 25) ?_; intro gb336 hg w16 hbox hb; have n0_ := bsU hb; have n1_ := Aside0.mk (hbox); have n2_ := geU hg; have n3_ := geU hg; clear HB; have HB := n0_; have BK336 := n1_; have GW336 := n2_; have GE336 := n3_; clear n0_ n1_ n2_ n3_; clear hb hbox hg; obtain ⟨hcz17_0, hcz17_1, hcz17_2, hfz17_0, hfz17_1, hfz17_2⟩ := b3U BK336))
    have n0_ := Aside0.mk (blk_drew BK336.out)
    have n1_ := Aside0.mk (below_drew1 HB.out)
    clear BK336
    clear HB
    have BK336 := n0_
    have HB := n1_
    clear n0_ n1_
    refine start_ (n := 10) (S := fun w' => w'.cell? ⟨gb336, 0, none⟩ = some (.int .i64 a0_0) ∧ w'.cell? ⟨gb336, 1, none⟩ = some (.bool false) ∧ w'.cell? ⟨gb336, 2, none⟩ = some (.int .i64 a0_2)) (ds := []) #[false, false, false, false, false, false, false, false, false, false] (by kernel_rfl) rfl rfl (c3U BK336) (fun hHeld => ?_); refine with_tabW spec_frText.tab4 spec_frText.bits4 (fun HT_ HW_ => ?_)
    generalize w16.drew = w18 at BK336 HB hHeld ⊢
    refine puU 0 6 HT_ ?_
    refine puU 3 9 HT_ ?_
    refine puU 5 11 HT_ ?_
    refine tkU 1 7 HT_ HW_ hHeld ?_
    refine tkU 6 12 HT_ HW_ hHeld ?_
    refine onU 2 (some 8) HT_ (fun K hK => ?_)
    refine goes_ Tryz.func126 (by kernel_rfl) rfl #[.int .i64 a0_0] (by rfl) rfl rfl arU ?_
    with_reducible refine (spec_l1Num.calls k a0_0 t339 _ A12.out).mono ?_
    rintro e w19 ⟨rfl, hb⟩
    refine ⟨_, rfl, ?_⟩
    have n0_ := bbU BK336 hb
    have n1_ := bsU hb
    clear BK336
    clear HB
    have BK336 := n0_
    have HB := n1_
    clear n0_ n1_
    (try clear hb)
    refine hK.out _ _ (c3U BK336) (fun hHeld => ?_)
    clear hK K
    refine norm_ (a' := ?_) ?_ ?_
    rotate_left
    ·show Act.put _ (some 8) _ = _
     simp only [Act.put, List.setIfInBounds_toArray, List.set_cons_zero, List.set_cons_succ, i64_w, i32_w]
     rfl
    refine puU 4 10 HT_ ?_
    refine onU 7 (some 13) HT_ (fun K hK => ?_)
    refine goes_ Tryz.func126 (by kernel_rfl) rfl #[.int .i64 a0_2] (by rfl) rfl rfl arU ?_
    with_reducible refine (spec_l1Num.calls k a0_2 t340 _ A14.out).mono ?_
    rintro e w20 ⟨rfl, hb⟩
    refine ⟨_, rfl, ?_⟩
    have n0_ := bbU BK336 hb
    have n1_ := bsU hb
    clear BK336
    clear HB
    have BK336 := n0_
    have HB := n1_
    clear n0_ n1_
    (try clear hb)
    refine hK.out _ _ (c3U BK336) (fun hHeld => ?_)
    clear hK K
    refine norm_ (a' := ?_) ?_ ?_
    rotate_left
    ·show Act.put _ (some 13) _ = _
     simp only [Act.put, List.setIfInBounds_toArray, List.set_cons_zero, List.set_cons_succ, i64_w, i32_w]
     rfl
    refine puU 8 14 HT_ ?_
    refine puU 9 2 HT_ ?_
    refine dnU HT_ ?_
    try go_wp2
    go_ret
    exact ⟨by first | rfl | (simp [errW_none, errW_some] <;> rfl) | (simp [*, errW_none, errW_some] <;> rfl), hbU⟩
   ·rw [if_neg c15] at H
    exact absurd H (by simp)
  ·rw [if_neg c13] at H
   exact absurd H (by simp)
def spec_FrameText.f (k : Nat) (a0_0 : Int) (a0_1 : Bool) (a0_2 : Int) : Option (ByteArray × Bool) := (spec_frGood.f a0_0 a0_1 a0_2).bind fun t342 => (if t342 = true then ((spec_frText.f k a0_0 a0_1 a0_2).bind fun t343 => (some (t343, true))) else (some ((⟨#[]⟩ : ByteArray), false)))
theorem spec_FrameText.mono : ∀ a0 a1 a2 k, LeO (spec_FrameText.f k a0 a1 a2) (spec_FrameText.f (k + 1) a0 a1 a2) := by
 intro a0 a1 a2 k
 unfold spec_FrameText.f
 repeat' first
   | (with_reducible exact spec_frText.mono _ _ _ _)
   | (with_reducible exact LeO.refl _)
   | (with_reducible exact LeO.none _)
   | (with_reducible refine LeO.ite ?_ ?_)
   | (with_reducible refine LeO.bind ?_ (fun _ => ?_))
   | exact spec_frText.mono _ _ _ _
   | exact LeO.none _
   | refine LeO.ite ?_ ?_
   | refine LeO.bind ?_ (fun _ => ?_)
set_option maxHeartbeats 8000000 in
set_option maxRecDepth 100000 in
theorem spec_FrameText.calls (k : Nat) (a0_0 : Int) (a0_1 : Bool) (a0_2 : Int) (r1 : ByteArray) (r2 : Bool) (w : World) (h : spec_FrameText.f k a0_0 a0_1 a0_2 = some (r1, r2)) :
  Calls Tryz.prog 24 #[.agg #[.int .i64 a0_0, .bool a0_1, .int .i64 a0_2]] w fun e w' => e = .returned (.tuple #[.string r1, .bool r2]) ∧ Below w.heap.size w w' := by
 have hu25 := Tryz.underlying25
 have HB := Aside0.mk (Below.refl w.heap.size w)
 have H : ((spec_frGood.f a0_0 a0_1 a0_2).bind fun t342 => (if t342 = true then ((spec_frText.f k a0_0 a0_1 a0_2).bind fun t343 => (some (t343, true))) else (some ((⟨#[]⟩ : ByteArray), false)))) = some (r1, r2) := h
 clear h
 replace H := Option.bind_eq_some_iff.mp H
 obtain ⟨t342, A20, H⟩ := H
 (try dsimp only at H)
 have A2 := Aside0.mk A20
 clear A20
 by_cases c3 : t342 = true
 ·subst c3
  rw [if_pos rfl] at H
  replace H := Option.bind_eq_some_iff.mp H
  obtain ⟨t343, A40, H⟩ := H
  (try dsimp only at H)
  have A4 := Aside0.mk A40
  clear A40
  simp only [Option.some.injEq, Prod.mk.injEq] at H
  obtain ⟨rfl, rfl⟩ := H
  go_enter Tryz.func24, Tryz.ntmps24
  go_wp2_with (first | ((with_reducible refine gate_dst (N := 1) rfl ?_); refine bxU (cs := #[.int .i64 a0_0, .bool a0_1, .int .i64 a0_2]) (t := 25) ?_; intro gb341 hg w5 hbox hb; have n0_ := bsU hb; have n1_ := Aside0.mk (hbox); have n2_ := geU hg; have n3_ := geU hg; clear HB; have HB := n0_; have BK341 := n1_; have GW341 := n2_; have GE341 := n3_; clear n0_ n1_ n2_ n3_; clear hb hbox hg; obtain ⟨hcz6_0, hcz6_1, hcz6_2, hfz6_0, hfz6_1, hfz6_2⟩ := b3U BK341) | ((with_reducible refine gate_callee (f := 78) rfl ?_); refine goU (some 5) Tryz.func78 #[.agg #[.int .i64 a0_0, .bool a0_1, .int .i64 a0_2]] ?_; (with_reducible refine (spec_frGood.calls a0_0 a0_1 a0_2 true _ A2.out).mono ?_); rintro e w7 ⟨rfl, hb⟩; refine ⟨_, rfl, ?_⟩; have n0_ := bbU BK341 hb; have n1_ := bsU hb; clear BK341; clear HB; have BK341 := n0_; have HB := n1_; clear n0_ n1_; (try clear hb); (try clear hb2); (try clear hk); (try clear hi); obtain ⟨hcz8_0, hcz8_1, hcz8_2, hfz8_0, hfz8_1, hfz8_2⟩ := b3U BK341) | ((with_reducible refine gate_callee (f := 86) rfl ?_); refine goU (some 8) Tryz.func86 #[.agg #[.int .i64 a0_0, .bool a0_1, .int .i64 a0_2]] ?_; (with_reducible refine (spec_frText.calls k a0_0 a0_1 a0_2 t343 _ A4.out).mono ?_); rintro e w9 ⟨rfl, hb⟩; refine ⟨_, rfl, ?_⟩; have n0_ := bbU BK341 hb; have n1_ := bsU hb; clear BK341; clear HB; have BK341 := n0_; have HB := n1_; clear n0_ n1_; (try clear hb); (try clear hb2); (try clear hk); (try clear hi)))
  go_ret2
  exact ⟨by first | rfl | (simp [errW_none, errW_some] <;> rfl) | (simp [*, errW_none, errW_some] <;> rfl), hbU⟩
 ·replace c3 := Bool.eq_false_iff.mpr c3
  subst c3
  rw [if_neg (show ¬ (false = true) by decide)] at H
  simp only [Option.some.injEq, Prod.mk.injEq] at H
  obtain ⟨rfl, rfl⟩ := H
  go_enter Tryz.func24, Tryz.ntmps24
  go_wp2_with (first | ((with_reducible refine gate_dst (N := 1) rfl ?_); refine bxU (cs := #[.int .i64 a0_0, .bool a0_1, .int .i64 a0_2]) (t := 25) ?_; intro gb341 hg w10 hbox hb; have n0_ := bsU hb; have n1_ := Aside0.mk (hbox); have n2_ := geU hg; have n3_ := geU hg; clear HB; have HB := n0_; have BK341 := n1_; have GW341 := n2_; have GE341 := n3_; clear n0_ n1_ n2_ n3_; clear hb hbox hg; obtain ⟨hcz11_0, hcz11_1, hcz11_2, hfz11_0, hfz11_1, hfz11_2⟩ := b3U BK341) | ((with_reducible refine gate_callee (f := 78) rfl ?_); refine goU (some 5) Tryz.func78 #[.agg #[.int .i64 a0_0, .bool a0_1, .int .i64 a0_2]] ?_; (with_reducible refine (spec_frGood.calls a0_0 a0_1 a0_2 false _ A2.out).mono ?_); rintro e w12 ⟨rfl, hb⟩; refine ⟨_, rfl, ?_⟩; have n0_ := bbU BK341 hb; have n1_ := bsU hb; clear BK341; clear HB; have BK341 := n0_; have HB := n1_; clear n0_ n1_; (try clear hb); (try clear hb2); (try clear hk); (try clear hi)))
  go_ret2
  exact ⟨by first | rfl | (simp [errW_none, errW_some] <;> rfl) | (simp [*, errW_none, errW_some] <;> rfl), hbU⟩
def spec_IsFrame.f (a0_0 : Int) (a0_1 : Bool) (a0_2 : Int) : Option (Bool) := (spec_frGood.f a0_0 a0_1 a0_2).bind fun t345 => (some t345)
set_option maxHeartbeats 8000000 in
set_option maxRecDepth 100000 in
theorem spec_IsFrame.calls (a0_0 : Int) (a0_1 : Bool) (a0_2 : Int) (r : Bool) (w : World) (h : spec_IsFrame.f a0_0 a0_1 a0_2 = some r) :
  Calls Tryz.prog 26 #[.agg #[.int .i64 a0_0, .bool a0_1, .int .i64 a0_2]] w fun e w' => e = .returned (.bool r) ∧ Below w.heap.size w w' := by
 have hu25 := Tryz.underlying25
 have HB := Aside0.mk (Below.refl w.heap.size w)
 have H : ((spec_frGood.f a0_0 a0_1 a0_2).bind fun t345 => (some t345)) = some r := h
 clear h
 replace H := Option.bind_eq_some_iff.mp H
 obtain ⟨t345, A20, H⟩ := H
 (try dsimp only at H)
 have A2 := Aside0.mk A20
 clear A20
 obtain rfl := Option.some.inj H
 go_enter Tryz.func26, Tryz.ntmps26
 go_wp2_with (first | ((with_reducible refine gate_dst (N := 1) rfl ?_); refine bxU (cs := #[.int .i64 a0_0, .bool a0_1, .int .i64 a0_2]) (t := 25) ?_; intro gb344 hg w3 hbox hb; have n0_ := bsU hb; have n1_ := Aside0.mk (hbox); have n2_ := geU hg; have n3_ := geU hg; clear HB; have HB := n0_; have BK344 := n1_; have GW344 := n2_; have GE344 := n3_; clear n0_ n1_ n2_ n3_; clear hb hbox hg; obtain ⟨hcz4_0, hcz4_1, hcz4_2, hfz4_0, hfz4_1, hfz4_2⟩ := b3U BK344) | ((with_reducible refine gate_callee (f := 78) rfl ?_); refine goU (some 4) Tryz.func78 #[.agg #[.int .i64 a0_0, .bool a0_1, .int .i64 a0_2]] ?_; (with_reducible refine (spec_frGood.calls a0_0 a0_1 a0_2 t345 _ A2.out).mono ?_); rintro e w5 ⟨rfl, hb⟩; refine ⟨_, rfl, ?_⟩; have n0_ := bbU BK344 hb; have n1_ := bsU hb; clear BK344; clear HB; have BK344 := n0_; have HB := n1_; clear n0_ n1_; (try clear hb); (try clear hb2); (try clear hk); (try clear hi)))
 go_ret
 exact ⟨by first | rfl | (simp [errW_none, errW_some] <;> rfl) | (simp [*, errW_none, errW_some] <;> rfl), hbU⟩
def strings_Trim.f (a0 : ByteArray) (a1 : ByteArray) : Option (ByteArray) := if a0.size ≤ 9223372036854775807 ∧ a1.size < 4294967281 ∧ a1.data.toList.all (fun b => decide (b.toNat < 128)) = true then (some ⟨(Lib.trimS a0.data.toList a1.data.toList).toArray⟩) else none
set_option maxHeartbeats 8000000 in
set_option maxRecDepth 100000 in
theorem strings_Trim.calls (a0 : ByteArray) (a1 : ByteArray) (r : ByteArray) (w : World) (h : strings_Trim.f a0 a1 = some r) :
  Calls Tryz.prog 88 #[.string a0, .string a1] w fun e w' => e = .returned (.string r) ∧ Below w.heap.size w w' := by
 unfold strings_Trim.f at h
 split at h
 ·rename_i hs
  injection h with h
  subst h
  exact Tryz.strings_Trim_any a0 a1 w hs.1 hs.2.1 hs.2.2
 ·cases h
end Go.Proofs.YtcmlmjgoidpabaaGreatDoor.MFnFramesPotted

