/- Walks of the functions that the law reaches: each comes to just what the function that is told of it tells, for all arguments. -/
import Derived.Test.YtcmlmjgoidpabaaGreatDoorZMFnFramesPottedx0
import Derived.Test.YtcmlmjgoidpabaaGreatDoorZMFnFramesPottedx2
import Derived.Test.YtcmlmjgoidpabaaGreatDoorZMFnFramesPottedx3
import Derived.Test.YtcmlmjgoidpabaaGreatDoorZMFnFramesPottedx10
namespace Go.Proofs.YtcmlmjgoidpabaaGreatDoor.MFnFramesPotted
open Go.RowKit Go.Proofs.YtcmlmjgoidpabaaGreatDoorW.PrintWords Go.Proofs.YtcmlmjgoidpabaaGreatDoorW.PrintLast Go.Proofs.YtcmlmjgoidpabaaGreatDoorW.PrintMore
attribute [local go_sem] max2_int min2_int max_two min_two max_three min_three max_four min_four
set_option linter.unusedVariables false
set_option linter.unusedSimpArgs false
def spec_DrawPotBall.j0 : Nat → Bool → List Int → Int → Int → Int → Bool → Int → Option (Int × Bool × Int × ByteArray)
 | 0, _, _, _, _, _, _, _ => none
 | k + 1, x18, x372000, x372001, x372002, x378000, x378001, x378002 => if x18 = true then ((spec_frNext.f k x378000 x378001 x378002).bind fun t382 => (if t382.toList = ([] : List UInt8) then ((spec_l1Cur_of.f x372000 x372001 x372002 (([(⟨#[49]⟩ : ByteArray), (⟨#[50]⟩ : ByteArray), (⟨#[51]⟩ : ByteArray), (⟨#[55]⟩ : ByteArray), (⟨#[56]⟩ : ByteArray), (⟨#[]⟩ : ByteArray), (⟨#[49, 50]⟩ : ByteArray)] : List ByteArray))).bind fun bt386 => (some (x378000, x378001, x378002, bt386.1))) else ((spec_l1Cur_pick.f x372000 x372001 x372002 (t382.size : Int)).bind fun bt389 => (if 0 ≤ bt389.1 then (if bt389.1 ≤ (wrap64 (bt389.1 + 1)) then (if (wrap64 (bt389.1 + 1)) ≤ (t382.size : Int) then (some (x378000, x378001, x378002, t382.extract (bt389.1 : Int).toNat ((wrap64 (bt389.1 + 1)) : Int).toNat)) else (none)) else (none)) else (none))))) else ((spec_l1Cur_of.f x372000 x372001 x372002 (([(⟨#[49]⟩ : ByteArray), (⟨#[50]⟩ : ByteArray), (⟨#[51]⟩ : ByteArray), (⟨#[55]⟩ : ByteArray), (⟨#[56]⟩ : ByteArray), (⟨#[]⟩ : ByteArray), (⟨#[49, 50]⟩ : ByteArray)] : List ByteArray))).bind fun bt395 => (some (x378000, x378001, x378002, bt395.1)))
def spec_DrawPotBall.f (k : Nat) (l0 : List Int) : Option (Int × Bool × Int × ByteArray) := (spec_l1Cur_frame.f l0 0 0).bind fun bt372 => ((spec_frGood.f bt372.1 bt372.2.1 bt372.2.2.1).bind fun t378 => (if t378 = true then ((spec_l1Cur_one.f l0 bt372.2.2.2.1 bt372.2.2.2.2 2).bind fun bt379 => (spec_DrawPotBall.j0 k bt379.1 l0 bt379.2.1 bt379.2.2 bt372.1 bt372.2.1 bt372.2.2.1)) else (spec_DrawPotBall.j0 k false l0 bt372.2.2.2.1 bt372.2.2.2.2 bt372.1 bt372.2.1 bt372.2.2.1)))
theorem spec_DrawPotBall.mono_l : ∀ k, (∀ y0 y1 y2 y3 y4 y5 y6, LeO (spec_DrawPotBall.j0 k y0 y1 y2 y3 y4 y5 y6) (spec_DrawPotBall.j0 (k + 1) y0 y1 y2 y3 y4 y5 y6))
 | 0 => fun _ _ _ _ _ _ _ r h => by simp [spec_DrawPotBall.j0] at h
 | k + 1 => by
  have ih0 := spec_DrawPotBall.mono_l k
  ·intro y0 y1 y2 y3 y4 y5 y6
   unfold spec_DrawPotBall.j0
   repeat' first
   | (with_reducible exact ih0 _ _ _ _ _ _ _)
   | (with_reducible exact spec_frNext.mono _ _ _ _)
   | (with_reducible exact LeO.refl _)
   | (with_reducible exact LeO.none _)
   | (with_reducible refine LeO.ite ?_ ?_)
   | (with_reducible refine LeO.bind ?_ (fun _ => ?_))
   | exact ih0 _ _ _ _ _ _ _
   | exact spec_frNext.mono _ _ _ _
   | exact LeO.none _
   | refine LeO.ite ?_ ?_
   | refine LeO.bind ?_ (fun _ => ?_)
theorem spec_DrawPotBall.mono : ∀ a0 k, LeO (spec_DrawPotBall.f k a0) (spec_DrawPotBall.f (k + 1) a0) := by
 intro a0 k
 have ih0 := spec_DrawPotBall.mono_l k
 unfold spec_DrawPotBall.f
 repeat' first
   | (with_reducible exact ih0 _ _ _ _ _ _ _)
   | (with_reducible exact spec_frNext.mono _ _ _ _)
   | (with_reducible exact LeO.refl _)
   | (with_reducible exact LeO.none _)
   | (with_reducible refine LeO.ite ?_ ?_)
   | (with_reducible refine LeO.bind ?_ (fun _ => ?_))
   | exact ih0 _ _ _ _ _ _ _
   | exact spec_frNext.mono _ _ _ _
   | exact LeO.none _
   | refine LeO.ite ?_ ?_
   | refine LeO.bind ?_ (fun _ => ?_)
def spec_DrawPotBall.T7 : Bool × List (List Nat × List Nat) := (true, [([], []), ([], []), ([], []), ([], []), ([3], [3]), ([1, 2, 4], [1, 2, 4]), ([0, 0], [0]), ([5, 6, 0, 1, 2, 3, 4, 5, 6], [5])])
def spec_DrawPotBall.B7 : List Nat := [0, 0, 0, 0, 8, 30, 1, 127]
theorem spec_DrawPotBall.tab7 : rtab .any (opsOf Tryz.f30 7) = spec_DrawPotBall.T7 := by kernel_rfl
theorem spec_DrawPotBall.bits7 : waitsOk spec_DrawPotBall.T7.2 spec_DrawPotBall.B7 = true := by kernel_rfl
set_option maxHeartbeats 8000000 in
set_option maxRecDepth 100000 in
theorem spec_DrawPotBall.calls (k : Nat) (A0 : Option Addr) (c0 : Nat) (l0 : List Int) (r1 : Int) (r2 : Bool) (r3 : Int) (r4 : ByteArray) (w : World) (hr0 : Kd.C (Kd.int .u8) w A0 l0.length l0) (hc0 : l0.length ≤ c0) (h : spec_DrawPotBall.f k l0 = some (r1, r2, r3, r4)) :
  Calls Tryz.prog 30 #[.slice A0 l0.length c0] w fun e w' => e = .returned (.tuple #[.agg #[.int .i64 r1, .bool r2, .int .i64 r3], .string r4]) ∧ Below w.heap.size w w' := by
 have hu25 := Tryz.underlying25
 have hu78 := Tryz.underlying78
 have HR0 := Aside0.mk hr0
 have HC0 := Aside0.mk hc0
 clear hr0 hc0
 have HB := Aside0.mk (Below.refl w.heap.size w)
 have H : ((spec_l1Cur_frame.f l0 0 0).bind fun bt372 => ((spec_frGood.f bt372.1 bt372.2.1 bt372.2.2.1).bind fun t378 => (if t378 = true then ((spec_l1Cur_one.f l0 bt372.2.2.2.1 bt372.2.2.2.2 2).bind fun bt379 => (spec_DrawPotBall.j0 k bt379.1 l0 bt379.2.1 bt379.2.2 bt372.1 bt372.2.1 bt372.2.2.1)) else (spec_DrawPotBall.j0 k false l0 bt372.2.2.2.1 bt372.2.2.2.2 bt372.1 bt372.2.1 bt372.2.2.1)))) = some (r1, r2, r3, r4) := h
 clear h
 replace H := Option.bind_eq_some_iff.mp H
 obtain ⟨⟨t372, t373, t374, t375, t376⟩, A20, H⟩ := H
 (try dsimp only at H)
 have A2 := Aside0.mk A20
 clear A20
 have HC3 := Aside0.mk H
 clear H
 go_enter Tryz.func30, Tryz.ntmps30
 go_upto_region 3 with (first | ((with_reducible refine gate_dst (N := 2) rfl ?_); refine bxU (cs := #[.int .i64 0, .bool false, .int .i64 0]) (t := 25) ?_; intro gb370 hg w4 hbox hb; have n0_ := bsU hb; have n1_ := Aside0.mk (hbox); have n2_ := geU hg; have n3_ := geU hg; clear HB; have HB := n0_; have BK370 := n1_; have GW370 := n2_; have GE370 := n3_; clear n0_ n1_ n2_ n3_; clear hb hbox hg) | ((with_reducible refine gate_dst (N := 10) rfl ?_); refine bxU (cs := #[.slice A0 l0.length c0, .int .i64 0, .int .u64 0]) (t := 78) ?_; intro gb371 hg w5 hbox hb; have n0_ := bbU BK370 hb; have n1_ := bsU hb; have n2_ := Aside0.mk ((⟨_, _, hbox, (by rw [hg]; exact (below_size hbU) : w.heap.size ≤ gb371), HR0.out⟩ : IsS78 w w5 gb371 l0 0 0)); have n3_ := geU hg; have n4_ := geU hg; have n5_ := neU BK370 hg; have n6_ := enU BK370 hg; clear BK370; clear HB; have BK370 := n0_; have HB := n1_; have HI371 := n2_; have GW371 := n3_; have GE371 := n4_; have NB370_371 := n5_; have NB371_370 := n6_; clear n0_ n1_ n2_ n3_ n4_ n5_ n6_; clear hb hbox hg) | ((with_reducible refine gate_callee (f := 75) rfl ?_); refine goU (some 12) Tryz.func75 #[.pointer (some ⟨gb371, 0, none⟩)] ?_; (with_reducible refine (spec_l1Cur_frame.calls gb371 l0 0 0 t372 t373 t374 t375 t376 w _ ?side1 ?side2 A2.out).mono ?_); (case side1 => repeat (first | (with_reducible first | exact HI371.out | apply IsS78.alloc | apply IsS78.drewN | apply IsS78.drew | apply IsS78.set_1 | apply IsS78.set_2 | refine IsS78.far ?_ NB371_370.out _) | exact HI371.out)); (case side2 => repeat (first | (with_reducible first | exact HB.out | apply below_alloc | apply pw_below_drewN | apply below_drew1 | refine below_set ?_ (IsS78.ge HI371.out) | refine below_set ?_ GE370.out) | exact HB.out)); rintro e w6 ⟨rfl, hi, hb, hk⟩; refine ⟨_, rfl, ?_⟩; have n0_ := Aside0.mk (KeepBut.blk hk (g' := gb370) (o := .cells #[.int .i64 0, .bool false, .int .i64 0] 25 (0, 0)) bkU NB370_371.out (by simp)); have n1_ := Aside0.mk (hb); have n2_ := Aside0.mk (hi); clear BK370; clear HB; clear HI371; have BK370 := n0_; have HB := n1_; have HI371 := n2_; clear n0_ n1_ n2_; (try clear hb); (try clear hb2); (try clear hk); (try clear hi)) | ((with_reducible refine gate_dst (N := 5) rfl ?_); refine bxU (cs := #[.int .i64 0, .bool false, .int .i64 0]) (t := 25) ?_; intro gb377 hg w7 hbox hb; have n0_ := bbU BK370 hb; have n1_ := Aside0.mk (IsS78.below (by repeat (first | (with_reducible first | exact HI371.out | apply IsS78.alloc | apply IsS78.drewN | apply IsS78.drew | apply IsS78.set_1 | apply IsS78.set_2 | refine IsS78.far ?_ NB371_370.out _) | exact HI371.out)) hb); have n2_ := bsU hb; have n3_ := Aside0.mk (hbox); have n4_ := geU hg; have n5_ := geU hg; have n6_ := neU BK370 hg; have n7_ := enU BK370 hg; have n8_ := Aside0.mk ((by rw [hg]; exact Nat.ne_of_lt (IsS78.lt (show IsS78 w _ gb371 l0 t375 t376 from by repeat (first | (with_reducible first | exact HI371.out | apply IsS78.alloc | apply IsS78.drewN | apply IsS78.drew | apply IsS78.set_1 | apply IsS78.set_2 | refine IsS78.far ?_ NB371_370.out _) | exact HI371.out))) : gb371 ≠ gb377)); have n9_ := Aside0.mk ((by rw [hg]; exact Nat.ne_of_gt (IsS78.lt (show IsS78 w _ gb371 l0 t375 t376 from by repeat (first | (with_reducible first | exact HI371.out | apply IsS78.alloc | apply IsS78.drewN | apply IsS78.drew | apply IsS78.set_1 | apply IsS78.set_2 | refine IsS78.far ?_ NB371_370.out _) | exact HI371.out))) : gb377 ≠ gb371)); clear BK370; clear HI371; clear HB; have BK370 := n0_; have HI371 := n1_; have HB := n2_; have BK377 := n3_; have GW377 := n4_; have GE377 := n5_; have NB370_377 := n6_; have NB377_370 := n7_; have NB371_377 := n8_; have NB377_371 := n9_; clear n0_ n1_ n2_ n3_ n4_ n5_ n6_ n7_ n8_ n9_; clear hb hbox hg; have hnb8 := NB377_370.out; have hnc8 := NB370_377.out; have hnb9 := NB377_371.out; have hnc9 := NB371_377.out; obtain ⟨hcz10_0, hcz10_1, hcz10_2, hfz10_0, hfz10_1, hfz10_2⟩ := b3U BK377))
 (try simp only [Act.put, List.setIfInBounds_toArray, List.set_cons_zero, List.set_cons_succ])
 go_cut [18] (fun v18 wc => ∃ (kq : Nat) (x18_2 : Bool) (x372001_2 : Int) (x372002_2 : Int), v18 = .bool x18_2 ∧ Aside0 (spec_DrawPotBall.j0 kq x18_2 l0 x372001_2 x372002_2 t372 t373 t374 = some (r1, r2, r3, r4)) ∧ Aside0 (kq ≤ k) ∧ Aside0 (wc.heap[gb370]? = some (.cells #[.int .i64 0, .bool false, .int .i64 0] 25 (0, 0))) ∧ Aside0 (wc.heap[gb377]? = some (.cells #[.int .i64 t372, .bool t373, .int .i64 t374] 25 (0, 0))) ∧ Aside0 (IsS78 w wc gb371 l0 x372001_2 x372002_2) ∧ Aside0 (Below w.heap.size w wc))
 case first =>
  have H := HC3.out
  clear HC3
  replace H := Option.bind_eq_some_iff.mp H
  obtain ⟨t378, A110, H⟩ := H
  (try dsimp only at H)
  have A11 := Aside0.mk A110
  clear A110
  by_cases c12 : t378 = true
  ·subst c12
   rw [if_pos rfl] at H
   replace H := Option.bind_eq_some_iff.mp H
   obtain ⟨⟨t379, t380, t381⟩, A130, H⟩ := H
   (try dsimp only at H)
   have A13 := Aside0.mk A130
   clear A130
   have H' := Aside0.mk H
   clear H
   have hnb14 := NB377_370.out
   have hnc14 := NB370_377.out
   have hnb15 := NB377_371.out
   have hnc15 := NB371_377.out
   obtain ⟨hcz16_0, hcz16_1, hcz16_2, hfz16_0, hfz16_1, hfz16_2⟩ := b3U BK377
   go_wp2_with (first | ((with_reducible refine gate_callee (f := 78) rfl ?_); refine goU (some 14) Tryz.func78 #[.agg #[.int .i64 t372, .bool t373, .int .i64 t374]] ?_; (with_reducible refine (spec_frGood.calls t372 t373 t374 true _ A11.out).mono ?_); rintro e w17 ⟨rfl, hb⟩; refine ⟨_, rfl, ?_⟩; have n0_ := bbU BK370 hb; have n1_ := Aside0.mk (IsS78.below (show IsS78 w (((w7.setCell ⟨gb377, 0, none⟩ (.int .i64 t372)).setCell ⟨gb377, 1, none⟩ (.bool t373)).setCell ⟨gb377, 2, none⟩ (.int .i64 t374)) gb371 l0 t375 t376 from by repeat (first | (with_reducible first | exact HI371.out | apply IsS78.alloc | apply IsS78.drewN | apply IsS78.drew | apply IsS78.set_1 | apply IsS78.set_2 | refine IsS78.far ?_ NB371_370.out _ | refine IsS78.far ?_ NB371_377.out _) | exact HI371.out)) hb); have n2_ := Aside0.mk (blk_below (g := gb377) (o := .cells #[.int .i64 t372, .bool t373, .int .i64 t374] 25 (0, 0)) bkU hb); have n3_ := bsU hb; clear BK370; clear HI371; clear BK377; clear HB; have BK370 := n0_; have HI371 := n1_; have BK377 := n2_; have HB := n3_; clear n0_ n1_ n2_ n3_; (try clear hb); (try clear hb2); (try clear hk); (try clear hi)) | (go_at_call 91; (with_reducible refine (spec_l1Cur_one.calls gb371 l0 t375 t376 2 t379 t380 t381 w _ ?side1 ?side2 A13.out).mono ?_); (case side1 => repeat (first | (with_reducible first | exact HI371.out | apply IsS78.alloc | apply IsS78.drewN | apply IsS78.drew | apply IsS78.set_1 | apply IsS78.set_2 | refine IsS78.far ?_ NB371_370.out _ | refine IsS78.far ?_ NB371_377.out _) | exact HI371.out)); (case side2 => repeat (first | (with_reducible first | exact HB.out | apply below_alloc | apply pw_below_drewN | apply below_drew1 | refine below_set ?_ (IsS78.ge HI371.out) | refine below_set ?_ GE370.out | refine below_set ?_ GE377.out) | exact HB.out)); rintro e w18 ⟨rfl, hi, hb, hk⟩; have n0_ := Aside0.mk (KeepBut.blk hk (g' := gb370) (o := .cells #[.int .i64 0, .bool false, .int .i64 0] 25 (0, 0)) bkU NB370_371.out (by simp)); have n1_ := Aside0.mk (KeepBut.blk hk (g' := gb377) (o := .cells #[.int .i64 t372, .bool t373, .int .i64 t374] 25 (0, 0)) bkU NB377_371.out (by simp)); have n2_ := Aside0.mk (hb); have n3_ := Aside0.mk (hi); clear BK370; clear BK377; clear HB; clear HI371; have BK370 := n0_; have BK377 := n1_; have HB := n2_; have HI371 := n3_; clear n0_ n1_ n2_ n3_; (try clear hb); (try clear hb2); (try clear hk); (try clear hi)))
   go_meet
   case rel => exact ⟨_, (t379), (t380), (t381), eqU, H', ⟨by first | omega | exact Nat.le_refl _⟩, ⟨bkU⟩, ⟨bkU⟩, ⟨by repeat (first | (with_reducible first | exact HI371.out | apply IsS78.alloc | apply IsS78.drewN | apply IsS78.drew | apply IsS78.set_1 | apply IsS78.set_2 | refine IsS78.far ?_ NB371_370.out _ | refine IsS78.far ?_ NB371_377.out _) | exact HI371.out)⟩, ⟨hbU⟩⟩
  ·replace c12 := Bool.eq_false_iff.mpr c12
   subst c12
   rw [if_neg (show ¬ (false = true) by decide)] at H
   have H' := Aside0.mk H
   clear H
   have hnb19 := NB377_370.out
   have hnc19 := NB370_377.out
   have hnb20 := NB377_371.out
   have hnc20 := NB371_377.out
   obtain ⟨hcz21_0, hcz21_1, hcz21_2, hfz21_0, hfz21_1, hfz21_2⟩ := b3U BK377
   go_wp2_with (first | ((with_reducible refine gate_callee (f := 78) rfl ?_); refine goU (some 14) Tryz.func78 #[.agg #[.int .i64 t372, .bool t373, .int .i64 t374]] ?_; (with_reducible refine (spec_frGood.calls t372 t373 t374 false _ A11.out).mono ?_); rintro e w22 ⟨rfl, hb⟩; refine ⟨_, rfl, ?_⟩; have n0_ := bbU BK370 hb; have n1_ := Aside0.mk (IsS78.below (show IsS78 w (((w7.setCell ⟨gb377, 0, none⟩ (.int .i64 t372)).setCell ⟨gb377, 1, none⟩ (.bool t373)).setCell ⟨gb377, 2, none⟩ (.int .i64 t374)) gb371 l0 t375 t376 from by repeat (first | (with_reducible first | exact HI371.out | apply IsS78.alloc | apply IsS78.drewN | apply IsS78.drew | apply IsS78.set_1 | apply IsS78.set_2 | refine IsS78.far ?_ NB371_370.out _ | refine IsS78.far ?_ NB371_377.out _) | exact HI371.out)) hb); have n2_ := Aside0.mk (blk_below (g := gb377) (o := .cells #[.int .i64 t372, .bool t373, .int .i64 t374] 25 (0, 0)) bkU hb); have n3_ := bsU hb; clear BK370; clear HI371; clear BK377; clear HB; have BK370 := n0_; have HI371 := n1_; have BK377 := n2_; have HB := n3_; clear n0_ n1_ n2_ n3_; (try clear hb); (try clear hb2); (try clear hk); (try clear hi)))
   go_meet
   case rel => exact ⟨_, (false), (t375), (t376), eqU, H', ⟨by first | omega | exact Nat.le_refl _⟩, ⟨bkU⟩, ⟨bkU⟩, ⟨by repeat (first | (with_reducible first | exact HI371.out | apply IsS78.alloc | apply IsS78.drewN | apply IsS78.drew | apply IsS78.set_1 | apply IsS78.set_2 | refine IsS78.far ?_ NB371_370.out _ | refine IsS78.far ?_ NB371_377.out _) | exact HI371.out)⟩, ⟨hbU⟩⟩
 case rest =>
  clear HC3
  (try clear c12); (try clear hcz10_0); (try clear hcz10_1); (try clear hcz10_2); (try clear hcz16_0); (try clear hcz16_1); (try clear hcz16_2); (try clear hcz21_0); (try clear hcz21_1); (try clear hcz21_2); (try clear hfz10_0); (try clear hfz10_1); (try clear hfz10_2); (try clear hfz16_0); (try clear hfz16_1); (try clear hfz16_2); (try clear hfz21_0); (try clear hfz21_1); (try clear hfz21_2)
  obtain ⟨kq, x18_2, x372001_2, x372002_2, rfl, HA, HJ2, BK370, BK377, HI371, HB⟩ := hcut
  cases kq with
  | zero => exact absurd HA.out (by simp [spec_DrawPotBall.j0])
  | succ kj2 =>
   have H := HA.out
   clear HA
   simp only [spec_DrawPotBall.j0] at H
   by_cases c23 : x18_2 = true
   ·subst c23
    rw [if_pos rfl] at H
    replace H := Option.bind_eq_some_iff.mp H
    obtain ⟨t382, A240, H⟩ := H
    (try dsimp only at H)
    have A24 := Aside0.mk A240
    clear A240
    by_cases c25 : t382.toList = ([] : List UInt8)
    ·rw [if_pos c25] at H
     have c25b0 : (t382.toList == ([] : List UInt8)) = true := beq_iff_eq.mpr c25
     have c25b1 : (t382.toList != ([] : List UInt8)) = false := bne_eq_false_iff_eq.mpr c25
     clear c25
     obtain ⟨y383, hy383⟩ : ∃ y_ : List ByteArray, y_ = (([(⟨#[49]⟩ : ByteArray), (⟨#[50]⟩ : ByteArray), (⟨#[51]⟩ : ByteArray), (⟨#[55]⟩ : ByteArray), (⟨#[56]⟩ : ByteArray), (⟨#[]⟩ : ByteArray), (⟨#[49, 50]⟩ : ByteArray)] : List ByteArray)) := ⟨_, rfl⟩
     replace H : ((spec_l1Cur_of.f l0 x372001_2 x372002_2 y383).bind fun bt386 => (some (t372, t373, t374, bt386.1))) = some (r1, r2, r3, r4) := by first | (rw [hy383]; with_reducible exact H) | (have H2_ := (Option.bind_some _ _).symm.trans H; rw [hy383]; with_reducible exact H2_) | (have H2_ := (Option.bind_some _ _).symm.trans H; with_reducible exact H2_) | with_reducible exact H | (rw [hy383]; exact H) | exact H
     have Ny383 := Aside0.mk hy383
     clear hy383
     replace H := Option.bind_eq_some_iff.mp H
     obtain ⟨⟨t386, t387, t388⟩, A260, H⟩ := H
     (try dsimp only at H)
     have A26 := Aside0.mk A260
     clear A260
     simp only [Option.some.injEq, Prod.mk.injEq] at H
     obtain ⟨rfl, rfl, rfl, rfl⟩ := H
     have hnb27 := NB377_370.out
     have hnc27 := NB370_377.out
     have hnb28 := NB377_371.out
     have hnc28 := NB371_377.out
     obtain ⟨hcz29_0, hcz29_1, hcz29_2, hfz29_0, hfz29_1, hfz29_2⟩ := b3U BK377
     try go_wp2_with (first | ((with_reducible refine gate_callee (f := 81) rfl ?_); refine goU (some 20) Tryz.func81 #[.agg #[.int .i64 t372, .bool t373, .int .i64 t374]] ?_; (with_reducible refine (spec_frNext.calls kj2 t372 t373 t374 t382 _ A24.out).mono ?_); rintro e w30 ⟨rfl, hb⟩; refine ⟨_, rfl, ?_⟩; have n0_ := bbU BK370 hb; have n1_ := bbU BK377 hb; have n2_ := Aside0.mk (IsS78.below (by repeat (first | (with_reducible first | exact HI371.out | apply IsS78.alloc | apply IsS78.drewN | apply IsS78.drew | apply IsS78.set_1 | apply IsS78.set_2 | refine IsS78.far ?_ NB371_370.out _ | refine IsS78.far ?_ NB371_377.out _) | exact HI371.out)) hb); have n3_ := bsU hb; clear BK370; clear BK377; clear HI371; clear HB; have BK370 := n0_; have BK377 := n1_; have HI371 := n2_; have HB := n3_; clear n0_ n1_ n2_ n3_; (try clear hb); (try clear hb2); (try clear hk); (try clear hi)))
     have n0_ := Aside0.mk (blk_drew BK370.out)
     have n1_ := Aside0.mk (blk_drew BK377.out)
     have n2_ := Aside0.mk (IsS78.drew HI371.out)
     have n3_ := Aside0.mk (below_drew1 HB.out)
     clear BK370
     clear BK377
     clear HI371
     clear HB
     have BK370 := n0_
     have BK377 := n1_
     have HI371 := n2_
     have HB := n3_
     clear n0_ n1_ n2_ n3_
     refine start_ (n := 6) (S := fun w' => w'.cell? ⟨gb377, 0, none⟩ = some (.int .i64 t372) ∧ w'.cell? ⟨gb377, 1, none⟩ = some (.bool t373) ∧ w'.cell? ⟨gb377, 2, none⟩ = some (.int .i64 t374)) (ds := []) #[false, false, false, false, false, false] (by kernel_rfl) rfl rfl (c3U BK377) (fun hHeld => ?_)
     generalize w30.drew = w31 at BK370 BK377 HI371 HB hHeld ⊢
     refine pure_ (i := 1) (N := some 34) (v := ?_) (a' := ?_) #[false, true, false, false, false, false] rfl rfl (by kernel_rfl) (fun _ _ _ h => h) (Or.inl ⟨by rfl, ?_⟩) ?_ ?_
     rotate_left
     ·intro w'
      go_simp
      with_reducible rfl
     rotate_left
     ·simp only [Act.put, List.setIfInBounds_toArray, List.set_cons_zero, List.set_cons_succ, i64_w, i32_w]
      rfl
     refine take_ (i := 0) (N := some 33) (v := ?_) (a' := ?_) #[true, true, false, false, false, false] rfl rfl (by kernel_rfl) (fun _ _ _ h => h) (Or.inl ⟨by rfl, ?_⟩) hHeld ?_ ?_
     rotate_left
     ·rintro w' ⟨s0, s1, s2⟩
      go_simp
      with_reducible rfl
     rotate_left
     ·simp only [Act.put, List.setIfInBounds_toArray, List.set_cons_zero, List.set_cons_succ, i64_w, i32_w]
      rfl
     refine one_ (i := 2) (N := some 35) #[true, true, true, false, false, false] rfl rfl (by kernel_rfl) (by decide) (fun K hK => ?_)
     refine Kd.R_lit_step Kd.string _ 9 ?hg (N := 35) ?hd (xs := ([(⟨#[49]⟩ : ByteArray), (⟨#[50]⟩ : ByteArray), (⟨#[51]⟩ : ByteArray), (⟨#[55]⟩ : ByteArray), (⟨#[56]⟩ : ByteArray), (⟨#[]⟩ : ByteArray), (⟨#[49, 50]⟩ : ByteArray)] : List ByteArray)) (inner := [.string (⟨#[49]⟩ : ByteArray), .string (⟨#[50]⟩ : ByteArray), .string (⟨#[51]⟩ : ByteArray), .string (⟨#[55]⟩ : ByteArray), .string (⟨#[56]⟩ : ByteArray), .string (⟨#[]⟩ : ByteArray), .string (⟨#[49, 50]⟩ : ByteArray)]) (ok := fun _ => True) (okp := fun _ => True) ?hr ?hp (fun _ hk => hk) trivial (Below.refl _ _) (Nat.le_refl _) (by simp) ?_; (case hd => rfl); (case hg => rfl); (case hr => first | (go_simp; done) | (go_simp; rfl)); (case hp => exact (Reps.one (show Kd.M Kd.string _ _ _ (⟨#[49]⟩ : ByteArray) [.string (⟨#[49]⟩ : ByteArray)] from rfl) (Reps.one (show Kd.M Kd.string _ _ _ (⟨#[50]⟩ : ByteArray) [.string (⟨#[50]⟩ : ByteArray)] from rfl) (Reps.one (show Kd.M Kd.string _ _ _ (⟨#[51]⟩ : ByteArray) [.string (⟨#[51]⟩ : ByteArray)] from rfl) (Reps.one (show Kd.M Kd.string _ _ _ (⟨#[55]⟩ : ByteArray) [.string (⟨#[55]⟩ : ByteArray)] from rfl) (Reps.one (show Kd.M Kd.string _ _ _ (⟨#[56]⟩ : ByteArray) [.string (⟨#[56]⟩ : ByteArray)] from rfl) (Reps.one (show Kd.M Kd.string _ _ _ (⟨#[]⟩ : ByteArray) [.string (⟨#[]⟩ : ByteArray)] from rfl) (Reps.one (show Kd.M Kd.string _ _ _ (⟨#[49, 50]⟩ : ByteArray) [.string (⟨#[49, 50]⟩ : ByteArray)] from rfl) (Reps.none _ _)))))))))
     intro v384 w32 ho33 hb hg_ hnew_
     clear hg_ hnew_
     (first | rw [← Ny383.out] at ho33 | (simp only [Int.reduceToNat] at ho33; rw [← Ny383.out] at ho33))
     have n0_ := Aside0.mk (Kd.R_lower ho33 (below_size hbU))
     have n1_ := bbU BK370 hb
     have n2_ := bbU BK377 hb
     have n3_ := Aside0.mk (IsS78.below (by repeat (first | (with_reducible first | exact HI371.out | apply IsS78.alloc | apply IsS78.drewN | apply IsS78.drew | apply IsS78.set_1 | apply IsS78.set_2 | refine IsS78.far ?_ NB371_370.out _ | refine IsS78.far ?_ NB371_377.out _) | exact HI371.out)) hb)
     have n4_ := bsU hb
     clear BK370
     clear BK377
     clear HI371
     clear HB
     have HO385 := n0_
     have BK370 := n1_
     have BK377 := n2_
     have HI371 := n3_
     have HB := n4_
     clear n0_ n1_ n2_ n3_ n4_
     clear hb ho33
     obtain ⟨Ao34, co34, eo34⟩ := Kd.R_slice HO385.out
     (first | subst eo34 | (injection eo34 with f1_ f2_ f3_; have f4_ := f1_.symm; have f5_ := f3_.symm; clear f1_ f2_ f3_; subst f4_; subst f5_))
     refine hK.out _ _ (c3U BK377) (fun hHeld => ?_)
     clear hK K
     refine norm_ (a' := ?_) ?_ ?_
     rotate_left
     ·show Act.put _ (some 35) _ = _
      simp only [Act.put, List.setIfInBounds_toArray, List.set_cons_zero, List.set_cons_succ, i64_w, i32_w]
      rfl
     refine one_ (i := 3) (N := some 36) #[true, true, true, true, false, false] rfl rfl (by kernel_rfl) (by decide) (fun K hK => ?_)
     refine goes_ Tryz.func93 (by kernel_rfl) rfl #[.pointer (some ⟨gb371, 0, none⟩), .slice Ao34 y383.length co34] (by rfl) rfl rfl arU ?_
     with_reducible refine (spec_l1Cur_of.calls gb371 l0 x372001_2 x372002_2 _ _ y383 t386 t387 t388 w _ ?side1 ?side2 ?side3 ?side4 ?side5 A26.out).mono ?_
     (case side1 => repeat (first | (with_reducible first | exact HI371.out | apply IsS78.alloc | apply IsS78.drewN | apply IsS78.drew | apply IsS78.set_1 | apply IsS78.set_2 | refine IsS78.far ?_ NB371_370.out _ | refine IsS78.far ?_ NB371_377.out _) | exact HI371.out))
     (case side2 => repeat (first | (with_reducible first | exact HB.out | apply below_alloc | apply pw_below_drewN | apply below_drew1 | refine below_set ?_ (IsS78.ge HI371.out) | refine below_set ?_ GE370.out | refine below_set ?_ GE377.out) | exact HB.out))
     (case side3 => repeat (first | exact (Kd.R_reads' HO385.out).2.2 | (with_reducible refine Kd.C_alloc ?_ _) | (with_reducible refine Kd.C_drewN ?_ _) | (with_reducible refine Kd.C_drew ?_)))
     (case side4 => exact (Kd.R_reads' HO385.out).2.1)
     (case side5 => exact far_slice (IsS78.own_ne HI371.out HO385.out (by decide)))
     rintro e w35 ⟨rfl, hi, hb, hk⟩
     refine ⟨_, rfl, ?_⟩
     have n0_ := Aside0.mk (KeepBut.blk hk (g' := gb370) (o := .cells #[.int .i64 0, .bool false, .int .i64 0] 25 (0, 0)) bkU NB370_371.out (by simp))
     have n1_ := Aside0.mk (KeepBut.blk hk (g' := gb377) (o := .cells #[.int .i64 t372, .bool t373, .int .i64 t374] 25 (0, 0)) bkU NB377_371.out (by simp))
     have n2_ := Aside0.mk (Kd.R_mono (Kd.R_keep (IsS78.apart (show IsS78 w _ gb371 l0 x372001_2 x372002_2 from by repeat (first | (with_reducible first | exact HI371.out | apply IsS78.alloc | apply IsS78.drewN | apply IsS78.drew | apply IsS78.set_1 | apply IsS78.set_2 | refine IsS78.far ?_ NB371_370.out _ | refine IsS78.far ?_ NB371_377.out _) | exact HI371.out)) (by (with_reducible repeat (first | apply Kd.R_alloc | apply Kd.R_drewN | apply Kd.R_drew)); exact HO385.out) (by decide)) hk (fun _ h => h.2)) (fun _ h => h.1))
     have n3_ := Aside0.mk (hb)
     have n4_ := Aside0.mk (hi)
     clear BK370
     clear BK377
     clear HO385
     clear HB
     clear HI371
     have BK370 := n0_
     have BK377 := n1_
     have HO385 := n2_
     have HB := n3_
     have HI371 := n4_
     clear n0_ n1_ n2_ n3_ n4_
     (try clear hb); (try clear hk); (try clear hi)
     refine hK.out _ _ (c3U BK377) (fun hHeld => ?_)
     clear hK K
     refine norm_ (a' := ?_) ?_ ?_
     rotate_left
     ·show Act.put _ (some 36) _ = _
      simp only [Act.put, List.setIfInBounds_toArray, List.set_cons_zero, List.set_cons_succ, i64_w, i32_w]
      rfl
     refine one_ (i := 4) (N := none) #[true, true, true, true, true, false] rfl rfl (by kernel_rfl) (by decide) (fun K hK => ?_)
     have hs36 : w35.cell? ⟨gb370, 0, none⟩ = some (.int .i64 0) := (blk_cell BK370.out 0).trans rfl
     have hfs36 := blk_frozen BK370.out 0
     have hns36_1 := NB377_370.out
     have hms36_1 := NB370_377.out
     have hs37 : w35.cell? ⟨gb370, 1, none⟩ = some (.bool false) := (blk_cell BK370.out 1).trans rfl
     have hfs37 := blk_frozen BK370.out 1
     have hns37_1 := NB377_370.out
     have hms37_1 := NB370_377.out
     have hs38 : w35.cell? ⟨gb370, 2, none⟩ = some (.int .i64 0) := (blk_cell BK370.out 2).trans rfl
     have hfs38 := blk_frozen BK370.out 2
     have hns38_1 := NB377_370.out
     have hms38_1 := NB370_377.out
     refine skip_ (w1 := ?_) (by rfl) rfl ?_ ?_
     rotate_left
     ·go_simp
      rfl
     refine hK.out _ _ ⟨((cell_far (p := ⟨gb370, _, none⟩) NB377_370.out _).trans (((cell_far (p := ⟨gb370, _, none⟩) NB377_370.out _).trans (((cell_far (p := ⟨gb370, _, none⟩) NB377_370.out _).trans (hHeld.1)))))), ((cell_far (p := ⟨gb370, _, none⟩) NB377_370.out _).trans (((cell_far (p := ⟨gb370, _, none⟩) NB377_370.out _).trans (((cell_far (p := ⟨gb370, _, none⟩) NB377_370.out _).trans (hHeld.2.1)))))), ((cell_far (p := ⟨gb370, _, none⟩) NB377_370.out _).trans (((cell_far (p := ⟨gb370, _, none⟩) NB377_370.out _).trans (((cell_far (p := ⟨gb370, _, none⟩) NB377_370.out _).trans (hHeld.2.2))))))⟩ (fun hHeld => ?_)
     clear hK K
     refine pure_ (i := 5) (N := some 3) (v := ?_) (a' := ?_) #[true, true, true, true, true, true] rfl rfl (by kernel_rfl) (fun _ _ _ h => h) (Or.inl ⟨by rfl, ?_⟩) ?_ ?_
     rotate_left
     ·intro w'
      go_simp
      with_reducible rfl
     rotate_left
     ·simp only [Act.put, List.setIfInBounds_toArray, List.set_cons_zero, List.set_cons_succ, i64_w, i32_w]
      rfl
     refine done_ (by kernel_rfl) ?_
     try go_wp2
     refine bodyPost_ret (results_ct rfl _ _ gb370 25 #[.int .i64 t372, .bool t373, .int .i64 t374] (0, 0) _ rfl bkU Tryz.underlying25 rfl (by kernel_rfl)) rfl ?_
     exact ⟨by first | rfl | (simp [errW_none, errW_some] <;> rfl) | (simp [*, errW_none, errW_some] <;> rfl), hbU⟩
    ·rw [if_neg c25] at H
     have c25b0 : (t382.toList == ([] : List UInt8)) = false := beq_eq_false_iff_ne.mpr c25
     have c25b1 : (t382.toList != ([] : List UInt8)) = true := bne_iff_ne.mpr c25
     replace H := Option.bind_eq_some_iff.mp H
     obtain ⟨⟨t389, t390, t391⟩, A390, H⟩ := H
     (try dsimp only at H)
     have A39 := Aside0.mk A390
     clear A390
     by_cases c40 : 0 ≤ t389
     ·rw [if_pos c40] at H
      have c40b0 := eq_true c40
      have c40b1 : decide (0 ≤ t389) = true := decide_eq_true c40
      clear c40
      by_cases c41 : t389 ≤ (wrap64 (t389 + 1))
      ·rw [if_pos c41] at H
       have c41b0 := eq_true c41
       have c41b1 : decide (t389 ≤ (wrap64 (t389 + 1))) = true := decide_eq_true c41
       by_cases c42 : (wrap64 (t389 + 1)) ≤ (t382.size : Int)
       ·rw [if_pos c42] at H
        have c42b0 := eq_true c42
        have c42b1 : decide ((wrap64 (t389 + 1)) ≤ (t382.size : Int)) = true := decide_eq_true c42
        simp only [Option.some.injEq, Prod.mk.injEq] at H
        obtain ⟨rfl, rfl, rfl, rfl⟩ := H
        have hnb43 := NB377_370.out
        have hnc43 := NB370_377.out
        have hnb44 := NB377_371.out
        have hnc44 := NB371_377.out
        obtain ⟨hcz45_0, hcz45_1, hcz45_2, hfz45_0, hfz45_1, hfz45_2⟩ := b3U BK377
        try go_wp2_with (first | ((with_reducible refine gate_callee (f := 81) rfl ?_); refine goU (some 20) Tryz.func81 #[.agg #[.int .i64 t372, .bool t373, .int .i64 t374]] ?_; (with_reducible refine (spec_frNext.calls kj2 t372 t373 t374 t382 _ A24.out).mono ?_); rintro e w46 ⟨rfl, hb⟩; refine ⟨_, rfl, ?_⟩; have n0_ := bbU BK370 hb; have n1_ := bbU BK377 hb; have n2_ := Aside0.mk (IsS78.below (by repeat (first | (with_reducible first | exact HI371.out | apply IsS78.alloc | apply IsS78.drewN | apply IsS78.drew | apply IsS78.set_1 | apply IsS78.set_2 | refine IsS78.far ?_ NB371_370.out _ | refine IsS78.far ?_ NB371_377.out _) | exact HI371.out)) hb); have n3_ := bsU hb; clear BK370; clear BK377; clear HI371; clear HB; have BK370 := n0_; have BK377 := n1_; have HI371 := n2_; have HB := n3_; clear n0_ n1_ n2_ n3_; (try clear hb); (try clear hb2); (try clear hk); (try clear hi)) | ((with_reducible refine gate_callee (f := 92) rfl ?_); refine goU (some 26) Tryz.func92 #[.pointer (some ⟨gb371, 0, none⟩), .int .i64 (t382.size : Int)] ?_; (with_reducible refine (spec_l1Cur_pick.calls gb371 l0 x372001_2 x372002_2 (t382.size : Int) t389 t390 t391 w _ ?side1 ?side2 A39.out).mono ?_); (case side1 => repeat (first | (with_reducible first | exact HI371.out | apply IsS78.alloc | apply IsS78.drewN | apply IsS78.drew | apply IsS78.set_1 | apply IsS78.set_2 | refine IsS78.far ?_ NB371_370.out _ | refine IsS78.far ?_ NB371_377.out _) | exact HI371.out)); (case side2 => repeat (first | (with_reducible first | exact HB.out | apply below_alloc | apply pw_below_drewN | apply below_drew1 | refine below_set ?_ (IsS78.ge HI371.out) | refine below_set ?_ GE370.out | refine below_set ?_ GE377.out) | exact HB.out)); rintro e w47 ⟨rfl, hi, hb, hk⟩; refine ⟨_, rfl, ?_⟩; have n0_ := Aside0.mk (KeepBut.blk hk (g' := gb370) (o := .cells #[.int .i64 0, .bool false, .int .i64 0] 25 (0, 0)) bkU NB370_371.out (by simp)); have n1_ := Aside0.mk (KeepBut.blk hk (g' := gb377) (o := .cells #[.int .i64 t372, .bool t373, .int .i64 t374] 25 (0, 0)) bkU NB377_371.out (by simp)); have n2_ := Aside0.mk (hb); have n3_ := Aside0.mk (hi); clear BK370; clear BK377; clear HB; clear HI371; have BK370 := n0_; have BK377 := n1_; have HB := n2_; have HI371 := n3_; clear n0_ n1_ n2_ n3_; (try clear hb); (try clear hb2); (try clear hk); (try clear hi)))
        have n0_ := Aside0.mk (blk_drew BK370.out)
        have n1_ := Aside0.mk (blk_drew BK377.out)
        have n2_ := Aside0.mk (IsS78.drew HI371.out)
        have n3_ := Aside0.mk (below_drew1 HB.out)
        clear BK370
        clear BK377
        clear HI371
        clear HB
        have BK370 := n0_
        have BK377 := n1_
        have HI371 := n2_
        have HB := n3_
        clear n0_ n1_ n2_ n3_
        refine start_ (n := 8) (S := fun w' => w'.cell? ⟨gb377, 0, none⟩ = some (.int .i64 t372) ∧ w'.cell? ⟨gb377, 1, none⟩ = some (.bool t373) ∧ w'.cell? ⟨gb377, 2, none⟩ = some (.int .i64 t374)) (ds := []) #[false, false, false, false, false, false, false, false] (by kernel_rfl) rfl rfl (c3U BK377) (fun hHeld => ?_); refine with_tabW spec_DrawPotBall.tab7 spec_DrawPotBall.bits7 (fun HT_ HW_ => ?_)
        generalize w47.drew = w48 at BK370 BK377 HI371 HB hHeld ⊢
        refine puU 1 28 HT_ ?_
        refine puU 2 29 HT_ ?_
        refine puU 3 30 HT_ ?_
        refine puU 4 31 HT_ ?_
        refine puU 5 32 HT_ ?_
        refine tkU 0 27 HT_ HW_ hHeld ?_
        refine onU 6 none HT_ (fun K hK => ?_)
        have hs49 : w48.cell? ⟨gb370, 0, none⟩ = some (.int .i64 0) := (blk_cell BK370.out 0).trans rfl
        have hfs49 := blk_frozen BK370.out 0
        have hns49_1 := NB377_370.out
        have hms49_1 := NB370_377.out
        have hs50 : w48.cell? ⟨gb370, 1, none⟩ = some (.bool false) := (blk_cell BK370.out 1).trans rfl
        have hfs50 := blk_frozen BK370.out 1
        have hns50_1 := NB377_370.out
        have hms50_1 := NB370_377.out
        have hs51 : w48.cell? ⟨gb370, 2, none⟩ = some (.int .i64 0) := (blk_cell BK370.out 2).trans rfl
        have hfs51 := blk_frozen BK370.out 2
        have hns51_1 := NB377_370.out
        have hms51_1 := NB370_377.out
        refine skip_ (w1 := ?_) (by rfl) rfl ?_ ?_
        rotate_left
        ·go_simp
         rfl
        refine hK.out _ _ ⟨((cell_far (p := ⟨gb370, _, none⟩) NB377_370.out _).trans (((cell_far (p := ⟨gb370, _, none⟩) NB377_370.out _).trans (((cell_far (p := ⟨gb370, _, none⟩) NB377_370.out _).trans (hHeld.1)))))), ((cell_far (p := ⟨gb370, _, none⟩) NB377_370.out _).trans (((cell_far (p := ⟨gb370, _, none⟩) NB377_370.out _).trans (((cell_far (p := ⟨gb370, _, none⟩) NB377_370.out _).trans (hHeld.2.1)))))), ((cell_far (p := ⟨gb370, _, none⟩) NB377_370.out _).trans (((cell_far (p := ⟨gb370, _, none⟩) NB377_370.out _).trans (((cell_far (p := ⟨gb370, _, none⟩) NB377_370.out _).trans (hHeld.2.2))))))⟩ (fun hHeld => ?_)
        clear hK K
        refine puU 7 3 HT_ ?_
        refine dnU HT_ ?_
        try go_wp2
        refine bodyPost_ret (results_ct rfl _ _ gb370 25 #[.int .i64 t372, .bool t373, .int .i64 t374] (0, 0) _ rfl bkU Tryz.underlying25 rfl (by kernel_rfl)) rfl ?_
        exact ⟨by first | rfl | (simp [errW_none, errW_some] <;> rfl) | (simp [*, errW_none, errW_some] <;> rfl), hbU⟩
       ·rw [if_neg c42] at H
        exact absurd H (by simp)
      ·rw [if_neg c41] at H
       exact absurd H (by simp)
     ·rw [if_neg c40] at H
      exact absurd H (by simp)
   ·replace c23 := Bool.eq_false_iff.mpr c23
    subst c23
    rw [if_neg (show ¬ (false = true) by decide)] at H
    obtain ⟨y392, hy392⟩ : ∃ y_ : List ByteArray, y_ = (([(⟨#[49]⟩ : ByteArray), (⟨#[50]⟩ : ByteArray), (⟨#[51]⟩ : ByteArray), (⟨#[55]⟩ : ByteArray), (⟨#[56]⟩ : ByteArray), (⟨#[]⟩ : ByteArray), (⟨#[49, 50]⟩ : ByteArray)] : List ByteArray)) := ⟨_, rfl⟩
    replace H : ((spec_l1Cur_of.f l0 x372001_2 x372002_2 y392).bind fun bt395 => (some (t372, t373, t374, bt395.1))) = some (r1, r2, r3, r4) := by first | (rw [hy392]; with_reducible exact H) | (have H2_ := (Option.bind_some _ _).symm.trans H; rw [hy392]; with_reducible exact H2_) | (have H2_ := (Option.bind_some _ _).symm.trans H; with_reducible exact H2_) | with_reducible exact H | (rw [hy392]; exact H) | exact H
    have Ny392 := Aside0.mk hy392
    clear hy392
    replace H := Option.bind_eq_some_iff.mp H
    obtain ⟨⟨t395, t396, t397⟩, A520, H⟩ := H
    (try dsimp only at H)
    have A52 := Aside0.mk A520
    clear A520
    simp only [Option.some.injEq, Prod.mk.injEq] at H
    obtain ⟨rfl, rfl, rfl, rfl⟩ := H
    try go_wp2
    have n0_ := Aside0.mk (blk_drew BK370.out)
    have n1_ := Aside0.mk (blk_drew BK377.out)
    have n2_ := Aside0.mk (IsS78.drew HI371.out)
    have n3_ := Aside0.mk (below_drew1 HB.out)
    clear BK370
    clear BK377
    clear HI371
    clear HB
    have BK370 := n0_
    have BK377 := n1_
    have HI371 := n2_
    have HB := n3_
    clear n0_ n1_ n2_ n3_
    refine start_ (n := 6) (S := fun w' => w'.cell? ⟨gb377, 0, none⟩ = some (.int .i64 t372) ∧ w'.cell? ⟨gb377, 1, none⟩ = some (.bool t373) ∧ w'.cell? ⟨gb377, 2, none⟩ = some (.int .i64 t374)) (ds := []) #[false, false, false, false, false, false] (by kernel_rfl) rfl rfl (c3U BK377) (fun hHeld => ?_)
    generalize wc.drew = w53 at BK370 BK377 HI371 HB hHeld ⊢
    refine pure_ (i := 1) (N := some 34) (v := ?_) (a' := ?_) #[false, true, false, false, false, false] rfl rfl (by kernel_rfl) (fun _ _ _ h => h) (Or.inl ⟨by rfl, ?_⟩) ?_ ?_
    rotate_left
    ·intro w'
     go_simp
     with_reducible rfl
    rotate_left
    ·simp only [Act.put, List.setIfInBounds_toArray, List.set_cons_zero, List.set_cons_succ, i64_w, i32_w]
     rfl
    refine take_ (i := 0) (N := some 33) (v := ?_) (a' := ?_) #[true, true, false, false, false, false] rfl rfl (by kernel_rfl) (fun _ _ _ h => h) (Or.inl ⟨by rfl, ?_⟩) hHeld ?_ ?_
    rotate_left
    ·rintro w' ⟨s0, s1, s2⟩
     go_simp
     with_reducible rfl
    rotate_left
    ·simp only [Act.put, List.setIfInBounds_toArray, List.set_cons_zero, List.set_cons_succ, i64_w, i32_w]
     rfl
    refine one_ (i := 2) (N := some 35) #[true, true, true, false, false, false] rfl rfl (by kernel_rfl) (by decide) (fun K hK => ?_)
    refine Kd.R_lit_step Kd.string _ 9 ?hg (N := 35) ?hd (xs := ([(⟨#[49]⟩ : ByteArray), (⟨#[50]⟩ : ByteArray), (⟨#[51]⟩ : ByteArray), (⟨#[55]⟩ : ByteArray), (⟨#[56]⟩ : ByteArray), (⟨#[]⟩ : ByteArray), (⟨#[49, 50]⟩ : ByteArray)] : List ByteArray)) (inner := [.string (⟨#[49]⟩ : ByteArray), .string (⟨#[50]⟩ : ByteArray), .string (⟨#[51]⟩ : ByteArray), .string (⟨#[55]⟩ : ByteArray), .string (⟨#[56]⟩ : ByteArray), .string (⟨#[]⟩ : ByteArray), .string (⟨#[49, 50]⟩ : ByteArray)]) (ok := fun _ => True) (okp := fun _ => True) ?hr ?hp (fun _ hk => hk) trivial (Below.refl _ _) (Nat.le_refl _) (by simp) ?_; (case hd => rfl); (case hg => rfl); (case hr => first | (go_simp; done) | (go_simp; rfl)); (case hp => exact (Reps.one (show Kd.M Kd.string _ _ _ (⟨#[49]⟩ : ByteArray) [.string (⟨#[49]⟩ : ByteArray)] from rfl) (Reps.one (show Kd.M Kd.string _ _ _ (⟨#[50]⟩ : ByteArray) [.string (⟨#[50]⟩ : ByteArray)] from rfl) (Reps.one (show Kd.M Kd.string _ _ _ (⟨#[51]⟩ : ByteArray) [.string (⟨#[51]⟩ : ByteArray)] from rfl) (Reps.one (show Kd.M Kd.string _ _ _ (⟨#[55]⟩ : ByteArray) [.string (⟨#[55]⟩ : ByteArray)] from rfl) (Reps.one (show Kd.M Kd.string _ _ _ (⟨#[56]⟩ : ByteArray) [.string (⟨#[56]⟩ : ByteArray)] from rfl) (Reps.one (show Kd.M Kd.string _ _ _ (⟨#[]⟩ : ByteArray) [.string (⟨#[]⟩ : ByteArray)] from rfl) (Reps.one (show Kd.M Kd.string _ _ _ (⟨#[49, 50]⟩ : ByteArray) [.string (⟨#[49, 50]⟩ : ByteArray)] from rfl) (Reps.none _ _)))))))))
    intro v393 w54 ho55 hb hg_ hnew_
    clear hg_ hnew_
    (first | rw [← Ny392.out] at ho55 | (simp only [Int.reduceToNat] at ho55; rw [← Ny392.out] at ho55))
    have n0_ := Aside0.mk (Kd.R_lower ho55 (below_size hbU))
    have n1_ := bbU BK370 hb
    have n2_ := bbU BK377 hb
    have n3_ := Aside0.mk (IsS78.below (by repeat (first | (with_reducible first | exact HI371.out | apply IsS78.alloc | apply IsS78.drewN | apply IsS78.drew | apply IsS78.set_1 | apply IsS78.set_2 | refine IsS78.far ?_ NB371_370.out _ | refine IsS78.far ?_ NB371_377.out _) | exact HI371.out)) hb)
    have n4_ := bsU hb
    clear BK370
    clear BK377
    clear HI371
    clear HB
    have HO394 := n0_
    have BK370 := n1_
    have BK377 := n2_
    have HI371 := n3_
    have HB := n4_
    clear n0_ n1_ n2_ n3_ n4_
    clear hb ho55
    obtain ⟨Ao56, co56, eo56⟩ := Kd.R_slice HO394.out
    (first | subst eo56 | (injection eo56 with f1_ f2_ f3_; have f4_ := f1_.symm; have f5_ := f3_.symm; clear f1_ f2_ f3_; subst f4_; subst f5_))
    refine hK.out _ _ (c3U BK377) (fun hHeld => ?_)
    clear hK K
    refine norm_ (a' := ?_) ?_ ?_
    rotate_left
    ·show Act.put _ (some 35) _ = _
     simp only [Act.put, List.setIfInBounds_toArray, List.set_cons_zero, List.set_cons_succ, i64_w, i32_w]
     rfl
    refine one_ (i := 3) (N := some 36) #[true, true, true, true, false, false] rfl rfl (by kernel_rfl) (by decide) (fun K hK => ?_)
    refine goes_ Tryz.func93 (by kernel_rfl) rfl #[.pointer (some ⟨gb371, 0, none⟩), .slice Ao56 y392.length co56] (by rfl) rfl rfl arU ?_
    with_reducible refine (spec_l1Cur_of.calls gb371 l0 x372001_2 x372002_2 _ _ y392 t395 t396 t397 w _ ?side1 ?side2 ?side3 ?side4 ?side5 A52.out).mono ?_
    (case side1 => repeat (first | (with_reducible first | exact HI371.out | apply IsS78.alloc | apply IsS78.drewN | apply IsS78.drew | apply IsS78.set_1 | apply IsS78.set_2 | refine IsS78.far ?_ NB371_370.out _ | refine IsS78.far ?_ NB371_377.out _) | exact HI371.out))
    (case side2 => repeat (first | (with_reducible first | exact HB.out | apply below_alloc | apply pw_below_drewN | apply below_drew1 | refine below_set ?_ (IsS78.ge HI371.out) | refine below_set ?_ GE370.out | refine below_set ?_ GE377.out) | exact HB.out))
    (case side3 => repeat (first | exact (Kd.R_reads' HO394.out).2.2 | (with_reducible refine Kd.C_alloc ?_ _) | (with_reducible refine Kd.C_drewN ?_ _) | (with_reducible refine Kd.C_drew ?_)))
    (case side4 => exact (Kd.R_reads' HO394.out).2.1)
    (case side5 => exact far_slice (IsS78.own_ne HI371.out HO394.out (by decide)))
    rintro e w57 ⟨rfl, hi, hb, hk⟩
    refine ⟨_, rfl, ?_⟩
    have n0_ := Aside0.mk (KeepBut.blk hk (g' := gb370) (o := .cells #[.int .i64 0, .bool false, .int .i64 0] 25 (0, 0)) bkU NB370_371.out (by simp))
    have n1_ := Aside0.mk (KeepBut.blk hk (g' := gb377) (o := .cells #[.int .i64 t372, .bool t373, .int .i64 t374] 25 (0, 0)) bkU NB377_371.out (by simp))
    have n2_ := Aside0.mk (Kd.R_mono (Kd.R_keep (IsS78.apart (show IsS78 w _ gb371 l0 x372001_2 x372002_2 from by repeat (first | (with_reducible first | exact HI371.out | apply IsS78.alloc | apply IsS78.drewN | apply IsS78.drew | apply IsS78.set_1 | apply IsS78.set_2 | refine IsS78.far ?_ NB371_370.out _ | refine IsS78.far ?_ NB371_377.out _) | exact HI371.out)) (by (with_reducible repeat (first | apply Kd.R_alloc | apply Kd.R_drewN | apply Kd.R_drew)); exact HO394.out) (by decide)) hk (fun _ h => h.2)) (fun _ h => h.1))
    have n3_ := Aside0.mk (hb)
    have n4_ := Aside0.mk (hi)
    clear BK370
    clear BK377
    clear HO394
    clear HB
    clear HI371
    have BK370 := n0_
    have BK377 := n1_
    have HO394 := n2_
    have HB := n3_
    have HI371 := n4_
    clear n0_ n1_ n2_ n3_ n4_
    (try clear hb); (try clear hk); (try clear hi)
    refine hK.out _ _ (c3U BK377) (fun hHeld => ?_)
    clear hK K
    refine norm_ (a' := ?_) ?_ ?_
    rotate_left
    ·show Act.put _ (some 36) _ = _
     simp only [Act.put, List.setIfInBounds_toArray, List.set_cons_zero, List.set_cons_succ, i64_w, i32_w]
     rfl
    refine one_ (i := 4) (N := none) #[true, true, true, true, true, false] rfl rfl (by kernel_rfl) (by decide) (fun K hK => ?_)
    have hs58 : w57.cell? ⟨gb370, 0, none⟩ = some (.int .i64 0) := (blk_cell BK370.out 0).trans rfl
    have hfs58 := blk_frozen BK370.out 0
    have hns58_1 := NB377_370.out
    have hms58_1 := NB370_377.out
    have hs59 : w57.cell? ⟨gb370, 1, none⟩ = some (.bool false) := (blk_cell BK370.out 1).trans rfl
    have hfs59 := blk_frozen BK370.out 1
    have hns59_1 := NB377_370.out
    have hms59_1 := NB370_377.out
    have hs60 : w57.cell? ⟨gb370, 2, none⟩ = some (.int .i64 0) := (blk_cell BK370.out 2).trans rfl
    have hfs60 := blk_frozen BK370.out 2
    have hns60_1 := NB377_370.out
    have hms60_1 := NB370_377.out
    refine skip_ (w1 := ?_) (by rfl) rfl ?_ ?_
    rotate_left
    ·go_simp
     rfl
    refine hK.out _ _ ⟨((cell_far (p := ⟨gb370, _, none⟩) NB377_370.out _).trans (((cell_far (p := ⟨gb370, _, none⟩) NB377_370.out _).trans (((cell_far (p := ⟨gb370, _, none⟩) NB377_370.out _).trans (hHeld.1)))))), ((cell_far (p := ⟨gb370, _, none⟩) NB377_370.out _).trans (((cell_far (p := ⟨gb370, _, none⟩) NB377_370.out _).trans (((cell_far (p := ⟨gb370, _, none⟩) NB377_370.out _).trans (hHeld.2.1)))))), ((cell_far (p := ⟨gb370, _, none⟩) NB377_370.out _).trans (((cell_far (p := ⟨gb370, _, none⟩) NB377_370.out _).trans (((cell_far (p := ⟨gb370, _, none⟩) NB377_370.out _).trans (hHeld.2.2))))))⟩ (fun hHeld => ?_)
    clear hK K
    refine pure_ (i := 5) (N := some 3) (v := ?_) (a' := ?_) #[true, true, true, true, true, true] rfl rfl (by kernel_rfl) (fun _ _ _ h => h) (Or.inl ⟨by rfl, ?_⟩) ?_ ?_
    rotate_left
    ·intro w'
     go_simp
     with_reducible rfl
    rotate_left
    ·simp only [Act.put, List.setIfInBounds_toArray, List.set_cons_zero, List.set_cons_succ, i64_w, i32_w]
     rfl
    refine done_ (by kernel_rfl) ?_
    try go_wp2
    refine bodyPost_ret (results_ct rfl _ _ gb370 25 #[.int .i64 t372, .bool t373, .int .i64 t374] (0, 0) _ rfl bkU Tryz.underlying25 rfl (by kernel_rfl)) rfl ?_
    exact ⟨by first | rfl | (simp [errW_none, errW_some] <;> rfl) | (simp [*, errW_none, errW_some] <;> rfl), hbU⟩
end Go.Proofs.YtcmlmjgoidpabaaGreatDoor.MFnFramesPotted

