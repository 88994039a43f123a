/- Walks of the functions that the law reaches: each comes to just what the function that is told of it tells, for all arguments. -/
import Derived.Test.YtcmlmjgoidpabaaGreatDoorZMFnFramesPottedx0
import Derived.Test.YtcmlmjgoidpabaaGreatDoorZMFnFramesPottedx2
import Derived.Test.YtcmlmjgoidpabaaGreatDoorZMFnFramesPottedx3
import Derived.Test.YtcmlmjgoidpabaaGreatDoorZMFnFramesPottedx5
import Derived.Test.YtcmlmjgoidpabaaGreatDoorZMFnFramesPottedx6
namespace Go.Proofs.YtcmlmjgoidpabaaGreatDoor.MFnFramesPotted
open Go.RowKit Go.Proofs.YtcmlmjgoidpabaaGreatDoorW.PrintWords Go.Proofs.YtcmlmjgoidpabaaGreatDoorW.PrintLast Go.Proofs.YtcmlmjgoidpabaaGreatDoorW.PrintMore
attribute [local go_sem] max2_int min2_int max_two min_two max_three min_three max_four min_four
set_option linter.unusedVariables false
set_option linter.unusedSimpArgs false
def spec_frAfter.l0 : Nat → ByteArray → Int → Int → Bool → Int → Option (Int × Bool × Int × Bool)
 | 0, _, _, _, _, _ => none
 | k + 1, x1, x6, x238000, x238001, x238002 => if x6 < (x1.size : Int) then (if 0 ≤ x6 then ((spec_frPot.f k x238000 x238001 x238002 (bt x1 x6)).bind fun bt239 => (if bt239.2.2.2 = true then (spec_frAfter.l0 k x1 (wrap64 (x6 + 1)) bt239.1 bt239.2.1 bt239.2.2.1) else (some (x238000, x238001, x238002, false)))) else (none)) else (some (x238000, x238001, x238002, true))
def spec_frAfter.f (k : Nat) (a0_0 : Int) (a0_1 : Bool) (a0_2 : Int) (a1 : ByteArray) : Option (Int × Bool × Int × Bool) := if (a1.size : Int) > 36 then (some (a0_0, a0_1, a0_2, false)) else (spec_frAfter.l0 k a1 0 a0_0 a0_1 a0_2)
theorem spec_frAfter.mono_l : ∀ k, (∀ y0 y1 y2 y3 y4, LeO (spec_frAfter.l0 k y0 y1 y2 y3 y4) (spec_frAfter.l0 (k + 1) y0 y1 y2 y3 y4))
 | 0 => fun _ _ _ _ _ r h => by simp [spec_frAfter.l0] at h
 | k + 1 => by
  have ih0 := spec_frAfter.mono_l k
  ·intro y0 y1 y2 y3 y4
   unfold spec_frAfter.l0
   repeat' first
   | (with_reducible exact ih0 _ _ _ _ _)
   | (with_reducible exact spec_frPot.mono _ _ _ _ _)
   | (with_reducible exact LeO.refl _)
   | (with_reducible exact LeO.none _)
   | (with_reducible refine LeO.ite ?_ ?_)
   | (with_reducible refine LeO.bind ?_ (fun _ => ?_))
   | exact ih0 _ _ _ _ _
   | exact spec_frPot.mono _ _ _ _ _
   | exact LeO.none _
   | refine LeO.ite ?_ ?_
   | refine LeO.bind ?_ (fun _ => ?_)
theorem spec_frAfter.mono : ∀ a0 a1 a2 a3 k, LeO (spec_frAfter.f k a0 a1 a2 a3) (spec_frAfter.f (k + 1) a0 a1 a2 a3) := by
 intro a0 a1 a2 a3 k
 have ih0 := spec_frAfter.mono_l k
 unfold spec_frAfter.f
 repeat' first
   | (with_reducible exact ih0 _ _ _ _ _)
   | (with_reducible exact spec_frPot.mono _ _ _ _ _)
   | (with_reducible exact LeO.refl _)
   | (with_reducible exact LeO.none _)
   | (with_reducible refine LeO.ite ?_ ?_)
   | (with_reducible refine LeO.bind ?_ (fun _ => ?_))
   | exact ih0 _ _ _ _ _
   | exact spec_frPot.mono _ _ _ _ _
   | exact LeO.none _
   | refine LeO.ite ?_ ?_
   | refine LeO.bind ?_ (fun _ => ?_)
def spec_frAfter.T6 : Bool × List (List Nat × List Nat) := (true, [([], []), ([], []), ([], []), ([1, 2], [1, 2]), ([0, 3], [0, 3]), ([4], [4]), ([5], [5]), ([5], [5]), ([], []), ([8, 6, 4, 0, 1, 2, 3, 4, 5, 6, 8], [6, 8]), ([7, 9, 0, 1, 2, 3, 4, 5, 6, 7, 8, 9], [7])])
def spec_frAfter.B6 : List Nat := [0, 0, 0, 6, 15, 31, 63, 63, 0, 383, 1023]
theorem spec_frAfter.tab6 : rtab .any (opsOf Tryz.f79 6) = spec_frAfter.T6 := by kernel_rfl
theorem spec_frAfter.bits6 : waitsOk spec_frAfter.T6.2 spec_frAfter.B6 = true := by kernel_rfl
set_option maxHeartbeats 8000000 in
set_option maxRecDepth 100000 in
theorem spec_frAfter.calls (k : Nat) (a0_0 : Int) (a0_1 : Bool) (a0_2 : Int) (a1 : ByteArray) (r1 : Int) (r2 : Bool) (r3 : Int) (r4 : Bool) (w : World) (h : spec_frAfter.f k a0_0 a0_1 a0_2 a1 = some (r1, r2, r3, r4)) :
  Calls Tryz.prog 79 #[.agg #[.int .i64 a0_0, .bool a0_1, .int .i64 a0_2], .string a1] w fun e w' => e = .returned (.tuple #[.agg #[.int .i64 r1, .bool r2, .int .i64 r3], .bool r4]) ∧ Below w.heap.size w w' := by
 have hu25 := Tryz.underlying25
 have HB := Aside0.mk (Below.refl w.heap.size w)
 have H : (if (a1.size : Int) > 36 then (some (a0_0, a0_1, a0_2, false)) else (spec_frAfter.l0 k a1 0 a0_0 a0_1 a0_2)) = some (r1, r2, r3, r4) := h
 clear h
 by_cases c3 : (a1.size : Int) > 36
 ·rw [if_pos c3] at H
  have c3b0 : decide (36 < (a1.size : Int)) = true := decide_eq_true c3
  have c3b1 : decide (36 < a1.size) = true := decide_eq_true (by omega)
  clear c3
  simp only [Option.some.injEq, Prod.mk.injEq] at H
  obtain ⟨rfl, rfl, rfl, rfl⟩ := H
  go_enter Tryz.func79, Tryz.ntmps79
  go_wp2_with (first | ((with_reducible refine gate_dst (N := 2) rfl ?_); refine bxU (cs := #[.int .i64 a0_0, .bool a0_1, .int .i64 a0_2]) (t := 25) ?_; intro gb237 hg w4 hbox hb; have n0_ := bsU hb; have n1_ := Aside0.mk (hbox); have n2_ := geU hg; have n3_ := geU hg; clear HB; have HB := n0_; have BK237 := n1_; have GW237 := n2_; have GE237 := n3_; clear n0_ n1_ n2_ n3_; clear hb hbox hg) | ((with_reducible refine gate_dst (N := 4) rfl ?_); refine bxU (cs := #[.int .i64 0, .bool false, .int .i64 0]) (t := 25) ?_; intro gb238 hg w5 hbox hb; have n0_ := bbU BK237 hb; have n1_ := bsU hb; have n2_ := Aside0.mk (hbox); have n3_ := geU hg; have n4_ := geU hg; have n5_ := neU BK237 hg; have n6_ := enU BK237 hg; clear BK237; clear HB; have BK237 := n0_; have HB := n1_; have BK238 := n2_; have GW238 := n3_; have GE238 := n4_; have NB237_238 := n5_; have NB238_237 := n6_; clear n0_ n1_ n2_ n3_ n4_ n5_ n6_; clear hb hbox hg; have hnb6 := NB237_238.out; have hnc6 := NB238_237.out; obtain ⟨hcz7_0, hcz7_1, hcz7_2, hfz7_0, hfz7_1, hfz7_2⟩ := b3U BK237; obtain ⟨hcz8_0, hcz8_1, hcz8_2, hfz8_0, hfz8_1, hfz8_2⟩ := b3U BK238))
  refine bodyPost_ret (results_ct rfl _ _ gb238 25 #[.int .i64 a0_0, .bool a0_1, .int .i64 a0_2] (0, 0) _ rfl bkU Tryz.underlying25 rfl (by kernel_rfl)) rfl ?_
  exact ⟨by first | rfl | (simp [errW_none, errW_some] <;> rfl) | (simp [*, errW_none, errW_some] <;> rfl), hbU⟩
 ·rw [if_neg c3] at H
  have c3b0 : decide (36 < (a1.size : Int)) = false := decide_eq_false c3
  have c3b1 : decide (36 < a1.size) = false := decide_eq_false (by omega)
  clear c3
  have H' := Aside0.mk H
  clear H
  go_enter Tryz.func79, Tryz.ntmps79
  go_wp2_with (first | ((with_reducible refine gate_dst (N := 2) rfl ?_); refine bxU (cs := #[.int .i64 a0_0, .bool a0_1, .int .i64 a0_2]) (t := 25) ?_; intro gb237 hg w9 hbox hb; have n0_ := bsU hb; have n1_ := Aside0.mk (hbox); have n2_ := geU hg; have n3_ := geU hg; clear HB; have HB := n0_; have BK237 := n1_; have GW237 := n2_; have GE237 := n3_; clear n0_ n1_ n2_ n3_; clear hb hbox hg) | ((with_reducible refine gate_dst (N := 4) rfl ?_); refine bxU (cs := #[.int .i64 0, .bool false, .int .i64 0]) (t := 25) ?_; intro gb238 hg w10 hbox hb; have n0_ := bbU BK237 hb; have n1_ := bsU hb; have n2_ := Aside0.mk (hbox); have n3_ := geU hg; have n4_ := geU hg; have n5_ := neU BK237 hg; have n6_ := enU BK237 hg; clear BK237; clear HB; have BK237 := n0_; have HB := n1_; have BK238 := n2_; have GW238 := n3_; have GE238 := n4_; have NB237_238 := n5_; have NB238_237 := n6_; clear n0_ n1_ n2_ n3_ n4_ n5_ n6_; clear hb hbox hg))
  go_loopg [6] k (fun kq v6 w' => ∃ (x6_1 : Int) (x238000_1 : Int) (x238001_1 : Bool) (x238002_1 : Int) (x239000_1 : Int) (x239001_1 : Bool) (x239002_1 : Int), v6 = .int .i64 x6_1 ∧ Aside0 (spec_frAfter.l0 kq a1 x6_1 x238000_1 x238001_1 x238002_1 = some (r1, r2, r3, r4)) ∧ Aside0 (kq ≤ k) ∧ Aside0 (w'.heap[gb237]? = some (.cells #[.int .i64 x238000_1, .bool x238001_1, .int .i64 x238002_1] 25 (0, 0))) ∧ Aside0 (w'.heap[gb238]? = some (.cells #[.int .i64 x239000_1, .bool x239001_1, .int .i64 x239002_1] 25 (0, 0))) ∧ Aside0 (Below w.heap.size w w'))
  case atStart => exact ⟨(0), (a0_0), (a0_1), (a0_2), (0), (false), (0), eqU, H', ⟨Nat.le_refl _⟩, ⟨bkU⟩, ⟨bkU⟩, ⟨hbU⟩⟩
  case round =>
   clear H'
   (try clear c3); (try clear c3b0); (try clear c3b1); (try clear hcz7_0); (try clear hcz7_1); (try clear hcz7_2); (try clear hcz8_0); (try clear hcz8_1); (try clear hcz8_2); (try clear hfz7_0); (try clear hfz7_1); (try clear hfz7_2); (try clear hfz8_0); (try clear hfz8_1); (try clear hfz8_2)
   obtain ⟨x6_1, x238000_1, x238001_1, x238002_1, x239000_1, x239001_1, x239002_1, rfl, HA, HK1, BK237, BK238, HB⟩ := hrel
   cases gk with
   | zero => exact absurd HA.out (by simp [spec_frAfter.l0])
   | succ k1 =>
    have H := HA.out
    clear HA
    simp only [spec_frAfter.l0] at H
    by_cases c11 : x6_1 < (a1.size : Int)
    ·rw [if_pos c11] at H
     have c11b0 : decide (x6_1 < (a1.size : Int)) = true := decide_eq_true c11
     clear c11
     by_cases c12 : 0 ≤ x6_1
     ·rw [if_pos c12] at H
      have c12b0 : decide (0 ≤ x6_1) = true := decide_eq_true c12
      clear c12
      replace H := Option.bind_eq_some_iff.mp H
      obtain ⟨⟨t239, t240, t241, t242⟩, A140, H⟩ := H
      (try dsimp only at H)
      have A14 := Aside0.mk A140
      clear A140
      by_cases c15 : t242 = true
      ·subst c15
       rw [if_pos rfl] at H
       have H' := Aside0.mk H
       clear H
       try go_wp2
       have n0_ := Aside0.mk (blk_drew BK237.out)
       have n1_ := Aside0.mk (blk_drew BK238.out)
       have n2_ := Aside0.mk (below_drew1 HB.out)
       clear BK237
       clear BK238
       clear HB
       have BK237 := n0_
       have BK238 := n1_
       have HB := n2_
       clear n0_ n1_ n2_
       have p13 : 0 ≤ (x6_1 : Int) := of_decide_eq_true (by first | (with_reducible assumption) | assumption)
       have q13 : x6_1 < (a1.size : Int) := of_decide_eq_true (by first | (with_reducible assumption) | assumption)
       have hx13 := bt_at a1 x6_1
       replace p13 := eq_true p13
       replace q13 := eq_true q13
       refine start_ (n := 11) (S := fun w' => w'.cell? ⟨gb237, 0, none⟩ = some (.int .i64 x238000_1) ∧ w'.cell? ⟨gb237, 1, none⟩ = some (.bool x238001_1) ∧ w'.cell? ⟨gb237, 2, none⟩ = some (.int .i64 x238002_1)) (ds := []) #[false, false, false, false, false, false, false, false, false, false, false] (by kernel_rfl) rfl rfl (c3U BK237) (fun hHeld => ?_); refine with_tabW spec_frAfter.tab6 spec_frAfter.bits6 (fun HT_ HW_ => ?_)
       generalize wr.drew = w16 at BK237 BK238 HB hHeld ⊢
       refine puU 1 21 HT_ ?_
       refine puU 2 22 HT_ ?_
       refine tkU 0 20 HT_ HW_ hHeld ?_
       refine tkU 3 23 HT_ HW_ hHeld ?_
       refine join_ (σ := Nat) 2 #[true, true, true, true, true, true, true, true, true, false, false] (fun s_ => [(24, .tuple #[.agg #[.int .i64 t239, .bool t240, .int .i64 t241], .bool true]), (7, .pointer (some ⟨s_, 0, none⟩)), (19, .tuple #[.agg #[.int .i64 t239, .bool t240, .int .i64 t241], .bool true]), (25, .agg #[.int .i64 t239, .bool t240, .int .i64 t241]), (26, .bool true)]) (fun s_ w' => (w'.cell? ⟨gb237, 0, none⟩ = some (.int .i64 x238000_1) ∧ w'.cell? ⟨gb237, 1, none⟩ = some (.bool x238001_1) ∧ w'.cell? ⟨gb237, 2, none⟩ = some (.int .i64 x238002_1)) ∧ (w'.heap[gb237]? = some (.cells #[.int .i64 x238000_1, .bool x238001_1, .int .i64 x238002_1] 25 (0, 0))) ∧ (w'.heap[gb238]? = some (.cells #[.int .i64 x239000_1, .bool x239001_1, .int .i64 x239002_1] 25 (0, 0))) ∧ (w'.heap[s_]? = some (.cells #[.int .i64 0, .bool false, .int .i64 0] 25 (0, 0))) ∧ (w.heap.size ≤ s_) ∧ (w.heap.size ≤ s_) ∧ (gb237 ≠ s_) ∧ (s_ ≠ gb237) ∧ (gb238 ≠ s_) ∧ (s_ ≠ gb238) ∧ (Below w.heap.size w w')) ?_ ?_
       rotate_left
       ·intro hCont
        refine two_ (i := 4) (j := 8) (Ni := some 24) (Nj := some 7) #[true, true, true, true, true, false, false, false, false, false, false] #[true, true, true, true, false, false, false, false, true, false, false] rfl rfl rfl rfl (two_of HT_.out (by kernel_rfl)) (by decide) (by decide) (fun K hK => ?_) (fun K hK => ?_)
        ·skip
         refine goes_ Tryz.func94 (by kernel_rfl) rfl #[.agg #[.int .i64 x238000_1, .bool x238001_1, .int .i64 x238002_1], .int .u8 (bt a1 x6_1)] (by rfl) rfl rfl arU ?_
         with_reducible refine (spec_frPot.calls k1 x238000_1 x238001_1 x238002_1 (bt a1 x6_1) t239 t240 t241 true _ A14.out).mono ?_
         rintro e w17 ⟨rfl, hb⟩
         refine ⟨_, rfl, ?_⟩
         have n0_ := bbU BK237 hb
         have n1_ := bbU BK238 hb
         have n2_ := bsU hb
         clear BK237
         clear BK238
         clear HB
         have BK237 := n0_
         have BK238 := n1_
         have HB := n2_
         clear n0_ n1_ n2_
         (try clear hb)
         refine hK.out _ _ (c3U BK237) (fun hHeld => ?_)
         clear hK K
         refine norm_ (a' := ?_) ?_ ?_
         rotate_left
         ·show Act.put _ (some 24) _ = _
          simp only [Act.put, List.setIfInBounds_toArray, List.set_cons_zero, List.set_cons_succ, i64_w, i32_w]
          rfl
         refine puU 5 19 HT_ ?_
         refine puU 6 25 HT_ ?_
         refine puU 7 26 HT_ ?_
         refine onU 8 (some 7) HT_ (fun K hK => ?_)
         refine box_step ?hg (N := 7) ?hd (cs := #[.int .i64 0, .bool false, .int .i64 0]) (t := 25) ?hr ?_; (case hd => rfl); (case hg => rfl); (case hr => first | (go_simp; done) | (go_simp; rfl))
         intro gb243 hg w18 hbox hb
         have n0_ := bbU BK237 hb
         have n1_ := bbU BK238 hb
         have n2_ := bsU hb
         have n3_ := Aside0.mk (hbox)
         have n4_ := geU hg
         have n5_ := geU hg
         have n6_ := neU BK237 hg
         have n7_ := enU BK237 hg
         have n8_ := neU BK238 hg
         have n9_ := enU BK238 hg
         clear BK237
         clear BK238
         clear HB
         have BK237 := n0_
         have BK238 := n1_
         have HB := n2_
         have BK243 := n3_
         have GW243 := n4_
         have GE243 := n5_
         have NB237_243 := n6_
         have NB243_237 := n7_
         have NB238_243 := n8_
         have NB243_238 := n9_
         clear n0_ n1_ n2_ n3_ n4_ n5_ n6_ n7_ n8_ n9_
         clear hb hbox hg
         refine hK.out _ _ (c3U BK237) (fun hHeld => ?_)
         clear hK K
         refine norm_ (a' := ?_) ?_ ?_
         rotate_left
         ·show Act.put _ (some 7) _ = _
          simp only [Act.put, List.setIfInBounds_toArray, List.set_cons_zero, List.set_cons_succ, i64_w, i32_w]
          rfl
         exact norm_ (by simp only [putAll, Act.put, List.setIfInBounds_toArray, List.set_cons_zero, List.set_cons_succ]) (hCont (gb243) _ ⟨hHeld, bkU, bkU, bkU, GW243.out, GE243.out, NB237_243.out, NB243_237.out, NB238_243.out, NB243_238.out, hbU⟩)
        ·skip
         refine box_step ?hg (N := 7) ?hd (cs := #[.int .i64 0, .bool false, .int .i64 0]) (t := 25) ?hr ?_; (case hd => rfl); (case hg => rfl); (case hr => first | (go_simp; done) | (go_simp; rfl))
         intro gb243 hg w17 hbox hb
         have n0_ := bbU BK237 hb
         have n1_ := bbU BK238 hb
         have n2_ := bsU hb
         have n3_ := Aside0.mk (hbox)
         have n4_ := geU hg
         have n5_ := geU hg
         have n6_ := neU BK237 hg
         have n7_ := enU BK237 hg
         have n8_ := neU BK238 hg
         have n9_ := enU BK238 hg
         clear BK237
         clear BK238
         clear HB
         have BK237 := n0_
         have BK238 := n1_
         have HB := n2_
         have BK243 := n3_
         have GW243 := n4_
         have GE243 := n5_
         have NB237_243 := n6_
         have NB243_237 := n7_
         have NB238_243 := n8_
         have NB243_238 := n9_
         clear n0_ n1_ n2_ n3_ n4_ n5_ n6_ n7_ n8_ n9_
         clear hb hbox hg
         refine hK.out _ _ (c3U BK237) (fun hHeld => ?_)
         clear hK K
         refine norm_ (a' := ?_) ?_ ?_
         rotate_left
         ·show Act.put _ (some 7) _ = _
          simp only [Act.put, List.setIfInBounds_toArray, List.set_cons_zero, List.set_cons_succ, i64_w, i32_w]
          rfl
         refine onU 4 (some 24) HT_ (fun K hK => ?_)
         refine goes_ Tryz.func94 (by kernel_rfl) rfl #[.agg #[.int .i64 x238000_1, .bool x238001_1, .int .i64 x238002_1], .int .u8 (bt a1 x6_1)] (by rfl) rfl rfl arU ?_
         with_reducible refine (spec_frPot.calls k1 x238000_1 x238001_1 x238002_1 (bt a1 x6_1) t239 t240 t241 true _ A14.out).mono ?_
         rintro e w18 ⟨rfl, hb⟩
         refine ⟨_, rfl, ?_⟩
         have n0_ := bbU BK237 hb
         have n1_ := bbU BK238 hb
         have n2_ := bbU BK243 hb
         have n3_ := bsU hb
         clear BK237
         clear BK238
         clear BK243
         clear HB
         have BK237 := n0_
         have BK238 := n1_
         have BK243 := n2_
         have HB := n3_
         clear n0_ n1_ n2_ n3_
         (try clear hb)
         refine hK.out _ _ (c3U BK237) (fun hHeld => ?_)
         clear hK K
         refine norm_ (a' := ?_) ?_ ?_
         rotate_left
         ·show Act.put _ (some 24) _ = _
          simp only [Act.put, List.setIfInBounds_toArray, List.set_cons_zero, List.set_cons_succ, i64_w, i32_w]
          rfl
         refine puU 5 19 HT_ ?_
         refine puU 6 25 HT_ ?_
         refine puU 7 26 HT_ ?_
         exact norm_ (by simp only [putAll, Act.put, List.setIfInBounds_toArray, List.set_cons_zero, List.set_cons_succ]) (hCont (gb243) _ ⟨hHeld, bkU, bkU, bkU, GW243.out, GE243.out, NB237_243.out, NB243_237.out, NB238_243.out, NB243_238.out, hbU⟩)
       rintro gb243 w19 ⟨hS_, h0_, h1_, h2_, h3_, h4_, h5_, h6_, h7_, h8_, h9_⟩
       have n0_ : Aside0 (w19.heap[gb237]? = some (.cells #[.int .i64 x238000_1, .bool x238001_1, .int .i64 x238002_1] 25 (0, 0))) := ⟨h0_⟩
       have n1_ : Aside0 (w19.heap[gb238]? = some (.cells #[.int .i64 x239000_1, .bool x239001_1, .int .i64 x239002_1] 25 (0, 0))) := ⟨h1_⟩
       have n2_ : Aside0 (w19.heap[gb243]? = some (.cells #[.int .i64 0, .bool false, .int .i64 0] 25 (0, 0))) := ⟨h2_⟩
       have n3_ : Aside0 (w.heap.size ≤ gb243) := ⟨h3_⟩
       have n4_ : Aside0 (w.heap.size ≤ gb243) := ⟨h4_⟩
       have n5_ : Aside0 (gb237 ≠ gb243) := ⟨h5_⟩
       have n6_ : Aside0 (gb243 ≠ gb237) := ⟨h6_⟩
       have n7_ : Aside0 (gb238 ≠ gb243) := ⟨h7_⟩
       have n8_ : Aside0 (gb243 ≠ gb238) := ⟨h8_⟩
       have n9_ : Aside0 (Below w.heap.size w w19) := ⟨h9_⟩
       clear BK237
       clear BK238
       clear HB
       clear h0_ h1_ h2_ h3_ h4_ h5_ h6_ h7_ h8_ h9_
       have BK237 := n0_
       have BK238 := n1_
       have BK243 := n2_
       have GW243 := n3_
       have GE243 := n4_
       have NB237_243 := n5_
       have NB243_237 := n6_
       have NB238_243 := n7_
       have NB243_238 := n8_
       have HB := n9_
       clear n0_ n1_ n2_ n3_ n4_ n5_ n6_ n7_ n8_ n9_
       have hHeld : w19.cell? ⟨gb237, 0, none⟩ = some (.int .i64 x238000_1) ∧ w19.cell? ⟨gb237, 1, none⟩ = some (.bool x238001_1) ∧ w19.cell? ⟨gb237, 2, none⟩ = some (.int .i64 x238002_1) := hS_
       refine norm_ (a' := ?_) ?_ ?_
       rotate_left
       ·simp only [putAll, Act.put, List.setIfInBounds_toArray, List.set_cons_zero, List.set_cons_succ]
        rfl
       refine onU 9 none HT_ (fun K hK => ?_)
       have hs20 : w19.cell? ⟨gb243, 0, none⟩ = some (.int .i64 0) := (blk_cell BK243.out 0).trans rfl
       have hfs20 := blk_frozen BK243.out 0
       have hns20_0 := NB237_243.out
       have hns20_1 := NB238_243.out
       have hms20_0 := NB243_237.out
       have hms20_1 := NB243_238.out
       have hs21 : w19.cell? ⟨gb243, 1, none⟩ = some (.bool false) := (blk_cell BK243.out 1).trans rfl
       have hfs21 := blk_frozen BK243.out 1
       have hns21_0 := NB237_243.out
       have hns21_1 := NB238_243.out
       have hms21_0 := NB243_237.out
       have hms21_1 := NB243_238.out
       have hs22 : w19.cell? ⟨gb243, 2, none⟩ = some (.int .i64 0) := (blk_cell BK243.out 2).trans rfl
       have hfs22 := blk_frozen BK243.out 2
       have hns22_0 := NB237_243.out
       have hns22_1 := NB238_243.out
       have hms22_0 := NB243_237.out
       have hms22_1 := NB243_238.out
       refine skip_ (w1 := ?_) (by rfl) rfl ?_ ?_
       rotate_left
       ·go_simp
        rfl
       refine hK.out _ _ ⟨((cell_far (p := ⟨gb243, _, none⟩) NB237_243.out _).trans (((cell_far (p := ⟨gb243, _, none⟩) NB237_243.out _).trans (((cell_far (p := ⟨gb243, _, none⟩) NB237_243.out _).trans (hHeld.1)))))), ((cell_far (p := ⟨gb243, _, none⟩) NB237_243.out _).trans (((cell_far (p := ⟨gb243, _, none⟩) NB237_243.out _).trans (((cell_far (p := ⟨gb243, _, none⟩) NB237_243.out _).trans (hHeld.2.1)))))), ((cell_far (p := ⟨gb243, _, none⟩) NB237_243.out _).trans (((cell_far (p := ⟨gb243, _, none⟩) NB237_243.out _).trans (((cell_far (p := ⟨gb243, _, none⟩) NB237_243.out _).trans (hHeld.2.2))))))⟩ (fun hHeld => ?_)
       clear hK K
       refine puU 10 8 HT_ ?_
       refine dnU HT_ ?_
       have hnb23 := NB243_237.out
       have hnc23 := NB237_243.out
       have hnb24 := NB243_238.out
       have hnc24 := NB238_243.out
       obtain ⟨hcz25_0, hcz25_1, hcz25_2, hfz25_0, hfz25_1, hfz25_2⟩ := b3U BK243
       have hnb26 := NB237_238.out
       have hnc26 := NB238_237.out
       obtain ⟨hcz27_0, hcz27_1, hcz27_2, hfz27_0, hfz27_1, hfz27_2⟩ := b3U BK237
       try go_wp2
       go_roundg k1
       case measure => have := HK1.out; omega
       case rel => exact ⟨(wrap64 (x6_1 + 1)), (t239), (t240), (t241), (x239000_1), (x239001_1), (x239002_1), eqU, H', ⟨by have := HK1.out; omega⟩, ⟨bkU⟩, ⟨bkU⟩, ⟨hbU⟩⟩
      ·replace c15 := Bool.eq_false_iff.mpr c15
       subst c15
       rw [if_neg (show ¬ (false = true) by decide)] at H
       simp only [Option.some.injEq, Prod.mk.injEq] at H
       obtain ⟨rfl, rfl, rfl, rfl⟩ := H
       try go_wp2
       have n0_ := Aside0.mk (blk_drew BK237.out)
       have n1_ := Aside0.mk (blk_drew BK238.out)
       have n2_ := Aside0.mk (below_drew1 HB.out)
       clear BK237
       clear BK238
       clear HB
       have BK237 := n0_
       have BK238 := n1_
       have HB := n2_
       clear n0_ n1_ n2_
       have p13 : 0 ≤ (x6_1 : Int) := of_decide_eq_true (by first | (with_reducible assumption) | assumption)
       have q13 : x6_1 < (a1.size : Int) := of_decide_eq_true (by first | (with_reducible assumption) | assumption)
       have hx13 := bt_at a1 x6_1
       replace p13 := eq_true p13
       replace q13 := eq_true q13
       refine start_ (n := 11) (S := fun w' => w'.cell? ⟨gb237, 0, none⟩ = some (.int .i64 x238000_1) ∧ w'.cell? ⟨gb237, 1, none⟩ = some (.bool x238001_1) ∧ w'.cell? ⟨gb237, 2, none⟩ = some (.int .i64 x238002_1)) (ds := []) #[false, false, false, false, false, false, false, false, false, false, false] (by kernel_rfl) rfl rfl (c3U BK237) (fun hHeld => ?_); refine with_tabW spec_frAfter.tab6 spec_frAfter.bits6 (fun HT_ HW_ => ?_)
       generalize wr.drew = w28 at BK237 BK238 HB hHeld ⊢
       refine puU 1 21 HT_ ?_
       refine puU 2 22 HT_ ?_
       refine tkU 0 20 HT_ HW_ hHeld ?_
       refine tkU 3 23 HT_ HW_ hHeld ?_
       refine join_ (σ := Nat) 2 #[true, true, true, true, true, true, true, true, true, false, false] (fun s_ => [(24, .tuple #[.agg #[.int .i64 t239, .bool t240, .int .i64 t241], .bool false]), (7, .pointer (some ⟨s_, 0, none⟩)), (19, .tuple #[.agg #[.int .i64 t239, .bool t240, .int .i64 t241], .bool false]), (25, .agg #[.int .i64 t239, .bool t240, .int .i64 t241]), (26, .bool false)]) (fun s_ w' => (w'.cell? ⟨gb237, 0, none⟩ = some (.int .i64 x238000_1) ∧ w'.cell? ⟨gb237, 1, none⟩ = some (.bool x238001_1) ∧ w'.cell? ⟨gb237, 2, none⟩ = some (.int .i64 x238002_1)) ∧ (w'.heap[gb237]? = some (.cells #[.int .i64 x238000_1, .bool x238001_1, .int .i64 x238002_1] 25 (0, 0))) ∧ (w'.heap[gb238]? = some (.cells #[.int .i64 x239000_1, .bool x239001_1, .int .i64 x239002_1] 25 (0, 0))) ∧ (w'.heap[s_]? = some (.cells #[.int .i64 0, .bool false, .int .i64 0] 25 (0, 0))) ∧ (w.heap.size ≤ s_) ∧ (w.heap.size ≤ s_) ∧ (gb237 ≠ s_) ∧ (s_ ≠ gb237) ∧ (gb238 ≠ s_) ∧ (s_ ≠ gb238) ∧ (Below w.heap.size w w')) ?_ ?_
       rotate_left
       ·intro hCont
        refine two_ (i := 4) (j := 8) (Ni := some 24) (Nj := some 7) #[true, true, true, true, true, false, false, false, false, false, false] #[true, true, true, true, false, false, false, false, true, false, false] rfl rfl rfl rfl (two_of HT_.out (by kernel_rfl)) (by decide) (by decide) (fun K hK => ?_) (fun K hK => ?_)
        ·skip
         refine goes_ Tryz.func94 (by kernel_rfl) rfl #[.agg #[.int .i64 x238000_1, .bool x238001_1, .int .i64 x238002_1], .int .u8 (bt a1 x6_1)] (by rfl) rfl rfl arU ?_
         with_reducible refine (spec_frPot.calls k1 x238000_1 x238001_1 x238002_1 (bt a1 x6_1) t239 t240 t241 false _ A14.out).mono ?_
         rintro e w29 ⟨rfl, hb⟩
         refine ⟨_, rfl, ?_⟩
         have n0_ := bbU BK237 hb
         have n1_ := bbU BK238 hb
         have n2_ := bsU hb
         clear BK237
         clear BK238
         clear HB
         have BK237 := n0_
         have BK238 := n1_
         have HB := n2_
         clear n0_ n1_ n2_
         (try clear hb)
         refine hK.out _ _ (c3U BK237) (fun hHeld => ?_)
         clear hK K
         refine norm_ (a' := ?_) ?_ ?_
         rotate_left
         ·show Act.put _ (some 24) _ = _
          simp only [Act.put, List.setIfInBounds_toArray, List.set_cons_zero, List.set_cons_succ, i64_w, i32_w]
          rfl
         refine puU 5 19 HT_ ?_
         refine puU 6 25 HT_ ?_
         refine puU 7 26 HT_ ?_
         refine onU 8 (some 7) HT_ (fun K hK => ?_)
         refine box_step ?hg (N := 7) ?hd (cs := #[.int .i64 0, .bool false, .int .i64 0]) (t := 25) ?hr ?_; (case hd => rfl); (case hg => rfl); (case hr => first | (go_simp; done) | (go_simp; rfl))
         intro gb243 hg w30 hbox hb
         have n0_ := bbU BK237 hb
         have n1_ := bbU BK238 hb
         have n2_ := bsU hb
         have n3_ := Aside0.mk (hbox)
         have n4_ := geU hg
         have n5_ := geU hg
         have n6_ := neU BK237 hg
         have n7_ := enU BK237 hg
         have n8_ := neU BK238 hg
         have n9_ := enU BK238 hg
         clear BK237
         clear BK238
         clear HB
         have BK237 := n0_
         have BK238 := n1_
         have HB := n2_
         have BK243 := n3_
         have GW243 := n4_
         have GE243 := n5_
         have NB237_243 := n6_
         have NB243_237 := n7_
         have NB238_243 := n8_
         have NB243_238 := n9_
         clear n0_ n1_ n2_ n3_ n4_ n5_ n6_ n7_ n8_ n9_
         clear hb hbox hg
         refine hK.out _ _ (c3U BK237) (fun hHeld => ?_)
         clear hK K
         refine norm_ (a' := ?_) ?_ ?_
         rotate_left
         ·show Act.put _ (some 7) _ = _
          simp only [Act.put, List.setIfInBounds_toArray, List.set_cons_zero, List.set_cons_succ, i64_w, i32_w]
          rfl
         exact norm_ (by simp only [putAll, Act.put, List.setIfInBounds_toArray, List.set_cons_zero, List.set_cons_succ]) (hCont (gb243) _ ⟨hHeld, bkU, bkU, bkU, GW243.out, GE243.out, NB237_243.out, NB243_237.out, NB238_243.out, NB243_238.out, hbU⟩)
        ·skip
         refine box_step ?hg (N := 7) ?hd (cs := #[.int .i64 0, .bool false, .int .i64 0]) (t := 25) ?hr ?_; (case hd => rfl); (case hg => rfl); (case hr => first | (go_simp; done) | (go_simp; rfl))
         intro gb243 hg w29 hbox hb
         have n0_ := bbU BK237 hb
         have n1_ := bbU BK238 hb
         have n2_ := bsU hb
         have n3_ := Aside0.mk (hbox)
         have n4_ := geU hg
         have n5_ := geU hg
         have n6_ := neU BK237 hg
         have n7_ := enU BK237 hg
         have n8_ := neU BK238 hg
         have n9_ := enU BK238 hg
         clear BK237
         clear BK238
         clear HB
         have BK237 := n0_
         have BK238 := n1_
         have HB := n2_
         have BK243 := n3_
         have GW243 := n4_
         have GE243 := n5_
         have NB237_243 := n6_
         have NB243_237 := n7_
         have NB238_243 := n8_
         have NB243_238 := n9_
         clear n0_ n1_ n2_ n3_ n4_ n5_ n6_ n7_ n8_ n9_
         clear hb hbox hg
         refine hK.out _ _ (c3U BK237) (fun hHeld => ?_)
         clear hK K
         refine norm_ (a' := ?_) ?_ ?_
         rotate_left
         ·show Act.put _ (some 7) _ = _
          simp only [Act.put, List.setIfInBounds_toArray, List.set_cons_zero, List.set_cons_succ, i64_w, i32_w]
          rfl
         refine onU 4 (some 24) HT_ (fun K hK => ?_)
         refine goes_ Tryz.func94 (by kernel_rfl) rfl #[.agg #[.int .i64 x238000_1, .bool x238001_1, .int .i64 x238002_1], .int .u8 (bt a1 x6_1)] (by rfl) rfl rfl arU ?_
         with_reducible refine (spec_frPot.calls k1 x238000_1 x238001_1 x238002_1 (bt a1 x6_1) t239 t240 t241 false _ A14.out).mono ?_
         rintro e w30 ⟨rfl, hb⟩
         refine ⟨_, rfl, ?_⟩
         have n0_ := bbU BK237 hb
         have n1_ := bbU BK238 hb
         have n2_ := bbU BK243 hb
         have n3_ := bsU hb
         clear BK237
         clear BK238
         clear BK243
         clear HB
         have BK237 := n0_
         have BK238 := n1_
         have BK243 := n2_
         have HB := n3_
         clear n0_ n1_ n2_ n3_
         (try clear hb)
         refine hK.out _ _ (c3U BK237) (fun hHeld => ?_)
         clear hK K
         refine norm_ (a' := ?_) ?_ ?_
         rotate_left
         ·show Act.put _ (some 24) _ = _
          simp only [Act.put, List.setIfInBounds_toArray, List.set_cons_zero, List.set_cons_succ, i64_w, i32_w]
          rfl
         refine puU 5 19 HT_ ?_
         refine puU 6 25 HT_ ?_
         refine puU 7 26 HT_ ?_
         exact norm_ (by simp only [putAll, Act.put, List.setIfInBounds_toArray, List.set_cons_zero, List.set_cons_succ]) (hCont (gb243) _ ⟨hHeld, bkU, bkU, bkU, GW243.out, GE243.out, NB237_243.out, NB243_237.out, NB238_243.out, NB243_238.out, hbU⟩)
       rintro gb243 w31 ⟨hS_, h0_, h1_, h2_, h3_, h4_, h5_, h6_, h7_, h8_, h9_⟩
       have n0_ : Aside0 (w31.heap[gb237]? = some (.cells #[.int .i64 x238000_1, .bool x238001_1, .int .i64 x238002_1] 25 (0, 0))) := ⟨h0_⟩
       have n1_ : Aside0 (w31.heap[gb238]? = some (.cells #[.int .i64 x239000_1, .bool x239001_1, .int .i64 x239002_1] 25 (0, 0))) := ⟨h1_⟩
       have n2_ : Aside0 (w31.heap[gb243]? = some (.cells #[.int .i64 0, .bool false, .int .i64 0] 25 (0, 0))) := ⟨h2_⟩
       have n3_ : Aside0 (w.heap.size ≤ gb243) := ⟨h3_⟩
       have n4_ : Aside0 (w.heap.size ≤ gb243) := ⟨h4_⟩
       have n5_ : Aside0 (gb237 ≠ gb243) := ⟨h5_⟩
       have n6_ : Aside0 (gb243 ≠ gb237) := ⟨h6_⟩
       have n7_ : Aside0 (gb238 ≠ gb243) := ⟨h7_⟩
       have n8_ : Aside0 (gb243 ≠ gb238) := ⟨h8_⟩
       have n9_ : Aside0 (Below w.heap.size w w31) := ⟨h9_⟩
       clear BK237
       clear BK238
       clear HB
       clear h0_ h1_ h2_ h3_ h4_ h5_ h6_ h7_ h8_ h9_
       have BK237 := n0_
       have BK238 := n1_
       have BK243 := n2_
       have GW243 := n3_
       have GE243 := n4_
       have NB237_243 := n5_
       have NB243_237 := n6_
       have NB238_243 := n7_
       have NB243_238 := n8_
       have HB := n9_
       clear n0_ n1_ n2_ n3_ n4_ n5_ n6_ n7_ n8_ n9_
       have hHeld : w31.cell? ⟨gb237, 0, none⟩ = some (.int .i64 x238000_1) ∧ w31.cell? ⟨gb237, 1, none⟩ = some (.bool x238001_1) ∧ w31.cell? ⟨gb237, 2, none⟩ = some (.int .i64 x238002_1) := hS_
       refine norm_ (a' := ?_) ?_ ?_
       rotate_left
       ·simp only [putAll, Act.put, List.setIfInBounds_toArray, List.set_cons_zero, List.set_cons_succ]
        rfl
       refine onU 9 none HT_ (fun K hK => ?_)
       have hs32 : w31.cell? ⟨gb243, 0, none⟩ = some (.int .i64 0) := (blk_cell BK243.out 0).trans rfl
       have hfs32 := blk_frozen BK243.out 0
       have hns32_0 := NB237_243.out
       have hns32_1 := NB238_243.out
       have hms32_0 := NB243_237.out
       have hms32_1 := NB243_238.out
       have hs33 : w31.cell? ⟨gb243, 1, none⟩ = some (.bool false) := (blk_cell BK243.out 1).trans rfl
       have hfs33 := blk_frozen BK243.out 1
       have hns33_0 := NB237_243.out
       have hns33_1 := NB238_243.out
       have hms33_0 := NB243_237.out
       have hms33_1 := NB243_238.out
       have hs34 : w31.cell? ⟨gb243, 2, none⟩ = some (.int .i64 0) := (blk_cell BK243.out 2).trans rfl
       have hfs34 := blk_frozen BK243.out 2
       have hns34_0 := NB237_243.out
       have hns34_1 := NB238_243.out
       have hms34_0 := NB243_237.out
       have hms34_1 := NB243_238.out
       refine skip_ (w1 := ?_) (by rfl) rfl ?_ ?_
       rotate_left
       ·go_simp
        rfl
       refine hK.out _ _ ⟨((cell_far (p := ⟨gb243, _, none⟩) NB237_243.out _).trans (((cell_far (p := ⟨gb243, _, none⟩) NB237_243.out _).trans (((cell_far (p := ⟨gb243, _, none⟩) NB237_243.out _).trans (hHeld.1)))))), ((cell_far (p := ⟨gb243, _, none⟩) NB237_243.out _).trans (((cell_far (p := ⟨gb243, _, none⟩) NB237_243.out _).trans (((cell_far (p := ⟨gb243, _, none⟩) NB237_243.out _).trans (hHeld.2.1)))))), ((cell_far (p := ⟨gb243, _, none⟩) NB237_243.out _).trans (((cell_far (p := ⟨gb243, _, none⟩) NB237_243.out _).trans (((cell_far (p := ⟨gb243, _, none⟩) NB237_243.out _).trans (hHeld.2.2))))))⟩ (fun hHeld => ?_)
       clear hK K
       refine puU 10 8 HT_ ?_
       refine dnU HT_ ?_
       have hnb35 := NB237_238.out
       have hnc35 := NB238_237.out
       have hnb36 := NB237_243.out
       have hnc36 := NB243_237.out
       obtain ⟨hcz37_0, hcz37_1, hcz37_2, hfz37_0, hfz37_1, hfz37_2⟩ := b3U BK237
       have hnb38 := NB238_243.out
       have hnc38 := NB243_238.out
       obtain ⟨hcz39_0, hcz39_1, hcz39_2, hfz39_0, hfz39_1, hfz39_2⟩ := b3U BK238
       try go_wp2
       refine bodyPost_ret (results_ct rfl _ _ gb238 25 #[.int .i64 x238000_1, .bool x238001_1, .int .i64 x238002_1] (0, 0) _ rfl bkU Tryz.underlying25 rfl (by kernel_rfl)) rfl ?_
       exact ⟨by first | rfl | (simp [errW_none, errW_some] <;> rfl) | (simp [*, errW_none, errW_some] <;> rfl), hbU⟩
     ·rw [if_neg c12] at H
      exact absurd H (by simp)
    ·rw [if_neg c11] at H
     have c11b0 : decide (x6_1 < (a1.size : Int)) = false := decide_eq_false c11
     clear c11
     simp only [Option.some.injEq, Prod.mk.injEq] at H
     obtain ⟨rfl, rfl, rfl, rfl⟩ := H
     have hnb40 := NB237_238.out
     have hnc40 := NB238_237.out
     obtain ⟨hcz41_0, hcz41_1, hcz41_2, hfz41_0, hfz41_1, hfz41_2⟩ := b3U BK237
     obtain ⟨hcz42_0, hcz42_1, hcz42_2, hfz42_0, hfz42_1, hfz42_2⟩ := b3U BK238
     go_wp2
     refine bodyPost_ret (results_ct rfl _ _ gb238 25 #[.int .i64 x238000_1, .bool x238001_1, .int .i64 x238002_1] (0, 0) _ rfl bkU Tryz.underlying25 rfl (by kernel_rfl)) rfl ?_
     exact ⟨by first | rfl | (simp [errW_none, errW_some] <;> rfl) | (simp [*, errW_none, errW_some] <;> rfl), hbU⟩
def spec_IsBreak.f (k : Nat) (a0_0 : Int) (a0_1 : Bool) (a0_2 : Int) (a1 : ByteArray) : Option (Bool × Bool) := (spec_frGood.f a0_0 a0_1 a0_2).bind fun t245 => (if t245 = true then ((spec_frAfter.f k a0_0 a0_1 a0_2 a1).bind fun bt246 => (some (bt246.2.2.2, true))) else (some (false, false)))
theorem spec_IsBreak.mono : ∀ a0 a1 a2 a3 k, LeO (spec_IsBreak.f k a0 a1 a2 a3) (spec_IsBreak.f (k + 1) a0 a1 a2 a3) := by
 intro a0 a1 a2 a3 k
 unfold spec_IsBreak.f
 repeat' first
   | (with_reducible exact spec_frAfter.mono _ _ _ _ _)
   | (with_reducible exact LeO.refl _)
   | (with_reducible exact LeO.none _)
   | (with_reducible refine LeO.ite ?_ ?_)
   | (with_reducible refine LeO.bind ?_ (fun _ => ?_))
   | exact spec_frAfter.mono _ _ _ _ _
   | exact LeO.none _
   | refine LeO.ite ?_ ?_
   | refine LeO.bind ?_ (fun _ => ?_)
set_option maxHeartbeats 8000000 in
set_option maxRecDepth 100000 in
theorem spec_IsBreak.calls (k : Nat) (a0_0 : Int) (a0_1 : Bool) (a0_2 : Int) (a1 : ByteArray) (r1 : Bool) (r2 : Bool) (w : World) (h : spec_IsBreak.f k a0_0 a0_1 a0_2 a1 = some (r1, r2)) :
  Calls Tryz.prog 8 #[.agg #[.int .i64 a0_0, .bool a0_1, .int .i64 a0_2], .string a1] w fun e w' => e = .returned (.tuple #[.bool r1, .bool r2]) ∧ Below w.heap.size w w' := by
 have hu25 := Tryz.underlying25
 have HB := Aside0.mk (Below.refl w.heap.size w)
 have H : ((spec_frGood.f a0_0 a0_1 a0_2).bind fun t245 => (if t245 = true then ((spec_frAfter.f k a0_0 a0_1 a0_2 a1).bind fun bt246 => (some (bt246.2.2.2, true))) else (some (false, false)))) = some (r1, r2) := h
 clear h
 replace H := Option.bind_eq_some_iff.mp H
 obtain ⟨t245, A30, H⟩ := H
 (try dsimp only at H)
 have A3 := Aside0.mk A30
 clear A30
 by_cases c4 : t245 = true
 ·subst c4
  rw [if_pos rfl] at H
  replace H := Option.bind_eq_some_iff.mp H
  obtain ⟨⟨t246, t247, t248, t249⟩, A50, H⟩ := H
  (try dsimp only at H)
  have A5 := Aside0.mk A50
  clear A50
  simp only [Option.some.injEq, Prod.mk.injEq] at H
  obtain ⟨rfl, rfl⟩ := H
  go_enter Tryz.func8, Tryz.ntmps8
  go_wp2_with (first | ((with_reducible refine gate_dst (N := 2) rfl ?_); refine bxU (cs := #[.int .i64 a0_0, .bool a0_1, .int .i64 a0_2]) (t := 25) ?_; intro gb244 hg w6 hbox hb; have n0_ := bsU hb; have n1_ := Aside0.mk (hbox); have n2_ := geU hg; have n3_ := geU hg; clear HB; have HB := n0_; have BK244 := n1_; have GW244 := n2_; have GE244 := n3_; clear n0_ n1_ n2_ n3_; clear hb hbox hg; obtain ⟨hcz7_0, hcz7_1, hcz7_2, hfz7_0, hfz7_1, hfz7_2⟩ := b3U BK244) | ((with_reducible refine gate_callee (f := 78) rfl ?_); refine goU (some 9) Tryz.func78 #[.agg #[.int .i64 a0_0, .bool a0_1, .int .i64 a0_2]] ?_; (with_reducible refine (spec_frGood.calls a0_0 a0_1 a0_2 true _ A3.out).mono ?_); rintro e w8 ⟨rfl, hb⟩; refine ⟨_, rfl, ?_⟩; have n0_ := bbU BK244 hb; have n1_ := bsU hb; clear BK244; clear HB; have BK244 := n0_; have HB := n1_; clear n0_ n1_; (try clear hb); (try clear hb2); (try clear hk); (try clear hi); obtain ⟨hcz9_0, hcz9_1, hcz9_2, hfz9_0, hfz9_1, hfz9_2⟩ := b3U BK244) | ((with_reducible refine gate_callee (f := 79) rfl ?_); refine goU (some 14) Tryz.func79 #[.agg #[.int .i64 a0_0, .bool a0_1, .int .i64 a0_2], .string a1] ?_; (with_reducible refine (spec_frAfter.calls k a0_0 a0_1 a0_2 a1 t246 t247 t248 t249 _ A5.out).mono ?_); rintro e w10 ⟨rfl, hb⟩; refine ⟨_, rfl, ?_⟩; have n0_ := bbU BK244 hb; have n1_ := bsU hb; clear BK244; clear HB; have BK244 := n0_; have HB := n1_; clear n0_ n1_; (try clear hb); (try clear hb2); (try clear hk); (try clear hi)) | ((with_reducible refine gate_dst (N := 6) rfl ?_); refine bxU (cs := #[.int .i64 0, .bool false, .int .i64 0]) (t := 25) ?_; intro gb250 hg w11 hbox hb; have n0_ := bbU BK244 hb; have n1_ := bsU hb; have n2_ := Aside0.mk (hbox); have n3_ := geU hg; have n4_ := geU hg; have n5_ := neU BK244 hg; have n6_ := enU BK244 hg; clear BK244; clear HB; have BK244 := n0_; have HB := n1_; have BK250 := n2_; have GW250 := n3_; have GE250 := n4_; have NB244_250 := n5_; have NB250_244 := n6_; clear n0_ n1_ n2_ n3_ n4_ n5_ n6_; clear hb hbox hg; have hnb12 := NB250_244.out; have hnc12 := NB244_250.out; obtain ⟨hcz13_0, hcz13_1, hcz13_2, hfz13_0, hfz13_1, hfz13_2⟩ := b3U BK250))
  go_ret2
  exact ⟨by first | rfl | (simp [errW_none, errW_some] <;> rfl) | (simp [*, errW_none, errW_some] <;> rfl), hbU⟩
 ·replace c4 := Bool.eq_false_iff.mpr c4
  subst c4
  rw [if_neg (show ¬ (false = true) by decide)] at H
  simp only [Option.some.injEq, Prod.mk.injEq] at H
  obtain ⟨rfl, rfl⟩ := H
  go_enter Tryz.func8, Tryz.ntmps8
  go_wp2_with (first | ((with_reducible refine gate_dst (N := 2) rfl ?_); refine bxU (cs := #[.int .i64 a0_0, .bool a0_1, .int .i64 a0_2]) (t := 25) ?_; intro gb244 hg w14 hbox hb; have n0_ := bsU hb; have n1_ := Aside0.mk (hbox); have n2_ := geU hg; have n3_ := geU hg; clear HB; have HB := n0_; have BK244 := n1_; have GW244 := n2_; have GE244 := n3_; clear n0_ n1_ n2_ n3_; clear hb hbox hg; obtain ⟨hcz15_0, hcz15_1, hcz15_2, hfz15_0, hfz15_1, hfz15_2⟩ := b3U BK244) | ((with_reducible refine gate_callee (f := 78) rfl ?_); refine goU (some 9) Tryz.func78 #[.agg #[.int .i64 a0_0, .bool a0_1, .int .i64 a0_2]] ?_; (with_reducible refine (spec_frGood.calls a0_0 a0_1 a0_2 false _ A3.out).mono ?_); rintro e w16 ⟨rfl, hb⟩; refine ⟨_, rfl, ?_⟩; have n0_ := bbU BK244 hb; have n1_ := bsU hb; clear BK244; clear HB; have BK244 := n0_; have HB := n1_; clear n0_ n1_; (try clear hb); (try clear hb2); (try clear hk); (try clear hi)))
  go_ret2
  exact ⟨by first | rfl | (simp [errW_none, errW_some] <;> rfl) | (simp [*, errW_none, errW_some] <;> rfl), hbU⟩
def impl_FrameAfter.f (k : Nat) (a0_0 : Int) (a0_1 : Bool) (a0_2 : Int) (a1 : ByteArray) : Option (Int × Bool × Int × Bool) := (impl_IsFrame.f k a0_0 a0_1 a0_2).bind fun t253 => (if t253 = true then ((impl_Frame_behind.f k a0_0 a0_1 a0_2 a1).bind fun bt254 => (some (bt254.1, bt254.2.1, bt254.2.2.1, bt254.2.2.2))) else (some (0, false, 0, false)))
theorem impl_FrameAfter.mono : ∀ a0 a1 a2 a3 k, LeO (impl_FrameAfter.f k a0 a1 a2 a3) (impl_FrameAfter.f (k + 1) a0 a1 a2 a3) := by
 intro a0 a1 a2 a3 k
 unfold impl_FrameAfter.f
 repeat' first
   | (with_reducible exact impl_Frame_behind.mono _ _ _ _ _)
   | (with_reducible exact impl_IsFrame.mono _ _ _ _)
   | (with_reducible exact LeO.refl _)
   | (with_reducible exact LeO.none _)
   | (with_reducible refine LeO.ite ?_ ?_)
   | (with_reducible refine LeO.bind ?_ (fun _ => ?_))
   | exact impl_Frame_behind.mono _ _ _ _ _
   | exact impl_IsFrame.mono _ _ _ _
   | exact LeO.none _
   | refine LeO.ite ?_ ?_
   | refine LeO.bind ?_ (fun _ => ?_)
set_option maxHeartbeats 8000000 in
set_option maxRecDepth 100000 in
theorem impl_FrameAfter.calls (k : Nat) (a0_0 : Int) (a0_1 : Bool) (a0_2 : Int) (a1 : ByteArray) (r1 : Int) (r2 : Bool) (r3 : Int) (r4 : Bool) (w : World) (h : impl_FrameAfter.f k a0_0 a0_1 a0_2 a1 = some (r1, r2, r3, r4)) :
  Calls Tryz.prog 9 #[.agg #[.int .i64 a0_0, .bool a0_1, .int .i64 a0_2], .string a1] w fun e w' => e = .returned (.tuple #[.agg #[.int .i64 r1, .bool r2, .int .i64 r3], .bool r4]) ∧ Below w.heap.size w w' := by
 have hu25 := Tryz.underlying25
 have HB := Aside0.mk (Below.refl w.heap.size w)
 have H : ((impl_IsFrame.f k a0_0 a0_1 a0_2).bind fun t253 => (if t253 = true then ((impl_Frame_behind.f k a0_0 a0_1 a0_2 a1).bind fun bt254 => (some (bt254.1, bt254.2.1, bt254.2.2.1, bt254.2.2.2))) else (some (0, false, 0, false)))) = some (r1, r2, r3, r4) := h
 clear h
 replace H := Option.bind_eq_some_iff.mp H
 obtain ⟨t253, A30, H⟩ := H
 (try dsimp only at H)
 have A3 := Aside0.mk A30
 clear A30
 by_cases c4 : t253 = true
 ·subst c4
  rw [if_pos rfl] at H
  replace H := Option.bind_eq_some_iff.mp H
  obtain ⟨⟨t254, t255, t256, t257⟩, A50, H⟩ := H
  (try dsimp only at H)
  have A5 := Aside0.mk A50
  clear A50
  simp only [Option.some.injEq, Prod.mk.injEq] at H
  obtain ⟨rfl, rfl, rfl, rfl⟩ := H
  go_enter Tryz.func9, Tryz.ntmps9
  go_wp2_with (first | ((with_reducible refine gate_dst (N := 2) rfl ?_); refine bxU (cs := #[.int .i64 a0_0, .bool a0_1, .int .i64 a0_2]) (t := 25) ?_; intro gb251 hg w6 hbox hb; have n0_ := bsU hb; have n1_ := Aside0.mk (hbox); have n2_ := geU hg; have n3_ := geU hg; clear HB; have HB := n0_; have BK251 := n1_; have GW251 := n2_; have GE251 := n3_; clear n0_ n1_ n2_ n3_; clear hb hbox hg) | ((with_reducible refine gate_dst (N := 4) rfl ?_); refine bxU (cs := #[.int .i64 0, .bool false, .int .i64 0]) (t := 25) ?_; intro gb252 hg w7 hbox hb; have n0_ := bbU BK251 hb; have n1_ := bsU hb; have n2_ := Aside0.mk (hbox); have n3_ := geU hg; have n4_ := geU hg; have n5_ := neU BK251 hg; have n6_ := enU BK251 hg; clear BK251; clear HB; have BK251 := n0_; have HB := n1_; have BK252 := n2_; have GW252 := n3_; have GE252 := n4_; have NB251_252 := n5_; have NB252_251 := n6_; clear n0_ n1_ n2_ n3_ n4_ n5_ n6_; clear hb hbox hg; have hnb8 := NB251_252.out; have hnc8 := NB252_251.out; obtain ⟨hcz9_0, hcz9_1, hcz9_2, hfz9_0, hfz9_1, hfz9_2⟩ := b3U BK251) | ((with_reducible refine gate_callee (f := 25) rfl ?_); refine goU (some 7) Tryz.func25 #[.agg #[.int .i64 a0_0, .bool a0_1, .int .i64 a0_2]] ?_; (with_reducible refine (impl_IsFrame.calls k a0_0 a0_1 a0_2 true _ A3.out).mono ?_); rintro e w10 ⟨rfl, hb⟩; refine ⟨_, rfl, ?_⟩; have n0_ := bbU BK251 hb; have n1_ := bbU BK252 hb; have n2_ := bsU hb; clear BK251; clear BK252; clear HB; have BK251 := n0_; have BK252 := n1_; have HB := n2_; clear n0_ n1_ n2_; (try clear hb); (try clear hb2); (try clear hk); (try clear hi); obtain ⟨hcz11_0, hcz11_1, hcz11_2, hfz11_0, hfz11_1, hfz11_2⟩ := b3U BK251) | ((with_reducible refine gate_callee (f := 77) rfl ?_); refine goU (some 12) Tryz.func77 #[.agg #[.int .i64 a0_0, .bool a0_1, .int .i64 a0_2], .string a1] ?_; (with_reducible refine (impl_Frame_behind.calls k a0_0 a0_1 a0_2 a1 t254 t255 t256 t257 _ A5.out).mono ?_); rintro e w12 ⟨rfl, hb⟩; refine ⟨_, rfl, ?_⟩; have n0_ := bbU BK251 hb; have n1_ := bbU BK252 hb; have n2_ := bsU hb; clear BK251; clear BK252; clear HB; have BK251 := n0_; have BK252 := n1_; have HB := n2_; clear n0_ n1_ n2_; (try clear hb); (try clear hb2); (try clear hk); (try clear hi); obtain ⟨hcz13_0, hcz13_1, hcz13_2, hfz13_0, hfz13_1, hfz13_2⟩ := b3U BK252))
  refine bodyPost_ret (results_ct rfl _ _ gb252 25 #[.int .i64 t254, .bool t255, .int .i64 t256] (0, 0) _ rfl bkU Tryz.underlying25 rfl (by kernel_rfl)) rfl ?_
  exact ⟨by first | rfl | (simp [errW_none, errW_some] <;> rfl) | (simp [*, errW_none, errW_some] <;> rfl), hbU⟩
 ·replace c4 := Bool.eq_false_iff.mpr c4
  subst c4
  rw [if_neg (show ¬ (false = true) by decide)] at H
  simp only [Option.some.injEq, Prod.mk.injEq] at H
  obtain ⟨rfl, rfl, rfl, rfl⟩ := H
  go_enter Tryz.func9, Tryz.ntmps9
  go_wp2_with (first | ((with_reducible refine gate_dst (N := 2) rfl ?_); refine bxU (cs := #[.int .i64 a0_0, .bool a0_1, .int .i64 a0_2]) (t := 25) ?_; intro gb251 hg w14 hbox hb; have n0_ := bsU hb; have n1_ := Aside0.mk (hbox); have n2_ := geU hg; have n3_ := geU hg; clear HB; have HB := n0_; have BK251 := n1_; have GW251 := n2_; have GE251 := n3_; clear n0_ n1_ n2_ n3_; clear hb hbox hg) | ((with_reducible refine gate_dst (N := 4) rfl ?_); refine bxU (cs := #[.int .i64 0, .bool false, .int .i64 0]) (t := 25) ?_; intro gb252 hg w15 hbox hb; have n0_ := bbU BK251 hb; have n1_ := bsU hb; have n2_ := Aside0.mk (hbox); have n3_ := geU hg; have n4_ := geU hg; have n5_ := neU BK251 hg; have n6_ := enU BK251 hg; clear BK251; clear HB; have BK251 := n0_; have HB := n1_; have BK252 := n2_; have GW252 := n3_; have GE252 := n4_; have NB251_252 := n5_; have NB252_251 := n6_; clear n0_ n1_ n2_ n3_ n4_ n5_ n6_; clear hb hbox hg; have hnb16 := NB251_252.out; have hnc16 := NB252_251.out; obtain ⟨hcz17_0, hcz17_1, hcz17_2, hfz17_0, hfz17_1, hfz17_2⟩ := b3U BK251) | ((with_reducible refine gate_callee (f := 25) rfl ?_); refine goU (some 7) Tryz.func25 #[.agg #[.int .i64 a0_0, .bool a0_1, .int .i64 a0_2]] ?_; (with_reducible refine (impl_IsFrame.calls k a0_0 a0_1 a0_2 false _ A3.out).mono ?_); rintro e w18 ⟨rfl, hb⟩; refine ⟨_, rfl, ?_⟩; have n0_ := bbU BK251 hb; have n1_ := bbU BK252 hb; have n2_ := bsU hb; clear BK251; clear BK252; clear HB; have BK251 := n0_; have BK252 := n1_; have HB := n2_; clear n0_ n1_ n2_; (try clear hb); (try clear hb2); (try clear hk); (try clear hi); obtain ⟨hcz19_0, hcz19_1, hcz19_2, hfz19_0, hfz19_1, hfz19_2⟩ := b3U BK252))
  refine bodyPost_ret (results_ct rfl _ _ gb252 25 #[.int .i64 0, .bool false, .int .i64 0] (0, 0) _ rfl bkU Tryz.underlying25 rfl (by kernel_rfl)) rfl ?_
  exact ⟨by first | rfl | (simp [errW_none, errW_some] <;> rfl) | (simp [*, errW_none, errW_some] <;> rfl), hbU⟩
end Go.Proofs.YtcmlmjgoidpabaaGreatDoor.MFnFramesPotted

