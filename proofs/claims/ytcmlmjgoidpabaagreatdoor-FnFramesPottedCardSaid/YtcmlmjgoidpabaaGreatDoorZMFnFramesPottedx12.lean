/- Walks of the functions that the law reaches: each comes to just what the function that is told of it tells, for all arguments. -/
import Derived.Test.YtcmlmjgoidpabaaGreatDoorZMFnFramesPottedx0
import Derived.Test.YtcmlmjgoidpabaaGreatDoorZMFnFramesPottedx2
import Derived.Test.YtcmlmjgoidpabaaGreatDoorZMFnFramesPottedx3
import Derived.Test.YtcmlmjgoidpabaaGreatDoorZMFnFramesPottedx5
namespace Go.Proofs.YtcmlmjgoidpabaaGreatDoor.MFnFramesPotted
open Go.RowKit Go.Proofs.YtcmlmjgoidpabaaGreatDoorW.PrintWords Go.Proofs.YtcmlmjgoidpabaaGreatDoorW.PrintLast Go.Proofs.YtcmlmjgoidpabaaGreatDoorW.PrintMore
attribute [local go_sem] max2_int min2_int max_two min_two max_three min_three max_four min_four
set_option linter.unusedVariables false
set_option linter.unusedSimpArgs false
def spec_PotBall.j0 : Nat → ByteArray → Bool → Int → Bool → Int → Option (Int × Bool × Int × Bool)
 | 0, _, _, _, _, _ => none
 | k + 1, x1, x15, x399000, x399001, x399002 => if x15 = true then (some (0, false, 0, false)) else (if 0 < (x1.size : Int) then ((spec_frPot.f k x399000 x399001 x399002 (bt x1 0)).bind fun bt401 => (if bt401.2.2.2 = true then (some (bt401.1, bt401.2.1, bt401.2.2.1, true)) else (some (0, false, 0, false)))) else (none))
def spec_PotBall.f (k : Nat) (a0_0 : Int) (a0_1 : Bool) (a0_2 : Int) (a1 : ByteArray) : Option (Int × Bool × Int × Bool) := (spec_frGood.f a0_0 a0_1 a0_2).bind fun t400 => (if t400 = true then (spec_PotBall.j0 k a1 ((a1.size : Int) != 1) a0_0 a0_1 a0_2) else (spec_PotBall.j0 k a1 true a0_0 a0_1 a0_2))
theorem spec_PotBall.mono_l : ∀ k, (∀ y0 y1 y2 y3 y4, LeO (spec_PotBall.j0 k y0 y1 y2 y3 y4) (spec_PotBall.j0 (k + 1) y0 y1 y2 y3 y4))
 | 0 => fun _ _ _ _ _ r h => by simp [spec_PotBall.j0] at h
 | k + 1 => by
  have ih0 := spec_PotBall.mono_l k
  ·intro y0 y1 y2 y3 y4
   unfold spec_PotBall.j0
   repeat' first
   | (with_reducible exact ih0 _ _ _ _ _)
   | (with_reducible exact spec_frPot.mono _ _ _ _ _)
   | (with_reducible exact LeO.refl _)
   | (with_reducible exact LeO.none _)
   | (with_reducible refine LeO.ite ?_ ?_)
   | (with_reducible refine LeO.bind ?_ (fun _ => ?_))
   | exact ih0 _ _ _ _ _
   | exact spec_frPot.mono _ _ _ _ _
   | exact LeO.none _
   | refine LeO.ite ?_ ?_
   | refine LeO.bind ?_ (fun _ => ?_)
theorem spec_PotBall.mono : ∀ a0 a1 a2 a3 k, LeO (spec_PotBall.f k a0 a1 a2 a3) (spec_PotBall.f (k + 1) a0 a1 a2 a3) := by
 intro a0 a1 a2 a3 k
 have ih0 := spec_PotBall.mono_l k
 unfold spec_PotBall.f
 repeat' first
   | (with_reducible exact ih0 _ _ _ _ _)
   | (with_reducible exact spec_frPot.mono _ _ _ _ _)
   | (with_reducible exact LeO.refl _)
   | (with_reducible exact LeO.none _)
   | (with_reducible refine LeO.ite ?_ ?_)
   | (with_reducible refine LeO.bind ?_ (fun _ => ?_))
   | exact ih0 _ _ _ _ _
   | exact spec_frPot.mono _ _ _ _ _
   | exact LeO.none _
   | refine LeO.ite ?_ ?_
   | refine LeO.bind ?_ (fun _ => ?_)
def spec_PotBall.T3 : Bool × List (List Nat × List Nat) := (true, [([], []), ([], []), ([1], [1]), ([0, 2], [0, 2]), ([3], [3]), ([4], [4]), ([4], [4]), ([], []), ([7, 5, 3, 0, 1, 2, 3, 4, 5, 7], [5, 7]), ([6, 8, 0, 1, 2, 3, 4, 5, 6, 7, 8], [6])])
def spec_PotBall.B3 : List Nat := [0, 0, 2, 7, 15, 31, 31, 0, 191, 511]
theorem spec_PotBall.tab3 : rtab .any (opsOf Tryz.f31 3) = spec_PotBall.T3 := by kernel_rfl
theorem spec_PotBall.bits3 : waitsOk spec_PotBall.T3.2 spec_PotBall.B3 = true := by kernel_rfl
set_option maxHeartbeats 8000000 in
set_option maxRecDepth 100000 in
theorem spec_PotBall.calls (k : Nat) (a0_0 : Int) (a0_1 : Bool) (a0_2 : Int) (a1 : ByteArray) (r1 : Int) (r2 : Bool) (r3 : Int) (r4 : Bool) (w : World) (h : spec_PotBall.f k a0_0 a0_1 a0_2 a1 = some (r1, r2, r3, r4)) :
  Calls Tryz.prog 31 #[.agg #[.int .i64 a0_0, .bool a0_1, .int .i64 a0_2], .string a1] w fun e w' => e = .returned (.tuple #[.agg #[.int .i64 r1, .bool r2, .int .i64 r3], .bool r4]) ∧ Below w.heap.size w w' := by
 have hu25 := Tryz.underlying25
 have HB := Aside0.mk (Below.refl w.heap.size w)
 have H : ((spec_frGood.f a0_0 a0_1 a0_2).bind fun t400 => (if t400 = true then (spec_PotBall.j0 k a1 ((a1.size : Int) != 1) a0_0 a0_1 a0_2) else (spec_PotBall.j0 k a1 true a0_0 a0_1 a0_2))) = some (r1, r2, r3, r4) := h
 clear h
 have HC3 := Aside0.mk H
 clear H
 go_enter Tryz.func31, Tryz.ntmps31
 go_upto_region 1 with (first | ((with_reducible refine gate_dst (N := 2) rfl ?_); (try (refine gate_guard (by rfl) ?_; dsimp only)); refine bxU (cs := #[.int .i64 a0_0, .bool a0_1, .int .i64 a0_2]) (t := 25) ?_; intro gb398 hg w4 hbox hb; have n0_ := bsU hb; have n1_ := Aside0.mk (hbox); have n2_ := geU hg; have n3_ := geU hg; clear HB; have HB := n0_; have BK398 := n1_; have GW398 := n2_; have GE398 := n3_; clear n0_ n1_ n2_ n3_; clear hb hbox hg) | ((with_reducible refine gate_dst (N := 4) rfl ?_); (try (refine gate_guard (by rfl) ?_; dsimp only)); refine bxU (cs := #[.int .i64 0, .bool false, .int .i64 0]) (t := 25) ?_; intro gb399 hg w5 hbox hb; have n0_ := bbU BK398 hb; have n1_ := bsU hb; have n2_ := Aside0.mk (hbox); have n3_ := geU hg; have n4_ := geU hg; have n5_ := neU BK398 hg; have n6_ := enU BK398 hg; clear BK398; clear HB; have BK398 := n0_; have HB := n1_; have BK399 := n2_; have GW399 := n3_; have GE399 := n4_; have NB398_399 := n5_; have NB399_398 := n6_; clear n0_ n1_ n2_ n3_ n4_ n5_ n6_; clear hb hbox hg))
 (try simp only [Act.put, List.setIfInBounds_toArray, List.set_cons_zero, List.set_cons_succ])
 go_cut [15] (fun v15 wc => ∃ (kq : Nat) (x15_2 : Bool), v15 = .bool x15_2 ∧ Aside0 (spec_PotBall.j0 kq a1 x15_2 a0_0 a0_1 a0_2 = some (r1, r2, r3, r4)) ∧ Aside0 (kq ≤ k) ∧ Aside0 (wc.heap[gb398]? = some (.cells #[.int .i64 a0_0, .bool a0_1, .int .i64 a0_2] 25 (0, 0))) ∧ Aside0 (wc.heap[gb399]? = some (.cells #[.int .i64 0, .bool false, .int .i64 0] 25 (0, 0))) ∧ Aside0 (Below w.heap.size w wc))
 case first =>
  have H := HC3.out
  clear HC3
  replace H := Option.bind_eq_some_iff.mp H
  obtain ⟨t400, A60, H⟩ := H
  (try dsimp only at H)
  have A6 := Aside0.mk A60
  clear A60
  by_cases c7 : t400 = true
  ·subst c7
   rw [if_pos rfl] at H
   have H' := Aside0.mk H
   clear H
   have hnb8 := NB398_399.out
   have hnc8 := NB399_398.out
   obtain ⟨hcz9_0, hcz9_1, hcz9_2, hfz9_0, hfz9_1, hfz9_2⟩ := b3U BK398
   go_wp2_with (first | ((with_reducible refine gate_callee (f := 78) rfl ?_); refine goU (some 9) Tryz.func78 #[.agg #[.int .i64 a0_0, .bool a0_1, .int .i64 a0_2]] ?_; (with_reducible refine (spec_frGood.calls a0_0 a0_1 a0_2 true _ A6.out).mono ?_); rintro e w10 ⟨rfl, hb⟩; refine ⟨_, rfl, ?_⟩; have n0_ := bbU BK398 hb; have n1_ := bbU BK399 hb; have n2_ := bsU hb; clear BK398; clear BK399; clear HB; have BK398 := n0_; have BK399 := n1_; have HB := n2_; clear n0_ n1_ n2_; (try clear hb); (try clear hb2); (try clear hk); (try clear hi)))
   go_meet
   case rel => exact ⟨_, (((a1.size : Int) != 1)), eqU, H', ⟨by first | omega | exact Nat.le_refl _⟩, ⟨bkU⟩, ⟨bkU⟩, ⟨hbU⟩⟩
  ·replace c7 := Bool.eq_false_iff.mpr c7
   subst c7
   rw [if_neg (show ¬ (false = true) by decide)] at H
   have H' := Aside0.mk H
   clear H
   have hnb11 := NB398_399.out
   have hnc11 := NB399_398.out
   obtain ⟨hcz12_0, hcz12_1, hcz12_2, hfz12_0, hfz12_1, hfz12_2⟩ := b3U BK398
   go_wp2_with (first | ((with_reducible refine gate_callee (f := 78) rfl ?_); refine goU (some 9) Tryz.func78 #[.agg #[.int .i64 a0_0, .bool a0_1, .int .i64 a0_2]] ?_; (with_reducible refine (spec_frGood.calls a0_0 a0_1 a0_2 false _ A6.out).mono ?_); rintro e w13 ⟨rfl, hb⟩; refine ⟨_, rfl, ?_⟩; have n0_ := bbU BK398 hb; have n1_ := bbU BK399 hb; have n2_ := bsU hb; clear BK398; clear BK399; clear HB; have BK398 := n0_; have BK399 := n1_; have HB := n2_; clear n0_ n1_ n2_; (try clear hb); (try clear hb2); (try clear hk); (try clear hi)))
   go_meet
   case rel => exact ⟨_, (true), eqU, H', ⟨by first | omega | exact Nat.le_refl _⟩, ⟨bkU⟩, ⟨bkU⟩, ⟨hbU⟩⟩
 case rest =>
  clear HC3
  (try clear c3); (try clear c7); (try clear hcz12_0); (try clear hcz12_1); (try clear hcz12_2); (try clear hcz9_0); (try clear hcz9_1); (try clear hcz9_2); (try clear hfz12_0); (try clear hfz12_1); (try clear hfz12_2); (try clear hfz9_0); (try clear hfz9_1); (try clear hfz9_2)
  obtain ⟨kq, x15_2, rfl, HA, HJ2, BK398, BK399, HB⟩ := hcut
  cases kq with
  | zero => exact absurd HA.out (by simp [spec_PotBall.j0])
  | succ kj2 =>
   have H := HA.out
   clear HA
   simp only [spec_PotBall.j0] at H
   by_cases c14 : x15_2 = true
   ·subst c14
    rw [if_pos rfl] at H
    simp only [Option.some.injEq, Prod.mk.injEq] at H
    obtain ⟨rfl, rfl, rfl, rfl⟩ := H
    have hnb15 := NB399_398.out
    have hnc15 := NB398_399.out
    obtain ⟨hcz16_0, hcz16_1, hcz16_2, hfz16_0, hfz16_1, hfz16_2⟩ := b3U BK399
    go_wp2
    refine bodyPost_ret (results_ct rfl _ _ gb399 25 #[.int .i64 0, .bool false, .int .i64 0] (0, 0) _ rfl bkU Tryz.underlying25 rfl (by kernel_rfl)) rfl ?_
    exact ⟨by first | rfl | (simp [errW_none, errW_some] <;> rfl) | (simp [*, errW_none, errW_some] <;> rfl), hbU⟩
   ·replace c14 := Bool.eq_false_iff.mpr c14
    subst c14
    rw [if_neg (show ¬ (false = true) by decide)] at H
    by_cases c17 : 0 < (a1.size : Int)
    ·rw [if_pos c17] at H
     have c17b0 : decide (0 < (a1.size : Int)) = true := decide_eq_true c17
     have c17b1 : decide (0 < a1.size) = true := decide_eq_true (by omega)
     clear c17
     replace H := Option.bind_eq_some_iff.mp H
     obtain ⟨⟨t401, t402, t403, t404⟩, A190, H⟩ := H
     (try dsimp only at H)
     have A19 := Aside0.mk A190
     clear A190
     by_cases c20 : t404 = true
     ·subst c20
      rw [if_pos rfl] at H
      simp only [Option.some.injEq, Prod.mk.injEq] at H
      obtain ⟨rfl, rfl, rfl, rfl⟩ := H
      try go_wp2
      have n0_ := Aside0.mk (blk_drew BK398.out)
      have n1_ := Aside0.mk (blk_drew BK399.out)
      have n2_ := Aside0.mk (below_drew1 HB.out)
      clear BK398
      clear BK399
      clear HB
      have BK398 := n0_
      have BK399 := n1_
      have HB := n2_
      clear n0_ n1_ n2_
      have p18 : 0 ≤ (0 : Int) := (by omega)
      have q18 : 0 < a1.size := (by have : (0 : Int) < (a1.size : Int) := of_decide_eq_true (by first | (with_reducible assumption) | assumption); omega)
      have hx18 : ∀ h : 0 < a1.size, ((a1[0]'h).toNat : Int) = bt a1 0 := bt_at a1 0
      clear p18
      have qi18 : (0 < (a1.size : Int)) = True := eq_true (of_decide_eq_true (by first | (with_reducible assumption) | assumption))
      replace q18 := eq_true q18
      refine start_ (n := 10) (S := fun w' => w'.cell? ⟨gb398, 0, none⟩ = some (.int .i64 a0_0) ∧ w'.cell? ⟨gb398, 1, none⟩ = some (.bool a0_1) ∧ w'.cell? ⟨gb398, 2, none⟩ = some (.int .i64 a0_2)) (ds := []) #[false, false, false, false, false, false, false, false, false, false] (by kernel_rfl) rfl rfl (c3U BK398) (fun hHeld => ?_); refine with_tabW spec_PotBall.tab3 spec_PotBall.bits3 (fun HT_ HW_ => ?_)
      generalize wc.drew = w21 at BK398 BK399 HB hHeld ⊢
      refine puU 1 19 HT_ ?_
      refine tkU 0 18 HT_ HW_ hHeld ?_
      refine tkU 2 20 HT_ HW_ hHeld ?_
      refine join_ (σ := Nat) 2 #[true, true, true, true, true, true, true, true, false, false] (fun s_ => [(21, .tuple #[.agg #[.int .i64 t401, .bool t402, .int .i64 t403], .bool true]), (6, .pointer (some ⟨s_, 0, none⟩)), (17, .tuple #[.agg #[.int .i64 t401, .bool t402, .int .i64 t403], .bool true]), (22, .agg #[.int .i64 t401, .bool t402, .int .i64 t403]), (23, .bool true)]) (fun s_ w' => (w'.cell? ⟨gb398, 0, none⟩ = some (.int .i64 a0_0) ∧ w'.cell? ⟨gb398, 1, none⟩ = some (.bool a0_1) ∧ w'.cell? ⟨gb398, 2, none⟩ = some (.int .i64 a0_2)) ∧ (w'.heap[gb398]? = some (.cells #[.int .i64 a0_0, .bool a0_1, .int .i64 a0_2] 25 (0, 0))) ∧ (w'.heap[gb399]? = some (.cells #[.int .i64 0, .bool false, .int .i64 0] 25 (0, 0))) ∧ (w'.heap[s_]? = some (.cells #[.int .i64 0, .bool false, .int .i64 0] 25 (0, 0))) ∧ (w.heap.size ≤ s_) ∧ (w.heap.size ≤ s_) ∧ (gb398 ≠ s_) ∧ (s_ ≠ gb398) ∧ (gb399 ≠ s_) ∧ (s_ ≠ gb399) ∧ (Below w.heap.size w w')) ?_ ?_
      rotate_left
      ·intro hCont
       refine two_ (i := 3) (j := 7) (Ni := some 21) (Nj := some 6) #[true, true, true, true, false, false, false, false, false, false] #[true, true, true, false, false, false, false, true, false, false] rfl rfl rfl rfl (two_of HT_.out (by kernel_rfl)) (by decide) (by decide) (fun K hK => ?_) (fun K hK => ?_)
       ·skip
        refine goes_ Tryz.func94 (by kernel_rfl) rfl #[.agg #[.int .i64 a0_0, .bool a0_1, .int .i64 a0_2], .int .u8 (bt a1 0)] (by rfl) rfl rfl arU ?_
        with_reducible refine (spec_frPot.calls kj2 a0_0 a0_1 a0_2 (bt a1 0) t401 t402 t403 true _ A19.out).mono ?_
        rintro e w22 ⟨rfl, hb⟩
        refine ⟨_, rfl, ?_⟩
        have n0_ := bbU BK398 hb
        have n1_ := bbU BK399 hb
        have n2_ := bsU hb
        clear BK398
        clear BK399
        clear HB
        have BK398 := n0_
        have BK399 := n1_
        have HB := n2_
        clear n0_ n1_ n2_
        (try clear hb); (try clear hk); (try clear hi)
        refine hK.out _ _ (c3U BK398) (fun hHeld => ?_)
        clear hK K
        refine norm_ (a' := ?_) ?_ ?_
        rotate_left
        ·show Act.put _ (some 21) _ = _
         simp only [Act.put, List.setIfInBounds_toArray, List.set_cons_zero, List.set_cons_succ, i64_w, i32_w]
         rfl
        refine puU 4 17 HT_ ?_
        refine puU 5 22 HT_ ?_
        refine puU 6 23 HT_ ?_
        refine onU 7 (some 6) HT_ (fun K hK => ?_)
        refine box_step ?hg (N := 6) ?hd (cs := #[.int .i64 0, .bool false, .int .i64 0]) (t := 25) ?hr ?_; (case hd => rfl); (case hg => rfl); (case hr => first | (go_simp; done) | (go_simp; rfl))
        intro gb405 hg w23 hbox hb
        have n0_ := bbU BK398 hb
        have n1_ := bbU BK399 hb
        have n2_ := bsU hb
        have n3_ := Aside0.mk (hbox)
        have n4_ := geU hg
        have n5_ := geU hg
        have n6_ := neU BK398 hg
        have n7_ := enU BK398 hg
        have n8_ := neU BK399 hg
        have n9_ := enU BK399 hg
        clear BK398
        clear BK399
        clear HB
        have BK398 := n0_
        have BK399 := n1_
        have HB := n2_
        have BK405 := n3_
        have GW405 := n4_
        have GE405 := n5_
        have NB398_405 := n6_
        have NB405_398 := n7_
        have NB399_405 := n8_
        have NB405_399 := n9_
        clear n0_ n1_ n2_ n3_ n4_ n5_ n6_ n7_ n8_ n9_
        clear hb hbox hg
        refine hK.out _ _ (c3U BK398) (fun hHeld => ?_)
        clear hK K
        refine norm_ (a' := ?_) ?_ ?_
        rotate_left
        ·show Act.put _ (some 6) _ = _
         simp only [Act.put, List.setIfInBounds_toArray, List.set_cons_zero, List.set_cons_succ, i64_w, i32_w]
         rfl
        exact norm_ (by simp only [putAll, Act.put, List.setIfInBounds_toArray, List.set_cons_zero, List.set_cons_succ]) (hCont (gb405) _ ⟨hHeld, bkU, bkU, bkU, GW405.out, GE405.out, NB398_405.out, NB405_398.out, NB399_405.out, NB405_399.out, hbU⟩)
       ·skip
        refine box_step ?hg (N := 6) ?hd (cs := #[.int .i64 0, .bool false, .int .i64 0]) (t := 25) ?hr ?_; (case hd => rfl); (case hg => rfl); (case hr => first | (go_simp; done) | (go_simp; rfl))
        intro gb405 hg w22 hbox hb
        have n0_ := bbU BK398 hb
        have n1_ := bbU BK399 hb
        have n2_ := bsU hb
        have n3_ := Aside0.mk (hbox)
        have n4_ := geU hg
        have n5_ := geU hg
        have n6_ := neU BK398 hg
        have n7_ := enU BK398 hg
        have n8_ := neU BK399 hg
        have n9_ := enU BK399 hg
        clear BK398
        clear BK399
        clear HB
        have BK398 := n0_
        have BK399 := n1_
        have HB := n2_
        have BK405 := n3_
        have GW405 := n4_
        have GE405 := n5_
        have NB398_405 := n6_
        have NB405_398 := n7_
        have NB399_405 := n8_
        have NB405_399 := n9_
        clear n0_ n1_ n2_ n3_ n4_ n5_ n6_ n7_ n8_ n9_
        clear hb hbox hg
        refine hK.out _ _ (c3U BK398) (fun hHeld => ?_)
        clear hK K
        refine norm_ (a' := ?_) ?_ ?_
        rotate_left
        ·show Act.put _ (some 6) _ = _
         simp only [Act.put, List.setIfInBounds_toArray, List.set_cons_zero, List.set_cons_succ, i64_w, i32_w]
         rfl
        refine onU 3 (some 21) HT_ (fun K hK => ?_)
        refine goes_ Tryz.func94 (by kernel_rfl) rfl #[.agg #[.int .i64 a0_0, .bool a0_1, .int .i64 a0_2], .int .u8 (bt a1 0)] (by rfl) rfl rfl arU ?_
        with_reducible refine (spec_frPot.calls kj2 a0_0 a0_1 a0_2 (bt a1 0) t401 t402 t403 true _ A19.out).mono ?_
        rintro e w23 ⟨rfl, hb⟩
        refine ⟨_, rfl, ?_⟩
        have n0_ := bbU BK398 hb
        have n1_ := bbU BK399 hb
        have n2_ := bbU BK405 hb
        have n3_ := bsU hb
        clear BK398
        clear BK399
        clear BK405
        clear HB
        have BK398 := n0_
        have BK399 := n1_
        have BK405 := n2_
        have HB := n3_
        clear n0_ n1_ n2_ n3_
        (try clear hb); (try clear hk); (try clear hi)
        refine hK.out _ _ (c3U BK398) (fun hHeld => ?_)
        clear hK K
        refine norm_ (a' := ?_) ?_ ?_
        rotate_left
        ·show Act.put _ (some 21) _ = _
         simp only [Act.put, List.setIfInBounds_toArray, List.set_cons_zero, List.set_cons_succ, i64_w, i32_w]
         rfl
        refine puU 4 17 HT_ ?_
        refine puU 5 22 HT_ ?_
        refine puU 6 23 HT_ ?_
        exact norm_ (by simp only [putAll, Act.put, List.setIfInBounds_toArray, List.set_cons_zero, List.set_cons_succ]) (hCont (gb405) _ ⟨hHeld, bkU, bkU, bkU, GW405.out, GE405.out, NB398_405.out, NB405_398.out, NB399_405.out, NB405_399.out, hbU⟩)
      rintro gb405 w24 ⟨hS_, h0_, h1_, h2_, h3_, h4_, h5_, h6_, h7_, h8_, h9_⟩
      have n0_ : Aside0 (w24.heap[gb398]? = some (.cells #[.int .i64 a0_0, .bool a0_1, .int .i64 a0_2] 25 (0, 0))) := ⟨h0_⟩
      have n1_ : Aside0 (w24.heap[gb399]? = some (.cells #[.int .i64 0, .bool false, .int .i64 0] 25 (0, 0))) := ⟨h1_⟩
      have n2_ : Aside0 (w24.heap[gb405]? = some (.cells #[.int .i64 0, .bool false, .int .i64 0] 25 (0, 0))) := ⟨h2_⟩
      have n3_ : Aside0 (w.heap.size ≤ gb405) := ⟨h3_⟩
      have n4_ : Aside0 (w.heap.size ≤ gb405) := ⟨h4_⟩
      have n5_ : Aside0 (gb398 ≠ gb405) := ⟨h5_⟩
      have n6_ : Aside0 (gb405 ≠ gb398) := ⟨h6_⟩
      have n7_ : Aside0 (gb399 ≠ gb405) := ⟨h7_⟩
      have n8_ : Aside0 (gb405 ≠ gb399) := ⟨h8_⟩
      have n9_ : Aside0 (Below w.heap.size w w24) := ⟨h9_⟩
      clear BK398
      clear BK399
      clear HB
      clear h0_ h1_ h2_ h3_ h4_ h5_ h6_ h7_ h8_ h9_
      have BK398 := n0_
      have BK399 := n1_
      have BK405 := n2_
      have GW405 := n3_
      have GE405 := n4_
      have NB398_405 := n5_
      have NB405_398 := n6_
      have NB399_405 := n7_
      have NB405_399 := n8_
      have HB := n9_
      clear n0_ n1_ n2_ n3_ n4_ n5_ n6_ n7_ n8_ n9_
      have hHeld : w24.cell? ⟨gb398, 0, none⟩ = some (.int .i64 a0_0) ∧ w24.cell? ⟨gb398, 1, none⟩ = some (.bool a0_1) ∧ w24.cell? ⟨gb398, 2, none⟩ = some (.int .i64 a0_2) := hS_
      refine norm_ (a' := ?_) ?_ ?_
      rotate_left
      ·simp only [putAll, Act.put, List.setIfInBounds_toArray, List.set_cons_zero, List.set_cons_succ]
       rfl
      refine onU 8 none HT_ (fun K hK => ?_)
      have hs25 : w24.cell? ⟨gb405, 0, none⟩ = some (.int .i64 0) := (blk_cell BK405.out 0).trans rfl
      have hfs25 := blk_frozen BK405.out 0
      have hns25_0 := NB398_405.out
      have hns25_1 := NB399_405.out
      have hms25_0 := NB405_398.out
      have hms25_1 := NB405_399.out
      have hs26 : w24.cell? ⟨gb405, 1, none⟩ = some (.bool false) := (blk_cell BK405.out 1).trans rfl
      have hfs26 := blk_frozen BK405.out 1
      have hns26_0 := NB398_405.out
      have hns26_1 := NB399_405.out
      have hms26_0 := NB405_398.out
      have hms26_1 := NB405_399.out
      have hs27 : w24.cell? ⟨gb405, 2, none⟩ = some (.int .i64 0) := (blk_cell BK405.out 2).trans rfl
      have hfs27 := blk_frozen BK405.out 2
      have hns27_0 := NB398_405.out
      have hns27_1 := NB399_405.out
      have hms27_0 := NB405_398.out
      have hms27_1 := NB405_399.out
      refine skip_ (w1 := ?_) (by rfl) rfl ?_ ?_
      rotate_left
      ·go_simp
       rfl
      refine hK.out _ _ ⟨((cell_far (p := ⟨gb405, _, none⟩) NB398_405.out _).trans (((cell_far (p := ⟨gb405, _, none⟩) NB398_405.out _).trans (((cell_far (p := ⟨gb405, _, none⟩) NB398_405.out _).trans (hHeld.1)))))), ((cell_far (p := ⟨gb405, _, none⟩) NB398_405.out _).trans (((cell_far (p := ⟨gb405, _, none⟩) NB398_405.out _).trans (((cell_far (p := ⟨gb405, _, none⟩) NB398_405.out _).trans (hHeld.2.1)))))), ((cell_far (p := ⟨gb405, _, none⟩) NB398_405.out _).trans (((cell_far (p := ⟨gb405, _, none⟩) NB398_405.out _).trans (((cell_far (p := ⟨gb405, _, none⟩) NB398_405.out _).trans (hHeld.2.2))))))⟩ (fun hHeld => ?_)
      clear hK K
      refine puU 9 7 HT_ ?_
      refine dnU HT_ ?_
      have hnb28 := NB405_398.out
      have hnc28 := NB398_405.out
      have hnb29 := NB405_399.out
      have hnc29 := NB399_405.out
      obtain ⟨hcz30_0, hcz30_1, hcz30_2, hfz30_0, hfz30_1, hfz30_2⟩ := b3U BK405
      have hnb31 := NB399_398.out
      have hnc31 := NB398_399.out
      obtain ⟨hcz32_0, hcz32_1, hcz32_2, hfz32_0, hfz32_1, hfz32_2⟩ := b3U BK399
      try go_wp2
      refine bodyPost_ret (results_ct rfl _ _ gb399 25 #[.int .i64 t401, .bool t402, .int .i64 t403] (0, 0) _ rfl bkU Tryz.underlying25 rfl (by kernel_rfl)) rfl ?_
      exact ⟨by first | rfl | (simp [errW_none, errW_some] <;> rfl) | (simp [*, errW_none, errW_some] <;> rfl), hbU⟩
     ·replace c20 := Bool.eq_false_iff.mpr c20
      subst c20
      rw [if_neg (show ¬ (false = true) by decide)] at H
      simp only [Option.some.injEq, Prod.mk.injEq] at H
      obtain ⟨rfl, rfl, rfl, rfl⟩ := H
      try go_wp2
      have n0_ := Aside0.mk (blk_drew BK398.out)
      have n1_ := Aside0.mk (blk_drew BK399.out)
      have n2_ := Aside0.mk (below_drew1 HB.out)
      clear BK398
      clear BK399
      clear HB
      have BK398 := n0_
      have BK399 := n1_
      have HB := n2_
      clear n0_ n1_ n2_
      have p18 : 0 ≤ (0 : Int) := (by omega)
      have q18 : 0 < a1.size := (by have : (0 : Int) < (a1.size : Int) := of_decide_eq_true (by first | (with_reducible assumption) | assumption); omega)
      have hx18 : ∀ h : 0 < a1.size, ((a1[0]'h).toNat : Int) = bt a1 0 := bt_at a1 0
      clear p18
      have qi18 : (0 < (a1.size : Int)) = True := eq_true (of_decide_eq_true (by first | (with_reducible assumption) | assumption))
      replace q18 := eq_true q18
      refine start_ (n := 10) (S := fun w' => w'.cell? ⟨gb398, 0, none⟩ = some (.int .i64 a0_0) ∧ w'.cell? ⟨gb398, 1, none⟩ = some (.bool a0_1) ∧ w'.cell? ⟨gb398, 2, none⟩ = some (.int .i64 a0_2)) (ds := []) #[false, false, false, false, false, false, false, false, false, false] (by kernel_rfl) rfl rfl (c3U BK398) (fun hHeld => ?_); refine with_tabW spec_PotBall.tab3 spec_PotBall.bits3 (fun HT_ HW_ => ?_)
      generalize wc.drew = w33 at BK398 BK399 HB hHeld ⊢
      refine puU 1 19 HT_ ?_
      refine tkU 0 18 HT_ HW_ hHeld ?_
      refine tkU 2 20 HT_ HW_ hHeld ?_
      refine join_ (σ := Nat) 2 #[true, true, true, true, true, true, true, true, false, false] (fun s_ => [(21, .tuple #[.agg #[.int .i64 t401, .bool t402, .int .i64 t403], .bool false]), (6, .pointer (some ⟨s_, 0, none⟩)), (17, .tuple #[.agg #[.int .i64 t401, .bool t402, .int .i64 t403], .bool false]), (22, .agg #[.int .i64 t401, .bool t402, .int .i64 t403]), (23, .bool false)]) (fun s_ w' => (w'.cell? ⟨gb398, 0, none⟩ = some (.int .i64 a0_0) ∧ w'.cell? ⟨gb398, 1, none⟩ = some (.bool a0_1) ∧ w'.cell? ⟨gb398, 2, none⟩ = some (.int .i64 a0_2)) ∧ (w'.heap[gb398]? = some (.cells #[.int .i64 a0_0, .bool a0_1, .int .i64 a0_2] 25 (0, 0))) ∧ (w'.heap[gb399]? = some (.cells #[.int .i64 0, .bool false, .int .i64 0] 25 (0, 0))) ∧ (w'.heap[s_]? = some (.cells #[.int .i64 0, .bool false, .int .i64 0] 25 (0, 0))) ∧ (w.heap.size ≤ s_) ∧ (w.heap.size ≤ s_) ∧ (gb398 ≠ s_) ∧ (s_ ≠ gb398) ∧ (gb399 ≠ s_) ∧ (s_ ≠ gb399) ∧ (Below w.heap.size w w')) ?_ ?_
      rotate_left
      ·intro hCont
       refine two_ (i := 3) (j := 7) (Ni := some 21) (Nj := some 6) #[true, true, true, true, false, false, false, false, false, false] #[true, true, true, false, false, false, false, true, false, false] rfl rfl rfl rfl (two_of HT_.out (by kernel_rfl)) (by decide) (by decide) (fun K hK => ?_) (fun K hK => ?_)
       ·skip
        refine goes_ Tryz.func94 (by kernel_rfl) rfl #[.agg #[.int .i64 a0_0, .bool a0_1, .int .i64 a0_2], .int .u8 (bt a1 0)] (by rfl) rfl rfl arU ?_
        with_reducible refine (spec_frPot.calls kj2 a0_0 a0_1 a0_2 (bt a1 0) t401 t402 t403 false _ A19.out).mono ?_
        rintro e w34 ⟨rfl, hb⟩
        refine ⟨_, rfl, ?_⟩
        have n0_ := bbU BK398 hb
        have n1_ := bbU BK399 hb
        have n2_ := bsU hb
        clear BK398
        clear BK399
        clear HB
        have BK398 := n0_
        have BK399 := n1_
        have HB := n2_
        clear n0_ n1_ n2_
        (try clear hb); (try clear hk); (try clear hi)
        refine hK.out _ _ (c3U BK398) (fun hHeld => ?_)
        clear hK K
        refine norm_ (a' := ?_) ?_ ?_
        rotate_left
        ·show Act.put _ (some 21) _ = _
         simp only [Act.put, List.setIfInBounds_toArray, List.set_cons_zero, List.set_cons_succ, i64_w, i32_w]
         rfl
        refine puU 4 17 HT_ ?_
        refine puU 5 22 HT_ ?_
        refine puU 6 23 HT_ ?_
        refine onU 7 (some 6) HT_ (fun K hK => ?_)
        refine box_step ?hg (N := 6) ?hd (cs := #[.int .i64 0, .bool false, .int .i64 0]) (t := 25) ?hr ?_; (case hd => rfl); (case hg => rfl); (case hr => first | (go_simp; done) | (go_simp; rfl))
        intro gb405 hg w35 hbox hb
        have n0_ := bbU BK398 hb
        have n1_ := bbU BK399 hb
        have n2_ := bsU hb
        have n3_ := Aside0.mk (hbox)
        have n4_ := geU hg
        have n5_ := geU hg
        have n6_ := neU BK398 hg
        have n7_ := enU BK398 hg
        have n8_ := neU BK399 hg
        have n9_ := enU BK399 hg
        clear BK398
        clear BK399
        clear HB
        have BK398 := n0_
        have BK399 := n1_
        have HB := n2_
        have BK405 := n3_
        have GW405 := n4_
        have GE405 := n5_
        have NB398_405 := n6_
        have NB405_398 := n7_
        have NB399_405 := n8_
        have NB405_399 := n9_
        clear n0_ n1_ n2_ n3_ n4_ n5_ n6_ n7_ n8_ n9_
        clear hb hbox hg
        refine hK.out _ _ (c3U BK398) (fun hHeld => ?_)
        clear hK K
        refine norm_ (a' := ?_) ?_ ?_
        rotate_left
        ·show Act.put _ (some 6) _ = _
         simp only [Act.put, List.setIfInBounds_toArray, List.set_cons_zero, List.set_cons_succ, i64_w, i32_w]
         rfl
        exact norm_ (by simp only [putAll, Act.put, List.setIfInBounds_toArray, List.set_cons_zero, List.set_cons_succ]) (hCont (gb405) _ ⟨hHeld, bkU, bkU, bkU, GW405.out, GE405.out, NB398_405.out, NB405_398.out, NB399_405.out, NB405_399.out, hbU⟩)
       ·skip
        refine box_step ?hg (N := 6) ?hd (cs := #[.int .i64 0, .bool false, .int .i64 0]) (t := 25) ?hr ?_; (case hd => rfl); (case hg => rfl); (case hr => first | (go_simp; done) | (go_simp; rfl))
        intro gb405 hg w34 hbox hb
        have n0_ := bbU BK398 hb
        have n1_ := bbU BK399 hb
        have n2_ := bsU hb
        have n3_ := Aside0.mk (hbox)
        have n4_ := geU hg
        have n5_ := geU hg
        have n6_ := neU BK398 hg
        have n7_ := enU BK398 hg
        have n8_ := neU BK399 hg
        have n9_ := enU BK399 hg
        clear BK398
        clear BK399
        clear HB
        have BK398 := n0_
        have BK399 := n1_
        have HB := n2_
        have BK405 := n3_
        have GW405 := n4_
        have GE405 := n5_
        have NB398_405 := n6_
        have NB405_398 := n7_
        have NB399_405 := n8_
        have NB405_399 := n9_
        clear n0_ n1_ n2_ n3_ n4_ n5_ n6_ n7_ n8_ n9_
        clear hb hbox hg
        refine hK.out _ _ (c3U BK398) (fun hHeld => ?_)
        clear hK K
        refine norm_ (a' := ?_) ?_ ?_
        rotate_left
        ·show Act.put _ (some 6) _ = _
         simp only [Act.put, List.setIfInBounds_toArray, List.set_cons_zero, List.set_cons_succ, i64_w, i32_w]
         rfl
        refine onU 3 (some 21) HT_ (fun K hK => ?_)
        refine goes_ Tryz.func94 (by kernel_rfl) rfl #[.agg #[.int .i64 a0_0, .bool a0_1, .int .i64 a0_2], .int .u8 (bt a1 0)] (by rfl) rfl rfl arU ?_
        with_reducible refine (spec_frPot.calls kj2 a0_0 a0_1 a0_2 (bt a1 0) t401 t402 t403 false _ A19.out).mono ?_
        rintro e w35 ⟨rfl, hb⟩
        refine ⟨_, rfl, ?_⟩
        have n0_ := bbU BK398 hb
        have n1_ := bbU BK399 hb
        have n2_ := bbU BK405 hb
        have n3_ := bsU hb
        clear BK398
        clear BK399
        clear BK405
        clear HB
        have BK398 := n0_
        have BK399 := n1_
        have BK405 := n2_
        have HB := n3_
        clear n0_ n1_ n2_ n3_
        (try clear hb); (try clear hk); (try clear hi)
        refine hK.out _ _ (c3U BK398) (fun hHeld => ?_)
        clear hK K
        refine norm_ (a' := ?_) ?_ ?_
        rotate_left
        ·show Act.put _ (some 21) _ = _
         simp only [Act.put, List.setIfInBounds_toArray, List.set_cons_zero, List.set_cons_succ, i64_w, i32_w]
         rfl
        refine puU 4 17 HT_ ?_
        refine puU 5 22 HT_ ?_
        refine puU 6 23 HT_ ?_
        exact norm_ (by simp only [putAll, Act.put, List.setIfInBounds_toArray, List.set_cons_zero, List.set_cons_succ]) (hCont (gb405) _ ⟨hHeld, bkU, bkU, bkU, GW405.out, GE405.out, NB398_405.out, NB405_398.out, NB399_405.out, NB405_399.out, hbU⟩)
      rintro gb405 w36 ⟨hS_, h0_, h1_, h2_, h3_, h4_, h5_, h6_, h7_, h8_, h9_⟩
      have n0_ : Aside0 (w36.heap[gb398]? = some (.cells #[.int .i64 a0_0, .bool a0_1, .int .i64 a0_2] 25 (0, 0))) := ⟨h0_⟩
      have n1_ : Aside0 (w36.heap[gb399]? = some (.cells #[.int .i64 0, .bool false, .int .i64 0] 25 (0, 0))) := ⟨h1_⟩
      have n2_ : Aside0 (w36.heap[gb405]? = some (.cells #[.int .i64 0, .bool false, .int .i64 0] 25 (0, 0))) := ⟨h2_⟩
      have n3_ : Aside0 (w.heap.size ≤ gb405) := ⟨h3_⟩
      have n4_ : Aside0 (w.heap.size ≤ gb405) := ⟨h4_⟩
      have n5_ : Aside0 (gb398 ≠ gb405) := ⟨h5_⟩
      have n6_ : Aside0 (gb405 ≠ gb398) := ⟨h6_⟩
      have n7_ : Aside0 (gb399 ≠ gb405) := ⟨h7_⟩
      have n8_ : Aside0 (gb405 ≠ gb399) := ⟨h8_⟩
      have n9_ : Aside0 (Below w.heap.size w w36) := ⟨h9_⟩
      clear BK398
      clear BK399
      clear HB
      clear h0_ h1_ h2_ h3_ h4_ h5_ h6_ h7_ h8_ h9_
      have BK398 := n0_
      have BK399 := n1_
      have BK405 := n2_
      have GW405 := n3_
      have GE405 := n4_
      have NB398_405 := n5_
      have NB405_398 := n6_
      have NB399_405 := n7_
      have NB405_399 := n8_
      have HB := n9_
      clear n0_ n1_ n2_ n3_ n4_ n5_ n6_ n7_ n8_ n9_
      have hHeld : w36.cell? ⟨gb398, 0, none⟩ = some (.int .i64 a0_0) ∧ w36.cell? ⟨gb398, 1, none⟩ = some (.bool a0_1) ∧ w36.cell? ⟨gb398, 2, none⟩ = some (.int .i64 a0_2) := hS_
      refine norm_ (a' := ?_) ?_ ?_
      rotate_left
      ·simp only [putAll, Act.put, List.setIfInBounds_toArray, List.set_cons_zero, List.set_cons_succ]
       rfl
      refine onU 8 none HT_ (fun K hK => ?_)
      have hs37 : w36.cell? ⟨gb405, 0, none⟩ = some (.int .i64 0) := (blk_cell BK405.out 0).trans rfl
      have hfs37 := blk_frozen BK405.out 0
      have hns37_0 := NB398_405.out
      have hns37_1 := NB399_405.out
      have hms37_0 := NB405_398.out
      have hms37_1 := NB405_399.out
      have hs38 : w36.cell? ⟨gb405, 1, none⟩ = some (.bool false) := (blk_cell BK405.out 1).trans rfl
      have hfs38 := blk_frozen BK405.out 1
      have hns38_0 := NB398_405.out
      have hns38_1 := NB399_405.out
      have hms38_0 := NB405_398.out
      have hms38_1 := NB405_399.out
      have hs39 : w36.cell? ⟨gb405, 2, none⟩ = some (.int .i64 0) := (blk_cell BK405.out 2).trans rfl
      have hfs39 := blk_frozen BK405.out 2
      have hns39_0 := NB398_405.out
      have hns39_1 := NB399_405.out
      have hms39_0 := NB405_398.out
      have hms39_1 := NB405_399.out
      refine skip_ (w1 := ?_) (by rfl) rfl ?_ ?_
      rotate_left
      ·go_simp
       rfl
      refine hK.out _ _ ⟨((cell_far (p := ⟨gb405, _, none⟩) NB398_405.out _).trans (((cell_far (p := ⟨gb405, _, none⟩) NB398_405.out _).trans (((cell_far (p := ⟨gb405, _, none⟩) NB398_405.out _).trans (hHeld.1)))))), ((cell_far (p := ⟨gb405, _, none⟩) NB398_405.out _).trans (((cell_far (p := ⟨gb405, _, none⟩) NB398_405.out _).trans (((cell_far (p := ⟨gb405, _, none⟩) NB398_405.out _).trans (hHeld.2.1)))))), ((cell_far (p := ⟨gb405, _, none⟩) NB398_405.out _).trans (((cell_far (p := ⟨gb405, _, none⟩) NB398_405.out _).trans (((cell_far (p := ⟨gb405, _, none⟩) NB398_405.out _).trans (hHeld.2.2))))))⟩ (fun hHeld => ?_)
      clear hK K
      refine puU 9 7 HT_ ?_
      refine dnU HT_ ?_
      have hnb40 := NB399_398.out
      have hnc40 := NB398_399.out
      have hnb41 := NB399_405.out
      have hnc41 := NB405_399.out
      obtain ⟨hcz42_0, hcz42_1, hcz42_2, hfz42_0, hfz42_1, hfz42_2⟩ := b3U BK399
      try go_wp2
      refine bodyPost_ret (results_ct rfl _ _ gb399 25 #[.int .i64 0, .bool false, .int .i64 0] (0, 0) _ rfl bkU Tryz.underlying25 rfl (by kernel_rfl)) rfl ?_
      exact ⟨by first | rfl | (simp [errW_none, errW_some] <;> rfl) | (simp [*, errW_none, errW_some] <;> rfl), hbU⟩
    ·rw [if_neg c17] at H
     exact absurd H (by simp)
def spec_DrawFirstFrame.f (l0 : List Int) : Option (Int) := (spec_l1Cur_among.f l0 0 0 (([(-1), 0, 1, 6, 15, 16, 4611686018427387904] : List Int))).bind fun bt410 => (some bt410.1)
set_option maxHeartbeats 8000000 in
set_option maxRecDepth 100000 in
theorem spec_DrawFirstFrame.calls (A0 : Option Addr) (c0 : Nat) (l0 : List Int) (r : Int) (w : World) (hr0 : Kd.C (Kd.int .u8) w A0 l0.length l0) (hc0 : l0.length ≤ c0) (h : spec_DrawFirstFrame.f l0 = some r) :
  Calls Tryz.prog 32 #[.slice A0 l0.length c0] w fun e w' => e = .returned (.int .i64 r) ∧ Below w.heap.size w w' := by
 have hu78 := Tryz.underlying78
 have HR0 := Aside0.mk hr0
 have HC0 := Aside0.mk hc0
 clear hr0 hc0
 have HB := Aside0.mk (Below.refl w.heap.size w)
 have H : ((spec_l1Cur_among.f l0 0 0 (([(-1), 0, 1, 6, 15, 16, 4611686018427387904] : List Int))).bind fun bt410 => (some bt410.1)) = some r := h
 clear h
 obtain ⟨y407, hy407⟩ : ∃ y_ : List Int, y_ = (([(-1), 0, 1, 6, 15, 16, 4611686018427387904] : List Int)) := ⟨_, rfl⟩
 replace H : ((spec_l1Cur_among.f l0 0 0 y407).bind fun bt410 => (some bt410.1)) = some r := by first | (rw [hy407]; with_reducible exact H) | (have H2_ := (Option.bind_some _ _).symm.trans H; rw [hy407]; with_reducible exact H2_) | (have H2_ := (Option.bind_some _ _).symm.trans H; with_reducible exact H2_) | with_reducible exact H | (rw [hy407]; exact H) | exact H
 have Ny407 := Aside0.mk hy407
 clear hy407
 replace H := Option.bind_eq_some_iff.mp H
 obtain ⟨⟨t410, t411, t412⟩, A20, H⟩ := H
 (try dsimp only at H)
 have A2 := Aside0.mk A20
 clear A20
 obtain rfl := Option.some.inj H
 go_enter Tryz.func32, Tryz.ntmps32
 go_wp2_with (first | ((with_reducible refine gate_dst (N := 6) rfl ?_); refine bxU (cs := #[.slice A0 l0.length c0, .int .i64 0, .int .u64 0]) (t := 78) ?_; intro gb406 hg w3 hbox hb; have n0_ := bsU hb; have n1_ := Aside0.mk ((⟨_, _, hbox, (by rw [hg]; exact (below_size hbU) : w.heap.size ≤ gb406), HR0.out⟩ : IsS78 w w3 gb406 l0 0 0)); have n2_ := geU hg; have n3_ := geU hg; clear HB; have HB := n0_; have HI406 := n1_; have GW406 := n2_; have GE406 := n3_; clear n0_ n1_ n2_ n3_; clear hb hbox hg) | ((with_reducible refine gate_dst (N := 8) rfl ?_); refine Kd.R_lit (Kd.int .i64) _ 3 ?hg (N := 8) ?hd (xs := ([(-1), 0, 1, 6, 15, 16, 4611686018427387904] : List Int)) (inner := [.int .i64 (-1), .int .i64 0, .int .i64 1, .int .i64 6, .int .i64 15, .int .i64 16, .int .i64 4611686018427387904]) (ok := fun _ => True) (okp := fun _ => True) ?hr ?hp (fun _ hk => hk) trivial (Below.refl _ _) (Nat.le_refl _) (by simp) ?_; (case hd => rfl); (case hg => rfl); (case hr => first | (go_simp; done) | (go_simp; rfl)); (case hp => exact (Reps.one (show Kd.M (Kd.int .i64) _ _ _ (-1) [.int .i64 (-1)] from rfl) (Reps.one (show Kd.M (Kd.int .i64) _ _ _ 0 [.int .i64 0] from rfl) (Reps.one (show Kd.M (Kd.int .i64) _ _ _ 1 [.int .i64 1] from rfl) (Reps.one (show Kd.M (Kd.int .i64) _ _ _ 6 [.int .i64 6] from rfl) (Reps.one (show Kd.M (Kd.int .i64) _ _ _ 15 [.int .i64 15] from rfl) (Reps.one (show Kd.M (Kd.int .i64) _ _ _ 16 [.int .i64 16] from rfl) (Reps.one (show Kd.M (Kd.int .i64) _ _ _ 4611686018427387904 [.int .i64 4611686018427387904] from rfl) (Reps.none _ _))))))))); intro v408 w4 ho5 hb hg_ hnew_; clear hg_ hnew_; (first | rw [← Ny407.out] at ho5 | (simp only [Int.reduceToNat] at ho5; rw [← Ny407.out] at ho5)); have n0_ := Aside0.mk (Kd.R_lower ho5 (below_size hbU)); have n1_ := Aside0.mk (IsS78.below (by repeat (first | (with_reducible first | exact HI406.out | apply IsS78.alloc | apply IsS78.drewN | apply IsS78.drew | apply IsS78.set_1 | apply IsS78.set_2) | exact HI406.out)) hb); have n2_ := bsU hb; clear HI406; clear HB; have HO409 := n0_; have HI406 := n1_; have HB := n2_; clear n0_ n1_ n2_; clear hb ho5; obtain ⟨Ao6, co6, eo6⟩ := Kd.R_slice HO409.out; subst eo6) | ((with_reducible refine gate_callee (f := 95) rfl ?_); refine goU (some 9) Tryz.func95 #[.pointer (some ⟨gb406, 0, none⟩), .slice Ao6 y407.length co6] ?_; (with_reducible refine (spec_l1Cur_among.calls gb406 l0 0 0 _ _ y407 t410 t411 t412 w _ ?side1 ?side2 ?side3 ?side4 ?side5 A2.out).mono ?_); (case side1 => repeat (first | (with_reducible first | exact HI406.out | apply IsS78.alloc | apply IsS78.drewN | apply IsS78.drew | apply IsS78.set_1 | apply IsS78.set_2) | exact HI406.out)); (case side2 => repeat (first | (with_reducible first | exact HB.out | apply below_alloc | apply pw_below_drewN | apply below_drew1 | refine below_set ?_ (IsS78.ge HI406.out)) | exact HB.out)); (case side3 => repeat (first | exact (Kd.R_reads' HO409.out).2.2 | (with_reducible refine Kd.C_alloc ?_ _) | (with_reducible refine Kd.C_drewN ?_ _) | (with_reducible refine Kd.C_drew ?_))); (case side4 => exact (Kd.R_reads' HO409.out).2.1); (case side5 => exact far_slice (IsS78.own_ne HI406.out HO409.out (by decide))); rintro e w7 ⟨rfl, hi, hb, hk⟩; refine ⟨_, rfl, ?_⟩; have n0_ := Aside0.mk (Kd.R_mono (Kd.R_keep (IsS78.apart (show IsS78 w _ gb406 l0 0 0 from by repeat (first | (with_reducible first | exact HI406.out | apply IsS78.alloc | apply IsS78.drewN | apply IsS78.drew | apply IsS78.set_1 | apply IsS78.set_2) | exact HI406.out)) (by (with_reducible repeat (first | apply Kd.R_alloc | apply Kd.R_drewN | apply Kd.R_drew)); exact HO409.out) (by decide)) hk (fun _ h => h.2)) (fun _ h => h.1)); have n1_ := Aside0.mk (hb); have n2_ := Aside0.mk (hi); clear HO409; clear HB; clear HI406; have HO409 := n0_; have HB := n1_; have HI406 := n2_; clear n0_ n1_ n2_; (try clear hb); (try clear hb2); (try clear hk); (try clear hi)))
 go_ret
 exact ⟨by first | rfl | (simp [errW_none, errW_some] <;> rfl) | (simp [*, errW_none, errW_some] <;> rfl), hbU⟩
def impl_FirstFrame.f (k : Nat) (a0 : Int) : Option (Int × Bool × Int × Bool) := (impl_IsFrame.f k a0 false 2).bind fun t415 => (if t415 = true then (some (a0, false, 2, true)) else (some (0, false, 0, false)))
theorem impl_FirstFrame.mono : ∀ a0 k, LeO (impl_FirstFrame.f k a0) (impl_FirstFrame.f (k + 1) a0) := by
 intro a0 k
 unfold impl_FirstFrame.f
 repeat' first
   | (with_reducible exact impl_IsFrame.mono _ _ _ _)
   | (with_reducible exact LeO.refl _)
   | (with_reducible exact LeO.none _)
   | (with_reducible refine LeO.ite ?_ ?_)
   | (with_reducible refine LeO.bind ?_ (fun _ => ?_))
   | exact impl_IsFrame.mono _ _ _ _
   | exact LeO.none _
   | refine LeO.ite ?_ ?_
   | refine LeO.bind ?_ (fun _ => ?_)
set_option maxHeartbeats 8000000 in
set_option maxRecDepth 100000 in
theorem impl_FirstFrame.calls (k : Nat) (a0 : Int) (r1 : Int) (r2 : Bool) (r3 : Int) (r4 : Bool) (w : World) (h : impl_FirstFrame.f k a0 = some (r1, r2, r3, r4)) :
  Calls Tryz.prog 33 #[.int .i64 a0] w fun e w' => e = .returned (.tuple #[.agg #[.int .i64 r1, .bool r2, .int .i64 r3], .bool r4]) ∧ Below w.heap.size w w' := by
 have hu25 := Tryz.underlying25
 have HB := Aside0.mk (Below.refl w.heap.size w)
 have H : ((impl_IsFrame.f k a0 false 2).bind fun t415 => (if t415 = true then (some (a0, false, 2, true)) else (some (0, false, 0, false)))) = some (r1, r2, r3, r4) := h
 clear h
 replace H := Option.bind_eq_some_iff.mp H
 obtain ⟨t415, A20, H⟩ := H
 (try dsimp only at H)
 have A2 := Aside0.mk A20
 clear A20
 by_cases c3 : t415 = true
 ·subst c3
  rw [if_pos rfl] at H
  simp only [Option.some.injEq, Prod.mk.injEq] at H
  obtain ⟨rfl, rfl, rfl, rfl⟩ := H
  go_enter Tryz.func33, Tryz.ntmps33
  go_wp2_with (first | ((with_reducible refine gate_dst (N := 2) rfl ?_); refine bxU (cs := #[.int .i64 0, .bool false, .int .i64 0]) (t := 25) ?_; intro gb413 hg w4 hbox hb; have n0_ := bsU hb; have n1_ := Aside0.mk (hbox); have n2_ := geU hg; have n3_ := geU hg; clear HB; have HB := n0_; have BK413 := n1_; have GW413 := n2_; have GE413 := n3_; clear n0_ n1_ n2_ n3_; clear hb hbox hg) | ((with_reducible refine gate_dst (N := 4) rfl ?_); refine bxU (cs := #[.int .i64 0, .bool false, .int .i64 0]) (t := 25) ?_; intro gb414 hg w5 hbox hb; have n0_ := bbU BK413 hb; have n1_ := bsU hb; have n2_ := Aside0.mk (hbox); have n3_ := geU hg; have n4_ := geU hg; have n5_ := neU BK413 hg; have n6_ := enU BK413 hg; clear BK413; clear HB; have BK413 := n0_; have HB := n1_; have BK414 := n2_; have GW414 := n3_; have GE414 := n4_; have NB413_414 := n5_; have NB414_413 := n6_; clear n0_ n1_ n2_ n3_ n4_ n5_ n6_; clear hb hbox hg; have hnb6 := NB414_413.out; have hnc6 := NB413_414.out; obtain ⟨hcz7_0, hcz7_1, hcz7_2, hfz7_0, hfz7_1, hfz7_2⟩ := b3U BK414) | ((with_reducible refine gate_callee (f := 25) rfl ?_); refine goU (some 8) Tryz.func25 #[.agg #[.int .i64 a0, .bool false, .int .i64 2]] ?_; (with_reducible refine (impl_IsFrame.calls k a0 false 2 true _ A2.out).mono ?_); rintro e w8 ⟨rfl, hb⟩; refine ⟨_, rfl, ?_⟩; have n0_ := bbU BK413 hb; have n1_ := Aside0.mk (blk_below (g := gb414) (o := .cells #[.int .i64 a0, .bool false, .int .i64 2] 25 (0, 0)) bkU hb); have n2_ := bsU hb; clear BK413; clear BK414; clear HB; have BK413 := n0_; have BK414 := n1_; have HB := n2_; clear n0_ n1_ n2_; (try clear hb); (try clear hb2); (try clear hk); (try clear hi); obtain ⟨hcz9_0, hcz9_1, hcz9_2, hfz9_0, hfz9_1, hfz9_2⟩ := b3U BK414; obtain ⟨hcz10_0, hcz10_1, hcz10_2, hfz10_0, hfz10_1, hfz10_2⟩ := b3U BK413))
  refine bodyPost_ret (results_ct rfl _ _ gb413 25 #[.int .i64 a0, .bool false, .int .i64 2] (0, 0) _ rfl bkU Tryz.underlying25 rfl (by kernel_rfl)) rfl ?_
  exact ⟨by first | rfl | (simp [errW_none, errW_some] <;> rfl) | (simp [*, errW_none, errW_some] <;> rfl), hbU⟩
 ·replace c3 := Bool.eq_false_iff.mpr c3
  subst c3
  rw [if_neg (show ¬ (false = true) by decide)] at H
  simp only [Option.some.injEq, Prod.mk.injEq] at H
  obtain ⟨rfl, rfl, rfl, rfl⟩ := H
  go_enter Tryz.func33, Tryz.ntmps33
  go_wp2_with (first | ((with_reducible refine gate_dst (N := 2) rfl ?_); refine bxU (cs := #[.int .i64 0, .bool false, .int .i64 0]) (t := 25) ?_; intro gb413 hg w11 hbox hb; have n0_ := bsU hb; have n1_ := Aside0.mk (hbox); have n2_ := geU hg; have n3_ := geU hg; clear HB; have HB := n0_; have BK413 := n1_; have GW413 := n2_; have GE413 := n3_; clear n0_ n1_ n2_ n3_; clear hb hbox hg) | ((with_reducible refine gate_dst (N := 4) rfl ?_); refine bxU (cs := #[.int .i64 0, .bool false, .int .i64 0]) (t := 25) ?_; intro gb414 hg w12 hbox hb; have n0_ := bbU BK413 hb; have n1_ := bsU hb; have n2_ := Aside0.mk (hbox); have n3_ := geU hg; have n4_ := geU hg; have n5_ := neU BK413 hg; have n6_ := enU BK413 hg; clear BK413; clear HB; have BK413 := n0_; have HB := n1_; have BK414 := n2_; have GW414 := n3_; have GE414 := n4_; have NB413_414 := n5_; have NB414_413 := n6_; clear n0_ n1_ n2_ n3_ n4_ n5_ n6_; clear hb hbox hg; have hnb13 := NB414_413.out; have hnc13 := NB413_414.out; obtain ⟨hcz14_0, hcz14_1, hcz14_2, hfz14_0, hfz14_1, hfz14_2⟩ := b3U BK414) | ((with_reducible refine gate_callee (f := 25) rfl ?_); refine goU (some 8) Tryz.func25 #[.agg #[.int .i64 a0, .bool false, .int .i64 2]] ?_; (with_reducible refine (impl_IsFrame.calls k a0 false 2 false _ A2.out).mono ?_); rintro e w15 ⟨rfl, hb⟩; refine ⟨_, rfl, ?_⟩; have n0_ := bbU BK413 hb; have n1_ := Aside0.mk (blk_below (g := gb414) (o := .cells #[.int .i64 a0, .bool false, .int .i64 2] 25 (0, 0)) bkU hb); have n2_ := bsU hb; clear BK413; clear BK414; clear HB; have BK413 := n0_; have BK414 := n1_; have HB := n2_; clear n0_ n1_ n2_; (try clear hb); (try clear hb2); (try clear hk); (try clear hi); obtain ⟨hcz16_0, hcz16_1, hcz16_2, hfz16_0, hfz16_1, hfz16_2⟩ := b3U BK413))
  refine bodyPost_ret (results_ct rfl _ _ gb413 25 #[.int .i64 0, .bool false, .int .i64 0] (0, 0) _ rfl bkU Tryz.underlying25 rfl (by kernel_rfl)) rfl ?_
  exact ⟨by first | rfl | (simp [errW_none, errW_some] <;> rfl) | (simp [*, errW_none, errW_some] <;> rfl), hbU⟩
end Go.Proofs.YtcmlmjgoidpabaaGreatDoor.MFnFramesPotted

