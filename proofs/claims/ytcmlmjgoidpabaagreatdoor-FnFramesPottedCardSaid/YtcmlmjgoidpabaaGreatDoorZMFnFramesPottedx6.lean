/- Walks of the functions that the law reaches: each comes to just what the function that is told of it tells, for all arguments. -/
import Derived.Test.YtcmlmjgoidpabaaGreatDoorZMFnFramesPottedx0
import Derived.Test.YtcmlmjgoidpabaaGreatDoorZMFnFramesPottedx5
namespace Go.Proofs.YtcmlmjgoidpabaaGreatDoor.MFnFramesPotted
open Go.RowKit Go.Proofs.YtcmlmjgoidpabaaGreatDoorW.PrintWords Go.Proofs.YtcmlmjgoidpabaaGreatDoorW.PrintLast Go.Proofs.YtcmlmjgoidpabaaGreatDoorW.PrintMore
attribute [local go_sem] max2_int min2_int max_two min_two max_three min_three max_four min_four
set_option linter.unusedVariables false
set_option linter.unusedSimpArgs false
def impl_Frame_behind.l0 : Nat → ByteArray → Int → Int → Int → Bool → Int → Option (Int × Bool × Int × Bool)
 | 0, _, _, _, _, _, _ => none
 | k + 1, x1, x12, x13, x224000, x224001, x224002 => if x13 < x12 then ((impl_Frame_next.f x224000 x224001 x224002).bind fun t225 => (if 0 ≤ x13 then (if x13 ≤ (wrap64 (x13 + 1)) then (if (wrap64 (x13 + 1)) ≤ (x1.size : Int) then ((strings_Contains.f t225 (x1.extract (x13 : Int).toNat ((wrap64 (x13 + 1)) : Int).toNat)).bind fun t226 => (if t226 = true then ((impl_Frame_pot.f x224000 x224001 x224002).bind fun bt227 => (impl_Frame_behind.l0 k x1 x12 (wrap64 (x13 + 1)) bt227.1 bt227.2.1 bt227.2.2)) else (some (0, false, 0, false)))) else (none)) else (none)) else (none))) else (some (x224000, x224001, x224002, true))
def impl_Frame_behind.f (k : Nat) (a0_0 : Int) (a0_1 : Bool) (a0_2 : Int) (a1 : ByteArray) : Option (Int × Bool × Int × Bool) := if (a1.size : Int) > 36 then (some (0, false, 0, false)) else (impl_Frame_behind.l0 k a1 (a1.size : Int) 0 a0_0 a0_1 a0_2)
theorem impl_Frame_behind.mono_l : ∀ k, (∀ y0 y1 y2 y3 y4 y5, LeO (impl_Frame_behind.l0 k y0 y1 y2 y3 y4 y5) (impl_Frame_behind.l0 (k + 1) y0 y1 y2 y3 y4 y5))
 | 0 => fun _ _ _ _ _ _ r h => by simp [impl_Frame_behind.l0] at h
 | k + 1 => by
  have ih0 := impl_Frame_behind.mono_l k
  ·intro y0 y1 y2 y3 y4 y5
   unfold impl_Frame_behind.l0
   repeat' first
   | (with_reducible exact ih0 _ _ _ _ _ _)
   | (with_reducible exact LeO.refl _)
   | (with_reducible exact LeO.none _)
   | (with_reducible refine LeO.ite ?_ ?_)
   | (with_reducible refine LeO.bind ?_ (fun _ => ?_))
   | exact ih0 _ _ _ _ _ _
   | exact LeO.none _
   | refine LeO.ite ?_ ?_
   | refine LeO.bind ?_ (fun _ => ?_)
theorem impl_Frame_behind.mono : ∀ a0 a1 a2 a3 k, LeO (impl_Frame_behind.f k a0 a1 a2 a3) (impl_Frame_behind.f (k + 1) a0 a1 a2 a3) := by
 intro a0 a1 a2 a3 k
 have ih0 := impl_Frame_behind.mono_l k
 unfold impl_Frame_behind.f
 repeat' first
   | (with_reducible exact ih0 _ _ _ _ _ _)
   | (with_reducible exact LeO.refl _)
   | (with_reducible exact LeO.none _)
   | (with_reducible refine LeO.ite ?_ ?_)
   | (with_reducible refine LeO.bind ?_ (fun _ => ?_))
   | exact ih0 _ _ _ _ _ _
   | exact LeO.none _
   | refine LeO.ite ?_ ?_
   | refine LeO.bind ?_ (fun _ => ?_)
def impl_Frame_behind.T6 : Bool × List (List Nat × List Nat) := (true, [([], []), ([0], [0]), ([], []), ([], []), ([], []), ([4], [4]), ([2, 3, 5], [2, 3, 5]), ([1, 6, 1], [1, 6]), ([7], [7])])
def impl_Frame_behind.B6 : List Nat := [0, 1, 0, 0, 0, 16, 60, 127, 255]
theorem impl_Frame_behind.tab6 : rtab .any (opsOf Tryz.f77 6) = impl_Frame_behind.T6 := by kernel_rfl
theorem impl_Frame_behind.bits6 : waitsOk impl_Frame_behind.T6.2 impl_Frame_behind.B6 = true := by kernel_rfl
set_option maxHeartbeats 8000000 in
set_option maxRecDepth 100000 in
theorem impl_Frame_behind.calls (k : Nat) (a0_0 : Int) (a0_1 : Bool) (a0_2 : Int) (a1 : ByteArray) (r1 : Int) (r2 : Bool) (r3 : Int) (r4 : Bool) (w : World) (h : impl_Frame_behind.f k a0_0 a0_1 a0_2 a1 = some (r1, r2, r3, r4)) :
  Calls Tryz.prog 77 #[.agg #[.int .i64 a0_0, .bool a0_1, .int .i64 a0_2], .string a1] w fun e w' => e = .returned (.tuple #[.agg #[.int .i64 r1, .bool r2, .int .i64 r3], .bool r4]) ∧ Below w.heap.size w w' := by
 have hu25 := Tryz.underlying25
 have HB := Aside0.mk (Below.refl w.heap.size w)
 have H : (if (a1.size : Int) > 36 then (some (0, false, 0, false)) else (impl_Frame_behind.l0 k a1 (a1.size : Int) 0 a0_0 a0_1 a0_2)) = some (r1, r2, r3, r4) := h
 clear h
 by_cases c3 : (a1.size : Int) > 36
 ·rw [if_pos c3] at H
  have c3b0 : decide (36 < (a1.size : Int)) = true := decide_eq_true c3
  have c3b1 : decide (36 < a1.size) = true := decide_eq_true (by omega)
  clear c3
  simp only [Option.some.injEq, Prod.mk.injEq] at H
  obtain ⟨rfl, rfl, rfl, rfl⟩ := H
  go_enter Tryz.func77, Tryz.ntmps77
  go_wp2_with (first | ((with_reducible refine gate_dst (N := 2) rfl ?_); refine bxU (cs := #[.int .i64 a0_0, .bool a0_1, .int .i64 a0_2]) (t := 25) ?_; intro gb223 hg w4 hbox hb; have n0_ := bsU hb; have n1_ := Aside0.mk (hbox); have n2_ := geU hg; have n3_ := geU hg; clear HB; have HB := n0_; have BK223 := n1_; have GW223 := n2_; have GE223 := n3_; clear n0_ n1_ n2_ n3_; clear hb hbox hg) | ((with_reducible refine gate_dst (N := 4) rfl ?_); refine bxU (cs := #[.int .i64 0, .bool false, .int .i64 0]) (t := 25) ?_; intro gb224 hg w5 hbox hb; have n0_ := bbU BK223 hb; have n1_ := bsU hb; have n2_ := Aside0.mk (hbox); have n3_ := geU hg; have n4_ := geU hg; have n5_ := neU BK223 hg; have n6_ := enU BK223 hg; clear BK223; clear HB; have BK223 := n0_; have HB := n1_; have BK224 := n2_; have GW224 := n3_; have GE224 := n4_; have NB223_224 := n5_; have NB224_223 := n6_; clear n0_ n1_ n2_ n3_ n4_ n5_ n6_; clear hb hbox hg; have hnb6 := NB224_223.out; have hnc6 := NB223_224.out; obtain ⟨hcz7_0, hcz7_1, hcz7_2, hfz7_0, hfz7_1, hfz7_2⟩ := b3U BK224))
  refine bodyPost_ret (results_ct rfl _ _ gb224 25 #[.int .i64 0, .bool false, .int .i64 0] (0, 0) _ rfl bkU Tryz.underlying25 rfl (by kernel_rfl)) rfl ?_
  exact ⟨by first | rfl | (simp [errW_none, errW_some] <;> rfl) | (simp [*, errW_none, errW_some] <;> rfl), hbU⟩
 ·rw [if_neg c3] at H
  have c3b0 : decide (36 < (a1.size : Int)) = false := decide_eq_false c3
  have c3b1 : decide (36 < a1.size) = false := decide_eq_false (by omega)
  clear c3
  have H' := Aside0.mk H
  clear H
  go_enter Tryz.func77, Tryz.ntmps77
  go_wp2_with (first | ((with_reducible refine gate_dst (N := 2) rfl ?_); refine bxU (cs := #[.int .i64 a0_0, .bool a0_1, .int .i64 a0_2]) (t := 25) ?_; intro gb223 hg w8 hbox hb; have n0_ := bsU hb; have n1_ := Aside0.mk (hbox); have n2_ := geU hg; have n3_ := geU hg; clear HB; have HB := n0_; have BK223 := n1_; have GW223 := n2_; have GE223 := n3_; clear n0_ n1_ n2_ n3_; clear hb hbox hg) | ((with_reducible refine gate_dst (N := 4) rfl ?_); refine bxU (cs := #[.int .i64 0, .bool false, .int .i64 0]) (t := 25) ?_; intro gb224 hg w9 hbox hb; have n0_ := bbU BK223 hb; have n1_ := bsU hb; have n2_ := Aside0.mk (hbox); have n3_ := geU hg; have n4_ := geU hg; have n5_ := neU BK223 hg; have n6_ := enU BK223 hg; clear BK223; clear HB; have BK223 := n0_; have HB := n1_; have BK224 := n2_; have GW224 := n3_; have GE224 := n4_; have NB223_224 := n5_; have NB224_223 := n6_; clear n0_ n1_ n2_ n3_ n4_ n5_ n6_; clear hb hbox hg))
  go_loopg [13] k (fun kq v13 w' => ∃ (x13_1 : Int) (x224000_1 : Int) (x224001_1 : Bool) (x224002_1 : Int) (x225000_1 : Int) (x225001_1 : Bool) (x225002_1 : Int), v13 = .int .i64 x13_1 ∧ Aside0 (impl_Frame_behind.l0 kq a1 (a1.size : Int) x13_1 x224000_1 x224001_1 x224002_1 = some (r1, r2, r3, r4)) ∧ Aside0 (kq ≤ k) ∧ Aside0 (w'.heap[gb223]? = some (.cells #[.int .i64 x224000_1, .bool x224001_1, .int .i64 x224002_1] 25 (0, 0))) ∧ Aside0 (w'.heap[gb224]? = some (.cells #[.int .i64 x225000_1, .bool x225001_1, .int .i64 x225002_1] 25 (0, 0))) ∧ Aside0 (Below w.heap.size w w'))
  case atStart => exact ⟨(0), (a0_0), (a0_1), (a0_2), (0), (false), (0), eqU, H', ⟨Nat.le_refl _⟩, ⟨bkU⟩, ⟨bkU⟩, ⟨hbU⟩⟩
  case round =>
   clear H'
   (try clear c3); (try clear c3b0); (try clear c3b1); (try clear hcz7_0); (try clear hcz7_1); (try clear hcz7_2); (try clear hfz7_0); (try clear hfz7_1); (try clear hfz7_2)
   obtain ⟨x13_1, x224000_1, x224001_1, x224002_1, x225000_1, x225001_1, x225002_1, rfl, HA, HK1, BK223, BK224, HB⟩ := hrel
   cases gk with
   | zero => exact absurd HA.out (by simp [impl_Frame_behind.l0])
   | succ k1 =>
    have H := HA.out
    clear HA
    simp only [impl_Frame_behind.l0] at H
    by_cases c10 : x13_1 < (a1.size : Int)
    ·rw [if_pos c10] at H
     have c10b0 : decide (x13_1 < (a1.size : Int)) = true := decide_eq_true c10
     clear c10
     replace H := Option.bind_eq_some_iff.mp H
     obtain ⟨t225, A110, H⟩ := H
     (try dsimp only at H)
     have A11 := Aside0.mk A110
     clear A110
     by_cases c12 : 0 ≤ x13_1
     ·rw [if_pos c12] at H
      have c12b0 := eq_true c12
      have c12b1 : decide (0 ≤ x13_1) = true := decide_eq_true c12
      clear c12
      by_cases c13 : x13_1 ≤ (wrap64 (x13_1 + 1))
      ·rw [if_pos c13] at H
       have c13b0 := eq_true c13
       have c13b1 : decide (x13_1 ≤ (wrap64 (x13_1 + 1))) = true := decide_eq_true c13
       by_cases c14 : (wrap64 (x13_1 + 1)) ≤ (a1.size : Int)
       ·rw [if_pos c14] at H
        have c14b0 := eq_true c14
        have c14b1 : decide ((wrap64 (x13_1 + 1)) ≤ (a1.size : Int)) = true := decide_eq_true c14
        replace H := Option.bind_eq_some_iff.mp H
        obtain ⟨t226, A150, H⟩ := H
        (try dsimp only at H)
        have A15 := Aside0.mk A150
        clear A150
        by_cases c16 : t226 = true
        ·subst c16
         rw [if_pos rfl] at H
         replace H := Option.bind_eq_some_iff.mp H
         obtain ⟨⟨t227, t228, t229⟩, A170, H⟩ := H
         (try dsimp only at H)
         have A17 := Aside0.mk A170
         clear A170
         have H' := Aside0.mk H
         clear H
         try go_wp2
         have n0_ := Aside0.mk (blk_drew BK223.out)
         have n1_ := Aside0.mk (blk_drew BK224.out)
         have n2_ := Aside0.mk (below_drew1 HB.out)
         clear BK223
         clear BK224
         clear HB
         have BK223 := n0_
         have BK224 := n1_
         have HB := n2_
         clear n0_ n1_ n2_
         refine start_ (n := 9) (S := fun w' => w'.cell? ⟨gb223, 0, none⟩ = some (.int .i64 x224000_1) ∧ w'.cell? ⟨gb223, 1, none⟩ = some (.bool x224001_1) ∧ w'.cell? ⟨gb223, 2, none⟩ = some (.int .i64 x224002_1)) (ds := []) #[false, false, false, false, false, false, false, false, false] (by kernel_rfl) rfl rfl (c3U BK223) (fun hHeld => ?_); refine with_tabW impl_Frame_behind.tab6 impl_Frame_behind.bits6 (fun HT_ HW_ => ?_)
         generalize wr.drew = w18 at BK223 BK224 HB hHeld ⊢
         refine puU 2 18 HT_ ?_
         refine puU 3 19 HT_ ?_
         refine puU 4 20 HT_ ?_
         refine puU 5 21 HT_ ?_
         refine puU 6 22 HT_ ?_
         refine tkU 0 16 HT_ HW_ hHeld ?_
         refine onU 1 (some 17) HT_ (fun K hK => ?_)
         refine goes_ Tryz.func80 (by kernel_rfl) rfl #[.agg #[.int .i64 x224000_1, .bool x224001_1, .int .i64 x224002_1]] (by rfl) rfl rfl arU ?_
         with_reducible refine (impl_Frame_next.calls x224000_1 x224001_1 x224002_1 t225 _ A11.out).mono ?_
         rintro e w19 ⟨rfl, hb⟩
         refine ⟨_, rfl, ?_⟩
         have n0_ := bbU BK223 hb
         have n1_ := bbU BK224 hb
         have n2_ := bsU hb
         clear BK223
         clear BK224
         clear HB
         have BK223 := n0_
         have BK224 := n1_
         have HB := n2_
         clear n0_ n1_ n2_
         (try clear hb)
         refine hK.out _ _ (c3U BK223) (fun hHeld => ?_)
         clear hK K
         refine norm_ (a' := ?_) ?_ ?_
         rotate_left
         ·show Act.put _ (some 17) _ = _
          simp only [Act.put, List.setIfInBounds_toArray, List.set_cons_zero, List.set_cons_succ, i64_w, i32_w]
          rfl
         refine onU 7 (some 23) HT_ (fun K hK => ?_)
         refine goes_ Tryz.func89 (by kernel_rfl) rfl #[.string t225, .string (a1.extract (x13_1 : Int).toNat ((wrap64 (x13_1 + 1)) : Int).toNat)] (by rfl) rfl rfl arU ?_
         with_reducible refine (strings_Contains.calls t225 (a1.extract (x13_1 : Int).toNat ((wrap64 (x13_1 + 1)) : Int).toNat) true _ A15.out).mono ?_
         rintro e w' ⟨rfl, ⟨nd, rfl⟩⟩
         refine ⟨_, rfl, ?_⟩
         refine hK.out _ _ (c3U BK223) (fun hHeld => ?_)
         clear hK K
         refine norm_ (a' := ?_) ?_ ?_
         rotate_left
         ·show Act.put _ (some 23) _ = _
          simp only [Act.put, List.setIfInBounds_toArray, List.set_cons_zero, List.set_cons_succ, i64_w, i32_w]
          rfl
         refine puU 8 24 HT_ ?_
         refine dnU HT_ ?_
         have hnb20 := NB223_224.out
         have hnc20 := NB224_223.out
         obtain ⟨hcz21_0, hcz21_1, hcz21_2, hfz21_0, hfz21_1, hfz21_2⟩ := b3U BK223
         try go_wp2_with (first | ((with_reducible refine gate_callee (f := 90) rfl ?_); refine goU (some 27) Tryz.func90 #[.agg #[.int .i64 x224000_1, .bool x224001_1, .int .i64 x224002_1]] ?_; (with_reducible refine (impl_Frame_pot.calls x224000_1 x224001_1 x224002_1 t227 t228 t229 _ A17.out).mono ?_); rintro e w22 ⟨rfl, hb⟩; refine ⟨_, rfl, ?_⟩; have n0_ := bbU BK223 hb; have n1_ := bbU BK224 hb; have n2_ := bsU hb; clear BK223; clear BK224; clear HB; have BK223 := n0_; have BK224 := n1_; have HB := n2_; clear n0_ n1_ n2_; (try clear hb); (try clear hb2); (try clear hk); (try clear hi); obtain ⟨hcz23_0, hcz23_1, hcz23_2, hfz23_0, hfz23_1, hfz23_2⟩ := b3U BK223))
         go_roundg k1
         case measure => have := HK1.out; omega
         case rel => exact ⟨(wrap64 (x13_1 + 1)), (t227), (t228), (t229), (x225000_1), (x225001_1), (x225002_1), eqU, H', ⟨by have := HK1.out; omega⟩, ⟨bkU⟩, ⟨bkU⟩, ⟨hbU⟩⟩
        ·replace c16 := Bool.eq_false_iff.mpr c16
         subst c16
         rw [if_neg (show ¬ (false = true) by decide)] at H
         simp only [Option.some.injEq, Prod.mk.injEq] at H
         obtain ⟨rfl, rfl, rfl, rfl⟩ := H
         try go_wp2
         have n0_ := Aside0.mk (blk_drew BK223.out)
         have n1_ := Aside0.mk (blk_drew BK224.out)
         have n2_ := Aside0.mk (below_drew1 HB.out)
         clear BK223
         clear BK224
         clear HB
         have BK223 := n0_
         have BK224 := n1_
         have HB := n2_
         clear n0_ n1_ n2_
         refine start_ (n := 9) (S := fun w' => w'.cell? ⟨gb223, 0, none⟩ = some (.int .i64 x224000_1) ∧ w'.cell? ⟨gb223, 1, none⟩ = some (.bool x224001_1) ∧ w'.cell? ⟨gb223, 2, none⟩ = some (.int .i64 x224002_1)) (ds := []) #[false, false, false, false, false, false, false, false, false] (by kernel_rfl) rfl rfl (c3U BK223) (fun hHeld => ?_); refine with_tabW impl_Frame_behind.tab6 impl_Frame_behind.bits6 (fun HT_ HW_ => ?_)
         generalize wr.drew = w24 at BK223 BK224 HB hHeld ⊢
         refine puU 2 18 HT_ ?_
         refine puU 3 19 HT_ ?_
         refine puU 4 20 HT_ ?_
         refine puU 5 21 HT_ ?_
         refine puU 6 22 HT_ ?_
         refine tkU 0 16 HT_ HW_ hHeld ?_
         refine onU 1 (some 17) HT_ (fun K hK => ?_)
         refine goes_ Tryz.func80 (by kernel_rfl) rfl #[.agg #[.int .i64 x224000_1, .bool x224001_1, .int .i64 x224002_1]] (by rfl) rfl rfl arU ?_
         with_reducible refine (impl_Frame_next.calls x224000_1 x224001_1 x224002_1 t225 _ A11.out).mono ?_
         rintro e w25 ⟨rfl, hb⟩
         refine ⟨_, rfl, ?_⟩
         have n0_ := bbU BK223 hb
         have n1_ := bbU BK224 hb
         have n2_ := bsU hb
         clear BK223
         clear BK224
         clear HB
         have BK223 := n0_
         have BK224 := n1_
         have HB := n2_
         clear n0_ n1_ n2_
         (try clear hb)
         refine hK.out _ _ (c3U BK223) (fun hHeld => ?_)
         clear hK K
         refine norm_ (a' := ?_) ?_ ?_
         rotate_left
         ·show Act.put _ (some 17) _ = _
          simp only [Act.put, List.setIfInBounds_toArray, List.set_cons_zero, List.set_cons_succ, i64_w, i32_w]
          rfl
         refine onU 7 (some 23) HT_ (fun K hK => ?_)
         refine goes_ Tryz.func89 (by kernel_rfl) rfl #[.string t225, .string (a1.extract (x13_1 : Int).toNat ((wrap64 (x13_1 + 1)) : Int).toNat)] (by rfl) rfl rfl arU ?_
         with_reducible refine (strings_Contains.calls t225 (a1.extract (x13_1 : Int).toNat ((wrap64 (x13_1 + 1)) : Int).toNat) false _ A15.out).mono ?_
         rintro e w' ⟨rfl, ⟨nd, rfl⟩⟩
         refine ⟨_, rfl, ?_⟩
         refine hK.out _ _ (c3U BK223) (fun hHeld => ?_)
         clear hK K
         refine norm_ (a' := ?_) ?_ ?_
         rotate_left
         ·show Act.put _ (some 23) _ = _
          simp only [Act.put, List.setIfInBounds_toArray, List.set_cons_zero, List.set_cons_succ, i64_w, i32_w]
          rfl
         refine puU 8 24 HT_ ?_
         refine dnU HT_ ?_
         have hnb26 := NB224_223.out
         have hnc26 := NB223_224.out
         obtain ⟨hcz27_0, hcz27_1, hcz27_2, hfz27_0, hfz27_1, hfz27_2⟩ := b3U BK224
         try go_wp2
         refine bodyPost_ret (results_ct rfl _ _ gb224 25 #[.int .i64 0, .bool false, .int .i64 0] (0, 0) _ rfl bkU Tryz.underlying25 rfl (by kernel_rfl)) rfl ?_
         exact ⟨by first | rfl | (simp [errW_none, errW_some] <;> rfl) | (simp [*, errW_none, errW_some] <;> rfl), hbU⟩
       ·rw [if_neg c14] at H
        exact absurd H (by simp)
      ·rw [if_neg c13] at H
       exact absurd H (by simp)
     ·rw [if_neg c12] at H
      exact absurd H (by simp)
    ·rw [if_neg c10] at H
     have c10b0 : decide (x13_1 < (a1.size : Int)) = false := decide_eq_false c10
     clear c10
     simp only [Option.some.injEq, Prod.mk.injEq] at H
     obtain ⟨rfl, rfl, rfl, rfl⟩ := H
     have hnb28 := NB223_224.out
     have hnc28 := NB224_223.out
     obtain ⟨hcz29_0, hcz29_1, hcz29_2, hfz29_0, hfz29_1, hfz29_2⟩ := b3U BK223
     obtain ⟨hcz30_0, hcz30_1, hcz30_2, hfz30_0, hfz30_1, hfz30_2⟩ := b3U BK224
     go_wp2
     refine bodyPost_ret (results_ct rfl _ _ gb224 25 #[.int .i64 x224000_1, .bool x224001_1, .int .i64 x224002_1] (0, 0) _ rfl bkU Tryz.underlying25 rfl (by kernel_rfl)) rfl ?_
     exact ⟨by first | rfl | (simp [errW_none, errW_some] <;> rfl) | (simp [*, errW_none, errW_some] <;> rfl), hbU⟩
def impl_IsBreak.f (k : Nat) (a0_0 : Int) (a0_1 : Bool) (a0_2 : Int) (a1 : ByteArray) : Option (Bool × Bool) := (impl_IsFrame.f k a0_0 a0_1 a0_2).bind fun t231 => (if t231 = true then ((impl_Frame_behind.f k a0_0 a0_1 a0_2 a1).bind fun bt232 => (some (bt232.2.2.2, true))) else (some (false, false)))
theorem impl_IsBreak.mono : ∀ a0 a1 a2 a3 k, LeO (impl_IsBreak.f k a0 a1 a2 a3) (impl_IsBreak.f (k + 1) a0 a1 a2 a3) := by
 intro a0 a1 a2 a3 k
 unfold impl_IsBreak.f
 repeat' first
   | (with_reducible exact impl_Frame_behind.mono _ _ _ _ _)
   | (with_reducible exact impl_IsFrame.mono _ _ _ _)
   | (with_reducible exact LeO.refl _)
   | (with_reducible exact LeO.none _)
   | (with_reducible refine LeO.ite ?_ ?_)
   | (with_reducible refine LeO.bind ?_ (fun _ => ?_))
   | exact impl_Frame_behind.mono _ _ _ _ _
   | exact impl_IsFrame.mono _ _ _ _
   | exact LeO.none _
   | refine LeO.ite ?_ ?_
   | refine LeO.bind ?_ (fun _ => ?_)
set_option maxHeartbeats 8000000 in
set_option maxRecDepth 100000 in
theorem impl_IsBreak.calls (k : Nat) (a0_0 : Int) (a0_1 : Bool) (a0_2 : Int) (a1 : ByteArray) (r1 : Bool) (r2 : Bool) (w : World) (h : impl_IsBreak.f k a0_0 a0_1 a0_2 a1 = some (r1, r2)) :
  Calls Tryz.prog 7 #[.agg #[.int .i64 a0_0, .bool a0_1, .int .i64 a0_2], .string a1] w fun e w' => e = .returned (.tuple #[.bool r1, .bool r2]) ∧ Below w.heap.size w w' := by
 have hu25 := Tryz.underlying25
 have HB := Aside0.mk (Below.refl w.heap.size w)
 have H : ((impl_IsFrame.f k a0_0 a0_1 a0_2).bind fun t231 => (if t231 = true then ((impl_Frame_behind.f k a0_0 a0_1 a0_2 a1).bind fun bt232 => (some (bt232.2.2.2, true))) else (some (false, false)))) = some (r1, r2) := h
 clear h
 replace H := Option.bind_eq_some_iff.mp H
 obtain ⟨t231, A30, H⟩ := H
 (try dsimp only at H)
 have A3 := Aside0.mk A30
 clear A30
 by_cases c4 : t231 = true
 ·subst c4
  rw [if_pos rfl] at H
  replace H := Option.bind_eq_some_iff.mp H
  obtain ⟨⟨t232, t233, t234, t235⟩, A50, H⟩ := H
  (try dsimp only at H)
  have A5 := Aside0.mk A50
  clear A50
  simp only [Option.some.injEq, Prod.mk.injEq] at H
  obtain ⟨rfl, rfl⟩ := H
  go_enter Tryz.func7, Tryz.ntmps7
  go_wp2_with (first | ((with_reducible refine gate_dst (N := 2) rfl ?_); refine bxU (cs := #[.int .i64 a0_0, .bool a0_1, .int .i64 a0_2]) (t := 25) ?_; intro gb230 hg w6 hbox hb; have n0_ := bsU hb; have n1_ := Aside0.mk (hbox); have n2_ := geU hg; have n3_ := geU hg; clear HB; have HB := n0_; have BK230 := n1_; have GW230 := n2_; have GE230 := n3_; clear n0_ n1_ n2_ n3_; clear hb hbox hg; obtain ⟨hcz7_0, hcz7_1, hcz7_2, hfz7_0, hfz7_1, hfz7_2⟩ := b3U BK230) | ((with_reducible refine gate_callee (f := 25) rfl ?_); refine goU (some 9) Tryz.func25 #[.agg #[.int .i64 a0_0, .bool a0_1, .int .i64 a0_2]] ?_; (with_reducible refine (impl_IsFrame.calls k a0_0 a0_1 a0_2 true _ A3.out).mono ?_); rintro e w8 ⟨rfl, hb⟩; refine ⟨_, rfl, ?_⟩; have n0_ := bbU BK230 hb; have n1_ := bsU hb; clear BK230; clear HB; have BK230 := n0_; have HB := n1_; clear n0_ n1_; (try clear hb); (try clear hb2); (try clear hk); (try clear hi); obtain ⟨hcz9_0, hcz9_1, hcz9_2, hfz9_0, hfz9_1, hfz9_2⟩ := b3U BK230) | ((with_reducible refine gate_callee (f := 77) rfl ?_); refine goU (some 14) Tryz.func77 #[.agg #[.int .i64 a0_0, .bool a0_1, .int .i64 a0_2], .string a1] ?_; (with_reducible refine (impl_Frame_behind.calls k a0_0 a0_1 a0_2 a1 t232 t233 t234 t235 _ A5.out).mono ?_); rintro e w10 ⟨rfl, hb⟩; refine ⟨_, rfl, ?_⟩; have n0_ := bbU BK230 hb; have n1_ := bsU hb; clear BK230; clear HB; have BK230 := n0_; have HB := n1_; clear n0_ n1_; (try clear hb); (try clear hb2); (try clear hk); (try clear hi)) | ((with_reducible refine gate_dst (N := 6) rfl ?_); refine bxU (cs := #[.int .i64 0, .bool false, .int .i64 0]) (t := 25) ?_; intro gb236 hg w11 hbox hb; have n0_ := bbU BK230 hb; have n1_ := bsU hb; have n2_ := Aside0.mk (hbox); have n3_ := geU hg; have n4_ := geU hg; have n5_ := neU BK230 hg; have n6_ := enU BK230 hg; clear BK230; clear HB; have BK230 := n0_; have HB := n1_; have BK236 := n2_; have GW236 := n3_; have GE236 := n4_; have NB230_236 := n5_; have NB236_230 := n6_; clear n0_ n1_ n2_ n3_ n4_ n5_ n6_; clear hb hbox hg; have hnb12 := NB236_230.out; have hnc12 := NB230_236.out; obtain ⟨hcz13_0, hcz13_1, hcz13_2, hfz13_0, hfz13_1, hfz13_2⟩ := b3U BK236))
  go_ret2
  exact ⟨by first | rfl | (simp [errW_none, errW_some] <;> rfl) | (simp [*, errW_none, errW_some] <;> rfl), hbU⟩
 ·replace c4 := Bool.eq_false_iff.mpr c4
  subst c4
  rw [if_neg (show ¬ (false = true) by decide)] at H
  simp only [Option.some.injEq, Prod.mk.injEq] at H
  obtain ⟨rfl, rfl⟩ := H
  go_enter Tryz.func7, Tryz.ntmps7
  go_wp2_with (first | ((with_reducible refine gate_dst (N := 2) rfl ?_); refine bxU (cs := #[.int .i64 a0_0, .bool a0_1, .int .i64 a0_2]) (t := 25) ?_; intro gb230 hg w14 hbox hb; have n0_ := bsU hb; have n1_ := Aside0.mk (hbox); have n2_ := geU hg; have n3_ := geU hg; clear HB; have HB := n0_; have BK230 := n1_; have GW230 := n2_; have GE230 := n3_; clear n0_ n1_ n2_ n3_; clear hb hbox hg; obtain ⟨hcz15_0, hcz15_1, hcz15_2, hfz15_0, hfz15_1, hfz15_2⟩ := b3U BK230) | ((with_reducible refine gate_callee (f := 25) rfl ?_); refine goU (some 9) Tryz.func25 #[.agg #[.int .i64 a0_0, .bool a0_1, .int .i64 a0_2]] ?_; (with_reducible refine (impl_IsFrame.calls k a0_0 a0_1 a0_2 false _ A3.out).mono ?_); rintro e w16 ⟨rfl, hb⟩; refine ⟨_, rfl, ?_⟩; have n0_ := bbU BK230 hb; have n1_ := bsU hb; clear BK230; clear HB; have BK230 := n0_; have HB := n1_; clear n0_ n1_; (try clear hb); (try clear hb2); (try clear hk); (try clear hi)))
  go_ret2
  exact ⟨by first | rfl | (simp [errW_none, errW_some] <;> rfl) | (simp [*, errW_none, errW_some] <;> rfl), hbU⟩
end Go.Proofs.YtcmlmjgoidpabaaGreatDoor.MFnFramesPotted

