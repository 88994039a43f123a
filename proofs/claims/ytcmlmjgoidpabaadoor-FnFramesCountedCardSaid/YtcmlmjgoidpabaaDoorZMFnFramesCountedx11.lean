/- Walks of the functions that the law reaches: each comes to just what the function that is told of it tells, for all arguments. -/
import Derived.Test.YtcmlmjgoidpabaaDoorZMFnFramesCountedx0
import Derived.Test.YtcmlmjgoidpabaaDoorZMFnFramesCountedx3
namespace Go.Proofs.YtcmlmjgoidpabaaDoor.MFnFramesCounted
open Go.RowKit Go.Proofs.YtcmlmjgoidpabaaDoorW.PrintWords Go.Proofs.YtcmlmjgoidpabaaDoorW.PrintLast Go.Proofs.YtcmlmjgoidpabaaDoorW.PrintMore
set_option linter.unusedVariables false
set_option linter.unusedSimpArgs false
def spec_frAfter.l0 : Nat → ByteArray → Int → Int → Bool → Int → Option (Int × Bool × Int × Bool)
 | 0, _, _, _, _, _ => none
 | k + 1, x1, x6, x430000, x430001, x430002 => if x6 < (x1.size : Int) then (if 0 ≤ x6 then ((spec_frPot.f k x430000 x430001 x430002 (bt x1 x6)).bind fun bt431 => (if bt431.2.2.2 = true then (spec_frAfter.l0 k x1 (wrap64 (x6 + 1)) bt431.1 bt431.2.1 bt431.2.2.1) else (some (x430000, x430001, x430002, false)))) else (none)) else (some (x430000, x430001, x430002, true))
def spec_frAfter.f (k : Nat) (a0_0 : Int) (a0_1 : Bool) (a0_2 : Int) (a1 : ByteArray) : Option (Int × Bool × Int × Bool) := if (a1.size : Int) > 36 then (some (a0_0, a0_1, a0_2, false)) else (spec_frAfter.l0 k a1 0 a0_0 a0_1 a0_2)
def spec_frAfter.T6 : Bool × List (List Nat × List Nat) := (true, [([], []), ([], []), ([], []), ([1, 2], [1, 2]), ([0, 3], [0, 3]), ([4], [4]), ([5], [5]), ([5], [5]), ([], []), ([8, 6, 4, 0, 1, 2, 3, 4, 5, 6, 8], [6, 8]), ([7, 9, 0, 1, 2, 3, 4, 5, 6, 7, 8, 9], [7])])
def spec_frAfter.B6 : List Nat := [0, 0, 0, 6, 15, 31, 63, 63, 0, 383, 1023]
theorem spec_frAfter.tab6 : rtab .any (opsOf Tryd.f52 6) = spec_frAfter.T6 := by kernel_rfl
theorem spec_frAfter.bits6 : waitsOk spec_frAfter.T6.2 spec_frAfter.B6 = true := by kernel_rfl
set_option maxHeartbeats 8000000 in
set_option maxRecDepth 100000 in
theorem spec_frAfter.calls (k : Nat) (a0_0 : Int) (a0_1 : Bool) (a0_2 : Int) (a1 : ByteArray) (r1 : Int) (r2 : Bool) (r3 : Int) (r4 : Bool) (w : World) (h : spec_frAfter.f k a0_0 a0_1 a0_2 a1 = some (r1, r2, r3, r4)) :
  Calls Tryd.prog 52 #[.agg #[.int .i64 a0_0, .bool a0_1, .int .i64 a0_2], .string a1] w fun e w' => e = .returned (.tuple #[.agg #[.int .i64 r1, .bool r2, .int .i64 r3], .bool r4]) ∧ Below w.heap.size w w' := by
 have hu25 := Tryd.underlying25
 have HB := Aside0.mk (Below.refl w.heap.size w)
 have H : (if (a1.size : Int) > 36 then (some (a0_0, a0_1, a0_2, false)) else (spec_frAfter.l0 k a1 0 a0_0 a0_1 a0_2)) = some (r1, r2, r3, r4) := h
 clear h
 by_cases c3 : (a1.size : Int) > 36
 ·rw [if_pos c3] at H
  have c3b0 : decide (36 < (a1.size : Int)) = true := decide_eq_true c3
  have c3b1 : decide (36 < a1.size) = true := decide_eq_true (by omega)
  clear c3
  simp only [Option.some.injEq, Prod.mk.injEq] at H
  obtain ⟨rfl, rfl, rfl, rfl⟩ := H
  go_enter Tryd.func52, Tryd.ntmps52
  go_wp2_with (first | ((with_reducible refine gate_dst (N := 2) rfl ?_); refine bxU (cs := #[.int .i64 a0_0, .bool a0_1, .int .i64 a0_2]) (t := 25) ?_; intro gb429 hg w4 hbox hb; have n0_ := bsU hb; have n1_ := Aside0.mk (hbox); have n2_ := geU hg; have n3_ := geU hg; clear HB; have HB := n0_; have BK429 := n1_; have GW429 := n2_; have GE429 := n3_; clear n0_ n1_ n2_ n3_; clear hb hbox hg) | ((with_reducible refine gate_dst (N := 4) rfl ?_); refine bxU (cs := #[.int .i64 0, .bool false, .int .i64 0]) (t := 25) ?_; intro gb430 hg w5 hbox hb; have n0_ := bbU BK429 hb; have n1_ := bsU hb; have n2_ := Aside0.mk (hbox); have n3_ := geU hg; have n4_ := geU hg; have n5_ := neU BK429 hg; have n6_ := enU BK429 hg; clear BK429; clear HB; have BK429 := n0_; have HB := n1_; have BK430 := n2_; have GW430 := n3_; have GE430 := n4_; have NB429_430 := n5_; have NB430_429 := n6_; clear n0_ n1_ n2_ n3_ n4_ n5_ n6_; clear hb hbox hg; have hnb6 := NB429_430.out; have hnc6 := NB430_429.out; obtain ⟨hcz7_0, hcz7_1, hcz7_2, hfz7_0, hfz7_1, hfz7_2⟩ := b3U BK429; obtain ⟨hcz8_0, hcz8_1, hcz8_2, hfz8_0, hfz8_1, hfz8_2⟩ := b3U BK430))
  refine bodyPost_ret (results_ct rfl _ _ gb430 25 #[.int .i64 a0_0, .bool a0_1, .int .i64 a0_2] (0, 0) _ rfl bkU Tryd.underlying25 rfl (by kernel_rfl)) rfl ?_
  exact ⟨by first | rfl | (simp [errW_none, errW_some] <;> rfl) | (simp [*, errW_none, errW_some] <;> rfl), hbU⟩
 ·rw [if_neg c3] at H
  have c3b0 : decide (36 < (a1.size : Int)) = false := decide_eq_false c3
  have c3b1 : decide (36 < a1.size) = false := decide_eq_false (by omega)
  clear c3
  have H' := Aside0.mk H
  clear H
  go_enter Tryd.func52, Tryd.ntmps52
  go_wp2_with (first | ((with_reducible refine gate_dst (N := 2) rfl ?_); refine bxU (cs := #[.int .i64 a0_0, .bool a0_1, .int .i64 a0_2]) (t := 25) ?_; intro gb429 hg w9 hbox hb; have n0_ := bsU hb; have n1_ := Aside0.mk (hbox); have n2_ := geU hg; have n3_ := geU hg; clear HB; have HB := n0_; have BK429 := n1_; have GW429 := n2_; have GE429 := n3_; clear n0_ n1_ n2_ n3_; clear hb hbox hg) | ((with_reducible refine gate_dst (N := 4) rfl ?_); refine bxU (cs := #[.int .i64 0, .bool false, .int .i64 0]) (t := 25) ?_; intro gb430 hg w10 hbox hb; have n0_ := bbU BK429 hb; have n1_ := bsU hb; have n2_ := Aside0.mk (hbox); have n3_ := geU hg; have n4_ := geU hg; have n5_ := neU BK429 hg; have n6_ := enU BK429 hg; clear BK429; clear HB; have BK429 := n0_; have HB := n1_; have BK430 := n2_; have GW430 := n3_; have GE430 := n4_; have NB429_430 := n5_; have NB430_429 := n6_; clear n0_ n1_ n2_ n3_ n4_ n5_ n6_; clear hb hbox hg))
  go_loopg [6] k (fun kq v6 w' => ∃ (x6_1 : Int) (x430000_1 : Int) (x430001_1 : Bool) (x430002_1 : Int) (x431000_1 : Int) (x431001_1 : Bool) (x431002_1 : Int), v6 = .int .i64 x6_1 ∧ Aside0 (spec_frAfter.l0 kq a1 x6_1 x430000_1 x430001_1 x430002_1 = some (r1, r2, r3, r4)) ∧ Aside0 (kq ≤ k) ∧ Aside0 (w'.heap[gb429]? = some (.cells #[.int .i64 x430000_1, .bool x430001_1, .int .i64 x430002_1] 25 (0, 0))) ∧ Aside0 (w'.heap[gb430]? = some (.cells #[.int .i64 x431000_1, .bool x431001_1, .int .i64 x431002_1] 25 (0, 0))) ∧ Aside0 (Below w.heap.size w w'))
  case atStart => exact ⟨(0), (a0_0), (a0_1), (a0_2), (0), (false), (0), eqU, H', ⟨Nat.le_refl _⟩, ⟨bkU⟩, ⟨bkU⟩, ⟨hbU⟩⟩
  case round =>
   clear H'
   (try clear c3); (try clear c3b0); (try clear c3b1); (try clear hcz7_0); (try clear hcz7_1); (try clear hcz7_2); (try clear hcz8_0); (try clear hcz8_1); (try clear hcz8_2); (try clear hfz7_0); (try clear hfz7_1); (try clear hfz7_2); (try clear hfz8_0); (try clear hfz8_1); (try clear hfz8_2)
   obtain ⟨x6_1, x430000_1, x430001_1, x430002_1, x431000_1, x431001_1, x431002_1, rfl, HA, HK1, BK429, BK430, HB⟩ := hrel
   cases gk with
   | zero => exact absurd HA.out (by simp [spec_frAfter.l0])
   | succ k1 =>
    have H := HA.out
    clear HA
    simp only [spec_frAfter.l0] at H
    by_cases c11 : x6_1 < (a1.size : Int)
    ·rw [if_pos c11] at H
     have c11b0 : decide (x6_1 < (a1.size : Int)) = true := decide_eq_true c11
     clear c11
     by_cases c12 : 0 ≤ x6_1
     ·rw [if_pos c12] at H
      have c12b0 : decide (0 ≤ x6_1) = true := decide_eq_true c12
      clear c12
      replace H := Option.bind_eq_some_iff.mp H
      obtain ⟨⟨t431, t432, t433, t434⟩, A140, H⟩ := H
      (try dsimp only at H)
      have A14 := Aside0.mk A140
      clear A140
      by_cases c15 : t434 = true
      ·subst c15
       rw [if_pos rfl] at H
       have H' := Aside0.mk H
       clear H
       try go_wp2
       have n0_ := Aside0.mk (blk_drew BK429.out)
       have n1_ := Aside0.mk (blk_drew BK430.out)
       have n2_ := Aside0.mk (below_drew1 HB.out)
       clear BK429
       clear BK430
       clear HB
       have BK429 := n0_
       have BK430 := n1_
       have HB := n2_
       clear n0_ n1_ n2_
       have p13 : 0 ≤ (x6_1 : Int) := of_decide_eq_true (by first | (with_reducible assumption) | assumption)
       have q13 : x6_1 < (a1.size : Int) := of_decide_eq_true (by first | (with_reducible assumption) | assumption)
       have hx13 := bt_at a1 x6_1
       replace p13 := eq_true p13
       replace q13 := eq_true q13
       refine start_ (n := 11) (S := fun w' => w'.cell? ⟨gb429, 0, none⟩ = some (.int .i64 x430000_1) ∧ w'.cell? ⟨gb429, 1, none⟩ = some (.bool x430001_1) ∧ w'.cell? ⟨gb429, 2, none⟩ = some (.int .i64 x430002_1)) (ds := []) #[false, false, false, false, false, false, false, false, false, false, false] (by kernel_rfl) rfl rfl (c3U BK429) (fun hHeld => ?_); refine with_tabW spec_frAfter.tab6 spec_frAfter.bits6 (fun HT_ HW_ => ?_)
       generalize wr.drew = w16 at BK429 BK430 HB hHeld ⊢
       refine pure_ (i := 1) (N := some 21) (v := ?_) (a' := ?_) #[false, true, false, false, false, false, false, false, false, false, false] rfl rfl (any_of HT_.out (by kernel_rfl)) (fun _ _ _ h => h) (Or.inl ⟨by rfl, ?_⟩) ?_ ?_
       rotate_left
       ·intro w'
        go_simp
        with_reducible rfl
       rotate_left
       ·simp only [Act.put, List.setIfInBounds_toArray, List.set_cons_zero, List.set_cons_succ, i64_w, i32_w]
        rfl
       refine pure_ (i := 2) (N := some 22) (v := ?_) (a' := ?_) #[false, true, true, false, false, false, false, false, false, false, false] rfl rfl (any_of HT_.out (by kernel_rfl)) (fun _ _ _ h => h) (Or.inl ⟨by rfl, ?_⟩) ?_ ?_
       rotate_left
       ·intro w'
        go_simp
        with_reducible rfl
       rotate_left
       ·simp only [Act.put, List.setIfInBounds_toArray, List.set_cons_zero, List.set_cons_succ, i64_w, i32_w]
        rfl
       refine take_ (i := 0) (N := some 20) (v := ?_) (a' := ?_) #[true, true, true, false, false, false, false, false, false, false, false] rfl rfl (take_ofW HT_.out HW_.out (by kernel_rfl)) (fun _ _ _ h => h) (Or.inl ⟨by rfl, ?_⟩) hHeld ?_ ?_
       rotate_left
       ·rintro w' ⟨s0, s1, s2⟩
        go_simp
        with_reducible rfl
       rotate_left
       ·simp only [Act.put, List.setIfInBounds_toArray, List.set_cons_zero, List.set_cons_succ, i64_w, i32_w]
        rfl
       refine take_ (i := 3) (N := some 23) (v := ?_) (a' := ?_) #[true, true, true, true, false, false, false, false, false, false, false] rfl rfl (take_ofW HT_.out HW_.out (by kernel_rfl)) (fun _ _ _ h => h) (Or.inl ⟨by rfl, ?_⟩) hHeld ?_ ?_
       rotate_left
       ·rintro w' ⟨s0, s1, s2⟩
        go_simp
        with_reducible rfl
       rotate_left
       ·simp only [Act.put, List.setIfInBounds_toArray, List.set_cons_zero, List.set_cons_succ, i64_w, i32_w]
        rfl
       refine join_ (σ := Nat) 2 #[true, true, true, true, true, true, true, true, true, false, false] (fun s_ => [(24, .tuple #[.agg #[.int .i64 t431, .bool t432, .int .i64 t433], .bool true]), (7, .pointer (some ⟨s_, 0, none⟩)), (19, .tuple #[.agg #[.int .i64 t431, .bool t432, .int .i64 t433], .bool true]), (25, .agg #[.int .i64 t431, .bool t432, .int .i64 t433]), (26, .bool true)]) (fun s_ w' => (w'.cell? ⟨gb429, 0, none⟩ = some (.int .i64 x430000_1) ∧ w'.cell? ⟨gb429, 1, none⟩ = some (.bool x430001_1) ∧ w'.cell? ⟨gb429, 2, none⟩ = some (.int .i64 x430002_1)) ∧ (w'.heap[gb429]? = some (.cells #[.int .i64 x430000_1, .bool x430001_1, .int .i64 x430002_1] 25 (0, 0))) ∧ (w'.heap[gb430]? = some (.cells #[.int .i64 x431000_1, .bool x431001_1, .int .i64 x431002_1] 25 (0, 0))) ∧ (w'.heap[s_]? = some (.cells #[.int .i64 0, .bool false, .int .i64 0] 25 (0, 0))) ∧ (w.heap.size ≤ s_) ∧ (w.heap.size ≤ s_) ∧ (gb429 ≠ s_) ∧ (s_ ≠ gb429) ∧ (gb430 ≠ s_) ∧ (s_ ≠ gb430) ∧ (Below w.heap.size w w')) ?_ ?_
       rotate_left
       ·intro hCont
        refine two_ (i := 4) (j := 8) (Ni := some 24) (Nj := some 7) #[true, true, true, true, true, false, false, false, false, false, false] #[true, true, true, true, false, false, false, false, true, false, false] rfl rfl rfl rfl (two_of HT_.out (by kernel_rfl)) (by decide) (by decide) (fun K hK => ?_) (fun K hK => ?_)
        ·skip
         refine goes_ Tryd.func39 (by kernel_rfl) rfl #[.agg #[.int .i64 x430000_1, .bool x430001_1, .int .i64 x430002_1], .int .u8 (bt a1 x6_1)] (by rfl) rfl rfl arU ?_
         with_reducible refine (spec_frPot.calls k1 x430000_1 x430001_1 x430002_1 (bt a1 x6_1) t431 t432 t433 true _ A14.out).mono ?_
         rintro e w17 ⟨rfl, hb⟩
         refine ⟨_, rfl, ?_⟩
         have n0_ := bbU BK429 hb
         have n1_ := bbU BK430 hb
         have n2_ := bsU hb
         clear BK429
         clear BK430
         clear HB
         have BK429 := n0_
         have BK430 := n1_
         have HB := n2_
         clear n0_ n1_ n2_
         (try clear hb)
         refine hK.out _ _ (c3U BK429) (fun hHeld => ?_)
         clear hK K
         refine norm_ (a' := ?_) ?_ ?_
         rotate_left
         ·show Act.put _ (some 24) _ = _
          simp only [Act.put, List.setIfInBounds_toArray, List.set_cons_zero, List.set_cons_succ, i64_w, i32_w]
          rfl
         refine pure_ (i := 5) (N := some 19) (v := ?_) (a' := ?_) #[true, true, true, true, true, true, false, false, false, false, false] rfl rfl (any_of HT_.out (by kernel_rfl)) (fun _ _ _ h => h) (Or.inl ⟨by rfl, ?_⟩) ?_ ?_
         rotate_left
         ·intro w'
          go_simp
          with_reducible rfl
         rotate_left
         ·simp only [Act.put, List.setIfInBounds_toArray, List.set_cons_zero, List.set_cons_succ, i64_w, i32_w]
          rfl
         refine pure_ (i := 6) (N := some 25) (v := ?_) (a' := ?_) #[true, true, true, true, true, true, true, false, false, false, false] rfl rfl (any_of HT_.out (by kernel_rfl)) (fun _ _ _ h => h) (Or.inl ⟨by rfl, ?_⟩) ?_ ?_
         rotate_left
         ·intro w'
          go_simp
          with_reducible rfl
         rotate_left
         ·simp only [Act.put, List.setIfInBounds_toArray, List.set_cons_zero, List.set_cons_succ, i64_w, i32_w]
          rfl
         refine pure_ (i := 7) (N := some 26) (v := ?_) (a' := ?_) #[true, true, true, true, true, true, true, true, false, false, false] rfl rfl (any_of HT_.out (by kernel_rfl)) (fun _ _ _ h => h) (Or.inl ⟨by rfl, ?_⟩) ?_ ?_
         rotate_left
         ·intro w'
          go_simp
          with_reducible rfl
         rotate_left
         ·simp only [Act.put, List.setIfInBounds_toArray, List.set_cons_zero, List.set_cons_succ, i64_w, i32_w]
          rfl
         refine one_ (i := 8) (N := some 7) #[true, true, true, true, true, true, true, true, true, false, false] rfl rfl (one_of HT_.out (by kernel_rfl)) (by decide) (fun K hK => ?_)
         refine box_step ?hg (N := 7) ?hd (cs := #[.int .i64 0, .bool false, .int .i64 0]) (t := 25) ?hr ?_; (case hd => rfl); (case hg => rfl); (case hr => first | (go_simp; done) | (go_simp; rfl))
         intro gb435 hg w18 hbox hb
         have n0_ := bbU BK429 hb
         have n1_ := bbU BK430 hb
         have n2_ := bsU hb
         have n3_ := Aside0.mk (hbox)
         have n4_ := geU hg
         have n5_ := geU hg
         have n6_ := neU BK429 hg
         have n7_ := enU BK429 hg
         have n8_ := neU BK430 hg
         have n9_ := enU BK430 hg
         clear BK429
         clear BK430
         clear HB
         have BK429 := n0_
         have BK430 := n1_
         have HB := n2_
         have BK435 := n3_
         have GW435 := n4_
         have GE435 := n5_
         have NB429_435 := n6_
         have NB435_429 := n7_
         have NB430_435 := n8_
         have NB435_430 := n9_
         clear n0_ n1_ n2_ n3_ n4_ n5_ n6_ n7_ n8_ n9_
         clear hb hbox hg
         refine hK.out _ _ (c3U BK429) (fun hHeld => ?_)
         clear hK K
         refine norm_ (a' := ?_) ?_ ?_
         rotate_left
         ·show Act.put _ (some 7) _ = _
          simp only [Act.put, List.setIfInBounds_toArray, List.set_cons_zero, List.set_cons_succ, i64_w, i32_w]
          rfl
         exact norm_ (by simp only [putAll, Act.put, List.setIfInBounds_toArray, List.set_cons_zero, List.set_cons_succ]) (hCont (gb435) _ ⟨hHeld, bkU, bkU, bkU, GW435.out, GE435.out, NB429_435.out, NB435_429.out, NB430_435.out, NB435_430.out, hbU⟩)
        ·skip
         refine box_step ?hg (N := 7) ?hd (cs := #[.int .i64 0, .bool false, .int .i64 0]) (t := 25) ?hr ?_; (case hd => rfl); (case hg => rfl); (case hr => first | (go_simp; done) | (go_simp; rfl))
         intro gb435 hg w17 hbox hb
         have n0_ := bbU BK429 hb
         have n1_ := bbU BK430 hb
         have n2_ := bsU hb
         have n3_ := Aside0.mk (hbox)
         have n4_ := geU hg
         have n5_ := geU hg
         have n6_ := neU BK429 hg
         have n7_ := enU BK429 hg
         have n8_ := neU BK430 hg
         have n9_ := enU BK430 hg
         clear BK429
         clear BK430
         clear HB
         have BK429 := n0_
         have BK430 := n1_
         have HB := n2_
         have BK435 := n3_
         have GW435 := n4_
         have GE435 := n5_
         have NB429_435 := n6_
         have NB435_429 := n7_
         have NB430_435 := n8_
         have NB435_430 := n9_
         clear n0_ n1_ n2_ n3_ n4_ n5_ n6_ n7_ n8_ n9_
         clear hb hbox hg
         refine hK.out _ _ (c3U BK429) (fun hHeld => ?_)
         clear hK K
         refine norm_ (a' := ?_) ?_ ?_
         rotate_left
         ·show Act.put _ (some 7) _ = _
          simp only [Act.put, List.setIfInBounds_toArray, List.set_cons_zero, List.set_cons_succ, i64_w, i32_w]
          rfl
         refine one_ (i := 4) (N := some 24) #[true, true, true, true, true, false, false, false, true, false, false] rfl rfl (one_of HT_.out (by kernel_rfl)) (by decide) (fun K hK => ?_)
         refine goes_ Tryd.func39 (by kernel_rfl) rfl #[.agg #[.int .i64 x430000_1, .bool x430001_1, .int .i64 x430002_1], .int .u8 (bt a1 x6_1)] (by rfl) rfl rfl arU ?_
         with_reducible refine (spec_frPot.calls k1 x430000_1 x430001_1 x430002_1 (bt a1 x6_1) t431 t432 t433 true _ A14.out).mono ?_
         rintro e w18 ⟨rfl, hb⟩
         refine ⟨_, rfl, ?_⟩
         have n0_ := bbU BK429 hb
         have n1_ := bbU BK430 hb
         have n2_ := bbU BK435 hb
         have n3_ := bsU hb
         clear BK429
         clear BK430
         clear BK435
         clear HB
         have BK429 := n0_
         have BK430 := n1_
         have BK435 := n2_
         have HB := n3_
         clear n0_ n1_ n2_ n3_
         (try clear hb)
         refine hK.out _ _ (c3U BK429) (fun hHeld => ?_)
         clear hK K
         refine norm_ (a' := ?_) ?_ ?_
         rotate_left
         ·show Act.put _ (some 24) _ = _
          simp only [Act.put, List.setIfInBounds_toArray, List.set_cons_zero, List.set_cons_succ, i64_w, i32_w]
          rfl
         refine pure_ (i := 5) (N := some 19) (v := ?_) (a' := ?_) #[true, true, true, true, true, true, false, false, true, false, false] rfl rfl (any_of HT_.out (by kernel_rfl)) (fun _ _ _ h => h) (Or.inl ⟨by rfl, ?_⟩) ?_ ?_
         rotate_left
         ·intro w'
          go_simp
          with_reducible rfl
         rotate_left
         ·simp only [Act.put, List.setIfInBounds_toArray, List.set_cons_zero, List.set_cons_succ, i64_w, i32_w]
          rfl
         refine pure_ (i := 6) (N := some 25) (v := ?_) (a' := ?_) #[true, true, true, true, true, true, true, false, true, false, false] rfl rfl (any_of HT_.out (by kernel_rfl)) (fun _ _ _ h => h) (Or.inl ⟨by rfl, ?_⟩) ?_ ?_
         rotate_left
         ·intro w'
          go_simp
          with_reducible rfl
         rotate_left
         ·simp only [Act.put, List.setIfInBounds_toArray, List.set_cons_zero, List.set_cons_succ, i64_w, i32_w]
          rfl
         refine pure_ (i := 7) (N := some 26) (v := ?_) (a' := ?_) #[true, true, true, true, true, true, true, true, true, false, false] rfl rfl (any_of HT_.out (by kernel_rfl)) (fun _ _ _ h => h) (Or.inl ⟨by rfl, ?_⟩) ?_ ?_
         rotate_left
         ·intro w'
          go_simp
          with_reducible rfl
         rotate_left
         ·simp only [Act.put, List.setIfInBounds_toArray, List.set_cons_zero, List.set_cons_succ, i64_w, i32_w]
          rfl
         exact norm_ (by simp only [putAll, Act.put, List.setIfInBounds_toArray, List.set_cons_zero, List.set_cons_succ]) (hCont (gb435) _ ⟨hHeld, bkU, bkU, bkU, GW435.out, GE435.out, NB429_435.out, NB435_429.out, NB430_435.out, NB435_430.out, hbU⟩)
       rintro gb435 w19 ⟨hS_, h0_, h1_, h2_, h3_, h4_, h5_, h6_, h7_, h8_, h9_⟩
       have n0_ : Aside0 (w19.heap[gb429]? = some (.cells #[.int .i64 x430000_1, .bool x430001_1, .int .i64 x430002_1] 25 (0, 0))) := ⟨h0_⟩
       have n1_ : Aside0 (w19.heap[gb430]? = some (.cells #[.int .i64 x431000_1, .bool x431001_1, .int .i64 x431002_1] 25 (0, 0))) := ⟨h1_⟩
       have n2_ : Aside0 (w19.heap[gb435]? = some (.cells #[.int .i64 0, .bool false, .int .i64 0] 25 (0, 0))) := ⟨h2_⟩
       have n3_ : Aside0 (w.heap.size ≤ gb435) := ⟨h3_⟩
       have n4_ : Aside0 (w.heap.size ≤ gb435) := ⟨h4_⟩
       have n5_ : Aside0 (gb429 ≠ gb435) := ⟨h5_⟩
       have n6_ : Aside0 (gb435 ≠ gb429) := ⟨h6_⟩
       have n7_ : Aside0 (gb430 ≠ gb435) := ⟨h7_⟩
       have n8_ : Aside0 (gb435 ≠ gb430) := ⟨h8_⟩
       have n9_ : Aside0 (Below w.heap.size w w19) := ⟨h9_⟩
       clear BK429
       clear BK430
       clear HB
       clear h0_ h1_ h2_ h3_ h4_ h5_ h6_ h7_ h8_ h9_
       have BK429 := n0_
       have BK430 := n1_
       have BK435 := n2_
       have GW435 := n3_
       have GE435 := n4_
       have NB429_435 := n5_
       have NB435_429 := n6_
       have NB430_435 := n7_
       have NB435_430 := n8_
       have HB := n9_
       clear n0_ n1_ n2_ n3_ n4_ n5_ n6_ n7_ n8_ n9_
       have hHeld : w19.cell? ⟨gb429, 0, none⟩ = some (.int .i64 x430000_1) ∧ w19.cell? ⟨gb429, 1, none⟩ = some (.bool x430001_1) ∧ w19.cell? ⟨gb429, 2, none⟩ = some (.int .i64 x430002_1) := hS_
       refine norm_ (a' := ?_) ?_ ?_
       rotate_left
       ·simp only [putAll, Act.put, List.setIfInBounds_toArray, List.set_cons_zero, List.set_cons_succ]
        rfl
       refine one_ (i := 9) (N := none) #[true, true, true, true, true, true, true, true, true, true, false] rfl rfl (one_of HT_.out (by kernel_rfl)) (by decide) (fun K hK => ?_)
       have hs20 : w19.cell? ⟨gb435, 0, none⟩ = some (.int .i64 0) := (blk_cell BK435.out 0).trans rfl
       have hfs20 := blk_frozen BK435.out 0
       have hns20_0 := NB429_435.out
       have hns20_1 := NB430_435.out
       have hms20_0 := NB435_429.out
       have hms20_1 := NB435_430.out
       have hs21 : w19.cell? ⟨gb435, 1, none⟩ = some (.bool false) := (blk_cell BK435.out 1).trans rfl
       have hfs21 := blk_frozen BK435.out 1
       have hns21_0 := NB429_435.out
       have hns21_1 := NB430_435.out
       have hms21_0 := NB435_429.out
       have hms21_1 := NB435_430.out
       have hs22 : w19.cell? ⟨gb435, 2, none⟩ = some (.int .i64 0) := (blk_cell BK435.out 2).trans rfl
       have hfs22 := blk_frozen BK435.out 2
       have hns22_0 := NB429_435.out
       have hns22_1 := NB430_435.out
       have hms22_0 := NB435_429.out
       have hms22_1 := NB435_430.out
       refine skip_ (w1 := ?_) (by rfl) rfl ?_ ?_
       rotate_left
       ·go_simp
        rfl
       refine hK.out _ _ ⟨((cell_far (p := ⟨gb435, _, none⟩) NB429_435.out _).trans (((cell_far (p := ⟨gb435, _, none⟩) NB429_435.out _).trans (((cell_far (p := ⟨gb435, _, none⟩) NB429_435.out _).trans (hHeld.1)))))), ((cell_far (p := ⟨gb435, _, none⟩) NB429_435.out _).trans (((cell_far (p := ⟨gb435, _, none⟩) NB429_435.out _).trans (((cell_far (p := ⟨gb435, _, none⟩) NB429_435.out _).trans (hHeld.2.1)))))), ((cell_far (p := ⟨gb435, _, none⟩) NB429_435.out _).trans (((cell_far (p := ⟨gb435, _, none⟩) NB429_435.out _).trans (((cell_far (p := ⟨gb435, _, none⟩) NB429_435.out _).trans (hHeld.2.2))))))⟩ (fun hHeld => ?_)
       clear hK K
       refine pure_ (i := 10) (N := some 8) (v := ?_) (a' := ?_) #[true, true, true, true, true, true, true, true, true, true, true] rfl rfl (any_of HT_.out (by kernel_rfl)) (fun _ _ _ h => h) (Or.inl ⟨by rfl, ?_⟩) ?_ ?_
       rotate_left
       ·intro w'
        go_simp
        with_reducible rfl
       rotate_left
       ·simp only [Act.put, List.setIfInBounds_toArray, List.set_cons_zero, List.set_cons_succ, i64_w, i32_w]
        rfl
       refine done_ (done_of HT_.out (by kernel_rfl)) ?_
       have hnb23 := NB435_429.out
       have hnc23 := NB429_435.out
       have hnb24 := NB435_430.out
       have hnc24 := NB430_435.out
       obtain ⟨hcz25_0, hcz25_1, hcz25_2, hfz25_0, hfz25_1, hfz25_2⟩ := b3U BK435
       have hnb26 := NB429_430.out
       have hnc26 := NB430_429.out
       obtain ⟨hcz27_0, hcz27_1, hcz27_2, hfz27_0, hfz27_1, hfz27_2⟩ := b3U BK429
       try go_wp2
       go_roundg k1
       case measure => have := HK1.out; omega
       case rel => exact ⟨(wrap64 (x6_1 + 1)), (t431), (t432), (t433), (x431000_1), (x431001_1), (x431002_1), eqU, H', ⟨by have := HK1.out; omega⟩, ⟨bkU⟩, ⟨bkU⟩, ⟨hbU⟩⟩
      ·replace c15 := Bool.eq_false_iff.mpr c15
       subst c15
       rw [if_neg (show ¬ (false = true) by decide)] at H
       simp only [Option.some.injEq, Prod.mk.injEq] at H
       obtain ⟨rfl, rfl, rfl, rfl⟩ := H
       try go_wp2
       have n0_ := Aside0.mk (blk_drew BK429.out)
       have n1_ := Aside0.mk (blk_drew BK430.out)
       have n2_ := Aside0.mk (below_drew1 HB.out)
       clear BK429
       clear BK430
       clear HB
       have BK429 := n0_
       have BK430 := n1_
       have HB := n2_
       clear n0_ n1_ n2_
       have p13 : 0 ≤ (x6_1 : Int) := of_decide_eq_true (by first | (with_reducible assumption) | assumption)
       have q13 : x6_1 < (a1.size : Int) := of_decide_eq_true (by first | (with_reducible assumption) | assumption)
       have hx13 := bt_at a1 x6_1
       replace p13 := eq_true p13
       replace q13 := eq_true q13
       refine start_ (n := 11) (S := fun w' => w'.cell? ⟨gb429, 0, none⟩ = some (.int .i64 x430000_1) ∧ w'.cell? ⟨gb429, 1, none⟩ = some (.bool x430001_1) ∧ w'.cell? ⟨gb429, 2, none⟩ = some (.int .i64 x430002_1)) (ds := []) #[false, false, false, false, false, false, false, false, false, false, false] (by kernel_rfl) rfl rfl (c3U BK429) (fun hHeld => ?_); refine with_tabW spec_frAfter.tab6 spec_frAfter.bits6 (fun HT_ HW_ => ?_)
       generalize wr.drew = w28 at BK429 BK430 HB hHeld ⊢
       refine pure_ (i := 1) (N := some 21) (v := ?_) (a' := ?_) #[false, true, false, false, false, false, false, false, false, false, false] rfl rfl (any_of HT_.out (by kernel_rfl)) (fun _ _ _ h => h) (Or.inl ⟨by rfl, ?_⟩) ?_ ?_
       rotate_left
       ·intro w'
        go_simp
        with_reducible rfl
       rotate_left
       ·simp only [Act.put, List.setIfInBounds_toArray, List.set_cons_zero, List.set_cons_succ, i64_w, i32_w]
        rfl
       refine pure_ (i := 2) (N := some 22) (v := ?_) (a' := ?_) #[false, true, true, false, false, false, false, false, false, false, false] rfl rfl (any_of HT_.out (by kernel_rfl)) (fun _ _ _ h => h) (Or.inl ⟨by rfl, ?_⟩) ?_ ?_
       rotate_left
       ·intro w'
        go_simp
        with_reducible rfl
       rotate_left
       ·simp only [Act.put, List.setIfInBounds_toArray, List.set_cons_zero, List.set_cons_succ, i64_w, i32_w]
        rfl
       refine take_ (i := 0) (N := some 20) (v := ?_) (a' := ?_) #[true, true, true, false, false, false, false, false, false, false, false] rfl rfl (take_ofW HT_.out HW_.out (by kernel_rfl)) (fun _ _ _ h => h) (Or.inl ⟨by rfl, ?_⟩) hHeld ?_ ?_
       rotate_left
       ·rintro w' ⟨s0, s1, s2⟩
        go_simp
        with_reducible rfl
       rotate_left
       ·simp only [Act.put, List.setIfInBounds_toArray, List.set_cons_zero, List.set_cons_succ, i64_w, i32_w]
        rfl
       refine take_ (i := 3) (N := some 23) (v := ?_) (a' := ?_) #[true, true, true, true, false, false, false, false, false, false, false] rfl rfl (take_ofW HT_.out HW_.out (by kernel_rfl)) (fun _ _ _ h => h) (Or.inl ⟨by rfl, ?_⟩) hHeld ?_ ?_
       rotate_left
       ·rintro w' ⟨s0, s1, s2⟩
        go_simp
        with_reducible rfl
       rotate_left
       ·simp only [Act.put, List.setIfInBounds_toArray, List.set_cons_zero, List.set_cons_succ, i64_w, i32_w]
        rfl
       refine join_ (σ := Nat) 2 #[true, true, true, true, true, true, true, true, true, false, false] (fun s_ => [(24, .tuple #[.agg #[.int .i64 t431, .bool t432, .int .i64 t433], .bool false]), (7, .pointer (some ⟨s_, 0, none⟩)), (19, .tuple #[.agg #[.int .i64 t431, .bool t432, .int .i64 t433], .bool false]), (25, .agg #[.int .i64 t431, .bool t432, .int .i64 t433]), (26, .bool false)]) (fun s_ w' => (w'.cell? ⟨gb429, 0, none⟩ = some (.int .i64 x430000_1) ∧ w'.cell? ⟨gb429, 1, none⟩ = some (.bool x430001_1) ∧ w'.cell? ⟨gb429, 2, none⟩ = some (.int .i64 x430002_1)) ∧ (w'.heap[gb429]? = some (.cells #[.int .i64 x430000_1, .bool x430001_1, .int .i64 x430002_1] 25 (0, 0))) ∧ (w'.heap[gb430]? = some (.cells #[.int .i64 x431000_1, .bool x431001_1, .int .i64 x431002_1] 25 (0, 0))) ∧ (w'.heap[s_]? = some (.cells #[.int .i64 0, .bool false, .int .i64 0] 25 (0, 0))) ∧ (w.heap.size ≤ s_) ∧ (w.heap.size ≤ s_) ∧ (gb429 ≠ s_) ∧ (s_ ≠ gb429) ∧ (gb430 ≠ s_) ∧ (s_ ≠ gb430) ∧ (Below w.heap.size w w')) ?_ ?_
       rotate_left
       ·intro hCont
        refine two_ (i := 4) (j := 8) (Ni := some 24) (Nj := some 7) #[true, true, true, true, true, false, false, false, false, false, false] #[true, true, true, true, false, false, false, false, true, false, false] rfl rfl rfl rfl (two_of HT_.out (by kernel_rfl)) (by decide) (by decide) (fun K hK => ?_) (fun K hK => ?_)
        ·skip
         refine goes_ Tryd.func39 (by kernel_rfl) rfl #[.agg #[.int .i64 x430000_1, .bool x430001_1, .int .i64 x430002_1], .int .u8 (bt a1 x6_1)] (by rfl) rfl rfl arU ?_
         with_reducible refine (spec_frPot.calls k1 x430000_1 x430001_1 x430002_1 (bt a1 x6_1) t431 t432 t433 false _ A14.out).mono ?_
         rintro e w29 ⟨rfl, hb⟩
         refine ⟨_, rfl, ?_⟩
         have n0_ := bbU BK429 hb
         have n1_ := bbU BK430 hb
         have n2_ := bsU hb
         clear BK429
         clear BK430
         clear HB
         have BK429 := n0_
         have BK430 := n1_
         have HB := n2_
         clear n0_ n1_ n2_
         (try clear hb)
         refine hK.out _ _ (c3U BK429) (fun hHeld => ?_)
         clear hK K
         refine norm_ (a' := ?_) ?_ ?_
         rotate_left
         ·show Act.put _ (some 24) _ = _
          simp only [Act.put, List.setIfInBounds_toArray, List.set_cons_zero, List.set_cons_succ, i64_w, i32_w]
          rfl
         refine pure_ (i := 5) (N := some 19) (v := ?_) (a' := ?_) #[true, true, true, true, true, true, false, false, false, false, false] rfl rfl (any_of HT_.out (by kernel_rfl)) (fun _ _ _ h => h) (Or.inl ⟨by rfl, ?_⟩) ?_ ?_
         rotate_left
         ·intro w'
          go_simp
          with_reducible rfl
         rotate_left
         ·simp only [Act.put, List.setIfInBounds_toArray, List.set_cons_zero, List.set_cons_succ, i64_w, i32_w]
          rfl
         refine pure_ (i := 6) (N := some 25) (v := ?_) (a' := ?_) #[true, true, true, true, true, true, true, false, false, false, false] rfl rfl (any_of HT_.out (by kernel_rfl)) (fun _ _ _ h => h) (Or.inl ⟨by rfl, ?_⟩) ?_ ?_
         rotate_left
         ·intro w'
          go_simp
          with_reducible rfl
         rotate_left
         ·simp only [Act.put, List.setIfInBounds_toArray, List.set_cons_zero, List.set_cons_succ, i64_w, i32_w]
          rfl
         refine pure_ (i := 7) (N := some 26) (v := ?_) (a' := ?_) #[true, true, true, true, true, true, true, true, false, false, false] rfl rfl (any_of HT_.out (by kernel_rfl)) (fun _ _ _ h => h) (Or.inl ⟨by rfl, ?_⟩) ?_ ?_
         rotate_left
         ·intro w'
          go_simp
          with_reducible rfl
         rotate_left
         ·simp only [Act.put, List.setIfInBounds_toArray, List.set_cons_zero, List.set_cons_succ, i64_w, i32_w]
          rfl
         refine one_ (i := 8) (N := some 7) #[true, true, true, true, true, true, true, true, true, false, false] rfl rfl (one_of HT_.out (by kernel_rfl)) (by decide) (fun K hK => ?_)
         refine box_step ?hg (N := 7) ?hd (cs := #[.int .i64 0, .bool false, .int .i64 0]) (t := 25) ?hr ?_; (case hd => rfl); (case hg => rfl); (case hr => first | (go_simp; done) | (go_simp; rfl))
         intro gb435 hg w30 hbox hb
         have n0_ := bbU BK429 hb
         have n1_ := bbU BK430 hb
         have n2_ := bsU hb
         have n3_ := Aside0.mk (hbox)
         have n4_ := geU hg
         have n5_ := geU hg
         have n6_ := neU BK429 hg
         have n7_ := enU BK429 hg
         have n8_ := neU BK430 hg
         have n9_ := enU BK430 hg
         clear BK429
         clear BK430
         clear HB
         have BK429 := n0_
         have BK430 := n1_
         have HB := n2_
         have BK435 := n3_
         have GW435 := n4_
         have GE435 := n5_
         have NB429_435 := n6_
         have NB435_429 := n7_
         have NB430_435 := n8_
         have NB435_430 := n9_
         clear n0_ n1_ n2_ n3_ n4_ n5_ n6_ n7_ n8_ n9_
         clear hb hbox hg
         refine hK.out _ _ (c3U BK429) (fun hHeld => ?_)
         clear hK K
         refine norm_ (a' := ?_) ?_ ?_
         rotate_left
         ·show Act.put _ (some 7) _ = _
          simp only [Act.put, List.setIfInBounds_toArray, List.set_cons_zero, List.set_cons_succ, i64_w, i32_w]
          rfl
         exact norm_ (by simp only [putAll, Act.put, List.setIfInBounds_toArray, List.set_cons_zero, List.set_cons_succ]) (hCont (gb435) _ ⟨hHeld, bkU, bkU, bkU, GW435.out, GE435.out, NB429_435.out, NB435_429.out, NB430_435.out, NB435_430.out, hbU⟩)
        ·skip
         refine box_step ?hg (N := 7) ?hd (cs := #[.int .i64 0, .bool false, .int .i64 0]) (t := 25) ?hr ?_; (case hd => rfl); (case hg => rfl); (case hr => first | (go_simp; done) | (go_simp; rfl))
         intro gb435 hg w29 hbox hb
         have n0_ := bbU BK429 hb
         have n1_ := bbU BK430 hb
         have n2_ := bsU hb
         have n3_ := Aside0.mk (hbox)
         have n4_ := geU hg
         have n5_ := geU hg
         have n6_ := neU BK429 hg
         have n7_ := enU BK429 hg
         have n8_ := neU BK430 hg
         have n9_ := enU BK430 hg
         clear BK429
         clear BK430
         clear HB
         have BK429 := n0_
         have BK430 := n1_
         have HB := n2_
         have BK435 := n3_
         have GW435 := n4_
         have GE435 := n5_
         have NB429_435 := n6_
         have NB435_429 := n7_
         have NB430_435 := n8_
         have NB435_430 := n9_
         clear n0_ n1_ n2_ n3_ n4_ n5_ n6_ n7_ n8_ n9_
         clear hb hbox hg
         refine hK.out _ _ (c3U BK429) (fun hHeld => ?_)
         clear hK K
         refine norm_ (a' := ?_) ?_ ?_
         rotate_left
         ·show Act.put _ (some 7) _ = _
          simp only [Act.put, List.setIfInBounds_toArray, List.set_cons_zero, List.set_cons_succ, i64_w, i32_w]
          rfl
         refine one_ (i := 4) (N := some 24) #[true, true, true, true, true, false, false, false, true, false, false] rfl rfl (one_of HT_.out (by kernel_rfl)) (by decide) (fun K hK => ?_)
         refine goes_ Tryd.func39 (by kernel_rfl) rfl #[.agg #[.int .i64 x430000_1, .bool x430001_1, .int .i64 x430002_1], .int .u8 (bt a1 x6_1)] (by rfl) rfl rfl arU ?_
         with_reducible refine (spec_frPot.calls k1 x430000_1 x430001_1 x430002_1 (bt a1 x6_1) t431 t432 t433 false _ A14.out).mono ?_
         rintro e w30 ⟨rfl, hb⟩
         refine ⟨_, rfl, ?_⟩
         have n0_ := bbU BK429 hb
         have n1_ := bbU BK430 hb
         have n2_ := bbU BK435 hb
         have n3_ := bsU hb
         clear BK429
         clear BK430
         clear BK435
         clear HB
         have BK429 := n0_
         have BK430 := n1_
         have BK435 := n2_
         have HB := n3_
         clear n0_ n1_ n2_ n3_
         (try clear hb)
         refine hK.out _ _ (c3U BK429) (fun hHeld => ?_)
         clear hK K
         refine norm_ (a' := ?_) ?_ ?_
         rotate_left
         ·show Act.put _ (some 24) _ = _
          simp only [Act.put, List.setIfInBounds_toArray, List.set_cons_zero, List.set_cons_succ, i64_w, i32_w]
          rfl
         refine pure_ (i := 5) (N := some 19) (v := ?_) (a' := ?_) #[true, true, true, true, true, true, false, false, true, false, false] rfl rfl (any_of HT_.out (by kernel_rfl)) (fun _ _ _ h => h) (Or.inl ⟨by rfl, ?_⟩) ?_ ?_
         rotate_left
         ·intro w'
          go_simp
          with_reducible rfl
         rotate_left
         ·simp only [Act.put, List.setIfInBounds_toArray, List.set_cons_zero, List.set_cons_succ, i64_w, i32_w]
          rfl
         refine pure_ (i := 6) (N := some 25) (v := ?_) (a' := ?_) #[true, true, true, true, true, true, true, false, true, false, false] rfl rfl (any_of HT_.out (by kernel_rfl)) (fun _ _ _ h => h) (Or.inl ⟨by rfl, ?_⟩) ?_ ?_
         rotate_left
         ·intro w'
          go_simp
          with_reducible rfl
         rotate_left
         ·simp only [Act.put, List.setIfInBounds_toArray, List.set_cons_zero, List.set_cons_succ, i64_w, i32_w]
          rfl
         refine pure_ (i := 7) (N := some 26) (v := ?_) (a' := ?_) #[true, true, true, true, true, true, true, true, true, false, false] rfl rfl (any_of HT_.out (by kernel_rfl)) (fun _ _ _ h => h) (Or.inl ⟨by rfl, ?_⟩) ?_ ?_
         rotate_left
         ·intro w'
          go_simp
          with_reducible rfl
         rotate_left
         ·simp only [Act.put, List.setIfInBounds_toArray, List.set_cons_zero, List.set_cons_succ, i64_w, i32_w]
          rfl
         exact norm_ (by simp only [putAll, Act.put, List.setIfInBounds_toArray, List.set_cons_zero, List.set_cons_succ]) (hCont (gb435) _ ⟨hHeld, bkU, bkU, bkU, GW435.out, GE435.out, NB429_435.out, NB435_429.out, NB430_435.out, NB435_430.out, hbU⟩)
       rintro gb435 w31 ⟨hS_, h0_, h1_, h2_, h3_, h4_, h5_, h6_, h7_, h8_, h9_⟩
       have n0_ : Aside0 (w31.heap[gb429]? = some (.cells #[.int .i64 x430000_1, .bool x430001_1, .int .i64 x430002_1] 25 (0, 0))) := ⟨h0_⟩
       have n1_ : Aside0 (w31.heap[gb430]? = some (.cells #[.int .i64 x431000_1, .bool x431001_1, .int .i64 x431002_1] 25 (0, 0))) := ⟨h1_⟩
       have n2_ : Aside0 (w31.heap[gb435]? = some (.cells #[.int .i64 0, .bool false, .int .i64 0] 25 (0, 0))) := ⟨h2_⟩
       have n3_ : Aside0 (w.heap.size ≤ gb435) := ⟨h3_⟩
       have n4_ : Aside0 (w.heap.size ≤ gb435) := ⟨h4_⟩
       have n5_ : Aside0 (gb429 ≠ gb435) := ⟨h5_⟩
       have n6_ : Aside0 (gb435 ≠ gb429) := ⟨h6_⟩
       have n7_ : Aside0 (gb430 ≠ gb435) := ⟨h7_⟩
       have n8_ : Aside0 (gb435 ≠ gb430) := ⟨h8_⟩
       have n9_ : Aside0 (Below w.heap.size w w31) := ⟨h9_⟩
       clear BK429
       clear BK430
       clear HB
       clear h0_ h1_ h2_ h3_ h4_ h5_ h6_ h7_ h8_ h9_
       have BK429 := n0_
       have BK430 := n1_
       have BK435 := n2_
       have GW435 := n3_
       have GE435 := n4_
       have NB429_435 := n5_
       have NB435_429 := n6_
       have NB430_435 := n7_
       have NB435_430 := n8_
       have HB := n9_
       clear n0_ n1_ n2_ n3_ n4_ n5_ n6_ n7_ n8_ n9_
       have hHeld : w31.cell? ⟨gb429, 0, none⟩ = some (.int .i64 x430000_1) ∧ w31.cell? ⟨gb429, 1, none⟩ = some (.bool x430001_1) ∧ w31.cell? ⟨gb429, 2, none⟩ = some (.int .i64 x430002_1) := hS_
       refine norm_ (a' := ?_) ?_ ?_
       rotate_left
       ·simp only [putAll, Act.put, List.setIfInBounds_toArray, List.set_cons_zero, List.set_cons_succ]
        rfl
       refine one_ (i := 9) (N := none) #[true, true, true, true, true, true, true, true, true, true, false] rfl rfl (one_of HT_.out (by kernel_rfl)) (by decide) (fun K hK => ?_)
       have hs32 : w31.cell? ⟨gb435, 0, none⟩ = some (.int .i64 0) := (blk_cell BK435.out 0).trans rfl
       have hfs32 := blk_frozen BK435.out 0
       have hns32_0 := NB429_435.out
       have hns32_1 := NB430_435.out
       have hms32_0 := NB435_429.out
       have hms32_1 := NB435_430.out
       have hs33 : w31.cell? ⟨gb435, 1, none⟩ = some (.bool false) := (blk_cell BK435.out 1).trans rfl
       have hfs33 := blk_frozen BK435.out 1
       have hns33_0 := NB429_435.out
       have hns33_1 := NB430_435.out
       have hms33_0 := NB435_429.out
       have hms33_1 := NB435_430.out
       have hs34 : w31.cell? ⟨gb435, 2, none⟩ = some (.int .i64 0) := (blk_cell BK435.out 2).trans rfl
       have hfs34 := blk_frozen BK435.out 2
       have hns34_0 := NB429_435.out
       have hns34_1 := NB430_435.out
       have hms34_0 := NB435_429.out
       have hms34_1 := NB435_430.out
       refine skip_ (w1 := ?_) (by rfl) rfl ?_ ?_
       rotate_left
       ·go_simp
        rfl
       refine hK.out _ _ ⟨((cell_far (p := ⟨gb435, _, none⟩) NB429_435.out _).trans (((cell_far (p := ⟨gb435, _, none⟩) NB429_435.out _).trans (((cell_far (p := ⟨gb435, _, none⟩) NB429_435.out _).trans (hHeld.1)))))), ((cell_far (p := ⟨gb435, _, none⟩) NB429_435.out _).trans (((cell_far (p := ⟨gb435, _, none⟩) NB429_435.out _).trans (((cell_far (p := ⟨gb435, _, none⟩) NB429_435.out _).trans (hHeld.2.1)))))), ((cell_far (p := ⟨gb435, _, none⟩) NB429_435.out _).trans (((cell_far (p := ⟨gb435, _, none⟩) NB429_435.out _).trans (((cell_far (p := ⟨gb435, _, none⟩) NB429_435.out _).trans (hHeld.2.2))))))⟩ (fun hHeld => ?_)
       clear hK K
       refine pure_ (i := 10) (N := some 8) (v := ?_) (a' := ?_) #[true, true, true, true, true, true, true, true, true, true, true] rfl rfl (any_of HT_.out (by kernel_rfl)) (fun _ _ _ h => h) (Or.inl ⟨by rfl, ?_⟩) ?_ ?_
       rotate_left
       ·intro w'
        go_simp
        with_reducible rfl
       rotate_left
       ·simp only [Act.put, List.setIfInBounds_toArray, List.set_cons_zero, List.set_cons_succ, i64_w, i32_w]
        rfl
       refine done_ (done_of HT_.out (by kernel_rfl)) ?_
       have hnb35 := NB429_430.out
       have hnc35 := NB430_429.out
       have hnb36 := NB429_435.out
       have hnc36 := NB435_429.out
       obtain ⟨hcz37_0, hcz37_1, hcz37_2, hfz37_0, hfz37_1, hfz37_2⟩ := b3U BK429
       have hnb38 := NB430_435.out
       have hnc38 := NB435_430.out
       obtain ⟨hcz39_0, hcz39_1, hcz39_2, hfz39_0, hfz39_1, hfz39_2⟩ := b3U BK430
       try go_wp2
       refine bodyPost_ret (results_ct rfl _ _ gb430 25 #[.int .i64 x430000_1, .bool x430001_1, .int .i64 x430002_1] (0, 0) _ rfl bkU Tryd.underlying25 rfl (by kernel_rfl)) rfl ?_
       exact ⟨by first | rfl | (simp [errW_none, errW_some] <;> rfl) | (simp [*, errW_none, errW_some] <;> rfl), hbU⟩
     ·rw [if_neg c12] at H
      exact absurd H (by simp)
    ·rw [if_neg c11] at H
     have c11b0 : decide (x6_1 < (a1.size : Int)) = false := decide_eq_false c11
     clear c11
     simp only [Option.some.injEq, Prod.mk.injEq] at H
     obtain ⟨rfl, rfl, rfl, rfl⟩ := H
     have hnb40 := NB429_430.out
     have hnc40 := NB430_429.out
     obtain ⟨hcz41_0, hcz41_1, hcz41_2, hfz41_0, hfz41_1, hfz41_2⟩ := b3U BK429
     obtain ⟨hcz42_0, hcz42_1, hcz42_2, hfz42_0, hfz42_1, hfz42_2⟩ := b3U BK430
     go_wp2
     refine bodyPost_ret (results_ct rfl _ _ gb430 25 #[.int .i64 x430000_1, .bool x430001_1, .int .i64 x430002_1] (0, 0) _ rfl bkU Tryd.underlying25 rfl (by kernel_rfl)) rfl ?_
     exact ⟨by first | rfl | (simp [errW_none, errW_some] <;> rfl) | (simp [*, errW_none, errW_some] <;> rfl), hbU⟩
end Go.Proofs.YtcmlmjgoidpabaaDoor.MFnFramesCounted

