/- Walks of the functions that the law reaches: each comes to just what the function that is told of it tells, for all arguments. -/
import Derived.Test.YtcmlmjgoidpabaaDoorZMFnFramesCountedx0
import Derived.Test.YtcmlmjgoidpabaaDoorZMFnFramesCountedx2
import Derived.Test.YtcmlmjgoidpabaaDoorZMFnFramesCountedx3
import Derived.Test.YtcmlmjgoidpabaaDoorZMFnFramesCountedx4
namespace Go.Proofs.YtcmlmjgoidpabaaDoor.MFnFramesCounted
open Go.RowKit Go.Proofs.YtcmlmjgoidpabaaDoorW.PrintWords Go.Proofs.YtcmlmjgoidpabaaDoorW.PrintLast Go.Proofs.YtcmlmjgoidpabaaDoorW.PrintMore
set_option linter.unusedVariables false
set_option linter.unusedSimpArgs false
mutual
def spec_FirstWithPoints.j0 : Nat → Int → Bool → Int → Bool → Int → Option (ByteArray × Bool)
 | 0, _, _, _, _, _ => none
 | k + 1, x1, x28, x241000, x241001, x241002 => if x28 = true then (some ((⟨#[]⟩ : ByteArray), false)) else (spec_FirstWithPoints.l0 k x1 (⟨#[]⟩ : ByteArray) x241000 x241001 x241002)
def spec_FirstWithPoints.l0 : Nat → Int → ByteArray → Int → Bool → Int → Option (ByteArray × Bool)
 | 0, _, _, _, _, _ => none
 | k + 1, x1, x6, x241000, x241001, x241002 => if x1 > 0 then ((spec_frNext.f k x241000 x241001 x241002).bind fun t247 => (spec_FirstWithPoints.l1 k x1 x6 t247 0 x241000 x241001 x241002)) else (some (x6, true))
def spec_FirstWithPoints.l1 : Nat → Int → ByteArray → ByteArray → Int → Int → Bool → Int → Option (ByteArray × Bool)
 | 0, _, _, _, _, _, _, _ => none
 | k + 1, x1, x6, x7, x8, x241000, x241001, x241002 => if x8 < (x7.size : Int) then (if 0 ≤ x8 then ((spec_frPot.f k x241000 x241001 x241002 (bt x7 x8)).bind fun bt248 => (if (wrap64 (x1 - (((bt x7 x8) - 48) % 256))) ≥ 0 then ((spec_frWays.f k bt248.1 bt248.2.1 bt248.2.2.1 (wrap64 (x1 - (((bt x7 x8) - 48) % 256)))).bind fun t253 => (if 0 ≤ (wrap64 (x1 - (((bt x7 x8) - 48) % 256))) then (if (wrap64 (x1 - (((bt x7 x8) - 48) % 256))) < (t253.length : Int) then (if (rd t253 (wrap64 (x1 - (((bt x7 x8) - 48) % 256)))) > 0 then (if x8 ≤ (wrap64 (x8 + 1)) then (if (wrap64 (x8 + 1)) ≤ (x7.size : Int) then (if x6.size + (x7.extract (x8 : Int).toNat ((wrap64 (x8 + 1)) : Int).toNat).size ≤ 9223372036854775807 then (spec_FirstWithPoints.l0 k (wrap64 (x1 - (((bt x7 x8) - 48) % 256))) (x6 ++ (x7.extract (x8 : Int).toNat ((wrap64 (x8 + 1)) : Int).toNat)) bt248.1 bt248.2.1 bt248.2.2.1) else (none)) else (none)) else (none)) else (spec_FirstWithPoints.l1 k x1 x6 x7 (wrap64 (x8 + 1)) x241000 x241001 x241002)) else (none)) else (none))) else (spec_FirstWithPoints.l1 k x1 x6 x7 (wrap64 (x8 + 1)) x241000 x241001 x241002))) else (none)) else (spec_FirstWithPoints.l0 k x1 x6 x241000 x241001 x241002)
end
def spec_FirstWithPoints.f (k : Nat) (a0_0 : Int) (a0_1 : Bool) (a0_2 : Int) (a1 : Int) : Option (ByteArray × Bool) := (spec_frGood.f a0_0 a0_1 a0_2).bind fun t241 => (if t241 = true then ((spec_l1In.f a1 0 147).bind fun t242 => (if t242 = true then ((spec_frWays.f k a0_0 a0_1 a0_2 a1).bind fun t243 => (if 0 ≤ a1 then (if a1 < (t243.length : Int) then (spec_FirstWithPoints.j0 k a1 ((rd t243 a1) == 0) a0_0 a0_1 a0_2) else (none)) else (none))) else (spec_FirstWithPoints.j0 k a1 true a0_0 a0_1 a0_2))) else (spec_FirstWithPoints.j0 k a1 true a0_0 a0_1 a0_2))
def spec_FirstWithPoints.T10 : Bool × List (List Nat × List Nat) := (true, [([], []), ([], []), ([], []), ([1, 2], [1, 2]), ([0, 3], [0, 3]), ([4], [4]), ([5], [5]), ([5], [5]), ([], []), ([8, 6, 4, 0, 1, 2, 3, 4, 5, 6, 8], [6, 8]), ([7, 9, 0, 1, 2, 3, 4, 5, 6, 7, 8, 9], [7])])
def spec_FirstWithPoints.B10 : List Nat := [0, 0, 0, 6, 15, 31, 63, 63, 0, 383, 1023]
theorem spec_FirstWithPoints.tab10 : rtab .any (opsOf Tryd.f7 10) = spec_FirstWithPoints.T10 := by kernel_rfl
theorem spec_FirstWithPoints.bits10 : waitsOk spec_FirstWithPoints.T10.2 spec_FirstWithPoints.B10 = true := by kernel_rfl
set_option maxHeartbeats 8000000 in
set_option maxRecDepth 100000 in
theorem spec_FirstWithPoints.calls (k : Nat) (a0_0 : Int) (a0_1 : Bool) (a0_2 : Int) (a1 : Int) (r1 : ByteArray) (r2 : Bool) (w : World) (h : spec_FirstWithPoints.f k a0_0 a0_1 a0_2 a1 = some (r1, r2)) :
  Calls Tryd.prog 7 #[.agg #[.int .i64 a0_0, .bool a0_1, .int .i64 a0_2], .int .i64 a1] w fun e w' => e = .returned (.tuple #[.string r1, .bool r2]) ∧ Below w.heap.size w w' := by
 have hu25 := Tryd.underlying25
 have HB := Aside0.mk (Below.refl w.heap.size w)
 have H : ((spec_frGood.f a0_0 a0_1 a0_2).bind fun t241 => (if t241 = true then ((spec_l1In.f a1 0 147).bind fun t242 => (if t242 = true then ((spec_frWays.f k a0_0 a0_1 a0_2 a1).bind fun t243 => (if 0 ≤ a1 then (if a1 < (t243.length : Int) then (spec_FirstWithPoints.j0 k a1 ((rd t243 a1) == 0) a0_0 a0_1 a0_2) else (none)) else (none))) else (spec_FirstWithPoints.j0 k a1 true a0_0 a0_1 a0_2))) else (spec_FirstWithPoints.j0 k a1 true a0_0 a0_1 a0_2))) = some (r1, r2) := h
 clear h
 have HC3 := Aside0.mk H
 clear H
 go_enter Tryd.func7, Tryd.ntmps7
 go_upto_region 1 with (first | ((with_reducible refine gate_dst (N := 2) rfl ?_); refine bxU (cs := #[.int .i64 a0_0, .bool a0_1, .int .i64 a0_2]) (t := 25) ?_; intro gb240 hg w4 hbox hb; have n0_ := bsU hb; have n1_ := Aside0.mk (hbox); have n2_ := geU hg; have n3_ := geU hg; clear HB; have HB := n0_; have BK240 := n1_; have GW240 := n2_; have GE240 := n3_; clear n0_ n1_ n2_ n3_; clear hb hbox hg))
 (try simp only [Act.put, List.setIfInBounds_toArray, List.set_cons_zero, List.set_cons_succ])
 go_cut [28] (fun v28 wc => ∃ (kq : Nat) (x28_2 : Bool), v28 = .bool x28_2 ∧ Aside0 (spec_FirstWithPoints.j0 kq a1 x28_2 a0_0 a0_1 a0_2 = some (r1, r2)) ∧ Aside0 (kq ≤ k) ∧ Aside0 (wc.heap[gb240]? = some (.cells #[.int .i64 a0_0, .bool a0_1, .int .i64 a0_2] 25 (0, 0))) ∧ Aside0 (Below w.heap.size w wc))
 case first =>
  have H := HC3.out
  clear HC3
  replace H := Option.bind_eq_some_iff.mp H
  obtain ⟨t241, A50, H⟩ := H
  (try dsimp only at H)
  have A5 := Aside0.mk A50
  clear A50
  by_cases c6 : t241 = true
  ·subst c6
   rw [if_pos rfl] at H
   replace H := Option.bind_eq_some_iff.mp H
   obtain ⟨t242, A70, H⟩ := H
   (try dsimp only at H)
   have A7 := Aside0.mk A70
   clear A70
   by_cases c8 : t242 = true
   ·subst c8
    rw [if_pos rfl] at H
    replace H := Option.bind_eq_some_iff.mp H
    obtain ⟨t243, A90, H⟩ := H
    (try dsimp only at H)
    have A9 := Aside0.mk A90
    clear A90
    by_cases c10 : 0 ≤ a1
    ·rw [if_pos c10] at H
     have c10b0 : decide (0 ≤ a1) = true := decide_eq_true c10
     clear c10
     (first | rw [c10b0] | (simp only [i64_w, i32_w]; rw [c10b0]) | skip)
     by_cases c11 : a1 < (t243.length : Int)
     ·rw [if_pos c11] at H
      have c11b0 : decide (a1 < (t243.length : Int)) = true := decide_eq_true c11
      clear c11
      have H' := Aside0.mk H
      clear H
      obtain ⟨hcz12_0, hcz12_1, hcz12_2, hfz12_0, hfz12_1, hfz12_2⟩ := b3U BK240
      go_wp2_with (first | ((with_reducible refine gate_callee (f := 35) rfl ?_); refine goU (some 13) Tryd.func35 #[.agg #[.int .i64 a0_0, .bool a0_1, .int .i64 a0_2]] ?_; (with_reducible refine (spec_frGood.calls a0_0 a0_1 a0_2 true _ A5.out).mono ?_); rintro e w13 ⟨rfl, hb⟩; refine ⟨_, rfl, ?_⟩; have n0_ := bbU BK240 hb; have n1_ := bsU hb; clear BK240; clear HB; have BK240 := n0_; have HB := n1_; clear n0_ n1_; (try clear hb); (try clear hb2); (try clear hk); (try clear hi)) | (go_at_call 36; (with_reducible refine (spec_l1In.calls a1 0 147 true _ A7.out).mono ?_); rintro e w' ⟨rfl, ⟨nd, rfl⟩⟩; obtain ⟨hcz14_0, hcz14_1, hcz14_2, hfz14_0, hfz14_1, hfz14_2⟩ := b3U BK240) | (go_at_call 37; (with_reducible refine (spec_frWays.calls k a0_0 a0_1 a0_2 a1 t243 _ A9.out).mono ?_); rintro e w15 ⟨v244, rfl, ho0, hb⟩; have n0_ := Aside0.mk (Kd.R_lower ho0 (below_size hbU)); have n1_ := bbU BK240 hb; have n2_ := bsU hb; clear BK240; clear HB; have HO245 := n0_; have BK240 := n1_; have HB := n2_; clear n0_ n1_ n2_; (try clear hb); (try clear hb2); (try clear hk); (try clear hi); (try clear ho0); obtain ⟨Ao16, co16, eo16⟩ := Kd.R_slice HO245.out; subst eo16; have p246 : 0 ≤ (a1 : Int) := of_decide_eq_true (by first | (with_reducible assumption) | assumption); have q246 : a1 < (t243.length : Int) := of_decide_eq_true (by first | (with_reducible assumption) | assumption); obtain ⟨ad246, e246, hx246_0⟩ := Kd.at_int (Kd.R_reads' HO245.out).2.2 a1 p246 q246; cases e246; replace p246 := eq_true p246; replace q246 := eq_true q246))
      go_meet
      case rel => exact ⟨_, (((rd t243 a1) == 0)), eqU, H', ⟨by first | omega | exact Nat.le_refl _⟩, ⟨bkU⟩, ⟨hbU⟩⟩
     ·rw [if_neg c11] at H
      exact absurd H (by simp)
    ·rw [if_neg c10] at H
     exact absurd H (by simp)
   ·replace c8 := Bool.eq_false_iff.mpr c8
    subst c8
    rw [if_neg (show ¬ (false = true) by decide)] at H
    have H' := Aside0.mk H
    clear H
    obtain ⟨hcz17_0, hcz17_1, hcz17_2, hfz17_0, hfz17_1, hfz17_2⟩ := b3U BK240
    go_wp2_with (first | ((with_reducible refine gate_callee (f := 35) rfl ?_); refine goU (some 13) Tryd.func35 #[.agg #[.int .i64 a0_0, .bool a0_1, .int .i64 a0_2]] ?_; (with_reducible refine (spec_frGood.calls a0_0 a0_1 a0_2 true _ A5.out).mono ?_); rintro e w18 ⟨rfl, hb⟩; refine ⟨_, rfl, ?_⟩; have n0_ := bbU BK240 hb; have n1_ := bsU hb; clear BK240; clear HB; have BK240 := n0_; have HB := n1_; clear n0_ n1_; (try clear hb); (try clear hb2); (try clear hk); (try clear hi)) | (go_at_call 36; (with_reducible refine (spec_l1In.calls a1 0 147 false _ A7.out).mono ?_); rintro e w' ⟨rfl, ⟨nd, rfl⟩⟩))
    go_meet
    case rel => exact ⟨_, (true), eqU, H', ⟨by first | omega | exact Nat.le_refl _⟩, ⟨bkU⟩, ⟨hbU⟩⟩
  ·replace c6 := Bool.eq_false_iff.mpr c6
   subst c6
   rw [if_neg (show ¬ (false = true) by decide)] at H
   have H' := Aside0.mk H
   clear H
   obtain ⟨hcz19_0, hcz19_1, hcz19_2, hfz19_0, hfz19_1, hfz19_2⟩ := b3U BK240
   go_wp2_with (first | ((with_reducible refine gate_callee (f := 35) rfl ?_); refine goU (some 13) Tryd.func35 #[.agg #[.int .i64 a0_0, .bool a0_1, .int .i64 a0_2]] ?_; (with_reducible refine (spec_frGood.calls a0_0 a0_1 a0_2 false _ A5.out).mono ?_); rintro e w20 ⟨rfl, hb⟩; refine ⟨_, rfl, ?_⟩; have n0_ := bbU BK240 hb; have n1_ := bsU hb; clear BK240; clear HB; have BK240 := n0_; have HB := n1_; clear n0_ n1_; (try clear hb); (try clear hb2); (try clear hk); (try clear hi)))
   go_meet
   case rel => exact ⟨_, (true), eqU, H', ⟨by first | omega | exact Nat.le_refl _⟩, ⟨bkU⟩, ⟨hbU⟩⟩
 case rest =>
  clear HC3
  (try clear c6); (try clear c8); (try clear c10); (try clear c10b0); (try clear c11); (try clear c11b0); (try clear hcz12_0); (try clear hcz12_1); (try clear hcz12_2); (try clear hcz14_0); (try clear hcz14_1); (try clear hcz14_2); (try clear hcz17_0); (try clear hcz17_1); (try clear hcz17_2); (try clear hcz19_0); (try clear hcz19_1); (try clear hcz19_2); (try clear hfz12_0); (try clear hfz12_1); (try clear hfz12_2); (try clear hfz14_0); (try clear hfz14_1); (try clear hfz14_2); (try clear hfz17_0); (try clear hfz17_1); (try clear hfz17_2); (try clear hfz19_0); (try clear hfz19_1); (try clear hfz19_2); (try clear hx246_0); (try clear p246); (try clear q246)
  obtain ⟨kq, x28_2, rfl, HA, HJ2, BK240, HB⟩ := hcut
  cases kq with
  | zero => exact absurd HA.out (by simp [spec_FirstWithPoints.j0])
  | succ kj2 =>
   have H := HA.out
   clear HA
   simp only [spec_FirstWithPoints.j0] at H
   by_cases c21 : x28_2 = true
   ·subst c21
    rw [if_pos rfl] at H
    simp only [Option.some.injEq, Prod.mk.injEq] at H
    obtain ⟨rfl, rfl⟩ := H
    go_wp2
    go_ret2
    exact ⟨by first | rfl | (simp [errW_none, errW_some] <;> rfl) | (simp [*, errW_none, errW_some] <;> rfl), hbU⟩
   ·replace c21 := Bool.eq_false_iff.mpr c21
    subst c21
    rw [if_neg (show ¬ (false = true) by decide)] at H
    have H' := Aside0.mk H
    clear H
    go_wp2
    go_loopg [1, 6] kj2 (fun kq v1 v6 w' => ∃ (x1_2 : Int) (x6_2 : ByteArray) (x241000_2 : Int) (x241001_2 : Bool) (x241002_2 : Int), v1 = .int .i64 x1_2 ∧ v6 = .string x6_2 ∧ Aside0 (spec_FirstWithPoints.l0 kq x1_2 x6_2 x241000_2 x241001_2 x241002_2 = some (r1, r2)) ∧ Aside0 (kq ≤ kj2) ∧ Aside0 (w'.heap[gb240]? = some (.cells #[.int .i64 x241000_2, .bool x241001_2, .int .i64 x241002_2] 25 (0, 0))) ∧ Aside0 (Below w.heap.size w w'))
    case atStart => exact ⟨(a1), ((⟨#[]⟩ : ByteArray)), (a0_0), (a0_1), (a0_2), eqU, eqU, H', ⟨Nat.le_refl _⟩, ⟨bkU⟩, ⟨hbU⟩⟩
    case round =>
     clear H'
     (try clear c6); (try clear c8); (try clear c10); (try clear c10b0); (try clear c11); (try clear c11b0); (try clear c21); (try clear hcz12_0); (try clear hcz12_1); (try clear hcz12_2); (try clear hcz14_0); (try clear hcz14_1); (try clear hcz14_2); (try clear hcz17_0); (try clear hcz17_1); (try clear hcz17_2); (try clear hcz19_0); (try clear hcz19_1); (try clear hcz19_2); (try clear hfz12_0); (try clear hfz12_1); (try clear hfz12_2); (try clear hfz14_0); (try clear hfz14_1); (try clear hfz14_2); (try clear hfz17_0); (try clear hfz17_1); (try clear hfz17_2); (try clear hfz19_0); (try clear hfz19_1); (try clear hfz19_2); (try clear hx246_0); (try clear p246); (try clear q246)
     obtain ⟨x1_2, x6_2, x241000_2, x241001_2, x241002_2, rfl, rfl, HA, HK2, BK240, HB⟩ := hrel
     cases gk with
     | zero => exact absurd HA.out (by simp [spec_FirstWithPoints.l0])
     | succ k2 =>
      have H := HA.out
      clear HA
      simp only [spec_FirstWithPoints.l0] at H
      by_cases c22 : x1_2 > 0
      ·rw [if_pos c22] at H
       have c22b0 : decide (0 < x1_2) = true := decide_eq_true c22
       clear c22
       replace H := Option.bind_eq_some_iff.mp H
       obtain ⟨t247, A230, H⟩ := H
       (try dsimp only at H)
       have A23 := Aside0.mk A230
       clear A230
       have H' := Aside0.mk H
       clear H
       obtain ⟨hcz24_0, hcz24_1, hcz24_2, hfz24_0, hfz24_1, hfz24_2⟩ := b3U BK240
       go_wp2_with (first | ((with_reducible refine gate_callee (f := 38) rfl ?_); refine goU (some 32) Tryd.func38 #[.agg #[.int .i64 x241000_2, .bool x241001_2, .int .i64 x241002_2]] ?_; (with_reducible refine (spec_frNext.calls k2 x241000_2 x241001_2 x241002_2 t247 _ A23.out).mono ?_); rintro e w25 ⟨rfl, hb⟩; refine ⟨_, rfl, ?_⟩; have n0_ := bbU BK240 hb; have n1_ := bsU hb; clear BK240; clear HB; have BK240 := n0_; have HB := n1_; clear n0_ n1_; (try clear hb); (try clear hb2); (try clear hk); (try clear hi)))
       go_loopg [1, 6, 8] k2 (fun kq v1 v6 v8 w' => ∃ (x1_3 : Int) (x6_3 : ByteArray) (x8_3 : Int) (x241000_3 : Int) (x241001_3 : Bool) (x241002_3 : Int), v1 = .int .i64 x1_3 ∧ v6 = .string x6_3 ∧ v8 = .int .i64 x8_3 ∧ Aside0 (spec_FirstWithPoints.l1 kq x1_3 x6_3 t247 x8_3 x241000_3 x241001_3 x241002_3 = some (r1, r2)) ∧ Aside0 (kq ≤ k2) ∧ Aside0 (w'.heap[gb240]? = some (.cells #[.int .i64 x241000_3, .bool x241001_3, .int .i64 x241002_3] 25 (0, 0))) ∧ Aside0 (Below w.heap.size w w'))
       case atStart => exact ⟨(x1_2), (x6_2), (0), (x241000_2), (x241001_2), (x241002_2), eqU, eqU, eqU, H', ⟨Nat.le_refl _⟩, ⟨bkU⟩, ⟨hbU⟩⟩
       case round =>
        clear H'
        (try clear c6); (try clear c8); (try clear c10); (try clear c10b0); (try clear c11); (try clear c11b0); (try clear c21); (try clear c22); (try clear c22b0); (try clear hcz12_0); (try clear hcz12_1); (try clear hcz12_2); (try clear hcz14_0); (try clear hcz14_1); (try clear hcz14_2); (try clear hcz17_0); (try clear hcz17_1); (try clear hcz17_2); (try clear hcz19_0); (try clear hcz19_1); (try clear hcz19_2); (try clear hcz24_0); (try clear hcz24_1); (try clear hcz24_2); (try clear hfz12_0); (try clear hfz12_1); (try clear hfz12_2); (try clear hfz14_0); (try clear hfz14_1); (try clear hfz14_2); (try clear hfz17_0); (try clear hfz17_1); (try clear hfz17_2); (try clear hfz19_0); (try clear hfz19_1); (try clear hfz19_2); (try clear hfz24_0); (try clear hfz24_1); (try clear hfz24_2); (try clear hx246_0); (try clear p246); (try clear q246)
        obtain ⟨x1_3, x6_3, x8_3, x241000_3, x241001_3, x241002_3, rfl, rfl, rfl, HA, HK3, BK240, HB⟩ := hrel
        cases gk with
        | zero => exact absurd HA.out (by simp [spec_FirstWithPoints.l1])
        | succ k3 =>
         have H := HA.out
         clear HA
         simp only [spec_FirstWithPoints.l1] at H
         by_cases c26 : x8_3 < (t247.size : Int)
         ·rw [if_pos c26] at H
          have c26b0 : decide (x8_3 < (t247.size : Int)) = true := decide_eq_true c26
          clear c26
          by_cases c27 : 0 ≤ x8_3
          ·rw [if_pos c27] at H
           have c27b0 : decide (0 ≤ x8_3) = true := decide_eq_true c27
           clear c27
           replace H := Option.bind_eq_some_iff.mp H
           obtain ⟨⟨t248, t249, t250, t251⟩, A300, H⟩ := H
           (try dsimp only at H)
           have A30 := Aside0.mk A300
           clear A300
           by_cases c31 : (wrap64 (x1_3 - (((bt t247 x8_3) - 48) % 256))) ≥ 0
           ·rw [if_pos c31] at H
            have c31b0 : decide (0 ≤ (wrap64 (x1_3 - (((bt t247 x8_3) - 48) % 256)))) = true := decide_eq_true c31
            clear c31
            replace H := Option.bind_eq_some_iff.mp H
            obtain ⟨t253, A320, H⟩ := H
            (try dsimp only at H)
            have A32 := Aside0.mk A320
            clear A320
            obtain ⟨ji33, hji33⟩ : ∃ j_ : Int, (wrap64 (x1_3 - (((bt t247 x8_3) - 48) % 256))) = j_ := ⟨_, rfl⟩
            replace H : (if 0 ≤ (ji33) then (if (ji33) < (t253.length : Int) then (if (rd t253 (ji33)) > 0 then (if x8_3 ≤ (wrap64 (x8_3 + 1)) then (if (wrap64 (x8_3 + 1)) ≤ (t247.size : Int) then (if x6_3.size + (t247.extract (x8_3 : Int).toNat ((wrap64 (x8_3 + 1)) : Int).toNat).size ≤ 9223372036854775807 then (spec_FirstWithPoints.l0 k3 ji33 (x6_3 ++ (t247.extract (x8_3 : Int).toNat ((wrap64 (x8_3 + 1)) : Int).toNat)) t248 t249 t250) else (none)) else (none)) else (none)) else (spec_FirstWithPoints.l1 k3 x1_3 x6_3 t247 (wrap64 (x8_3 + 1)) x241000_3 x241001_3 x241002_3)) else (none)) else (none)) = some (r1, r2) := by first | (rw [hji33] at H; exact H) | (simp only [hji33] at H ⊢; exact H)
            (try rw [hji33] at c31b0)
            (try rw [hji33] at A30)
            (try rw [hji33] at A32)
            have hji33w : (IntKind.i64.wrap (x1_3 - (((bt t247 x8_3) - 48) % 256))) = ji33 := (i64_w _).trans hji33
            by_cases c34 : 0 ≤ (ji33)
            ·rw [if_pos c34] at H
             have c34b0 : decide (0 ≤ (ji33)) = true := decide_eq_true c34
             clear c34
             by_cases c35 : (ji33) < (t253.length : Int)
             ·rw [if_pos c35] at H
              have c35b0 : decide ((ji33) < (t253.length : Int)) = true := decide_eq_true c35
              clear c35
              by_cases c36 : (rd t253 (ji33)) > 0
              ·rw [if_pos c36] at H
               have c36b0 : decide (0 < (rd t253 (ji33))) = true := decide_eq_true c36
               clear c36
               have c37b0 := eq_true (of_decide_eq_true (by first | (with_reducible assumption) | assumption) : 0 ≤ x8_3)
               by_cases c38 : x8_3 ≤ (wrap64 (x8_3 + 1))
               ·rw [if_pos c38] at H
                have c38b0 := eq_true c38
                have c38b1 : decide (x8_3 ≤ (wrap64 (x8_3 + 1))) = true := decide_eq_true c38
                by_cases c39 : (wrap64 (x8_3 + 1)) ≤ (t247.size : Int)
                ·rw [if_pos c39] at H
                 have c39b0 := eq_true c39
                 have c39b1 : decide ((wrap64 (x8_3 + 1)) ≤ (t247.size : Int)) = true := decide_eq_true c39
                 by_cases c40 : x6_3.size + (t247.extract (x8_3 : Int).toNat ((wrap64 (x8_3 + 1)) : Int).toNat).size ≤ 9223372036854775807
                 ·rw [if_pos c40] at H
                  have c40b0 := eq_true c40
                  have c40b1 : decide (x6_3.size + (t247.extract (x8_3 : Int).toNat ((wrap64 (x8_3 + 1)) : Int).toNat).size ≤ 9223372036854775807) = true := decide_eq_true c40
                  try have c40b2 : (9223372036854775807 < x6_3.size + (t247.extract (x8_3 : Int).toNat ((wrap64 (x8_3 + 1)) : Int).toNat).size) = False := eq_false (Nat.not_lt.2 c40)
                  have H' := Aside0.mk H
                  clear H
                  have p28 : 0 ≤ (x8_3 : Int) := of_decide_eq_true (by first | (with_reducible assumption) | assumption)
                  have q28 : x8_3 < (t247.size : Int) := of_decide_eq_true (by first | (with_reducible assumption) | assumption)
                  have hx28 := bt_at t247 x8_3
                  replace p28 := eq_true p28
                  replace q28 := eq_true q28
                  try go_wp2
                  have n0_ := Aside0.mk (blk_drew BK240.out)
                  have n1_ := Aside0.mk (below_drew1 HB.out)
                  clear BK240
                  clear HB
                  have BK240 := n0_
                  have HB := n1_
                  clear n0_ n1_
                  have p29 : 0 ≤ (x8_3 : Int) := of_decide_eq_true (by first | (with_reducible assumption) | assumption)
                  have q29 : x8_3 < (t247.size : Int) := of_decide_eq_true (by first | (with_reducible assumption) | assumption)
                  have hx29 := bt_at t247 x8_3
                  replace p29 := eq_true p29
                  replace q29 := eq_true q29
                  refine start_ (n := 11) (S := fun w' => w'.cell? ⟨gb240, 0, none⟩ = some (.int .i64 x241000_3) ∧ w'.cell? ⟨gb240, 1, none⟩ = some (.bool x241001_3) ∧ w'.cell? ⟨gb240, 2, none⟩ = some (.int .i64 x241002_3)) (ds := []) #[false, false, false, false, false, false, false, false, false, false, false] (by kernel_rfl) rfl rfl (c3U BK240) (fun hHeld => ?_); refine with_tabW spec_FirstWithPoints.tab10 spec_FirstWithPoints.bits10 (fun HT_ HW_ => ?_)
                  generalize wr.drew = w41 at BK240 HB hHeld ⊢
                  refine pure_ (i := 1) (N := some 48) (v := ?_) (a' := ?_) #[false, true, false, false, false, false, false, false, false, false, false] rfl rfl (any_of HT_.out (by kernel_rfl)) (fun _ _ _ h => h) (Or.inl ⟨by rfl, ?_⟩) ?_ ?_
                  rotate_left
                  ·intro w'
                   go_simp
                   with_reducible rfl
                  rotate_left
                  ·simp only [Act.put, List.setIfInBounds_toArray, List.set_cons_zero, List.set_cons_succ, i64_w, i32_w]
                   rfl
                  refine pure_ (i := 2) (N := some 49) (v := ?_) (a' := ?_) #[false, true, true, false, false, false, false, false, false, false, false] rfl rfl (any_of HT_.out (by kernel_rfl)) (fun _ _ _ h => h) (Or.inl ⟨by rfl, ?_⟩) ?_ ?_
                  rotate_left
                  ·intro w'
                   go_simp
                   with_reducible rfl
                  rotate_left
                  ·simp only [Act.put, List.setIfInBounds_toArray, List.set_cons_zero, List.set_cons_succ, i64_w, i32_w]
                   rfl
                  refine take_ (i := 0) (N := some 47) (v := ?_) (a' := ?_) #[true, true, true, false, false, false, false, false, false, false, false] rfl rfl (take_ofW HT_.out HW_.out (by kernel_rfl)) (fun _ _ _ h => h) (Or.inl ⟨by rfl, ?_⟩) hHeld ?_ ?_
                  rotate_left
                  ·rintro w' ⟨s0, s1, s2⟩
                   go_simp
                   with_reducible rfl
                  rotate_left
                  ·simp only [Act.put, List.setIfInBounds_toArray, List.set_cons_zero, List.set_cons_succ, i64_w, i32_w]
                   rfl
                  refine take_ (i := 3) (N := some 50) (v := ?_) (a' := ?_) #[true, true, true, true, false, false, false, false, false, false, false] rfl rfl (take_ofW HT_.out HW_.out (by kernel_rfl)) (fun _ _ _ h => h) (Or.inl ⟨by rfl, ?_⟩) hHeld ?_ ?_
                  rotate_left
                  ·rintro w' ⟨s0, s1, s2⟩
                   go_simp
                   with_reducible rfl
                  rotate_left
                  ·simp only [Act.put, List.setIfInBounds_toArray, List.set_cons_zero, List.set_cons_succ, i64_w, i32_w]
                   rfl
                  refine join_ (σ := Nat) 2 #[true, true, true, true, true, true, true, true, true, false, false] (fun s_ => [(51, .tuple #[.agg #[.int .i64 t248, .bool t249, .int .i64 t250], .bool t251]), (10, .pointer (some ⟨s_, 0, none⟩)), (46, .tuple #[.agg #[.int .i64 t248, .bool t249, .int .i64 t250], .bool t251]), (52, .agg #[.int .i64 t248, .bool t249, .int .i64 t250]), (53, .bool t251)]) (fun s_ w' => (w'.cell? ⟨gb240, 0, none⟩ = some (.int .i64 x241000_3) ∧ w'.cell? ⟨gb240, 1, none⟩ = some (.bool x241001_3) ∧ w'.cell? ⟨gb240, 2, none⟩ = some (.int .i64 x241002_3)) ∧ (w'.heap[gb240]? = some (.cells #[.int .i64 x241000_3, .bool x241001_3, .int .i64 x241002_3] 25 (0, 0))) ∧ (w'.heap[s_]? = some (.cells #[.int .i64 0, .bool false, .int .i64 0] 25 (0, 0))) ∧ (w.heap.size ≤ s_) ∧ (w.heap.size ≤ s_) ∧ (gb240 ≠ s_) ∧ (s_ ≠ gb240) ∧ (Below w.heap.size w w')) ?_ ?_
                  rotate_left
                  ·intro hCont
                   refine two_ (i := 4) (j := 8) (Ni := some 51) (Nj := some 10) #[true, true, true, true, true, false, false, false, false, false, false] #[true, true, true, true, false, false, false, false, true, false, false] rfl rfl rfl rfl (two_of HT_.out (by kernel_rfl)) (by decide) (by decide) (fun K hK => ?_) (fun K hK => ?_)
                   ·skip
                    refine goes_ Tryd.func39 (by kernel_rfl) rfl #[.agg #[.int .i64 x241000_3, .bool x241001_3, .int .i64 x241002_3], .int .u8 (bt t247 x8_3)] (by rfl) rfl rfl arU ?_
                    with_reducible refine (spec_frPot.calls k3 x241000_3 x241001_3 x241002_3 (bt t247 x8_3) t248 t249 t250 t251 _ A30.out).mono ?_
                    rintro e w42 ⟨rfl, hb⟩
                    refine ⟨_, rfl, ?_⟩
                    have n0_ := bbU BK240 hb
                    have n1_ := bsU hb
                    clear BK240
                    clear HB
                    have BK240 := n0_
                    have HB := n1_
                    clear n0_ n1_
                    (try clear hb)
                    refine hK.out _ _ (c3U BK240) (fun hHeld => ?_)
                    clear hK K
                    refine norm_ (a' := ?_) ?_ ?_
                    rotate_left
                    ·show Act.put _ (some 51) _ = _
                     simp only [Act.put, List.setIfInBounds_toArray, List.set_cons_zero, List.set_cons_succ, i64_w, i32_w]
                     rfl
                    refine pure_ (i := 5) (N := some 46) (v := ?_) (a' := ?_) #[true, true, true, true, true, true, false, false, false, false, false] rfl rfl (any_of HT_.out (by kernel_rfl)) (fun _ _ _ h => h) (Or.inl ⟨by rfl, ?_⟩) ?_ ?_
                    rotate_left
                    ·intro w'
                     go_simp
                     with_reducible rfl
                    rotate_left
                    ·simp only [Act.put, List.setIfInBounds_toArray, List.set_cons_zero, List.set_cons_succ, i64_w, i32_w]
                     rfl
                    refine pure_ (i := 6) (N := some 52) (v := ?_) (a' := ?_) #[true, true, true, true, true, true, true, false, false, false, false] rfl rfl (any_of HT_.out (by kernel_rfl)) (fun _ _ _ h => h) (Or.inl ⟨by rfl, ?_⟩) ?_ ?_
                    rotate_left
                    ·intro w'
                     go_simp
                     with_reducible rfl
                    rotate_left
                    ·simp only [Act.put, List.setIfInBounds_toArray, List.set_cons_zero, List.set_cons_succ, i64_w, i32_w]
                     rfl
                    refine pure_ (i := 7) (N := some 53) (v := ?_) (a' := ?_) #[true, true, true, true, true, true, true, true, false, false, false] rfl rfl (any_of HT_.out (by kernel_rfl)) (fun _ _ _ h => h) (Or.inl ⟨by rfl, ?_⟩) ?_ ?_
                    rotate_left
                    ·intro w'
                     go_simp
                     with_reducible rfl
                    rotate_left
                    ·simp only [Act.put, List.setIfInBounds_toArray, List.set_cons_zero, List.set_cons_succ, i64_w, i32_w]
                     rfl
                    refine one_ (i := 8) (N := some 10) #[true, true, true, true, true, true, true, true, true, false, false] rfl rfl (one_of HT_.out (by kernel_rfl)) (by decide) (fun K hK => ?_)
                    refine box_step ?hg (N := 10) ?hd (cs := #[.int .i64 0, .bool false, .int .i64 0]) (t := 25) ?hr ?_; (case hd => rfl); (case hg => rfl); (case hr => first | (go_simp; done) | (go_simp; rfl))
                    intro gb252 hg w43 hbox hb
                    have n0_ := bbU BK240 hb
                    have n1_ := bsU hb
                    have n2_ := Aside0.mk (hbox)
                    have n3_ := geU hg
                    have n4_ := geU hg
                    have n5_ := neU BK240 hg
                    have n6_ := enU BK240 hg
                    clear BK240
                    clear HB
                    have BK240 := n0_
                    have HB := n1_
                    have BK252 := n2_
                    have GW252 := n3_
                    have GE252 := n4_
                    have NB240_252 := n5_
                    have NB252_240 := n6_
                    clear n0_ n1_ n2_ n3_ n4_ n5_ n6_
                    clear hb hbox hg
                    refine hK.out _ _ (c3U BK240) (fun hHeld => ?_)
                    clear hK K
                    refine norm_ (a' := ?_) ?_ ?_
                    rotate_left
                    ·show Act.put _ (some 10) _ = _
                     simp only [Act.put, List.setIfInBounds_toArray, List.set_cons_zero, List.set_cons_succ, i64_w, i32_w]
                     rfl
                    exact norm_ (by simp only [putAll, Act.put, List.setIfInBounds_toArray, List.set_cons_zero, List.set_cons_succ]) (hCont (gb252) _ ⟨hHeld, bkU, bkU, GW252.out, GE252.out, NB240_252.out, NB252_240.out, hbU⟩)
                   ·skip
                    refine box_step ?hg (N := 10) ?hd (cs := #[.int .i64 0, .bool false, .int .i64 0]) (t := 25) ?hr ?_; (case hd => rfl); (case hg => rfl); (case hr => first | (go_simp; done) | (go_simp; rfl))
                    intro gb252 hg w42 hbox hb
                    have n0_ := bbU BK240 hb
                    have n1_ := bsU hb
                    have n2_ := Aside0.mk (hbox)
                    have n3_ := geU hg
                    have n4_ := geU hg
                    have n5_ := neU BK240 hg
                    have n6_ := enU BK240 hg
                    clear BK240
                    clear HB
                    have BK240 := n0_
                    have HB := n1_
                    have BK252 := n2_
                    have GW252 := n3_
                    have GE252 := n4_
                    have NB240_252 := n5_
                    have NB252_240 := n6_
                    clear n0_ n1_ n2_ n3_ n4_ n5_ n6_
                    clear hb hbox hg
                    refine hK.out _ _ (c3U BK240) (fun hHeld => ?_)
                    clear hK K
                    refine norm_ (a' := ?_) ?_ ?_
                    rotate_left
                    ·show Act.put _ (some 10) _ = _
                     simp only [Act.put, List.setIfInBounds_toArray, List.set_cons_zero, List.set_cons_succ, i64_w, i32_w]
                     rfl
                    refine one_ (i := 4) (N := some 51) #[true, true, true, true, true, false, false, false, true, false, false] rfl rfl (one_of HT_.out (by kernel_rfl)) (by decide) (fun K hK => ?_)
                    refine goes_ Tryd.func39 (by kernel_rfl) rfl #[.agg #[.int .i64 x241000_3, .bool x241001_3, .int .i64 x241002_3], .int .u8 (bt t247 x8_3)] (by rfl) rfl rfl arU ?_
                    with_reducible refine (spec_frPot.calls k3 x241000_3 x241001_3 x241002_3 (bt t247 x8_3) t248 t249 t250 t251 _ A30.out).mono ?_
                    rintro e w43 ⟨rfl, hb⟩
                    refine ⟨_, rfl, ?_⟩
                    have n0_ := bbU BK240 hb
                    have n1_ := bbU BK252 hb
                    have n2_ := bsU hb
                    clear BK240
                    clear BK252
                    clear HB
                    have BK240 := n0_
                    have BK252 := n1_
                    have HB := n2_
                    clear n0_ n1_ n2_
                    (try clear hb)
                    refine hK.out _ _ (c3U BK240) (fun hHeld => ?_)
                    clear hK K
                    refine norm_ (a' := ?_) ?_ ?_
                    rotate_left
                    ·show Act.put _ (some 51) _ = _
                     simp only [Act.put, List.setIfInBounds_toArray, List.set_cons_zero, List.set_cons_succ, i64_w, i32_w]
                     rfl
                    refine pure_ (i := 5) (N := some 46) (v := ?_) (a' := ?_) #[true, true, true, true, true, true, false, false, true, false, false] rfl rfl (any_of HT_.out (by kernel_rfl)) (fun _ _ _ h => h) (Or.inl ⟨by rfl, ?_⟩) ?_ ?_
                    rotate_left
                    ·intro w'
                     go_simp
                     with_reducible rfl
                    rotate_left
                    ·simp only [Act.put, List.setIfInBounds_toArray, List.set_cons_zero, List.set_cons_succ, i64_w, i32_w]
                     rfl
                    refine pure_ (i := 6) (N := some 52) (v := ?_) (a' := ?_) #[true, true, true, true, true, true, true, false, true, false, false] rfl rfl (any_of HT_.out (by kernel_rfl)) (fun _ _ _ h => h) (Or.inl ⟨by rfl, ?_⟩) ?_ ?_
                    rotate_left
                    ·intro w'
                     go_simp
                     with_reducible rfl
                    rotate_left
                    ·simp only [Act.put, List.setIfInBounds_toArray, List.set_cons_zero, List.set_cons_succ, i64_w, i32_w]
                     rfl
                    refine pure_ (i := 7) (N := some 53) (v := ?_) (a' := ?_) #[true, true, true, true, true, true, true, true, true, false, false] rfl rfl (any_of HT_.out (by kernel_rfl)) (fun _ _ _ h => h) (Or.inl ⟨by rfl, ?_⟩) ?_ ?_
                    rotate_left
                    ·intro w'
                     go_simp
                     with_reducible rfl
                    rotate_left
                    ·simp only [Act.put, List.setIfInBounds_toArray, List.set_cons_zero, List.set_cons_succ, i64_w, i32_w]
                     rfl
                    exact norm_ (by simp only [putAll, Act.put, List.setIfInBounds_toArray, List.set_cons_zero, List.set_cons_succ]) (hCont (gb252) _ ⟨hHeld, bkU, bkU, GW252.out, GE252.out, NB240_252.out, NB252_240.out, hbU⟩)
                  rintro gb252 w44 ⟨hS_, h0_, h1_, h2_, h3_, h4_, h5_, h6_⟩
                  have n0_ : Aside0 (w44.heap[gb240]? = some (.cells #[.int .i64 x241000_3, .bool x241001_3, .int .i64 x241002_3] 25 (0, 0))) := ⟨h0_⟩
                  have n1_ : Aside0 (w44.heap[gb252]? = some (.cells #[.int .i64 0, .bool false, .int .i64 0] 25 (0, 0))) := ⟨h1_⟩
                  have n2_ : Aside0 (w.heap.size ≤ gb252) := ⟨h2_⟩
                  have n3_ : Aside0 (w.heap.size ≤ gb252) := ⟨h3_⟩
                  have n4_ : Aside0 (gb240 ≠ gb252) := ⟨h4_⟩
                  have n5_ : Aside0 (gb252 ≠ gb240) := ⟨h5_⟩
                  have n6_ : Aside0 (Below w.heap.size w w44) := ⟨h6_⟩
                  clear BK240
                  clear HB
                  clear h0_ h1_ h2_ h3_ h4_ h5_ h6_
                  have BK240 := n0_
                  have BK252 := n1_
                  have GW252 := n2_
                  have GE252 := n3_
                  have NB240_252 := n4_
                  have NB252_240 := n5_
                  have HB := n6_
                  clear n0_ n1_ n2_ n3_ n4_ n5_ n6_
                  have hHeld : w44.cell? ⟨gb240, 0, none⟩ = some (.int .i64 x241000_3) ∧ w44.cell? ⟨gb240, 1, none⟩ = some (.bool x241001_3) ∧ w44.cell? ⟨gb240, 2, none⟩ = some (.int .i64 x241002_3) := hS_
                  refine norm_ (a' := ?_) ?_ ?_
                  rotate_left
                  ·simp only [putAll, Act.put, List.setIfInBounds_toArray, List.set_cons_zero, List.set_cons_succ]
                   rfl
                  refine one_ (i := 9) (N := none) #[true, true, true, true, true, true, true, true, true, true, false] rfl rfl (one_of HT_.out (by kernel_rfl)) (by decide) (fun K hK => ?_)
                  have hs45 : w44.cell? ⟨gb252, 0, none⟩ = some (.int .i64 0) := (blk_cell BK252.out 0).trans rfl
                  have hfs45 := blk_frozen BK252.out 0
                  have hns45_0 := NB240_252.out
                  have hms45_0 := NB252_240.out
                  have hs46 : w44.cell? ⟨gb252, 1, none⟩ = some (.bool false) := (blk_cell BK252.out 1).trans rfl
                  have hfs46 := blk_frozen BK252.out 1
                  have hns46_0 := NB240_252.out
                  have hms46_0 := NB252_240.out
                  have hs47 : w44.cell? ⟨gb252, 2, none⟩ = some (.int .i64 0) := (blk_cell BK252.out 2).trans rfl
                  have hfs47 := blk_frozen BK252.out 2
                  have hns47_0 := NB240_252.out
                  have hms47_0 := NB252_240.out
                  refine skip_ (w1 := ?_) (by rfl) rfl ?_ ?_
                  rotate_left
                  ·go_simp
                   rfl
                  refine hK.out _ _ ⟨((cell_far (p := ⟨gb252, _, none⟩) NB240_252.out _).trans (((cell_far (p := ⟨gb252, _, none⟩) NB240_252.out _).trans (((cell_far (p := ⟨gb252, _, none⟩) NB240_252.out _).trans (hHeld.1)))))), ((cell_far (p := ⟨gb252, _, none⟩) NB240_252.out _).trans (((cell_far (p := ⟨gb252, _, none⟩) NB240_252.out _).trans (((cell_far (p := ⟨gb252, _, none⟩) NB240_252.out _).trans (hHeld.2.1)))))), ((cell_far (p := ⟨gb252, _, none⟩) NB240_252.out _).trans (((cell_far (p := ⟨gb252, _, none⟩) NB240_252.out _).trans (((cell_far (p := ⟨gb252, _, none⟩) NB240_252.out _).trans (hHeld.2.2))))))⟩ (fun hHeld => ?_)
                  clear hK K
                  refine pure_ (i := 10) (N := some 11) (v := ?_) (a' := ?_) #[true, true, true, true, true, true, true, true, true, true, true] rfl rfl (any_of HT_.out (by kernel_rfl)) (fun _ _ _ h => h) (Or.inl ⟨by rfl, ?_⟩) ?_ ?_
                  rotate_left
                  ·intro w'
                   go_simp
                   with_reducible rfl
                  rotate_left
                  ·simp only [Act.put, List.setIfInBounds_toArray, List.set_cons_zero, List.set_cons_succ, i64_w, i32_w]
                   rfl
                  refine done_ (done_of HT_.out (by kernel_rfl)) ?_
                  have hnb48 := NB252_240.out
                  have hnc48 := NB240_252.out
                  obtain ⟨hcz49_0, hcz49_1, hcz49_2, hfz49_0, hfz49_1, hfz49_2⟩ := b3U BK252
                  try go_wp2_with (first | (go_at_call 37; (with_reducible refine (spec_frWays.calls k3 t248 t249 t250 ji33 t253 _ A32.out).mono ?_); rintro e w50 ⟨v254, rfl, ho0, hb⟩; have n0_ := Aside0.mk (Kd.R_lower ho0 (below_size hbU)); have n1_ := bbU BK240 hb; have n2_ := Aside0.mk (blk_below (g := gb252) (o := .cells #[.int .i64 t248, .bool t249, .int .i64 t250] 25 (0, 0)) bkU hb); have n3_ := bsU hb; clear BK240; clear BK252; clear HB; have HO255 := n0_; have BK240 := n1_; have BK252 := n2_; have HB := n3_; clear n0_ n1_ n2_ n3_; (try clear hb); (try clear hb2); (try clear hk); (try clear hi); (try clear ho0); obtain ⟨Ao51, co51, eo51⟩ := Kd.R_slice HO255.out; subst eo51; have p256 : 0 ≤ ((ji33) : Int) := of_decide_eq_true (by first | (with_reducible assumption) | assumption); have q256 : (ji33) < (t253.length : Int) := of_decide_eq_true (by first | (with_reducible assumption) | assumption); obtain ⟨ad256, e256, hx256_0⟩ := Kd.at_int (Kd.R_reads' HO255.out).2.2 (ji33) p256 q256; cases e256; replace p256 := eq_true p256; replace q256 := eq_true q256; obtain ⟨hcz52_0, hcz52_1, hcz52_2, hfz52_0, hfz52_1, hfz52_2⟩ := b3U BK252; obtain ⟨hcz53_0, hcz53_1, hcz53_2, hfz53_0, hfz53_1, hfz53_2⟩ := b3U BK240))
                  go_roundg k3
                  case measure => have := HJ2.out; have := HK2.out; have := HK3.out; omega
                  case rel => exact ⟨(ji33), (x6_3 ++ (t247.extract (x8_3 : Int).toNat ((wrap64 (x8_3 + 1)) : Int).toNat)), (t248), (t249), (t250), (by first | rfl | (simp; done) | (simp only [← hji33] <;> (first | rfl | simp)) | (simp [*]; done)), eqU, H', ⟨by have := HJ2.out; have := HK2.out; have := HK3.out; omega⟩, ⟨bkU⟩, ⟨hbU⟩⟩
                 ·rw [if_neg c40] at H
                  exact absurd H (by simp)
                ·rw [if_neg c39] at H
                 exact absurd H (by simp)
               ·rw [if_neg c38] at H
                exact absurd H (by simp)
              ·rw [if_neg c36] at H
               have c36b0 : decide (0 < (rd t253 (ji33))) = false := decide_eq_false c36
               clear c36
               have H' := Aside0.mk H
               clear H
               have p28 : 0 ≤ (x8_3 : Int) := of_decide_eq_true (by first | (with_reducible assumption) | assumption)
               have q28 : x8_3 < (t247.size : Int) := of_decide_eq_true (by first | (with_reducible assumption) | assumption)
               have hx28 := bt_at t247 x8_3
               replace p28 := eq_true p28
               replace q28 := eq_true q28
               try go_wp2
               have n0_ := Aside0.mk (blk_drew BK240.out)
               have n1_ := Aside0.mk (below_drew1 HB.out)
               clear BK240
               clear HB
               have BK240 := n0_
               have HB := n1_
               clear n0_ n1_
               have p29 : 0 ≤ (x8_3 : Int) := of_decide_eq_true (by first | (with_reducible assumption) | assumption)
               have q29 : x8_3 < (t247.size : Int) := of_decide_eq_true (by first | (with_reducible assumption) | assumption)
               have hx29 := bt_at t247 x8_3
               replace p29 := eq_true p29
               replace q29 := eq_true q29
               refine start_ (n := 11) (S := fun w' => w'.cell? ⟨gb240, 0, none⟩ = some (.int .i64 x241000_3) ∧ w'.cell? ⟨gb240, 1, none⟩ = some (.bool x241001_3) ∧ w'.cell? ⟨gb240, 2, none⟩ = some (.int .i64 x241002_3)) (ds := []) #[false, false, false, false, false, false, false, false, false, false, false] (by kernel_rfl) rfl rfl (c3U BK240) (fun hHeld => ?_); refine with_tabW spec_FirstWithPoints.tab10 spec_FirstWithPoints.bits10 (fun HT_ HW_ => ?_)
               generalize wr.drew = w54 at BK240 HB hHeld ⊢
               refine pure_ (i := 1) (N := some 48) (v := ?_) (a' := ?_) #[false, true, false, false, false, false, false, false, false, false, false] rfl rfl (any_of HT_.out (by kernel_rfl)) (fun _ _ _ h => h) (Or.inl ⟨by rfl, ?_⟩) ?_ ?_
               rotate_left
               ·intro w'
                go_simp
                with_reducible rfl
               rotate_left
               ·simp only [Act.put, List.setIfInBounds_toArray, List.set_cons_zero, List.set_cons_succ, i64_w, i32_w]
                rfl
               refine pure_ (i := 2) (N := some 49) (v := ?_) (a' := ?_) #[false, true, true, false, false, false, false, false, false, false, false] rfl rfl (any_of HT_.out (by kernel_rfl)) (fun _ _ _ h => h) (Or.inl ⟨by rfl, ?_⟩) ?_ ?_
               rotate_left
               ·intro w'
                go_simp
                with_reducible rfl
               rotate_left
               ·simp only [Act.put, List.setIfInBounds_toArray, List.set_cons_zero, List.set_cons_succ, i64_w, i32_w]
                rfl
               refine take_ (i := 0) (N := some 47) (v := ?_) (a' := ?_) #[true, true, true, false, false, false, false, false, false, false, false] rfl rfl (take_ofW HT_.out HW_.out (by kernel_rfl)) (fun _ _ _ h => h) (Or.inl ⟨by rfl, ?_⟩) hHeld ?_ ?_
               rotate_left
               ·rintro w' ⟨s0, s1, s2⟩
                go_simp
                with_reducible rfl
               rotate_left
               ·simp only [Act.put, List.setIfInBounds_toArray, List.set_cons_zero, List.set_cons_succ, i64_w, i32_w]
                rfl
               refine take_ (i := 3) (N := some 50) (v := ?_) (a' := ?_) #[true, true, true, true, false, false, false, false, false, false, false] rfl rfl (take_ofW HT_.out HW_.out (by kernel_rfl)) (fun _ _ _ h => h) (Or.inl ⟨by rfl, ?_⟩) hHeld ?_ ?_
               rotate_left
               ·rintro w' ⟨s0, s1, s2⟩
                go_simp
                with_reducible rfl
               rotate_left
               ·simp only [Act.put, List.setIfInBounds_toArray, List.set_cons_zero, List.set_cons_succ, i64_w, i32_w]
                rfl
               refine join_ (σ := Nat) 2 #[true, true, true, true, true, true, true, true, true, false, false] (fun s_ => [(51, .tuple #[.agg #[.int .i64 t248, .bool t249, .int .i64 t250], .bool t251]), (10, .pointer (some ⟨s_, 0, none⟩)), (46, .tuple #[.agg #[.int .i64 t248, .bool t249, .int .i64 t250], .bool t251]), (52, .agg #[.int .i64 t248, .bool t249, .int .i64 t250]), (53, .bool t251)]) (fun s_ w' => (w'.cell? ⟨gb240, 0, none⟩ = some (.int .i64 x241000_3) ∧ w'.cell? ⟨gb240, 1, none⟩ = some (.bool x241001_3) ∧ w'.cell? ⟨gb240, 2, none⟩ = some (.int .i64 x241002_3)) ∧ (w'.heap[gb240]? = some (.cells #[.int .i64 x241000_3, .bool x241001_3, .int .i64 x241002_3] 25 (0, 0))) ∧ (w'.heap[s_]? = some (.cells #[.int .i64 0, .bool false, .int .i64 0] 25 (0, 0))) ∧ (w.heap.size ≤ s_) ∧ (w.heap.size ≤ s_) ∧ (gb240 ≠ s_) ∧ (s_ ≠ gb240) ∧ (Below w.heap.size w w')) ?_ ?_
               rotate_left
               ·intro hCont
                refine two_ (i := 4) (j := 8) (Ni := some 51) (Nj := some 10) #[true, true, true, true, true, false, false, false, false, false, false] #[true, true, true, true, false, false, false, false, true, false, false] rfl rfl rfl rfl (two_of HT_.out (by kernel_rfl)) (by decide) (by decide) (fun K hK => ?_) (fun K hK => ?_)
                ·skip
                 refine goes_ Tryd.func39 (by kernel_rfl) rfl #[.agg #[.int .i64 x241000_3, .bool x241001_3, .int .i64 x241002_3], .int .u8 (bt t247 x8_3)] (by rfl) rfl rfl arU ?_
                 with_reducible refine (spec_frPot.calls k3 x241000_3 x241001_3 x241002_3 (bt t247 x8_3) t248 t249 t250 t251 _ A30.out).mono ?_
                 rintro e w55 ⟨rfl, hb⟩
                 refine ⟨_, rfl, ?_⟩
                 have n0_ := bbU BK240 hb
                 have n1_ := bsU hb
                 clear BK240
                 clear HB
                 have BK240 := n0_
                 have HB := n1_
                 clear n0_ n1_
                 (try clear hb)
                 refine hK.out _ _ (c3U BK240) (fun hHeld => ?_)
                 clear hK K
                 refine norm_ (a' := ?_) ?_ ?_
                 rotate_left
                 ·show Act.put _ (some 51) _ = _
                  simp only [Act.put, List.setIfInBounds_toArray, List.set_cons_zero, List.set_cons_succ, i64_w, i32_w]
                  rfl
                 refine pure_ (i := 5) (N := some 46) (v := ?_) (a' := ?_) #[true, true, true, true, true, true, false, false, false, false, false] rfl rfl (any_of HT_.out (by kernel_rfl)) (fun _ _ _ h => h) (Or.inl ⟨by rfl, ?_⟩) ?_ ?_
                 rotate_left
                 ·intro w'
                  go_simp
                  with_reducible rfl
                 rotate_left
                 ·simp only [Act.put, List.setIfInBounds_toArray, List.set_cons_zero, List.set_cons_succ, i64_w, i32_w]
                  rfl
                 refine pure_ (i := 6) (N := some 52) (v := ?_) (a' := ?_) #[true, true, true, true, true, true, true, false, false, false, false] rfl rfl (any_of HT_.out (by kernel_rfl)) (fun _ _ _ h => h) (Or.inl ⟨by rfl, ?_⟩) ?_ ?_
                 rotate_left
                 ·intro w'
                  go_simp
                  with_reducible rfl
                 rotate_left
                 ·simp only [Act.put, List.setIfInBounds_toArray, List.set_cons_zero, List.set_cons_succ, i64_w, i32_w]
                  rfl
                 refine pure_ (i := 7) (N := some 53) (v := ?_) (a' := ?_) #[true, true, true, true, true, true, true, true, false, false, false] rfl rfl (any_of HT_.out (by kernel_rfl)) (fun _ _ _ h => h) (Or.inl ⟨by rfl, ?_⟩) ?_ ?_
                 rotate_left
                 ·intro w'
                  go_simp
                  with_reducible rfl
                 rotate_left
                 ·simp only [Act.put, List.setIfInBounds_toArray, List.set_cons_zero, List.set_cons_succ, i64_w, i32_w]
                  rfl
                 refine one_ (i := 8) (N := some 10) #[true, true, true, true, true, true, true, true, true, false, false] rfl rfl (one_of HT_.out (by kernel_rfl)) (by decide) (fun K hK => ?_)
                 refine box_step ?hg (N := 10) ?hd (cs := #[.int .i64 0, .bool false, .int .i64 0]) (t := 25) ?hr ?_; (case hd => rfl); (case hg => rfl); (case hr => first | (go_simp; done) | (go_simp; rfl))
                 intro gb252 hg w56 hbox hb
                 have n0_ := bbU BK240 hb
                 have n1_ := bsU hb
                 have n2_ := Aside0.mk (hbox)
                 have n3_ := geU hg
                 have n4_ := geU hg
                 have n5_ := neU BK240 hg
                 have n6_ := enU BK240 hg
                 clear BK240
                 clear HB
                 have BK240 := n0_
                 have HB := n1_
                 have BK252 := n2_
                 have GW252 := n3_
                 have GE252 := n4_
                 have NB240_252 := n5_
                 have NB252_240 := n6_
                 clear n0_ n1_ n2_ n3_ n4_ n5_ n6_
                 clear hb hbox hg
                 refine hK.out _ _ (c3U BK240) (fun hHeld => ?_)
                 clear hK K
                 refine norm_ (a' := ?_) ?_ ?_
                 rotate_left
                 ·show Act.put _ (some 10) _ = _
                  simp only [Act.put, List.setIfInBounds_toArray, List.set_cons_zero, List.set_cons_succ, i64_w, i32_w]
                  rfl
                 exact norm_ (by simp only [putAll, Act.put, List.setIfInBounds_toArray, List.set_cons_zero, List.set_cons_succ]) (hCont (gb252) _ ⟨hHeld, bkU, bkU, GW252.out, GE252.out, NB240_252.out, NB252_240.out, hbU⟩)
                ·skip
                 refine box_step ?hg (N := 10) ?hd (cs := #[.int .i64 0, .bool false, .int .i64 0]) (t := 25) ?hr ?_; (case hd => rfl); (case hg => rfl); (case hr => first | (go_simp; done) | (go_simp; rfl))
                 intro gb252 hg w55 hbox hb
                 have n0_ := bbU BK240 hb
                 have n1_ := bsU hb
                 have n2_ := Aside0.mk (hbox)
                 have n3_ := geU hg
                 have n4_ := geU hg
                 have n5_ := neU BK240 hg
                 have n6_ := enU BK240 hg
                 clear BK240
                 clear HB
                 have BK240 := n0_
                 have HB := n1_
                 have BK252 := n2_
                 have GW252 := n3_
                 have GE252 := n4_
                 have NB240_252 := n5_
                 have NB252_240 := n6_
                 clear n0_ n1_ n2_ n3_ n4_ n5_ n6_
                 clear hb hbox hg
                 refine hK.out _ _ (c3U BK240) (fun hHeld => ?_)
                 clear hK K
                 refine norm_ (a' := ?_) ?_ ?_
                 rotate_left
                 ·show Act.put _ (some 10) _ = _
                  simp only [Act.put, List.setIfInBounds_toArray, List.set_cons_zero, List.set_cons_succ, i64_w, i32_w]
                  rfl
                 refine one_ (i := 4) (N := some 51) #[true, true, true, true, true, false, false, false, true, false, false] rfl rfl (one_of HT_.out (by kernel_rfl)) (by decide) (fun K hK => ?_)
                 refine goes_ Tryd.func39 (by kernel_rfl) rfl #[.agg #[.int .i64 x241000_3, .bool x241001_3, .int .i64 x241002_3], .int .u8 (bt t247 x8_3)] (by rfl) rfl rfl arU ?_
                 with_reducible refine (spec_frPot.calls k3 x241000_3 x241001_3 x241002_3 (bt t247 x8_3) t248 t249 t250 t251 _ A30.out).mono ?_
                 rintro e w56 ⟨rfl, hb⟩
                 refine ⟨_, rfl, ?_⟩
                 have n0_ := bbU BK240 hb
                 have n1_ := bbU BK252 hb
                 have n2_ := bsU hb
                 clear BK240
                 clear BK252
                 clear HB
                 have BK240 := n0_
                 have BK252 := n1_
                 have HB := n2_
                 clear n0_ n1_ n2_
                 (try clear hb)
                 refine hK.out _ _ (c3U BK240) (fun hHeld => ?_)
                 clear hK K
                 refine norm_ (a' := ?_) ?_ ?_
                 rotate_left
                 ·show Act.put _ (some 51) _ = _
                  simp only [Act.put, List.setIfInBounds_toArray, List.set_cons_zero, List.set_cons_succ, i64_w, i32_w]
                  rfl
                 refine pure_ (i := 5) (N := some 46) (v := ?_) (a' := ?_) #[true, true, true, true, true, true, false, false, true, false, false] rfl rfl (any_of HT_.out (by kernel_rfl)) (fun _ _ _ h => h) (Or.inl ⟨by rfl, ?_⟩) ?_ ?_
                 rotate_left
                 ·intro w'
                  go_simp
                  with_reducible rfl
                 rotate_left
                 ·simp only [Act.put, List.setIfInBounds_toArray, List.set_cons_zero, List.set_cons_succ, i64_w, i32_w]
                  rfl
                 refine pure_ (i := 6) (N := some 52) (v := ?_) (a' := ?_) #[true, true, true, true, true, true, true, false, true, false, false] rfl rfl (any_of HT_.out (by kernel_rfl)) (fun _ _ _ h => h) (Or.inl ⟨by rfl, ?_⟩) ?_ ?_
                 rotate_left
                 ·intro w'
                  go_simp
                  with_reducible rfl
                 rotate_left
                 ·simp only [Act.put, List.setIfInBounds_toArray, List.set_cons_zero, List.set_cons_succ, i64_w, i32_w]
                  rfl
                 refine pure_ (i := 7) (N := some 53) (v := ?_) (a' := ?_) #[true, true, true, true, true, true, true, true, true, false, false] rfl rfl (any_of HT_.out (by kernel_rfl)) (fun _ _ _ h => h) (Or.inl ⟨by rfl, ?_⟩) ?_ ?_
                 rotate_left
                 ·intro w'
                  go_simp
                  with_reducible rfl
                 rotate_left
                 ·simp only [Act.put, List.setIfInBounds_toArray, List.set_cons_zero, List.set_cons_succ, i64_w, i32_w]
                  rfl
                 exact norm_ (by simp only [putAll, Act.put, List.setIfInBounds_toArray, List.set_cons_zero, List.set_cons_succ]) (hCont (gb252) _ ⟨hHeld, bkU, bkU, GW252.out, GE252.out, NB240_252.out, NB252_240.out, hbU⟩)
               rintro gb252 w57 ⟨hS_, h0_, h1_, h2_, h3_, h4_, h5_, h6_⟩
               have n0_ : Aside0 (w57.heap[gb240]? = some (.cells #[.int .i64 x241000_3, .bool x241001_3, .int .i64 x241002_3] 25 (0, 0))) := ⟨h0_⟩
               have n1_ : Aside0 (w57.heap[gb252]? = some (.cells #[.int .i64 0, .bool false, .int .i64 0] 25 (0, 0))) := ⟨h1_⟩
               have n2_ : Aside0 (w.heap.size ≤ gb252) := ⟨h2_⟩
               have n3_ : Aside0 (w.heap.size ≤ gb252) := ⟨h3_⟩
               have n4_ : Aside0 (gb240 ≠ gb252) := ⟨h4_⟩
               have n5_ : Aside0 (gb252 ≠ gb240) := ⟨h5_⟩
               have n6_ : Aside0 (Below w.heap.size w w57) := ⟨h6_⟩
               clear BK240
               clear HB
               clear h0_ h1_ h2_ h3_ h4_ h5_ h6_
               have BK240 := n0_
               have BK252 := n1_
               have GW252 := n2_
               have GE252 := n3_
               have NB240_252 := n4_
               have NB252_240 := n5_
               have HB := n6_
               clear n0_ n1_ n2_ n3_ n4_ n5_ n6_
               have hHeld : w57.cell? ⟨gb240, 0, none⟩ = some (.int .i64 x241000_3) ∧ w57.cell? ⟨gb240, 1, none⟩ = some (.bool x241001_3) ∧ w57.cell? ⟨gb240, 2, none⟩ = some (.int .i64 x241002_3) := hS_
               refine norm_ (a' := ?_) ?_ ?_
               rotate_left
               ·simp only [putAll, Act.put, List.setIfInBounds_toArray, List.set_cons_zero, List.set_cons_succ]
                rfl
               refine one_ (i := 9) (N := none) #[true, true, true, true, true, true, true, true, true, true, false] rfl rfl (one_of HT_.out (by kernel_rfl)) (by decide) (fun K hK => ?_)
               have hs58 : w57.cell? ⟨gb252, 0, none⟩ = some (.int .i64 0) := (blk_cell BK252.out 0).trans rfl
               have hfs58 := blk_frozen BK252.out 0
               have hns58_0 := NB240_252.out
               have hms58_0 := NB252_240.out
               have hs59 : w57.cell? ⟨gb252, 1, none⟩ = some (.bool false) := (blk_cell BK252.out 1).trans rfl
               have hfs59 := blk_frozen BK252.out 1
               have hns59_0 := NB240_252.out
               have hms59_0 := NB252_240.out
               have hs60 : w57.cell? ⟨gb252, 2, none⟩ = some (.int .i64 0) := (blk_cell BK252.out 2).trans rfl
               have hfs60 := blk_frozen BK252.out 2
               have hns60_0 := NB240_252.out
               have hms60_0 := NB252_240.out
               refine skip_ (w1 := ?_) (by rfl) rfl ?_ ?_
               rotate_left
               ·go_simp
                rfl
               refine hK.out _ _ ⟨((cell_far (p := ⟨gb252, _, none⟩) NB240_252.out _).trans (((cell_far (p := ⟨gb252, _, none⟩) NB240_252.out _).trans (((cell_far (p := ⟨gb252, _, none⟩) NB240_252.out _).trans (hHeld.1)))))), ((cell_far (p := ⟨gb252, _, none⟩) NB240_252.out _).trans (((cell_far (p := ⟨gb252, _, none⟩) NB240_252.out _).trans (((cell_far (p := ⟨gb252, _, none⟩) NB240_252.out _).trans (hHeld.2.1)))))), ((cell_far (p := ⟨gb252, _, none⟩) NB240_252.out _).trans (((cell_far (p := ⟨gb252, _, none⟩) NB240_252.out _).trans (((cell_far (p := ⟨gb252, _, none⟩) NB240_252.out _).trans (hHeld.2.2))))))⟩ (fun hHeld => ?_)
               clear hK K
               refine pure_ (i := 10) (N := some 11) (v := ?_) (a' := ?_) #[true, true, true, true, true, true, true, true, true, true, true] rfl rfl (any_of HT_.out (by kernel_rfl)) (fun _ _ _ h => h) (Or.inl ⟨by rfl, ?_⟩) ?_ ?_
               rotate_left
               ·intro w'
                go_simp
                with_reducible rfl
               rotate_left
               ·simp only [Act.put, List.setIfInBounds_toArray, List.set_cons_zero, List.set_cons_succ, i64_w, i32_w]
                rfl
               refine done_ (done_of HT_.out (by kernel_rfl)) ?_
               have hnb61 := NB252_240.out
               have hnc61 := NB240_252.out
               obtain ⟨hcz62_0, hcz62_1, hcz62_2, hfz62_0, hfz62_1, hfz62_2⟩ := b3U BK252
               try go_wp2_with (first | (go_at_call 37; (with_reducible refine (spec_frWays.calls k3 t248 t249 t250 ji33 t253 _ A32.out).mono ?_); rintro e w63 ⟨v254, rfl, ho0, hb⟩; have n0_ := Aside0.mk (Kd.R_lower ho0 (below_size hbU)); have n1_ := bbU BK240 hb; have n2_ := Aside0.mk (blk_below (g := gb252) (o := .cells #[.int .i64 t248, .bool t249, .int .i64 t250] 25 (0, 0)) bkU hb); have n3_ := bsU hb; clear BK240; clear BK252; clear HB; have HO255 := n0_; have BK240 := n1_; have BK252 := n2_; have HB := n3_; clear n0_ n1_ n2_ n3_; (try clear hb); (try clear hb2); (try clear hk); (try clear hi); (try clear ho0); obtain ⟨Ao64, co64, eo64⟩ := Kd.R_slice HO255.out; subst eo64; have p256 : 0 ≤ ((ji33) : Int) := of_decide_eq_true (by first | (with_reducible assumption) | assumption); have q256 : (ji33) < (t253.length : Int) := of_decide_eq_true (by first | (with_reducible assumption) | assumption); obtain ⟨ad256, e256, hx256_0⟩ := Kd.at_int (Kd.R_reads' HO255.out).2.2 (ji33) p256 q256; cases e256; replace p256 := eq_true p256; replace q256 := eq_true q256))
               go_roundg k3
               case measure => have := HJ2.out; have := HK2.out; have := HK3.out; omega
               case rel => exact ⟨(x1_3), (x6_3), (wrap64 (x8_3 + 1)), (x241000_3), (x241001_3), (x241002_3), eqU, eqU, eqU, H', ⟨by have := HJ2.out; have := HK2.out; have := HK3.out; omega⟩, ⟨bkU⟩, ⟨hbU⟩⟩
             ·rw [if_neg c35] at H
              exact absurd H (by simp)
            ·rw [if_neg c34] at H
             exact absurd H (by simp)
           ·rw [if_neg c31] at H
            have c31b0 : decide (0 ≤ (wrap64 (x1_3 - (((bt t247 x8_3) - 48) % 256)))) = false := decide_eq_false c31
            clear c31
            have H' := Aside0.mk H
            clear H
            have p28 : 0 ≤ (x8_3 : Int) := of_decide_eq_true (by first | (with_reducible assumption) | assumption)
            have q28 : x8_3 < (t247.size : Int) := of_decide_eq_true (by first | (with_reducible assumption) | assumption)
            have hx28 := bt_at t247 x8_3
            replace p28 := eq_true p28
            replace q28 := eq_true q28
            try go_wp2
            have n0_ := Aside0.mk (blk_drew BK240.out)
            have n1_ := Aside0.mk (below_drew1 HB.out)
            clear BK240
            clear HB
            have BK240 := n0_
            have HB := n1_
            clear n0_ n1_
            have p29 : 0 ≤ (x8_3 : Int) := of_decide_eq_true (by first | (with_reducible assumption) | assumption)
            have q29 : x8_3 < (t247.size : Int) := of_decide_eq_true (by first | (with_reducible assumption) | assumption)
            have hx29 := bt_at t247 x8_3
            replace p29 := eq_true p29
            replace q29 := eq_true q29
            refine start_ (n := 11) (S := fun w' => w'.cell? ⟨gb240, 0, none⟩ = some (.int .i64 x241000_3) ∧ w'.cell? ⟨gb240, 1, none⟩ = some (.bool x241001_3) ∧ w'.cell? ⟨gb240, 2, none⟩ = some (.int .i64 x241002_3)) (ds := []) #[false, false, false, false, false, false, false, false, false, false, false] (by kernel_rfl) rfl rfl (c3U BK240) (fun hHeld => ?_); refine with_tabW spec_FirstWithPoints.tab10 spec_FirstWithPoints.bits10 (fun HT_ HW_ => ?_)
            generalize wr.drew = w65 at BK240 HB hHeld ⊢
            refine pure_ (i := 1) (N := some 48) (v := ?_) (a' := ?_) #[false, true, false, false, false, false, false, false, false, false, false] rfl rfl (any_of HT_.out (by kernel_rfl)) (fun _ _ _ h => h) (Or.inl ⟨by rfl, ?_⟩) ?_ ?_
            rotate_left
            ·intro w'
             go_simp
             with_reducible rfl
            rotate_left
            ·simp only [Act.put, List.setIfInBounds_toArray, List.set_cons_zero, List.set_cons_succ, i64_w, i32_w]
             rfl
            refine pure_ (i := 2) (N := some 49) (v := ?_) (a' := ?_) #[false, true, true, false, false, false, false, false, false, false, false] rfl rfl (any_of HT_.out (by kernel_rfl)) (fun _ _ _ h => h) (Or.inl ⟨by rfl, ?_⟩) ?_ ?_
            rotate_left
            ·intro w'
             go_simp
             with_reducible rfl
            rotate_left
            ·simp only [Act.put, List.setIfInBounds_toArray, List.set_cons_zero, List.set_cons_succ, i64_w, i32_w]
             rfl
            refine take_ (i := 0) (N := some 47) (v := ?_) (a' := ?_) #[true, true, true, false, false, false, false, false, false, false, false] rfl rfl (take_ofW HT_.out HW_.out (by kernel_rfl)) (fun _ _ _ h => h) (Or.inl ⟨by rfl, ?_⟩) hHeld ?_ ?_
            rotate_left
            ·rintro w' ⟨s0, s1, s2⟩
             go_simp
             with_reducible rfl
            rotate_left
            ·simp only [Act.put, List.setIfInBounds_toArray, List.set_cons_zero, List.set_cons_succ, i64_w, i32_w]
             rfl
            refine take_ (i := 3) (N := some 50) (v := ?_) (a' := ?_) #[true, true, true, true, false, false, false, false, false, false, false] rfl rfl (take_ofW HT_.out HW_.out (by kernel_rfl)) (fun _ _ _ h => h) (Or.inl ⟨by rfl, ?_⟩) hHeld ?_ ?_
            rotate_left
            ·rintro w' ⟨s0, s1, s2⟩
             go_simp
             with_reducible rfl
            rotate_left
            ·simp only [Act.put, List.setIfInBounds_toArray, List.set_cons_zero, List.set_cons_succ, i64_w, i32_w]
             rfl
            refine join_ (σ := Nat) 2 #[true, true, true, true, true, true, true, true, true, false, false] (fun s_ => [(51, .tuple #[.agg #[.int .i64 t248, .bool t249, .int .i64 t250], .bool t251]), (10, .pointer (some ⟨s_, 0, none⟩)), (46, .tuple #[.agg #[.int .i64 t248, .bool t249, .int .i64 t250], .bool t251]), (52, .agg #[.int .i64 t248, .bool t249, .int .i64 t250]), (53, .bool t251)]) (fun s_ w' => (w'.cell? ⟨gb240, 0, none⟩ = some (.int .i64 x241000_3) ∧ w'.cell? ⟨gb240, 1, none⟩ = some (.bool x241001_3) ∧ w'.cell? ⟨gb240, 2, none⟩ = some (.int .i64 x241002_3)) ∧ (w'.heap[gb240]? = some (.cells #[.int .i64 x241000_3, .bool x241001_3, .int .i64 x241002_3] 25 (0, 0))) ∧ (w'.heap[s_]? = some (.cells #[.int .i64 0, .bool false, .int .i64 0] 25 (0, 0))) ∧ (w.heap.size ≤ s_) ∧ (w.heap.size ≤ s_) ∧ (gb240 ≠ s_) ∧ (s_ ≠ gb240) ∧ (Below w.heap.size w w')) ?_ ?_
            rotate_left
            ·intro hCont
             refine two_ (i := 4) (j := 8) (Ni := some 51) (Nj := some 10) #[true, true, true, true, true, false, false, false, false, false, false] #[true, true, true, true, false, false, false, false, true, false, false] rfl rfl rfl rfl (two_of HT_.out (by kernel_rfl)) (by decide) (by decide) (fun K hK => ?_) (fun K hK => ?_)
             ·skip
              refine goes_ Tryd.func39 (by kernel_rfl) rfl #[.agg #[.int .i64 x241000_3, .bool x241001_3, .int .i64 x241002_3], .int .u8 (bt t247 x8_3)] (by rfl) rfl rfl arU ?_
              with_reducible refine (spec_frPot.calls k3 x241000_3 x241001_3 x241002_3 (bt t247 x8_3) t248 t249 t250 t251 _ A30.out).mono ?_
              rintro e w66 ⟨rfl, hb⟩
              refine ⟨_, rfl, ?_⟩
              have n0_ := bbU BK240 hb
              have n1_ := bsU hb
              clear BK240
              clear HB
              have BK240 := n0_
              have HB := n1_
              clear n0_ n1_
              (try clear hb)
              refine hK.out _ _ (c3U BK240) (fun hHeld => ?_)
              clear hK K
              refine norm_ (a' := ?_) ?_ ?_
              rotate_left
              ·show Act.put _ (some 51) _ = _
               simp only [Act.put, List.setIfInBounds_toArray, List.set_cons_zero, List.set_cons_succ, i64_w, i32_w]
               rfl
              refine pure_ (i := 5) (N := some 46) (v := ?_) (a' := ?_) #[true, true, true, true, true, true, false, false, false, false, false] rfl rfl (any_of HT_.out (by kernel_rfl)) (fun _ _ _ h => h) (Or.inl ⟨by rfl, ?_⟩) ?_ ?_
              rotate_left
              ·intro w'
               go_simp
               with_reducible rfl
              rotate_left
              ·simp only [Act.put, List.setIfInBounds_toArray, List.set_cons_zero, List.set_cons_succ, i64_w, i32_w]
               rfl
              refine pure_ (i := 6) (N := some 52) (v := ?_) (a' := ?_) #[true, true, true, true, true, true, true, false, false, false, false] rfl rfl (any_of HT_.out (by kernel_rfl)) (fun _ _ _ h => h) (Or.inl ⟨by rfl, ?_⟩) ?_ ?_
              rotate_left
              ·intro w'
               go_simp
               with_reducible rfl
              rotate_left
              ·simp only [Act.put, List.setIfInBounds_toArray, List.set_cons_zero, List.set_cons_succ, i64_w, i32_w]
               rfl
              refine pure_ (i := 7) (N := some 53) (v := ?_) (a' := ?_) #[true, true, true, true, true, true, true, true, false, false, false] rfl rfl (any_of HT_.out (by kernel_rfl)) (fun _ _ _ h => h) (Or.inl ⟨by rfl, ?_⟩) ?_ ?_
              rotate_left
              ·intro w'
               go_simp
               with_reducible rfl
              rotate_left
              ·simp only [Act.put, List.setIfInBounds_toArray, List.set_cons_zero, List.set_cons_succ, i64_w, i32_w]
               rfl
              refine one_ (i := 8) (N := some 10) #[true, true, true, true, true, true, true, true, true, false, false] rfl rfl (one_of HT_.out (by kernel_rfl)) (by decide) (fun K hK => ?_)
              refine box_step ?hg (N := 10) ?hd (cs := #[.int .i64 0, .bool false, .int .i64 0]) (t := 25) ?hr ?_; (case hd => rfl); (case hg => rfl); (case hr => first | (go_simp; done) | (go_simp; rfl))
              intro gb252 hg w67 hbox hb
              have n0_ := bbU BK240 hb
              have n1_ := bsU hb
              have n2_ := Aside0.mk (hbox)
              have n3_ := geU hg
              have n4_ := geU hg
              have n5_ := neU BK240 hg
              have n6_ := enU BK240 hg
              clear BK240
              clear HB
              have BK240 := n0_
              have HB := n1_
              have BK252 := n2_
              have GW252 := n3_
              have GE252 := n4_
              have NB240_252 := n5_
              have NB252_240 := n6_
              clear n0_ n1_ n2_ n3_ n4_ n5_ n6_
              clear hb hbox hg
              refine hK.out _ _ (c3U BK240) (fun hHeld => ?_)
              clear hK K
              refine norm_ (a' := ?_) ?_ ?_
              rotate_left
              ·show Act.put _ (some 10) _ = _
               simp only [Act.put, List.setIfInBounds_toArray, List.set_cons_zero, List.set_cons_succ, i64_w, i32_w]
               rfl
              exact norm_ (by simp only [putAll, Act.put, List.setIfInBounds_toArray, List.set_cons_zero, List.set_cons_succ]) (hCont (gb252) _ ⟨hHeld, bkU, bkU, GW252.out, GE252.out, NB240_252.out, NB252_240.out, hbU⟩)
             ·skip
              refine box_step ?hg (N := 10) ?hd (cs := #[.int .i64 0, .bool false, .int .i64 0]) (t := 25) ?hr ?_; (case hd => rfl); (case hg => rfl); (case hr => first | (go_simp; done) | (go_simp; rfl))
              intro gb252 hg w66 hbox hb
              have n0_ := bbU BK240 hb
              have n1_ := bsU hb
              have n2_ := Aside0.mk (hbox)
              have n3_ := geU hg
              have n4_ := geU hg
              have n5_ := neU BK240 hg
              have n6_ := enU BK240 hg
              clear BK240
              clear HB
              have BK240 := n0_
              have HB := n1_
              have BK252 := n2_
              have GW252 := n3_
              have GE252 := n4_
              have NB240_252 := n5_
              have NB252_240 := n6_
              clear n0_ n1_ n2_ n3_ n4_ n5_ n6_
              clear hb hbox hg
              refine hK.out _ _ (c3U BK240) (fun hHeld => ?_)
              clear hK K
              refine norm_ (a' := ?_) ?_ ?_
              rotate_left
              ·show Act.put _ (some 10) _ = _
               simp only [Act.put, List.setIfInBounds_toArray, List.set_cons_zero, List.set_cons_succ, i64_w, i32_w]
               rfl
              refine one_ (i := 4) (N := some 51) #[true, true, true, true, true, false, false, false, true, false, false] rfl rfl (one_of HT_.out (by kernel_rfl)) (by decide) (fun K hK => ?_)
              refine goes_ Tryd.func39 (by kernel_rfl) rfl #[.agg #[.int .i64 x241000_3, .bool x241001_3, .int .i64 x241002_3], .int .u8 (bt t247 x8_3)] (by rfl) rfl rfl arU ?_
              with_reducible refine (spec_frPot.calls k3 x241000_3 x241001_3 x241002_3 (bt t247 x8_3) t248 t249 t250 t251 _ A30.out).mono ?_
              rintro e w67 ⟨rfl, hb⟩
              refine ⟨_, rfl, ?_⟩
              have n0_ := bbU BK240 hb
              have n1_ := bbU BK252 hb
              have n2_ := bsU hb
              clear BK240
              clear BK252
              clear HB
              have BK240 := n0_
              have BK252 := n1_
              have HB := n2_
              clear n0_ n1_ n2_
              (try clear hb)
              refine hK.out _ _ (c3U BK240) (fun hHeld => ?_)
              clear hK K
              refine norm_ (a' := ?_) ?_ ?_
              rotate_left
              ·show Act.put _ (some 51) _ = _
               simp only [Act.put, List.setIfInBounds_toArray, List.set_cons_zero, List.set_cons_succ, i64_w, i32_w]
               rfl
              refine pure_ (i := 5) (N := some 46) (v := ?_) (a' := ?_) #[true, true, true, true, true, true, false, false, true, false, false] rfl rfl (any_of HT_.out (by kernel_rfl)) (fun _ _ _ h => h) (Or.inl ⟨by rfl, ?_⟩) ?_ ?_
              rotate_left
              ·intro w'
               go_simp
               with_reducible rfl
              rotate_left
              ·simp only [Act.put, List.setIfInBounds_toArray, List.set_cons_zero, List.set_cons_succ, i64_w, i32_w]
               rfl
              refine pure_ (i := 6) (N := some 52) (v := ?_) (a' := ?_) #[true, true, true, true, true, true, true, false, true, false, false] rfl rfl (any_of HT_.out (by kernel_rfl)) (fun _ _ _ h => h) (Or.inl ⟨by rfl, ?_⟩) ?_ ?_
              rotate_left
              ·intro w'
               go_simp
               with_reducible rfl
              rotate_left
              ·simp only [Act.put, List.setIfInBounds_toArray, List.set_cons_zero, List.set_cons_succ, i64_w, i32_w]
               rfl
              refine pure_ (i := 7) (N := some 53) (v := ?_) (a' := ?_) #[true, true, true, true, true, true, true, true, true, false, false] rfl rfl (any_of HT_.out (by kernel_rfl)) (fun _ _ _ h => h) (Or.inl ⟨by rfl, ?_⟩) ?_ ?_
              rotate_left
              ·intro w'
               go_simp
               with_reducible rfl
              rotate_left
              ·simp only [Act.put, List.setIfInBounds_toArray, List.set_cons_zero, List.set_cons_succ, i64_w, i32_w]
               rfl
              exact norm_ (by simp only [putAll, Act.put, List.setIfInBounds_toArray, List.set_cons_zero, List.set_cons_succ]) (hCont (gb252) _ ⟨hHeld, bkU, bkU, GW252.out, GE252.out, NB240_252.out, NB252_240.out, hbU⟩)
            rintro gb252 w68 ⟨hS_, h0_, h1_, h2_, h3_, h4_, h5_, h6_⟩
            have n0_ : Aside0 (w68.heap[gb240]? = some (.cells #[.int .i64 x241000_3, .bool x241001_3, .int .i64 x241002_3] 25 (0, 0))) := ⟨h0_⟩
            have n1_ : Aside0 (w68.heap[gb252]? = some (.cells #[.int .i64 0, .bool false, .int .i64 0] 25 (0, 0))) := ⟨h1_⟩
            have n2_ : Aside0 (w.heap.size ≤ gb252) := ⟨h2_⟩
            have n3_ : Aside0 (w.heap.size ≤ gb252) := ⟨h3_⟩
            have n4_ : Aside0 (gb240 ≠ gb252) := ⟨h4_⟩
            have n5_ : Aside0 (gb252 ≠ gb240) := ⟨h5_⟩
            have n6_ : Aside0 (Below w.heap.size w w68) := ⟨h6_⟩
            clear BK240
            clear HB
            clear h0_ h1_ h2_ h3_ h4_ h5_ h6_
            have BK240 := n0_
            have BK252 := n1_
            have GW252 := n2_
            have GE252 := n3_
            have NB240_252 := n4_
            have NB252_240 := n5_
            have HB := n6_
            clear n0_ n1_ n2_ n3_ n4_ n5_ n6_
            have hHeld : w68.cell? ⟨gb240, 0, none⟩ = some (.int .i64 x241000_3) ∧ w68.cell? ⟨gb240, 1, none⟩ = some (.bool x241001_3) ∧ w68.cell? ⟨gb240, 2, none⟩ = some (.int .i64 x241002_3) := hS_
            refine norm_ (a' := ?_) ?_ ?_
            rotate_left
            ·simp only [putAll, Act.put, List.setIfInBounds_toArray, List.set_cons_zero, List.set_cons_succ]
             rfl
            refine one_ (i := 9) (N := none) #[true, true, true, true, true, true, true, true, true, true, false] rfl rfl (one_of HT_.out (by kernel_rfl)) (by decide) (fun K hK => ?_)
            have hs69 : w68.cell? ⟨gb252, 0, none⟩ = some (.int .i64 0) := (blk_cell BK252.out 0).trans rfl
            have hfs69 := blk_frozen BK252.out 0
            have hns69_0 := NB240_252.out
            have hms69_0 := NB252_240.out
            have hs70 : w68.cell? ⟨gb252, 1, none⟩ = some (.bool false) := (blk_cell BK252.out 1).trans rfl
            have hfs70 := blk_frozen BK252.out 1
            have hns70_0 := NB240_252.out
            have hms70_0 := NB252_240.out
            have hs71 : w68.cell? ⟨gb252, 2, none⟩ = some (.int .i64 0) := (blk_cell BK252.out 2).trans rfl
            have hfs71 := blk_frozen BK252.out 2
            have hns71_0 := NB240_252.out
            have hms71_0 := NB252_240.out
            refine skip_ (w1 := ?_) (by rfl) rfl ?_ ?_
            rotate_left
            ·go_simp
             rfl
            refine hK.out _ _ ⟨((cell_far (p := ⟨gb252, _, none⟩) NB240_252.out _).trans (((cell_far (p := ⟨gb252, _, none⟩) NB240_252.out _).trans (((cell_far (p := ⟨gb252, _, none⟩) NB240_252.out _).trans (hHeld.1)))))), ((cell_far (p := ⟨gb252, _, none⟩) NB240_252.out _).trans (((cell_far (p := ⟨gb252, _, none⟩) NB240_252.out _).trans (((cell_far (p := ⟨gb252, _, none⟩) NB240_252.out _).trans (hHeld.2.1)))))), ((cell_far (p := ⟨gb252, _, none⟩) NB240_252.out _).trans (((cell_far (p := ⟨gb252, _, none⟩) NB240_252.out _).trans (((cell_far (p := ⟨gb252, _, none⟩) NB240_252.out _).trans (hHeld.2.2))))))⟩ (fun hHeld => ?_)
            clear hK K
            refine pure_ (i := 10) (N := some 11) (v := ?_) (a' := ?_) #[true, true, true, true, true, true, true, true, true, true, true] rfl rfl (any_of HT_.out (by kernel_rfl)) (fun _ _ _ h => h) (Or.inl ⟨by rfl, ?_⟩) ?_ ?_
            rotate_left
            ·intro w'
             go_simp
             with_reducible rfl
            rotate_left
            ·simp only [Act.put, List.setIfInBounds_toArray, List.set_cons_zero, List.set_cons_succ, i64_w, i32_w]
             rfl
            refine done_ (done_of HT_.out (by kernel_rfl)) ?_
            try go_wp2
            go_roundg k3
            case measure => have := HJ2.out; have := HK2.out; have := HK3.out; omega
            case rel => exact ⟨(x1_3), (x6_3), (wrap64 (x8_3 + 1)), (x241000_3), (x241001_3), (x241002_3), eqU, eqU, eqU, H', ⟨by have := HJ2.out; have := HK2.out; have := HK3.out; omega⟩, ⟨bkU⟩, ⟨hbU⟩⟩
          ·rw [if_neg c27] at H
           exact absurd H (by simp)
         ·rw [if_neg c26] at H
          have c26b0 : decide (x8_3 < (t247.size : Int)) = false := decide_eq_false c26
          clear c26
          have H' := Aside0.mk H
          clear H
          go_wp2
          go_roundg k3
          case measure => have := HJ2.out; have := HK2.out; have := HK3.out; omega
          case rel => exact ⟨(x1_3), (x6_3), (x241000_3), (x241001_3), (x241002_3), eqU, eqU, H', ⟨by have := HJ2.out; have := HK2.out; have := HK3.out; omega⟩, ⟨bkU⟩, ⟨hbU⟩⟩
      ·rw [if_neg c22] at H
       have c22b0 : decide (0 < x1_2) = false := decide_eq_false c22
       clear c22
       simp only [Option.some.injEq, Prod.mk.injEq] at H
       obtain ⟨rfl, rfl⟩ := H
       go_wp2
       go_ret2
       exact ⟨by first | rfl | (simp [errW_none, errW_some] <;> rfl) | (simp [*, errW_none, errW_some] <;> rfl), hbU⟩
end Go.Proofs.YtcmlmjgoidpabaaDoor.MFnFramesCounted

