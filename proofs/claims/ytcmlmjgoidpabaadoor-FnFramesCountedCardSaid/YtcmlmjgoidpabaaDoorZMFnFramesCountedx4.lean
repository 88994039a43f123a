/- Walks of the functions that the law reaches: each comes to just what the function that is told of it tells, for all arguments. -/
import Derived.Test.YtcmlmjgoidpabaaDoorZMFnFramesCountedx0
import Derived.Test.YtcmlmjgoidpabaaDoorZMFnFramesCountedx2
import Derived.Test.YtcmlmjgoidpabaaDoorZMFnFramesCountedx3
namespace Go.Proofs.YtcmlmjgoidpabaaDoor.MFnFramesCounted
open Go.RowKit Go.Proofs.YtcmlmjgoidpabaaDoorW.PrintWords Go.Proofs.YtcmlmjgoidpabaaDoorW.PrintLast Go.Proofs.YtcmlmjgoidpabaaDoorW.PrintMore
set_option linter.unusedVariables false
set_option linter.unusedSimpArgs false
mutual
def spec_frWays.l0 : Nat → Int → List Int → List Int → ByteArray → Int → Bool → Int → Option (List Int)
 | 0, _, _, _, _, _, _, _ => none
 | k + 1, x1, x5, x6, x7, x215000, x215001, x215002 => if x7.toList = ([] : List UInt8) then (some x5) else (if 0 ≤ (wrap64 (x1 + 1)) then (if (wrap64 (x1 + 1) : Int).toNat ≤ 35184372088832 then (spec_frWays.l1 k x1 x5 x6 x7 (List.replicate (wrap64 (x1 + 1) : Int).toNat 0) 0 x215000 x215001 x215002) else (none)) else (none))
def spec_frWays.l1 : Nat → Int → List Int → List Int → ByteArray → List Int → Int → Int → Bool → Int → Option (List Int)
 | 0, _, _, _, _, _, _, _, _, _ => none
 | k + 1, x1, x5, x6, x7, x8, x9, x215000, x215001, x215002 => if x9 < (x7.size : Int) then (if 0 ≤ x9 then (spec_frWays.l2 k x1 x5 x6 x7 x8 x9 (((bt x7 x9) - 48) % 256) (((bt x7 x9) - 48) % 256) x215000 x215001 x215002) else (none)) else (spec_frWays.l3 k x1 x5 x8 x7 x8 (x8.length : Int) 0 x215000 x215001 x215002)
def spec_frWays.l2 : Nat → Int → List Int → List Int → ByteArray → List Int → Int → Int → Int → Int → Bool → Int → Option (List Int)
 | 0, _, _, _, _, _, _, _, _, _, _, _ => none
 | k + 1, x1, x5, x6, x7, x8, x9, x10, x11, x215000, x215001, x215002 => if x11 ≤ x1 then (if 0 ≤ x11 then (if x11 < (x8.length : Int) then (if 0 ≤ (wrap64 (x11 - x10)) then (if (wrap64 (x11 - x10)) < (x6.length : Int) then ((spec_l1Least.f (wrap64 ((rd x8 x11) + (rd x6 (wrap64 (x11 - x10))))) 1000000000000001).bind fun t229 => (spec_frWays.l2 k x1 x5 x6 x7 (x8.set (x11 : Int).toNat t229) x9 x10 (wrap64 (x11 + 1)) x215000 x215001 x215002)) else (none)) else (none)) else (none)) else (none)) else (spec_frWays.l1 k x1 x5 x6 x7 x8 (wrap64 (x9 + 1)) x215000 x215001 x215002)
def spec_frWays.l3 : Nat → Int → List Int → List Int → ByteArray → List Int → Int → Int → Int → Bool → Int → Option (List Int)
 | 0, _, _, _, _, _, _, _, _, _, _ => none
 | k + 1, x1, x5, x6, x7, x66, x67, x68, x215000, x215001, x215002 => if x68 < x67 then (if 0 ≤ x68 then (if x68 < (x66.length : Int) then (if x68 < (x5.length : Int) then ((spec_l1Least.f (wrap64 ((rd x5 x68) + (rd x66 x68))) 1000000000000001).bind fun t233 => (spec_frWays.l3 k x1 (x5.set (x68 : Int).toNat t233) x6 x7 x66 x67 (wrap64 (x68 + 1)) x215000 x215001 x215002)) else (none)) else (none)) else (none)) else (if 0 < (x7.size : Int) then ((spec_frPot.f k x215000 x215001 x215002 (bt x7 0)).bind fun bt235 => ((spec_frNext.f k bt235.1 bt235.2.1 bt235.2.2.1).bind fun t239 => (spec_frWays.l0 k x1 x5 x6 t239 bt235.1 bt235.2.1 bt235.2.2.1))) else (none))
end
def spec_frWays.f (k : Nat) (a0_0 : Int) (a0_1 : Bool) (a0_2 : Int) (a1 : Int) : Option (List Int) := if 0 ≤ (wrap64 (a1 + 1)) then (if (wrap64 (a1 + 1) : Int).toNat ≤ 35184372088832 then ((some (List.replicate (wrap64 (a1 + 1) : Int).toNat 0 : List Int)).bind fun y215 => (if 0 < (y215.length : Int) then ((some (List.replicate (wrap64 (a1 + 1) : Int).toNat 0 : List Int)).bind fun y219 => (if 0 < (y219.length : Int) then ((spec_frNext.f k a0_0 a0_1 a0_2).bind fun t223 => (spec_frWays.l0 k a1 (y215.set (0 : Int).toNat 1) (y219.set (0 : Int).toNat 1) t223 a0_0 a0_1 a0_2)) else (none))) else (none))) else (none)) else (none)
def spec_frWays.T16 : Bool × List (List Nat × List Nat) := (true, [([], []), ([], []), ([], []), ([], []), ([2, 3], [2, 3]), ([4], [4]), ([], []), ([], []), ([], []), ([7, 8], [7, 8]), ([6, 9], [6, 9]), ([10], [10]), ([5, 11], [5, 11]), ([12], [12]), ([0, 1, 0, 1, 2, 3, 4, 5, 6, 7, 8, 9, 10, 11, 12, 13], [0, 1]), ([14, 13, 13, 0, 1, 2, 3, 4, 5, 6, 7, 8, 9, 10, 11, 12, 13], [13, 14])])
def spec_frWays.B16 : List Nat := [0, 0, 0, 0, 12, 28, 0, 0, 0, 384, 960, 1984, 4092, 8188, 16383, 32767]
theorem spec_frWays.tab16 : rtab .any (opsOf Tryd.f37 16) = spec_frWays.T16 := by kernel_rfl
theorem spec_frWays.bits16 : waitsOk spec_frWays.T16.2 spec_frWays.B16 = true := by kernel_rfl
def spec_frWays.T23 : Bool × List (List Nat × List Nat) := (true, [([], []), ([], []), ([1], [1]), ([0, 2], [0, 2]), ([3], [3]), ([4], [4]), ([4], [4]), ([5, 3, 0, 1, 2, 3, 4, 5], [5])])
def spec_frWays.B23 : List Nat := [0, 0, 2, 7, 15, 31, 31, 63]
theorem spec_frWays.tab23 : rtab .any (opsOf Tryd.f37 23) = spec_frWays.T23 := by kernel_rfl
theorem spec_frWays.bits23 : waitsOk spec_frWays.T23.2 spec_frWays.B23 = true := by kernel_rfl
set_option maxHeartbeats 8000000 in
set_option maxRecDepth 100000 in
theorem spec_frWays.calls (k : Nat) (a0_0 : Int) (a0_1 : Bool) (a0_2 : Int) (a1 : Int) (r : List Int) (w : World) (h : spec_frWays.f k a0_0 a0_1 a0_2 a1 = some r) :
  Calls Tryd.prog 37 #[.agg #[.int .i64 a0_0, .bool a0_1, .int .i64 a0_2], .int .i64 a1] w fun e w' => ∃ v0_ : Value, e = .returned (v0_) ∧ Kd.R (Kd.int .i64) 3 w' w.heap.size (fun _ => True) v0_ r ∧ Below w.heap.size w w' := by
 have hu25 := Tryd.underlying25
 have HB := Aside0.mk (Below.refl w.heap.size w)
 have H : (if 0 ≤ (wrap64 (a1 + 1)) then (if (wrap64 (a1 + 1) : Int).toNat ≤ 35184372088832 then ((some (List.replicate (wrap64 (a1 + 1) : Int).toNat 0 : List Int)).bind fun y215 => (if 0 < (y215.length : Int) then ((some (List.replicate (wrap64 (a1 + 1) : Int).toNat 0 : List Int)).bind fun y219 => (if 0 < (y219.length : Int) then ((spec_frNext.f k a0_0 a0_1 a0_2).bind fun t223 => (spec_frWays.l0 k a1 (y215.set (0 : Int).toNat 1) (y219.set (0 : Int).toNat 1) t223 a0_0 a0_1 a0_2)) else (none))) else (none))) else (none)) else (none)) = some r := h
 clear h
 obtain ⟨ji3, hji3⟩ : ∃ j_ : Int, (wrap64 (a1 + 1)) = j_ := ⟨_, rfl⟩
 replace H : (if 0 ≤ (ji3) then (if (ji3 : Int).toNat ≤ 35184372088832 then ((some (List.replicate (ji3 : Int).toNat 0 : List Int)).bind fun y215 => (if 0 < (y215.length : Int) then ((some (List.replicate (ji3 : Int).toNat 0 : List Int)).bind fun y219 => (if 0 < (y219.length : Int) then ((spec_frNext.f k a0_0 a0_1 a0_2).bind fun t223 => (spec_frWays.l0 k a1 (y215.set (0 : Int).toNat 1) (y219.set (0 : Int).toNat 1) t223 a0_0 a0_1 a0_2)) else (none))) else (none))) else (none)) else (none)) = some r := by first | (rw [hji3] at H; exact H) | (simp only [hji3] at H ⊢; exact H)
 have hji3w : (IntKind.i64.wrap (a1 + 1)) = ji3 := (i64_w _).trans hji3
 by_cases c4 : 0 ≤ (ji3)
 ·rw [if_pos c4] at H
  have c4b0 := eq_true c4
  have c4b1 : decide (0 ≤ (ji3)) = true := decide_eq_true c4
  clear c4
  by_cases c5 : (ji3 : Int).toNat ≤ 35184372088832
  ·rw [if_pos c5] at H
   have c5b0 := eq_true c5
   have c5b1 : decide ((ji3 : Int).toNat ≤ 35184372088832) = true := decide_eq_true c5
   clear c5
   obtain ⟨y215, hy215⟩ : ∃ y_ : List Int, y_ = (List.replicate (ji3 : Int).toNat 0) := ⟨_, rfl⟩
   replace H : (if 0 < (y215.length : Int) then ((some (List.replicate (ji3 : Int).toNat 0 : List Int)).bind fun y219 => (if 0 < (y219.length : Int) then ((spec_frNext.f k a0_0 a0_1 a0_2).bind fun t223 => (spec_frWays.l0 k a1 (y215.set (0 : Int).toNat 1) (y219.set (0 : Int).toNat 1) t223 a0_0 a0_1 a0_2)) else (none))) else (none)) = some r := by first | (rw [hy215]; with_reducible exact H) | (have H2_ := (Option.bind_some _ _).symm.trans H; rw [hy215]; with_reducible exact H2_) | (have H2_ := (Option.bind_some _ _).symm.trans H; with_reducible exact H2_) | with_reducible exact H | (rw [hy215]; exact H) | exact H
   have Ny215 := Aside0.mk hy215
   clear hy215
   by_cases c6 : 0 < (y215.length : Int)
   ·rw [if_pos c6] at H
    have c6b0 : decide (0 < (y215.length : Int)) = true := decide_eq_true c6
    have c6b1 : decide (0 < y215.length) = true := decide_eq_true (by omega)
    clear c6
    obtain ⟨y218, hy218⟩ : ∃ y_ : List Int, y_ = (y215.set (0 : Int).toNat 1) := ⟨_, rfl⟩
    replace H : ((some (List.replicate (ji3 : Int).toNat 0 : List Int)).bind fun y219 => (if 0 < (y219.length : Int) then ((spec_frNext.f k a0_0 a0_1 a0_2).bind fun t223 => (spec_frWays.l0 k a1 y218 (y219.set (0 : Int).toNat 1) t223 a0_0 a0_1 a0_2)) else (none))) = some r := by first | (rw [hy218]; with_reducible exact H) | (have H2_ := (Option.bind_some _ _).symm.trans H; rw [hy218]; with_reducible exact H2_) | (have H2_ := (Option.bind_some _ _).symm.trans H; with_reducible exact H2_) | with_reducible exact H | (rw [hy218]; exact H) | exact H
    have Ny218 := Aside0.mk hy218
    clear hy218
    obtain ⟨y219, hy219⟩ : ∃ y_ : List Int, y_ = (List.replicate (ji3 : Int).toNat 0) := ⟨_, rfl⟩
    replace H : (if 0 < (y219.length : Int) then ((spec_frNext.f k a0_0 a0_1 a0_2).bind fun t223 => (spec_frWays.l0 k a1 y218 (y219.set (0 : Int).toNat 1) t223 a0_0 a0_1 a0_2)) else (none)) = some r := by first | (rw [hy219]; with_reducible exact H) | (have H2_ := (Option.bind_some _ _).symm.trans H; rw [hy219]; with_reducible exact H2_) | (have H2_ := (Option.bind_some _ _).symm.trans H; with_reducible exact H2_) | with_reducible exact H | (rw [hy219]; exact H) | exact H
    have Ny219 := Aside0.mk hy219
    clear hy219
    by_cases c8 : 0 < (y219.length : Int)
    ·rw [if_pos c8] at H
     have c8b0 : decide (0 < (y219.length : Int)) = true := decide_eq_true c8
     have c8b1 : decide (0 < y219.length) = true := decide_eq_true (by omega)
     clear c8
     obtain ⟨y222, hy222⟩ : ∃ y_ : List Int, y_ = (y219.set (0 : Int).toNat 1) := ⟨_, rfl⟩
     replace H : ((spec_frNext.f k a0_0 a0_1 a0_2).bind fun t223 => (spec_frWays.l0 k a1 y218 y222 t223 a0_0 a0_1 a0_2)) = some r := by first | (rw [hy222]; with_reducible exact H) | (have H2_ := (Option.bind_some _ _).symm.trans H; rw [hy222]; with_reducible exact H2_) | (have H2_ := (Option.bind_some _ _).symm.trans H; with_reducible exact H2_) | with_reducible exact H | (rw [hy222]; exact H) | exact H
     have Ny222 := Aside0.mk hy222
     clear hy222
     replace H := Option.bind_eq_some_iff.mp H
     obtain ⟨t223, A100, H⟩ := H
     (try dsimp only at H)
     have A10 := Aside0.mk A100
     clear A100
     have H' := Aside0.mk H
     clear H
     go_enter Tryd.func37, Tryd.ntmps37
     go_wp2_with (first | ((with_reducible refine gate_dst (N := 2) rfl ?_); refine bxU (cs := #[.int .i64 a0_0, .bool a0_1, .int .i64 a0_2]) (t := 25) ?_; intro gb214 hg w11 hbox hb; have n0_ := bsU hb; have n1_ := Aside0.mk (hbox); have n2_ := geU hg; have n3_ := geU hg; clear HB; have HB := n0_; have BK214 := n1_; have GW214 := n2_; have GE214 := n3_; clear n0_ n1_ n2_ n3_; clear hb hbox hg) | ((with_reducible refine gate_dst (N := 16) rfl ?_); refine Kd.R_make (Kd.int .i64) _ 3 rfl (N := 16) rfl 40 _ _ rfl ji3 rfl rfl Tryd.underlying40 (.int .i64 0) 8 info3 rfl (by decide) (by omega) 0 (ok := fun _ => True) (okp := fun _ => True) rfl (fun _ hk => hk) trivial (of_decide_eq_true (by first | (with_reducible assumption) | assumption)) (Nat.le_trans (Nat.mul_le_mul_right _ (of_decide_eq_true (by first | (with_reducible assumption) | assumption) : ji3.toNat ≤ 35184372088832)) (by omega)) (Below.refl _ _) (Nat.le_refl _) ?_; intro v216 w12 ho13 hb hg_ hnew_; clear hg_ hnew_; (first | rw [← Ny215.out] at ho13 | (simp only [Int.reduceToNat] at ho13; rw [← Ny215.out] at ho13)); have n0_ := Aside0.mk (Kd.R_lower ho13 (below_size hbU)); have n1_ := bbU BK214 hb; have n2_ := bsU hb; clear BK214; clear HB; have HO217 := n0_; have BK214 := n1_; have HB := n2_; clear n0_ n1_ n2_; clear hb ho13; have p7 : 0 ≤ (0 : Int) := (by omega); have q7 : (0 : Int) < ((y215.length : Int) : Int) := of_decide_eq_true (by first | (with_reducible assumption) | assumption); have qi7 : (0 < y215.length) = True := eq_true (by omega); obtain ⟨go7, co7, eo7, gb7, gl7, cl7, HG7⟩ := Kd.R_form HO217.out (by omega); (first | cases eo7 | (injection eo7 with ea_ en_ ec_; (first | subst ea_ | (injection ea_ with ea_; subst ea_)); subst ec_; clear en_)); have GB7 := Aside0.mk gb7; have GG7 := Aside0.mk HG7; clear gb7 gl7 HG7; obtain ⟨hx7_0, hf7_0⟩ := Kd.R_celln 0 HO217.out (0 : Int) p7 q7; (try rw [show ((0 : Int)).toNat = 0 from rfl] at hx7_0); (try simp only [Nat.reduceMul, Nat.zero_mul, Nat.zero_add, Nat.reduceAdd] at hx7_0); (try rw [show ((0 : Int)).toNat = 0 from rfl] at hf7_0); (try simp only [Nat.reduceMul, Nat.zero_mul, Nat.zero_add, Nat.reduceAdd] at hf7_0); replace p7 := eq_true p7; replace q7 := eq_true q7; obtain ⟨hy14_, hz14_⟩ := Kd.R_celln 0 HO217.out (0 : Int) (by omega) (of_decide_eq_true (by first | (with_reducible assumption) | assumption)); (try simp only [Int.reduceToNat, Int.toNat_zero, Int.toNat_ofNat, Nat.reduceMul, Nat.zero_mul, Nat.zero_add] at hy14_ hz14_); (try rw [show ((0 : Int)).toNat = 0 from rfl] at hy14_); (try rw [show ((0 : Int)).toNat = 0 from rfl] at hz14_); have HP14 := Kd.R_putg HO217.out (0 : Int) 1) | ((with_reducible refine gate_store (t := 3) (p := 18) rfl ?_); refine store_event (t := 3) (p := 18) (v := ?vo_w15) (w1 := (w12.setCell ⟨go7, (0 : Int).toNat, none⟩ (.int .i64 1))) ?hg ?ho ?hn ?hr ?_; (case ho => rfl); (case hg => rfl); (case hn => rfl); (case hr => first | (go_simp; done) | (go_simp; rfl)); intro w15 hw; have hg : w12.grownBy w15 (some go7) := (by rw [hw]; exact HP14.2); have hp_ : Kd.R (Kd.int .i64) 3 w15 w.heap.size (fun _ => True) (.slice (some ⟨go7, 0, none⟩) y215.length co7) y218 := (by rw [hw, Ny218.out]; exact HP14.1); clear HP14; have n0_ := Aside0.mk (blk_grown (g := gb214) (o := .cells #[.int .i64 a0_0, .bool a0_1, .int .i64 a0_2] 25 (0, 0)) bkU hg (Kd.R_ne HO217.out BK214.out (by decide))); have n1_ := Aside0.mk (hp_); have n2_ := Aside0.mk ((by rw [hw]; exact below_set (HB.out) GB7.out : Below w.heap.size w w15)); clear BK214; clear HO217; clear HB; have BK214 := n0_; have HO217 := n1_; have HB := n2_; clear n0_ n1_ n2_; clear hg hw hp_) | ((with_reducible refine gate_dst (N := 21) rfl ?_); refine Kd.R_make (Kd.int .i64) _ 3 rfl (N := 21) rfl 40 _ _ rfl ji3 rfl rfl Tryd.underlying40 (.int .i64 0) 8 info3 rfl (by decide) (by omega) 0 (ok := fun _ => True) (okp := fun _ => True) rfl (fun _ hk => hk) trivial (of_decide_eq_true (by first | (with_reducible assumption) | assumption)) (Nat.le_trans (Nat.mul_le_mul_right _ (of_decide_eq_true (by first | (with_reducible assumption) | assumption) : ji3.toNat ≤ 35184372088832)) (by omega)) (Below.refl _ _) (Nat.le_refl _) ?_; intro v220 w16 ho17 hb hg_ hnew_; clear hg_ hnew_; (first | rw [← Ny219.out] at ho17 | (simp only [Int.reduceToNat] at ho17; rw [← Ny219.out] at ho17)); have n0_ := Aside0.mk (Kd.R_elder' (by (with_reducible repeat (first | apply Kd.R_alloc | apply Kd.R_drewN | apply Kd.R_drew)); exact HO217.out) (Kd.R_base ho17) hb); have n1_ := Aside0.mk (Kd.R_lower (Kd.R_new' ho17 (Kd.R_lt (by (with_reducible repeat (first | apply Kd.R_alloc | apply Kd.R_drewN | apply Kd.R_drew)); exact HO217.out))) (below_size hbU)); have n2_ := bbU BK214 hb; have n3_ := bsU hb; clear HO217; clear BK214; clear HB; have HO217 := n0_; have HO221 := n1_; have BK214 := n2_; have HB := n3_; clear n0_ n1_ n2_ n3_; clear hb ho17; have p9 : 0 ≤ (0 : Int) := (by omega); have q9 : (0 : Int) < ((y219.length : Int) : Int) := of_decide_eq_true (by first | (with_reducible assumption) | assumption); have qi9 : (0 < y219.length) = True := eq_true (by omega); obtain ⟨go9, co9, eo9, gb9, gl9, cl9, HG9⟩ := Kd.R_form HO221.out (by omega); (first | cases eo9 | (injection eo9 with ea_ en_ ec_; (first | subst ea_ | (injection ea_ with ea_; subst ea_)); subst ec_; clear en_)); have GB9 := Aside0.mk gb9; have GG9 := Aside0.mk HG9; clear gb9 gl9 HG9; obtain ⟨hx9_0, hf9_0⟩ := Kd.R_celln 0 HO221.out (0 : Int) p9 q9; (try rw [show ((0 : Int)).toNat = 0 from rfl] at hx9_0); (try simp only [Nat.reduceMul, Nat.zero_mul, Nat.zero_add, Nat.reduceAdd] at hx9_0); (try rw [show ((0 : Int)).toNat = 0 from rfl] at hf9_0); (try simp only [Nat.reduceMul, Nat.zero_mul, Nat.zero_add, Nat.reduceAdd] at hf9_0); replace p9 := eq_true p9; replace q9 := eq_true q9; have n_ := Aside0.mk (Kd.R_mono (ok' := (fun k_ => some k_ ≠ (.slice (some ⟨go7, 0, none⟩) y215.length co7 : Value).ownBlock)) HO221.out (fun k_ hk => hk.2)); clear HO221; have HO221 := n_; clear n_; obtain ⟨hy18_, hz18_⟩ := Kd.R_celln 0 HO221.out (0 : Int) (by omega) (of_decide_eq_true (by first | (with_reducible assumption) | assumption)); (try simp only [Int.reduceToNat, Int.toNat_zero, Int.toNat_ofNat, Nat.reduceMul, Nat.zero_mul, Nat.zero_add] at hy18_ hz18_); (try rw [show ((0 : Int)).toNat = 0 from rfl] at hy18_); (try rw [show ((0 : Int)).toNat = 0 from rfl] at hz18_); have HP18 := Kd.R_putg HO221.out (0 : Int) 1) | ((with_reducible refine gate_store (t := 3) (p := 23) rfl ?_); refine store_event (t := 3) (p := 23) (v := ?vo_w19) (w1 := (w16.setCell ⟨go9, (0 : Int).toNat, none⟩ (.int .i64 1))) ?hg ?ho ?hn ?hr ?_; (case ho => rfl); (case hg => rfl); (case hn => rfl); (case hr => first | (go_simp; done) | (go_simp; rfl)); intro w19 hw; have hg : w16.grownBy w19 (some go9) := (by rw [hw]; exact HP18.2); have hp_ : Kd.R (Kd.int .i64) 3 w19 w.heap.size (fun k_ => some k_ ≠ (.slice (some ⟨go7, 0, none⟩) y215.length co7 : Value).ownBlock) (.slice (some ⟨go9, 0, none⟩) y219.length co9) y222 := (by rw [hw, Ny222.out]; exact HP18.1); clear HP18; have n0_ := Aside0.mk (blk_grown (g := gb214) (o := .cells #[.int .i64 a0_0, .bool a0_1, .int .i64 a0_2] 25 (0, 0)) bkU hg (Kd.R_ne HO221.out BK214.out (by decide))); have n1_ := Aside0.mk (Kd.R_after (v := (.slice (some ⟨go9, 0, none⟩) y219.length co9)) (v1 := (.slice (some ⟨go9, 0, none⟩) y219.length co9)) (ok := (fun _ => True)) (by (with_reducible repeat (first | apply Kd.R_alloc | apply Kd.R_drewN | apply Kd.R_drew)); exact HO217.out) hg (.inl rfl)); have n2_ := Aside0.mk (hp_); have n3_ := Aside0.mk ((by rw [hw]; exact below_set (HB.out) GB9.out : Below w.heap.size w w19)); clear BK214; clear HO217; clear HO221; clear HB; have BK214 := n0_; have HO217 := n1_; have HO221 := n2_; have HB := n3_; clear n0_ n1_ n2_ n3_; clear hg hw hp_; obtain ⟨hcz20_0, hcz20_1, hcz20_2, hfz20_0, hfz20_1, hfz20_2⟩ := b3U BK214) | ((with_reducible refine gate_callee (f := 38) rfl ?_); refine goU (some 25) Tryd.func38 #[.agg #[.int .i64 a0_0, .bool a0_1, .int .i64 a0_2]] ?_; (with_reducible refine (spec_frNext.calls k a0_0 a0_1 a0_2 t223 _ A10.out).mono ?_); rintro e w21 ⟨rfl, hb⟩; refine ⟨_, rfl, ?_⟩; have n0_ := Aside0.mk (Kd.R_below (by (with_reducible repeat (first | apply Kd.R_alloc | apply Kd.R_drewN | apply Kd.R_drew)); exact HO217.out) hb); have n1_ := Aside0.mk (Kd.R_below (by (with_reducible repeat (first | apply Kd.R_alloc | apply Kd.R_drewN | apply Kd.R_drew)); exact HO221.out) hb); have n2_ := bbU BK214 hb; have n3_ := bsU hb; clear HO217; clear HO221; clear BK214; clear HB; have HO217 := n0_; have HO221 := n1_; have BK214 := n2_; have HB := n3_; clear n0_ n1_ n2_ n3_; (try clear hb); (try clear hb2); (try clear hk); (try clear hi)))
     go_loopg [6, 7] k (fun kq v6 v7 w' => ∃ (x5_1 : List Int) (x6_1 : List Int) (x7_1 : ByteArray) (x215000_1 : Int) (x215001_1 : Bool) (x215002_1 : Int), v7 = .string x7_1 ∧ Aside0 (spec_frWays.l0 kq a1 x5_1 x6_1 x7_1 x215000_1 x215001_1 x215002_1 = some r) ∧ Aside0 (kq ≤ k) ∧ Aside0 (Kd.R (Kd.int .i64) 3 w' w.heap.size (fun k_ => some k_ ≠ (v6 : Value).ownBlock) (.slice (some ⟨go7, 0, none⟩) y215.length co7) x5_1) ∧ Aside0 (Kd.R (Kd.int .i64) 3 w' w.heap.size (fun k_ => some k_ ≠ ((.slice (some ⟨go7, 0, none⟩) y215.length co7) : Value).ownBlock) v6 x6_1) ∧ Aside0 (w'.heap[gb214]? = some (.cells #[.int .i64 x215000_1, .bool x215001_1, .int .i64 x215002_1] 25 (0, 0))) ∧ Aside0 (Below w.heap.size w w'))
     case atStart => exact ⟨(y218), (y222), (t223), (a0_0), (a0_1), (a0_2), eqU, H', ⟨Nat.le_refl _⟩, ⟨by (with_reducible repeat (first | apply Kd.R_alloc | apply Kd.R_drewN | apply Kd.R_drew)); exact Kd.R_mono HO217.out (fun _ hk => hk.2)⟩, ⟨by (with_reducible repeat (first | apply Kd.R_alloc | apply Kd.R_drewN | apply Kd.R_drew)); exact HO221.out⟩, ⟨bkU⟩, ⟨hbU⟩⟩
     case round =>
      clear H'
      (try clear c4); (try clear c4b0); (try clear c4b1); (try clear c5); (try clear c5b0); (try clear c5b1); (try clear c6); (try clear c6b0); (try clear c6b1); (try clear p7); (try clear q7); (try clear qi7); (try clear c8); (try clear c8b0); (try clear c8b1); (try clear p9); (try clear q9); (try clear qi9); (try clear hcz20_0); (try clear hcz20_1); (try clear hcz20_2); (try clear hfz20_0); (try clear hfz20_1); (try clear hfz20_2); (try clear hx7_0); (try clear hx9_0); (try clear p7); (try clear p9); (try clear q7); (try clear q9)
      obtain ⟨x5_1, x6_1, x7_1, x215000_1, x215001_1, x215002_1, rfl, HA, HK1, HO_5, HO_6, BK214, HB⟩ := hrel
      have hl5_1 := (Kd.R_reads' HO_5.out).1
      rw [hl5_1] at HO_5
      (try simp only [hl5_1])
      (try simp only [hl5_1] at BK214)
      (try simp only [hl5_1] at HO_6)
      cases gk with
      | zero => exact absurd HA.out (by simp [spec_frWays.l0])
      | succ k1 =>
       have H := HA.out
       clear HA
       simp only [spec_frWays.l0] at H
       by_cases c22 : x7_1.toList = ([] : List UInt8)
       ·rw [if_pos c22] at H
        have c22b0 : (x7_1.toList == ([] : List UInt8)) = true := beq_iff_eq.mpr c22
        have c22b1 : (x7_1.toList != ([] : List UInt8)) = false := bne_eq_false_iff_eq.mpr c22
        clear c22
        obtain rfl := Option.some.inj H
        go_wp2
        go_ret
        exact ⟨_, by first | rfl | (simp [errW_none, errW_some] <;> rfl) | (simp only [← hji3]; first | rfl | (simp [errW_none, errW_some] <;> rfl)) | (simp [*, errW_none, errW_some] <;> rfl), by (with_reducible repeat (first | apply Kd.R_alloc | apply Kd.R_drewN | apply Kd.R_drew)); exact Kd.R_mono HO_5.out (fun _ hk => trivial), hbU⟩
       ·rw [if_neg c22] at H
        have c22b0 : (x7_1.toList == ([] : List UInt8)) = false := beq_eq_false_iff_ne.mpr c22
        have c22b1 : (x7_1.toList != ([] : List UInt8)) = true := bne_iff_ne.mpr c22
        obtain ⟨ji23, hji23⟩ : ∃ j_ : Int, (wrap64 (a1 + 1)) = j_ := ⟨_, rfl⟩
        replace H : (if 0 ≤ (ji23) then (if (ji23 : Int).toNat ≤ 35184372088832 then (spec_frWays.l1 k1 a1 x5_1 x6_1 x7_1 (List.replicate (ji23 : Int).toNat 0) 0 x215000_1 x215001_1 x215002_1) else (none)) else (none)) = some r := by first | (rw [hji23] at H; exact H) | (simp only [hji23] at H ⊢; exact H)
        have hji23w : (IntKind.i64.wrap (a1 + 1)) = ji23 := (i64_w _).trans hji23
        have hjx23 := hji23.symm.trans hji3
        subst hjx23
        by_cases c24 : 0 ≤ (ji23)
        ·rw [if_pos c24] at H
         have c24b0 := eq_true c24
         have c24b1 : decide (0 ≤ (ji23)) = true := decide_eq_true c24
         clear c24
         by_cases c25 : (ji23 : Int).toNat ≤ 35184372088832
         ·rw [if_pos c25] at H
          have c25b0 := eq_true c25
          have c25b1 : decide ((ji23 : Int).toNat ≤ 35184372088832) = true := decide_eq_true c25
          clear c25
          obtain ⟨y224, hy224⟩ : ∃ y_ : List Int, y_ = (List.replicate (ji23 : Int).toNat 0) := ⟨_, rfl⟩
          replace H : (spec_frWays.l1 k1 a1 x5_1 x6_1 x7_1 y224 0 x215000_1 x215001_1 x215002_1) = some r := by first | (rw [hy224]; with_reducible exact H) | (have H2_ := (Option.bind_some _ _).symm.trans H; rw [hy224]; with_reducible exact H2_) | (have H2_ := (Option.bind_some _ _).symm.trans H; with_reducible exact H2_) | with_reducible exact H | (rw [hy224]; exact H) | exact H
          have Ny224 := Aside0.mk hy224
          clear hy224
          have H' := Aside0.mk H
          clear H
          go_wp2_with (first | ((with_reducible refine gate_dst (N := 32) rfl ?_); refine Kd.R_make (Kd.int .i64) _ 3 rfl (N := 32) rfl 40 _ _ rfl ji23 rfl rfl Tryd.underlying40 (.int .i64 0) 8 info3 rfl (by decide) (by omega) 0 (ok := fun _ => True) (okp := fun _ => True) rfl (fun _ hk => hk) trivial (of_decide_eq_true (by first | (with_reducible assumption) | assumption)) (Nat.le_trans (Nat.mul_le_mul_right _ (of_decide_eq_true (by first | (with_reducible assumption) | assumption) : ji23.toNat ≤ 35184372088832)) (by omega)) (Below.refl _ _) (Nat.le_refl _) ?_; intro v225 w26 ho27 hb hg_ hnew_; clear hg_ hnew_; (first | rw [← Ny224.out] at ho27 | (simp only [Int.reduceToNat] at ho27; rw [← Ny224.out] at ho27)); have n0_ := Aside0.mk (Kd.R_elder' (by (with_reducible repeat (first | apply Kd.R_alloc | apply Kd.R_drewN | apply Kd.R_drew)); exact HO_5.out) (Kd.R_base ho27) hb); have n1_ := Aside0.mk (Kd.R_elder' (by (with_reducible repeat (first | apply Kd.R_alloc | apply Kd.R_drewN | apply Kd.R_drew)); exact HO_6.out) (Kd.R_base ho27) hb); have n2_ := Aside0.mk (Kd.R_lower (Kd.R_new' (Kd.R_new' ho27 (Kd.R_lt (by (with_reducible repeat (first | apply Kd.R_alloc | apply Kd.R_drewN | apply Kd.R_drew)); exact HO_5.out))) (Kd.R_lt (by (with_reducible repeat (first | apply Kd.R_alloc | apply Kd.R_drewN | apply Kd.R_drew)); exact HO_6.out))) (below_size hbU)); have n3_ := bbU BK214 hb; have n4_ := bsU hb; clear HO_5; clear HO_6; clear BK214; clear HB; have HO_5 := n0_; have HO_6 := n1_; have HO226 := n2_; have BK214 := n3_; have HB := n4_; clear n0_ n1_ n2_ n3_ n4_; clear hb ho27))
          go_loopg [9] k1 (fun kq v9 w' => ∃ (x8_2 : List Int) (x9_2 : Int), v9 = .int .i64 x9_2 ∧ Aside0 (spec_frWays.l1 kq a1 x5_1 x6_1 x7_1 x8_2 x9_2 x215000_1 x215001_1 x215002_1 = some r) ∧ Aside0 (kq ≤ k1) ∧ Aside0 (Kd.R (Kd.int .i64) 3 w' w.heap.size (fun k_ => some k_ ≠ (u6 : Value).ownBlock ∧ some k_ ≠ (v225 : Value).ownBlock) (.slice (some ⟨go7, 0, none⟩) x5_1.length co7) x5_1) ∧ Aside0 (Kd.R (Kd.int .i64) 3 w' w.heap.size (fun k_ => some k_ ≠ ((.slice (some ⟨go7, 0, none⟩) x5_1.length co7) : Value).ownBlock ∧ some k_ ≠ (v225 : Value).ownBlock) u6 x6_1) ∧ Aside0 (Kd.R (Kd.int .i64) 3 w' w.heap.size (fun k_ => some k_ ≠ ((.slice (some ⟨go7, 0, none⟩) x5_1.length co7) : Value).ownBlock ∧ some k_ ≠ (u6 : Value).ownBlock) v225 x8_2) ∧ Aside0 (w'.heap[gb214]? = some (.cells #[.int .i64 x215000_1, .bool x215001_1, .int .i64 x215002_1] 25 (0, 0))) ∧ Aside0 (Below w.heap.size w w'))
          case atStart => exact ⟨(y224), (0), eqU, H', ⟨Nat.le_refl _⟩, ⟨by (try simp only [hl5_1]); (with_reducible repeat (first | apply Kd.R_alloc | apply Kd.R_drewN | apply Kd.R_drew)); exact HO_5.out⟩, ⟨by (try simp only [hl5_1]); (with_reducible repeat (first | apply Kd.R_alloc | apply Kd.R_drewN | apply Kd.R_drew)); exact HO_6.out⟩, ⟨by (try simp only [hl5_1]); (with_reducible repeat (first | apply Kd.R_alloc | apply Kd.R_drewN | apply Kd.R_drew)); exact Kd.R_mono HO226.out (fun _ hk => ⟨hk.1.2, hk.2⟩)⟩, ⟨by (try simp only [hl5_1]); (with_reducible repeat (first | refine blk_drewN ?_ _ | refine blk_drew ?_ | refine blk_alloc ?_ _)); exact BK214.out⟩, ⟨hbU⟩⟩
          case round =>
           clear H'
           (try clear c4); (try clear c4b0); (try clear c4b1); (try clear c5); (try clear c5b0); (try clear c5b1); (try clear c6); (try clear c6b0); (try clear c6b1); (try clear p7); (try clear q7); (try clear qi7); (try clear c8); (try clear c8b0); (try clear c8b1); (try clear p9); (try clear q9); (try clear qi9); (try clear c22); (try clear c22b0); (try clear c22b1); (try clear c24); (try clear c24b0); (try clear c24b1); (try clear c25); (try clear c25b0); (try clear c25b1); (try clear hcz20_0); (try clear hcz20_1); (try clear hcz20_2); (try clear hfz20_0); (try clear hfz20_1); (try clear hfz20_2); (try clear hx7_0); (try clear hx9_0); (try clear p7); (try clear p9); (try clear q7); (try clear q9)
           obtain ⟨x8_2, x9_2, rfl, HA, HK2, HO_5, HO_6, HO_8, BK214, HB⟩ := hrel
           cases gk with
           | zero => exact absurd HA.out (by simp [spec_frWays.l1])
           | succ k2 =>
            have H := HA.out
            clear HA
            simp only [spec_frWays.l1] at H
            by_cases c28 : x9_2 < (x7_1.size : Int)
            ·rw [if_pos c28] at H
             have c28b0 : decide (x9_2 < (x7_1.size : Int)) = true := decide_eq_true c28
             clear c28
             by_cases c29 : 0 ≤ x9_2
             ·rw [if_pos c29] at H
              have c29b0 : decide (0 ≤ x9_2) = true := decide_eq_true c29
              clear c29
              have H' := Aside0.mk H
              clear H
              have p30 : 0 ≤ (x9_2 : Int) := of_decide_eq_true (by first | (with_reducible assumption) | assumption)
              have q30 : x9_2 < (x7_1.size : Int) := of_decide_eq_true (by first | (with_reducible assumption) | assumption)
              have hx30 := bt_at x7_1 x9_2
              replace p30 := eq_true p30
              replace q30 := eq_true q30
              go_wp2
              go_loopg [11] k2 (fun kq v11 w' => ∃ (x8_3 : List Int) (x11_3 : Int), v11 = .int .i64 x11_3 ∧ Aside0 (spec_frWays.l2 kq a1 x5_1 x6_1 x7_1 x8_3 x9_2 (((bt x7_1 x9_2) - 48) % 256) x11_3 x215000_1 x215001_1 x215002_1 = some r) ∧ Aside0 (kq ≤ k2) ∧ Aside0 (Kd.R (Kd.int .i64) 3 w' w.heap.size (fun k_ => some k_ ≠ (u6 : Value).ownBlock ∧ some k_ ≠ (v225 : Value).ownBlock) (.slice (some ⟨go7, 0, none⟩) x5_1.length co7) x5_1) ∧ Aside0 (Kd.R (Kd.int .i64) 3 w' w.heap.size (fun k_ => some k_ ≠ ((.slice (some ⟨go7, 0, none⟩) x5_1.length co7) : Value).ownBlock ∧ some k_ ≠ (v225 : Value).ownBlock) u6 x6_1) ∧ Aside0 (Kd.R (Kd.int .i64) 3 w' w.heap.size (fun k_ => some k_ ≠ ((.slice (some ⟨go7, 0, none⟩) x5_1.length co7) : Value).ownBlock ∧ some k_ ≠ (u6 : Value).ownBlock) v225 x8_3) ∧ Aside0 (w'.heap[gb214]? = some (.cells #[.int .i64 x215000_1, .bool x215001_1, .int .i64 x215002_1] 25 (0, 0))) ∧ Aside0 (Below w.heap.size w w'))
              case atStart => exact ⟨(x8_2), (((bt x7_1 x9_2) - 48) % 256), eqU, H', ⟨Nat.le_refl _⟩, ⟨by (try simp only [hl5_1]); (with_reducible repeat (first | apply Kd.R_alloc | apply Kd.R_drewN | apply Kd.R_drew)); exact HO_5.out⟩, ⟨by (try simp only [hl5_1]); (with_reducible repeat (first | apply Kd.R_alloc | apply Kd.R_drewN | apply Kd.R_drew)); exact HO_6.out⟩, ⟨by (try simp only [hl5_1]); (with_reducible repeat (first | apply Kd.R_alloc | apply Kd.R_drewN | apply Kd.R_drew)); exact HO_8.out⟩, ⟨by (try simp only [hl5_1]); (with_reducible repeat (first | refine blk_drewN ?_ _ | refine blk_drew ?_ | refine blk_alloc ?_ _)); exact BK214.out⟩, ⟨hbU⟩⟩
              case round =>
               clear H'
               (try clear c4); (try clear c4b0); (try clear c4b1); (try clear c5); (try clear c5b0); (try clear c5b1); (try clear c6); (try clear c6b0); (try clear c6b1); (try clear p7); (try clear q7); (try clear qi7); (try clear c8); (try clear c8b0); (try clear c8b1); (try clear p9); (try clear q9); (try clear qi9); (try clear c22); (try clear c22b0); (try clear c22b1); (try clear c24); (try clear c24b0); (try clear c24b1); (try clear c25); (try clear c25b0); (try clear c25b1); (try clear c28); (try clear c28b0); (try clear c29); (try clear c29b0); (try clear p30); (try clear q30); (try clear hx30); (try clear hcz20_0); (try clear hcz20_1); (try clear hcz20_2); (try clear hfz20_0); (try clear hfz20_1); (try clear hfz20_2); (try clear hx7_0); (try clear hx9_0); (try clear p30); (try clear p7); (try clear p9); (try clear q30); (try clear q7); (try clear q9)
               obtain ⟨x8_3, x11_3, rfl, HA, HK3, HO_5, HO_6, HO_8, BK214, HB⟩ := hrel
               cases gk with
               | zero => exact absurd HA.out (by simp [spec_frWays.l2])
               | succ k3 =>
                have H := HA.out
                clear HA
                simp only [spec_frWays.l2] at H
                by_cases c31 : x11_3 ≤ a1
                ·rw [if_pos c31] at H
                 have c31b0 : decide (x11_3 ≤ a1) = true := decide_eq_true c31
                 clear c31
                 by_cases c32 : 0 ≤ x11_3
                 ·rw [if_pos c32] at H
                  have c32b0 : decide (0 ≤ x11_3) = true := decide_eq_true c32
                  clear c32
                  by_cases c33 : x11_3 < (x8_3.length : Int)
                  ·rw [if_pos c33] at H
                   have c33b0 : decide (x11_3 < (x8_3.length : Int)) = true := decide_eq_true c33
                   clear c33
                   obtain ⟨ji34, hji34⟩ : ∃ j_ : Int, (wrap64 (x11_3 - (((bt x7_1 x9_2) - 48) % 256))) = j_ := ⟨_, rfl⟩
                   replace H : (if 0 ≤ (ji34) then (if (ji34) < (x6_1.length : Int) then ((spec_l1Least.f (wrap64 ((rd x8_3 x11_3) + (rd x6_1 (ji34)))) 1000000000000001).bind fun t229 => (spec_frWays.l2 k3 a1 x5_1 x6_1 x7_1 (x8_3.set (x11_3 : Int).toNat t229) x9_2 (((bt x7_1 x9_2) - 48) % 256) (wrap64 (x11_3 + 1)) x215000_1 x215001_1 x215002_1)) else (none)) else (none)) = some r := by first | (rw [hji34] at H; exact H) | (simp only [hji34] at H ⊢; exact H)
                   have hji34w : (IntKind.i64.wrap (x11_3 - (((bt x7_1 x9_2) - 48) % 256))) = ji34 := (i64_w _).trans hji34
                   by_cases c35 : 0 ≤ (ji34)
                   ·rw [if_pos c35] at H
                    have c35b0 : decide (0 ≤ (ji34)) = true := decide_eq_true c35
                    clear c35
                    by_cases c36 : (ji34) < (x6_1.length : Int)
                    ·rw [if_pos c36] at H
                     have c36b0 : decide ((ji34) < (x6_1.length : Int)) = true := decide_eq_true c36
                     clear c36
                     replace H := Option.bind_eq_some_iff.mp H
                     obtain ⟨t229, A370, H⟩ := H
                     (try dsimp only at H)
                     have A37 := Aside0.mk A370
                     clear A370
                     obtain ⟨y230, hy230⟩ : ∃ y_ : List Int, y_ = (x8_3.set (x11_3 : Int).toNat t229) := ⟨_, rfl⟩
                     replace H : (spec_frWays.l2 k3 a1 x5_1 x6_1 x7_1 y230 x9_2 (((bt x7_1 x9_2) - 48) % 256) (wrap64 (x11_3 + 1)) x215000_1 x215001_1 x215002_1) = some r := by first | (rw [hy230]; with_reducible exact H) | (have H2_ := (Option.bind_some _ _).symm.trans H; rw [hy230]; with_reducible exact H2_) | (have H2_ := (Option.bind_some _ _).symm.trans H; with_reducible exact H2_) | with_reducible exact H | (rw [hy230]; exact H) | exact H
                     have Ny230 := Aside0.mk hy230
                     clear hy230
                     have H' := Aside0.mk H
                     clear H
                     try go_wp2
                     have n0_ := Aside0.mk (Kd.R_drew HO_5.out)
                     have n1_ := Aside0.mk (Kd.R_drew HO_6.out)
                     have n2_ := Aside0.mk (Kd.R_drew HO_8.out)
                     have n3_ := Aside0.mk (blk_drew BK214.out)
                     have n4_ := Aside0.mk (below_drew1 HB.out)
                     clear HO_5
                     clear HO_6
                     clear HO_8
                     clear BK214
                     clear HB
                     have HO_5 := n0_
                     have HO_6 := n1_
                     have HO_8 := n2_
                     have BK214 := n3_
                     have HB := n4_
                     clear n0_ n1_ n2_ n3_ n4_
                     obtain ⟨Ao40, co40, eo40⟩ := Kd.R_slice HO_8.out
                     (first | subst eo40 | (injection eo40 with f1_ f2_ f3_; have f4_ := f1_.symm; have f5_ := f3_.symm; clear f1_ f2_ f3_; subst f4_; subst f5_))
                     have p227 : 0 ≤ (x11_3 : Int) := of_decide_eq_true (by first | (with_reducible assumption) | assumption)
                     have q227 : x11_3 < (x8_3.length : Int) := of_decide_eq_true (by first | (with_reducible assumption) | assumption)
                     obtain ⟨ad227, e227, hx227_0⟩ := Kd.at_int (Kd.R_reads' HO_8.out).2.2 x11_3 p227 q227
                     cases e227
                     replace p227 := eq_true p227
                     replace q227 := eq_true q227
                     obtain ⟨Ao41, co41, eo41⟩ := Kd.R_slice HO_6.out
                     (first | subst eo41 | (injection eo41 with f1_ f2_ f3_; have f4_ := f1_.symm; have f5_ := f3_.symm; clear f1_ f2_ f3_; subst f4_; subst f5_))
                     have p228 : 0 ≤ ((ji34) : Int) := of_decide_eq_true (by first | (with_reducible assumption) | assumption)
                     have q228 : (ji34) < (x6_1.length : Int) := of_decide_eq_true (by first | (with_reducible assumption) | assumption)
                     obtain ⟨ad228, e228, hx228_0⟩ := Kd.at_int (Kd.R_reads' HO_6.out).2.2 (ji34) p228 q228
                     cases e228
                     replace p228 := eq_true p228
                     replace q228 := eq_true q228
                     refine start_ (n := 16) (S := fun w' => w'.cell? (ad227.add (x11_3).toNat) = some (.int .i64 (rd x8_3 x11_3)) ∧ w'.cell? (ad228.add ((ji34)).toNat) = some (.int .i64 (rd x6_1 (ji34)))) (ds := [15]) #[false, false, false, false, false, false, false, false, false, false, false, false, false, false, false, false] (by kernel_rfl) rfl rfl ⟨hx227_0, hx228_0⟩ (fun hHeld => ?_); refine with_tabW spec_frWays.tab16 spec_frWays.bits16 (fun HT_ HW_ => ?_)
                     generalize wr.drew = w39 at HO_5 HO_6 HO_8 BK214 HB hx227_0 hx228_0 hHeld ⊢
                     refine pure_ (i := 0) (N := some 50) (v := ?_) (a' := ?_) #[true, false, false, false, false, false, false, false, false, false, false, false, false, false, false, false] rfl rfl (any_of HT_.out (by kernel_rfl)) (fun _ _ _ h => h) (Or.inl ⟨by rfl, ?_⟩) ?_ ?_
                     rotate_left
                     ·intro w'
                      go_simp
                      with_reducible rfl
                     rotate_left
                     ·simp only [Act.put, List.setIfInBounds_toArray, List.set_cons_zero, List.set_cons_succ, i64_w, i32_w]
                      rfl
                     refine pure_ (i := 1) (N := some 51) (v := ?_) (a' := ?_) #[true, true, false, false, false, false, false, false, false, false, false, false, false, false, false, false] rfl rfl (any_of HT_.out (by kernel_rfl)) (fun _ _ _ h => h) (Or.inl ⟨by rfl, ?_⟩) ?_ ?_
                     rotate_left
                     ·intro w'
                      go_simp
                      with_reducible rfl
                     rotate_left
                     ·simp only [Act.put, List.setIfInBounds_toArray, List.set_cons_zero, List.set_cons_succ, i64_w, i32_w]
                      rfl
                     refine pure_ (i := 2) (N := some 52) (v := ?_) (a' := ?_) #[true, true, true, false, false, false, false, false, false, false, false, false, false, false, false, false] rfl rfl (any_of HT_.out (by kernel_rfl)) (fun _ _ _ h => h) (Or.inl ⟨by rfl, ?_⟩) ?_ ?_
                     rotate_left
                     ·intro w'
                      go_simp
                      with_reducible rfl
                     rotate_left
                     ·simp only [Act.put, List.setIfInBounds_toArray, List.set_cons_zero, List.set_cons_succ, i64_w, i32_w]
                      rfl
                     refine pure_ (i := 3) (N := some 53) (v := ?_) (a' := ?_) #[true, true, true, true, false, false, false, false, false, false, false, false, false, false, false, false] rfl rfl (any_of HT_.out (by kernel_rfl)) (fun _ _ _ h => h) (Or.inl ⟨by rfl, ?_⟩) ?_ ?_
                     rotate_left
                     ·intro w'
                      go_simp
                      with_reducible rfl
                     rotate_left
                     ·simp only [Act.put, List.setIfInBounds_toArray, List.set_cons_zero, List.set_cons_succ, i64_w, i32_w]
                      rfl
                     refine pure_ (i := 4) (N := some 54) (v := ?_) (a' := ?_) #[true, true, true, true, true, false, false, false, false, false, false, false, false, false, false, false] rfl rfl (any_of HT_.out (by kernel_rfl)) (fun _ _ _ h => h) (Or.inl ⟨by rfl, ?_⟩) ?_ ?_
                     rotate_left
                     ·intro w'
                      go_simp
                      with_reducible rfl
                     rotate_left
                     ·simp only [Act.put, List.setIfInBounds_toArray, List.set_cons_zero, List.set_cons_succ, i64_w, i32_w]
                      rfl
                     refine pure_ (i := 6) (N := some 56) (v := ?_) (a' := ?_) #[true, true, true, true, true, false, true, false, false, false, false, false, false, false, false, false] rfl rfl (any_of HT_.out (by kernel_rfl)) (fun _ _ _ h => h) (Or.inl ⟨by rfl, ?_⟩) ?_ ?_
                     rotate_left
                     ·intro w'
                      go_simp
                      with_reducible rfl
                     rotate_left
                     ·simp only [Act.put, List.setIfInBounds_toArray, List.set_cons_zero, List.set_cons_succ, i64_w, i32_w]
                      rfl
                     refine pure_ (i := 7) (N := some 57) (v := ?_) (a' := ?_) #[true, true, true, true, true, false, true, true, false, false, false, false, false, false, false, false] rfl rfl (any_of HT_.out (by kernel_rfl)) (fun _ _ _ h => h) (Or.inl ⟨by rfl, ?_⟩) ?_ ?_
                     rotate_left
                     ·intro w'
                      go_simp
                      with_reducible rfl
                     rotate_left
                     ·simp only [Act.put, List.setIfInBounds_toArray, List.set_cons_zero, List.set_cons_succ, i64_w, i32_w]
                      rfl
                     refine pure_ (i := 8) (N := some 58) (v := ?_) (a' := ?_) #[true, true, true, true, true, false, true, true, true, false, false, false, false, false, false, false] rfl rfl (any_of HT_.out (by kernel_rfl)) (fun _ _ _ h => h) (Or.inl ⟨by rfl, ?_⟩) ?_ ?_
                     rotate_left
                     ·intro w'
                      go_simp
                      with_reducible rfl
                     rotate_left
                     ·simp only [Act.put, List.setIfInBounds_toArray, List.set_cons_zero, List.set_cons_succ, i64_w, i32_w]
                      rfl
                     refine pure_ (i := 9) (N := some 59) (v := ?_) (a' := ?_) #[true, true, true, true, true, false, true, true, true, true, false, false, false, false, false, false] rfl rfl (any_of HT_.out (by kernel_rfl)) (fun _ _ _ h => h) (Or.inl ⟨by rfl, ?_⟩) ?_ ?_
                     rotate_left
                     ·intro w'
                      go_simp
                      with_reducible rfl
                     rotate_left
                     ·simp only [Act.put, List.setIfInBounds_toArray, List.set_cons_zero, List.set_cons_succ, i64_w, i32_w]
                      rfl
                     refine pure_ (i := 10) (N := some 60) (v := ?_) (a' := ?_) #[true, true, true, true, true, false, true, true, true, true, true, false, false, false, false, false] rfl rfl (any_of HT_.out (by kernel_rfl)) (fun _ _ _ h => h) (Or.inl ⟨by rfl, ?_⟩) ?_ ?_
                     rotate_left
                     ·intro w'
                      go_simp
                      with_reducible rfl
                     rotate_left
                     ·simp only [Act.put, List.setIfInBounds_toArray, List.set_cons_zero, List.set_cons_succ, i64_w, i32_w]
                      rfl
                     refine take_ (i := 5) (N := some 55) (v := ?_) (a' := ?_) #[true, true, true, true, true, true, true, true, true, true, true, false, false, false, false, false] rfl rfl (take_ofW HT_.out HW_.out (by kernel_rfl)) (fun _ _ _ h => h) (Or.inl ⟨by rfl, ?_⟩) hHeld ?_ ?_
                     rotate_left
                     ·rintro w' ⟨s0, s1⟩
                      go_simp
                      with_reducible rfl
                     rotate_left
                     ·simp only [Act.put, List.setIfInBounds_toArray, List.set_cons_zero, List.set_cons_succ, i64_w, i32_w]
                      rfl
                     refine take_ (i := 11) (N := some 61) (v := ?_) (a' := ?_) #[true, true, true, true, true, true, true, true, true, true, true, true, false, false, false, false] rfl rfl (take_ofW HT_.out HW_.out (by kernel_rfl)) (fun _ _ _ h => h) (Or.inl ⟨by rfl, ?_⟩) hHeld ?_ ?_
                     rotate_left
                     ·rintro w' ⟨s0, s1⟩
                      go_simp
                      with_reducible rfl
                     rotate_left
                     ·simp only [Act.put, List.setIfInBounds_toArray, List.set_cons_zero, List.set_cons_succ, i64_w, i32_w]
                      rfl
                     refine pure_ (i := 12) (N := some 62) (v := ?_) (a' := ?_) #[true, true, true, true, true, true, true, true, true, true, true, true, true, false, false, false] rfl rfl (any_of HT_.out (by kernel_rfl)) (fun _ _ _ h => h) (Or.inl ⟨by rfl, ?_⟩) ?_ ?_
                     rotate_left
                     ·intro w'
                      go_simp
                      with_reducible rfl
                     rotate_left
                     ·simp only [Act.put, List.setIfInBounds_toArray, List.set_cons_zero, List.set_cons_succ, i64_w, i32_w]
                      rfl
                     refine one_ (i := 13) (N := some 63) #[true, true, true, true, true, true, true, true, true, true, true, true, true, true, false, false] rfl rfl (one_of HT_.out (by kernel_rfl)) (by decide) (fun K hK => ?_)
                     refine goes_ Tryd.func45 (by kernel_rfl) rfl #[.int .i64 (wrap64 ((rd x8_3 x11_3) + (rd x6_1 (ji34)))), .int .i64 1000000000000001] (by rfl) rfl rfl (by (try simp only [List.map_toArray, List.map_cons, List.map_nil]); first | done | (simp only [hji34]; rfl) | rfl | (simp only [List.length_drop, List.length_take]; rfl)) ?_
                     with_reducible refine (spec_l1Least.calls (wrap64 ((rd x8_3 x11_3) + (rd x6_1 (ji34)))) 1000000000000001 t229 _ A37.out).mono ?_
                     rintro e w' ⟨rfl, ⟨nd, rfl⟩⟩
                     refine ⟨_, rfl, ?_⟩
                     have p38 : 0 ≤ (x11_3 : Int) := of_decide_eq_true (by first | (with_reducible assumption) | assumption)
                     have q38 : (x11_3 : Int) < ((x8_3.length : Int) : Int) := of_decide_eq_true (by first | (with_reducible assumption) | assumption)
                     obtain ⟨go38, co38, eo38, gb38, gl38, cl38, HG38⟩ := Kd.R_form HO_8.out (by omega)
                     (first | cases eo38 | (injection eo38 with ea_ en_ ec_; (first | subst ea_ | (injection ea_ with ea_; subst ea_)); subst ec_; clear en_))
                     have GB38 := Aside0.mk gb38
                     have GG38 := Aside0.mk HG38
                     clear gb38 gl38 HG38
                     (first | simp only [add_plain] at hx227_0 | skip)
                     obtain ⟨hx38_0, hf38_0⟩ := Kd.R_celln 0 HO_8.out (x11_3 : Int) p38 q38
                     replace p38 := eq_true p38
                     replace q38 := eq_true q38
                     have HP42 := Kd.R_putn HO_8.out (x11_3 : Int) t229
                     rw [← Ny230.out] at HP42
                     have HQ42 := Aside0.mk HP42
                     clear HP42
                     refine hK.out _ _ ⟨hHeld.1, hHeld.2⟩ (fun hHeld => ?_)
                     clear hK K
                     refine norm_ (a' := ?_) ?_ ?_
                     rotate_left
                     ·show Act.put _ (some 63) _ = _
                      simp only [Act.put, List.setIfInBounds_toArray, List.set_cons_zero, List.set_cons_succ, i64_w, i32_w]
                      rfl
                     refine pure_ (i := 14) (N := some 64) (v := ?_) (a' := ?_) #[true, true, true, true, true, true, true, true, true, true, true, true, true, true, true, false] rfl rfl (any_of HT_.out (by kernel_rfl)) (fun _ _ _ h => h) (Or.inl ⟨by rfl, ?_⟩) ?_ ?_
                     rotate_left
                     ·intro w'
                      go_simp
                      with_reducible rfl
                     rotate_left
                     ·simp only [Act.put, List.setIfInBounds_toArray, List.set_cons_zero, List.set_cons_succ, i64_w, i32_w]
                      rfl
                     refine last_ (i := 15) (N := none) #[true, true, true, true, true, true, true, true, true, true, true, true, true, true, true, true] rfl rfl (one_of HT_.out (by kernel_rfl)) (by decide) (fun K hK => ?_)
                     refine skip_ (w1 := ?_) (by rfl) rfl ?_ ?_
                     rotate_left
                     ·go_simp
                      rfl
                     refine hK.out _ _ ?_
                     clear hK K
                     refine done_ (done_of HT_.out (by kernel_rfl)) ?_
                     try go_wp2
                     go_roundg k3
                     case measure => have := HK1.out; have := HK2.out; have := HK3.out; omega
                     case rel => exact ⟨(y230), (wrap64 (x11_3 + 1)), eqU, H', ⟨by have := HK1.out; have := HK2.out; have := HK3.out; omega⟩, ⟨by (try simp only [hl5_1]); (with_reducible repeat (first | apply Kd.R_alloc | apply Kd.R_drewN | apply Kd.R_drew)); exact Kd.R_mono (Kd.R_far (p := ⟨go38, (x11_3 : Int).toNat, none⟩) (Kd.R_mono HO_5.out (fun k_ hk => (⟨hk, fun e_ => hk.2 (by rw [e_]; rfl)⟩ : _ ∧ k_ ≠ go38))) (fun _ hk => hk.2) (.int .i64 t229)) (fun _ hk => ⟨hk.1.1, hk.1.2⟩)⟩, ⟨by (try simp only [hl5_1]); (with_reducible repeat (first | apply Kd.R_alloc | apply Kd.R_drewN | apply Kd.R_drew)); exact Kd.R_mono (Kd.R_far (p := ⟨go38, (x11_3 : Int).toNat, none⟩) (Kd.R_mono HO_6.out (fun k_ hk => (⟨hk, fun e_ => hk.2 (by rw [e_]; rfl)⟩ : _ ∧ k_ ≠ go38))) (fun _ hk => hk.2) (.int .i64 t229)) (fun _ hk => ⟨hk.1.1, hk.1.2⟩)⟩, ⟨by (try simp only [hl5_1]); (with_reducible repeat (first | apply Kd.R_alloc | apply Kd.R_drewN | apply Kd.R_drew)); exact HQ42.out⟩, ⟨by (try simp only [hl5_1]); (with_reducible repeat (first | refine blk_drewN ?_ _ | refine blk_drew ?_ | refine blk_alloc ?_ _)); refine blk_far ?_ (by have h_ := Kd.R_ne HO_8.out BK214.out (by decide); intro e_; exact h_ (by rw [e_]; rfl)) _; (with_reducible repeat (first | refine blk_drewN ?_ _ | refine blk_drew ?_ | refine blk_alloc ?_ _)); exact BK214.out⟩, ⟨by repeat (first | (with_reducible first | exact HB.out | apply below_alloc | apply pw_below_drewN | apply below_drew1 | refine below_set ?_ GB38.out | refine below_set ?_ GE214.out) | exact HB.out)⟩⟩
                    ·rw [if_neg c36] at H
                     exact absurd H (by simp)
                   ·rw [if_neg c35] at H
                    exact absurd H (by simp)
                  ·rw [if_neg c33] at H
                   exact absurd H (by simp)
                 ·rw [if_neg c32] at H
                  exact absurd H (by simp)
                ·rw [if_neg c31] at H
                 have c31b0 : decide (x11_3 ≤ a1) = false := decide_eq_false c31
                 clear c31
                 have H' := Aside0.mk H
                 clear H
                 go_wp2
                 go_roundg k3
                 case measure => have := HK1.out; have := HK2.out; have := HK3.out; omega
                 case rel => exact ⟨(x8_3), (wrap64 (x9_2 + 1)), eqU, H', ⟨by have := HK1.out; have := HK2.out; have := HK3.out; omega⟩, ⟨by (try simp only [hl5_1]); (with_reducible repeat (first | apply Kd.R_alloc | apply Kd.R_drewN | apply Kd.R_drew)); exact HO_5.out⟩, ⟨by (try simp only [hl5_1]); (with_reducible repeat (first | apply Kd.R_alloc | apply Kd.R_drewN | apply Kd.R_drew)); exact HO_6.out⟩, ⟨by (try simp only [hl5_1]); (with_reducible repeat (first | apply Kd.R_alloc | apply Kd.R_drewN | apply Kd.R_drew)); exact HO_8.out⟩, ⟨by (try simp only [hl5_1]); (with_reducible repeat (first | refine blk_drewN ?_ _ | refine blk_drew ?_ | refine blk_alloc ?_ _)); exact BK214.out⟩, ⟨hbU⟩⟩
             ·rw [if_neg c29] at H
              exact absurd H (by simp)
            ·rw [if_neg c28] at H
             have c28b0 : decide (x9_2 < (x7_1.size : Int)) = false := decide_eq_false c28
             clear c28
             have H' := Aside0.mk H
             clear H
             obtain ⟨Ao43, co43, eo43⟩ := Kd.R_slice HO_8.out
             subst eo43
             go_wp2
             go_loopg [68] k2 (fun kq v68 w' => ∃ (x5_3 : List Int) (x68_3 : Int), v68 = .int .i64 x68_3 ∧ Aside0 (spec_frWays.l3 kq a1 x5_3 x8_2 x7_1 x8_2 (x8_2.length : Int) x68_3 x215000_1 x215001_1 x215002_1 = some r) ∧ Aside0 (kq ≤ k2) ∧ Aside0 (Kd.R (Kd.int .i64) 3 w' w.heap.size (fun k_ => some k_ ≠ ((.slice Ao43 x8_2.length co43) : Value).ownBlock ∧ some k_ ≠ ((.slice Ao43 x8_2.length co43) : Value).ownBlock) (.slice (some ⟨go7, 0, none⟩) x5_1.length co7) x5_3) ∧ Aside0 (Kd.R (Kd.int .i64) 3 w' w.heap.size (fun k_ => some k_ ≠ ((.slice (some ⟨go7, 0, none⟩) x5_1.length co7) : Value).ownBlock) (.slice Ao43 x8_2.length co43) x8_2) ∧ Aside0 (Kd.R (Kd.int .i64) 3 w' w.heap.size (fun k_ => some k_ ≠ ((.slice (some ⟨go7, 0, none⟩) x5_1.length co7) : Value).ownBlock) (.slice Ao43 x8_2.length co43) x8_2) ∧ Aside0 (w'.heap[gb214]? = some (.cells #[.int .i64 x215000_1, .bool x215001_1, .int .i64 x215002_1] 25 (0, 0))) ∧ Aside0 (Below w.heap.size w w'))
             case atStart => exact ⟨(x5_1), (0), eqU, H', ⟨Nat.le_refl _⟩, ⟨by (try simp only [hl5_1]); (with_reducible repeat (first | apply Kd.R_alloc | apply Kd.R_drewN | apply Kd.R_drew)); exact Kd.R_mono HO_5.out (fun _ hk => ⟨hk.2, hk.2⟩)⟩, ⟨by (try simp only [hl5_1]); (with_reducible repeat (first | apply Kd.R_alloc | apply Kd.R_drewN | apply Kd.R_drew)); exact Kd.R_mono HO_8.out (fun _ hk => hk.1)⟩, ⟨by (try simp only [hl5_1]); (with_reducible repeat (first | apply Kd.R_alloc | apply Kd.R_drewN | apply Kd.R_drew)); exact Kd.R_mono HO_8.out (fun _ hk => hk.1)⟩, ⟨by (try simp only [hl5_1]); (with_reducible repeat (first | refine blk_drewN ?_ _ | refine blk_drew ?_ | refine blk_alloc ?_ _)); exact BK214.out⟩, ⟨hbU⟩⟩
             case round =>
              clear H'
              (try clear c4); (try clear c4b0); (try clear c4b1); (try clear c5); (try clear c5b0); (try clear c5b1); (try clear c6); (try clear c6b0); (try clear c6b1); (try clear p7); (try clear q7); (try clear qi7); (try clear c8); (try clear c8b0); (try clear c8b1); (try clear p9); (try clear q9); (try clear qi9); (try clear c22); (try clear c22b0); (try clear c22b1); (try clear c24); (try clear c24b0); (try clear c24b1); (try clear c25); (try clear c25b0); (try clear c25b1); (try clear c28); (try clear c28b0); (try clear c29); (try clear c29b0); (try clear p30); (try clear q30); (try clear hx30); (try clear c31); (try clear c31b0); (try clear c32); (try clear c32b0); (try clear c33); (try clear c33b0); (try clear c35); (try clear c35b0); (try clear c36); (try clear c36b0); (try clear p38); (try clear q38); (try clear hcz20_0); (try clear hcz20_1); (try clear hcz20_2); (try clear hfz20_0); (try clear hfz20_1); (try clear hfz20_2); (try clear hx227_0); (try clear hx228_0); (try clear hx38_0); (try clear hx7_0); (try clear hx9_0); (try clear p227); (try clear p228); (try clear p30); (try clear p38); (try clear p7); (try clear p9); (try clear q227); (try clear q228); (try clear q30); (try clear q38); (try clear q7); (try clear q9)
              obtain ⟨x5_3, x68_3, rfl, HA, HK3, HO_5, HO_6, HO_66, BK214, HB⟩ := hrel
              have hl5_3 := (Kd.R_reads' HO_5.out).1
              rw [hl5_3] at HO_5
              (try simp only [hl5_3])
              (try simp only [hl5_3] at BK214)
              (try simp only [hl5_3] at HO_6)
              (try simp only [hl5_3] at HO_66)
              cases gk with
              | zero => exact absurd HA.out (by simp [spec_frWays.l3])
              | succ k3 =>
               have H := HA.out
               clear HA
               simp only [spec_frWays.l3] at H
               by_cases c44 : x68_3 < (x8_2.length : Int)
               ·rw [if_pos c44] at H
                have c44b0 : decide (x68_3 < (x8_2.length : Int)) = true := decide_eq_true c44
                clear c44
                by_cases c45 : 0 ≤ x68_3
                ·rw [if_pos c45] at H
                 have c45b0 : decide (0 ≤ x68_3) = true := decide_eq_true c45
                 clear c45
                 by_cases c46 : x68_3 < (x8_2.length : Int)
                 ·rw [if_pos c46] at H
                  have c46b0 : decide (x68_3 < (x8_2.length : Int)) = true := decide_eq_true c46
                  clear c46
                  by_cases c47 : x68_3 < (x5_3.length : Int)
                  ·rw [if_pos c47] at H
                   have c47b0 : decide (x68_3 < (x5_3.length : Int)) = true := decide_eq_true c47
                   clear c47
                   replace H := Option.bind_eq_some_iff.mp H
                   obtain ⟨t233, A480, H⟩ := H
                   (try dsimp only at H)
                   have A48 := Aside0.mk A480
                   clear A480
                   obtain ⟨y234, hy234⟩ : ∃ y_ : List Int, y_ = (x5_3.set (x68_3 : Int).toNat t233) := ⟨_, rfl⟩
                   replace H : (spec_frWays.l3 k3 a1 y234 x8_2 x7_1 x8_2 (x8_2.length : Int) (wrap64 (x68_3 + 1)) x215000_1 x215001_1 x215002_1) = some r := by first | (rw [hy234]; with_reducible exact H) | (have H2_ := (Option.bind_some _ _).symm.trans H; rw [hy234]; with_reducible exact H2_) | (have H2_ := (Option.bind_some _ _).symm.trans H; with_reducible exact H2_) | with_reducible exact H | (rw [hy234]; exact H) | exact H
                   have Ny234 := Aside0.mk hy234
                   clear hy234
                   have H' := Aside0.mk H
                   clear H
                   have p231 : 0 ≤ (x68_3 : Int) := of_decide_eq_true (by first | (with_reducible assumption) | assumption)
                   have q231 : x68_3 < (x8_2.length : Int) := of_decide_eq_true (by first | (with_reducible assumption) | assumption)
                   obtain ⟨ad231, e231, hx231_0⟩ := Kd.at_int (Kd.R_reads' HO_66.out).2.2 x68_3 p231 q231
                   cases e231
                   replace p231 := eq_true p231
                   replace q231 := eq_true q231
                   have p232 : 0 ≤ (x68_3 : Int) := of_decide_eq_true (by first | (with_reducible assumption) | assumption)
                   have q232 : x68_3 < (x5_3.length : Int) := of_decide_eq_true (by first | (with_reducible assumption) | assumption)
                   obtain ⟨ad232, e232, hx232_0⟩ := Kd.at_int (Kd.R_reads' HO_5.out).2.2 x68_3 p232 q232
                   obtain rfl : (⟨go7, 0, none⟩ : Addr) = ad232 := (by injection e232)
                   (first | simp only [add_plain] at hx232_0 | simp only [add_at] at hx232_0 | simp only [Addr.add, Nat.zero_add] at hx232_0 | skip)
                   replace p232 := eq_true p232
                   replace q232 := eq_true q232
                   go_wp2_with (first | ((with_reducible refine gate_callee (f := 45) rfl ?_); refine goU (some 81) Tryd.func45 #[.int .i64 (wrap64 ((rd x5_3 x68_3) + (rd x8_2 x68_3))), .int .i64 1000000000000001] ?_; (with_reducible refine (spec_l1Least.calls (wrap64 ((rd x5_3 x68_3) + (rd x8_2 x68_3))) 1000000000000001 t233 _ A48.out).mono ?_); rintro e w' ⟨rfl, ⟨nd, rfl⟩⟩; refine ⟨_, rfl, ?_⟩; (try (rw [drewN_self wr]; generalize hq_ : World.drewN wr _ = wr; have n0_ : Aside0 (Kd.R (Kd.int .i64) 3 wr w.heap.size (fun k_ => some k_ ≠ (.slice (some ad231) x8_2.length co43 : Value).ownBlock ∧ some k_ ≠ (.slice (some ad231) x8_2.length co43 : Value).ownBlock) (.slice (some ⟨go7, 0, none⟩) x5_3.length co7) x5_3) := ⟨by rw [← hq_]; exact (by (with_reducible repeat (first | apply Kd.R_alloc | apply Kd.R_drewN | apply Kd.R_drew)); exact HO_5.out)⟩; have n1_ : Aside0 (Kd.R (Kd.int .i64) 3 wr w.heap.size (fun k_ => some k_ ≠ (.slice (some ⟨go7, 0, none⟩) x5_3.length co7 : Value).ownBlock) (.slice (some ad231) x8_2.length co43) x8_2) := ⟨by rw [← hq_]; exact (by (with_reducible repeat (first | apply Kd.R_alloc | apply Kd.R_drewN | apply Kd.R_drew)); exact HO_6.out)⟩; have n2_ : Aside0 (Kd.R (Kd.int .i64) 3 wr w.heap.size (fun k_ => some k_ ≠ (.slice (some ⟨go7, 0, none⟩) x5_3.length co7 : Value).ownBlock) (.slice (some ad231) x8_2.length co43) x8_2) := ⟨by rw [← hq_]; exact (by (with_reducible repeat (first | apply Kd.R_alloc | apply Kd.R_drewN | apply Kd.R_drew)); exact HO_66.out)⟩; have n3_ : Aside0 (wr.heap[gb214]? = some (.cells #[.int .i64 x215000_1, .bool x215001_1, .int .i64 x215002_1] 25 (0, 0))) := ⟨by rw [← hq_]; exact bkU⟩; have n4_ : Aside0 (Below w.heap.size w wr) := ⟨by rw [← hq_]; exact hbU⟩; clear HO_5 HO_6 HO_66 BK214 HB hq_; have HO_5 := n0_; have HO_6 := n1_; have HO_66 := n2_; have BK214 := n3_; have HB := n4_; clear n0_ n1_ n2_ n3_ n4_)); have p49 : 0 ≤ (x68_3 : Int) := of_decide_eq_true (by first | (with_reducible assumption) | assumption); have q49 : (x68_3 : Int) < ((x5_3.length : Int) : Int) := of_decide_eq_true (by first | (with_reducible assumption) | assumption); obtain ⟨hx49_0, hf49_0⟩ := Kd.R_celln 0 HO_5.out (x68_3 : Int) p49 q49; replace p49 := eq_true p49; replace q49 := eq_true q49; obtain ⟨hy50_, hz50_⟩ := Kd.R_celln 0 HO_5.out (x68_3 : Int) (of_decide_eq_true (by first | (with_reducible assumption) | assumption)) (of_decide_eq_true (by first | (with_reducible assumption) | assumption)); have HP50 := Kd.R_putg HO_5.out (x68_3 : Int) t233) | ((with_reducible refine gate_store (t := 3) (p := 82) rfl ?_); refine store_event (t := 3) (p := 82) (v := ?vo_w51) (w1 := (wr.setCell ⟨go7, (x68_3 : Int).toNat, none⟩ (.int .i64 t233))) ?hg ?ho ?hn ?hr ?_; (case ho => rfl); (case hg => rfl); (case hn => rfl); (case hr => first | (go_simp; done) | (go_simp; rfl)); intro w51 hw; have hg : wr.grownBy w51 (some go7) := (by rw [hw]; exact HP50.2); have hp_ : Kd.R (Kd.int .i64) 3 w51 w.heap.size (fun k_ => some k_ ≠ (.slice (some ad231) x8_2.length co43 : Value).ownBlock ∧ some k_ ≠ (.slice (some ad231) x8_2.length co43 : Value).ownBlock) (.slice (some ⟨go7, 0, none⟩) x5_3.length co7) y234 := (by rw [hw, Ny234.out]; exact HP50.1); clear HP50; have n0_ := Aside0.mk (hp_); have n1_ := Aside0.mk (Kd.R_after (v := (.slice (some ⟨go7, 0, none⟩) x5_3.length co7)) (v1 := (.slice (some ⟨go7, 0, none⟩) x5_3.length co7)) (ok := (fun _ => True)) (by (with_reducible repeat (first | apply Kd.R_alloc | apply Kd.R_drewN | apply Kd.R_drew)); exact Kd.R_mono HO_6.out (fun _ hk => ⟨trivial, hk⟩)) hg (.inl rfl)); have n2_ := Aside0.mk (Kd.R_after (v := (.slice (some ⟨go7, 0, none⟩) x5_3.length co7)) (v1 := (.slice (some ⟨go7, 0, none⟩) x5_3.length co7)) (ok := (fun _ => True)) (by (with_reducible repeat (first | apply Kd.R_alloc | apply Kd.R_drewN | apply Kd.R_drew)); exact Kd.R_mono HO_66.out (fun _ hk => ⟨trivial, hk⟩)) hg (.inl rfl)); have n3_ := Aside0.mk (blk_grown (g := gb214) (o := .cells #[.int .i64 x215000_1, .bool x215001_1, .int .i64 x215002_1] 25 (0, 0)) bkU hg (Kd.R_ne HO_5.out BK214.out (by decide))); have n4_ := Aside0.mk ((by rw [hw]; exact below_set (HB.out) GB7.out : Below w.heap.size w w51)); clear HO_5; clear HO_6; clear HO_66; clear BK214; clear HB; have HO_5 := n0_; have HO_6 := n1_; have HO_66 := n2_; have BK214 := n3_; have HB := n4_; clear n0_ n1_ n2_ n3_ n4_; clear hg hw hp_))
                   (try simp only [← hl5_3])
                   go_roundg k3
                   case measure => have := HK1.out; have := HK2.out; have := HK3.out; omega
                   case rel => exact ⟨(y234), (wrap64 (x68_3 + 1)), eqU, H', ⟨by have := HK1.out; have := HK2.out; have := HK3.out; omega⟩, ⟨by (try simp only [hl5_1]); (try simp only [hl5_3]); (with_reducible repeat (first | apply Kd.R_alloc | apply Kd.R_drewN | apply Kd.R_drew)); exact HO_5.out⟩, ⟨by (try simp only [hl5_1]); (try simp only [hl5_3]); (with_reducible repeat (first | apply Kd.R_alloc | apply Kd.R_drewN | apply Kd.R_drew)); exact Kd.R_mono HO_6.out (fun _ hk => hk.2)⟩, ⟨by (try simp only [hl5_1]); (try simp only [hl5_3]); (with_reducible repeat (first | apply Kd.R_alloc | apply Kd.R_drewN | apply Kd.R_drew)); exact Kd.R_mono HO_66.out (fun _ hk => hk.2)⟩, ⟨by (try simp only [hl5_1]); (try simp only [hl5_3]); (with_reducible repeat (first | refine blk_drewN ?_ _ | refine blk_drew ?_ | refine blk_alloc ?_ _)); exact BK214.out⟩, ⟨hbU⟩⟩
                  ·rw [if_neg c47] at H
                   exact absurd H (by simp)
                 ·rw [if_neg c46] at H
                  exact absurd H (by simp)
                ·rw [if_neg c45] at H
                 exact absurd H (by simp)
               ·rw [if_neg c44] at H
                have c44b0 : decide (x68_3 < (x8_2.length : Int)) = false := decide_eq_false c44
                clear c44
                by_cases c52 : 0 < (x7_1.size : Int)
                ·rw [if_pos c52] at H
                 have c52b0 : decide (0 < (x7_1.size : Int)) = true := decide_eq_true c52
                 have c52b1 : decide (0 < x7_1.size) = true := decide_eq_true (by omega)
                 clear c52
                 replace H := Option.bind_eq_some_iff.mp H
                 obtain ⟨⟨t235, t236, t237, t238⟩, A540, H⟩ := H
                 (try dsimp only at H)
                 have A54 := Aside0.mk A540
                 clear A540
                 replace H := Option.bind_eq_some_iff.mp H
                 obtain ⟨t239, A550, H⟩ := H
                 (try dsimp only at H)
                 have A55 := Aside0.mk A550
                 clear A550
                 have H' := Aside0.mk H
                 clear H
                 try go_wp2
                 have n0_ := Aside0.mk (Kd.R_drew HO_5.out)
                 have n1_ := Aside0.mk (Kd.R_drew HO_6.out)
                 have n2_ := Aside0.mk (Kd.R_drew HO_66.out)
                 have n3_ := Aside0.mk (blk_drew BK214.out)
                 have n4_ := Aside0.mk (below_drew1 HB.out)
                 clear HO_5
                 clear HO_6
                 clear HO_66
                 clear BK214
                 clear HB
                 have HO_5 := n0_
                 have HO_6 := n1_
                 have HO_66 := n2_
                 have BK214 := n3_
                 have HB := n4_
                 clear n0_ n1_ n2_ n3_ n4_
                 have p53 : 0 ≤ (0 : Int) := (by omega)
                 have q53 : 0 < x7_1.size := (by have : (0 : Int) < (x7_1.size : Int) := of_decide_eq_true (by first | (with_reducible assumption) | assumption); omega)
                 have hx53 : ∀ h : 0 < x7_1.size, ((x7_1[0]'h).toNat : Int) = bt x7_1 0 := bt_at x7_1 0
                 clear p53
                 have qi53 : (0 < (x7_1.size : Int)) = True := eq_true (of_decide_eq_true (by first | (with_reducible assumption) | assumption))
                 replace q53 := eq_true q53
                 refine start_ (n := 8) (S := fun w' => w'.cell? ⟨gb214, 0, none⟩ = some (.int .i64 x215000_1) ∧ w'.cell? ⟨gb214, 1, none⟩ = some (.bool x215001_1) ∧ w'.cell? ⟨gb214, 2, none⟩ = some (.int .i64 x215002_1)) (ds := [7]) #[false, false, false, false, false, false, false, false] (by kernel_rfl) rfl rfl (c3U BK214) (fun hHeld => ?_); refine with_tabW spec_frWays.tab23 spec_frWays.bits23 (fun HT_ HW_ => ?_)
                 generalize wr.drew = w56 at HO_5 HO_6 HO_66 BK214 HB hHeld ⊢
                 refine pure_ (i := 1) (N := some 86) (v := ?_) (a' := ?_) #[false, true, false, false, false, false, false, false] rfl rfl (any_of HT_.out (by kernel_rfl)) (fun _ _ _ h => h) (Or.inl ⟨by rfl, ?_⟩) ?_ ?_
                 rotate_left
                 ·intro w'
                  go_simp
                  with_reducible rfl
                 rotate_left
                 ·simp only [Act.put, List.setIfInBounds_toArray, List.set_cons_zero, List.set_cons_succ, i64_w, i32_w]
                  rfl
                 refine take_ (i := 0) (N := some 85) (v := ?_) (a' := ?_) #[true, true, false, false, false, false, false, false] rfl rfl (take_ofW HT_.out HW_.out (by kernel_rfl)) (fun _ _ _ h => h) (Or.inl ⟨by rfl, ?_⟩) hHeld ?_ ?_
                 rotate_left
                 ·rintro w' ⟨s0, s1, s2⟩
                  go_simp
                  with_reducible rfl
                 rotate_left
                 ·simp only [Act.put, List.setIfInBounds_toArray, List.set_cons_zero, List.set_cons_succ, i64_w, i32_w]
                  rfl
                 refine take_ (i := 2) (N := some 87) (v := ?_) (a' := ?_) #[true, true, true, false, false, false, false, false] rfl rfl (take_ofW HT_.out HW_.out (by kernel_rfl)) (fun _ _ _ h => h) (Or.inl ⟨by rfl, ?_⟩) hHeld ?_ ?_
                 rotate_left
                 ·rintro w' ⟨s0, s1, s2⟩
                  go_simp
                  with_reducible rfl
                 rotate_left
                 ·simp only [Act.put, List.setIfInBounds_toArray, List.set_cons_zero, List.set_cons_succ, i64_w, i32_w]
                  rfl
                 refine one_ (i := 3) (N := some 88) #[true, true, true, true, false, false, false, false] rfl rfl (one_of HT_.out (by kernel_rfl)) (by decide) (fun K hK => ?_)
                 refine goes_ Tryd.func39 (by kernel_rfl) rfl #[.agg #[.int .i64 x215000_1, .bool x215001_1, .int .i64 x215002_1], .int .u8 (bt x7_1 0)] (by rfl) rfl rfl arU ?_
                 with_reducible refine (spec_frPot.calls k3 x215000_1 x215001_1 x215002_1 (bt x7_1 0) t235 t236 t237 t238 _ A54.out).mono ?_
                 rintro e w57 ⟨rfl, hb⟩
                 refine ⟨_, rfl, ?_⟩
                 have n0_ := Aside0.mk (Kd.R_below (by (with_reducible repeat (first | apply Kd.R_alloc | apply Kd.R_drewN | apply Kd.R_drew)); exact HO_5.out) hb)
                 have n1_ := Aside0.mk (Kd.R_below (by (with_reducible repeat (first | apply Kd.R_alloc | apply Kd.R_drewN | apply Kd.R_drew)); exact HO_6.out) hb)
                 have n2_ := Aside0.mk (Kd.R_below (by (with_reducible repeat (first | apply Kd.R_alloc | apply Kd.R_drewN | apply Kd.R_drew)); exact HO_66.out) hb)
                 have n3_ := bbU BK214 hb
                 have n4_ := bsU hb
                 clear HO_5
                 clear HO_6
                 clear HO_66
                 clear BK214
                 clear HB
                 have HO_5 := n0_
                 have HO_6 := n1_
                 have HO_66 := n2_
                 have BK214 := n3_
                 have HB := n4_
                 clear n0_ n1_ n2_ n3_ n4_
                 (try clear hb); (try clear hk)
                 refine hK.out _ _ (c3U BK214) (fun hHeld => ?_)
                 clear hK K
                 refine norm_ (a' := ?_) ?_ ?_
                 rotate_left
                 ·show Act.put _ (some 88) _ = _
                  simp only [Act.put, List.setIfInBounds_toArray, List.set_cons_zero, List.set_cons_succ, i64_w, i32_w]
                  rfl
                 refine pure_ (i := 4) (N := some 84) (v := ?_) (a' := ?_) #[true, true, true, true, true, false, false, false] rfl rfl (any_of HT_.out (by kernel_rfl)) (fun _ _ _ h => h) (Or.inl ⟨by rfl, ?_⟩) ?_ ?_
                 rotate_left
                 ·intro w'
                  go_simp
                  with_reducible rfl
                 rotate_left
                 ·simp only [Act.put, List.setIfInBounds_toArray, List.set_cons_zero, List.set_cons_succ, i64_w, i32_w]
                  rfl
                 refine pure_ (i := 5) (N := some 89) (v := ?_) (a' := ?_) #[true, true, true, true, true, true, false, false] rfl rfl (any_of HT_.out (by kernel_rfl)) (fun _ _ _ h => h) (Or.inl ⟨by rfl, ?_⟩) ?_ ?_
                 rotate_left
                 ·intro w'
                  go_simp
                  with_reducible rfl
                 rotate_left
                 ·simp only [Act.put, List.setIfInBounds_toArray, List.set_cons_zero, List.set_cons_succ, i64_w, i32_w]
                  rfl
                 refine pure_ (i := 6) (N := some 90) (v := ?_) (a' := ?_) #[true, true, true, true, true, true, true, false] rfl rfl (any_of HT_.out (by kernel_rfl)) (fun _ _ _ h => h) (Or.inl ⟨by rfl, ?_⟩) ?_ ?_
                 rotate_left
                 ·intro w'
                  go_simp
                  with_reducible rfl
                 rotate_left
                 ·simp only [Act.put, List.setIfInBounds_toArray, List.set_cons_zero, List.set_cons_succ, i64_w, i32_w]
                  rfl
                 refine last_ (i := 7) (N := none) #[true, true, true, true, true, true, true, true] rfl rfl (one_of HT_.out (by kernel_rfl)) (by decide) (fun K hK => ?_)
                 have hs58 : w57.cell? ⟨gb214, 0, none⟩ = some (.int .i64 x215000_1) := (blk_cell BK214.out 0).trans rfl
                 have hfs58 := blk_frozen BK214.out 0
                 have hs59 : w57.cell? ⟨gb214, 1, none⟩ = some (.bool x215001_1) := (blk_cell BK214.out 1).trans rfl
                 have hfs59 := blk_frozen BK214.out 1
                 have hs60 : w57.cell? ⟨gb214, 2, none⟩ = some (.int .i64 x215002_1) := (blk_cell BK214.out 2).trans rfl
                 have hfs60 := blk_frozen BK214.out 2
                 refine skip_ (w1 := ?_) (by rfl) rfl ?_ ?_
                 rotate_left
                 ·go_simp
                  rfl
                 refine hK.out _ _ ?_
                 clear hK K
                 refine done_ (done_of HT_.out (by kernel_rfl)) ?_
                 obtain ⟨hcz61_0, hcz61_1, hcz61_2, hfz61_0, hfz61_1, hfz61_2⟩ := b3U BK214
                 try go_wp2_with (first | ((with_reducible refine gate_callee (f := 38) rfl ?_); refine goU (some 29) Tryd.func38 #[.agg #[.int .i64 t235, .bool t236, .int .i64 t237]] ?_; (with_reducible refine (spec_frNext.calls k3 t235 t236 t237 t239 _ A55.out).mono ?_); rintro e w62 ⟨rfl, hb⟩; refine ⟨_, rfl, ?_⟩; have n0_ := Aside0.mk (Kd.R_below (by (with_reducible repeat (first | apply Kd.R_alloc | apply Kd.R_drewN | apply Kd.R_drew)); exact (Kd.R_mono (Kd.R_far (p := ⟨gb214, 2, none⟩) (Kd.R_far (p := ⟨gb214, 1, none⟩) (Kd.R_far (p := ⟨gb214, 0, none⟩) (Kd.R_types HO_5.out BK214.out (by decide)) (fun _ hk => hk.2) (.int .i64 t235)) (fun _ hk => hk.2) (.bool t236)) (fun _ hk => hk.2) (.int .i64 t237)) (fun _ h_ => h_.1))) hb); have n1_ := Aside0.mk (Kd.R_below (by (with_reducible repeat (first | apply Kd.R_alloc | apply Kd.R_drewN | apply Kd.R_drew)); exact (Kd.R_mono (Kd.R_far (p := ⟨gb214, 2, none⟩) (Kd.R_far (p := ⟨gb214, 1, none⟩) (Kd.R_far (p := ⟨gb214, 0, none⟩) (Kd.R_types HO_6.out BK214.out (by decide)) (fun _ hk => hk.2) (.int .i64 t235)) (fun _ hk => hk.2) (.bool t236)) (fun _ hk => hk.2) (.int .i64 t237)) (fun _ h_ => h_.1))) hb); have n2_ := Aside0.mk (Kd.R_below (by (with_reducible repeat (first | apply Kd.R_alloc | apply Kd.R_drewN | apply Kd.R_drew)); exact (Kd.R_mono (Kd.R_far (p := ⟨gb214, 2, none⟩) (Kd.R_far (p := ⟨gb214, 1, none⟩) (Kd.R_far (p := ⟨gb214, 0, none⟩) (Kd.R_types HO_66.out BK214.out (by decide)) (fun _ hk => hk.2) (.int .i64 t235)) (fun _ hk => hk.2) (.bool t236)) (fun _ hk => hk.2) (.int .i64 t237)) (fun _ h_ => h_.1))) hb); have n3_ := Aside0.mk (blk_below (g := gb214) (o := .cells #[.int .i64 t235, .bool t236, .int .i64 t237] 25 (0, 0)) bkU hb); have n4_ := bsU hb; clear HO_5; clear HO_6; clear HO_66; clear BK214; clear HB; have HO_5 := n0_; have HO_6 := n1_; have HO_66 := n2_; have BK214 := n3_; have HB := n4_; clear n0_ n1_ n2_ n3_ n4_; (try clear hb); (try clear hb2); (try clear hk); (try clear hi)))
                 (try simp only [← hl5_1, ← hl5_3])
                 go_roundg k3
                 case measure => have := HK1.out; have := HK2.out; have := HK3.out; omega
                 case rel => exact ⟨(x5_3), (x8_2), (t239), (t235), (t236), (t237), eqU, H', ⟨by have := HK1.out; have := HK2.out; have := HK3.out; omega⟩, ⟨by (try simp only [hl5_1]); (try simp only [hl5_3]); (with_reducible repeat (first | apply Kd.R_alloc | apply Kd.R_drewN | apply Kd.R_drew)); exact Kd.R_mono HO_5.out (fun _ hk => hk.1)⟩, ⟨by (try simp only [hl5_1]); (try simp only [hl5_3]); (with_reducible repeat (first | apply Kd.R_alloc | apply Kd.R_drewN | apply Kd.R_drew)); exact HO_6.out⟩, ⟨by (try simp only [hl5_1]); (try simp only [hl5_3]); (with_reducible repeat (first | refine blk_drewN ?_ _ | refine blk_drew ?_ | refine blk_alloc ?_ _)); exact BK214.out⟩, ⟨hbU⟩⟩
                ·rw [if_neg c52] at H
                 exact absurd H (by simp)
         ·rw [if_neg c25] at H
          exact absurd H (by simp)
        ·rw [if_neg c24] at H
         exact absurd H (by simp)
    ·rw [if_neg c8] at H
     exact absurd H (by simp)
   ·rw [if_neg c6] at H
    exact absurd H (by simp)
  ·rw [if_neg c5] at H
   exact absurd H (by simp)
 ·rw [if_neg c4] at H
  exact absurd H (by simp)
end Go.Proofs.YtcmlmjgoidpabaaDoor.MFnFramesCounted

