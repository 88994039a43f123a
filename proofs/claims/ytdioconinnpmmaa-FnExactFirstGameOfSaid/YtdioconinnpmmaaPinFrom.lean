/- The reference counts the games that begin with rolls: for every number of frames. -/
import Derived.Test.YtdioconinnpmmaaPinAny
import Derived.Test.YtdioconinnpmmaaPinFirst
set_option linter.unusedVariables false
set_option linter.unusedSimpArgs false
namespace Go.Proofs.Ytdioconinnpmmaa.Pin
open Go.RowKit Go.Proofs.YtdioconinnpmmaaW.PrintWords Go.Proofs.YtdioconinnpmmaaW.PrintLast
/-! ### Pins: boFrom behind rolls -/
theorem ways_calls (HAdd : AddC) (HSt : StateC) (HRoll : RollC) (F : Int) (hF : 1 ≤ F ∧ F ≤ 10) (tv : Value) : ∀ (k : Nat) (s : BoS) (o w : Int), Rch k F s o w → WaysAt F tv s o w (wayB k F s o w)
  | 0, s, o, w, h => by
    rcases h with h | ⟨h, hb⟩
    · rw [show wayB 0 F s o w = fun t => if t = 0 then 1 else 0 from funext (fun t => way_over _ _ _ _ _ _ h)]
      exact ways_over F tv s o w h
    · rw [show wayB 0 F s o w = cntP (F - s.fr).toNat o w from funext (fun t => way_bnd _ _ _ _ _ _ h hb.1)]
      exact ways_bnd HSt F hF tv s o w h hb
  | k + 1, s, o, w, h => by
    rcases h with h | ⟨h, hb⟩ | ⟨h, hm, hp⟩
    · rw [show wayB (k + 1) F s o w = fun t => if t = 0 then 1 else 0 from funext (fun t => way_over _ _ _ _ _ _ h)]
      exact ways_over F tv s o w h
    · rw [show wayB (k + 1) F s o w = cntP (F - s.fr).toNat o w from funext (fun t => way_bnd _ _ _ _ _ _ h hb.1)]
      exact ways_bnd HSt F hF tv s o w h hb
    · have := ways_mid HAdd HRoll F hF tv s o w h hm (fun (p : Nat) => if (p : Int) ≤ s.st then wayB k F (rollP F s (p : Int)) (firstP F s w (p : Int)) 1 else fun _ => 0) (fun q t ht => by
          by_cases hq : (q : Int) ≤ s.st
          · rw [if_pos hq]
            exact way_low k F _ _ _ t (hp q hq).1 ht
          · rw [if_neg hq]) (fun q t => by
          by_cases hq : (q : Int) ≤ s.st
          · rw [if_pos hq]
            exact (hp q hq).2 t
          · rw [if_neg hq]
            exact Nat.zero_le _) (fun p hpp => by
          rw [if_pos hpp]
          exact ways_calls HAdd HSt HRoll F hF tv k _ _ _ (hp p hpp).1)
      rw [show wayB (k + 1) F s o w = sumB (fun (p : Nat) => if (p : Int) ≤ s.st then wayB k F (rollP F s (p : Int)) (firstP F s w (p : Int)) 1 else fun _ => 0) o (s.st.toNat + 1) from funext (fun t => by
        rw [way_mid _ _ _ _ _ _ h hm.1]
        unfold sumB
        refine congrArg List.sum (List.map_congr_left (fun p hpr => ?_))
        have hp1 := List.mem_range.1 hpr
        have := hm.2.2.2.1
        show _ = (if (p : Int) ≤ s.st then wayB k F (rollP F s (p : Int)) (firstP F s w (p : Int)) 1 else fun _ => 0) (t - (p : Int) * o)
        rw [if_pos (by omega)])]
      exact this
/-- Where the reference stands behind rolls: what has been counted, how often the next balls count. -/
structure BoT where
  s : BoS
  sum : Int
  o : Int
  w : Int
def nextO (F : Int) (b : BoT) (p : Int) : Int := if b.s.fr < F - 1 then (if b.s.bs.length = 0 ∧ p = 10 then b.w + 1 else if b.s.bs.length = 1 ∧ p = b.s.st then b.w + 1 else b.w) else b.w
def nextW (F : Int) (b : BoT) (p : Int) : Int := if b.s.fr < F - 1 ∧ b.s.bs.length = 0 ∧ p = 10 then 2 else 1
def stepT (F : Int) (b : BoT) (p : Int) : BoT := ⟨rollP F b.s p, b.sum + p * b.o, nextO F b p, nextW F b p⟩
def startT : BoT := ⟨⟨0, [], 10, false⟩, 0, 1, 1⟩
def okT (F : Int) (b : BoT) : Prop := (0 ≤ b.s.fr ∧ b.s.fr < F) ∧ b.s.bs.length ≤ 2 ∧ (∀ x ∈ b.s.bs, 0 ≤ x ∧ x ≤ 10) ∧ (0 ≤ b.s.st ∧ b.s.st ≤ 10) ∧ (0 ≤ b.sum ∧ b.sum ≤ 2000) ∧ (1 ≤ b.o ∧ b.o ≤ 3) ∧ (1 ≤ b.w ∧ b.w ≤ 2)
def behindT (F : Int) (rolls : List Int) : BoT := rolls.foldl (stepT F) startT
theorem behind_more (F : Int) (rolls : List Int) (p : Int) : behindT F (rolls ++ [p]) = stepT F (behindT F rolls) p := by
  unfold behindT
  rw [List.foldl_append]
  rfl
set_option maxRecDepth 100000 in
set_option maxHeartbeats 32000000 in
theorem from_calls (HAdd : AddC) (HSt : StateC) (HRoll : RollC) (HS : StartC) (F : Int) (hF : 1 ≤ F ∧ F ≤ 10) (tv : Value) (k : Nat) (rolls : List Int) (hok : ∀ i (h : i < rolls.length), okT F (behindT F (rolls.take i)) ∧ 0 ≤ rolls[i] ∧ rolls[i] ≤ 10)
    (hend : Rch k F (behindT F rolls).s (behindT F rolls).o (behindT F rolls).w) (hcap : ∀ t, wayB k F (behindT F rolls).s (behindT F rolls).o (behindT F rolls).w t ≤ 5726805883325784576) (hsum : 0 ≤ (behindT F rolls).sum ∧ (behindT F rolls).sum ≤ 3000) (hlen : rolls.length ≤ 100)
    (A : Option Addr) (c : Nat) (w : World) (NT : Nat) (hN : NT ≤ w.heap.size) (ht : TableAt w NT tv (F.toNat + 1)) (hC : Kd.C (Kd.int .i64) w A rolls.length rolls) (hc : rolls.length ≤ c) :
    Calls Try.prog 20 #[.int .i64 F, tv, .slice A rolls.length c] w fun e w' => ∃ v, e = .returned v ∧ TabAt w' w'.heap.size v (fun t => wayB k F (behindT F rolls).s (behindT F rolls).o (behindT F rolls).w (t - (behindT F rolls).sum)) ∧ Below w.heap.size w w' := by
  have HADD := Aside0.mk HAdd
  have HRL := Aside0.mk (fun (b : BoT) (p : Int) (A2 : Option Addr) (c2 : Nat) (w1 : World) (hb : okT F b) (hp : 0 ≤ p ∧ p ≤ 10) => HRoll F b.s p A2 c2 w1 hF hb.1 hb.2.1 hb.2.2.1 hb.2.2.2.1 hp)
  have HWW := Aside0.mk (ways_calls HAdd HSt HRoll F hF tv k _ _ _ hend)
  have HLW := Aside0.mk (fun t h => way_low k F _ _ _ t hend h)
  have HSS := Aside0.mk HS
  have HOK := Aside0.mk hok
  have HT := Aside0.mk (And.intro hN ht)
  have HCC := Aside0.mk (And.intro hC hlen)
  have HCAP := Aside0.mk (show ∀ t : Int, (fun _ : Int => 0) t + wayB k F (behindT F rolls).s (behindT F rolls).o (behindT F rolls).w (t - (behindT F rolls).sum) ≤ 5726805883325784576 from fun t => by
    have := hcap (t - (behindT F rolls).sum)
    simp only
    omega)
  have HSU := Aside0.mk hsum
  have HF0 := Aside0.mk hF
  have hfw : wrap64 (F - 1) = F - 1 := wrap_in (by omega) (by omega)
  have hu46 := Try.underlying46
  clear HAdd HSt HRoll HS hF hok hend hcap hsum hN ht hC hc hlen
  go_enter Try.func20, Try.ntmps20
  go_wp2_with (go_at_call 34; refine (HSS.out _).mono ?_; rintro e w2 ⟨As, cs, rfl, hrs, hb2⟩; have HRS := Aside0.mk hrs; have HB2 := Aside0.mk hb2; clear hb2 hrs)
  have HX0 : Aside0 ((w2.alloc (.cells #[.int .i64 0, .slice As 0 cs, .int .i64 10, .bool false] 46)).heap[w2.heap.size]? = some (.cells #[.int .i64 0, .slice As 0 cs, .int .i64 10, .bool false] 46 (0, 0))) := ⟨alloc_here w2 _⟩
  have HB0 := Aside0.mk (below_alloc HB2.out (.cells #[.int .i64 0, .slice As 0 cs, .int .i64 10, .bool false] 46))
  have HBX := Aside0.mk (show w.heap.size ≤ w2.heap.size from HB2.out.size)
  have HR0 : Aside0 (Kd.R (Kd.int .i64) 3 (w2.alloc (.cells #[.int .i64 0, .slice As 0 cs, .int .i64 10, .bool false] 46)) w.heap.size (fun _ => True) (.slice As 0 cs) []) := ⟨Kd.R_below (HRS.out) (below_alloc (Below.refl w2.heap.size w2) (.cells #[.int .i64 0, .slice As 0 cs, .int .i64 10, .bool false] 46))⟩
  clear HB2 HRS
  generalize (w2.alloc (.cells #[.int .i64 0, .slice As 0 cs, .int .i64 10, .bool false] 46)) = W2 at *
  generalize w2.heap.size = BX at *
  go_loopg [8, 9, 10, 19] (rolls.length + 1) (fun kq v8 v9 v10 v19 wx => ∃ (i : Nat) (si : Int) (b : BoT) (A2 : Option Addr) (c2 : Nat), v8 = .int .i64 b.sum ∧ v9 = .int .i64 b.o ∧ v10 = .int .i64 b.w ∧ v19 = .int .i64 si ∧ Aside0 (si = (i : Int)) ∧ Aside0 (i + kq = rolls.length + 1 ∧ i ≤ rolls.length) ∧ Aside0 (b = behindT F (rolls.take i)) ∧
    Aside0 (wx.heap[BX]? = some (.cells #[.int .i64 b.s.fr, .slice A2 b.s.bs.length c2, .int .i64 b.s.st, .bool b.s.ov] 46 (0, 0))) ∧ Aside0 (Kd.R (Kd.int .i64) 3 wx w.heap.size (fun _ => True) (.slice A2 b.s.bs.length c2) b.s.bs) ∧ Aside0 (Below w.heap.size w wx))
  case atStart => exact ⟨0, 0, startT, As, cs, rfl, rfl, rfl, by simp, ⟨by simp⟩, ⟨by omega⟩, ⟨rfl⟩, HX0, HR0, HB0⟩
  case round =>
    clear HX0 HR0 HB0
    obtain ⟨i, si, b, A2, c2, rfl, rfl, rfl, rfl, HSI, HQ, HBI, HX, HR, HB⟩ := hrel
    have z0 : wr.cell? ⟨BX, 0, none⟩ = some (.int .i64 b.s.fr) := (blk_cell HX.out 0).trans rfl
    have z1 : wr.cell? ⟨BX, 1, none⟩ = some (.slice A2 b.s.bs.length c2) := (blk_cell HX.out 1).trans rfl
    have z2 : wr.cell? ⟨BX, 2, none⟩ = some (.int .i64 b.s.st) := (blk_cell HX.out 2).trans rfl
    have z3 : wr.cell? ⟨BX, 3, none⟩ = some (.bool b.s.ov) := (blk_cell HX.out 3).trans rfl
    by_cases hi : si < (rolls.length : Int)
    · have ui : decide (si < (rolls.length : Int)) = true := decide_eq_true hi
      have hii : i < rolls.length := by have := HSI.out; omega
      have i0 : (0 ≤ si) = True := eq_true (by have := HSI.out; omega)
      have i4 : (si < (rolls.length : Int)) = True := eq_true hi
      obtain ⟨hb, hp⟩ := HOK.out i hii
      rw [← HBI.out] at hb
      obtain ⟨p, hpe⟩ : ∃ p : Int, p = rolls[i] := ⟨_, rfl⟩
      rw [← hpe] at hp
      obtain ⟨ad, eA, hx0⟩ := Kd.at_int (Kd.C_below HCC.out.1 HB.out) si (by have := HSI.out; omega) hi
      subst eA
      rw [show rd rolls si = p by
        unfold rd
        rw [HSI.out, Int.toNat_natCast, List.getD_eq_getElem?_getD, List.getElem?_eq_getElem hii, hpe]
        rfl] at hx0
      have hbe : behindT F (rolls.take (i + 1)) = stepT F b p := by
        rw [List.take_succ_eq_append_getElem hii, behind_more, HBI.out, hpe]
      have h0 := hb.2.2.2.2
      have m3 := mul3 (a := p) (x := b.o) hp.1 hp.2 (by omega)
      have m1_ : wrap64 (p * b.o) = p * b.o := wrap_in m3.1 (by omega)
      have m2_ : wrap64 (b.sum + p * b.o) = b.sum + p * b.o := wrap_in (by omega) (by omega)
      have cs1 : wrap64 (si + 1) = si + 1 := wrap_in (by have := HSI.out; omega) (by have := HSI.out; have := HCC.out.2; omega)
      have hbw : wrap64 (b.w + 1) = b.w + 1 := wrap_in (by omega) (by omega)
      have hrl := fun (w1 : World) => HRL.out b p A2 c2 w1 hb hp
      obtain ⟨r, hr⟩ : ∃ r : BoS, r = rollP F b.s p := ⟨_, rfl⟩
      rw [← hr] at hrl
      obtain ⟨ln, hln⟩ : ∃ ln : Nat, ln = b.s.bs.length := ⟨_, rfl⟩
      have hcw := And.intro (Kd.R_reads' HR.out).2.2 (Kd.R_reads' HR.out).2.1
      rw [← hln] at hrl hcw z1
      have HCW := Aside0.mk hcw
      have HLN := Aside0.mk hln
      have HRL1 := Aside0.mk hrl
      have HRE := Aside0.mk (And.intro (show r = (stepT F b p).s from hr) (show (stepT F b p).sum = b.sum + p * b.o from rfl))
      have HBE := Aside0.mk hbe.symm
      have HII := Aside0.mk hii
      by_cases hf : b.s.fr < F - 1
      · have uf : decide (b.s.fr < F - 1) = true := decide_eq_true hf
        by_cases hl0 : ln = 0
        · have ul0 : ((ln : Int) == 0) = true := beq_iff_eq.mpr (by omega)
          have ul0n : (ln == 0) = true := beq_iff_eq.mpr hl0
          by_cases hp10 : p = 10
          · have up : (p == 10) = true := beq_iff_eq.mpr hp10
            have HOE := Aside0.mk (show (stepT F b p).o = b.w + 1 from by show nextO F b p = _; unfold nextO; rw [if_pos hf, if_pos ⟨hln ▸ hl0, hp10⟩])
            have HWE := Aside0.mk (show (stepT F b p).w = 2 from if_pos ⟨hf, hln ▸ hl0, hp10⟩)
            clear hi hpe hb hp h0 m3 hrl hr hbe hcw hln hf hl0 hp10
            go_wp2_with (first | (go_at_call 35; refine (HRL1.out _ HCW.out.1 HCW.out.2).mono ?_; rintro e w7 ⟨A3, c3, rfl, hr7, hb7⟩; have hx7 := (hb7.block BX (Array.getElem?_eq_some_iff.1 HX.out).1).trans HX.out; have y0 := (blk_cell hx7 0).trans rfl; have y1 := (blk_cell hx7 1).trans rfl; have y2 := (blk_cell hx7 2).trans rfl; have y3 := (blk_cell hx7 3).trans rfl; have f0_ := blk_frozen hx7 0; have f1_ := blk_frozen hx7 1; have f2_ := blk_frozen hx7 2; have f3_ := blk_frozen hx7 3; have HR7 := Aside0.mk hr7; have HB7 := Aside0.mk (HB.out.trans (hb7.mono HB.out.size)); have HX7 := Aside0.mk hx7; have HS7 := Aside0.mk hb7.size; clear hr7 hb7 hx7))
            have hown : ∀ k_, (Value.slice A3 r.bs.length c3).ownBlock = some k_ → w.heap.size ≤ k_ ∧ k_ ≠ BX := fun k_ hk_ => by
              have h1_ := ((Kd.own_of_R HR7.out).lt k_ hk_).1
              have h2_ := (Array.getElem?_eq_some_iff.1 HX.out).1
              have h3_ := HB.out.size
              exact ⟨by omega, by omega⟩
            have hr8 := R_moved (R_moved (R_moved (R_moved HR7.out (w1 := w7.setCell ⟨BX, 0, none⟩ (.int .i64 r.fr)) (fun k_ hk_ => Below.heap_setCell _ _ _ k_ (hown k_ hk_).2)) (w1 := (w7.setCell ⟨BX, 0, none⟩ (.int .i64 r.fr)).setCell ⟨BX, 1, none⟩ (.slice A3 r.bs.length c3)) (fun k_ hk_ => Below.heap_setCell _ _ _ k_ (hown k_ hk_).2)) (w1 := ((w7.setCell ⟨BX, 0, none⟩ (.int .i64 r.fr)).setCell ⟨BX, 1, none⟩ (.slice A3 r.bs.length c3)).setCell ⟨BX, 2, none⟩ (.int .i64 r.st)) (fun k_ hk_ => Below.heap_setCell _ _ _ k_ (hown k_ hk_).2)) (w1 := (((w7.setCell ⟨BX, 0, none⟩ (.int .i64 r.fr)).setCell ⟨BX, 1, none⟩ (.slice A3 r.bs.length c3)).setCell ⟨BX, 2, none⟩ (.int .i64 r.st)).setCell ⟨BX, 3, none⟩ (.bool r.ov)) (fun k_ hk_ => Below.heap_setCell _ _ _ k_ (hown k_ hk_).2)
            have hr9 := Kd.R_lower hr8 HB.out.size
            go_roundg (gk - 1)
            case measure => have := HQ.out; have := HII.out; omega
            case rel => exact ⟨i + 1, si + 1, stepT F b p, A3, c3, by rw [HRE.out.2] <;> first | rfl | simp [m2_] | (rw [wrapK, m2_]), by rw [HOE.out], by rw [HWE.out], by first | rfl | simp [cs1] | (rw [wrapK, cs1]), ⟨by rw [HSI.out]; omega⟩, ⟨by have := HQ.out; have := HII.out; omega⟩, HBE, ⟨by rw [show (stepT F b p).s = r from HRE.out.1.symm]; exact blk_set (blk_set (blk_set (blk_set HX7.out 0 _) 1 _) 2 _) 3 _⟩, ⟨by rw [show (stepT F b p).s = r from HRE.out.1.symm]; exact hr9⟩, ⟨below_set (below_set (below_set (below_set HB7.out HBX.out) HBX.out) HBX.out) HBX.out⟩⟩
          · have up : (p == 10) = false := beq_eq_false_iff_ne.mpr hp10
            have ul1 : ((ln : Int) == 1) = false := beq_eq_false_iff_ne.mpr (by omega)
            have ul1n : (ln == 1) = false := beq_eq_false_iff_ne.mpr (by omega)
            have HOE := Aside0.mk (show (stepT F b p).o = b.w from by show nextO F b p = _; unfold nextO; rw [if_pos hf, if_neg (fun h_ => hp10 h_.2), if_neg (fun h_ => by omega)])
            have HWE := Aside0.mk (show (stepT F b p).w = 1 from if_neg (fun h_ => hp10 h_.2.2))
            clear hi hpe hb hp h0 m3 hrl hr hbe hcw hln hf hl0 hp10
            go_wp2_with (first | (go_at_call 35; refine (HRL1.out _ HCW.out.1 HCW.out.2).mono ?_; rintro e w7 ⟨A3, c3, rfl, hr7, hb7⟩; have hx7 := (hb7.block BX (Array.getElem?_eq_some_iff.1 HX.out).1).trans HX.out; have y0 := (blk_cell hx7 0).trans rfl; have y1 := (blk_cell hx7 1).trans rfl; have y2 := (blk_cell hx7 2).trans rfl; have y3 := (blk_cell hx7 3).trans rfl; have f0_ := blk_frozen hx7 0; have f1_ := blk_frozen hx7 1; have f2_ := blk_frozen hx7 2; have f3_ := blk_frozen hx7 3; have HR7 := Aside0.mk hr7; have HB7 := Aside0.mk (HB.out.trans (hb7.mono HB.out.size)); have HX7 := Aside0.mk hx7; have HS7 := Aside0.mk hb7.size; clear hr7 hb7 hx7))
            have hown : ∀ k_, (Value.slice A3 r.bs.length c3).ownBlock = some k_ → w.heap.size ≤ k_ ∧ k_ ≠ BX := fun k_ hk_ => by
              have h1_ := ((Kd.own_of_R HR7.out).lt k_ hk_).1
              have h2_ := (Array.getElem?_eq_some_iff.1 HX.out).1
              have h3_ := HB.out.size
              exact ⟨by omega, by omega⟩
            have hr8 := R_moved (R_moved (R_moved (R_moved HR7.out (w1 := w7.setCell ⟨BX, 0, none⟩ (.int .i64 r.fr)) (fun k_ hk_ => Below.heap_setCell _ _ _ k_ (hown k_ hk_).2)) (w1 := (w7.setCell ⟨BX, 0, none⟩ (.int .i64 r.fr)).setCell ⟨BX, 1, none⟩ (.slice A3 r.bs.length c3)) (fun k_ hk_ => Below.heap_setCell _ _ _ k_ (hown k_ hk_).2)) (w1 := ((w7.setCell ⟨BX, 0, none⟩ (.int .i64 r.fr)).setCell ⟨BX, 1, none⟩ (.slice A3 r.bs.length c3)).setCell ⟨BX, 2, none⟩ (.int .i64 r.st)) (fun k_ hk_ => Below.heap_setCell _ _ _ k_ (hown k_ hk_).2)) (w1 := (((w7.setCell ⟨BX, 0, none⟩ (.int .i64 r.fr)).setCell ⟨BX, 1, none⟩ (.slice A3 r.bs.length c3)).setCell ⟨BX, 2, none⟩ (.int .i64 r.st)).setCell ⟨BX, 3, none⟩ (.bool r.ov)) (fun k_ hk_ => Below.heap_setCell _ _ _ k_ (hown k_ hk_).2)
            have hr9 := Kd.R_lower hr8 HB.out.size
            go_roundg (gk - 1)
            case measure => have := HQ.out; have := HII.out; omega
            case rel => exact ⟨i + 1, si + 1, stepT F b p, A3, c3, by rw [HRE.out.2] <;> first | rfl | simp [m2_] | (rw [wrapK, m2_]), by rw [HOE.out], by rw [HWE.out], by first | rfl | simp [cs1] | (rw [wrapK, cs1]), ⟨by rw [HSI.out]; omega⟩, ⟨by have := HQ.out; have := HII.out; omega⟩, HBE, ⟨by rw [show (stepT F b p).s = r from HRE.out.1.symm]; exact blk_set (blk_set (blk_set (blk_set HX7.out 0 _) 1 _) 2 _) 3 _⟩, ⟨by rw [show (stepT F b p).s = r from HRE.out.1.symm]; exact hr9⟩, ⟨below_set (below_set (below_set (below_set HB7.out HBX.out) HBX.out) HBX.out) HBX.out⟩⟩
        · have ul0 : ((ln : Int) == 0) = false := beq_eq_false_iff_ne.mpr (by omega)
          have ul0n : (ln == 0) = false := beq_eq_false_iff_ne.mpr hl0
          have HWE := Aside0.mk (show (stepT F b p).w = 1 from if_neg (fun h_ => hl0 (hln.trans h_.2.1)))
          by_cases hl1 : ln = 1
          · have ul1 : ((ln : Int) == 1) = true := beq_iff_eq.mpr (by omega)
            have ul1n : (ln == 1) = true := beq_iff_eq.mpr hl1
            by_cases hps : p = b.s.st
            · have up : (p == b.s.st) = true := beq_iff_eq.mpr hps
              have HOE := Aside0.mk (show (stepT F b p).o = b.w + 1 from by show nextO F b p = _; unfold nextO; rw [if_pos hf, if_neg (fun h_ => hl0 (hln.trans h_.1)), if_pos ⟨hln ▸ hl1, hps⟩])
              clear hi hpe hb hp h0 m3 hrl hr hbe hcw hln hf hl0 hl1 hps
              go_wp2_with (first | (go_at_call 35; refine (HRL1.out _ HCW.out.1 HCW.out.2).mono ?_; rintro e w7 ⟨A3, c3, rfl, hr7, hb7⟩; have hx7 := (hb7.block BX (Array.getElem?_eq_some_iff.1 HX.out).1).trans HX.out; have y0 := (blk_cell hx7 0).trans rfl; have y1 := (blk_cell hx7 1).trans rfl; have y2 := (blk_cell hx7 2).trans rfl; have y3 := (blk_cell hx7 3).trans rfl; have f0_ := blk_frozen hx7 0; have f1_ := blk_frozen hx7 1; have f2_ := blk_frozen hx7 2; have f3_ := blk_frozen hx7 3; have HR7 := Aside0.mk hr7; have HB7 := Aside0.mk (HB.out.trans (hb7.mono HB.out.size)); have HX7 := Aside0.mk hx7; have HS7 := Aside0.mk hb7.size; clear hr7 hb7 hx7))
              have hown : ∀ k_, (Value.slice A3 r.bs.length c3).ownBlock = some k_ → w.heap.size ≤ k_ ∧ k_ ≠ BX := fun k_ hk_ => by
                have h1_ := ((Kd.own_of_R HR7.out).lt k_ hk_).1
                have h2_ := (Array.getElem?_eq_some_iff.1 HX.out).1
                have h3_ := HB.out.size
                exact ⟨by omega, by omega⟩
              have hr8 := R_moved (R_moved (R_moved (R_moved HR7.out (w1 := w7.setCell ⟨BX, 0, none⟩ (.int .i64 r.fr)) (fun k_ hk_ => Below.heap_setCell _ _ _ k_ (hown k_ hk_).2)) (w1 := (w7.setCell ⟨BX, 0, none⟩ (.int .i64 r.fr)).setCell ⟨BX, 1, none⟩ (.slice A3 r.bs.length c3)) (fun k_ hk_ => Below.heap_setCell _ _ _ k_ (hown k_ hk_).2)) (w1 := ((w7.setCell ⟨BX, 0, none⟩ (.int .i64 r.fr)).setCell ⟨BX, 1, none⟩ (.slice A3 r.bs.length c3)).setCell ⟨BX, 2, none⟩ (.int .i64 r.st)) (fun k_ hk_ => Below.heap_setCell _ _ _ k_ (hown k_ hk_).2)) (w1 := (((w7.setCell ⟨BX, 0, none⟩ (.int .i64 r.fr)).setCell ⟨BX, 1, none⟩ (.slice A3 r.bs.length c3)).setCell ⟨BX, 2, none⟩ (.int .i64 r.st)).setCell ⟨BX, 3, none⟩ (.bool r.ov)) (fun k_ hk_ => Below.heap_setCell _ _ _ k_ (hown k_ hk_).2)
              have hr9 := Kd.R_lower hr8 HB.out.size
              go_roundg (gk - 1)
              case measure => have := HQ.out; have := HII.out; omega
              case rel => exact ⟨i + 1, si + 1, stepT F b p, A3, c3, by rw [HRE.out.2] <;> first | rfl | simp [m2_] | (rw [wrapK, m2_]), by rw [HOE.out], by rw [HWE.out], by first | rfl | simp [cs1] | (rw [wrapK, cs1]), ⟨by rw [HSI.out]; omega⟩, ⟨by have := HQ.out; have := HII.out; omega⟩, HBE, ⟨by rw [show (stepT F b p).s = r from HRE.out.1.symm]; exact blk_set (blk_set (blk_set (blk_set HX7.out 0 _) 1 _) 2 _) 3 _⟩, ⟨by rw [show (stepT F b p).s = r from HRE.out.1.symm]; exact hr9⟩, ⟨below_set (below_set (below_set (below_set HB7.out HBX.out) HBX.out) HBX.out) HBX.out⟩⟩
            · have up : (p == b.s.st) = false := beq_eq_false_iff_ne.mpr hps
              have HOE := Aside0.mk (show (stepT F b p).o = b.w from by show nextO F b p = _; unfold nextO; rw [if_pos hf, if_neg (fun h_ => hl0 (hln.trans h_.1)), if_neg (fun h_ => hps h_.2)])
              clear hi hpe hb hp h0 m3 hrl hr hbe hcw hln hf hl0 hl1 hps
              go_wp2_with (first | (go_at_call 35; refine (HRL1.out _ HCW.out.1 HCW.out.2).mono ?_; rintro e w7 ⟨A3, c3, rfl, hr7, hb7⟩; have hx7 := (hb7.block BX (Array.getElem?_eq_some_iff.1 HX.out).1).trans HX.out; have y0 := (blk_cell hx7 0).trans rfl; have y1 := (blk_cell hx7 1).trans rfl; have y2 := (blk_cell hx7 2).trans rfl; have y3 := (blk_cell hx7 3).trans rfl; have f0_ := blk_frozen hx7 0; have f1_ := blk_frozen hx7 1; have f2_ := blk_frozen hx7 2; have f3_ := blk_frozen hx7 3; have HR7 := Aside0.mk hr7; have HB7 := Aside0.mk (HB.out.trans (hb7.mono HB.out.size)); have HX7 := Aside0.mk hx7; have HS7 := Aside0.mk hb7.size; clear hr7 hb7 hx7))
              have hown : ∀ k_, (Value.slice A3 r.bs.length c3).ownBlock = some k_ → w.heap.size ≤ k_ ∧ k_ ≠ BX := fun k_ hk_ => by
                have h1_ := ((Kd.own_of_R HR7.out).lt k_ hk_).1
                have h2_ := (Array.getElem?_eq_some_iff.1 HX.out).1
                have h3_ := HB.out.size
                exact ⟨by omega, by omega⟩
              have hr8 := R_moved (R_moved (R_moved (R_moved HR7.out (w1 := w7.setCell ⟨BX, 0, none⟩ (.int .i64 r.fr)) (fun k_ hk_ => Below.heap_setCell _ _ _ k_ (hown k_ hk_).2)) (w1 := (w7.setCell ⟨BX, 0, none⟩ (.int .i64 r.fr)).setCell ⟨BX, 1, none⟩ (.slice A3 r.bs.length c3)) (fun k_ hk_ => Below.heap_setCell _ _ _ k_ (hown k_ hk_).2)) (w1 := ((w7.setCell ⟨BX, 0, none⟩ (.int .i64 r.fr)).setCell ⟨BX, 1, none⟩ (.slice A3 r.bs.length c3)).setCell ⟨BX, 2, none⟩ (.int .i64 r.st)) (fun k_ hk_ => Below.heap_setCell _ _ _ k_ (hown k_ hk_).2)) (w1 := (((w7.setCell ⟨BX, 0, none⟩ (.int .i64 r.fr)).setCell ⟨BX, 1, none⟩ (.slice A3 r.bs.length c3)).setCell ⟨BX, 2, none⟩ (.int .i64 r.st)).setCell ⟨BX, 3, none⟩ (.bool r.ov)) (fun k_ hk_ => Below.heap_setCell _ _ _ k_ (hown k_ hk_).2)
              have hr9 := Kd.R_lower hr8 HB.out.size
              go_roundg (gk - 1)
              case measure => have := HQ.out; have := HII.out; omega
              case rel => exact ⟨i + 1, si + 1, stepT F b p, A3, c3, by rw [HRE.out.2] <;> first | rfl | simp [m2_] | (rw [wrapK, m2_]), by rw [HOE.out], by rw [HWE.out], by first | rfl | simp [cs1] | (rw [wrapK, cs1]), ⟨by rw [HSI.out]; omega⟩, ⟨by have := HQ.out; have := HII.out; omega⟩, HBE, ⟨by rw [show (stepT F b p).s = r from HRE.out.1.symm]; exact blk_set (blk_set (blk_set (blk_set HX7.out 0 _) 1 _) 2 _) 3 _⟩, ⟨by rw [show (stepT F b p).s = r from HRE.out.1.symm]; exact hr9⟩, ⟨below_set (below_set (below_set (below_set HB7.out HBX.out) HBX.out) HBX.out) HBX.out⟩⟩
          · have ul1 : ((ln : Int) == 1) = false := beq_eq_false_iff_ne.mpr (by omega)
            have ul1n : (ln == 1) = false := beq_eq_false_iff_ne.mpr hl1
            have HOE := Aside0.mk (show (stepT F b p).o = b.w from by show nextO F b p = _; unfold nextO; rw [if_pos hf, if_neg (fun h_ => hl0 (hln.trans h_.1)), if_neg (fun h_ => hl1 (hln.trans h_.1))])
            clear hi hpe hb hp h0 m3 hrl hr hbe hcw hln hf hl0 hl1
            go_wp2_with (first | (go_at_call 35; refine (HRL1.out _ HCW.out.1 HCW.out.2).mono ?_; rintro e w7 ⟨A3, c3, rfl, hr7, hb7⟩; have hx7 := (hb7.block BX (Array.getElem?_eq_some_iff.1 HX.out).1).trans HX.out; have y0 := (blk_cell hx7 0).trans rfl; have y1 := (blk_cell hx7 1).trans rfl; have y2 := (blk_cell hx7 2).trans rfl; have y3 := (blk_cell hx7 3).trans rfl; have f0_ := blk_frozen hx7 0; have f1_ := blk_frozen hx7 1; have f2_ := blk_frozen hx7 2; have f3_ := blk_frozen hx7 3; have HR7 := Aside0.mk hr7; have HB7 := Aside0.mk (HB.out.trans (hb7.mono HB.out.size)); have HX7 := Aside0.mk hx7; have HS7 := Aside0.mk hb7.size; clear hr7 hb7 hx7))
            have hown : ∀ k_, (Value.slice A3 r.bs.length c3).ownBlock = some k_ → w.heap.size ≤ k_ ∧ k_ ≠ BX := fun k_ hk_ => by
              have h1_ := ((Kd.own_of_R HR7.out).lt k_ hk_).1
              have h2_ := (Array.getElem?_eq_some_iff.1 HX.out).1
              have h3_ := HB.out.size
              exact ⟨by omega, by omega⟩
            have hr8 := R_moved (R_moved (R_moved (R_moved HR7.out (w1 := w7.setCell ⟨BX, 0, none⟩ (.int .i64 r.fr)) (fun k_ hk_ => Below.heap_setCell _ _ _ k_ (hown k_ hk_).2)) (w1 := (w7.setCell ⟨BX, 0, none⟩ (.int .i64 r.fr)).setCell ⟨BX, 1, none⟩ (.slice A3 r.bs.length c3)) (fun k_ hk_ => Below.heap_setCell _ _ _ k_ (hown k_ hk_).2)) (w1 := ((w7.setCell ⟨BX, 0, none⟩ (.int .i64 r.fr)).setCell ⟨BX, 1, none⟩ (.slice A3 r.bs.length c3)).setCell ⟨BX, 2, none⟩ (.int .i64 r.st)) (fun k_ hk_ => Below.heap_setCell _ _ _ k_ (hown k_ hk_).2)) (w1 := (((w7.setCell ⟨BX, 0, none⟩ (.int .i64 r.fr)).setCell ⟨BX, 1, none⟩ (.slice A3 r.bs.length c3)).setCell ⟨BX, 2, none⟩ (.int .i64 r.st)).setCell ⟨BX, 3, none⟩ (.bool r.ov)) (fun k_ hk_ => Below.heap_setCell _ _ _ k_ (hown k_ hk_).2)
            have hr9 := Kd.R_lower hr8 HB.out.size
            go_roundg (gk - 1)
            case measure => have := HQ.out; have := HII.out; omega
            case rel => exact ⟨i + 1, si + 1, stepT F b p, A3, c3, by rw [HRE.out.2] <;> first | rfl | simp [m2_] | (rw [wrapK, m2_]), by rw [HOE.out], by rw [HWE.out], by first | rfl | simp [cs1] | (rw [wrapK, cs1]), ⟨by rw [HSI.out]; omega⟩, ⟨by have := HQ.out; have := HII.out; omega⟩, HBE, ⟨by rw [show (stepT F b p).s = r from HRE.out.1.symm]; exact blk_set (blk_set (blk_set (blk_set HX7.out 0 _) 1 _) 2 _) 3 _⟩, ⟨by rw [show (stepT F b p).s = r from HRE.out.1.symm]; exact hr9⟩, ⟨below_set (below_set (below_set (below_set HB7.out HBX.out) HBX.out) HBX.out) HBX.out⟩⟩
      · have uf : decide (b.s.fr < F - 1) = false := decide_eq_false hf
        have HOE := Aside0.mk (show (stepT F b p).o = b.w from if_neg hf)
        have HWE := Aside0.mk (show (stepT F b p).w = 1 from if_neg (fun h_ => hf h_.1))
        clear hi hpe hb hp h0 m3 hrl hr hbe hcw hln hf
        go_wp2_with (first | (go_at_call 35; refine (HRL1.out _ HCW.out.1 HCW.out.2).mono ?_; rintro e w7 ⟨A3, c3, rfl, hr7, hb7⟩; have hx7 := (hb7.block BX (Array.getElem?_eq_some_iff.1 HX.out).1).trans HX.out; have y0 := (blk_cell hx7 0).trans rfl; have y1 := (blk_cell hx7 1).trans rfl; have y2 := (blk_cell hx7 2).trans rfl; have y3 := (blk_cell hx7 3).trans rfl; have f0_ := blk_frozen hx7 0; have f1_ := blk_frozen hx7 1; have f2_ := blk_frozen hx7 2; have f3_ := blk_frozen hx7 3; have HR7 := Aside0.mk hr7; have HB7 := Aside0.mk (HB.out.trans (hb7.mono HB.out.size)); have HX7 := Aside0.mk hx7; have HS7 := Aside0.mk hb7.size; clear hr7 hb7 hx7))
        have hown : ∀ k_, (Value.slice A3 r.bs.length c3).ownBlock = some k_ → w.heap.size ≤ k_ ∧ k_ ≠ BX := fun k_ hk_ => by
          have h1_ := ((Kd.own_of_R HR7.out).lt k_ hk_).1
          have h2_ := (Array.getElem?_eq_some_iff.1 HX.out).1
          have h3_ := HB.out.size
          exact ⟨by omega, by omega⟩
        have hr8 := R_moved (R_moved (R_moved (R_moved HR7.out (w1 := w7.setCell ⟨BX, 0, none⟩ (.int .i64 r.fr)) (fun k_ hk_ => Below.heap_setCell _ _ _ k_ (hown k_ hk_).2)) (w1 := (w7.setCell ⟨BX, 0, none⟩ (.int .i64 r.fr)).setCell ⟨BX, 1, none⟩ (.slice A3 r.bs.length c3)) (fun k_ hk_ => Below.heap_setCell _ _ _ k_ (hown k_ hk_).2)) (w1 := ((w7.setCell ⟨BX, 0, none⟩ (.int .i64 r.fr)).setCell ⟨BX, 1, none⟩ (.slice A3 r.bs.length c3)).setCell ⟨BX, 2, none⟩ (.int .i64 r.st)) (fun k_ hk_ => Below.heap_setCell _ _ _ k_ (hown k_ hk_).2)) (w1 := (((w7.setCell ⟨BX, 0, none⟩ (.int .i64 r.fr)).setCell ⟨BX, 1, none⟩ (.slice A3 r.bs.length c3)).setCell ⟨BX, 2, none⟩ (.int .i64 r.st)).setCell ⟨BX, 3, none⟩ (.bool r.ov)) (fun k_ hk_ => Below.heap_setCell _ _ _ k_ (hown k_ hk_).2)
        have hr9 := Kd.R_lower hr8 HB.out.size
        go_roundg (gk - 1)
        case measure => have := HQ.out; have := HII.out; omega
        case rel => exact ⟨i + 1, si + 1, stepT F b p, A3, c3, by rw [HRE.out.2] <;> first | rfl | simp [m2_] | (rw [wrapK, m2_]), by rw [HOE.out], by rw [HWE.out], by first | rfl | simp [cs1] | (rw [wrapK, cs1]), ⟨by rw [HSI.out]; omega⟩, ⟨by have := HQ.out; have := HII.out; omega⟩, HBE, ⟨by rw [show (stepT F b p).s = r from HRE.out.1.symm]; exact blk_set (blk_set (blk_set (blk_set HX7.out 0 _) 1 _) 2 _) 3 _⟩, ⟨by rw [show (stepT F b p).s = r from HRE.out.1.symm]; exact hr9⟩, ⟨below_set (below_set (below_set (below_set HB7.out HBX.out) HBX.out) HBX.out) HBX.out⟩⟩
    · have ui : decide (si < (rolls.length : Int)) = false := decide_eq_false hi
      have hin : i = rolls.length := by have := HQ.out; have := HSI.out; omega
      have hbe : b = behindT F rolls := by rw [HBI.out, hin, List.take_of_length_le (Nat.le_refl _)]
      subst hbe
      obtain ⟨D, hD⟩ : ∃ D : Int, D = (behindT F rolls).sum := ⟨_, rfl⟩
      have HWW2 := HWW
      have HCAP2 := HCAP
      rw [← hD] at HCAP2
      have HD := Aside0.mk (show 0 ≤ D ∧ D ≤ 3000 by have := HSU.out; omega)
      have HDE := Aside0.mk hD
      rw [← hD]
      clear hi hin HCAP hD
      go_wp2_with (first | ((with_reducible refine gate_dst (N := 67) rfl ?_); refine Kd.R_make (Kd.int .i64) (w0 := w) w.heap.size 3 rfl (N := 67) rfl 28 _ _ rfl (301 : Int) rfl rfl Try.underlying28 (.int .i64 0) 8 info3 rfl (by decide) (by omega) 0 (ok := fun _ => True) (okp := fun _ => True) rfl (fun _ hk => hk) trivial (by omega) (by omega) HB.out (Below.size HB.out) ?_; intro v67 w5 ho hb5 hg5 hn5; obtain ⟨G, cap, ev, gb, gl, _⟩ := Kd.R_form ho (by simp); rw [show (List.replicate (301 : Int).toNat (0 : Int)).length = 301 by rw [List.length_replicate]; rfl] at ev; subst ev; have HC5 : Aside0 (CntAt w5 w.heap.size G cap (fun _ => 0)) := Aside0.mk (by rw [CntAt, ← arrS_zero]; exact CntAt.tight ho); have HB5 := Aside0.mk hb5; have HG5 := Aside0.mk (show wr.heap.size ≤ G ∧ G < w5.heap.size from ⟨by obtain ⟨b, e1, e2⟩ := hn5; have e3 : G = b := Option.some.inj e1; omega, gl⟩); have hbx := (hg5.block BX (Array.getElem?_eq_some_iff.1 HX.out).1 (by simp)).trans HX.out; have y0 := (blk_cell hbx 0).trans rfl; have y1 := (blk_cell hbx 1).trans rfl; have y2 := (blk_cell hbx 2).trans rfl; have y3 := (blk_cell hbx 3).trans rfl; have HR5 := Aside0.mk (R_moved HR.out (fun k_ hk_ => hg5.block k_ ((Kd.own_of_R HR.out).lt k_ hk_).2 (by simp))); clear hbx; clear ho hb5 hg5 hn5 gb gl) | (go_at_call 39; refine (HWW.out A2 c2 NT _ (Nat.le_trans HT.out.1 HB5.out.size) (HT.out.2.step (Nat.le_refl _) (fun g_ _ hg_ _ _ => HB5.out.block g_ (Nat.lt_of_lt_of_le hg_ HT.out.1))) (Kd.R_reads' HR5.out).2.2 (Kd.R_reads' HR5.out).2.1).mono ?_; rintro e w8 ⟨v8, rfl, ht8, hb8, ho8⟩; have htv := ht8; obtain ⟨g_, cg_, ev8, _⟩ := htv; subst ev8; have HT8 := Aside0.mk ht8; have HC8 := Aside0.mk (Kd.R_below HC5.out hb8); have HB8 := Aside0.mk (HB5.out.trans (hb8.mono HB5.out.size)); have HG8 := Aside0.mk (Nat.lt_of_lt_of_le HG5.out.2 hb8.size); have HN8 := Aside0.mk (show (Value.slice (some ⟨g_, 0, none⟩) 301 cg_).ownBlock ≠ some G from fun e_ => by have h_ := ho8 g_ rfl; injection e_ with e_; have e2_ : g_ = G := e_; have h1_ := HG5.out; have h2_ := HT.out.1; have h3_ := HB.out.size; omega); clear ht8 hb8 ho8) | (go_at_call 38; refine (HADD.out G cap _ _ _ _ D w _ HD.out.1 HD.out.2 HLW.out HCAP2.out HB8.out HC8.out HT8.out HN8.out).mono ?_; rintro e w9 ⟨rfl, hc9, hb9, hk9⟩; have HC9 := Aside0.mk hc9; have HB9 := Aside0.mk hb9; have HG9 := Aside0.mk (Nat.lt_of_lt_of_le HG8.out hk9.1); clear hc9 hb9 hk9))
      go_ret
      exact ⟨_, rfl, (HC9.out.tab HG9.out).congr (fun t _ _ => by simp only [Nat.zero_add]; rw [HDE.out]), HB9.out⟩
end Go.Proofs.Ytdioconinnpmmaa.Pin
