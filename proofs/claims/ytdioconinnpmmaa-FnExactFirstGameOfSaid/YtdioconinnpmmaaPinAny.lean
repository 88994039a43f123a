/- The reference counts the games that go on from anywhere: for every number of frames. -/
import Derived.Test.YtdioconinnpmmaaPinWays
set_option linter.unusedVariables false
set_option linter.unusedSimpArgs false
namespace Go.Proofs.Ytdioconinnpmmaa.Pin
open Go.RowKit Go.Proofs.YtdioconinnpmmaaW.PrintWords Go.Proofs.YtdioconinnpmmaaW.PrintLast
/-! ### Pins: boWays anywhere in a game -/
/-- Where the reference stands: the frame, its balls, the pins that stand, whether it is over. -/
structure BoS where
  fr : Int
  bs : List Int
  st : Int
  ov : Bool
def overP (l : List Int) : Bool := if l.length = 3 then true else if l.length = 2 then decide (l.getD 0 0 < 10 ∧ l.getD 0 0 + l.getD 1 0 < 10) else false
def rollP (F : Int) (s : BoS) (p : Int) : BoS :=
  if s.fr < F - 1 then (if s.st - p = 0 then ⟨s.fr + 1, [], 10, false⟩ else if s.bs.length + 1 = 2 then ⟨s.fr + 1, [], 10, false⟩ else ⟨s.fr, s.bs ++ [p], s.st - p, false⟩)
  else ⟨s.fr, s.bs ++ [p], if s.st - p = 0 then 10 else s.st - p, overP (s.bs ++ [p])⟩
def firstP (F : Int) (s : BoS) (w p : Int) : Int := if s.fr < F - 1 ∧ p = s.st then w + 1 else w
/-- How many games go on from there with so much of a total. -/
def wayB : Nat → Int → BoS → Int → Int → Int → Nat
  | 0, F, s, o, w, t => if s.ov = true then (if t = 0 then 1 else 0) else cntP (F - s.fr).toNat o w t
  | k + 1, F, s, o, w, t => if s.ov = true then (if t = 0 then 1 else 0) else if s.bs = [] then cntP (F - s.fr).toNat o w t else ((List.range (s.st.toNat + 1)).map fun (p : Nat) => wayB k F (rollP F s (p : Int)) (firstP F s w (p : Int)) 1 (t - (p : Int) * o)).sum
def bndP (F : Int) (s : BoS) (o w : Int) : Prop := s.bs = [] ∧ (0 ≤ s.fr ∧ s.fr < F) ∧ ∃ j, j < 4 ∧ o = onesP j ∧ w = twosP j
/-- A state in the middle of a frame. -/
def midP1 (F : Int) (s : BoS) (o w : Int) : Prop := s.bs ≠ [] ∧ s.bs.length ≤ 2 ∧ (∀ b ∈ s.bs, 0 ≤ b ∧ b ≤ 10) ∧ (0 ≤ s.st ∧ s.st ≤ 10) ∧ (0 ≤ s.fr ∧ s.fr < F) ∧ (1 ≤ o ∧ o ≤ 3) ∧ (1 ≤ w ∧ w ≤ 2)
/-- A state that can come up, with so many balls of its frame to come at most. -/
def Rch : Nat → Int → BoS → Int → Int → Prop
  | 0, F, s, o, w => s.ov = true ∨ (s.ov = false ∧ bndP F s o w)
  | k + 1, F, s, o, w => s.ov = true ∨ (s.ov = false ∧ bndP F s o w) ∨ (s.ov = false ∧ midP1 F s o w ∧ ∀ p : Nat, (p : Int) ≤ s.st → Rch k F (rollP F s (p : Int)) (firstP F s w (p : Int)) 1 ∧ ∀ t, wayB k F (rollP F s (p : Int)) (firstP F s w (p : Int)) 1 t ≤ 100000000000000000)
theorem way_over (k : Nat) (F : Int) (s : BoS) (o w t : Int) (h : s.ov = true) : wayB k F s o w t = if t = 0 then 1 else 0 := by
  cases k with
  | zero => exact if_pos h
  | succ k => exact if_pos h
theorem way_bnd (k : Nat) (F : Int) (s : BoS) (o w t : Int) (h : s.ov = false) (hb : s.bs = []) : wayB k F s o w t = cntP (F - s.fr).toNat o w t := by
  cases k with
  | zero => exact if_neg (by rw [h]; decide)
  | succ k =>
    show (if s.ov = true then _ else if s.bs = [] then _ else _) = _
    rw [if_neg (by rw [h]; decide), if_pos hb]
theorem way_mid (k : Nat) (F : Int) (s : BoS) (o w t : Int) (h : s.ov = false) (hb : s.bs ≠ []) : wayB (k + 1) F s o w t = ((List.range (s.st.toNat + 1)).map fun (p : Nat) => wayB k F (rollP F s (p : Int)) (firstP F s w (p : Int)) 1 (t - (p : Int) * o)).sum := by
  show (if s.ov = true then _ else if s.bs = [] then _ else _) = _
  rw [if_neg (by rw [h]; decide), if_neg hb]
theorem way_low : ∀ (k : Nat) (F : Int) (s : BoS) (o w t : Int), Rch k F s o w → t < 0 → wayB k F s o w t = 0
  | 0, F, s, o, w, t, h, ht => by
    rcases h with h | ⟨h, hb, _, j, _, rfl, rfl⟩
    · rw [way_over _ _ _ _ _ _ h, if_neg (by omega)]
    · rw [way_bnd _ _ _ _ _ _ h hb]
      exact cnt_low _ _ _ _ (ones_in j).1 (ones_in j).2.1 ht
  | k + 1, F, s, o, w, t, h, ht => by
    rcases h with h | ⟨h, hb, _, j, _, rfl, rfl⟩ | ⟨h, hm, hp⟩
    · rw [way_over _ _ _ _ _ _ h, if_neg (by omega)]
    · rw [way_bnd _ _ _ _ _ _ h hb]
      exact cnt_low _ _ _ _ (ones_in j).1 (ones_in j).2.1 ht
    · rw [way_mid _ _ _ _ _ _ h hm.1]
      refine sum_zero _ _ (fun p hpr => ?_)
      have hp1 := List.mem_range.1 hpr
      have := hm.2.2.2.1
      have ho := hm.2.2.2.2.2.1
      refine way_low k F _ _ _ _ (hp p (by omega)).1 ?_
      have : 0 ≤ (p : Int) * o := Int.mul_nonneg (by omega) (by omega)
      omega
def RollC : Prop := ∀ (F : Int) (s : BoS) (p : Int) (A : Option Addr) (c : Nat) (w1 : World), (1 ≤ F ∧ F ≤ 10) → (0 ≤ s.fr ∧ s.fr < F) → s.bs.length ≤ 2 → (∀ b ∈ s.bs, 0 ≤ b ∧ b ≤ 10) → (0 ≤ s.st ∧ s.st ≤ 10) → (0 ≤ p ∧ p ≤ 10) → Kd.C (Kd.int .i64) w1 A s.bs.length s.bs → s.bs.length ≤ c →
  Calls Try.prog 35 #[.int .i64 F, .agg #[.int .i64 s.fr, .slice A s.bs.length c, .int .i64 s.st, .bool s.ov], .int .i64 p] w1 fun e w' => ∃ A2 c2, e = .returned (.agg #[.int .i64 (rollP F s p).fr, .slice A2 (rollP F s p).bs.length c2, .int .i64 (rollP F s p).st, .bool (rollP F s p).ov]) ∧ Kd.R (Kd.int .i64) 3 w' w1.heap.size (fun _ => True) (.slice A2 (rollP F s p).bs.length c2) (rollP F s p).bs ∧ Below w1.heap.size w1 w'
/-- boWays, by what it hands back. -/
def WaysAt (F : Int) (tv : Value) (s : BoS) (o w : Int) (h : Int → Nat) : Prop := ∀ (A : Option Addr) (c : Nat) (NT : Nat) (w1 : World), NT ≤ w1.heap.size → TableAt w1 NT tv (F.toNat + 1) → Kd.C (Kd.int .i64) w1 A s.bs.length s.bs → s.bs.length ≤ c →
  Calls Try.prog 39 #[.int .i64 F, tv, .agg #[.int .i64 s.fr, .slice A s.bs.length c, .int .i64 s.st, .bool s.ov], .int .i64 o, .int .i64 w] w1 fun e w' => ∃ v, e = .returned v ∧ TabAt w' w'.heap.size v h ∧ Below w1.heap.size w1 w' ∧ ∀ b, v.ownBlock = some b → b < NT ∨ w1.heap.size ≤ b
theorem ways_bnd (HSt : StateC) (F : Int) (hF : 1 ≤ F ∧ F ≤ 10) (tv : Value) (s : BoS) (o w : Int) (h : s.ov = false) (hb : bndP F s o w) : WaysAt F tv s o w (cntP (F - s.fr).toNat o w) := by
  obtain ⟨h1, h2, j, hj, rfl, rfl⟩ := hb
  intro A c NT w1 hN ht hC hc
  rw [h1, h]
  have := ways_table HSt F.toNat s.fr.toNat j F s.fr (by omega) (by omega) (by omega) (by omega) hj A c s.st tv NT w1 hN ht
  refine this.mono ?_
  rintro e w' ⟨v, rfl, h3, h4⟩
  rw [show (F - s.fr).toNat = F.toNat - s.fr.toNat by omega]
  refine ⟨v, rfl, h3.step (Nat.le_trans hN h4.size) (fun _ _ _ => rfl), h4, fun b hb => Or.inl ?_⟩
  obtain ⟨g, c_, rfl, _, hg, _⟩ := h3
  injection hb with hb
  exact hb ▸ hg
set_option maxRecDepth 100000 in
set_option maxHeartbeats 8000000 in
theorem ways_over (F : Int) (tv : Value) (s : BoS) (o w : Int) (h : s.ov = true) : WaysAt F tv s o w (fun t => if t = 0 then 1 else 0) := by
  intro A c NT w1 hN ht hC hc
  rw [h]
  generalize s.bs.length = ln at *
  generalize s.fr = k at *
  generalize s.st = st at *
  have hu46 := Try.underlying46
  clear hN ht hC hc h
  go_enter Try.func39, Try.ntmps39
  go_wp2_with (first | ((with_reducible refine gate_dst (N := 18) rfl ?_); refine Kd.R_make (Kd.int .i64) (w0 := w1) w1.heap.size 3 rfl (N := 18) rfl 28 _ _ rfl (301 : Int) rfl rfl Try.underlying28 (.int .i64 0) 8 info3 rfl (by decide) (by omega) 0 (ok := fun _ => True) (okp := fun _ => True) rfl (fun _ hk => hk) trivial (by omega) (by omega) (below_alloc (Below.refl w1.heap.size w1) _) (Below.size (below_alloc (Below.refl w1.heap.size w1) _)) ?_; intro v18 w5 ho hb5 hg5 hn5; obtain ⟨G, cap, ev, gb, gl, _⟩ := Kd.R_form ho (by simp); rw [show (List.replicate (301 : Int).toNat (0 : Int)).length = 301 by rw [List.length_replicate]; rfl] at ev; subst ev; have HC5 : Aside0 (CntAt w5 w1.heap.size G cap (fun _ => 0)) := Aside0.mk (by rw [CntAt, ← arrS_zero]; exact CntAt.tight ho); have HB5 := Aside0.mk hb5; have HGL := Aside0.mk gl; have c0_ := (Kd.R_celln 0 HC5.out 0 (by decide) (by decide)).1; have c1_ := (Kd.R_celln 0 HC5.out 0 (by decide) (by decide)).2; simp only [arrS_rd _ _ (show (0 : Int) ≤ 0 by decide) (show (0 : Int) < 301 by decide), show (0 : Int).toNat = 0 from rfl] at c0_ c1_; clear ho hb5 hg5 hn5 gb gl))
  have hp := Kd.R_putn HC5.out 0 (1 : Int)
  rw [show (1 : Int) = ((1 : Nat) : Int) from rfl, arrS_set _ _ _ (by decide), arrS_congr (g := fun t => if t = 0 then 1 else 0) (fun t _ _ => rfl)] at hp
  have hG := ((Kd.own_of_R HC5.out).lt G rfl).1
  go_ret
  refine ⟨_, rfl, CntAt.tab hp ?_, below_set HB5.out hG, fun b hb => Or.inr ?_⟩
  · simp [World.setCell]
    exact HGL.out
  · injection hb with hb
    exact hb ▸ hG
/-- What the first balls count. -/
def sumB (g : Nat → Int → Nat) (o : Int) (p : Nat) (t : Int) : Nat := ((List.range p).map fun q => g q (t - (q : Int) * o)).sum
theorem sumB_succ (g : Nat → Int → Nat) (o : Int) (p : Nat) (t : Int) : sumB g o (p + 1) t = sumB g o p t + g p (t - (p : Int) * o) := by
  unfold sumB
  rw [List.range_succ, List.map_append, List.sum_append]
  simp
theorem sumB_le (g : Nat → Int → Nat) (o : Int) (hg : ∀ q t, g q t ≤ 100000000000000000) : ∀ (p : Nat) (t : Int), sumB g o p t ≤ p * 100000000000000000
  | 0, t => by simp [sumB]
  | p + 1, t => by
    have := sumB_le g o hg p t
    have := hg p (t - (p : Int) * o)
    rw [sumB_succ]
    omega
set_option maxRecDepth 100000 in
set_option maxHeartbeats 16000000 in
theorem ways_mid (HAdd : AddC) (HRoll : RollC) (F : Int) (hF : 1 ≤ F ∧ F ≤ 10) (tv : Value) (s : BoS) (o w : Int) (h : s.ov = false) (hm : midP1 F s o w) (g : Nat → Int → Nat) (hlow : ∀ q t, t < 0 → g q t = 0) (hcap : ∀ q t, g q t ≤ 100000000000000000)
    (HW : ∀ p : Nat, (p : Int) ≤ s.st → WaysAt F tv (rollP F s (p : Int)) (firstP F s w (p : Int)) 1 (g p)) :
    WaysAt F tv s o w (sumB g o (s.st.toNat + 1)) := by
  intro A c NT w1 hN ht hC hc
  obtain ⟨hm1, hm2, hm3, hm4, hm5, hm6, hm7⟩ := hm
  have HADD := Aside0.mk HAdd
  have HRL := Aside0.mk (fun (p : Int) (w2 : World) (hp : 0 ≤ p ∧ p ≤ 10) (hC2 : Kd.C (Kd.int .i64) w2 A s.bs.length s.bs) => (show Calls Try.prog 35 #[.int .i64 F, .agg #[.int .i64 s.fr, .slice A s.bs.length c, .int .i64 s.st, .bool false], .int .i64 p] w2 _ from h ▸ HRoll F s p A c w2 hF hm5 hm2 hm3 hm4 hp hC2 hc))
  have HWW := Aside0.mk HW
  have HT := Aside0.mk (And.intro hN ht)
  have HCC := Aside0.mk hC
  have HL := Aside0.mk (And.intro hlow hcap)
  have HM := Aside0.mk (And.intro hF (And.intro hm4 (And.intro hm5 (And.intro hm6 hm7))))
  rw [h]
  have hb0 : (s.bs.length == 0) = false := by
    cases hbs : s.bs with
    | nil => exact absurd hbs hm1
    | cons a l => rfl
  have hb1 : ((s.bs.length : Int) == 0) = false := by
    rw [beq_eq_false_iff_ne]
    rw [beq_eq_false_iff_ne] at hb0
    omega
  have hfw : wrap64 (F - 1) = F - 1 := wrap_in (by omega) (by omega)
  have hu46 := Try.underlying46
  obtain ⟨st, hst⟩ : ∃ st : Int, st = s.st := ⟨_, rfl⟩
  obtain ⟨fr, hfr⟩ : ∃ fr : Int, fr = s.fr := ⟨_, rfl⟩
  obtain ⟨ln, hln⟩ : ∃ ln : Nat, ln = s.bs.length := ⟨_, rfl⟩
  rw [← hst, ← hfr, ← hln] at HRL
  rw [← hst, ← hfr, ← hln]
  rw [← hst, ← hfr] at HM
  rw [← hst] at HWW
  rw [← hln] at HCC hb0 hb1
  have HSF := Aside0.mk (And.intro hst (And.intro hfr hln))
  clear HAdd HRoll HW hN ht hC hc h hm1 hm2 hm3 hm4 hm5 hm6 hm7 hlow hcap hF hst hfr hln
  go_enter Try.func39, Try.ntmps39
  go_wp2_with (first | ((with_reducible refine gate_dst (N := 40) rfl ?_); refine Kd.R_make (Kd.int .i64) (w0 := w1) w1.heap.size 3 rfl (N := 40) rfl 28 _ _ rfl (301 : Int) rfl rfl Try.underlying28 (.int .i64 0) 8 info3 rfl (by decide) (by omega) 0 (ok := fun _ => True) (okp := fun _ => True) rfl (fun _ hk => hk) trivial (by omega) (by omega) (below_alloc (Below.refl w1.heap.size w1) _) (Below.size (below_alloc (Below.refl w1.heap.size w1) _)) ?_; intro v40 w5 ho hb5 hg5 hn5; obtain ⟨G, cap, ev, gb, gl, _⟩ := Kd.R_form ho (by simp); rw [show (List.replicate (301 : Int).toNat (0 : Int)).length = 301 by rw [List.length_replicate]; rfl] at ev; subst ev; have HC5 : Aside0 (CntAt w5 w1.heap.size G cap (fun _ => 0)) := Aside0.mk (by rw [CntAt, ← arrS_zero]; exact CntAt.tight ho); have HB5 := Aside0.mk hb5; have HG5 := Aside0.mk (show w1.heap.size < G ∧ G < w5.heap.size from ⟨by obtain ⟨b, e1, e2⟩ := hn5; have e3 : G = b := Option.some.inj e1; rw [alloc_one] at e2; omega, gl⟩); have HX5 := Aside0.mk ((hg5.block w1.heap.size (by rw [alloc_one]; omega) (by simp)).trans (alloc_here w1 _)); clear ho hb5 hg5 hn5 gb gl))
  go_loopg [13] (st.toNat + 2) (fun kq v13 wx => ∃ (p : Nat) (sp : Int), v13 = .int .i64 sp ∧ Aside0 (sp = (p : Int)) ∧ Aside0 (p + kq = st.toNat + 2 ∧ p ≤ st.toNat + 1) ∧ Aside0 (CntAt wx w1.heap.size G cap (sumB g o p)) ∧ Aside0 (wx.heap[w1.heap.size]? = some (.cells #[.int .i64 fr, .slice A ln c, .int .i64 st, .bool false] 46 (0, 0))) ∧ Aside0 (Below w1.heap.size w1 wx))
  case atStart => exact ⟨0, 0, by simp, ⟨by simp⟩, ⟨by omega⟩, HC5, HX5, HB5⟩
  case round =>
    clear HC5 HX5 HB5
    obtain ⟨p, sp, rfl, HSP, HQ, HC, HX, HB⟩ := hrel
    have z0 : wr.cell? ⟨w1.heap.size, 0, none⟩ = some (.int .i64 fr) := (blk_cell HX.out 0).trans rfl
    have z1 : wr.cell? ⟨w1.heap.size, 1, none⟩ = some (.slice A ln c) := (blk_cell HX.out 1).trans rfl
    have z2 : wr.cell? ⟨w1.heap.size, 2, none⟩ = some (.int .i64 st) := (blk_cell HX.out 2).trans rfl
    have z3 : wr.cell? ⟨w1.heap.size, 3, none⟩ = some (.bool false) := (blk_cell HX.out 3).trans rfl
    by_cases hp : sp ≤ st
    · have up : decide (sp ≤ st) = true := decide_eq_true hp
      have hsp := HSP.out
      have hst := HM.out.2.1
      have HP := Aside0.mk (show 0 ≤ sp ∧ sp ≤ st by omega)
      obtain ⟨r, hr⟩ : ∃ r : BoS, r = rollP F s sp := ⟨_, rfl⟩
      have hrl := fun w2 hC2 => HRL.out sp w2 (by omega) hC2
      have hww := HWW.out p (by omega)
      rw [← hsp] at hww
      rw [← hr] at hrl hww
      obtain ⟨D, hD⟩ : ∃ D : Int, D = sp * o := ⟨_, rfl⟩
      have ho := HM.out.2.2.2.1
      have m3 := mul3 (a := sp) (x := o) (by omega) (by omega) (by omega)
      have w1_ : wrap64 (sp * o) = D := by rw [hD]; exact wrap_in (by omega) (by omega)
      have HD := Aside0.mk (show 0 ≤ D ∧ D ≤ 3000 by omega)
      have hsum := fun t : Int => sumB_succ g o p t
      rw [← hsp, ← hD] at hsum
      have HSUM := Aside0.mk hsum
      have HCAP := Aside0.mk (show ∀ t : Int, sumB g o p t + g p (t - D) ≤ 5726805883325784576 from fun t => by
        have h1 := sumB_le g o HL.out.2 p t
        have h2 := HL.out.2 p (t - D)
        have : p ≤ 10 := by omega
        omega)
      have cs1 : wrap64 (sp + 1) = sp + 1 := wrap_in (by omega) (by omega)
      obtain ⟨wi, hwi⟩ : ∃ wi : Int, wi = firstP F s w sp := ⟨_, rfl⟩
      rw [← hwi] at hww
      have HRL1 := Aside0.mk hrl
      have HWW1 := Aside0.mk hww
      have hsf := HSF.out
      by_cases hf : fr < F - 1
      · have uf : decide (fr < F - 1) = true := decide_eq_true hf
        by_cases hq : sp = st
        · have uq : (sp == st) = true := beq_iff_eq.mpr hq
          have wv : wi = w + 1 := by rw [hwi]; exact if_pos ⟨by omega, by omega⟩
          have ww : wrap64 (w + 1) = wi := by rw [wv]; have := HM.out.2.2.2.2; exact wrap_in (by omega) (by omega)
          clear hp hsp hst hrl hww hD ho m3 hsum hwi hsf hf hq wv hr
          go_wp2_with (first | (go_at_call 35; refine (HRL1.out _ (Kd.C_below HCC.out HB.out)).mono ?_; rintro e w6 ⟨A2, c2, rfl, hr6, hb6⟩; have hx6 := (hb6.block w1.heap.size (Array.getElem?_eq_some_iff.1 HX.out).1).trans HX.out; have y0 : ∀ o_, (w6.alloc o_).cell? ⟨w1.heap.size, 0, none⟩ = some (.int .i64 fr) := fun o_ => pw_cell_below (below_alloc (Below.refl w6.heap.size w6) o_) ((blk_cell hx6 0).trans rfl); have y2 : ∀ o_, (w6.alloc o_).cell? ⟨w1.heap.size, 2, none⟩ = some (.int .i64 st) := fun o_ => pw_cell_below (below_alloc (Below.refl w6.heap.size w6) o_) ((blk_cell hx6 2).trans rfl); clear hx6; have hb7 := below_alloc hb6 (.cells #[.int .i64 r.fr, .slice A2 r.bs.length c2, .int .i64 r.st, .bool r.ov] 46); have HB7 := Aside0.mk (HB.out.trans (hb7.mono HB.out.size)); have HS7 := Aside0.mk hb7.size; have HC7 := Aside0.mk (Kd.R_below HC.out hb7); have HX7 := Aside0.mk ((hb7.block w1.heap.size (Array.getElem?_eq_some_iff.1 HX.out).1).trans HX.out); have HR7 := Aside0.mk (And.intro (Kd.C_below (Kd.R_reads' hr6).2.2 (below_alloc (Below.refl w6.heap.size w6) (.cells #[.int .i64 r.fr, .slice A2 r.bs.length c2, .int .i64 r.st, .bool r.ov] 46))) (Kd.R_reads' hr6).2.1); clear hr6 hb6 hb7) | (go_at_call 39; refine (HWW1.out A2 c2 NT _ (Nat.le_trans HT.out.1 HB7.out.size) (HT.out.2.step (Nat.le_refl _) (fun g_ _ hg_ _ _ => HB7.out.block g_ (Nat.lt_of_lt_of_le hg_ HT.out.1))) HR7.out.1 HR7.out.2).mono ?_; rintro e w8 ⟨v8, rfl, ht8, hb8, ho8⟩; have htv := ht8; obtain ⟨g_, cg_, ev8, _⟩ := htv; subst ev8; have HT8 := Aside0.mk ht8; have HC8 := Aside0.mk (Kd.R_below HC7.out hb8); have HX8 := Aside0.mk ((hb8.block w1.heap.size (Array.getElem?_eq_some_iff.1 HX7.out).1).trans HX7.out); have HB8 := Aside0.mk (HB7.out.trans (hb8.mono HB7.out.size)); have HN8 := Aside0.mk (show (Value.slice (some ⟨g_, 0, none⟩) 301 cg_).ownBlock ≠ some G from fun e_ => by have h_ := ho8 g_ rfl; injection e_ with e_; have e2_ : g_ = G := e_; have h1_ := HG5.out; have h2_ := HT.out.1; have h3_ := (Kd.own_of_R HC.out).lt G rfl; have h4_ := HS7.out; omega); clear ht8 hb8 ho8) | (go_at_call 38; refine (HADD.out G cap _ _ _ _ D w1 _ HD.out.1 HD.out.2 (fun t ht => HL.out.1 p t ht) HCAP.out HB8.out HC8.out HT8.out HN8.out).mono ?_; rintro e w9 ⟨rfl, hc9, hb9, hk9⟩; have HC9 := Aside0.mk hc9; have HB9 := Aside0.mk hb9; have HX9 := Aside0.mk ((hk9.2 w1.heap.size (Array.getElem?_eq_some_iff.1 HX8.out).1 (fun e_ => by have := HG5.out.1; omega)).trans HX8.out); clear hc9 hb9 hk9))
          go_roundg (gk - 1)
          case measure => have := HQ.out; have := HP.out; omega
          case rel => exact ⟨p + 1, sp + 1, by first | rfl | simp [cs1] | (rw [wrapK, cs1]), ⟨by rw [HSP.out]; omega⟩, ⟨by have := HQ.out; have := HP.out; have := HSP.out; omega⟩, ⟨by rw [show sumB g o (p + 1) = _ from funext HSUM.out]; exact HC9.out⟩, HX9, HB9⟩
        · have uq : (sp == st) = false := beq_eq_false_iff_ne.mpr hq
          have wv : wi = w := by rw [hwi]; exact if_neg (fun h_ => hq (by omega))
          subst wv
          clear hp hsp hst hrl hww hD ho m3 hsum hwi hsf hf hq hr
          go_wp2_with (first | (go_at_call 35; refine (HRL1.out _ (Kd.C_below HCC.out HB.out)).mono ?_; rintro e w6 ⟨A2, c2, rfl, hr6, hb6⟩; have hx6 := (hb6.block w1.heap.size (Array.getElem?_eq_some_iff.1 HX.out).1).trans HX.out; have y0 : ∀ o_, (w6.alloc o_).cell? ⟨w1.heap.size, 0, none⟩ = some (.int .i64 fr) := fun o_ => pw_cell_below (below_alloc (Below.refl w6.heap.size w6) o_) ((blk_cell hx6 0).trans rfl); have y2 : ∀ o_, (w6.alloc o_).cell? ⟨w1.heap.size, 2, none⟩ = some (.int .i64 st) := fun o_ => pw_cell_below (below_alloc (Below.refl w6.heap.size w6) o_) ((blk_cell hx6 2).trans rfl); clear hx6; have hb7 := below_alloc hb6 (.cells #[.int .i64 r.fr, .slice A2 r.bs.length c2, .int .i64 r.st, .bool r.ov] 46); have HB7 := Aside0.mk (HB.out.trans (hb7.mono HB.out.size)); have HS7 := Aside0.mk hb7.size; have HC7 := Aside0.mk (Kd.R_below HC.out hb7); have HX7 := Aside0.mk ((hb7.block w1.heap.size (Array.getElem?_eq_some_iff.1 HX.out).1).trans HX.out); have HR7 := Aside0.mk (And.intro (Kd.C_below (Kd.R_reads' hr6).2.2 (below_alloc (Below.refl w6.heap.size w6) (.cells #[.int .i64 r.fr, .slice A2 r.bs.length c2, .int .i64 r.st, .bool r.ov] 46))) (Kd.R_reads' hr6).2.1); clear hr6 hb6 hb7) | (go_at_call 39; refine (HWW1.out A2 c2 NT _ (Nat.le_trans HT.out.1 HB7.out.size) (HT.out.2.step (Nat.le_refl _) (fun g_ _ hg_ _ _ => HB7.out.block g_ (Nat.lt_of_lt_of_le hg_ HT.out.1))) HR7.out.1 HR7.out.2).mono ?_; rintro e w8 ⟨v8, rfl, ht8, hb8, ho8⟩; have htv := ht8; obtain ⟨g_, cg_, ev8, _⟩ := htv; subst ev8; have HT8 := Aside0.mk ht8; have HC8 := Aside0.mk (Kd.R_below HC7.out hb8); have HX8 := Aside0.mk ((hb8.block w1.heap.size (Array.getElem?_eq_some_iff.1 HX7.out).1).trans HX7.out); have HB8 := Aside0.mk (HB7.out.trans (hb8.mono HB7.out.size)); have HN8 := Aside0.mk (show (Value.slice (some ⟨g_, 0, none⟩) 301 cg_).ownBlock ≠ some G from fun e_ => by have h_ := ho8 g_ rfl; injection e_ with e_; have e2_ : g_ = G := e_; have h1_ := HG5.out; have h2_ := HT.out.1; have h3_ := (Kd.own_of_R HC.out).lt G rfl; have h4_ := HS7.out; omega); clear ht8 hb8 ho8) | (go_at_call 38; refine (HADD.out G cap _ _ _ _ D w1 _ HD.out.1 HD.out.2 (fun t ht => HL.out.1 p t ht) HCAP.out HB8.out HC8.out HT8.out HN8.out).mono ?_; rintro e w9 ⟨rfl, hc9, hb9, hk9⟩; have HC9 := Aside0.mk hc9; have HB9 := Aside0.mk hb9; have HX9 := Aside0.mk ((hk9.2 w1.heap.size (Array.getElem?_eq_some_iff.1 HX8.out).1 (fun e_ => by have := HG5.out.1; omega)).trans HX8.out); clear hc9 hb9 hk9))
          go_roundg (gk - 1)
          case measure => have := HQ.out; have := HP.out; omega
          case rel => exact ⟨p + 1, sp + 1, by first | rfl | simp [cs1] | (rw [wrapK, cs1]), ⟨by rw [HSP.out]; omega⟩, ⟨by have := HQ.out; have := HP.out; have := HSP.out; omega⟩, ⟨by rw [show sumB g o (p + 1) = _ from funext HSUM.out]; exact HC9.out⟩, HX9, HB9⟩
      · have uf : decide (fr < F - 1) = false := decide_eq_false hf
        have wv : wi = w := by rw [hwi]; exact if_neg (fun h_ => hf (by omega))
        subst wv
        clear hp hsp hst hrl hww hD ho m3 hsum hwi hsf hf hr
        go_wp2_with (first | (go_at_call 35; refine (HRL1.out _ (Kd.C_below HCC.out HB.out)).mono ?_; rintro e w6 ⟨A2, c2, rfl, hr6, hb6⟩; have hx6 := (hb6.block w1.heap.size (Array.getElem?_eq_some_iff.1 HX.out).1).trans HX.out; have y0 : ∀ o_, (w6.alloc o_).cell? ⟨w1.heap.size, 0, none⟩ = some (.int .i64 fr) := fun o_ => pw_cell_below (below_alloc (Below.refl w6.heap.size w6) o_) ((blk_cell hx6 0).trans rfl); have y2 : ∀ o_, (w6.alloc o_).cell? ⟨w1.heap.size, 2, none⟩ = some (.int .i64 st) := fun o_ => pw_cell_below (below_alloc (Below.refl w6.heap.size w6) o_) ((blk_cell hx6 2).trans rfl); clear hx6; have hb7 := below_alloc hb6 (.cells #[.int .i64 r.fr, .slice A2 r.bs.length c2, .int .i64 r.st, .bool r.ov] 46); have HB7 := Aside0.mk (HB.out.trans (hb7.mono HB.out.size)); have HS7 := Aside0.mk hb7.size; have HC7 := Aside0.mk (Kd.R_below HC.out hb7); have HX7 := Aside0.mk ((hb7.block w1.heap.size (Array.getElem?_eq_some_iff.1 HX.out).1).trans HX.out); have HR7 := Aside0.mk (And.intro (Kd.C_below (Kd.R_reads' hr6).2.2 (below_alloc (Below.refl w6.heap.size w6) (.cells #[.int .i64 r.fr, .slice A2 r.bs.length c2, .int .i64 r.st, .bool r.ov] 46))) (Kd.R_reads' hr6).2.1); clear hr6 hb6 hb7) | (go_at_call 39; refine (HWW1.out A2 c2 NT _ (Nat.le_trans HT.out.1 HB7.out.size) (HT.out.2.step (Nat.le_refl _) (fun g_ _ hg_ _ _ => HB7.out.block g_ (Nat.lt_of_lt_of_le hg_ HT.out.1))) HR7.out.1 HR7.out.2).mono ?_; rintro e w8 ⟨v8, rfl, ht8, hb8, ho8⟩; have htv := ht8; obtain ⟨g_, cg_, ev8, _⟩ := htv; subst ev8; have HT8 := Aside0.mk ht8; have HC8 := Aside0.mk (Kd.R_below HC7.out hb8); have HX8 := Aside0.mk ((hb8.block w1.heap.size (Array.getElem?_eq_some_iff.1 HX7.out).1).trans HX7.out); have HB8 := Aside0.mk (HB7.out.trans (hb8.mono HB7.out.size)); have HN8 := Aside0.mk (show (Value.slice (some ⟨g_, 0, none⟩) 301 cg_).ownBlock ≠ some G from fun e_ => by have h_ := ho8 g_ rfl; injection e_ with e_; have e2_ : g_ = G := e_; have h1_ := HG5.out; have h2_ := HT.out.1; have h3_ := (Kd.own_of_R HC.out).lt G rfl; have h4_ := HS7.out; omega); clear ht8 hb8 ho8) | (go_at_call 38; refine (HADD.out G cap _ _ _ _ D w1 _ HD.out.1 HD.out.2 (fun t ht => HL.out.1 p t ht) HCAP.out HB8.out HC8.out HT8.out HN8.out).mono ?_; rintro e w9 ⟨rfl, hc9, hb9, hk9⟩; have HC9 := Aside0.mk hc9; have HB9 := Aside0.mk hb9; have HX9 := Aside0.mk ((hk9.2 w1.heap.size (Array.getElem?_eq_some_iff.1 HX8.out).1 (fun e_ => by have := HG5.out.1; omega)).trans HX8.out); clear hc9 hb9 hk9))
        go_roundg (gk - 1)
        case measure => have := HQ.out; have := HP.out; omega
        case rel => exact ⟨p + 1, sp + 1, by first | rfl | simp [cs1] | (rw [wrapK, cs1]), ⟨by rw [HSP.out]; omega⟩, ⟨by have := HQ.out; have := HP.out; have := HSP.out; omega⟩, ⟨by rw [show sumB g o (p + 1) = _ from funext HSUM.out]; exact HC9.out⟩, HX9, HB9⟩
    · have up : decide (sp ≤ st) = false := decide_eq_false hp
      have hpe : p = st.toNat + 1 := by have := HQ.out; have := HSP.out; have := HM.out.2.1; omega
      have hG := ((Kd.own_of_R HC.out).lt G rfl)
      subst hpe
      clear hp
      go_wp2
      go_ret
      refine ⟨_, rfl, ?_, HB.out, fun b hb => Or.inr ?_⟩
      · exact HC.out.tab hG.2
      · injection hb with hb
        exact hb ▸ hG.1
end Go.Proofs.Ytdioconinnpmmaa.Pin
