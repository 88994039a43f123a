/- The reference finds the first game with a total: for every number of frames. -/
import Derived.Test.YtdioconinnpmmaaPinMid
set_option linter.unusedVariables false
set_option linter.unusedSimpArgs false
namespace Go.Proofs.Ytdioconinnpmmaa.Pin
open Go.RowKit Go.Proofs.YtdioconinnpmmaaW.PrintWords Go.Proofs.YtdioconinnpmmaaW.PrintLast
/-! ### Pins: the reference's FirstGameOf -/
theorem firstL_len : ∀ (n : Nat) (x y q : Int), (firstL n x y q).length ≤ 3 * n
  | 0, _, _, _ => by simp [firstL]
  | n + 1, x, y, q => by
    cases h : (framesV ((n + 1 : Nat) : Int)).find? (posP n x y q) with
    | none =>
      show (match (framesV ((n + 1 : Nat) : Int)).find? (posP n x y q) with
        | some fr => fr ++ firstL n (nextV (0, x, y) fr).2.1 (nextV (0, x, y) fr).2.2 (q - pointsV x y fr)
        | none => []).length ≤ _
      rw [h]
      exact Nat.zero_le _
    | some fr =>
      rw [firstL_step h, List.length_append]
      have h1 := (frOk_len (frames_ok _ fr (mem_find h))).2
      have h2 := firstL_len n (nextV (0, x, y) fr).2.1 (nextV (0, x, y) fr).2.2 (q - pointsV x y fr)
      omega
def OwnC : Prop := ∀ (A : Option Addr) (c : Nat) (l : List Int) (w : World), l.length ≤ 100 → Kd.C (Kd.int .i64) w A l.length l → l.length ≤ c → Calls Try.prog 29 #[.slice A l.length c] w fun e w' => ∃ v, e = .returned v ∧ Kd.R (Kd.int .i64) 3 w' w.heap.size (fun _ => True) v l ∧ Below w.heap.size w w'
/-- The rolls so far. -/
def GoodR (F : Int) (gs : List Int) : Prop := ∀ i (h : i < gs.length), okT F (behindT F (gs.take i)) ∧ 0 ≤ gs[i] ∧ gs[i] ≤ 10
theorem good_more {F : Int} {gs : List Int} {b : BoT} {p : Int} (h : GoodR F gs) (hb : b = behindT F gs) (hok : okT F b) (h0 : 0 ≤ p) (h1 : p ≤ 10) : GoodR F (gs ++ [p]) := fun i hi => by
  by_cases e : i < gs.length
  · rw [List.take_append_of_le_length (Nat.le_of_lt e), List.getElem_append_left e]
    exact h i e
  · have ei : i = gs.length := by simp at hi; omega
    subst ei
    rw [List.take_left, List.getElem_append_right (Nat.le_refl _)]
    simp only [Nat.sub_self, List.getElem_singleton]
    rw [← hb]
    exact ⟨hok, h0, h1⟩
/-- boFrom behind the rolls and one ball more. -/
theorem from_ball (HAdd : AddC) (HSt : StateC) (HRoll : RollC) (HS : StartC) {F tot : Int} (hF : 1 ≤ F ∧ F ≤ 10) {RES gs : List Int} {b : BoT} {fr0 bs : List Int} {n : Nat} {k x y S : Int} (M : Mid F tot RES gs b fr0 bs n k x y S) {p0 : Int} {r0 : List Int} (e : fr0 = bs ++ p0 :: r0) (hg : GoodR F gs) (hlen : gs.length ≤ 90) (htot : 0 ≤ tot ∧ tot ≤ 300)
    (p : Int) (h0 : 0 ≤ p) (h1 : p ≤ p0) (tv : Value) (A : Option Addr) (c : Nat) (w : World) (NT : Nat) (hN : NT ≤ w.heap.size) (ht : TableAt w NT tv (F.toNat + 1)) (hC : Kd.C (Kd.int .i64) w A (gs ++ [p]).length (gs ++ [p])) (hc : (gs ++ [p]).length ≤ c) :
    Calls Try.prog 20 #[.int .i64 F, tv, .slice A (gs ++ [p]).length c] w fun e w' => ∃ g_ c_ : Nat, e = .returned (.slice (some ⟨g_, 0, none⟩) 301 c_) ∧ (301 ≤ c_ ∧ w'.cell? ⟨g_, tot.toNat, none⟩ = some (.int .i64 ((sumPre n x y (tot - S) (bs ++ [p]) : Nat) : Int))) ∧ Below w.heap.size w w' := by
  obtain ⟨⟨hok, hov, hp0, hp1⟩, hall⟩ := mid_ball M e
  obtain ⟨hf, hs, hw⟩ := hall p h0 h1
  have hbe : behindT F (gs ++ [p]) = stepT F b p := by rw [behind_more, M.hb]
  have hst := hok.2.2.2.1
  have hgm := good_more hg M.hb hok h0 (by omega)
  have := from_calls HAdd HSt HRoll HS F hF tv 2 (gs ++ [p]) hgm (by rw [hbe]; exact hf.1) (by rw [hbe]; exact hf.2) (by rw [hbe]; exact hs) (by simp; omega) A c w NT hN ht hC hc
  refine this.mono ?_
  rintro e w' ⟨v, rfl, ⟨g_, c_, rfl, h301, _, _, hcl⟩, hb⟩
  refine ⟨g_, c_, rfl, ⟨h301, ?_⟩, hb⟩
  rw [hcl tot.toNat (by omega), Int.toNat_of_nonneg htot.1, hbe]
  exact congrArg (fun z : Nat => some (Value.int .i64 (z : Int))) hw
theorem read_one (w : World) (p : Int) : Kd.C (Kd.int .i64) (w.alloc (.cells #[.int .i64 p] 3)) (some ⟨w.heap.size, 0, none⟩) [p].length [p] := by
  refine Kd.C_of_reads (d := (0 : Int)) ⟨rfl, by simp, fun _ => ⟨_, rfl, fun j hj => ?_⟩⟩
  have hj0 : j = 0 := by simp at hj; omega
  subst hj0
  have := blk_cell (alloc_here w (.cells #[.int .i64 p] 3)) 0
  exact this
set_option maxRecDepth 100000 in
set_option maxHeartbeats 8000000 in
theorem sfirst_no (HAdd : AddC) (HSt : StateC) (HS : StartC) (HLast : LastC) (HTot : TotalC) (f t : Int) (w : World) (h : ¬ (((1 ≤ f ∧ f ≤ 10) ∧ 0 ≤ t ∧ t ≤ 300) ∧ cntP f.toNat 1 1 t ≠ 0)) :
    Calls Try.prog 15 #[.int .i64 f, .int .i64 t] w fun e w' => e = .returned (.tuple #[.slice none 0 0, .bool false]) ∧ Below w.heap.size w w' := by
  have H1 := Aside0.mk (HTot f t)
  by_cases hr : (1 ≤ f ∧ f ≤ 10) ∧ 0 ≤ t ∧ t ≤ 300
  · rw [decide_eq_true hr] at H1
    obtain ⟨F, hF⟩ : ∃ F : Nat, F = f.toNat := ⟨_, rfl⟩
    rw [← hF] at h
    have hz : cntP F 1 1 t = 0 := by
      by_cases hz : cntP F 1 1 t = 0
      · exact hz
      · exact absurd ⟨hr, hz⟩ h
    have HTB := Aside0.mk (table_calls HAdd HSt HLast F f (by omega) (by omega))
    have HFN := Aside0.mk (fun tv w1 ht => from_nil HAdd HSt HS F f (by omega) (by omega) (by omega) tv w1 ht)
    have HX := Aside0.mk (show t.toNat < 301 ∧ ((cntP F 1 1 ((t.toNat : Nat) : Int) : Nat) : Int) = 0 from ⟨by omega, by rw [Int.toNat_of_nonneg hr.2.1, hz]; rfl⟩)
    have v1 : (0 ≤ t) = True := eq_true hr.2.1
    have v2 : (t < 301) = True := eq_true (by omega)
    clear h hz hr hF HAdd HSt HS HLast HTot
    go_enter Try.func15, Try.ntmps15
    go_wp2_with (first | (go_at_call 19; refine (H1.out _).mono ?_; rintro e w2 ⟨rfl, ⟨nd, rfl⟩⟩) | (go_at_call 21; refine (HTB.out _).mono ?_; rintro e w3 ⟨tv, rfl, ht3, hb3⟩; have HT3 := Aside0.mk ht3; have HB3 := Aside0.mk (show Below w.heap.size w w3 from (pw_below_drewN (Below.refl _ _) _).trans hb3); clear ht3 hb3) | (go_at_call 20; refine (HFN.out tv _ HT3.out).mono ?_; rintro e w4 ⟨v, rfl, ht4, hb4⟩; obtain ⟨g, c, rfl, _, _, _, hcl⟩ := ht4; have hcell := hcl t.toNat HX.out.1; rw [HX.out.2] at hcell; have HB4 := Aside0.mk (HB3.out.trans (hb4.mono HB3.out.size)); clear hcl hb4))
    go_ret2
    exact ⟨rfl, HB4.out⟩
  · rw [decide_eq_false hr] at H1
    clear h hr HAdd HSt HS HLast HTot
    go_enter Try.func15, Try.ntmps15
    go_wp2_with (go_at_call 19; refine (H1.out _).mono ?_; rintro e w2 ⟨rfl, ⟨nd, rfl⟩⟩)
    go_ret2
    exact ⟨rfl, pw_below_drewN (Below.refl _ _) _⟩
/-- What stays from ball to ball. -/
structure SInv (F : Int) (w3 : World) (gs : List Int) (b : BoT) (v7 : Value) (BX : Nat) (A2 : Option Addr) (c2 : Nat) (wx : World) : Prop where
  hb : b = behindT F gs
  good : GoodR F gs
  hx : wx.heap[BX]? = some (.cells #[.int .i64 b.s.fr, .slice A2 b.s.bs.length c2, .int .i64 b.s.st, .bool b.s.ov] 46 (0, 0))
  hr : Kd.R (Kd.int .i64) 3 wx w3.heap.size (fun _ => True) (.slice A2 b.s.bs.length c2) b.s.bs
  ho : Kd.R (Kd.int .i64) 3 wx w3.heap.size (fun _ => True) v7 gs
  fb : Below w3.heap.size w3 wx
  bx : w3.heap.size ≤ BX
theorem SInv.below {F : Int} {w3 wx W' : World} {gs : List Int} {b : BoT} {v7 : Value} {BX : Nat} {A2 : Option Addr} {c2 : Nat} (h : SInv F w3 gs b v7 BX A2 c2 wx) (hb : Below wx.heap.size wx W') : SInv F w3 gs b v7 BX A2 c2 W' :=
  ⟨h.hb, h.good, (hb.block BX (Array.getElem?_eq_some_iff.1 h.hx).1).trans h.hx, Kd.R_below h.hr hb, Kd.R_below h.ho hb, h.fb.trans (hb.mono h.fb.size), h.bx⟩
/-- The game that is looked for: told whole, or in the middle. -/
def OnWay (F tot : Int) (RES gs : List Int) (b : BoT) : Prop := (b.s.ov = true ∧ gs = RES) ∨ (b.s.ov = false ∧ ∃ fr0 bs n k x y S, Mid F tot RES gs b fr0 bs n k x y S ∧ ∃ p0 r0, fr0 = bs ++ p0 :: r0)
theorem onway_len {F tot : Int} {RES gs : List Int} {b : BoT} {fr0 bs : List Int} {n : Nat} {k x y S : Int} (M : Mid F tot RES gs b fr0 bs n k x y S) {p0 : Int} {r0 : List Int} (e : fr0 = bs ++ p0 :: r0) : gs.length < RES.length := by
  obtain ⟨g0, h1, h2⟩ := M.res
  rw [← h2, h1, e]
  simp only [List.length_append, List.length_cons]
  omega
set_option maxRecDepth 100000 in
set_option maxHeartbeats 32000000 in
theorem sfirst_yes (HAdd : AddC) (HSt : StateC) (HRoll : RollC) (HS : StartC) (HLast : LastC) (HTot : TotalC) (HOwn : OwnC) (f t : Int) (w : World) (h : ((1 ≤ f ∧ f ≤ 10) ∧ 0 ≤ t ∧ t ≤ 300) ∧ cntP f.toNat 1 1 t ≠ 0) :
    Calls Try.prog 15 #[.int .i64 f, .int .i64 t] w fun e w' => ∃ v, e = .returned (.tuple #[v, .bool true]) ∧ Kd.R (Kd.int .i64) 3 w' w.heap.size (fun _ => True) v (firstL f.toNat 1 1 t) ∧ Below w.heap.size w w' := by
  have H1 := Aside0.mk (HTot f t)
  rw [decide_eq_true h.1] at H1
  obtain ⟨FN, hFN⟩ : ∃ FN : Nat, FN = f.toNat := ⟨_, rfl⟩
  have HTB := Aside0.mk (table_calls HAdd HSt HLast FN f (by omega) (by omega))
  have HFM := Aside0.mk (fun tv w1 ht => from_nil HAdd HSt HS FN f (by omega) (by omega) (by omega) tv w1 ht)
  have HFB := Aside0.mk (fun {RES gs : List Int} {b : BoT} {fr0 bs : List Int} {n : Nat} {k x y S : Int} (M : Mid f t RES gs b fr0 bs n k x y S) {p0 : Int} {r0 : List Int} (e : fr0 = bs ++ p0 :: r0) hg hlen => from_ball HAdd HSt HRoll HS h.1.1 M e hg hlen h.1.2)
  have HRL := Aside0.mk (fun (b : BoT) (p : Int) (A2 : Option Addr) (c2 : Nat) (w1 : World) (hb : okT f b) (hp : 0 ≤ p ∧ p ≤ 10) => HRoll f b.s p A2 c2 w1 h.1.1 hb.1 hb.2.1 hb.2.2.1 hb.2.2.2.1 hp)
  have HSS := Aside0.mk HS
  have HOW := Aside0.mk HOwn
  have HZ := Aside0.mk (mid_zero h)
  have HLN := Aside0.mk (firstL_len f.toNat 1 1 t)
  have HH := Aside0.mk h
  obtain ⟨X, hX⟩ : ∃ X : Int, X = ((cntP FN 1 1 t : Nat) : Int) := ⟨_, rfl⟩
  have HX := Aside0.mk (show t.toNat < 301 ∧ ((cntP FN 1 1 ((t.toNat : Nat) : Int) : Nat) : Int) = X from ⟨by omega, by rw [Int.toNat_of_nonneg h.1.2.1, hX]⟩)
  have u0 : (X == 0) = false := beq_eq_false_iff_ne.mpr (by have := h.2; rw [hX, hFN]; omega)
  have v1 : (0 ≤ t) = True := eq_true h.1.2.1
  have v2 : (t < 301) = True := eq_true (by omega)
  have HFE := Aside0.mk hFN
  generalize hRES : firstL f.toNat 1 1 t = RES at *
  have hu46 := Try.underlying46
  clear HAdd HSt HRoll HS HLast HTot HOwn h hX hFN hRES
  go_enter Try.func15, Try.ntmps15
  go_wp2_with (first | (go_at_call 19; refine (H1.out _).mono ?_; rintro e w2 ⟨rfl, ⟨nd, rfl⟩⟩) | (go_at_call 21; refine (HTB.out _).mono ?_; rintro e w3 ⟨tv, rfl, ht3, hb3⟩; have HT3 := Aside0.mk ht3; have HB3 := Aside0.mk (show Below w.heap.size w w3 from (pw_below_drewN (Below.refl _ _) _).trans hb3); clear ht3 hb3) | (go_at_call 20; refine (HFM.out tv _ HT3.out).mono ?_; rintro e w4 ⟨v, rfl, ht4, hb4⟩; obtain ⟨g, c, rfl, _, _, _, hcl⟩ := ht4; have hcell := hcl t.toNat HX.out.1; rw [HX.out.2] at hcell; have HB4 := Aside0.mk hb4; clear hcl hb4) | (go_at_call 34; refine (HSS.out _).mono ?_; rintro e w5 ⟨As, cs, rfl, hrs, hb5⟩; have HRS := Aside0.mk hrs; have HB5 := Aside0.mk hb5; clear hb5 hrs))
  have hb6 : Below w3.heap.size w3 (w5.alloc (.cells #[.int .i64 0, .slice As 0 cs, .int .i64 10, .bool false] 46)) := (HB4.out.trans (HB5.out.mono HB4.out.size)).trans ((below_alloc (Below.refl w5.heap.size w5) (.cells #[.int .i64 0, .slice As 0 cs, .int .i64 10, .bool false] 46)).mono (Nat.le_trans HB4.out.size HB5.out.size))
  have hsi : SInv f w3 [] startT (.slice none 0 0) w5.heap.size As cs (w5.alloc (.cells #[.int .i64 0, .slice As 0 cs, .int .i64 10, .bool false] 46)) :=
    ⟨rfl, fun i hi => absurd hi (by simp), alloc_here _ _, Kd.R_lower (Kd.R_below HRS.out (below_alloc (Below.refl w5.heap.size w5) (.cells #[.int .i64 0, .slice As 0 cs, .int .i64 10, .bool false] 46))) HB4.out.size, Kd.R_nil _ _ _ _ _, hb6, Nat.le_trans HB4.out.size HB5.out.size⟩
  have HSI := Aside0.mk hsi
  have HON : Aside0 (OnWay f t RES [] startT) := ⟨Or.inr ⟨rfl, by
    obtain ⟨fr', n', hM, hp⟩ := HZ.out
    exact ⟨fr', [], n', 0, 1, 1, 0, hM, hp⟩⟩⟩
  have HRL2 := Aside0.mk (show RES.length ≤ 30 by have := HLN.out; have := HH.out.1.1; omega)
  have HF1 := Aside0.mk (show f.toNat = FN from HFE.out.symm)
  clear hb6 hsi HB4 HB5 HRS HZ HLN hcell u0 HX
  generalize (w5.alloc (.cells #[.int .i64 0, .slice As 0 cs, .int .i64 10, .bool false] 46)) = W5 at *
  generalize w5.heap.size = BX0 at *
  go_loopg [7, 8] (RES.length + 1) (fun kq v7 v8 wx => ∃ (gs : List Int) (b : BoT) (BX : Nat) (A2 : Option Addr) (c2 : Nat), v8 = .pointer (some ⟨BX, 0, none⟩) ∧ Aside0 (gs.length + kq = RES.length + 1) ∧ Aside0 (OnWay f t RES gs b) ∧ Aside0 (SInv f w3 gs b v7 BX A2 c2 wx))
  case atStart => exact ⟨[], startT, BX0, As, cs, rfl, ⟨by simp⟩, HON, HSI⟩
  case round =>
    clear HON HSI
    obtain ⟨gs, b, BX, A2, c2, rfl, HKQ, HON, HSI⟩ := hrel
    generalize u7 = v7 at *
    obtain ⟨A7, c7, e7⟩ := Kd.R_slice HSI.out.ho
    subst e7
    have z0 : wr.cell? ⟨BX, 0, none⟩ = some (.int .i64 b.s.fr) := (blk_cell HSI.out.hx 0).trans rfl
    have z1 : wr.cell? ⟨BX, 1, none⟩ = some (.slice A2 b.s.bs.length c2) := (blk_cell HSI.out.hx 1).trans rfl
    have z2 : wr.cell? ⟨BX, 2, none⟩ = some (.int .i64 b.s.st) := (blk_cell HSI.out.hx 2).trans rfl
    have z3 : wr.cell? ⟨BX, 3, none⟩ = some (.bool b.s.ov) := (blk_cell HSI.out.hx 3).trans rfl
    rcases HON.out with hon | hon
    · obtain ⟨ho, hg⟩ := hon
      subst hg
      rw [ho] at z3
      clear ho HON z0 z1 z2
      go_wp2
      go_ret2
      exact ⟨_, rfl, Kd.R_lower HSI.out.ho HB3.out.size, HB3.out.trans (HSI.out.fb.mono HB3.out.size)⟩
    · obtain ⟨ho, fr0, bs, n, k, x, y, S, hM, p0, r0, he⟩ := hon
      rw [ho] at z3
      have HM := Aside0.mk hM
      have HE := Aside0.mk he
      have hgl := onway_len hM he
      have HGL := Aside0.mk (show gs.length < RES.length ∧ gs.length ≤ 90 ∧ gs.length ≤ 100 from ⟨hgl, by have := HRL2.out; omega, by have := HRL2.out; omega⟩)
      have hmb := mid_ball hM he
      have HOK := Aside0.mk hmb.1
      clear hM he hgl hmb HON
      go_wp2
      have HS0 := HSI
      clear HSI z0 z1 z2 z3
      generalize gk = gko at *
      go_loopg [7, 9] 12 (fun kq v7 v9 wx => ∃ (p : Nat) (sp : Int), v7 = .slice A7 gs.length c7 ∧ v9 = .int .i64 sp ∧ Aside0 (sp = (p : Int)) ∧ Aside0 (p + kq = 12 ∧ sp ≤ p0) ∧ Aside0 (SInv f w3 gs b (.slice A7 gs.length c7) BX A2 c2 wx))
      case atStart => exact ⟨0, 0, rfl, by simp, ⟨by simp⟩, ⟨by have := HOK.out; omega⟩, HS0⟩
      case round =>
        clear HS0
        obtain ⟨p, sp, rfl, rfl, HSP, HPQ, HSI⟩ := hrel
        have z0 : wr.cell? ⟨BX, 0, none⟩ = some (.int .i64 b.s.fr) := (blk_cell HSI.out.hx 0).trans rfl
        have z1 : wr.cell? ⟨BX, 1, none⟩ = some (.slice A2 b.s.bs.length c2) := (blk_cell HSI.out.hx 1).trans rfl
        have z2 : wr.cell? ⟨BX, 2, none⟩ = some (.int .i64 b.s.st) := (blk_cell HSI.out.hx 2).trans rfl
        have hst := HOK.out.1.2.2.2.1
        have up : decide (sp ≤ b.s.st) = true := decide_eq_true (by have := HPQ.out; have := HOK.out; omega)
        have cs1 : wrap64 (sp + 1) = sp + 1 := wrap_in (by have := HSP.out; omega) (by have := HPQ.out; have := HOK.out; omega)
        have HLE := Aside0.mk (show (gs.length + 1) * 8 ≤ 140737488355328 by have := HGL.out; omega)
        have HT4 := Aside0.mk (show TableAt w3 w3.heap.size tv (f.toNat + 1) by rw [HF1.out]; exact HT3.out)
        have hfb := fun tv A c w NT => HFB.out HM.out HE.out HSI.out.good HGL.out.2.1 sp (by have := HSP.out; omega) HPQ.out.2 tv A c w NT
        simp only [List.length_append, List.length_singleton] at hfb
        have HP10 := Aside0.mk (show 0 ≤ sp ∧ sp ≤ 10 by have := HSP.out; have := HPQ.out; have := HOK.out; omega)
        by_cases hlt : sp < p0
        · have hz : ((sumPre n x y (t - S) (bs ++ [sp]) : Nat) : Int) = 0 := by rw [pre_low HM.out.find HE.out hlt]; rfl
          rw [hz] at hfb
          have HFB1 := Aside0.mk hfb
          have HLT := Aside0.mk hlt
          clear hfb hz hlt hst
          go_wp2_with (first | (go_at_call 29; refine (HOW.out A7 c7 gs _ HGL.out.2.2 (Kd.R_reads' HSI.out.ho).2.2 (Kd.R_reads' HSI.out.ho).2.1).mono ?_; rintro e w6 ⟨v6, rfl, hr6, hb6⟩; obtain ⟨A6, c6, e6⟩ := Kd.R_slice hr6; subst e6; have HR6 := Aside0.mk hr6; have HB6 := Aside0.mk hb6; clear hr6 hb6) | (at_builtin; refine Kd.R_append_row (.int .i64) (0 : Int) (w0 := wr) wr.heap.size rfl (.tmp 35) (.tmp 37) 28 3 (.int .i64 0) 8 rfl Try.underlying28 info3 rfl (by decide) (.slice A6 gs.length c6) gs [sp] (some ⟨w6.heap.size, 0, none⟩) 1 1 (fun _ => True) rfl rfl (fun _ _ => trivial) (Kd.R_alloc HR6.out _) (read_one w6 sp) (below_alloc HB6.out _) (Below.size (below_alloc HB6.out _)) HLE.out ?_; intro v38 w7 ho7 hb7 hg7 hat7; obtain ⟨A8, c8, e8⟩ := Kd.R_slice ho7; subst e8; have HR7 := Aside0.mk ho7; have HB7 := Aside0.mk hb7; have HC7 := Aside0.mk (And.intro (Kd.R_reads' ho7).2.2 (Kd.R_reads' ho7).2.1); simp only [List.length_append, List.length_singleton] at HC7; clear ho7 hb7 hg7 hat7) | (go_at_call 20; refine (HFB1.out tv A8 c8 _ w3.heap.size (Nat.le_trans HSI.out.fb.size HB7.out.size) (HT4.out.step (Nat.le_refl _) (fun g_ _ hg_ _ _ => (HSI.out.fb.trans (HB7.out.mono HSI.out.fb.size)).block g_ hg_)) HC7.out.1 HC7.out.2).mono ?_; rintro e w8 ⟨g_, c_, rfl, ⟨h301, hcl⟩, hb8⟩; have HS8 := Aside0.mk (HSI.out.below (HB7.out.trans (hb8.mono HB7.out.size))); have HR8 := Aside0.mk (Kd.R_below HR7.out hb8);  clear hb8))
          go_roundg (gk - 1)
          case measure => have := HPQ.out; have := HP10.out; have := HSP.out; omega
          case rel => exact ⟨p + 1, sp + 1, rfl, by first | rfl | simp [cs1] | (rw [wrapK, cs1]), ⟨by rw [HSP.out]; omega⟩, ⟨by have := HPQ.out; have := HLT.out; have := HP10.out; have := HSP.out; omega⟩, HS8⟩
        · have hpe : sp = p0 := by have := HPQ.out; omega
          obtain ⟨Z, hZ⟩ : ∃ Z : Int, Z = ((sumPre n x y (t - S) (bs ++ [sp]) : Nat) : Int) := ⟨_, rfl⟩
          have hz : 0 < sumPre n x y (t - S) (bs ++ [sp]) := pre_hit HM.out.find (r := r0) (by rw [HE.out, hpe, List.append_assoc]; rfl)
          have uz : decide (0 < Z) = true := decide_eq_true (by omega)
          rw [← hZ] at hfb
          have HFB1 := Aside0.mk hfb
          obtain ⟨r, hr⟩ : ∃ r : BoS, r = rollP f b.s sp := ⟨_, rfl⟩
          have hrl := fun (A2 : Option Addr) (c2 : Nat) (w1 : World) => HRL.out b sp A2 c2 w1 HOK.out.1 HP10.out
          rw [HOK.out.2.1, ← hr] at hrl
          have HRL1 := Aside0.mk (hrl A2 c2)
          have HRE := Aside0.mk (show (stepT f b sp).s = r from hr.symm)
          have HPE := Aside0.mk hpe
          have hzb : b.s.ov = false := HOK.out.2.1
          have HZB := Aside0.mk hzb
          clear hfb hz hZ hlt hst hr hrl hpe hzb
          go_wp2_with (first | (go_at_call 29; refine (HOW.out A7 c7 gs _ HGL.out.2.2 (Kd.R_reads' HSI.out.ho).2.2 (Kd.R_reads' HSI.out.ho).2.1).mono ?_; rintro e w6 ⟨v6, rfl, hr6, hb6⟩; obtain ⟨A6, c6, e6⟩ := Kd.R_slice hr6; subst e6; have HR6 := Aside0.mk hr6; have HB6 := Aside0.mk hb6; clear hr6 hb6) | (at_builtin; refine Kd.R_append_row (.int .i64) (0 : Int) (w0 := wr) wr.heap.size rfl (.tmp 35) (.tmp 37) 28 3 (.int .i64 0) 8 rfl Try.underlying28 info3 rfl (by decide) (.slice A6 gs.length c6) gs [sp] (some ⟨w6.heap.size, 0, none⟩) 1 1 (fun _ => True) rfl rfl (fun _ _ => trivial) (Kd.R_alloc HR6.out _) (read_one w6 sp) (below_alloc HB6.out _) (Below.size (below_alloc HB6.out _)) HLE.out ?_; intro v38 w7 ho7 hb7 hg7 hat7; obtain ⟨A8, c8, e8⟩ := Kd.R_slice ho7; subst e8; have HR7 := Aside0.mk ho7; have HB7 := Aside0.mk hb7; have HC7 := Aside0.mk (And.intro (Kd.R_reads' ho7).2.2 (Kd.R_reads' ho7).2.1); simp only [List.length_append, List.length_singleton] at HC7; clear ho7 hb7 hg7 hat7) | (go_at_call 20; refine (HFB1.out tv A8 c8 _ w3.heap.size (Nat.le_trans HSI.out.fb.size HB7.out.size) (HT4.out.step (Nat.le_refl _) (fun g_ _ hg_ _ _ => (HSI.out.fb.trans (HB7.out.mono HSI.out.fb.size)).block g_ hg_)) HC7.out.1 HC7.out.2).mono ?_; rintro e w8 ⟨g_, c_, rfl, ⟨h301, hcl⟩, hb8⟩; have HS8 := Aside0.mk (HSI.out.below (HB7.out.trans (hb8.mono HB7.out.size))); have HR8 := Aside0.mk (Kd.R_below HR7.out hb8); have hx8 := HS8.out.hx; have y0 := (blk_cell hx8 0).trans rfl; have y1 := (blk_cell hx8 1).trans rfl; have y2 := (blk_cell hx8 2).trans rfl; have y3 := (blk_cell hx8 3).trans rfl; clear hx8; clear hb8) | (go_at_call 35; refine (HRL1.out _ (Kd.R_reads' HS8.out.hr).2.2 (Kd.R_reads' HS8.out.hr).2.1).mono ?_; rintro e w9 ⟨A3, c3, rfl, hr9, hb9⟩; have hx9 := (hb9.block BX (Array.getElem?_eq_some_iff.1 HS8.out.hx).1).trans HS8.out.hx; have k0 := (blk_cell hx9 0).trans rfl; have k1 := (blk_cell hx9 1).trans rfl; have k2 := (blk_cell hx9 2).trans rfl; have k3 := (blk_cell hx9 3).trans rfl; have f0_ := blk_frozen hx9 0; have f1_ := blk_frozen hx9 1; have f2_ := blk_frozen hx9 2; have f3_ := blk_frozen hx9 3; have HX9 := Aside0.mk hx9; have HR9 := Aside0.mk hr9; have HB9 := Aside0.mk hb9; clear hx9 hr9 hb9))
          have hbx := (Array.getElem?_eq_some_iff.1 HS8.out.hx).1
          have hbw := (Array.getElem?_eq_some_iff.1 HSI.out.hx).1
          have hown3 : ∀ k_, (Value.slice A3 r.bs.length c3).ownBlock = some k_ → k_ ≠ BX := fun k_ hk_ => by
            have h1_ := ((Kd.own_of_R HR9.out).lt k_ hk_).1
            omega
          have hown8 : ∀ k_, (Value.slice A8 (gs ++ [sp]).length c8).ownBlock = some k_ → k_ ≠ BX := fun k_ hk_ => by
            have h1_ := ((Kd.own_of_R HR8.out).lt k_ hk_).1
            omega
          have hset : ∀ k_, k_ ≠ BX → ((((w9.setCell ⟨BX, 0, none⟩ (.int .i64 r.fr)).setCell ⟨BX, 1, none⟩ (.slice A3 r.bs.length c3)).setCell ⟨BX, 2, none⟩ (.int .i64 r.st)).setCell ⟨BX, 3, none⟩ (.bool r.ov)).heap[k_]? = w9.heap[k_]? := fun k_ hk_ => by
            rw [Below.heap_setCell _ _ _ k_ hk_, Below.heap_setCell _ _ _ k_ hk_, Below.heap_setCell _ _ _ k_ hk_, Below.heap_setCell _ _ _ k_ hk_]
          have hbs : Below w3.heap.size w3 ((((w9.setCell ⟨BX, 0, none⟩ (.int .i64 r.fr)).setCell ⟨BX, 1, none⟩ (.slice A3 r.bs.length c3)).setCell ⟨BX, 2, none⟩ (.int .i64 r.st)).setCell ⟨BX, 3, none⟩ (.bool r.ov)) := below_set (below_set (below_set (below_set (HS8.out.fb.trans (HB9.out.mono HS8.out.fb.size)) HSI.out.bx) HSI.out.bx) HSI.out.bx) HSI.out.bx
          have hal := below_alloc (Below.refl ((((w9.setCell ⟨BX, 0, none⟩ (.int .i64 r.fr)).setCell ⟨BX, 1, none⟩ (.slice A3 r.bs.length c3)).setCell ⟨BX, 2, none⟩ (.int .i64 r.st)).setCell ⟨BX, 3, none⟩ (.bool r.ov)).heap.size ((((w9.setCell ⟨BX, 0, none⟩ (.int .i64 r.fr)).setCell ⟨BX, 1, none⟩ (.slice A3 r.bs.length c3)).setCell ⟨BX, 2, none⟩ (.int .i64 r.st)).setCell ⟨BX, 3, none⟩ (.bool r.ov))) (.cells #[.int .i64 r.fr, .slice A3 r.bs.length c3, .int .i64 r.st, .bool r.ov] 46)
          have hR3 : Kd.R (Kd.int .i64) 3 (((((w9.setCell ⟨BX, 0, none⟩ (.int .i64 r.fr)).setCell ⟨BX, 1, none⟩ (.slice A3 r.bs.length c3)).setCell ⟨BX, 2, none⟩ (.int .i64 r.st)).setCell ⟨BX, 3, none⟩ (.bool r.ov)).alloc (.cells #[.int .i64 r.fr, .slice A3 r.bs.length c3, .int .i64 r.st, .bool r.ov] 46)) w3.heap.size (fun _ => True) (.slice A3 r.bs.length c3) r.bs := Kd.R_lower (Kd.R_below (R_moved HR9.out (fun k_ hk_ => hset k_ (hown3 k_ hk_))) hal) HS8.out.fb.size
          have hR8 : Kd.R (Kd.int .i64) 3 (((((w9.setCell ⟨BX, 0, none⟩ (.int .i64 r.fr)).setCell ⟨BX, 1, none⟩ (.slice A3 r.bs.length c3)).setCell ⟨BX, 2, none⟩ (.int .i64 r.st)).setCell ⟨BX, 3, none⟩ (.bool r.ov)).alloc (.cells #[.int .i64 r.fr, .slice A3 r.bs.length c3, .int .i64 r.st, .bool r.ov] 46)) w3.heap.size (fun _ => True) (.slice A8 (gs ++ [sp]).length c8) (gs ++ [sp]) := Kd.R_lower (Kd.R_below (R_moved (Kd.R_below HR8.out HB9.out) (fun k_ hk_ => hset k_ (hown8 k_ hk_))) hal) HSI.out.fb.size
          rw [List.length_append, List.length_singleton] at hR8
          have hbe : stepT f b sp = behindT f (gs ++ [sp]) := by rw [behind_more, HSI.out.hb]
          have hsz : ((((w9.setCell ⟨BX, 0, none⟩ (.int .i64 r.fr)).setCell ⟨BX, 1, none⟩ (.slice A3 r.bs.length c3)).setCell ⟨BX, 2, none⟩ (.int .i64 r.st)).setCell ⟨BX, 3, none⟩ (.bool r.ov)).heap.size = w9.heap.size := by simp [World.setCell]
          have hnew := alloc_here ((((w9.setCell ⟨BX, 0, none⟩ (.int .i64 r.fr)).setCell ⟨BX, 1, none⟩ (.slice A3 r.bs.length c3)).setCell ⟨BX, 2, none⟩ (.int .i64 r.st)).setCell ⟨BX, 3, none⟩ (.bool r.ov)) (.cells #[.int .i64 r.fr, .slice A3 r.bs.length c3, .int .i64 r.st, .bool r.ov] 46)
          have hw9 := HB9.out.size
          have hw8 := HS8.out.fb.size
          have hsi : SInv f w3 (gs ++ [sp]) (stepT f b sp) (.slice A8 (gs.length + 1) c8) w9.heap.size A3 c3 (((((w9.setCell ⟨BX, 0, none⟩ (.int .i64 r.fr)).setCell ⟨BX, 1, none⟩ (.slice A3 r.bs.length c3)).setCell ⟨BX, 2, none⟩ (.int .i64 r.st)).setCell ⟨BX, 3, none⟩ (.bool r.ov)).alloc (.cells #[.int .i64 r.fr, .slice A3 r.bs.length c3, .int .i64 r.st, .bool r.ov] 46)) := ⟨hbe, good_more HSI.out.good HSI.out.hb HOK.out.1 HP10.out.1 HP10.out.2, by rw [HRE.out, ← hsz]; exact hnew, by rw [HRE.out]; exact hR3, hR8, hbs.trans (hal.mono hbs.size), Nat.le_trans hw8 hw9⟩
          have hnx := mid_next HM.out HE.out
          rw [← HPE.out] at hnx
          go_roundg (gko - 1)
          case measure => have := HKQ.out; have := HGL.out; omega
          case rel => exact ⟨gs ++ [sp], stepT f b sp, w9.heap.size, A3, c3, rfl, ⟨by rw [List.length_append, List.length_singleton]; have := HKQ.out; have := HGL.out; omega⟩, ⟨hnx⟩, ⟨hsi⟩⟩
theorem sfirst_calls (HAdd : AddC) (HSt : StateC) (HRoll : RollC) (HS : StartC) (HLast : LastC) (HTot : TotalC) (HOwn : OwnC) (f t : Int) (w : World) :
    Calls Try.prog 15 #[.int .i64 f, .int .i64 t] w fun e w' => ∃ v, e = .returned (.tuple #[v, .bool (firstV f t).2]) ∧ Kd.R (Kd.int .i64) 3 w' w.heap.size (fun _ => True) v (firstV f t).1 ∧ Below w.heap.size w w' := by
  by_cases h : ((1 ≤ f ∧ f ≤ 10) ∧ 0 ≤ t ∧ t ≤ 300) ∧ cntP f.toNat 1 1 t ≠ 0
  · have e : firstV f t = (firstL f.toNat 1 1 t, true) := if_pos h
    rw [e]
    exact sfirst_yes HAdd HSt HRoll HS HLast HTot HOwn f t w h
  · have e : firstV f t = ([], false) := if_neg h
    rw [e]
    refine (sfirst_no HAdd HSt HS HLast HTot f t w h).mono ?_
    rintro e w' ⟨rfl, hb⟩
    exact ⟨_, rfl, Kd.R_nil _ _ _ _ _, hb⟩
end Go.Proofs.Ytdioconinnpmmaa.Pin
