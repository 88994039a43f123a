/- FirstWithPoints, walked: for every frame and every number of points. -/
import Derived.Test.YtcmlmjgoidpabaaDoorZBrkCalls
set_option linter.unusedVariables false
set_option linter.unusedSimpArgs false
namespace Go.Proofs.YtcmlmjgoidpabaaDoor.Brk
open Go.RowKit Go.Proofs.YtcmlmjgoidpabaaDoorW.PrintWords Go.Proofs.YtcmlmjgoidpabaaDoorW.PrintLast
def posB (f : Fr) (p : Int) (b : Int) : Bool := decide (0 < cnt (p - b).toNat (potF f) (p - b))
def firstS : Nat → Fr → Int → ByteArray → ByteArray
  | 0, _, _, out => out
  | n + 1, f, p, out => if p ≤ 0 then out else match (ballsF f).find? (posB f p) with
    | some b => firstS n (potF f) (p - b) (out ++ Utf8.encode (b + 48))
    | none => out
def firstP (t : Bool) (f : Fr) (p : Int) : ByteArray × Bool := if t = true ∧ (0 ≤ p ∧ p ≤ 147) ∧ cnt p.toNat f p ≠ 0 then (firstS p.toNat f p ⟨#[]⟩, true) else (⟨#[]⟩, false)
def firstO (f : Fr) (p : Int) (t : Bool) : Option (ByteArray × Bool) := if t = true ∧ okB f = false then none else some (firstP t f p)
theorem fold_zero (f : Fr) (p : Int) : ∀ (L : List Int), L.find? (posB f p) = none → L.foldl (fun a b => stepN a (cnt (p - b).toNat (potF f) (p - b))) 0 = 0
  | [], _ => rfl
  | x :: L, h => by
    rw [List.find?_cons] at h
    split at h
    · cases h
    · rename_i hx
      have hz : cnt (p - x).toNat (potF f) (p - x) = 0 := by
        have h0 := (cnt_in (p - x).toNat (potF f) (p - x)).1
        unfold posB at hx
        rw [decide_eq_false_iff_not] at hx
        omega
      rw [List.foldl_cons, hz, show stepN 0 0 = 0 from rfl]
      exact fold_zero f p L h
theorem has_ball {f : Fr} {p : Int} (hf : okFr f) (hp : 0 < p) (hc : cnt p.toNat f p ≠ 0) : ∃ b, (ballsF f).find? (posB f p) = some b ∧ b ∈ ballsF f ∧ 0 < cnt (p - b).toNat (potF f) (p - b) := by
  cases hx : (ballsF f).find? (posB f p) with
  | none =>
    rw [cnt_pos hf hp] at hc
    exact absurd (fold_zero f p _ hx) hc
  | some b => exact ⟨b, rfl, List.mem_of_find?_eq_some hx, by have h1 := List.find?_some hx; unfold posB at h1; exact of_decide_eq_true h1⟩
theorem cnt_neg {n : Nat} {f : Fr} {p : Int} (h : p < 0) : cnt n f p = 0 := by
  rw [cnt_le (by omega), if_neg (by omega)]
theorem firstS_fuel : ∀ (n : Nat) (f : Fr) (p : Int) (out : ByteArray), okFr f → p.toNat ≤ n → firstS n f p out = firstS p.toNat f p out := by
  intro n
  induction n using Nat.strongRecOn with
  | _ n ih =>
    intro f p out hf h
    by_cases hp : p ≤ 0
    · have e : ∀ m, firstS m f p out = out := fun m => by
        cases m with
        | zero => rfl
        | succ m => unfold firstS; rw [if_pos hp]
      rw [e, e]
    · obtain ⟨m, hm⟩ : ∃ m, p.toNat = m + 1 := ⟨p.toNat - 1, by omega⟩
      obtain ⟨n', rfl⟩ : ∃ n', n = n' + 1 := ⟨n - 1, by omega⟩
      rw [hm]
      unfold firstS
      rw [if_neg hp, if_neg hp]
      cases hx : (ballsF f).find? (posB f p) with
      | none => rfl
      | some b =>
        have hb := List.mem_of_find?_eq_some hx
        have hbb := balls_in hf b hb
        have hg := pot_ok hf (List.ne_nil_of_mem hb)
        simp only
        rw [ih n' (by omega) _ _ _ hg (by omega)]
        by_cases hmn : m = n'
        · subst hmn; rw [ih m (by omega) _ _ _ hg (by omega)]
        · rw [ih m (by omega) _ _ _ hg (by omega)]
theorem firstS_step {f : Fr} {p b : Int} (out : ByteArray) (hf : okFr f) (hp : 0 < p) (hx : (ballsF f).find? (posB f p) = some b) : firstS p.toNat f p out = firstS (p - b).toNat (potF f) (p - b) (out ++ Utf8.encode (b + 48)) := by
  obtain ⟨m, hm⟩ : ∃ m, p.toNat = m + 1 := ⟨p.toNat - 1, by omega⟩
  have hb := List.mem_of_find?_eq_some hx
  have hbb := balls_in hf b hb
  have hg := pot_ok hf (List.ne_nil_of_mem hb)
  rw [hm]
  show (if p ≤ 0 then out else match (ballsF f).find? (posB f p) with | some b => firstS m (potF f) (p - b) (out ++ Utf8.encode (b + 48)) | none => out) = _
  rw [if_neg (by omega), hx]
  exact firstS_fuel m _ _ _ hg (by omega)
theorem enc_size {b : Int} (h : 1 ≤ b ∧ b ≤ 7) : (Utf8.encode (b + 48)).size = 1 := by
  obtain ⟨h1, h2⟩ := h
  have : b = 1 ∨ b = 2 ∨ b = 3 ∨ b = 4 ∨ b = 5 ∨ b = 6 ∨ b = 7 := by omega
  rcases this with rfl | rfl | rfl | rfl | rfl | rfl | rfl <;> decide +kernel
set_option maxRecDepth 100000 in
set_option maxHeartbeats 8000000 in
theorem first_no (r : Int) (c : Bool) (l p : Int) (w : World) (t : Bool) (ht : ¬ (t = true ∧ 0 ≤ p ∧ p ≤ 147))
    (HIs : ∀ w1, Calls Tryd.prog 31 #[frA (r, c, l)] w1 fun e w' => e = .returned (.bool t) ∧ Below w1.heap.size w1 w')
    (HIn : ∀ w1, Calls Tryd.prog 32 #[.int .i64 p, .int .i64 0, .int .i64 147] w1 fun e w' => e = .returned (.bool (decide (0 ≤ p ∧ p ≤ 147))) ∧ Drawn0 w1 w') :
    Calls Tryd.prog 6 #[.agg #[.int .i64 r, .bool c, .int .i64 l], .int .i64 p] w fun e w' => e = .returned (.tuple #[.string ⟨#[]⟩, .bool false]) ∧ Below w.heap.size w w' := by
  have H1 := Aside0.mk HIs
  have H2 := Aside0.mk HIn
  have hu26 := Tryd.underlying25
  clear HIs HIn
  cases t with
  | false =>
    clear ht
    go_enter Tryd.func6, Tryd.ntmps6
    go_wp2_with (first | (go_at_call 30; refine (counter_calls _).mono ?_; rintro e w1 ⟨Bk, Bc, M, rfl, hX1, hM1, hbM, hb1⟩; have hf1 : w1.heap[w.heap.size]? = some (.cells #[.int .i64 r, .bool c, .int .i64 l] 25 (0, 0)) := (hb1.block _ (by rw [alloc_one]; omega)).trans (alloc_here _ _); have z0 : w1.cell? ⟨w.heap.size, 0, none⟩ = some (.int .i64 r) := (blk_cell hf1 0).trans rfl; have z1 : w1.cell? ⟨w.heap.size, 1, none⟩ = some (.bool c) := (blk_cell hf1 1).trans rfl; have z2 : w1.cell? ⟨w.heap.size, 2, none⟩ = some (.int .i64 l) := (blk_cell hf1 2).trans rfl; have HB1 := Aside0.mk ((below_alloc (Below.refl w.heap.size w) _).trans (hb1.mono (by rw [alloc_one]; omega))); have HS1 := Aside0.mk (show w.heap.size ≤ w1.heap.size from HB1.out.size);  clear hX1 hM1 hbM hb1 hf1) | (go_at_call 31; refine (H1.out _).mono ?_; rintro e w2 ⟨rfl, hb2⟩; have HB2 := Aside0.mk (HB1.out.trans (hb2.mono HS1.out));  clear hb2) | (go_at_call 32; refine (H2.out _).mono ?_; rintro e w3 ⟨rfl, ⟨nd, rfl⟩⟩))
    go_ret2
    exact ⟨rfl, HB2.out⟩
  | true =>
    have hd : decide (0 ≤ p ∧ p ≤ 147) = false := decide_eq_false (fun h => ht ⟨rfl, h⟩)
    rw [hd] at H2
    clear ht hd
    go_enter Tryd.func6, Tryd.ntmps6
    go_wp2_with (first | (go_at_call 30; refine (counter_calls _).mono ?_; rintro e w1 ⟨Bk, Bc, M, rfl, hX1, hM1, hbM, hb1⟩; have hf1 : w1.heap[w.heap.size]? = some (.cells #[.int .i64 r, .bool c, .int .i64 l] 25 (0, 0)) := (hb1.block _ (by rw [alloc_one]; omega)).trans (alloc_here _ _); have z0 : w1.cell? ⟨w.heap.size, 0, none⟩ = some (.int .i64 r) := (blk_cell hf1 0).trans rfl; have z1 : w1.cell? ⟨w.heap.size, 1, none⟩ = some (.bool c) := (blk_cell hf1 1).trans rfl; have z2 : w1.cell? ⟨w.heap.size, 2, none⟩ = some (.int .i64 l) := (blk_cell hf1 2).trans rfl; have HB1 := Aside0.mk ((below_alloc (Below.refl w.heap.size w) _).trans (hb1.mono (by rw [alloc_one]; omega))); have HS1 := Aside0.mk (show w.heap.size ≤ w1.heap.size from HB1.out.size);  clear hX1 hM1 hbM hb1 hf1) | (go_at_call 31; refine (H1.out _).mono ?_; rintro e w2 ⟨rfl, hb2⟩; have HB2 := Aside0.mk (HB1.out.trans (hb2.mono HS1.out));  clear hb2) | (go_at_call 32; refine (H2.out _).mono ?_; rintro e w3 ⟨rfl, ⟨nd, rfl⟩⟩))
    go_ret2
    exact ⟨rfl, pw_below_drewN HB2.out _⟩
theorem BCtx.drewN {w : World} {Bk Bc M : Nat} (h : BCtx w Bk Bc M) (n : Nat) : BCtx (w.drewN n) Bk Bc M := ⟨h.ck, h.cc, h.nk, h.nc⟩
theorem HasMemo.drewN {w : World} {M : Nat} (h : HasMemo w M) (n : Nat) : HasMemo (w.drewN n) M := h.at rfl
def frO (f : Fr) : Obj := .cells #[.int .i64 f.1, .bool f.2.1, .int .i64 f.2.2] 25 (0, 0)
set_option maxRecDepth 100000 in
set_option maxHeartbeats 16000000 in
theorem first_yes (r : Int) (c : Bool) (l p : Int) (w wz : World) (p0 : 0 ≤ p) (p1 : p ≤ 147) (hf : okFr (r, c, l)) (HNext : NextC wz) (HPot : PotC wz)
    (HIs : ∀ w1, Calls Tryd.prog 31 #[frA (r, c, l)] w1 fun e w' => e = .returned (.bool true) ∧ Below w1.heap.size w1 w')
    (HIn : ∀ w1, Calls Tryd.prog 32 #[.int .i64 p, .int .i64 0, .int .i64 147] w1 fun e w' => e = .returned (.bool (decide (0 ≤ p ∧ p ≤ 147))) ∧ Drawn0 w1 w') :
    Calls Tryd.prog 6 #[.agg #[.int .i64 r, .bool c, .int .i64 l], .int .i64 p] w fun e w' => e = .returned (.tuple #[.string (firstP true (r, c, l) p).1, .bool (firstP true (r, c, l) p).2]) ∧ Below w.heap.size w w' := by
  have hd : decide (0 ≤ p ∧ p ≤ 147) = true := decide_eq_true ⟨p0, p1⟩
  rw [hd] at HIn
  have H1 := Aside0.mk HIs
  have H2 := Aside0.mk HIn
  have HN := Aside0.mk HNext
  have HP := Aside0.mk HPot
  have HC := Aside0.mk (fun (Bk Bc M base : Nat) (w1 : World) (hbM : base ≤ M) (f : Fr) (q : Int) => count_calls Bk Bc M base wz HNext HPot hbM q.toNat f q w1 (Nat.le_refl _))
  have HF := Aside0.mk (And.intro hf (And.intro p0 p1))
  have hu26 := Tryd.underlying25
  by_cases hz : cnt p.toNat (r, c, l) p = 0
  · have e : firstP true (r, c, l) p = (⟨#[]⟩, false) := if_neg (fun h => h.2.2 hz)
    rw [e]
    have HZ := Aside0.mk hz
    clear HIs HIn HNext HPot hd p0 p1 e hz hf
    go_enter Tryd.func6, Tryd.ntmps6
    go_wp2_with (first | (go_at_call 30; refine (counter_calls _).mono ?_; rintro e w1 ⟨Bk, Bc, M, rfl, hX1, hM1, hbM, hb1⟩; have hf1 : w1.heap[w.heap.size]? = some (.cells #[.int .i64 r, .bool c, .int .i64 l] 25 (0, 0)) := (hb1.block _ (by rw [alloc_one]; omega)).trans (alloc_here _ _); have z0 : w1.cell? ⟨w.heap.size, 0, none⟩ = some (.int .i64 r) := (blk_cell hf1 0).trans rfl; have z1 : w1.cell? ⟨w.heap.size, 1, none⟩ = some (.bool c) := (blk_cell hf1 1).trans rfl; have z2 : w1.cell? ⟨w.heap.size, 2, none⟩ = some (.int .i64 l) := (blk_cell hf1 2).trans rfl; have HB1 := Aside0.mk ((below_alloc (Below.refl w.heap.size w) _).trans (hb1.mono (by rw [alloc_one]; omega))); have HS1 := Aside0.mk (show w.heap.size ≤ w1.heap.size from HB1.out.size); have HX1 := Aside0.mk hX1; have HM1 := Aside0.mk hM1; have HML := Aside0.mk (show w.heap.size < M from Nat.lt_of_lt_of_le (by rw [alloc_one]; omega) hbM); have HF1 := Aside0.mk hf1; clear hX1 hM1 hbM hb1 hf1) | (go_at_call 31; refine (H1.out _).mono ?_; rintro e w2 ⟨rfl, hb2⟩; have HB2 := Aside0.mk (HB1.out.trans (hb2.mono HS1.out)); have HX2 := Aside0.mk (HX1.out.kept (Kept.of_below hb2 (fun k => k = M)) (fun _ h => h)); have HM2 := Aside0.mk (HM1.out.at (hb2.block M HM1.out.lt)); have hf2 := (hb2.block w.heap.size (Array.getElem?_eq_some_iff.1 HF1.out).1).trans HF1.out; have y0 : w2.cell? ⟨w.heap.size, 0, none⟩ = some (.int .i64 r) := (blk_cell hf2 0).trans rfl; have y1 : w2.cell? ⟨w.heap.size, 1, none⟩ = some (.bool c) := (blk_cell hf2 1).trans rfl; have y2 : w2.cell? ⟨w.heap.size, 2, none⟩ = some (.int .i64 l) := (blk_cell hf2 2).trans rfl; have HF2 := Aside0.mk hf2; clear hf2; clear hb2) | (go_at_call 32; refine (H2.out _).mono ?_; rintro e w3 ⟨rfl, ⟨nd, rfl⟩⟩) | (go_at_call 54; refine (HC.out Bk Bc M w.heap.size _ (Nat.le_of_lt HML.out) (r, c, l) p (fun _ => HF.out.1) HF.out.2.2 (HX2.out.drewN _) (HM2.out.drewN _) (show w.heap.size ≤ w2.heap.size from HB2.out.size)).mono ?_; rw [HZ.out]; rintro e w4 ⟨rfl, hk4, hb4, hm4⟩; have HB4 := Aside0.mk ((pw_below_drewN HB2.out nd).trans hb4); have HK4 := Aside0.mk hk4; have HM4 := Aside0.mk hm4; clear hk4 hb4 hm4))
    go_ret2
    exact ⟨rfl, HB4.out⟩
  · have e : firstP true (r, c, l) p = (firstS p.toNat (r, c, l) p ⟨#[]⟩, true) := if_pos ⟨rfl, ⟨p0, p1⟩, hz⟩
    rw [e]
    generalize hRES : firstS p.toNat (r, c, l) p ⟨#[]⟩ = RES
    have HZ := Aside0.mk (show cnt p.toNat (r, c, l) p = cnt p.toNat (r, c, l) p from rfl)
    have u0 : (cnt p.toNat (r, c, l) p == 0) = false := by simpa using hz
    have HNZ := Aside0.mk hz
    have HRES := Aside0.mk hRES
    clear HIs HIn HNext HPot hd p0 p1 e hz hf hRES
    generalize hX0 : cnt p.toNat (r, c, l) p = X0 at *
    have HX0 := Aside0.mk hX0
    clear hX0
    go_enter Tryd.func6, Tryd.ntmps6
    go_wp2_with (first | (go_at_call 30; refine (counter_calls _).mono ?_; rintro e w1 ⟨Bk, Bc, M, rfl, hX1, hM1, hbM, hb1⟩; have hf1 : w1.heap[w.heap.size]? = some (.cells #[.int .i64 r, .bool c, .int .i64 l] 25 (0, 0)) := (hb1.block _ (by rw [alloc_one]; omega)).trans (alloc_here _ _); have z0 : w1.cell? ⟨w.heap.size, 0, none⟩ = some (.int .i64 r) := (blk_cell hf1 0).trans rfl; have z1 : w1.cell? ⟨w.heap.size, 1, none⟩ = some (.bool c) := (blk_cell hf1 1).trans rfl; have z2 : w1.cell? ⟨w.heap.size, 2, none⟩ = some (.int .i64 l) := (blk_cell hf1 2).trans rfl; have HB1 := Aside0.mk ((below_alloc (Below.refl w.heap.size w) _).trans (hb1.mono (by rw [alloc_one]; omega))); have HS1 := Aside0.mk (show w.heap.size ≤ w1.heap.size from HB1.out.size); have HX1 := Aside0.mk hX1; have HM1 := Aside0.mk hM1; have HML := Aside0.mk (show w.heap.size < M from Nat.lt_of_lt_of_le (by rw [alloc_one]; omega) hbM); have HF1 := Aside0.mk hf1; clear hX1 hM1 hbM hb1 hf1) | (go_at_call 31; refine (H1.out _).mono ?_; rintro e w2 ⟨rfl, hb2⟩; have HB2 := Aside0.mk (HB1.out.trans (hb2.mono HS1.out)); have HX2 := Aside0.mk (HX1.out.kept (Kept.of_below hb2 (fun k => k = M)) (fun _ h => h)); have HM2 := Aside0.mk (HM1.out.at (hb2.block M HM1.out.lt)); have hf2 := (hb2.block w.heap.size (Array.getElem?_eq_some_iff.1 HF1.out).1).trans HF1.out; have y0 : w2.cell? ⟨w.heap.size, 0, none⟩ = some (.int .i64 r) := (blk_cell hf2 0).trans rfl; have y1 : w2.cell? ⟨w.heap.size, 1, none⟩ = some (.bool c) := (blk_cell hf2 1).trans rfl; have y2 : w2.cell? ⟨w.heap.size, 2, none⟩ = some (.int .i64 l) := (blk_cell hf2 2).trans rfl; have HF2 := Aside0.mk hf2; clear hf2; clear hb2) | (go_at_call 32; refine (H2.out _).mono ?_; rintro e w3 ⟨rfl, ⟨nd, rfl⟩⟩) | (go_at_call 54; refine (HC.out Bk Bc M w.heap.size _ (Nat.le_of_lt HML.out) (r, c, l) p (fun _ => HF.out.1) HF.out.2.2 (HX2.out.drewN _) (HM2.out.drewN _) (show w.heap.size ≤ w2.heap.size from HB2.out.size)).mono ?_; rw [HX0.out]; rintro e w4 ⟨rfl, hk4, hb4, hm4⟩; have HB4 := Aside0.mk ((pw_below_drewN HB2.out nd).trans hb4); have HK4 := Aside0.mk hk4; have HM4 := Aside0.mk hm4; clear hk4 hb4 hm4))
    have hbw : w.heap.size ≤ w2.heap.size := HB2.out.size
    have HX4 := Aside0.mk ((HX2.out.drewN nd).kept HK4.out (fun _ h => h))
    have HF4 : Aside0 (w4.heap[w.heap.size]? = some (frO (r, c, l))) := Aside0.mk ((HK4.out.2 _ (Array.getElem?_eq_some_iff.1 HF2.out).1 (by have := HML.out; omega)).trans HF2.out)
    have HI4 : Aside0 (p.toNat ≤ p.toNat ∧ 0 ≤ p ∧ p ≤ 147 ∧ (⟨#[]⟩ : ByteArray).size + p.toNat ≤ 147) := ⟨Nat.le_refl _, HF.out.2.1, HF.out.2.2, by have := HF.out.2; have e : (⟨#[]⟩ : ByteArray).size = 0 := rfl; omega⟩
    have HO4 : Aside0 (okFr (r, c, l) ∧ cnt p.toNat (r, c, l) p ≠ 0) := ⟨HF.out.1, by rw [HX0.out]; exact HNZ.out⟩
    have HSM := Aside0.mk (show w.heap.size < M from HML.out)
    have hwr : w4.cell? ⟨w.heap.size, 0, none⟩ = some (.int .i64 r) := (blk_cell HF4.out 0).trans rfl
    have hnk : w.heap.size ≠ Bk := by
      intro e
      have h1 := HX4.out.ck
      rw [← e, hwr] at h1
      cases h1
    have hnc : w.heap.size ≠ Bc := by
      intro e
      have h1 := HX4.out.cc
      rw [← e, hwr] at h1
      cases h1
    have HBW := Aside0.mk (And.intro hnk hnc)
    clear hwr hnk hnc
    clear HX1 HM1 HF1 HX2 HM2 HF2 HB1 HS1 hbw z0 z1 z2 y0 y1 y2 HK4 HZ u0
    go_loopg [1, 7] (p.toNat + 1) (fun kq v1 v7 wx => ∃ (q : Int) (out : ByteArray) (f : Fr), v1 = .int .i64 q ∧ v7 = .string out ∧ Aside0 (q.toNat + 1 ≤ kq) ∧ Aside0 (q.toNat ≤ p.toNat ∧ 0 ≤ q ∧ q ≤ 147 ∧ out.size + q.toNat ≤ 147) ∧ Aside0 (okFr f ∧ cnt q.toNat f q ≠ 0) ∧ Aside0 (firstS q.toNat f q out = RES) ∧
      Aside0 (wx.heap[w.heap.size]? = some (frO f)) ∧ Aside0 (BCtx wx Bk Bc M) ∧ Aside0 (HasMemo wx M) ∧ Aside0 (Below w.heap.size w wx))
    case atStart => exact ⟨p, _, (r, c, l), rfl, rfl, ⟨Nat.le_refl _⟩, HI4, HO4, HRES, HF4, HX4, HM4, HB4⟩
    case round =>
      clear HF4 HX4 HM4 HB4 HI4 HO4 HRES
      obtain ⟨q, out, ⟨r1, c1, l1⟩, rfl, rfl, HKQ, HI, HO, HR, HFr, HX, HM, HB⟩ := hrel
      have z0 : wr.cell? ⟨w.heap.size, 0, none⟩ = some (.int .i64 r1) := (blk_cell HFr.out 0).trans rfl
      have z1 : wr.cell? ⟨w.heap.size, 1, none⟩ = some (.bool c1) := (blk_cell HFr.out 1).trans rfl
      have z2 : wr.cell? ⟨w.heap.size, 2, none⟩ = some (.int .i64 l1) := (blk_cell HFr.out 2).trans rfl
      by_cases hq : 0 < q
      · have uq : decide (0 < q) = true := decide_eq_true hq
        obtain ⟨b, hfind, hmem, hpos⟩ := has_ball HO.out.1 hq HO.out.2
        have HFD := Aside0.mk hfind
        have HHQ := Aside0.mk hq
        clear hfind hmem hpos
        go_wp2_with (first | (go_at_call 33; refine (HN.out (r1, c1, l1) _ HO.out.1).mono ?_; rintro e w5 ⟨rfl, hb5⟩; have HB5 := Aside0.mk hb5; clear hb5))
        have hI0 : (w5.alloc (.stringIter (nextS (r1, c1, l1)) 0)).heap[w5.heap.size]? = some (.stringIter (nextS (r1, c1, l1)) 0) := World.iter_heap w5 _ 0
        have hb6 : Below wr.heap.size wr (w5.alloc (.stringIter (nextS (r1, c1, l1)) 0)) := below_alloc HB5.out _
        have hs5 := HB5.out.size
        have hkk := Kept.of_below hb6 (fun k => k = M)
        have HX6 := Aside0.mk (HX.out.kept hkk (fun _ h => h))
        have HM6 := Aside0.mk (HM.out.at (hb6.block M HM.out.lt))
        have HF6 := Aside0.mk ((hb6.block w.heap.size (Array.getElem?_eq_some_iff.1 HFr.out).1).trans HFr.out)
        have HB6 := Aside0.mk (HB.out.trans (hb6.mono HB.out.size))
        have HI6 := Aside0.mk hI0
        have HBK := Aside0.mk (show Bk < w5.heap.size ∧ Bc < w5.heap.size from ⟨Nat.lt_of_lt_of_le (World.block_lt_of_cell? _ _ HX.out.ck) hs5, Nat.lt_of_lt_of_le (World.block_lt_of_cell? _ _ HX.out.cc) hs5⟩)
        have HI5 := Aside0.mk (show w.heap.size < w5.heap.size ∧ M < w5.heap.size from ⟨Nat.lt_of_lt_of_le (Array.getElem?_eq_some_iff.1 HFr.out).1 hs5, Nat.lt_of_lt_of_le HM.out.lt hs5⟩)
        clear hI0 hb6 hkk hs5 HB5 HX HM HFr HB z0 z1 z2
        change Code.wp _ _ _ _ (w5.alloc (.stringIter (nextS (r1, c1, l1)) 0))
        generalize w5.alloc (.stringIter (nextS (r1, c1, l1)) 0) = W6 at *
        generalize gk = gko at *
        go_loopg [1, 7] ((ballsF (r1, c1, l1)).length + 1) (fun kq v1 v7 wx => ∃ (i : Nat), v1 = .int .i64 q ∧ v7 = .string out ∧ Aside0 (i + kq = (ballsF (r1, c1, l1)).length + 1 ∧ i ≤ (ballsF (r1, c1, l1)).length) ∧ Aside0 (((ballsF (r1, c1, l1)).drop i).find? (posB (r1, c1, l1) q) = some b) ∧
          Aside0 (wx.heap[w5.heap.size]? = some (.stringIter (nextS (r1, c1, l1)) i)) ∧ Aside0 (wx.heap[w.heap.size]? = some (frO (r1, c1, l1))) ∧ Aside0 (BCtx wx Bk Bc M) ∧ Aside0 (HasMemo wx M) ∧ Aside0 (Below w.heap.size w wx))
        case atStart => exact ⟨0, rfl, rfl, ⟨by omega⟩, HFD, HI6, HF6, HX6, HM6, HB6⟩
        case round =>
          clear HI6 HF6 HX6 HM6 HB6
          obtain ⟨i, rfl, rfl, HJ, HFI, HIt, HFr, HX, HM, HB⟩ := hrel
          by_cases hi : i < (ballsF (r1, c1, l1)).length
          · have hsi : i < (nextS (r1, c1, l1)).size := by rw [nextS_size]; exact hi
            have hbb := balls_in HO.out.1 _ (List.getElem_mem hi)
            have hat := nextS_at HO.out.1 i hi
            have hdr : ((ballsF (r1, c1, l1)).drop i).find? (posB (r1, c1, l1) q) = if posB (r1, c1, l1) q (ballsF (r1, c1, l1))[i] = true then some (ballsF (r1, c1, l1))[i] else ((ballsF (r1, c1, l1)).drop (i + 1)).find? (posB (r1, c1, l1) q) := by
              rw [List.drop_eq_getElem_cons hi, List.find?_cons]
              cases posB (r1, c1, l1) q (ballsF (r1, c1, l1))[i] <;> rfl
            have hnx : ∀ ty, (Instr.next (.pointer (some ⟨w5.heap.size, 0, none⟩)) true ty).run Tryd.prog wr = .ok (.tuple #[.bool true, .int .i64 i, .int .i32 ((ballsF (r1, c1, l1))[i] + 48)]) (iterTo wr w5.heap.size (nextS (r1, c1, l1)) (i + 1)) := fun ty => by
              rw [run_next_at wr w5.heap.size (nextS (r1, c1, l1)) i ty HIt.out hsi (by omega)]
              rw [show (((nextS (r1, c1, l1))[i].toNat : Nat) : Int) = (ballsF (r1, c1, l1))[i] + 48 by omega]
            have HNE := Aside0.mk (List.ne_nil_of_mem (List.getElem_mem hi))
            have hpk := pot_ok HO.out.1 HNE.out
            rw [hdr] at HFI
            generalize hbe : (ballsF (r1, c1, l1))[i] = x at *
            have HIn := Aside0.mk (iterTo_here (s := nextS (r1, c1, l1)) (pos := i + 1) (Array.getElem?_eq_some_iff.1 HIt.out).1)
            have hkn := iterTo_kept wr w5.heap.size (nextS (r1, c1, l1)) (i + 1)
            have hbn := iterTo_below wr w5.heap.size (nextS (r1, c1, l1)) (i + 1) w.heap.size (by have := HI5.out; omega)
            have HBn := Aside0.mk (HB.out.trans hbn)
            have HMn := Aside0.mk (HM.out.at (hkn.2 M HM.out.lt (by have := HI5.out; omega)))
            have HXn : Aside0 (BCtx (iterTo wr w5.heap.size (nextS (r1, c1, l1)) (i + 1)) Bk Bc M) := ⟨cell_kept HX.out.ck hkn (by have := HBK.out; simp only; omega), cell_kept HX.out.cc hkn (by have := HBK.out; simp only; omega), HX.out.nk, HX.out.nc⟩
            have hfn := (hkn.2 w.heap.size (Array.getElem?_eq_some_iff.1 HFr.out).1 (by have := HI5.out; omega)).trans HFr.out
            have HFn := Aside0.mk hfn
            generalize iterTo wr w5.heap.size (nextS (r1, c1, l1)) (i + 1) = wn at *
            have z0 : wn.cell? ⟨w.heap.size, 0, none⟩ = some (.int .i64 r1) := (blk_cell hfn 0).trans rfl
            have z1 : wn.cell? ⟨w.heap.size, 1, none⟩ = some (.bool c1) := (blk_cell hfn 1).trans rfl
            have z2 : wn.cell? ⟨w.heap.size, 2, none⟩ = some (.int .i64 l1) := (blk_cell hfn 2).trans rfl
            have HBX := Aside0.mk hbb
            have HPK := Aside0.mk hpk
            have HIQ := HI.out
            have c1_ : wrap32 x = x := by unfold wrap32; omega
            have c2_ : wrap64 x = x := by unfold wrap64; omega
            have c3_ : wrap64 (q - x) = q - x := by unfold wrap64; omega
            clear hdr hat hsi hkn hbn HX HFr HIt HB HM hbe hbb hpk hfn HIQ
            have HPL := Aside0.mk (show ∀ w1, Calls Tryd.prog 34 #[frA (r1, c1, l1)] w1 (fun e w' => e = .returned (.agg #[.int .i64 (potF (r1, c1, l1)).1, .bool (potF (r1, c1, l1)).2.1, .int .i64 (potF (r1, c1, l1)).2.2]) ∧ Below w1.heap.size w1 w') from fun w1 => HP.out (r1, c1, l1) w1 HO.out.1 HNE.out)
            have HQX := Aside0.mk (show q - x ≤ 147 by have := HI.out; have := HBX.out; omega)
            have hcx := (cnt_in (q - x).toNat (potF (r1, c1, l1)) (q - x)).1
            have hpq : posB (r1, c1, l1) q x = decide (0 < cnt (q - x).toNat (potF (r1, c1, l1)) (q - x)) := rfl
            generalize hXe : cnt (q - x).toNat (potF (r1, c1, l1)) (q - x) = X at *
            have HXe := Aside0.mk hXe
            by_cases hpx : 0 < X
            · have hpb : posB (r1, c1, l1) q x = true := by rw [hpq]; exact decide_eq_true hpx
              rw [hpb, if_pos rfl] at HFI
              have hxb := Option.some.inj HFI.out
              subst hxb
              have HPX := Aside0.mk hpx
              have HHX := Aside0.mk (enc_size HBX.out)
              have hcc : out.size + (Utf8.encode (x + 48)).size ≤ 9223372036854775807 := by have := HHX.out; have := HI.out; omega
              clear hcx hpb hXe hpq
              go_wp2_with (first | (go_at_call 34; refine (HPL.out _).mono ?_; rintro e w7 ⟨rfl, hb7⟩; have n0 := Aside0.mk (HXn.out.kept (Kept.of_below hb7 (fun k => k = M)) (fun _ h => h)); have n1 := Aside0.mk (HMn.out.at (hb7.block M HMn.out.lt)); have hf7 := (hb7.block w.heap.size (Array.getElem?_eq_some_iff.1 HFn.out).1).trans HFn.out; have n2 := Aside0.mk hf7; have n3 := Aside0.mk (HBn.out.trans (hb7.mono HBn.out.size)); have n4 := Aside0.mk ((hb7.block w5.heap.size (Array.getElem?_eq_some_iff.1 HIn.out).1).trans HIn.out); have y0 : w7.cell? ⟨w.heap.size, 0, none⟩ = some (.int .i64 r1) := (blk_cell hf7 0).trans rfl; have y1 : w7.cell? ⟨w.heap.size, 1, none⟩ = some (.bool c1) := (blk_cell hf7 1).trans rfl; have y2 : w7.cell? ⟨w.heap.size, 2, none⟩ = some (.int .i64 l1) := (blk_cell hf7 2).trans rfl; have f0 := blk_frozen hf7 0; have f1 := blk_frozen hf7 1; have f2 := blk_frozen hf7 2; clear HXn HMn HFn HBn HIn; have HXn := n0; have HMn := n1; have HFn := n2; have HBn := n3; have HIn := n4; clear n0 n1 n2 n3 n4 hb7 hf7) | (go_at_call 54; refine (HC.out Bk Bc M w.heap.size _ (Nat.le_of_lt HSM.out) (potF (r1, c1, l1)) (q - x) (fun _ => HPK.out) HQX.out HXn.out HMn.out HBn.out.size).mono ?_; rw [HXe.out]; rintro e w8 ⟨rfl, hk8, hb8, hm8⟩; have n0 := Aside0.mk (HXn.out.kept hk8 (fun _ h => h)); have hf8 := (hk8.2 w.heap.size (Array.getElem?_eq_some_iff.1 HFn.out).1 (by have := HSM.out; omega)).trans HFn.out; have n2 := Aside0.mk hf8; have n3 := Aside0.mk (HBn.out.trans hb8); have n4 := Aside0.mk ((hk8.2 w5.heap.size (Array.getElem?_eq_some_iff.1 HIn.out).1 (by have := HI5.out; omega)).trans HIn.out); have x0 : w8.cell? ⟨w.heap.size, 0, none⟩ = some (.int .i64 r1) := (blk_cell hf8 0).trans rfl; have x1 : w8.cell? ⟨w.heap.size, 1, none⟩ = some (.bool c1) := (blk_cell hf8 1).trans rfl; have x2 : w8.cell? ⟨w.heap.size, 2, none⟩ = some (.int .i64 l1) := (blk_cell hf8 2).trans rfl; clear HXn HMn HFn HBn HIn; have HXn := n0; have HMn := Aside0.mk hm8; have HFn := n2; have HBn := n3; have HIn := n4; clear n0 n2 n3 n4 hk8 hb8 hm8 hf8))
              have hk9 := (((Kept.refl w7 (fun k => k = w.heap.size)).setCell (p := ⟨w.heap.size, 0, none⟩) (Or.inl rfl) (.int .i64 (potF (r1, c1, l1)).1)).setCell (p := ⟨w.heap.size, 1, none⟩) (Or.inl rfl) (.bool (potF (r1, c1, l1)).2.1)).setCell (p := ⟨w.heap.size, 2, none⟩) (Or.inl rfl) (.int .i64 (potF (r1, c1, l1)).2.2)
              have hq0 : 0 ≤ q - x := by
                by_cases h : q - x < 0
                · have h1 := HXe.out
                  rw [cnt_neg h] at h1
                  have := HPX.out
                  omega
                · omega
              have hst := firstS_step out HO.out.1 HHQ.out HFD.out
              have hme := HMn.out.lt
              go_roundg (gko - 1)
              case measure => have := HKQ.out; omega
              case rel =>
                refine ⟨q - x, out ++ Utf8.encode (x + 48), potF (r1, c1, l1), rfl, rfl, ⟨?_⟩, ⟨?_⟩, ⟨HPK.out, ?_⟩, ⟨?_⟩, ⟨?_⟩, ⟨?_⟩, ⟨?_⟩, ⟨?_⟩⟩
                · have := HKQ.out
                  have := HBX.out
                  omega
                · have h1 := HI.out
                  have h2 := HBX.out
                  have h3 := HHX.out
                  rw [ByteArray.size_append]
                  omega
                · rw [HXe.out]
                  have := HPX.out
                  omega
                · rw [← hst]
                  exact HR.out
                · exact blk_set (blk_set (blk_set HFn.out 0 _) 1 _) 2 _
                · exact ⟨cell_kept HXn.out.ck hk9 (fun e => HBW.out.1 e.symm), cell_kept HXn.out.cc hk9 (fun e => HBW.out.2 e.symm), HXn.out.nk, HXn.out.nc⟩
                · exact HMn.out.at (hk9.2 M hme (by have := HSM.out; omega))
                · exact below_set (below_set (below_set HBn.out (Nat.le_refl _)) (Nat.le_refl _)) (Nat.le_refl _)
            · have hx0 : X = 0 := by omega
              subst hx0
              have hpb : posB (r1, c1, l1) q x = false := by rw [hpq]; rfl
              rw [hpb, if_neg (by decide)] at HFI
              clear hpx hcx hpb hXe hpq
              go_wp2_with (first | (go_at_call 34; refine (HPL.out _).mono ?_; rintro e w7 ⟨rfl, hb7⟩; have n0 := Aside0.mk (HXn.out.kept (Kept.of_below hb7 (fun k => k = M)) (fun _ h => h)); have n1 := Aside0.mk (HMn.out.at (hb7.block M HMn.out.lt)); have hf7 := (hb7.block w.heap.size (Array.getElem?_eq_some_iff.1 HFn.out).1).trans HFn.out; have n2 := Aside0.mk hf7; have n3 := Aside0.mk (HBn.out.trans (hb7.mono HBn.out.size)); have n4 := Aside0.mk ((hb7.block w5.heap.size (Array.getElem?_eq_some_iff.1 HIn.out).1).trans HIn.out); have y0 : w7.cell? ⟨w.heap.size, 0, none⟩ = some (.int .i64 r1) := (blk_cell hf7 0).trans rfl; have y1 : w7.cell? ⟨w.heap.size, 1, none⟩ = some (.bool c1) := (blk_cell hf7 1).trans rfl; have y2 : w7.cell? ⟨w.heap.size, 2, none⟩ = some (.int .i64 l1) := (blk_cell hf7 2).trans rfl; have f0 := blk_frozen hf7 0; have f1 := blk_frozen hf7 1; have f2 := blk_frozen hf7 2; clear HXn HMn HFn HBn HIn; have HXn := n0; have HMn := n1; have HFn := n2; have HBn := n3; have HIn := n4; clear n0 n1 n2 n3 n4 hb7 hf7) | (go_at_call 54; refine (HC.out Bk Bc M w.heap.size _ (Nat.le_of_lt HSM.out) (potF (r1, c1, l1)) (q - x) (fun _ => HPK.out) HQX.out HXn.out HMn.out HBn.out.size).mono ?_; rw [HXe.out]; rintro e w8 ⟨rfl, hk8, hb8, hm8⟩; have n0 := Aside0.mk (HXn.out.kept hk8 (fun _ h => h)); have hf8 := (hk8.2 w.heap.size (Array.getElem?_eq_some_iff.1 HFn.out).1 (by have := HSM.out; omega)).trans HFn.out; have n2 := Aside0.mk hf8; have n3 := Aside0.mk (HBn.out.trans hb8); have n4 := Aside0.mk ((hk8.2 w5.heap.size (Array.getElem?_eq_some_iff.1 HIn.out).1 (by have := HI5.out; omega)).trans HIn.out); have x0 : w8.cell? ⟨w.heap.size, 0, none⟩ = some (.int .i64 r1) := (blk_cell hf8 0).trans rfl; have x1 : w8.cell? ⟨w.heap.size, 1, none⟩ = some (.bool c1) := (blk_cell hf8 1).trans rfl; have x2 : w8.cell? ⟨w.heap.size, 2, none⟩ = some (.int .i64 l1) := (blk_cell hf8 2).trans rfl; clear HXn HMn HFn HBn HIn; have HXn := n0; have HMn := Aside0.mk hm8; have HFn := n2; have HBn := n3; have HIn := n4; clear n0 n2 n3 n4 hk8 hb8 hm8 hf8))
              go_roundg (gk - 1)
              case measure => have := HJ.out; omega
              case rel => exact ⟨i + 1, rfl, rfl, ⟨by have := HJ.out; omega⟩, HFI, HIn, HFn, HXn, HMn, HBn⟩
          · exfalso
            have h := HFI.out
            rw [List.drop_of_length_le (by omega)] at h
            cases h
      · have hq0 : q = 0 := by have := HI.out; omega
        subst hq0
        have hro : RES = out := by rw [← HR.out]; rfl
        subst hro
        go_wp2
        go_ret2
        exact ⟨rfl, HB.out⟩
theorem firstO_calls (r : Int) (c : Bool) (l p : Int) (w wz : World) (t : Bool) (r1 : ByteArray) (r2 : Bool) (HNext : NextC wz) (HPot : PotC wz)
    (HIs : ∀ w1, Calls Tryd.prog 31 #[frA (r, c, l)] w1 fun e w' => e = .returned (.bool t) ∧ Below w1.heap.size w1 w')
    (HIn : ∀ w1, Calls Tryd.prog 32 #[.int .i64 p, .int .i64 0, .int .i64 147] w1 fun e w' => e = .returned (.bool (decide (0 ≤ p ∧ p ≤ 147))) ∧ Drawn0 w1 w')
    (h : firstO (r, c, l) p t = some (r1, r2)) :
    Calls Tryd.prog 6 #[.agg #[.int .i64 r, .bool c, .int .i64 l], .int .i64 p] w fun e w' => e = .returned (.tuple #[.string r1, .bool r2]) ∧ Below w.heap.size w w' := by
  unfold firstO at h
  split at h
  · cases h
  · rename_i hk
    have h1 := Option.some.inj h
    by_cases ht : t = true ∧ 0 ≤ p ∧ p ≤ 147
    · obtain ⟨rfl, p0, p1⟩ := ht
      have hc := first_yes r c l p w wz p0 p1 (okB_ok (by cases hb : okB (r, c, l) with | true => rfl | false => exact absurd ⟨rfl, hb⟩ hk)) HNext HPot HIs HIn
      rw [h1] at hc
      exact hc
    · have e : firstP t (r, c, l) p = (⟨#[]⟩, false) := if_neg (fun h => ht ⟨h.1, h.2.1⟩)
      rw [e] at h1
      obtain ⟨rfl, rfl⟩ := Prod.mk.inj h1
      exact first_no r c l p w t ht HIs HIn
end Go.Proofs.YtcmlmjgoidpabaaDoor.Brk

