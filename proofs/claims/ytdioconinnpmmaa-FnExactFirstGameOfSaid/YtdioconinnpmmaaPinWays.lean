/- The reference counts the games of so many frames: for every number of frames. -/
import Derived.Test.YtdioconinnpmmaaPinTable
set_option linter.unusedVariables false
set_option linter.unusedSimpArgs false
namespace Go.Proofs.Ytdioconinnpmmaa.Pin
open Go.RowKit Go.Proofs.YtdioconinnpmmaaW.PrintWords Go.Proofs.YtdioconinnpmmaaW.PrintLast
/-! ### Pins: boWays at the beginning of a frame, boFrom, CountGamesOf and MostGames of the reference -/
def StartC : Prop := ∀ w : World, Calls Try.prog 34 #[] w fun e w' => ∃ A c, e = .returned (.agg #[.int .i64 0, .slice A 0 c, .int .i64 10, .bool false]) ∧ Kd.R (Kd.int .i64) 3 w' w.heap.size (fun _ => True) (.slice A 0 c) [] ∧ Below w.heap.size w w'
/-- The four states, by their number. -/
theorem state_of (s : Nat) (hs : s < 4) : (if onesP s - 1 = 0 then 0 else onesP s - 1 + (twosP s - 1)) = (s : Int) := by
  (have : s = 0 ∨ s = 1 ∨ s = 2 ∨ s = 3 := by omega); rcases this with rfl | rfl | rfl | rfl <;> rfl
theorem TableAt.drewN {w : World} {N : Nat} {v : Value} {m : Nat} (h : TableAt w N v m) (n : Nat) : TableAt (w.drewN n) N v m := h
set_option maxRecDepth 100000 in
set_option maxHeartbeats 16000000 in
theorem ways_table (HSt : StateC) (F K s : Nat) (f k : Int) (hf : f = (F : Int)) (hF : F ≤ 10) (hk : k = (K : Int)) (hK : K < F) (hs : s < 4) (A : Option Addr) (c : Nat) (st : Int) (tv : Value) (N : Nat) (w : World) (hN : N ≤ w.heap.size) (ht : TableAt w N tv (F + 1)) :
    Calls Try.prog 39 #[.int .i64 f, tv, .agg #[.int .i64 k, .slice A 0 c, .int .i64 st, .bool false], .int .i64 (onesP s), .int .i64 (twosP s)] w fun e w' => ∃ v, e = .returned v ∧ TabAt w' N v (cntP (F - K) (onesP s) (twosP s)) ∧ Below w.heap.size w w' := by
  obtain ⟨Bt, ct, vs, rfl, hct, hBt, hBc, hvl, hv⟩ := ht
  obtain ⟨hc1, hrow⟩ := hv (F - K) (by omega)
  obtain ⟨Br, cr, us, er, hcr, hBr, hBrc, hul, hu⟩ := hrow
  obtain ⟨hc2, htab⟩ := hu s (by omega)
  obtain ⟨g, cg, eg⟩ : ∃ g cg, us[s] = .slice (some ⟨g, 0, none⟩) 301 cg := by
    obtain ⟨g_, c_, e_, _⟩ := htab
    exact ⟨g_, c_, e_⟩
  rw [er] at hc1
  rw [eg] at hc2 htab
  obtain ⟨sm, hsm⟩ : ∃ sm : Int, sm = ((F - K : Nat) : Int) := ⟨_, rfl⟩
  obtain ⟨ss, hss⟩ : ∃ ss : Int, ss = (s : Int) := ⟨_, rfl⟩
  obtain ⟨x, hx⟩ : ∃ x : Int, x = onesP s := ⟨_, rfl⟩
  obtain ⟨y, hy⟩ : ∃ y : Int, y = twosP s := ⟨_, rfl⟩
  obtain ⟨xo, hxo⟩ : ∃ xo : Int, xo = onesP s - 1 := ⟨_, rfl⟩
  obtain ⟨yo, hyo⟩ : ∃ yo : Int, yo = twosP s - 1 := ⟨_, rfl⟩
  have hin := ones_in s
  have hst := state_of s hs
  rw [← hxo, ← hyo, ← hss] at hst
  rw [← hx, ← hy]
  have e1 : wrap64 (x - 1) = xo := by rw [hx, hxo, wrap_in (by omega) (by omega)]
  have e2 : wrap64 (y - 1) = yo := by rw [hy, hyo, wrap_in (by omega) (by omega)]
  have hsu : wrap64 (f - k) = sm := by rw [wrap_in (by omega) (by omega)]; omega
  have HXI := Aside0.mk (show 0 ≤ xo ∧ xo ≤ 2 ∧ 0 ≤ yo ∧ yo ≤ 1 by omega)
  have HSS := Aside0.mk hst
  have HST := Aside0.mk HSt
  have m0 : (0 ≤ sm) = True := eq_true (by omega)
  have m4 : (sm < ((F + 1 : Nat) : Int)) = True := eq_true (by omega)
  have s0 : (0 ≤ ss) = True := eq_true (by omega)
  have s4 : (ss < 4) = True := eq_true (by omega)
  rw [show F - K = sm.toNat by rw [hsm, Int.toNat_natCast]] at hc1
  rw [show s = ss.toNat by rw [hss, Int.toNat_natCast]] at hc2
  have hbe := below_alloc (Below.refl w.heap.size w) (.cells #[.int .i64 k, .slice A 0 c, .int .i64 st, .bool false] 46)
  have HE := Aside0.mk hbe
  have hc1 := pw_cell_below hbe hc1
  have hc2 := pw_cell_below hbe hc2
  have htab2 := htab.step (w' := w.alloc (.cells #[.int .i64 k, .slice A 0 c, .int .i64 st, .bool false] 46)) (Nat.le_refl N) (fun g hg _ => hbe.block g (Nat.lt_of_lt_of_le hg hN))
  have HT := Aside0.mk (show TabAt (w.alloc (.cells #[.int .i64 k, .slice A 0 c, .int .i64 st, .bool false] 46)) N (.slice (some ⟨g, 0, none⟩) 301 cg) (cntP (F - K) x y) by
    rw [hx, hy]
    exact htab2.congr (fun t _ _ => if_neg (by omega)))
  have hu46 := Try.underlying46
  clear hbe htab htab2 hu hul hBrc hBr hcr er hvl hBc hBt hct hv eg hsm hss hx hy hxo hyo hin hst HSt hN hf hk hK hs hF
  generalize F + 1 = F1 at *
  go_enter Try.func39, Try.ntmps39
  go_wp2
  have hc0 : (w.alloc (.cells #[.int .i64 k, .slice A 0 c, .int .i64 st, .bool false] 46)).cell? ⟨w.heap.size, 0, none⟩ = some (.int .i64 k) := (blk_cell (alloc_here _ _) 0).trans rfl
  refine start_ (n := 15) (S := fun w' => w'.cell? ⟨w.heap.size, 0, none⟩ = some (.int .i64 k) ∧ w'.cell? ⟨Bt, sm.toNat, none⟩ = some (.slice (some ⟨Br, 0, none⟩) 4 cr) ∧ w'.cell? ⟨Br, ss.toNat, none⟩ = some (.slice (some ⟨g, 0, none⟩) 301 cg)) (ds := []) #[false, false, false, false, false, false, false, false, false, false, false, false, false, false, false] (by kernel_rfl) rfl rfl ⟨hc0, hc1, hc2⟩ (fun hHeld => ?_)
  refine pure_ (i := 0) (N := (some 26)) (v := ?_) (a' := ?_) #[true, false, false, false, false, false, false, false, false, false, false, false, false, false, false] rfl rfl (by kernel_rfl) (fun _ _ _ h => h) (Or.inl ⟨by rfl, ?_⟩) ?_ ?_
  rotate_left
  · intro w'
    go_simp
    with_reducible rfl
  rotate_left
  · simp only [Act.put, List.setIfInBounds_toArray, List.set_cons_zero, List.set_cons_succ, i64_w, i32_w]
    rfl
  refine pure_ (i := 1) (N := (some 27)) (v := ?_) (a' := ?_) #[true, true, false, false, false, false, false, false, false, false, false, false, false, false, false] rfl rfl (by kernel_rfl) (fun _ _ _ h => h) (Or.inl ⟨by rfl, ?_⟩) ?_ ?_
  rotate_left
  · intro w'
    go_simp
    with_reducible rfl
  rotate_left
  · simp only [Act.put, List.setIfInBounds_toArray, List.set_cons_zero, List.set_cons_succ, i64_w, i32_w]
    rfl
  refine pure_ (i := 2) (N := (some 28)) (v := ?_) (a' := ?_) #[true, true, true, false, false, false, false, false, false, false, false, false, false, false, false] rfl rfl (by kernel_rfl) (fun _ _ _ h => h) (Or.inl ⟨by rfl, ?_⟩) ?_ ?_
  rotate_left
  · intro w'
    go_simp
    with_reducible rfl
  rotate_left
  · simp only [Act.put, List.setIfInBounds_toArray, List.set_cons_zero, List.set_cons_succ, i64_w, i32_w]
    rfl
  refine take_ (i := 3) (N := (some 29)) (v := ?_) (a' := ?_) #[true, true, true, true, false, false, false, false, false, false, false, false, false, false, false] rfl rfl (by kernel_rfl) (fun _ _ _ h => h) (Or.inl ⟨by rfl, ?_⟩) hHeld ?_ ?_
  rotate_left
  · intro w' s0
    have z0 := s0.1
    go_simp
    with_reducible rfl
  rotate_left
  · simp only [Act.put, List.setIfInBounds_toArray, List.set_cons_zero, List.set_cons_succ, i64_w, i32_w]
    rfl
  refine pure_ (i := 4) (N := (some 30)) (v := ?_) (a' := ?_) #[true, true, true, true, true, false, false, false, false, false, false, false, false, false, false] rfl rfl (by kernel_rfl) (fun _ _ _ h => h) (Or.inl ⟨by rfl, ?_⟩) ?_ ?_
  rotate_left
  · intro w'
    go_simp
    with_reducible rfl
  rotate_left
  · simp only [Act.put, List.setIfInBounds_toArray, List.set_cons_zero, List.set_cons_succ, i64_w, i32_w]
    rfl
  refine pure_ (i := 5) (N := (some 31)) (v := ?_) (a' := ?_) #[true, true, true, true, true, true, false, false, false, false, false, false, false, false, false] rfl rfl (by kernel_rfl) (fun _ _ _ h => h) (Or.inl ⟨by rfl, ?_⟩) ?_ ?_
  rotate_left
  · intro w'
    go_simp
    with_reducible rfl
  rotate_left
  · simp only [Act.put, List.setIfInBounds_toArray, List.set_cons_zero, List.set_cons_succ, i64_w, i32_w]
    rfl
  refine take_ (i := 6) (N := (some 32)) (v := ?_) (a' := ?_) #[true, true, true, true, true, true, true, false, false, false, false, false, false, false, false] rfl rfl (by kernel_rfl) (fun _ _ _ h => h) (Or.inl ⟨by rfl, ?_⟩) hHeld ?_ ?_
  rotate_left
  · intro w' s0
    have z0 := s0.2.1
    go_simp
    with_reducible rfl
  rotate_left
  · simp only [Act.put, List.setIfInBounds_toArray, List.set_cons_zero, List.set_cons_succ, i64_w, i32_w]
    rfl
  refine pure_ (i := 7) (N := (some 33)) (v := ?_) (a' := ?_) #[true, true, true, true, true, true, true, true, false, false, false, false, false, false, false] rfl rfl (by kernel_rfl) (fun _ _ _ h => h) (Or.inl ⟨by rfl, ?_⟩) ?_ ?_
  rotate_left
  · intro w'
    go_simp
    with_reducible rfl
  rotate_left
  · simp only [Act.put, List.setIfInBounds_toArray, List.set_cons_zero, List.set_cons_succ, i64_w, i32_w]
    rfl
  refine pure_ (i := 8) (N := (some 34)) (v := ?_) (a' := ?_) #[true, true, true, true, true, true, true, true, true, false, false, false, false, false, false] rfl rfl (by kernel_rfl) (fun _ _ _ h => h) (Or.inl ⟨by rfl, ?_⟩) ?_ ?_
  rotate_left
  · intro w'
    go_simp
    with_reducible rfl
  rotate_left
  · simp only [Act.put, List.setIfInBounds_toArray, List.set_cons_zero, List.set_cons_succ, i64_w, i32_w]
    rfl
  refine pure_ (i := 9) (N := (some 35)) (v := ?_) (a' := ?_) #[true, true, true, true, true, true, true, true, true, true, false, false, false, false, false] rfl rfl (by kernel_rfl) (fun _ _ _ h => h) (Or.inl ⟨by rfl, ?_⟩) ?_ ?_
  rotate_left
  · intro w'
    go_simp
    with_reducible rfl
  rotate_left
  · simp only [Act.put, List.setIfInBounds_toArray, List.set_cons_zero, List.set_cons_succ, i64_w, i32_w]
    rfl
  refine pure_ (i := 10) (N := (some 36)) (v := ?_) (a' := ?_) #[true, true, true, true, true, true, true, true, true, true, true, false, false, false, false] rfl rfl (by kernel_rfl) (fun _ _ _ h => h) (Or.inl ⟨by rfl, ?_⟩) ?_ ?_
  rotate_left
  · intro w'
    go_simp
    with_reducible rfl
  rotate_left
  · simp only [Act.put, List.setIfInBounds_toArray, List.set_cons_zero, List.set_cons_succ, i64_w, i32_w]
    rfl
  refine one_ (i := 11) (N := (some 37)) #[true, true, true, true, true, true, true, true, true, true, true, true, false, false, false] rfl rfl (by kernel_rfl) (by decide) (fun K hK => ?_)
  refine goes_ Try.func50 (by kernel_rfl) rfl #[.int .i64 xo, .int .i64 yo] (by rfl) rfl rfl (by (try simp only [List.map_toArray, List.map_cons, List.map_nil]); show #[Value.int .i64 (wrap64 (x - 1)), Value.int .i64 (wrap64 (y - 1))] = _; rw [e1, e2]) ?_
  refine (HST.out xo yo _ HXI.out.1 HXI.out.2.1 HXI.out.2.2.1 HXI.out.2.2.2).mono ?_
  rw [HSS.out]
  rintro e w3 ⟨rfl, ⟨nd, rfl⟩⟩
  refine ⟨_, rfl, ?_⟩
  refine hK.out _ _ hHeld (fun hHeld => ?_)
  clear hK K
  refine norm_ (a' := ?_) ?_ ?_
  rotate_left
  · show Act.put _ (some _) _ = _
    simp only [Act.put, List.setIfInBounds_toArray, List.set_cons_zero, List.set_cons_succ, i64_w, i32_w]
    rfl
  refine pure_ (i := 12) (N := (some 38)) (v := ?_) (a' := ?_) #[true, true, true, true, true, true, true, true, true, true, true, true, true, false, false] rfl rfl (by kernel_rfl) (fun _ _ _ h => h) (Or.inl ⟨by rfl, ?_⟩) ?_ ?_
  rotate_left
  · intro w'
    go_simp
    with_reducible rfl
  rotate_left
  · simp only [Act.put, List.setIfInBounds_toArray, List.set_cons_zero, List.set_cons_succ, i64_w, i32_w]
    rfl
  refine take_ (i := 13) (N := (some 39)) (v := ?_) (a' := ?_) #[true, true, true, true, true, true, true, true, true, true, true, true, true, true, false] rfl rfl (by kernel_rfl) (fun _ _ _ h => h) (Or.inl ⟨by rfl, ?_⟩) hHeld ?_ ?_
  rotate_left
  · intro w' s0
    have z0 := s0.2.2
    go_simp
    with_reducible rfl
  rotate_left
  · simp only [Act.put, List.setIfInBounds_toArray, List.set_cons_zero, List.set_cons_succ, i64_w, i32_w]
    rfl
  refine pure_ (i := 14) (N := (some 10)) (v := ?_) (a' := ?_) #[true, true, true, true, true, true, true, true, true, true, true, true, true, true, true] rfl rfl (by kernel_rfl) (fun _ _ _ h => h) (Or.inl ⟨by rfl, ?_⟩) ?_ ?_
  rotate_left
  · intro w'
    go_simp
    with_reducible rfl
  rotate_left
  · simp only [Act.put, List.setIfInBounds_toArray, List.set_cons_zero, List.set_cons_succ, i64_w, i32_w]
    rfl
  refine done_ (by kernel_rfl) ?_
  go_wp2
  go_ret
  exact ⟨_, rfl, HT.out, pw_below_drewN (below_drew1 HE.out) _⟩
set_option maxRecDepth 100000 in
set_option maxHeartbeats 16000000 in
theorem from_nil (HAdd : AddC) (HSt : StateC) (HS : StartC) (F : Nat) (f : Int) (hf : f = (F : Int)) (h1 : 1 ≤ F) (hF : F ≤ 10) (tv : Value) (w : World) (ht : TableAt w w.heap.size tv (F + 1)) :
    Calls Try.prog 20 #[.int .i64 f, tv, .slice none 0 0] w fun e w' => ∃ v, e = .returned v ∧ TabAt w' w'.heap.size v (cntP F 1 1) ∧ Below w.heap.size w w' := by
  have HW := Aside0.mk (fun (A : Option Addr) (c : Nat) (w1 : World) (hN : w.heap.size ≤ w1.heap.size) (ht1 : TableAt w1 w.heap.size tv (F + 1)) => (show Calls Try.prog 39 #[.int .i64 f, tv, .agg #[.int .i64 0, .slice A 0 c, .int .i64 10, .bool false], .int .i64 1, .int .i64 1] w1 (fun e w' => ∃ v, e = .returned v ∧ TabAt w' w.heap.size v (cntP F 1 1) ∧ Below w1.heap.size w1 w') from ways_table HSt F 0 0 f 0 hf hF rfl (by omega) (by omega) A c 10 tv w.heap.size w1 hN ht1))
  have HADD := Aside0.mk HAdd.old
  have HSS := Aside0.mk HS
  have HT := Aside0.mk ht
  have HCAP := Aside0.mk (show ∀ t : Int, (fun _ : Int => 0) t + cntP F 1 1 (t - 0) ≤ 5726805883325784576 from fun t => by
    have := cnt_cap F 1 1 (t - 0)
    have := cap_all F hF
    simp only
    omega)
  have hu46 := Try.underlying46
  clear ht HAdd HSt HS hf h1 hF
  go_enter Try.func20, Try.ntmps20
  go_wp2_with (go_at_call 34; refine (HSS.out _).mono ?_; rintro e w2 ⟨A, c, rfl, _, hb2⟩; have HB2 := Aside0.mk hb2; clear hb2)
  have hX0 := alloc_here w2 (.cells #[.int .i64 0, .slice A 0 c, .int .i64 10, .bool false] 46)
  have HX0 : Aside0 ((w2.alloc (.cells #[.int .i64 0, .slice A 0 c, .int .i64 10, .bool false] 46)).heap[w2.heap.size]? = some (.cells #[.int .i64 0, .slice A 0 c, .int .i64 10, .bool false] 46 (0, 0))) := ⟨hX0⟩
  have HBX := Aside0.mk (below_alloc HB2.out (.cells #[.int .i64 0, .slice A 0 c, .int .i64 10, .bool false] 46))
  clear hX0 HB2
  generalize (w2.alloc (.cells #[.int .i64 0, .slice A 0 c, .int .i64 10, .bool false] 46)) = W2 at *
  generalize w2.heap.size = BX at *
  go_loopg [8, 9, 10, 19] 1 (fun kq v8 v9 v10 v19 wx => v8 = .int .i64 0 ∧ v9 = .int .i64 1 ∧ v10 = .int .i64 1 ∧ v19 = .int .i64 0 ∧ Aside0 (wx.heap[BX]? = some (.cells #[.int .i64 0, .slice A 0 c, .int .i64 10, .bool false] 46 (0, 0))) ∧ Aside0 (Below w.heap.size w wx))
  case atStart => exact ⟨rfl, rfl, rfl, rfl, HX0, HBX⟩
  case round =>
    clear HX0 HBX
    obtain ⟨rfl, rfl, rfl, rfl, HX, HB⟩ := hrel
    go_wp2_with (first | ((with_reducible refine gate_dst (N := 67) rfl ?_); refine Kd.R_make (Kd.int .i64) (w0 := w) w.heap.size 3 rfl (N := 67) rfl 28 _ _ rfl (301 : Int) rfl rfl Try.underlying28 (.int .i64 0) 8 info3 rfl (by decide) (by omega) 0 (ok := fun _ => True) (okp := fun _ => True) rfl (fun _ hk => hk) trivial (by omega) (by omega) HB.out HB.out.size ?_; intro v67 w5 ho hb5 hg5 hn5; obtain ⟨G, cap, ev, gb, gl, _⟩ := Kd.R_form ho (by simp); rw [show (List.replicate (301 : Int).toNat (0 : Int)).length = 301 by rw [List.length_replicate]; rfl] at ev; subst ev; have HC5 : Aside0 (CntAt w5 w.heap.size G cap (fun _ => 0)) := Aside0.mk (by rw [CntAt, ← arrS_zero]; exact CntAt.tight ho); have HB5 := Aside0.mk hb5; have HG5 := Aside0.mk (show wr.heap.size ≤ G ∧ G < w5.heap.size from ⟨by obtain ⟨b, e1, e2⟩ := hn5; have e3 : G = b := Option.some.inj e1; omega, gl⟩); have hbx := (hg5.block BX (Array.getElem?_eq_some_iff.1 HX.out).1 (by simp)).trans HX.out; have z0 := (blk_cell hbx 0).trans rfl; have z1 := (blk_cell hbx 1).trans rfl; have z2 := (blk_cell hbx 2).trans rfl; have z3 := (blk_cell hbx 3).trans rfl; have HT5 := Aside0.mk (HT.out.step (w' := w5) (Nat.le_refl _) (fun g _ hg _ _ => HB5.out.block g hg)); clear ho hb5 hg5 hn5 gb gl hbx) | (go_at_call 39; refine (HW.out A c _ HB5.out.size HT5.out).mono ?_; rintro e w6 ⟨v, rfl, ht6, hb6⟩; have htv := ht6; obtain ⟨g_, cg_, ev6, _⟩ := htv; subst ev6; have HT6 := Aside0.mk (ht6.step (N' := G) (by have := HB.out.size; have := HG5.out.1; omega) (fun _ _ _ => rfl)); have HC6 := Aside0.mk (Kd.R_below HC5.out hb6); have HB6 := Aside0.mk (HB5.out.trans (hb6.mono HB5.out.size)); have HG6 := Aside0.mk (Nat.lt_of_lt_of_le HG5.out.2 hb6.size); clear ht6 hb6) | (go_at_call 38; refine (HADD.out G cap _ _ _ 0 w _ (by decide) (by decide) (fun t ht => cnt_low F 1 1 t (by decide) (by decide) ht) HCAP.out HB6.out HC6.out HT6.out).mono ?_; rintro e w7 ⟨rfl, hc7, hb7, hk7⟩; have HC7 := Aside0.mk hc7; have HB7 := Aside0.mk hb7; have HG7 := Aside0.mk (Nat.lt_of_lt_of_le HG6.out hk7.1); clear hc7 hb7 hk7))
    go_ret
    exact ⟨_, rfl, (HC7.out.tab HG7.out).congr (fun t _ _ => by simp only [Int.sub_zero, Nat.zero_add]), HB7.out⟩
def TotalC : Prop := ∀ (f t : Int) (w : World), Calls Try.prog 19 #[.int .i64 f, .int .i64 t] w fun e w' => e = .returned (.bool (decide ((1 ≤ f ∧ f ≤ 10) ∧ 0 ≤ t ∧ t ≤ 300))) ∧ Drawn0 w w'
def FramesSC : Prop := ∀ (f : Int) (w : World), Calls Try.prog 24 #[.int .i64 f] w fun e w' => e = .returned (.bool (decide (1 ≤ f ∧ f ≤ 10))) ∧ Drawn0 w w'
set_option maxRecDepth 100000 in
set_option maxHeartbeats 8000000 in
theorem sgames_calls (HAdd : AddC) (HSt : StateC) (HS : StartC) (HLast : LastC) (HTot : TotalC) (f t : Int) (w : World) :
    Calls Try.prog 7 #[.int .i64 f, .int .i64 t] w fun e w' => e = .returned (.tuple #[.int .i64 (gamesV f t).1, .bool (gamesV f t).2]) ∧ Below w.heap.size w w' := by
  have H1 := Aside0.mk (HTot f t)
  by_cases h : (1 ≤ f ∧ f ≤ 10) ∧ 0 ≤ t ∧ t ≤ 300
  · rw [decide_eq_true h] at H1
    have e : gamesV f t = (((cntP f.toNat 1 1 t : Nat) : Int), true) := if_pos h
    rw [e]
    obtain ⟨F, hF⟩ : ∃ F : Nat, F = f.toNat := ⟨_, rfl⟩
    rw [← hF]
    have HTB := Aside0.mk (table_calls HAdd HSt HLast F f (by omega) (by omega))
    have HFN := Aside0.mk (fun tv w1 ht => from_nil HAdd HSt HS F f (by omega) (by omega) (by omega) tv w1 ht)
    obtain ⟨X, hX⟩ : ∃ X : Int, X = ((cntP F 1 1 t : Nat) : Int) := ⟨_, rfl⟩
    simp only
    rw [← hX]
    have HX := Aside0.mk (show t.toNat < 301 ∧ ((cntP F 1 1 ((t.toNat : Nat) : Int) : Nat) : Int) = X from ⟨by omega, by rw [Int.toNat_of_nonneg h.2.1, hX]⟩)
    have v1 : (0 ≤ t) = True := eq_true h.2.1
    have v2 : (t < 301) = True := eq_true (by omega)
    clear h e hF hX HAdd HSt HS HLast HTot
    go_enter Try.func7, Try.ntmps7
    go_wp2_with (first | (go_at_call 19; refine (H1.out _).mono ?_; rintro e w2 ⟨rfl, ⟨nd, rfl⟩⟩) | (go_at_call 21; refine (HTB.out _).mono ?_; rintro e w3 ⟨tv, rfl, ht3, hb3⟩; have HT3 := Aside0.mk ht3; have HB3 := Aside0.mk (show Below w.heap.size w w3 from (pw_below_drewN (Below.refl _ _) _).trans hb3); clear ht3 hb3) | (go_at_call 20; refine (HFN.out tv _ HT3.out).mono ?_; rintro e w4 ⟨v, rfl, ht4, hb4⟩; obtain ⟨g, c, rfl, _, _, _, hcl⟩ := ht4; have hcell := hcl t.toNat HX.out.1; rw [HX.out.2] at hcell; have HB4 := Aside0.mk (HB3.out.trans (hb4.mono HB3.out.size)); clear hcl hb4))
    go_ret2
    exact ⟨rfl, HB4.out⟩
  · rw [decide_eq_false h] at H1
    have e : gamesV f t = (0, false) := if_neg h
    rw [e]
    clear h e HAdd HSt HS HLast HTot
    go_enter Try.func7, Try.ntmps7
    go_wp2_with (go_at_call 19; refine (H1.out _).mono ?_; rintro e w2 ⟨rfl, ⟨nd, rfl⟩⟩)
    go_ret2
    exact ⟨rfl, pw_below_drewN (Below.refl _ _) _⟩
set_option maxRecDepth 100000 in
set_option maxHeartbeats 8000000 in
theorem smost_calls (HAdd : AddC) (HSt : StateC) (HS : StartC) (HLast : LastC) (HFr : FramesSC) (f : Int) (w : World) :
    Calls Try.prog 9 #[.int .i64 f] w fun e w' => e = .returned (.tuple #[.int .i64 (mostV f).1, .int .i64 (mostV f).2.1, .bool (mostV f).2.2]) ∧ Below w.heap.size w w' := by
  have H1 := Aside0.mk (HFr f)
  by_cases h : 1 ≤ f ∧ f ≤ 10
  · rw [decide_eq_true h] at H1
    have e : mostV f = (((bestV (fun t => cntP f.toNat 1 1 (t : Int)) 301).1 : Int), ((bestV (fun t => cntP f.toNat 1 1 (t : Int)) 301).2 : Int), true) := by
      rw [← most_300 f h]
      exact if_pos h
    rw [e]
    obtain ⟨F, hF⟩ : ∃ F : Nat, F = f.toNat := ⟨_, rfl⟩
    rw [← hF]
    have HTB := Aside0.mk (table_calls HAdd HSt HLast F f (by omega) (by omega))
    have HFN := Aside0.mk (fun tv w1 ht => from_nil HAdd HSt HS F f (by omega) (by omega) (by omega) tv w1 ht)
    simp only
    have htab : ∀ j : Nat, ((cntP F 1 1 (j : Int) : Nat) : Int) = (((fun t : Nat => cntP F 1 1 (t : Int)) j : Nat) : Int) := fun j => rfl
    generalize hg : (fun t : Nat => cntP F 1 1 (t : Int)) = g0 at *
    have HG0 := Aside0.mk htab
    clear h e hF HAdd HSt HS HLast HFr htab hg
    go_enter Try.func9, Try.ntmps9
    go_wp2_with (first | (go_at_call 24; refine (H1.out _).mono ?_; rintro e w2 ⟨rfl, ⟨nd, rfl⟩⟩) | (go_at_call 21; refine (HTB.out _).mono ?_; rintro e w3 ⟨tv, rfl, ht3, hb3⟩; have HT3 := Aside0.mk ht3; have HB3 := Aside0.mk (show Below w.heap.size w w3 from (pw_below_drewN (Below.refl _ _) _).trans hb3); clear ht3 hb3) | (go_at_call 20; refine (HFN.out tv _ HT3.out).mono ?_; rintro e w4 ⟨v, rfl, ht4, hb4⟩; obtain ⟨g, c, rfl, _, _, _, hcl⟩ := ht4; have HCL := Aside0.mk hcl; have HB4 := Aside0.mk (HB3.out.trans (hb4.mono HB3.out.size)); clear hcl hb4))
    go_loopg [5, 6, 17] 302 (fun kq v5 v6 v17 wx => ∃ (i : Nat) (si b1 b2 : Int), v5 = .int .i64 b1 ∧ v6 = .int .i64 b2 ∧ v17 = .int .i64 si ∧ Aside0 (si = (i : Int)) ∧ Aside0 (i + kq = 302 ∧ i ≤ 301) ∧ Aside0 (b1 = ((bestV g0 i).1 : Int) ∧ b2 = ((bestV g0 i).2 : Int)) ∧ Aside0 (∀ j : Nat, j < 301 → wx.cell? ⟨g, j, none⟩ = some (.int .i64 ((cntP F 1 1 (j : Int) : Nat) : Int))) ∧ Aside0 (Below w.heap.size w wx))
    case atStart => exact ⟨0, 0, 0, 0, by simp, by simp, by simp, ⟨by simp⟩, ⟨by omega⟩, ⟨⟨rfl, rfl⟩⟩, HCL, HB4⟩
    case round =>
      clear HCL HB4 HB3 HT3
      obtain ⟨i, si, b1, b2, rfl, rfl, rfl, HSI, HQ, HBB, HCL, HB⟩ := hrel
      by_cases hi : si < 301
      · have v1 : decide (si < 301) = true := decide_eq_true hi
        have v2 : (si < 301) = True := eq_true hi
        have h0 : 0 ≤ si := by rw [HSI.out]; omega
        have v3 : (0 ≤ si) = True := eq_true h0
        have v4 : decide (0 ≤ si) = true := decide_eq_true h0
        have cs1 : wrap64 (si + 1) = si + 1 := wrap_in (by omega) (by omega)
        have hcell := HCL.out si.toNat (by omega)
        rw [HG0.out] at hcell
        rw [show si.toNat = i by rw [HSI.out, Int.toNat_natCast]] at hcell
        obtain ⟨X, hX⟩ : ∃ X : Int, X = ((g0 i : Nat) : Int) := ⟨_, rfl⟩
        rw [← hX, show i = si.toNat by rw [HSI.out, Int.toNat_natCast]] at hcell
        have HX := Aside0.mk hX
        have HI := Aside0.mk hi
        by_cases hb : b2 < X
        · have u : decide (b2 < X) = true := decide_eq_true hb
          have e : bestV g0 (i + 1) = (i, g0 i) := if_pos (by have := HBB.out.2; omega)
          have HE := Aside0.mk e
          clear hX hb h0 hi e
          go_wp2
          go_roundg (gk - 1)
          case measure => have := HQ.out; omega
          case rel => exact ⟨i + 1, si + 1, si, X, rfl, rfl, by first | rfl | simp [cs1] | (rw [wrapK, cs1]), ⟨by rw [HSI.out]; omega⟩, ⟨by have := HQ.out; have := HI.out; have := HSI.out; omega⟩, ⟨by rw [HE.out]; exact ⟨HSI.out, HX.out⟩⟩, HCL, HB⟩
        · have u : decide (b2 < X) = false := decide_eq_false hb
          have e : bestV g0 (i + 1) = bestV g0 i := if_neg (by have := HBB.out.2; omega)
          have HE := Aside0.mk e
          clear hX hb h0 hi e
          go_wp2
          go_roundg (gk - 1)
          case measure => have := HQ.out; omega
          case rel => exact ⟨i + 1, si + 1, b1, b2, rfl, rfl, by first | rfl | simp [cs1] | (rw [wrapK, cs1]), ⟨by rw [HSI.out]; omega⟩, ⟨by have := HQ.out; have := HI.out; have := HSI.out; omega⟩, ⟨by rw [HE.out]; exact HBB.out⟩, HCL, HB⟩
      · have hi3 : i = 301 := by have := HQ.out; have := HSI.out; omega
        have v1 : decide (si < 301) = false := decide_eq_false hi
        subst hi3
        go_wp2
        first | go_end0 | ((try simp only [Exit.inBlock, Exit.then]); refine bodyPost_ret (results_tmp3 rfl _ _ _) rfl ?_)
        exact ⟨by rw [HBB.out.1, HBB.out.2]; rfl, HB.out⟩
  · rw [decide_eq_false h] at H1
    have e : mostV f = (0, 0, false) := if_neg h
    rw [e]
    clear h e HAdd HSt HS HLast HFr
    go_enter Try.func9, Try.ntmps9
    go_wp2_with (go_at_call 24; refine (H1.out _).mono ?_; rintro e w2 ⟨rfl, ⟨nd, rfl⟩⟩)
    first | go_end0 | ((try simp only [Exit.inBlock, Exit.then]); refine bodyPost_ret (results_tmp3 rfl _ _ _) rfl ?_)
    exact ⟨rfl, pw_below_drewN (Below.refl _ _) _⟩
end Go.Proofs.Ytdioconinnpmmaa.Pin
