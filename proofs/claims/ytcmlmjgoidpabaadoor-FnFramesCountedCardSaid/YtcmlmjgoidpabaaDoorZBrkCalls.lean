/- CountByPoints and FirstWithPoints, walked: for every frame and every number of points. -/
import Derived.Test.YtcmlmjgoidpabaaDoorZBrkCount
set_option linter.unusedVariables false
set_option linter.unusedSimpArgs false
namespace Go.Proofs.YtcmlmjgoidpabaaDoor.Brk
open Go.RowKit Go.Proofs.YtcmlmjgoidpabaaDoorW.PrintWords Go.Proofs.YtcmlmjgoidpabaaDoorW.PrintLast
def NextC (w0 : World) : Prop := ∀ (f : Fr) (w1 : World), okFr f → Calls Tryd.prog 33 #[frA f] w1 fun e w' => e = .returned (.string (nextS f)) ∧ Below w1.heap.size w1 w'
def PotC (w0 : World) : Prop := ∀ (f : Fr) (w1 : World), okFr f → ballsF f ≠ [] → Calls Tryd.prog 34 #[frA f] w1 fun e w' => e = .returned (frA (potF f)) ∧ Below w1.heap.size w1 w'
theorem count_calls (Bk Bc M base : Nat) (wz : World) (HNext : NextC wz) (HPot : PotC wz) (hbM : base ≤ M) : ∀ (n : Nat) (f : Fr) (p : Int) (w : World), p.toNat ≤ n → (0 < p → okFr f) → p ≤ 147 → BCtx w Bk Bc M → HasMemo w M → base ≤ w.heap.size →
    Calls Tryd.prog 54 #[frA f, .int .i64 p, .pointer (some ⟨Bk, 0, none⟩), .pointer (some ⟨Bc, 0, none⟩)] w (CPost (cnt p.toNat f p) M base w)
  | n, (r, c, l), p, w, hn, hf, hp1, hX, hM, hbs => by
    by_cases hp : p ≤ 0
    · exact count_le Bk Bc M base r c l p w hp hM hbs
    · obtain ⟨es, clock, hm⟩ := hM
      have hf := hf (by omega)
      rcases memo_look hm (r, c, l) p hf (by omega) hp1 with hl | hl
      · exact count_known Bk Bc M base r c l p w (by omega) hX es clock hm.hb ⟨es, clock, hm⟩ hbs _ hl
      · cases n with
        | zero => omega
        | succ n =>
          exact count_new Bk Bc M base r c l p w hf (by omega) hp1 hX es clock hm hbs hbM hl HNext HPot
            (fun q w1 hq _ hf1 hX1 hM1 hb1 => count_calls Bk Bc M base wz HNext HPot hbM n _ q w1 (by omega) (fun _ => hf1) (by omega) hX1 hM1 hb1)
set_option maxRecDepth 100000 in
set_option maxHeartbeats 8000000 in
theorem counter_calls (w : World) : Calls Tryd.prog 30 #[] w fun e w' => ∃ Bk Bc M : Nat, e = .returned (.func (.func 54) #[] #[.pointer (some ⟨Bk, 0, none⟩), .pointer (some ⟨Bc, 0, none⟩)]) ∧ BCtx w' Bk Bc M ∧ HasMemo w' M ∧ w.heap.size ≤ M ∧ Below w.heap.size w w' := by
  have hmm := @run_makeMap Tryd.prog
  have hmf : ∀ (fn : Fn) (first cap : Array Value) (w : World), (Instr.makeFunc fn first cap).run Tryd.prog w = .ok (.func fn first cap) w := fun _ _ _ _ => rfl
  have hu72 := Tryd.underlying72
  go_enter Tryd.func30, Tryd.ntmps30
  go_wp2
  go_ret
  have hb : Below w.heap.size w ((w.alloc (.map #[] 0)).alloc (.cells #[.map (some w.heap.size)] 72)) := below_alloc (below_alloc (Below.refl _ _) _) _
  refine ⟨w.heap.size + 1, w.heap.size + 1 + 1, w.heap.size, rfl, ⟨?_, ?_, by omega, by omega⟩, ?_, Nat.le_refl _, below_alloc hb _⟩
  · rw [← alloc_one w (.map #[] 0)]
    refine pw_cell_below (below_alloc (Below.refl _ _) _) (a := ⟨(w.alloc (.map #[] 0)).heap.size, 0, none⟩) ?_
    rw [World.cell?_alloc_at _ _ _ _ rfl]
    rfl
  · rw [World.cell?_alloc_at _ _ _ _ (by rw [alloc_one, alloc_one])]
    rfl
  · have h0 := memo_made w
    have h1 := (below_alloc (Below.refl (w.alloc (.map #[] 0)).heap.size (w.alloc (.map #[] 0))) (.cells #[.map (some w.heap.size)] 72))
    refine (h0.at (h1.block _ h0.lt)).at ?_
    exact (below_alloc (Below.refl _ _) _).block _ (by rw [alloc_one]; have := h0.lt; omega)
def byP (t : Bool) (f : Fr) (p : Int) : Int × Bool := if t = true ∧ 0 ≤ p ∧ p ≤ 147 then (if cnt p.toNat f p > 1000000000000000 then (0, false) else (cnt p.toNat f p, true)) else (0, false)
set_option maxRecDepth 100000 in
set_option maxHeartbeats 8000000 in
theorem byPoints_no (r : Int) (c : Bool) (l p : Int) (w : World) (t : Bool) (ht : ¬ (t = true ∧ 0 ≤ p ∧ p ≤ 147))
    (HIs : ∀ w1, Calls Tryd.prog 31 #[frA (r, c, l)] w1 fun e w' => e = .returned (.bool t) ∧ Below w1.heap.size w1 w')
    (HIn : ∀ w1, Calls Tryd.prog 32 #[.int .i64 p, .int .i64 0, .int .i64 147] w1 fun e w' => e = .returned (.bool (decide (0 ≤ p ∧ p ≤ 147))) ∧ Drawn0 w1 w') :
    Calls Tryd.prog 8 #[.agg #[.int .i64 r, .bool c, .int .i64 l], .int .i64 p] w fun e w' => e = .returned (.tuple #[.int .i64 0, .bool false]) ∧ Below w.heap.size w w' := by
  have H1 := Aside0.mk HIs
  have H2 := Aside0.mk HIn
  have hu26 := Tryd.underlying25
  clear HIs HIn
  cases t with
  | false =>
    clear ht
    go_enter Tryd.func8, Tryd.ntmps8
    go_wp2_with (first | (go_at_call 31; refine (H1.out _).mono ?_; rintro e w1 ⟨rfl, hb1⟩; have HB1 := Aside0.mk ((below_alloc (Below.refl w.heap.size w) _).trans (hb1.mono (by rw [alloc_one]; omega))); clear hb1))
    go_ret2
    exact ⟨rfl, HB1.out⟩
  | true =>
    have hd : decide (0 ≤ p ∧ p ≤ 147) = false := decide_eq_false (fun h => ht ⟨rfl, h⟩)
    rw [hd] at H2
    clear ht hd
    go_enter Tryd.func8, Tryd.ntmps8
    go_wp2_with (first | (go_at_call 31; refine (H1.out _).mono ?_; rintro e w1 ⟨rfl, hb1⟩; have HB1 := Aside0.mk ((below_alloc (Below.refl w.heap.size w) _).trans (hb1.mono (by rw [alloc_one]; omega))); clear hb1) | (go_at_call 32; refine (H2.out _).mono ?_; rintro e w2 ⟨rfl, ⟨nd, rfl⟩⟩))
    go_ret2
    exact ⟨rfl, pw_below_drewN HB1.out _⟩
set_option maxRecDepth 100000 in
set_option maxHeartbeats 8000000 in
theorem byPoints_yes (r : Int) (c : Bool) (l p : Int) (w wz : World) (p0 : 0 ≤ p) (p1 : p ≤ 147) (hf : okFr (r, c, l)) (HNext : NextC wz) (HPot : PotC wz)
    (HIs : ∀ w1, Calls Tryd.prog 31 #[frA (r, c, l)] w1 fun e w' => e = .returned (.bool true) ∧ Below w1.heap.size w1 w')
    (HIn : ∀ w1, Calls Tryd.prog 32 #[.int .i64 p, .int .i64 0, .int .i64 147] w1 fun e w' => e = .returned (.bool (decide (0 ≤ p ∧ p ≤ 147))) ∧ Drawn0 w1 w') :
    Calls Tryd.prog 8 #[.agg #[.int .i64 r, .bool c, .int .i64 l], .int .i64 p] w fun e w' => e = .returned (.tuple #[.int .i64 (byP true (r, c, l) p).1, .bool (byP true (r, c, l) p).2]) ∧ Below w.heap.size w w' := by
  have hd : decide (0 ≤ p ∧ p ≤ 147) = true := decide_eq_true ⟨p0, p1⟩
  rw [hd] at HIn
  have hby : byP true (r, c, l) p = if cnt p.toNat (r, c, l) p > 1000000000000000 then (0, false) else (cnt p.toNat (r, c, l) p, true) := if_pos ⟨rfl, p0, p1⟩
  have HBY := Aside0.mk hby
  have H1 := Aside0.mk HIs
  have H2 := Aside0.mk HIn
  have HC := Aside0.mk (fun (Bk Bc M base : Nat) (w1 : World) (hbM : base ≤ M) => count_calls Bk Bc M base wz HNext HPot hbM p.toNat (r, c, l) p w1 (Nat.le_refl _) (fun _ => hf) p1)
  have hu26 := Tryd.underlying25
  generalize hX : cnt p.toNat (r, c, l) p = X at *
  clear HIs HIn HNext HPot hd p0 p1 hby hX hf
  go_enter Tryd.func8, Tryd.ntmps8
  go_wp2_with (first | (go_at_call 31; refine (H1.out _).mono ?_; rintro e w1 ⟨rfl, hb1⟩; have HB1 := Aside0.mk hb1; clear hb1) | (go_at_call 32; refine (H2.out _).mono ?_; rintro e w2 ⟨rfl, ⟨nd, rfl⟩⟩))
  have hf1 : w1.heap[w.heap.size]? = some (.cells #[.int .i64 r, .bool c, .int .i64 l] 25 (0, 0)) := by
    rw [HB1.out.block _ (by rw [alloc_one]; omega)]
    exact alloc_here _ _
  have hb1 : Below w.heap.size w w1 := (below_alloc (Below.refl w.heap.size w) _).trans (HB1.out.mono (by rw [alloc_one]; omega))
  have HF1 := Aside0.mk hf1
  have HB2 := Aside0.mk hb1
  clear hf1 hb1 HB1
  refine start_ (n := 5) (S := fun w' => w'.heap[w.heap.size]? = some (.cells #[.int .i64 r, .bool c, .int .i64 l] 25 (0, 0))) (ds := []) #[false, false, false, false, false] (by kernel_rfl) rfl rfl HF1.out (fun hHeld => ?_)
  refine pure_ (i := 2) (N := (some 17)) (v := ?_) (a' := ?_) #[false, false, true, false, false] rfl rfl (by kernel_rfl) (fun _ _ _ h => h) (Or.inl ⟨by rfl, ?_⟩) ?_ ?_
  rotate_left
  · intro w'
    go_simp
    with_reducible rfl
  rotate_left
  · simp only [Act.put, List.setIfInBounds_toArray, List.set_cons_zero, List.set_cons_succ, i64_w, i32_w]
    rfl
  refine take_ (i := 1) (N := (some 16)) (v := ?_) (a' := ?_) #[false, true, true, false, false] rfl rfl (by kernel_rfl) (fun _ _ _ h => h) (Or.inl ⟨by rfl, ?_⟩) hHeld ?_ ?_
  rotate_left
  · intro w' s0
    have z0 := (blk_cell s0 0).trans rfl
    have z1 := (blk_cell s0 1).trans rfl
    have z2 := (blk_cell s0 2).trans rfl
    go_simp
    with_reducible rfl
  rotate_left
  · simp only [Act.put, List.setIfInBounds_toArray, List.set_cons_zero, List.set_cons_succ, i64_w, i32_w]
    rfl
  refine one_ (i := 0) (N := (some 15)) #[true, true, true, false, false] rfl rfl (by kernel_rfl) (by decide) (fun K hK => ?_)
  refine goes_ Tryd.func30 (by kernel_rfl) rfl #[] (by rfl) rfl rfl (by (try simp only [List.map_toArray, List.map_cons, List.map_nil]); first | done | rfl) ?_
  refine (counter_calls _).mono ?_
  rintro e w3 ⟨Bk, Bc, M, rfl, hX3, hM3, hbM, hb3⟩
  refine ⟨_, rfl, ?_⟩
  refine hK.out _ _ (blk_below hHeld hb3) (fun hHeld => ?_)
  clear hK K
  refine norm_ (a' := ?_) ?_ ?_
  rotate_left
  · show Act.put _ (some _) _ = _
    simp only [Act.put, List.setIfInBounds_toArray, List.set_cons_zero, List.set_cons_succ, i64_w, i32_w]
    rfl
  refine one_ (i := 3) (N := (some 18)) #[true, true, true, true, false] rfl rfl (by kernel_rfl) (by decide) (fun K hK => ?_)
  refine call_ 54 #[frA (r, c, l), .int .i64 p, .pointer (some ⟨Bk, 0, none⟩), .pointer (some ⟨Bc, 0, none⟩)] (by rfl) rfl ?_ ?_
  · have he := enters_ Tryd.func54 (by kernel_rfl) rfl #[frA (r, c, l), .int .i64 p, .pointer (some ⟨Bk, 0, none⟩), .pointer (some ⟨Bc, 0, none⟩)] w3
    unfold execOp
    simp [resolve, Deferred.ofValue, invoke, Act.eval, he, frA] <;> exact he
  have hs2 := HB2.out.size
  have hs3 := hb3.size
  have hbw : w.heap.size ≤ w3.heap.size := Nat.le_trans hs2 hs3
  refine (HC.out Bk Bc M w.heap.size w3 (Nat.le_trans hs2 hbM) hX3 hM3 hbw).mono ?_
  rintro e w4 ⟨rfl, hk4, hb4, hm4⟩
  refine ⟨_, rfl, ?_⟩
  refine hK.out _ _ ((hk4.2 _ (Array.getElem?_eq_some_iff.1 hHeld).1 (fun e => Nat.lt_irrefl _ (Nat.lt_of_lt_of_le (Array.getElem?_eq_some_iff.1 HF1.out).1 (e ▸ hbM)))).trans hHeld) (fun hHeld => ?_)
  clear hK K
  have HB4 := Aside0.mk (((below_drew1 (pw_below_drewN HB2.out nd)).trans (hb3.mono hs2)).trans hb4)
  clear hs2 hs3 hbw hk4 hb4 hm4 hX3 hM3 hbM hb3
  refine norm_ (a' := ?_) ?_ ?_
  rotate_left
  · show Act.put _ (some _) _ = _
    simp only [Act.put, List.setIfInBounds_toArray, List.set_cons_zero, List.set_cons_succ, i64_w, i32_w]
    rfl
  refine pure_ (i := 4) (N := (some 6)) (v := ?_) (a' := ?_) #[true, true, true, true, true] rfl rfl (by kernel_rfl) (fun _ _ _ h => h) (Or.inl ⟨by rfl, ?_⟩) ?_ ?_
  rotate_left
  · intro w'
    go_simp
    with_reducible rfl
  rotate_left
  · simp only [Act.put, List.setIfInBounds_toArray, List.set_cons_zero, List.set_cons_succ, i64_w, i32_w]
    rfl
  refine done_ (by kernel_rfl) ?_
  by_cases hx : X > 1000000000000000
  · have u : decide (1000000000000000 < X) = true := decide_eq_true hx
    go_wp2
    go_ret2
    exact ⟨by rw [HBY.out, if_pos (by omega)]; rfl, HB4.out⟩
  · have u : decide (1000000000000000 < X) = false := decide_eq_false hx
    go_wp2
    go_ret2
    exact ⟨by rw [HBY.out, if_neg (by omega)]; rfl, HB4.out⟩
theorem byPoints_calls (r : Int) (c : Bool) (l p : Int) (w wz : World) (t : Bool) (hf : t = true → okFr (r, c, l)) (HNext : NextC wz) (HPot : PotC wz)
    (HIs : ∀ w1, Calls Tryd.prog 31 #[frA (r, c, l)] w1 fun e w' => e = .returned (.bool t) ∧ Below w1.heap.size w1 w')
    (HIn : ∀ w1, Calls Tryd.prog 32 #[.int .i64 p, .int .i64 0, .int .i64 147] w1 fun e w' => e = .returned (.bool (decide (0 ≤ p ∧ p ≤ 147))) ∧ Drawn0 w1 w') :
    Calls Tryd.prog 8 #[.agg #[.int .i64 r, .bool c, .int .i64 l], .int .i64 p] w fun e w' => e = .returned (.tuple #[.int .i64 (byP t (r, c, l) p).1, .bool (byP t (r, c, l) p).2]) ∧ Below w.heap.size w w' := by
  by_cases h : t = true ∧ 0 ≤ p ∧ p ≤ 147
  · obtain ⟨rfl, p0, p1⟩ := h
    exact byPoints_yes r c l p w wz p0 p1 (hf rfl) HNext HPot HIs HIn
  · have e : byP t (r, c, l) p = (0, false) := if_neg h
    rw [e]
    exact byPoints_no r c l p w t h HIs HIn
def okB (f : Fr) : Bool := decide ((0 ≤ f.1 ∧ f.1 ≤ 15) ∧ 2 ≤ f.2.2 ∧ f.2.2 ≤ 8)
theorem okB_ok {f : Fr} (h : okB f = true) : okFr f := by unfold okB at h; unfold okFr; simpa using h
def byO (f : Fr) (p : Int) (t : Bool) : Option (Int × Bool) := if t = true ∧ okB f = false then none else some (byP t f p)
theorem byO_calls (r : Int) (c : Bool) (l p : Int) (w wz : World) (t : Bool) (r1 : Int) (r2 : Bool) (HNext : NextC wz) (HPot : PotC wz)
    (HIs : ∀ w1, Calls Tryd.prog 31 #[frA (r, c, l)] w1 fun e w' => e = .returned (.bool t) ∧ Below w1.heap.size w1 w')
    (HIn : ∀ w1, Calls Tryd.prog 32 #[.int .i64 p, .int .i64 0, .int .i64 147] w1 fun e w' => e = .returned (.bool (decide (0 ≤ p ∧ p ≤ 147))) ∧ Drawn0 w1 w')
    (h : byO (r, c, l) p t = some (r1, r2)) :
    Calls Tryd.prog 8 #[.agg #[.int .i64 r, .bool c, .int .i64 l], .int .i64 p] w fun e w' => e = .returned (.tuple #[.int .i64 r1, .bool r2]) ∧ Below w.heap.size w w' := by
  unfold byO at h
  split at h
  · cases h
  · rename_i hk
    have h1 := Option.some.inj h
    have hc := byPoints_calls r c l p w wz t (fun ht => okB_ok (by cases hb : okB (r, c, l) with | true => rfl | false => exact absurd ⟨ht, hb⟩ hk)) HNext HPot HIs HIn
    rw [h1] at hc
    exact hc
end Go.Proofs.YtcmlmjgoidpabaaDoor.Brk

