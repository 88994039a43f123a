/- The closure that counts breaks, walked: for frames with at most 15 reds and at most 147 points. -/
import Derived.Test.YtcmlmjgoidpabaaDoorZBrkMemo
set_option linter.unusedVariables false
set_option linter.unusedSimpArgs false
namespace Go.Proofs.YtcmlmjgoidpabaaDoor.Brk
open Go.RowKit Go.Proofs.YtcmlmjgoidpabaaDoorW.PrintWords Go.Proofs.YtcmlmjgoidpabaaDoorW.PrintLast
structure BCtx (w : World) (Bk Bc M : Nat) : Prop where
  ck : w.cell? ⟨Bk, 0, none⟩ = some (.map (some M))
  cc : w.cell? ⟨Bc, 0, none⟩ = some (.func (.func 54) #[] #[.pointer (some ⟨Bk, 0, none⟩), .pointer (some ⟨Bc, 0, none⟩)])
  nk : Bk ≠ M
  nc : Bc ≠ M
theorem BCtx.kept {w w' : World} {Bk Bc M : Nat} {S : Nat → Prop} (h : BCtx w Bk Bc M) (hk : Kept w w' S) (hS : ∀ k, S k → k = M) : BCtx w' Bk Bc M :=
  ⟨cell_kept h.ck hk (fun e => h.nk (hS _ e)), cell_kept h.cc hk (fun e => h.nc (hS _ e)), h.nk, h.nc⟩
def CPost (v : Int) (M base : Nat) (w : World) (e : Ending) (w' : World) : Prop := e = .returned (.int .i64 v) ∧ Kept w w' (fun k => k = M) ∧ Below base w w' ∧ HasMemo w' M
theorem HasMemo.lt {w : World} {M : Nat} (h : HasMemo w M) : M < w.heap.size := by
  obtain ⟨es, clock, h⟩ := h
  exact (Array.getElem?_eq_some_iff.1 h.hb).1
theorem cell_two {w : World} {a : Addr} {v : Value} (h : w.cell? a = some v) (o o' : Obj) : ((w.alloc o).alloc o').cell? a = some v :=
  pw_cell_below (below_alloc (below_alloc (Below.refl w.heap.size w) o) o') h
theorem heap_two {w : World} {M : Nat} {o : Obj} (h : w.heap[M]? = some o) (a b : Obj) : ((w.alloc a).alloc b).heap[M]? = some o := by
  have hM := (Array.getElem?_eq_some_iff.1 h).1
  exact ((below_alloc (below_alloc (Below.refl w.heap.size w) a) b).block M hM).trans h
set_option maxRecDepth 100000 in
set_option maxHeartbeats 8000000 in
theorem count_le (Bk Bc M base : Nat) (r : Int) (c : Bool) (l p : Int) (w : World) (hp : p ≤ 0) (hM : HasMemo w M) (hbs : base ≤ w.heap.size) :
    Calls Tryd.prog 54 #[.agg #[.int .i64 r, .bool c, .int .i64 l], .int .i64 p, .pointer (some ⟨Bk, 0, none⟩), .pointer (some ⟨Bc, 0, none⟩)] w (CPost (cnt p.toNat (r, c, l) p) M base w) := by
  rw [cnt_le hp]
  have HE : ∀ o, Kept w (w.alloc o) (fun k => k = M) ∧ Below base w (w.alloc o) ∧ HasMemo (w.alloc o) M := fun o =>
    ⟨Kept.of_below (below_alloc (Below.refl _ _) o) _, (below_alloc (Below.refl w.heap.size w) o).mono hbs, hM.at ((below_alloc (Below.refl w.heap.size w) o).block M hM.lt)⟩
  have HE := Aside0.mk HE
  have u1 : decide (p ≤ 0) = true := decide_eq_true hp
  clear hM hbs
  by_cases h0 : p = 0
  · subst h0
    rw [if_pos rfl]
    clear hp
    go_enter Tryd.func54, Tryd.ntmps54
    go_wp2
    go_ret
    unfold CPost
    exact ⟨rfl, HE.out _⟩
  · rw [if_neg h0]
    have u2 : (p == 0) = false := by simpa using h0
    clear h0
    go_enter Tryd.func54, Tryd.ntmps54
    go_wp2
    go_ret
    unfold CPost
    exact ⟨rfl, HE.out _⟩
set_option maxRecDepth 100000 in
set_option maxHeartbeats 8000000 in
theorem count_known (Bk Bc M base : Nat) (r : Int) (c : Bool) (l p : Int) (w : World) (hp : 0 < p) (hX : BCtx w Bk Bc M) (es : Array MapEntry) (clock : Nat) (hm : w.heap[M]? = some (.map es clock)) (hM : HasMemo w M) (hbs : base ≤ w.heap.size) (v : Int)
    (hlk : ∀ w' : World, w'.heap[M]? = some (.map es clock) → (Instr.lookup 72 (.map (some M)) (keyV (r, c, l) p) true).run Tryd.prog w' = .ok (.tuple #[.int .i64 v, .bool true]) w') :
    Calls Tryd.prog 54 #[.agg #[.int .i64 r, .bool c, .int .i64 l], .int .i64 p, .pointer (some ⟨Bk, 0, none⟩), .pointer (some ⟨Bc, 0, none⟩)] w (CPost v M base w) := by
  have HE : ∀ o o', Kept w ((w.alloc o).alloc o') (fun k => k = M) ∧ Below base w ((w.alloc o).alloc o') ∧ HasMemo ((w.alloc o).alloc o') M := fun o o' =>
    have hb := below_alloc (below_alloc (Below.refl w.heap.size w) o) o'
    ⟨Kept.of_below hb _, hb.mono hbs, hM.at (hb.block M hM.lt)⟩
  have HE := Aside0.mk HE
  have HL := Aside0.mk (fun o o' => hlk ((w.alloc o).alloc o') (heap_two hm o o'))
  have u1 : decide (p ≤ 0) = false := decide_eq_false (by omega)
  have ck := cell_two hX.ck
  have hu26 := Tryd.underlying25
  have hu72 := Tryd.underlying72
  have hu75 := Tryd.underlying75
  clear hM hbs hlk hm hX hp
  go_enter Tryd.func54, Tryd.ntmps54
  go_wp2_with (at_lookup; refine wpList_look_run _ rfl _ _ _ rfl _ _ _ rfl rfl (HL.out _ _) ?_)
  go_ret
  unfold CPost
  exact ⟨rfl, HE.out _ _⟩
theorem alloc_here (w : World) (o : Obj) : (w.alloc o).heap[w.heap.size]? = some o := by
  show (w.heap.push o)[w.heap.size]? = _
  simp
theorem alloc_one (w : World) (o : Obj) : (w.alloc o).heap.size = w.heap.size + 1 := by
  show (w.heap.push o).size = _
  simp
def frA (f : Fr) : Value := .agg #[.int .i64 f.1, .bool f.2.1, .int .i64 f.2.2]
set_option maxRecDepth 100000 in
set_option maxHeartbeats 8000000 in
theorem count_new (Bk Bc M base : Nat) (r : Int) (c : Bool) (l p : Int) (w : World) (hf : okFr (r, c, l)) (hp : 0 < p) (hp1 : p ≤ 147) (hX : BCtx w Bk Bc M) (es : Array MapEntry) (clock : Nat) (hm : Memo w M es clock) (hbs : base ≤ w.heap.size) (hbM : base ≤ M)
    (hlk : ∀ w' : World, w'.heap[M]? = some (.map es clock) → (Instr.lookup 72 (.map (some M)) (keyV (r, c, l) p) true).run Tryd.prog w' = .ok (.tuple #[.int .i64 0, .bool false]) w')
    (HNext : ∀ (f : Fr) (w1 : World), okFr f → Calls Tryd.prog 33 #[frA f] w1 fun e w' => e = .returned (.string (nextS f)) ∧ Below w1.heap.size w1 w')
    (HPot : ∀ (f : Fr) (w1 : World), okFr f → ballsF f ≠ [] → Calls Tryd.prog 34 #[frA f] w1 fun e w' => e = .returned (frA (potF f)) ∧ Below w1.heap.size w1 w')
    (ih : ∀ (q : Int) (w1 : World), q < p → -7 ≤ q → okFr (potF (r, c, l)) → BCtx w1 Bk Bc M → HasMemo w1 M → base ≤ w1.heap.size →
      Calls Tryd.prog 54 #[frA (potF (r, c, l)), .int .i64 q, .pointer (some ⟨Bk, 0, none⟩), .pointer (some ⟨Bc, 0, none⟩)] w1 (CPost (cnt q.toNat (potF (r, c, l)) q) M base w1)) :
    Calls Tryd.prog 54 #[.agg #[.int .i64 r, .bool c, .int .i64 l], .int .i64 p, .pointer (some ⟨Bk, 0, none⟩), .pointer (some ⟨Bc, 0, none⟩)] w (CPost (cnt p.toNat (r, c, l) p) M base w) := by
  have HW := Aside0.mk (And.intro hm (And.intro hX (And.intro hbs hbM)))
  have HL := Aside0.mk (fun o o' => hlk ((w.alloc o).alloc o') (heap_two hm.hb o o'))
  have HV := Aside0.mk (cnt_pos hf hp)
  have HF := Aside0.mk (And.intro hf (And.intro hp hp1))
  have HN := Aside0.mk (fun w1 => HNext (r, c, l) w1 hf)
  have HP := Aside0.mk (fun w1 => HPot (r, c, l) w1 hf)
  have HI := Aside0.mk ih
  have u1 : decide (p ≤ 0) = false := decide_eq_false (by omega)
  have ck := cell_two hX.ck
  have hu26 := Tryd.underlying25
  have hu72 := Tryd.underlying72
  have hu75 := Tryd.underlying75
  generalize hVe : cnt p.toNat (r, c, l) p = V at *
  have HVe := Aside0.mk hVe
  clear hbs hlk hm hX HNext HPot ih hf hp hp1 hbM hVe
  go_enter Tryd.func54, Tryd.ntmps54
  go_wp2_with (first | (at_lookup; refine wpList_look_run _ rfl _ _ _ rfl _ _ _ rfl rfl (HL.out _ _) ?_) | (go_at_call 33; refine (HN.out _).mono ?_; rintro e w3 ⟨rfl, hb3⟩; have HB3 := Aside0.mk hb3; clear hb3))
  have hI0 : (w3.alloc (.stringIter (nextS (r, c, l)) 0)).heap[w3.heap.size]? = some (.stringIter (nextS (r, c, l)) 0) := World.iter_heap w3 _ 0
  have hsz := nextS_size (r, c, l)
  have hln := balls_len (r, c, l)
  have hW3 : Below w.heap.size w (w3.alloc (.stringIter (nextS (r, c, l)) 0)) := below_alloc ((below_alloc (below_alloc (Below.refl w.heap.size w) _) _).trans (HB3.out.mono (by rw [alloc_one, alloc_one]; omega))) _
  have hs3 : w.heap.size + 2 ≤ w3.heap.size := by have h := HB3.out.size; rw [alloc_one, alloc_one] at h; omega
  have hfr : (w3.alloc (.stringIter (nextS (r, c, l)) 0)).heap[w.heap.size]? = some (.cells #[.int .i64 r, .bool c, .int .i64 l] 25 (0, 0)) := by
    rw [(below_alloc (Below.refl w3.heap.size w3) _).block _ (by omega), HB3.out.block _ (by rw [alloc_one, alloc_one]; omega), (below_alloc (Below.refl (w.alloc (.cells #[.int .i64 r, .bool c, .int .i64 l] 25)).heap.size _) _).block w.heap.size (by rw [alloc_one]; omega)]
    exact alloc_here _ _
  have hky : (w3.alloc (.stringIter (nextS (r, c, l)) 0)).heap[w.heap.size + 1]? = some (.cells #[.int .i64 r, .bool c, .int .i64 l, .int .i64 p] 75 (0, 0)) := by
    rw [(below_alloc (Below.refl w3.heap.size w3) _).block _ (by omega), HB3.out.block _ (by rw [alloc_one, alloc_one]; omega), ← alloc_one w (.cells #[.int .i64 r, .bool c, .int .i64 l] 25)]
    exact alloc_here _ _
  have HFr := Aside0.mk hfr
  have HKy := Aside0.mk hky
  have HW3 := Aside0.mk hW3
  have HS3 := Aside0.mk hs3
  have HLN := Aside0.mk (And.intro hsz hln)
  have HI0 := Aside0.mk hI0
  clear hfr hky hW3 hs3 hsz hln hI0 HL ck HB3
  change Code.wp _ _ _ _ (w3.alloc (.stringIter (nextS (r, c, l)) 0)) at *
  generalize hW3e : w3.alloc (.stringIter (nextS (r, c, l)) 0) = W3 at *
  clear hW3e
  have HM3 := Aside0.mk ((show HasMemo w M from ⟨es, clock, HW.out.1⟩).at (HW3.out.block M (show HasMemo w M from ⟨es, clock, HW.out.1⟩).lt))
  have hMl : M < w.heap.size := (show HasMemo w M from ⟨es, clock, HW.out.1⟩).lt
  have HML := Aside0.mk hMl
  have HB0 := Aside0.mk (HW3.out.mono HW.out.2.2.1)
  clear hMl
  go_loopg [10] ((ballsF (r, c, l)).length + 1) (fun kq v10 wx => ∃ (i : Nat) (a : Int), v10 = .int .i64 a ∧ Aside0 (i + kq = (ballsF (r, c, l)).length + 1 ∧ i ≤ (ballsF (r, c, l)).length) ∧ Aside0 (0 ≤ a ∧ a ≤ capN) ∧
    Aside0 (((ballsF (r, c, l)).drop i).foldl (fun a b => stepN a (cnt (p - b).toNat (potF (r, c, l)) (p - b))) a = V) ∧ Aside0 (wx.heap[w3.heap.size]? = some (.stringIter (nextS (r, c, l)) i)) ∧ Aside0 (Kept W3 wx (fun k => k = M ∨ k = w3.heap.size)) ∧ Aside0 (Below base w wx) ∧ Aside0 (HasMemo wx M))
  case atStart => exact ⟨0, 0, rfl, ⟨by omega⟩, ⟨by unfold capN; omega⟩, ⟨HV.out.symm⟩, HI0, ⟨Kept.refl _ _⟩, HB0, HM3⟩
  case round =>
    clear HI0 HM3 HB0
    obtain ⟨i, a, rfl, HJ, HA, HQ, HIt, HK, HB, HM⟩ := hrel
    have hXr : BCtx wr Bk Bc M := by
      have h0 := HW.out.2.1
      have hb : w.heap.size ≤ W3.heap.size := HW3.out.size
      have e : ∀ k, k < w.heap.size → k ≠ M → wr.heap[k]? = w.heap[k]? := fun k hk hn => (HK.out.2 k (Nat.lt_of_lt_of_le hk hb) (by have := HS3.out; omega)).trans (HW3.out.block k hk)
      have a1 := World.block_lt_of_cell? _ _ h0.ck
      have a2 := World.block_lt_of_cell? _ _ h0.cc
      exact ⟨by rw [← h0.ck]; exact World.cell?_of_block (e Bk a1 h0.nk), by rw [← h0.cc]; exact World.cell?_of_block (e Bc a2 h0.nc), h0.nk, h0.nc⟩
    have hFr : wr.heap[w.heap.size]? = some (.cells #[.int .i64 r, .bool c, .int .i64 l] 25 (0, 0)) := by
      rw [HK.out.2 _ (by have := (Array.getElem?_eq_some_iff.1 HFr.out).1; exact this) (by have := HML.out; have := HS3.out; omega)]
      exact HFr.out
    by_cases hi : i < (ballsF (r, c, l)).length
    · have hsi : i < (nextS (r, c, l)).size := by rw [nextS_size]; exact hi
      have hbb := balls_in HF.out.1 _ (List.getElem_mem hi)
      have hat := nextS_at HF.out.1 i hi
      have hdr : ((ballsF (r, c, l)).drop i).foldl (fun a b => stepN a (cnt (p - b).toNat (potF (r, c, l)) (p - b))) a = ((ballsF (r, c, l)).drop (i + 1)).foldl (fun a b => stepN a (cnt (p - b).toNat (potF (r, c, l)) (p - b))) (stepN a (cnt (p - (ballsF (r, c, l))[i]).toNat (potF (r, c, l)) (p - (ballsF (r, c, l))[i]))) := by
        rw [List.drop_eq_getElem_cons hi]
        rfl
      have hnx : ∀ ty, (Instr.next (.pointer (some ⟨w3.heap.size, 0, none⟩)) true ty).run Tryd.prog wr = .ok (.tuple #[.bool true, .int .i64 i, .int .i32 ((ballsF (r, c, l))[i] + 48)]) (iterTo wr w3.heap.size (nextS (r, c, l)) (i + 1)) := fun ty => by
        rw [run_next_at wr w3.heap.size (nextS (r, c, l)) i ty HIt.out hsi (by omega)]
        rw [show (((nextS (r, c, l))[i].toNat : Nat) : Int) = (ballsF (r, c, l))[i] + 48 by omega]
      have HNE := Aside0.mk (List.ne_nil_of_mem (List.getElem_mem hi))
      rw [hdr] at HQ
      generalize hbe : (ballsF (r, c, l))[i] = b at *
      have HIn := Aside0.mk (iterTo_here (s := nextS (r, c, l)) (pos := i + 1) (Array.getElem?_eq_some_iff.1 HIt.out).1)
      have hkn := iterTo_kept wr w3.heap.size (nextS (r, c, l)) (i + 1)
      have hbn := iterTo_below wr w3.heap.size (nextS (r, c, l)) (i + 1) base (by have := HS3.out; have := HW.out.2.2.1; omega)
      have HKn := Aside0.mk (HK.out.then_ hkn (fun _ h_ => Or.inl (Or.inr h_)))
      have HBn := Aside0.mk (HB.out.trans hbn)
      have HMn := Aside0.mk (HM.out.at (hkn.2 M HM.out.lt (by have := HML.out; have := HS3.out; omega)))
      have HXn : Aside0 (BCtx (iterTo wr w3.heap.size (nextS (r, c, l)) (i + 1)) Bk Bc M) := by
        have h0 := HW.out.2.1
        have a1 := World.block_lt_of_cell? _ _ h0.ck
        have a2 := World.block_lt_of_cell? _ _ h0.cc
        have a3 := HS3.out
        simp only at a1 a2
        exact ⟨cell_kept hXr.ck hkn (by simp only; omega), cell_kept hXr.cc hkn (by simp only; omega), h0.nk, h0.nc⟩
      have HFn := Aside0.mk ((hkn.2 w.heap.size (Array.getElem?_eq_some_iff.1 hFr).1 (by have := HS3.out; omega)).trans hFr)
      generalize iterTo wr w3.heap.size (nextS (r, c, l)) (i + 1) = wn at *
      have HBB := Aside0.mk hbb
      clear hdr hat hsi hkn hbn hXr hFr HIt HK HB HM hbe
      have c1 : IntKind.i32.wrap b = b := by rw [i32_w]; unfold Go.RowKit.wrap32; omega
      have c2 : IntKind.i64.wrap b = b := by rw [i64_w]; unfold Go.RowKit.wrap64; omega
      have c3 : IntKind.i64.wrap (p - b) = p - b := by have := HF.out; rw [i64_w]; unfold Go.RowKit.wrap64; omega
      clear hbb
      have hcx := cnt_in (p - b).toNat (potF (r, c, l)) (p - b)
      generalize hXe : cnt (p - b).toNat (potF (r, c, l)) (p - b) = X at *
      have HXX := Aside0.mk hcx
      have c4 : IntKind.i64.wrap (a + X) = a + X := by have := HA.out; unfold capN at *; rw [i64_w]; unfold Go.RowKit.wrap64; omega
      have HXe := Aside0.mk hXe
      clear hcx hXe
      go_wp2
      refine start_ (n := 13) (S := fun w' => w'.cell? ⟨Bc, 0, none⟩ = some (.func (.func 54) #[] #[.pointer (some ⟨Bk, 0, none⟩), .pointer (some ⟨Bc, 0, none⟩)]) ∧ w'.heap[w.heap.size]? = some (.cells #[.int .i64 r, .bool c, .int .i64 l] 25 (0, 0))) (ds := []) #[false, false, false, false, false, false, false, false, false, false, false, false, false] (by kernel_rfl) rfl rfl ⟨HXn.out.cc, HFn.out⟩ (fun hHeld => ?_)
      refine pure_ (i := 0) (N := (some 35)) (v := ?_) (a' := ?_) #[true, false, false, false, false, false, false, false, false, false, false, false, false] rfl rfl (by kernel_rfl) (fun _ _ _ h => h) (Or.inl ⟨by rfl, ?_⟩) ?_ ?_
      rotate_left
      · intro w'
        go_simp
        with_reducible rfl
      rotate_left
      · simp only [Act.put, List.setIfInBounds_toArray, List.set_cons_zero, List.set_cons_succ, i64_w, i32_w]
        rfl
      refine pure_ (i := 4) (N := (some 39)) (v := ?_) (a' := ?_) #[true, false, false, false, true, false, false, false, false, false, false, false, false] rfl rfl (by kernel_rfl) (fun _ _ _ h => h) (Or.inl ⟨by rfl, ?_⟩) ?_ ?_
      rotate_left
      · intro w'
        go_simp
        with_reducible rfl
      rotate_left
      · simp only [Act.put, List.setIfInBounds_toArray, List.set_cons_zero, List.set_cons_succ, i64_w, i32_w]
        rfl
      refine pure_ (i := 5) (N := (some 40)) (v := ?_) (a' := ?_) #[true, false, false, false, true, true, false, false, false, false, false, false, false] rfl rfl (by kernel_rfl) (fun _ _ _ h => h) (Or.inl ⟨by rfl, ?_⟩) ?_ ?_
      rotate_left
      · intro w'
        go_simp
        with_reducible rfl
      rotate_left
      · simp only [Act.put, List.setIfInBounds_toArray, List.set_cons_zero, List.set_cons_succ, i64_w, i32_w]
        rfl
      refine pure_ (i := 6) (N := (some 41)) (v := ?_) (a' := ?_) #[true, false, false, false, true, true, true, false, false, false, false, false, false] rfl rfl (by kernel_rfl) (fun _ _ _ h => h) (Or.inl ⟨by rfl, ?_⟩) ?_ ?_
      rotate_left
      · intro w'
        go_simp
        with_reducible rfl
      rotate_left
      · simp only [Act.put, List.setIfInBounds_toArray, List.set_cons_zero, List.set_cons_succ, i64_w, i32_w]
        rfl
      refine pure_ (i := 7) (N := (some 42)) (v := ?_) (a' := ?_) #[true, false, false, false, true, true, true, true, false, false, false, false, false] rfl rfl (by kernel_rfl) (fun _ _ _ h => h) (Or.inl ⟨by rfl, ?_⟩) ?_ ?_
      rotate_left
      · intro w'
        go_simp
        with_reducible rfl
      rotate_left
      · simp only [Act.put, List.setIfInBounds_toArray, List.set_cons_zero, List.set_cons_succ, i64_w, i32_w]
        rfl
      refine pure_ (i := 8) (N := (some 43)) (v := ?_) (a' := ?_) #[true, false, false, false, true, true, true, true, true, false, false, false, false] rfl rfl (by kernel_rfl) (fun _ _ _ h => h) (Or.inl ⟨by rfl, ?_⟩) ?_ ?_
      rotate_left
      · intro w'
        go_simp
        with_reducible rfl
      rotate_left
      · simp only [Act.put, List.setIfInBounds_toArray, List.set_cons_zero, List.set_cons_succ, i64_w, i32_w]
        rfl
      refine take_ (i := 1) (N := (some 36)) (v := ?_) (a' := ?_) #[true, true, false, false, true, true, true, true, true, false, false, false, false] rfl rfl (by kernel_rfl) (fun _ _ _ h => h) (Or.inl ⟨by rfl, ?_⟩) hHeld ?_ ?_
      rotate_left
      · intro w' s0
        have z0 := s0.1
        go_simp
        with_reducible rfl
      rotate_left
      · simp only [Act.put, List.setIfInBounds_toArray, List.set_cons_zero, List.set_cons_succ, i64_w, i32_w]
        rfl
      refine take_ (i := 2) (N := (some 37)) (v := ?_) (a' := ?_) #[true, true, true, false, true, true, true, true, true, false, false, false, false] rfl rfl (by kernel_rfl) (fun _ _ _ h => h) (Or.inl ⟨by rfl, ?_⟩) hHeld ?_ ?_
      rotate_left
      · intro w' s0
        have z0 := (blk_cell s0.2 0).trans rfl
        have z1 := (blk_cell s0.2 1).trans rfl
        have z2 := (blk_cell s0.2 2).trans rfl
        go_simp
        with_reducible rfl
      rotate_left
      · simp only [Act.put, List.setIfInBounds_toArray, List.set_cons_zero, List.set_cons_succ, i64_w, i32_w]
        rfl
      refine one_ (i := 3) (N := (some 38)) #[true, true, true, true, true, true, true, true, true, false, false, false, false] rfl rfl (by kernel_rfl) (by decide) (fun K hK => ?_)
      refine goes_ Tryd.func34 (by kernel_rfl) rfl #[frA (r, c, l)] (by rfl) rfl rfl (by (try simp only [List.map_toArray, List.map_cons, List.map_nil]); first | done | rfl) ?_
      refine (HP.out _ HNE.out).mono ?_
      rintro e w5 ⟨rfl, hb5⟩
      refine ⟨_, rfl, ?_⟩
      refine hK.out _ _ ⟨pw_cell_below hb5 hHeld.1, blk_below hHeld.2 hb5⟩ (fun hHeld => ?_)
      clear hK K
      refine norm_ (a' := ?_) ?_ ?_
      rotate_left
      · show Act.put _ (some _) _ = _
        simp only [Act.put, List.setIfInBounds_toArray, List.set_cons_zero, List.set_cons_succ, i64_w, i32_w]
        rfl
      refine one_ (i := 9) (N := (some 44)) #[true, true, true, true, true, true, true, true, true, true, false, false, false] rfl rfl (by kernel_rfl) (by decide) (fun K hK => ?_)
      refine call_ 54 #[frA (potF (r, c, l)), .int .i64 (p - b), .pointer (some ⟨Bk, 0, none⟩), .pointer (some ⟨Bc, 0, none⟩)] (by rfl) rfl ?_ ?_
      · have he := enters_ Tryd.func54 (by kernel_rfl) rfl #[frA (potF (r, c, l)), .int .i64 (p - b), .pointer (some ⟨Bk, 0, none⟩), .pointer (some ⟨Bc, 0, none⟩)] w5
        have d1 : Go.RowKit.wrap32 b = b := by rw [← i32_w]; exact c1
        have d2 : Go.RowKit.wrap64 b = b := by rw [← i64_w]; exact c2
        have d3 : Go.RowKit.wrap64 (p - b) = p - b := by rw [← i64_w]; exact c3
        unfold execOp
        simp [resolve, Deferred.ofValue, invoke, Act.eval, d1, d2, d3, he]
      have hk5 := Kept.of_below hb5 (fun k => k = M)
      have hX5 := HXn.out.kept hk5 (fun _ h => h)
      have hm5 := HMn.out.at (hb5.block M HMn.out.lt)
      refine (HI.out (p - b) w5 (by have := HBB.out; omega) (by have := HBB.out; have := HF.out; omega) (pot_ok HF.out.1 HNE.out) hX5 hm5 (by have h1 := HBn.out.size; have h2 := hb5.size; have h3 := HW.out.2.2.1; exact Nat.le_trans h3 (Nat.le_trans h1 h2))).mono ?_
      rw [HXe.out]
      rintro e w6 ⟨rfl, hk6, hb6, hm6⟩
      refine ⟨_, rfl, ?_⟩
      refine hK.out _ _ ⟨(hX5.kept hk6 (fun _ h => h)).cc, (hk6.2 _ (Array.getElem?_eq_some_iff.1 hHeld.2).1 (by have := HML.out; omega)).trans hHeld.2⟩ (fun hHeld => ?_)
      clear hK K
      have HKm := Aside0.mk ((HKn.out.then_ hk5 (fun _ h_ => Or.inl (Or.inl h_))).then_ hk6 (fun _ h_ => Or.inl (Or.inl h_)))
      have HBm := Aside0.mk (((below_drew1 HBn.out).trans (hb5.mono (Nat.le_trans HW.out.2.2.1 HBn.out.size))).trans hb6)
      have HMm := Aside0.mk hm6
      have HIm := Aside0.mk ((hk6.2 w3.heap.size (Nat.lt_of_lt_of_le (Array.getElem?_eq_some_iff.1 HIn.out).1 hb5.size) (by have := HML.out; have := HS3.out; omega)).trans ((hb5.block w3.heap.size (Array.getElem?_eq_some_iff.1 HIn.out).1).trans HIn.out))
      clear hk5 hX5 hm5 hk6 hb6 hm6 hb5
      refine norm_ (a' := ?_) ?_ ?_
      rotate_left
      · show Act.put _ (some _) _ = _
        simp only [Act.put, List.setIfInBounds_toArray, List.set_cons_zero, List.set_cons_succ, i64_w, i32_w]
        rfl
      refine pure_ (i := 10) (N := (some 45)) (v := ?_) (a' := ?_) #[true, true, true, true, true, true, true, true, true, true, true, false, false] rfl rfl (by kernel_rfl) (fun _ _ _ h => h) (Or.inl ⟨by rfl, ?_⟩) ?_ ?_
      rotate_left
      · intro w'
        go_simp
        with_reducible rfl
      rotate_left
      · simp only [Act.put, List.setIfInBounds_toArray, List.set_cons_zero, List.set_cons_succ, i64_w, i32_w]
        rfl
      refine pure_ (i := 11) (N := (some 46)) (v := ?_) (a' := ?_) #[true, true, true, true, true, true, true, true, true, true, true, true, false] rfl rfl (by kernel_rfl) (fun _ _ _ h => h) (Or.inl ⟨by rfl, ?_⟩) ?_ ?_
      rotate_left
      · intro w'
        go_simp
        with_reducible rfl
      rotate_left
      · simp only [Act.put, List.setIfInBounds_toArray, List.set_cons_zero, List.set_cons_succ, i64_w, i32_w]
        rfl
      refine pure_ (i := 12) (N := (some 10)) (v := ?_) (a' := ?_) #[true, true, true, true, true, true, true, true, true, true, true, true, true] rfl rfl (by kernel_rfl) (fun _ _ _ h => h) (Or.inl ⟨by rfl, ?_⟩) ?_ ?_
      rotate_left
      · intro w'
        go_simp
        with_reducible rfl
      rotate_left
      · simp only [Act.put, List.setIfInBounds_toArray, List.set_cons_zero, List.set_cons_succ, i64_w, i32_w]
        rfl
      refine done_ (by kernel_rfl) ?_
      go_wp2
      all_goals
        go_roundg (gk - 1)
        case measure => have := HJ.out; omega
        case rel => exact ⟨i + 1, stepN a X, congrArg (Value.int .i64) (by unfold stepN capN; split <;> omega), ⟨by have := HJ.out; omega⟩, ⟨step_in HA.out.1 HXX.out.1⟩, ⟨HQ.out⟩, HIm, HKm, HBm, HMm⟩
    · have hil : i = (ballsF (r, c, l)).length := by have := HJ.out; omega
      have hav : a = V := by
        have h := HQ.out
        rw [List.drop_of_length_le (by omega)] at h
        exact h
      subst hav
      have hnx : ∀ ty, (Instr.next (.pointer (some ⟨w3.heap.size, 0, none⟩)) true ty).run Tryd.prog wr = .ok (.tuple #[.bool false]) wr := fun ty => run_next_stop wr w3.heap.size (nextS (r, c, l)) i ty HIt.out (by rw [nextS_size]; exact hi)
      have hKr : wr.heap[w.heap.size + 1]? = some (.cells #[.int .i64 r, .bool c, .int .i64 l, .int .i64 p] 75 (0, 0)) := by
        rw [HK.out.2 _ (by have := (Array.getElem?_eq_some_iff.1 HKy.out).1; exact this) (by have := HML.out; have := HS3.out; omega)]
        exact HKy.out
      have z0 : wr.cell? ⟨w.heap.size + 1, 0, none⟩ = some (.int .i64 r) := (blk_cell hKr 0).trans rfl
      have z1 : wr.cell? ⟨w.heap.size + 1, 1, none⟩ = some (.bool c) := (blk_cell hKr 1).trans rfl
      have z2 : wr.cell? ⟨w.heap.size + 1, 2, none⟩ = some (.int .i64 l) := (blk_cell hKr 2).trans rfl
      have z3 : wr.cell? ⟨w.heap.size + 1, 3, none⟩ = some (.int .i64 p) := (blk_cell hKr 3).trans rfl
      have ck := hXr.ck
      obtain ⟨es9, clock9, hm9⟩ := HM.out
      obtain ⟨w9, hrun9, hmm9, hg9⟩ := memo_store hm9 (r, c, l) p HF.out.1 HF.out.2.1 HF.out.2.2
      have hk9 := Kept.of_grown (S := fun k => k = M) hg9 (Kept.refl wr _) (fun k_ e_ => Or.inl (by injection e_ with e_; exact e_.symm))
      rw [HVe.out] at hrun9
      have HR9 := Aside0.mk hrun9
      have HP9 : Aside0 (CPost a M base w (.returned (.int .i64 a)) w9) := by
        have h4 := HK.out.then_ hk9 (fun _ h_ => Or.inl (Or.inl h_))
        have hbs : w.heap.size ≤ W3.heap.size := HW3.out.size
        refine ⟨rfl, ⟨Nat.le_trans hbs h4.1, fun k hk hn => (h4.2 k (Nat.lt_of_lt_of_le hk hbs) ?_).trans (HW3.out.block k hk)⟩, HB.out.grown hg9 ?_ ?_, hmm9⟩
        · have := HS3.out
          omega
        · exact Nat.le_trans HW.out.2.2.1 HB.out.size
        · intro k_ e_
          injection e_ with e_
          rw [← e_]
          exact HW.out.2.2.2
      have hr9 := HR9
      clear hrun9 hmm9 hg9 hk9 hm9 hKr hXr hFr hil hi hr9
      go_wp2_with (at_mapUpdate; refine wpList_upd_run _ rfl _ _ _ _ rfl _ _ _ rfl rfl rfl w9 HR9.out ?_)
      go_ret
      exact HP9.out
end Go.Proofs.YtcmlmjgoidpabaaDoor.Brk

