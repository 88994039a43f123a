/- The closure that counts games, walked: for at most ten frames. -/
import Derived.Test.YtdioconinnpmmaaPinMemo
set_option linter.unusedVariables false
set_option linter.unusedSimpArgs false
namespace Go.Proofs.Ytdioconinnpmmaa.Pin
open Go.RowKit Go.Proofs.YtdioconinnpmmaaW.PrintWords Go.Proofs.YtdioconinnpmmaaW.PrintLast
/-! ### Pins: the closure that counts -/
theorem info3 : (Try.prog.info? 3).map (fun i => (i.zero, i.size, i.bytes)) = some (some (.int .i64 0), 1, 8) := by kernel_rfl
structure PCtx (w : World) (Bk Bc M : Nat) : Prop where
  ck : w.cell? ⟨Bk, 0, none⟩ = some (.map (some M))
  cc : w.cell? ⟨Bc, 0, none⟩ = some (.func (.func 42) #[] #[.pointer (some ⟨Bk, 0, none⟩), .pointer (some ⟨Bc, 0, none⟩)])
  nk : Bk ≠ M
  nc : Bc ≠ M
theorem PCtx.kept {w w' : World} {Bk Bc M : Nat} {S : Nat → Prop} (h : PCtx w Bk Bc M) (hk : Kept w w' S) (hS : ∀ k, S k → k = M ∨ w.heap.size ≤ k) : PCtx w' Bk Bc M := by
  have a1 := World.block_lt_of_cell? _ _ h.ck
  have a2 := World.block_lt_of_cell? _ _ h.cc
  simp only at a1 a2
  refine ⟨cell_kept h.ck hk (fun e => ?_), cell_kept h.cc hk (fun e => ?_), h.nk, h.nc⟩
  · rcases hS _ e with e1 | e1
    · exact h.nk e1
    · simp only at e1; omega
  · rcases hS _ e with e1 | e1
    · exact h.nc e1
    · simp only at e1; omega
def PPost (k : Pk) (M base : Nat) (av : Nat → Prop) (w : World) (e : Ending) (w' : World) : Prop := ∃ v, e = .returned v ∧ HoldsTab w' M av v k ∧ Kept w w' (fun b => b = M) ∧ Below base w w' ∧ HasMemo w' M av
/-- A table, as a list. -/
def arrP (h : Int → Nat) : List Int := (List.range 361).map fun (t : Nat) => ((h (t : Int) : Nat) : Int)
theorem arrP_len (h : Int → Nat) : (arrP h).length = 361 := by simp [arrP]
theorem arrP_rd (h : Int → Nat) (i : Int) (h0 : 0 ≤ i) (h1 : i < 361) : rdOf (0 : Int) (arrP h) i = ((h i : Nat) : Int) := by
  obtain ⟨n, rfl⟩ : ∃ n : Nat, i = (n : Int) := ⟨i.toNat, by omega⟩
  have hn : n < 361 := by omega
  unfold rdOf arrP
  rw [Int.toNat_natCast]
  simp [hn]
theorem arrP_congr {h g : Int → Nat} (e : ∀ t : Int, 0 ≤ t → t < 361 → h t = g t) : arrP h = arrP g := by
  unfold arrP
  refine List.map_congr_left fun k hk => ?_
  have := List.mem_range.1 hk
  rw [e k (by omega) (by omega)]
theorem arrP_set (h : Int → Nat) (i : Int) (v : Nat) (h0 : 0 ≤ i) : (arrP h).set i.toNat (v : Int) = arrP (fun q => if q = i then v else h q) := by
  obtain ⟨n, rfl⟩ : ∃ n : Nat, i = (n : Int) := ⟨i.toNat, by omega⟩
  rw [Int.toNat_natCast]
  apply List.ext_getElem
  · simp [arrP]
  · intro j h1 h2
    rw [List.getElem_set]
    simp only [arrP, List.getElem_map, List.getElem_range]
    by_cases e : n = j
    · subst e; simp
    · rw [if_neg e, if_neg (by omega)]
/-- What the first j frames count. -/
def partP (L : List (List Int)) (n : Nat) (x y : Int) (j : Nat) (t : Int) : Nat := ((L.take j).map fun fr => cntP n (nextV (0, x, y) fr).2.1 (nextV (0, x, y) fr).2.2 (t - pointsV x y fr)).sum
def midP (L : List (List Int)) (n : Nat) (x y : Int) (j : Nat) (fr : List Int) (s : Nat) (t : Int) : Nat := partP L n x y j t + if t - pointsV x y fr < s then cntP n (nextV (0, x, y) fr).2.1 (nextV (0, x, y) fr).2.2 (t - pointsV x y fr) else 0
theorem partP_zero (L : List (List Int)) (n : Nat) (x y t : Int) : partP L n x y 0 t = 0 := rfl
theorem partP_succ (L : List (List Int)) (n : Nat) (x y : Int) (j : Nat) (hj : j < L.length) (t : Int) :
    partP L n x y (j + 1) t = partP L n x y j t + cntP n (nextV (0, x, y) L[j]).2.1 (nextV (0, x, y) L[j]).2.2 (t - pointsV x y L[j]) := by
  unfold partP
  rw [List.take_succ_eq_append_getElem hj, List.map_append, List.sum_append]
  simp
theorem cntP_succ (n : Nat) (x y t : Int) : cntP (n + 1) x y t = ((framesV ((n + 1 : Nat) : Int)).map fun fr => cntP n (nextV (0, x, y) fr).2.1 (nextV (0, x, y) fr).2.2 (t - pointsV x y fr)).sum := rfl
theorem partP_all {L : List (List Int)} {n : Nat} (hL : L = framesV ((n + 1 : Nat) : Int)) (x y t : Int) : partP L n x y L.length t = cntP (n + 1) x y t := by
  rw [cntP_succ, ← hL]
  unfold partP
  rw [List.take_of_length_le (Nat.le_refl _)]
theorem take_sum_le {α : Type} (f : α → Nat) : ∀ (L : List α) (j : Nat), ((L.take j).map f).sum ≤ (L.map f).sum
  | [], j => by simp
  | x :: L, 0 => by simp
  | x :: L, j + 1 => by
    have := take_sum_le f L j
    simp only [List.take_succ_cons, List.map_cons, List.sum_cons]
    omega
theorem partP_le {L : List (List Int)} {n : Nat} (hL : L = framesV ((n + 1 : Nat) : Int)) (x y : Int) (j : Nat) (t : Int) : partP L n x y j t ≤ cntP (n + 1) x y t := by
  rw [cntP_succ, ← hL]
  exact take_sum_le _ _ _
theorem frame_len (n : Int) : (framesV n).length ≤ 241 ∧ 0 < (framesV n).length := by
  unfold framesV
  split
  · rw [last_len]; omega
  · rw [inner_len]; omega
theorem wrap_in {v : Int} (h0 : 0 ≤ v) (h1 : v < 9223372036854775808) : wrap64 v = v := by unfold wrap64; omega
theorem room_arith {p e1 e2 s : Int} (h1 : p + e1 ≤ e2) (h2 : e2 ≤ 330) (h3 : s ≤ e1) : s + p < 361 := by omega
theorem sum_arith {e1 e2 e3 e4 e5 : Nat} (h1 : e1 = e2 + e3) (h2 : e1 ≤ e4) (h3 : e4 ≤ e5) (h4 : e5 ≤ 5726805883325784576) : wrap64 ((e2 : Int) + (e3 : Int)) = ((e2 + e3 : Nat) : Int) := by
  rw [wrap_in (by omega) (by omega)]
  omega
theorem room {l x y : Int} {m : Nat} {fr : List Int} {a2 b2 : Int} (hk : okPk (l, x, y)) (hl : l = ((m + 1 + 1 : Nat) : Int)) (hfr : fr ∈ framesV l) (haa : (nextV (0, x, y) fr).2.1 = a2) (hbb : (nextV (0, x, y) fr).2.2 = b2) (s : Nat) (hN : ¬ cntP (m + 1) a2 b2 (s : Int) = 0) : (s : Int) + pointsV x y fr < 361 := by
  obtain ⟨h1, h2, h3, h4⟩ := hk
  simp only at h1 h2 h3 h4
  have hx := next_in x y h3.1 h3.2 fr
  have hy := next_le x y h3.1 fr
  have hpt := points_top (frames_ok l fr hfr) (n := m + 1) (by rw [hl] at hfr; exact hfr) h2.1 h2.2 h3.1 h3.2 h4
  rw [haa, hbb] at hpt hx hy
  have hsm : (s : Int) ≤ topP (m + 1) a2 b2 := by
    by_cases h : topP (m + 1) a2 b2 < (s : Int)
    · exact absurd (cnt_high _ _ _ _ hx.1 hx.2 hy h) hN
    · omega
  have htp := top_in (n := m + 1 + 1) (by omega) h2.2 h3.2
  exact room_arith hpt htp hsm
theorem room_sum {l x y : Int} {m : Nat} {fr : List Int} {a2 b2 : Int} {j : Nat} (hk : okPk (l, x, y)) (hl : l = ((m + 1 + 1 : Nat) : Int)) (hps : ∀ t : Int, partP (framesV l) (m + 1) x y (j + 1) t = partP (framesV l) (m + 1) x y j t + cntP (m + 1) a2 b2 (t - pointsV x y fr)) (s : Nat) :
    wrap64 (((partP (framesV l) (m + 1) x y j ((s : Int) + pointsV x y fr) : Nat) : Int) + ((cntP (m + 1) a2 b2 (s : Int) : Nat) : Int)) = ((partP (framesV l) (m + 1) x y j ((s : Int) + pointsV x y fr) + cntP (m + 1) a2 b2 (s : Int) : Nat) : Int) := by
  obtain ⟨h1, -, -, -⟩ := hk
  simp only at h1
  have hp := hps ((s : Int) + pointsV x y fr)
  rw [show (s : Int) + pointsV x y fr - pointsV x y fr = (s : Int) by omega] at hp
  have hle := partP_le (L := framesV l) (n := m + 1) (by rw [hl]) x y (j + 1) ((s : Int) + pointsV x y fr)
  have hca := cnt_cap (m + 1 + 1) x y ((s : Int) + pointsV x y fr)
  have hcb := cap_all (m + 1 + 1) (by omega)
  exact sum_arith hp hle hca hcb
set_option maxRecDepth 100000 in
set_option maxHeartbeats 8000000 in
theorem count_known (Bk Bc M base : Nat) (av : Nat → Prop) (l x y : Int) (w : World) (hX : PCtx w Bk Bc M) (es : Array MapEntry) (clock : Nat) (hm : w.heap[M]? = some (.map es clock)) (hM : HasMemo w M av) (hbs : base ≤ w.heap.size) (v : Value) (hv : HoldsTab w M av v (l, x, y))
    (hlk : ∀ w' : World, w'.heap[M]? = some (.map es clock) → (Instr.lookup 67 (.map (some M)) (pinV (l, x, y)) true).run Try.prog w' = .ok (.tuple #[v, .bool true]) w') :
    Calls Try.prog 42 #[.agg #[.int .i64 l, .int .i64 x, .int .i64 y], .pointer (some ⟨Bk, 0, none⟩), .pointer (some ⟨Bc, 0, none⟩)] w (PPost (l, x, y) M base av w) := by
  have hb1 : ∀ o, Below w.heap.size w (w.alloc o) := fun o => below_alloc (Below.refl w.heap.size w) o
  have HE := Aside0.mk (fun o => show HoldsTab (w.alloc o) M av v (l, x, y) ∧ Kept w (w.alloc o) (fun k => k = M) ∧ Below base w (w.alloc o) ∧ HasMemo (w.alloc o) M av from
    ⟨hv.kept (Kept.of_below (hb1 o) (fun _ => False)) (fun _ h => h.elim), Kept.of_below (hb1 o) _, (hb1 o).mono hbs, hM.below (hb1 o)⟩)
  have HL := Aside0.mk (fun o => hlk (w.alloc o) (((hb1 o).block M hM.lt).trans hm))
  have ck := fun o => pw_cell_below (hb1 o) hX.ck
  have hu43 := Try.underlying43
  have hu67 := Try.underlying67
  clear hM hbs hlk hm hX hv hb1
  go_enter Try.func42, Try.ntmps42
  go_wp2_with (at_lookup; refine wpList_look_run _ rfl _ _ _ rfl _ _ _ rfl rfl (HL.out _) ?_)
  go_ret
  unfold PPost
  exact ⟨v, rfl, HE.out _⟩
def FramesC : Prop := ∀ (k : Pk) (w1 : World), okPk k → Calls Try.prog 36 #[.agg #[.int .i64 k.1, .int .i64 k.2.1, .int .i64 k.2.2]] w1 fun e w' => ∃ v, e = .returned v ∧ Kd.S (Kd.slice 3 (Kd.int .i64)) 28 w' w1.heap.size (fun _ => True) v (framesV k.1) ∧ Below w1.heap.size w1 w'
def AfterC : Prop := ∀ (k : Pk) (fr : List Int) (A : Option Addr) (c : Nat) (w1 : World), okPk k → fr ∈ framesV k.1 → Kd.C (Kd.int .i64) w1 A fr.length fr → fr.length ≤ c →
  Calls Try.prog 37 #[.agg #[.int .i64 k.1, .int .i64 k.2.1, .int .i64 k.2.2], .slice A fr.length c] w1 fun e w' => e = .returned (.tuple #[.int .i64 (pointsV k.2.1 k.2.2 fr), .agg #[.int .i64 (k.1 - 1), .int .i64 (nextV (0, k.2.1, k.2.2) fr).2.1, .int .i64 (nextV (0, k.2.1, k.2.2) fr).2.2]]) ∧ Below w1.heap.size w1 w'
/-- What stays through the rounds: the frames, the closure's variables, the map, the key, the elder world. -/
structure PInv (w : World) (G M Bk Bc base : Nat) (av : Nat → Prop) (l x y : Int) (A30 : Option Addr) (c30 : Nat) (wx : World) : Prop where
  fs : Kd.S (Kd.slice 3 (Kd.int .i64)) 28 wx w.heap.size (fun b => b ≠ M ∧ b ≠ G) (.slice A30 (framesV l).length c30) (framesV l)
  fx : PCtx wx Bk Bc M
  fm : HasMemo wx M (fun g => av g ∨ g = G)
  fk : wx.heap[w.heap.size]? = some (.cells #[.int .i64 l, .int .i64 x, .int .i64 y] 43 (0, 0))
  fe : Kept w wx (fun b => b = M)
  fb : Below base w wx
  fg : w.heap.size < G ∧ M < w.heap.size ∧ Bk < w.heap.size ∧ Bc < w.heap.size
/-- A step that writes nothing elder but the row G and the map (whose tables it tells anew). -/
theorem PInv.step {w wx W' : World} {G M Bk Bc base : Nat} {av S : Nat → Prop} {l x y : Int} {A30 : Option Addr} {c30 : Nat} (h : PInv w G M Bk Bc base av l x y A30 c30 wx) (hk : Kept wx W' S) (hS : ∀ q, S q → q = G ∨ q = M) (hm : HasMemo W' M (fun g => av g ∨ g = G)) (hb : Below base wx W') : PInv w G M Bk Bc base av l x y A30 c30 W' := by
  have hg := h.fg
  refine ⟨Kd.S_kept h.fs hk (fun q h1 h2 => (hS q h2).elim h1.2 h1.1), ⟨cell_kept h.fx.ck hk (fun e => ?_), cell_kept h.fx.cc hk (fun e => ?_), h.fx.nk, h.fx.nc⟩, hm, (hk.2 _ (Array.getElem?_eq_some_iff.1 h.fk).1 (fun e => ?_)).trans h.fk, h.fe.then_ hk (fun q e => (hS q e).elim (fun e1 => Or.inr (by omega)) Or.inl), h.fb.trans hb, hg⟩
  · have := hS _ e; simp only at this; have := h.fx.nk; omega
  · have := hS _ e; simp only at this; have := h.fx.nc; omega
  · have := hS _ e; omega
theorem PInv.stepG {w wx W' : World} {G M Bk Bc base : Nat} {av : Nat → Prop} {l x y : Int} {A30 : Option Addr} {c30 : Nat} (h : PInv w G M Bk Bc base av l x y A30 c30 wx) (hk : Kept wx W' (fun q => q = G)) (hb : Below base wx W') : PInv w G M Bk Bc base av l x y A30 c30 W' :=
  h.step hk (fun _ e => Or.inl e) (h.fm.kept hk (by have := h.fg; omega) (fun _ e => Or.inr (Or.inl (Or.inr e)))) hb
set_option maxRecDepth 100000 in
set_option maxHeartbeats 8000000 in
theorem count_new (Bk Bc M base : Nat) (av : Nat → Prop) (n : Nat) (l x y : Int) (w : World) (hln : l = ((n + 1 : Nat) : Int)) (hk : okPk (l, x, y)) (hav : ∀ g, av g → g < w.heap.size) (hX : PCtx w Bk Bc M) (es : Array MapEntry) (clock : Nat) (hm : Memo w M av es clock) (hbs : base ≤ w.heap.size) (hbM : base ≤ M)
    (hlk : ∀ w' : World, w'.heap[M]? = some (.map es clock) → (Instr.lookup 67 (.map (some M)) (pinV (l, x, y)) true).run Try.prog w' = .ok (.tuple #[.slice none 0 0, .bool false]) w')
    (HF : FramesC) (HA : AfterC)
    (ih : ∀ (q : Pk) (av1 : Nat → Prop) (w1 : World), q.1 = (n : Int) → okPk q → (∀ g, av1 g → g < w1.heap.size) → PCtx w1 Bk Bc M → HasMemo w1 M av1 → base ≤ w1.heap.size →
      Calls Try.prog 42 #[.agg #[.int .i64 q.1, .int .i64 q.2.1, .int .i64 q.2.2], .pointer (some ⟨Bk, 0, none⟩), .pointer (some ⟨Bc, 0, none⟩)] w1 (PPost q M base av1 w1)) :
    Calls Try.prog 42 #[.agg #[.int .i64 l, .int .i64 x, .int .i64 y], .pointer (some ⟨Bk, 0, none⟩), .pointer (some ⟨Bc, 0, none⟩)] w (PPost (l, x, y) M base av w) := by
  have hM : HasMemo w M av := ⟨es, clock, hm⟩
  have hb1 : ∀ o, Below w.heap.size w (w.alloc o) := fun o => below_alloc (Below.refl w.heap.size w) o
  have HW := Aside0.mk (And.intro hM (And.intro hX (And.intro hbs hbM)))
  have HL := Aside0.mk (fun o => hlk (w.alloc o) (((hb1 o).block M hM.lt).trans hm.hb))
  have HK := Aside0.mk (And.intro hk hln)
  have HAV := Aside0.mk hav
  have HF1 := Aside0.mk (fun w1 => HF (l, x, y) w1 hk)
  have HA1 := Aside0.mk (fun fr A c w1 => HA (l, x, y) fr A c w1 hk)
  have HI := Aside0.mk ih
  have ck := fun o => pw_cell_below (hb1 o) hX.ck
  have hl0 : (l == 0) = false := by have := hk.1.1; simp only at this; simp; omega
  have hu43 := Try.underlying43
  have hu67 := Try.underlying67
  clear hk hlk hX hbs hbM hM hm hb1 HF HA ih hln hav
  go_enter Try.func42, Try.ntmps42
  go_wp2_with (first | (at_lookup; refine wpList_look_run _ rfl _ _ _ rfl _ _ _ rfl rfl (HL.out _) ?_) | ((with_reducible refine gate_dst (N := 22) rfl ?_); refine Kd.R_make (Kd.int .i64) _ 3 rfl (N := 22) rfl 28 _ _ rfl (361 : Int) rfl rfl Try.underlying28 (.int .i64 0) 8 info3 rfl (by decide) (by omega) 0 (ok := fun _ => True) (okp := fun _ => True) rfl (fun _ hk => hk) trivial (by omega) (by omega) (Below.refl _ _) (Nat.le_refl _) ?_; intro v22 w2 ho hb2 hg2 hn2; clear hg2 hn2; obtain ⟨G, cap, ev, gb, gl, _⟩ := Kd.R_form ho (by simp); rw [show (List.replicate (361 : Int).toNat (0 : Int)).length = 361 by simp] at ev; subst ev; have hk2 : w2.heap[w.heap.size]? = some (.cells #[.int .i64 l, .int .i64 x, .int .i64 y] 43 (0, 0)) := (hb2.block _ (by rw [alloc_one]; omega)).trans (alloc_here _ _); have z0 : w2.cell? ⟨w.heap.size, 0, none⟩ = some (.int .i64 l) := (blk_cell hk2 0).trans rfl; have z1 : w2.cell? ⟨w.heap.size, 1, none⟩ = some (.int .i64 x) := (blk_cell hk2 1).trans rfl; have z2 : w2.cell? ⟨w.heap.size, 2, none⟩ = some (.int .i64 y) := (blk_cell hk2 2).trans rfl; have HO2 := Aside0.mk ho; have HB2 := Aside0.mk hb2; have HG2 := Aside0.mk (And.intro gb gl); have HK2 := Aside0.mk hk2; clear ho hb2 gb gl hk2) | (go_at_call 36; refine (HF1.out _).mono ?_; rintro e w3 ⟨v30, rfl, hs3, hb3⟩; obtain ⟨A30, c30, e30⟩ := Kd.R_slice (Kd.S_R hs3); subst e30; have HS3 := Aside0.mk hs3; have HB3 := Aside0.mk hb3; clear hs3 hb3))
  have hbw : Below w.heap.size w w3 := (below_alloc (Below.refl w.heap.size w) _).trans ((HB2.out.mono (by rw [alloc_one]; omega)).trans (HB3.out.mono (by have := HB2.out.size; rw [alloc_one] at this; omega)))
  have hGw : w.heap.size < G := by have := HG2.out.1; rw [alloc_one] at this; omega
  have hMl : M < w.heap.size := HW.out.1.lt
  have HG := Aside0.mk (And.intro hGw (And.intro HG2.out.2 hMl))
  have HR3 := Aside0.mk (Kd.R_lower (Kd.R_mono (Kd.R_kept (Kd.R_bound HO2.out) (Kept.of_below HB3.out (fun _ => False)) (fun _ _ h => h)) (ok' := fun b => b ≠ M) (fun b hb e => by have h1 := hb.2.1; rw [alloc_one] at h1; omega)) (by rw [alloc_one]; omega : w.heap.size ≤ _))
  have HS4 := Aside0.mk (Kd.S_lower (Kd.S_mono (Kd.S_bound HS3.out) (ok' := fun b => b ≠ M ∧ b ≠ G) (fun b hb => by have h1 := hb.2.1; have h2 := HG2.out.2; have h3 := HB2.out.size; rw [alloc_one] at h3; omega)) (show w.heap.size ≤ w2.heap.size by have h3 := HB2.out.size; rw [alloc_one] at h3; omega))
  have HX3 := Aside0.mk (HW.out.2.1.kept (Kept.of_below hbw (fun _ => False)) (fun _ h => h.elim))
  have HM3 := Aside0.mk ((HW.out.1.avoid (av' := fun g => av g ∨ g = G) (fun g h => h.elim Or.inl (fun e => Or.inr (by omega)))).below hbw)
  have HK3 := Aside0.mk ((HB3.out.block _ (by have h3 := HB2.out.size; rw [alloc_one] at h3; omega)).trans HK2.out)
  have HE3 := Aside0.mk (Kept.of_below hbw (fun b => b = M))
  have HBB := Aside0.mk (hbw.mono HW.out.2.2.1)
  have e0 : List.replicate (361 : Int).toNat (0 : Int) = arrP (partP (framesV l) n x y 0) := by
    apply List.ext_getElem
    · simp [arrP]
    · intro i h1 h2
      rw [List.getElem_replicate]
      simp only [arrP, List.getElem_map, List.getElem_range, partP_zero]
      rfl
  rw [e0] at HR3
  have hfl := frame_len l
  have HFL := Aside0.mk hfl
  have HP3 : Aside0 (PInv w G M Bk Bc base av l x y A30 c30 w3) := ⟨HS4.out, HX3.out, HM3.out, HK3.out, HE3.out, HBB.out, hGw, hMl, World.block_lt_of_cell? _ _ HW.out.2.1.ck, World.block_lt_of_cell? _ _ HW.out.2.1.cc⟩
  clear HS4 HX3 HM3 HK3 HE3 HBB
  clear hbw hGw hMl e0 z0 z1 z2 HO2 HB2 HG2 HK2 HS3 HB3 hfl HL ck
  go_loopg [32] ((framesV l).length + 1) (fun kq v32 wx => ∃ j : Nat, v32 = .int .i64 (j : Int) ∧ Aside0 (j + kq = (framesV l).length + 1 ∧ j ≤ (framesV l).length) ∧ Aside0 (Kd.R (Kd.int .i64) 3 wx w.heap.size (fun b => b ≠ M) (.slice (some ⟨G, 0, none⟩) 361 cap) (arrP (partP (framesV l) n x y j))) ∧ Aside0 (PInv w G M Bk Bc base av l x y A30 c30 wx))
  case atStart => exact ⟨0, by simp, ⟨by omega⟩, HR3, HP3⟩
  case round =>
    clear HR3 HP3
    obtain ⟨j, rfl, HJ, HR, HP⟩ := hrel
    have HKy := Aside0.mk HP.out.fk
    have z0 : wr.cell? ⟨w.heap.size, 0, none⟩ = some (.int .i64 l) := (blk_cell HKy.out 0).trans rfl
    have z1 : wr.cell? ⟨w.heap.size, 1, none⟩ = some (.int .i64 x) := (blk_cell HKy.out 1).trans rfl
    have z2 : wr.cell? ⟨w.heap.size, 2, none⟩ = some (.int .i64 y) := (blk_cell HKy.out 2).trans rfl
    by_cases hj : j < (framesV l).length
    · have hC := (Kd.R_reads' (Kd.S_R HP.out.fs)).2.2
      obtain ⟨ad, cs, eA, hcl, hKc, hcell⟩ := Kd.C_get hC [] (j : Int) (by omega) (by omega)
      obtain ⟨A1, c1, rfl, hc1, hC1⟩ := hKc
      have hx1 := hcell 0 _ rfl
      simp only [show ((Kd.slice 3 (Kd.int .i64))).sz = 1 from rfl, Nat.mul_one, Nat.add_zero, Int.toNat_natCast] at hx1 hc1 hC1
      have hge : (framesV l).getD j [] = (framesV l)[j] := by rw [List.getD_eq_getElem?_getD, List.getElem?_eq_getElem hj]; rfl
      rw [hge] at hx1 hc1 hC1
      subst eA
      have hmem : (framesV l)[j] ∈ framesV l := List.getElem_mem hj
      have hps := fun t => partP_succ (framesV l) n x y j hj t
      have hok := frames_ok l _ hmem
      generalize hfr : (framesV l)[j] = fr at *
      have hpt : 0 ≤ pointsV x y fr ∧ pointsV x y fr ≤ 60 := points_in hok HK.out.1.2.1.1 HK.out.1.2.1.2 HK.out.1.2.2.1.1 HK.out.1.2.2.1.2
      have u1 : decide ((j : Int) < ((framesV l).length : Int)) = true := decide_eq_true (by omega)
      have u2 : decide (j < (framesV l).length) = true := decide_eq_true hj
      have p5 : (0 ≤ (j : Int)) = True := eq_true (by omega)
      have q5 : ((j : Int) < ((framesV l).length : Int)) = True := eq_true (by omega)
      have HFr := Aside0.mk (And.intro hmem (And.intro hok hpt))
      have HPS := Aside0.mk hps
      have HC1 := Aside0.mk (And.intro hc1 hC1)
      clear hC hcell hcl hge hmem hps hok hfr hpt hc1 hC1
      have a5 : (0 ≤ pointsV x y fr) = True := eq_true HFr.out.2.2.1
      have b5 : (pointsV x y fr < 361) = True := eq_true (by have := HFr.out.2.2.2; omega)
      have d5 : decide (0 ≤ pointsV x y fr) = true := decide_eq_true HFr.out.2.2.1
      have e5 : decide (pointsV x y fr < 361) = true := decide_eq_true (by have := HFr.out.2.2.2; omega)
      by_cases hn0 : n = 0
      · subst hn0
        have u3 : (l - 1 == 0) = true := by have := HK.out.2; simp; omega
        have hcap : wrap64 (((partP (framesV l) 0 x y j (pointsV x y fr) : Nat) : Int) + 1) = ((partP (framesV l) 0 x y j (pointsV x y fr) + 1 : Nat) : Int) := by
          have h1 : partP (framesV l) 0 x y j (pointsV x y fr) ≤ cntP 1 x y (pointsV x y fr) := partP_le (L := framesV l) (n := 0) (by rw [HK.out.2]) x y j (pointsV x y fr)
          have h2 := cnt_cap 1 x y (pointsV x y fr)
          have h3 := cap_all 1 (by omega)
          unfold wrap64
          omega
        go_wp2_with (go_at_call 37; refine (HA1.out fr A1 c1 _ HFr.out.1 HC1.out.2 HC1.out.1).mono ?_; rintro e w5 ⟨rfl, hb5⟩; have HB5 := Aside0.mk hb5; have hr5 := fun o => Kd.R_alloc (Kd.R_step HR.out (fun k hk hlt => hb5.block k hlt)) o; have hcel := fun o => (Kd.R_celln 0 (hr5 o) (pointsV x y fr) HFr.out.2.2.1 (by have := HFr.out.2.2.2; omega)).1; have hfrz := fun o => (Kd.R_celln 0 (hr5 o) (pointsV x y fr) HFr.out.2.2.1 (by have := HFr.out.2.2.2; omega)).2; simp only [arrP_rd _ _ HFr.out.2.2.1 (show pointsV x y fr < 361 by have := HFr.out.2.2.2; omega)] at hcel; have HR5 := Aside0.mk hr5; clear hb5 hr5)
        have hk6 := ((Kept.of_below HB5.out (fun q => q = G)).alloc (.cells #[.int .i64 (l - 1), .int .i64 (nextV (0, x, y) fr).2.1, .int .i64 (nextV (0, x, y) fr).2.2] 43)).setCell (p := ⟨G, (pointsV x y fr).toNat, none⟩) (Or.inl rfl) (.int .i64 ((partP (framesV l) 0 x y j (pointsV x y fr) + 1 : Nat) : Int))
        have hb6 := ((below_alloc HB5.out (.cells #[.int .i64 (l - 1), .int .i64 (nextV (0, x, y) fr).2.1, .int .i64 (nextV (0, x, y) fr).2.2] 43)).mono (Nat.le_trans HW.out.2.2.1 HP.out.fe.1)).setCell (p := ⟨G, (pointsV x y fr).toNat, none⟩) (show base ≤ G by have := HP.out.fg; have := HW.out.2.2.1; omega) (.int .i64 ((partP (framesV l) 0 x y j (pointsV x y fr) + 1 : Nat) : Int))
        have hr6 := Kd.R_putn (HR5.out (.cells #[.int .i64 (l - 1), .int .i64 (nextV (0, x, y) fr).2.1, .int .i64 (nextV (0, x, y) fr).2.2] 43)) (pointsV x y fr) (((partP (framesV l) 0 x y j (pointsV x y fr) + 1 : Nat) : Int))
        rw [arrP_set _ _ _ HFr.out.2.2.1, arrP_congr (g := partP (framesV l) 0 x y (j + 1)) (fun t h0 h1 => by
          rw [HPS.out t]
          by_cases e : t = pointsV x y fr
          · rw [if_pos e, e, Int.sub_self]
            rfl
          · rw [if_neg e, show cntP 0 (nextV (0, x, y) fr).2.1 (nextV (0, x, y) fr).2.2 (t - pointsV x y fr) = 0 from if_neg (by omega)]
            rfl)] at hr6
        have cj : wrap64 ((j : Int) + 1) = ((j + 1 : Nat) : Int) := by have := HFL.out; have := HJ.out; unfold wrap64; omega
        go_roundg (gk - 1)
        case measure => have := HJ.out; omega
        case rel => exact ⟨j + 1, by first | rfl | simp [cj] | (rw [wrapK, cj]), ⟨by have := HJ.out; omega⟩, ⟨hr6⟩, ⟨HP.out.stepG hk6 hb6⟩⟩
      · obtain ⟨m, rfl⟩ : ∃ m, n = m + 1 := ⟨n - 1, by omega⟩
        have hl2 : 2 ≤ l := by have := HK.out.2; omega
        have u3 : (l - 1 == 0) = false := by simp; omega
        have hnk := next_ok HK.out.1 hl2 fr
        rw [next_of] at hnk
        have HNX := Aside0.mk (And.intro (show (l - 1 : Int) = ((m + 1 : Nat) : Int) by have := HK.out.2; omega) hnk)
        have HAV6 := Aside0.mk (show ∀ (w6 : World), wr.heap.size ≤ w6.heap.size → ∀ g, (av g ∨ g = G) → g < w6.heap.size from fun w6 h6 g hg => by
          have hs := HP.out.fe.1
          rcases hg with hg | hg
          · have := HAV.out g hg; omega
          · have := (Kd.R_form HR.out (by rw [arrP_len]; omega))
            obtain ⟨g0, _, e0, _, h0, _⟩ := this
            injection e0 with e0 _ _
            injection e0 with e0
            injection e0 with e0
            omega)
        have HBS := Aside0.mk (show ∀ (w6 : World), wr.heap.size ≤ w6.heap.size → base ≤ w6.heap.size from fun w6 h6 => Nat.le_trans (Nat.le_trans HW.out.2.2.1 HP.out.fe.1) h6)
        clear hn0 hl2 hnk
        go_wp2_with (first | (go_at_call 37; refine (HA1.out fr A1 c1 _ HFr.out.1 HC1.out.2 HC1.out.1).mono ?_; rintro e w5 ⟨rfl, hb5⟩; have hr5 := fun o => Kd.R_alloc (Kd.R_step HR.out (fun k hk hlt => hb5.block k hlt)) o; have hp5 := fun o => HP.out.stepG (((Kept.of_below hb5 (fun q => q = G))).alloc o) ((below_alloc hb5 o).mono (Nat.le_trans HW.out.2.2.1 HP.out.fe.1)); have ccl := fun o => (hp5 o).fx.cc; have HR5 := Aside0.mk hr5; have HP5 := Aside0.mk hp5; have HS5 := Aside0.mk hb5.size; clear hb5 hr5 hp5) | (go_at_call 42; refine (HI.out (l - 1, (nextV (0, x, y) fr).2.1, (nextV (0, x, y) fr).2.2) (fun g => av g ∨ g = G) _ HNX.out.1 HNX.out.2 (HAV6.out _ (Nat.le_trans HS5.out (by rw [alloc_one]; omega))) (HP5.out _).fx (HP5.out _).fm (HBS.out _ (Nat.le_trans HS5.out (by rw [alloc_one]; omega)))).mono ?_; rintro e w7 ⟨v53, rfl, ht7, hk7, hb7, hm7⟩; obtain ⟨g2, c2, rfl, hgM, hgav, hg3, hcl7⟩ := ht7; have HP7 := Aside0.mk ((HP5.out _).step hk7 (fun q e => Or.inr e) hm7 hb7); have HR7 := Aside0.mk (Kd.R_kept (HR5.out _) hk7 (fun k h1 h2 => h1 h2)); have HT7 := Aside0.mk hcl7; have HG7 := Aside0.mk (show g2 ≠ G from fun e => hgav (Or.inr e)); clear hk7 hb7 hm7 hcl7 hgM hgav))
        generalize gk = gko at *
        generalize haa : (nextV (0, x, y) fr).2.1 = a2 at *
        generalize hbb : (nextV (0, x, y) fr).2.2 = b2 at *
        have hmid0 : ∀ t, midP (framesV l) (m + 1) x y j fr 0 t = partP (framesV l) (m + 1) x y j t := fun t => by
          unfold midP
          rw [haa, hbb]
          split
          · rw [cnt_low _ _ _ _ HNX.out.2.2.1 HNX.out.2.2.2.1 (by omega)]; rfl
          · rfl
        have hmidS : ∀ s : Nat, ∀ t, midP (framesV l) (m + 1) x y j fr (s + 1) t = midP (framesV l) (m + 1) x y j fr s t + if t = (s : Int) + pointsV x y fr then cntP (m + 1) a2 b2 (s : Int) else 0 := fun s t => by
          unfold midP
          rw [haa, hbb]
          by_cases e : t = (s : Int) + pointsV x y fr
          · rw [if_pos (by omega), if_neg (by omega), if_pos e, show t - pointsV x y fr = (s : Int) by omega]
            rfl
          · rw [if_neg e]
            by_cases h : t - pointsV x y fr < (s : Int)
            · rw [if_pos (by omega), if_pos h]
              all_goals rfl
            · rw [if_neg (by omega), if_neg h]
              all_goals rfl
        have hmidL : ∀ t : Int, 0 ≤ t → t < 361 → midP (framesV l) (m + 1) x y j fr 361 t = partP (framesV l) (m + 1) x y (j + 1) t := fun t h0 h1 => by
          unfold midP
          rw [haa, hbb, if_pos (by have := HFr.out.2.2.1; omega), HPS.out t]
        have hmidN : ∀ s : Nat, midP (framesV l) (m + 1) x y j fr s ((s : Int) + pointsV x y fr) = partP (framesV l) (m + 1) x y j ((s : Int) + pointsV x y fr) := fun s => by
          unfold midP
          rw [if_neg (by omega)]
          rfl
        have HM1 := Aside0.mk (And.intro hmidS (And.intro hmidL hmidN))
        rw [show partP (framesV l) (m + 1) x y j = midP (framesV l) (m + 1) x y j fr 0 from (funext hmid0).symm] at HR7
        clear hmid0 hmidS hmidL hmidN HR5 HP5 HS5 ccl a5 b5 d5 e5
        go_loopg [55] 362 (fun kq v55 wx => ∃ s : Nat, ∃ si : Int, v55 = .int .i64 si ∧ Aside0 (si = (s : Int)) ∧ Aside0 (s + kq = 362 ∧ s ≤ 361) ∧ Aside0 (Kd.R (Kd.int .i64) 3 wx w.heap.size (fun b => b ≠ M) (.slice (some ⟨G, 0, none⟩) 361 cap) (arrP (midP (framesV l) (m + 1) x y j fr s))) ∧
          Aside0 (PInv w G M Bk Bc base av l x y (some ad) c30 wx) ∧ Aside0 (∀ i : Nat, i < 361 → wx.cell? ⟨g2, i, none⟩ = some (.int .i64 (tabAt (l - 1, a2, b2) (i : Int)))))
        case atStart => exact ⟨0, 0, by simp, ⟨by simp⟩, ⟨by omega⟩, HR7, HP7, HT7⟩
        case round =>
          clear HR7 HP7 HT7
          obtain ⟨s, si, rfl, HSI, HSQ, HR7, HP7, HT7⟩ := hrel
          by_cases hs : s < 361
          · have htab : tabAt (l - 1, a2, b2) (s : Int) = ((cntP (m + 1) a2 b2 (s : Int) : Nat) : Int) := by
              unfold tabAt
              rw [show (l - 1).toNat = m + 1 by have := HNX.out.1; omega]
            have hts := HT7.out s hs
            rw [htab, show s = si.toNat by rw [HSI.out, Int.toNat_natCast]] at hts
            have hs0 : 0 ≤ si := by rw [HSI.out]; omega
            have hs1 : si < 361 := by rw [HSI.out]; omega
            obtain ⟨C, hC⟩ : ∃ C : Nat, C = cntP (m + 1) a2 b2 (s : Int) := ⟨_, rfl⟩
            rw [show ((si.toNat : Nat) : Int) = (s : Int) by rw [HSI.out, Int.toNat_natCast], ← hC] at hts
            have v1 : decide (si < 361) = true := decide_eq_true hs1
            have v2 : decide (0 ≤ si) = true := decide_eq_true hs0
            have v5 : (0 ≤ si) = True := eq_true hs0
            have v6 : (si < 361) = True := eq_true hs1
            have cs1 : wrap64 (si + 1) = si + 1 := wrap_in (by omega) (by omega)
            by_cases hN : C = 0
            · rw [hN] at hts
              have HC := Aside0.mk (hC.symm.trans hN)
              clear hs0 hs1 htab hC hN
              go_wp2
              go_roundg (gk - 1)
              case measure => have := HSQ.out; omega
              case rel =>
                refine ⟨s + 1, si + 1, by first | rfl | simp [cs1] | (rw [wrapK, cs1]), ⟨by rw [HSI.out]; omega⟩, ⟨by have := HSQ.out; omega⟩, ⟨?_⟩, HP7, HT7⟩
                have e : arrP (midP (framesV l) (m + 1) x y j fr (s + 1)) = arrP (midP (framesV l) (m + 1) x y j fr s) := arrP_congr (fun t h0 h1 => by
                  rw [HM1.out.1 s t, HC.out]
                  split <;> exact Nat.add_zero _)
                rw [e]
                exact HR7.out
            · obtain ⟨q, hq⟩ : ∃ q : Int, q = (s : Int) + pointsV x y fr := ⟨_, rfl⟩
              have hi0 : 0 ≤ q := by have := HFr.out.2.2; omega
              have hi1 : q < 361 := by rw [hq]; exact room HK.out.1 HK.out.2 HFr.out.1 haa hbb s (hC ▸ hN)
              have hw1 : wrap64 (si + pointsV x y fr) = q := by rw [HSI.out, hq]; exact wrap_in (by omega) (by omega)
              have hce := Kd.R_celln 0 HR7.out q hi0 hi1
              rw [arrP_rd _ _ hi0 hi1] at hce
              have hmn : midP (framesV l) (m + 1) x y j fr s q = partP (framesV l) (m + 1) x y j q := by rw [hq]; exact HM1.out.2.2 s
              rw [hmn] at hce
              obtain ⟨hce1, hce2⟩ := hce
              have hw2 : wrap64 (((partP (framesV l) (m + 1) x y j q : Nat) : Int) + ((cntP (m + 1) a2 b2 (s : Int) : Nat) : Int)) = ((partP (framesV l) (m + 1) x y j q + cntP (m + 1) a2 b2 (s : Int) : Nat) : Int) := by rw [hq]; exact room_sum HK.out.1 HK.out.2 HPS.out s
              obtain ⟨P, hP⟩ : ∃ P : Nat, P = partP (framesV l) (m + 1) x y j q := ⟨_, rfl⟩
              obtain ⟨V, hV⟩ : ∃ V : Int, V = ((P + C : Nat) : Int) := ⟨_, rfl⟩
              rw [← hC, ← hP, ← hV] at hw2
              rw [← hP] at hce1
              have hN0 : decide (0 < (C : Int)) = true := decide_eq_true (by omega)
              have hN1 : decide (0 < C) = true := decide_eq_true (by omega)
              have w5_ : (0 ≤ q) = True := eq_true hi0
              have w6_ : (q < 361) = True := eq_true hi1
              have w7_ : decide (q < 361) = true := decide_eq_true hi1
              have w8_ : decide (0 ≤ q) = true := decide_eq_true hi0
              have HII := Aside0.mk (And.intro (And.intro hi0 hi1) (And.intro hq (And.intro hC (And.intro hP hV))))
              clear hi0 hi1 htab hq hC hP hV hN hmn hs0 hs1
              go_wp2
              obtain ⟨⟨hi0, hi1⟩, hq, hC, hP, hV⟩ := HII.out
              have hk8 := (Kept.refl wr (fun b => b = G)).setCell (p := ⟨G, q.toNat, none⟩) (Or.inl rfl) (.int .i64 V)
              have hb8 := ((Below.refl wr.heap.size wr).mono (Nat.le_trans HW.out.2.2.1 HP7.out.fe.1)).setCell (p := ⟨G, q.toNat, none⟩) (show base ≤ G by have := HP7.out.fg; have := HW.out.2.2.1; omega) (.int .i64 V)
              have hr8 := Kd.R_putn HR7.out q V
              have hGM := HG7.out
              have e8 : (arrP (midP (framesV l) (m + 1) x y j fr s)).set q.toNat V = arrP (midP (framesV l) (m + 1) x y j fr (s + 1)) := by
                rw [hV, arrP_set _ _ _ hi0]
                refine arrP_congr (fun t h0 h1 => ?_)
                rw [HM1.out.1 s t, ← hq, ← hC]
                by_cases e : t = q
                · rw [if_pos e, if_pos e, e, hq, HM1.out.2.2 s, ← hq, ← hP]
                · rw [if_neg e, if_neg e]
                  exact (Nat.add_zero _).symm
              rw [e8] at hr8
              go_roundg (gk - 1)
              case measure => have := HSQ.out; omega
              case rel => exact ⟨s + 1, si + 1, by first | rfl | simp [cs1] | (rw [wrapK, cs1]), ⟨by rw [HSI.out]; omega⟩, ⟨by have := HSQ.out; omega⟩, ⟨hr8⟩, ⟨HP7.out.stepG hk8 hb8⟩, ⟨fun i hi => cell_kept (HT7.out i hi) hk8 hGM⟩⟩
          · have hs3 : s = 361 := by have := HSQ.out; omega
            subst hs3
            have v1 : decide (si < 361) = false := decide_eq_false (by rw [HSI.out]; omega)
            go_wp2
            have hr9 := HR7.out
            rw [arrP_congr (g := partP (framesV l) (m + 1) x y (j + 1)) HM1.out.2.1] at hr9
            have cj : wrap64 ((j : Int) + 1) = ((j + 1 : Nat) : Int) := by have := HFL.out; have := HJ.out; unfold wrap64; omega
            go_roundg (gko - 1)
            case measure => have := HJ.out; omega
            case rel => exact ⟨j + 1, by first | rfl | simp [cj] | (rw [wrapK, cj]), ⟨by have := HJ.out; omega⟩, ⟨hr9⟩, HP7⟩
    · have hj3 : j = (framesV l).length := by have := HJ.out; omega
      subst hj3
      have u1 : decide (((framesV l).length : Int) < ((framesV l).length : Int)) = false := decide_eq_false (by omega)
      obtain ⟨es9, clock9, hm9⟩ := HP.out.fm.avoid (av' := av) (fun g h => Or.inl (Or.inl h))
      have hfg := HP.out.fg
      have hT : HoldsTab wr M av (.slice (some ⟨G, 0, none⟩) 361 cap) (l, x, y) := by
        refine ⟨G, cap, rfl, by omega, fun h => ?_, (Kd.R_reads' HR.out).2.1, fun i hi => ?_⟩
        · have := HAV.out G h
          omega
        · have h1 := (Kd.R_celln 0 HR.out (i : Int) (by omega) (by omega)).1
          rw [arrP_rd _ _ (by omega) (by omega), partP_all (n := n) (by rw [HK.out.2])] at h1
          rw [show tabAt (l, x, y) (i : Int) = ((cntP (n + 1) x y (i : Int) : Nat) : Int) by
            unfold tabAt
            rw [HK.out.2]
            rfl]
          rw [Int.toNat_natCast] at h1
          exact h1
      obtain ⟨w9, hrun9, hmm9, hg9⟩ := memo_store hm9 (l, x, y) HK.out.1 _ hT
      have hk9 := Kept.of_grown (S := fun k => k = M) hg9 (Kept.refl wr _) (fun k_ e_ => Or.inl (by injection e_ with e_; exact e_.symm))
      have HR9 := Aside0.mk hrun9
      have HP9 : Aside0 (PPost (l, x, y) M base av w (.returned (.slice (some ⟨G, 0, none⟩) 361 cap)) w9) := by
        refine ⟨_, rfl, hT.kept hk9 (fun _ e => Or.inl e), HP.out.fe.then_ hk9 (fun _ e => Or.inl e), HP.out.fb.grown hg9 ?_ ?_, hmm9⟩
        · exact Nat.le_trans HW.out.2.2.1 HP.out.fe.1
        · intro k_ e_
          injection e_ with e_
          rw [← e_]
          exact HW.out.2.2.2
      have ck := HP.out.fx.ck
      clear hrun9 hmm9 hg9 hk9 hm9 hT hfg
      go_wp2_with (at_mapUpdate; refine wpList_upd_run _ rfl _ _ _ _ rfl _ _ _ rfl rfl rfl w9 HR9.out ?_)
      go_ret
      exact HP9.out
end Go.Proofs.Ytdioconinnpmmaa.Pin
