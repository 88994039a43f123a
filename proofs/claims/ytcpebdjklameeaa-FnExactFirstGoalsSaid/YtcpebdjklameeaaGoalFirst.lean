/- FirstGoals: the closure that looks for the goals, and what its caller does: for at most five kinds and a score of at most 200. -/
import Derived.Test.YtcpebdjklameeaaGoal
import Derived.Test.YtcpebdjklameeaaProg
import Derived.Outline
import Derived.Deep.RegionLaw
import Derived.StillTailTactics
import Derived.Laws.EntriesVeiled
set_option linter.unusedVariables false
set_option linter.unusedSimpArgs false
namespace Go.Proofs.Ytcpebdjklameeaa.Goal
open Go.RowKit Go.Proofs.YtcpebdjklameeaaW.PrintWords Go.Proofs.YtcpebdjklameeaaW.PrintLast
theorem info3 : (Try.prog.info? 3).map (fun i => (i.zero, i.size, i.bytes)) = some (some (.int .i64 0), 1, 8) := by kernel_rfl
set_option maxRecDepth 100000 in
set_option maxHeartbeats 8000000 in
theorem first_none (w : World) (A : Option Addr) (c : Nat) (l : List Int) (s q : Int) (HFew : ∀ w1, Below w.heap.size w w1 → Calls Try.prog 34 #[.slice A l.length c, .int .i64 s] w1 fun e w' => e = .returned (.tuple #[.int .i64 q, .bool false]) ∧ Below w1.heap.size w1 w') :
    Calls Try.prog 16 #[.slice A l.length c, .int .i64 s] w fun e w' => e = .returned (.tuple #[.slice none 0 0, .bool false]) ∧ Below w.heap.size w w' := by
  have c0 : (w.alloc (.cells #[.slice A l.length c] 22)).cell? ⟨w.heap.size, 0, none⟩ = some (.slice A l.length c) := by rw [World.cell?_alloc_at _ _ _ _ rfl]; rfl
  have HF := Aside0.mk HFew
  clear HFew
  go_enter Try.func16, Try.ntmps16
  go_wp2_with (go_at_call 34; refine (HF.out _ ?hb).mono ?_; (case hb => repeat (first | exact Below.refl _ _ | apply below_alloc | apply pw_below_drewN | apply below_drew1)); rintro e w1 ⟨rfl, hb1⟩; have HB1 := Aside0.mk (below_step (w := w) (by repeat (first | exact Below.refl _ _ | apply below_alloc | apply pw_below_drewN | apply below_drew1)) hb1); clear hb1)
  go_ret2
  exact ⟨rfl, by repeat (first | exact HB1.out | apply pw_below_drewN | apply below_drew1)⟩
theorem ctx_first (w2 : World) (l : List Int) (ad : Addr) (c Bk G cap : Nat) (hk : w2.cell? ⟨Bk, 0, none⟩ = some (.slice (some ad) l.length c)) (hcl : ∀ j, j < l.length → w2.cell? (ad.add j) = some (.int .i64 (l.getD j 0))) (hG : G < w2.heap.size) (nk : Bk ≠ G) (nl : ad.block ≠ G) :
    FCtx ((w2.alloc (.cells #[.slice (some ⟨G, 0, none⟩) l.length cap] 22)).alloc (.cells #[.func (.func 35) #[] #[.pointer (some ⟨Bk, 0, none⟩), .pointer (some ⟨w2.heap.size, 0, none⟩), .pointer (some ⟨w2.heap.size + 1, 0, none⟩)]] 44)) l ad c Bk w2.heap.size (w2.heap.size + 1) G cap := by
  have hb : ∀ o o', Below w2.heap.size w2 ((w2.alloc o).alloc o') := fun o o' => below_alloc (below_alloc (Below.refl _ _) o) o'
  have hs : ∀ o, (w2.alloc o).heap.size = w2.heap.size + 1 := fun o => by simp
  refine ⟨pw_cell_below (hb _ _) hk, ?_, ?_, fun j hj => pw_cell_below (hb _ _) (hcl j hj), nk, by omega, by omega, nl⟩
  · rw [World.cell?_alloc_past _ _ _ (by rw [hs]; exact Nat.lt_succ_self _), World.cell?_alloc_at _ _ _ _ rfl]
    rfl
  · rw [World.cell?_alloc_at _ _ _ _ (by rw [hs])]
    rfl
set_option maxRecDepth 100000 in
set_option maxHeartbeats 8000000 in
theorem first_some (w : World) (ad : Addr) (c : Nat) (l : List Int) (s q : Int) (ns : List Int) (hl1 : 1 ≤ l.length) (hl5 : l.length ≤ 5) (hlx : ∀ x ∈ l, 1 ≤ x ∧ x ≤ 20) (s0 : 0 ≤ s) (s1 : s ≤ 200) (q0 : 0 ≤ q) (q1 : q ≤ 200)
    (hcl : ∀ j, j < l.length → w.cell? (ad.add j) = some (.int .i64 (l.getD j 0))) (hns : firstL l l.length s q = some ns)
    (HFew : ∀ w1, Below w.heap.size w w1 → Calls Try.prog 34 #[.slice (some ad) l.length c, .int .i64 s] w1 fun e w' => e = .returned (.tuple #[.int .i64 q, .bool true]) ∧ Below w1.heap.size w1 w') :
    Calls Try.prog 16 #[.slice (some ad) l.length c, .int .i64 s] w fun e w' => ∃ v0 : Value, e = .returned (.tuple #[v0, .bool true]) ∧ Kd.R (Kd.int .i64) 3 w' w.heap.size (fun _ => True) v0 ns ∧ Below w.heap.size w w' := by
  have hmf : ∀ (fn : Fn) (first cap : Array Value) (w : World), (Instr.makeFunc fn first cap).run Try.prog w = .ok (.func fn first cap) w := fun _ _ _ _ => rfl
  have c0 : (w.alloc (.cells #[.slice (some ad) l.length c] 22)).cell? ⟨w.heap.size, 0, none⟩ = some (.slice (some ad) l.length c) := by rw [World.cell?_alloc_at _ _ _ _ rfl]; rfl
  have HF := Aside0.mk HFew
  have HCL := Aside0.mk hcl
  have h1 : wrap64 ((l.length : Int) - 1) = (l.length : Int) - 1 := f_w (by omega)
  have hc00 := hcl 0 hl1
  rw [Addr.add, if_pos rfl] at hc00
  have HC00 := Aside0.mk hc00
  have H5 := Aside0.mk hl5
  have H1 := Aside0.mk hl1
  have HLX := Aside0.mk hlx
  have HSQ := Aside0.mk (show (0 ≤ s ∧ s ≤ 200) ∧ 0 ≤ q ∧ q ≤ 200 by omega)
  clear HFew hcl hl1 hc00 hl5 hlx s0 s1 q0 q1
  go_enter Try.func16, Try.ntmps16
  go_wp2_with (first | (go_at_call 34; refine (HF.out _ ?hb).mono ?_; (case hb => repeat (first | exact Below.refl _ _ | apply below_alloc | apply pw_below_drewN | apply below_drew1)); rintro e w1 ⟨rfl, hb1⟩; have ck1 := pw_cell_below hb1 c0; have HB1 := Aside0.mk (below_step (w := w) (by repeat (first | exact Below.refl _ _ | apply below_alloc | apply pw_below_drewN | apply below_drew1)) hb1); clear hb1 c0) | ((with_reducible refine gate_dst (N := 20) rfl ?_); refine Kd.R_make (Kd.int .i64) _ 3 rfl (N := 20) rfl 22 _ _ rfl (l.length : Int) rfl rfl Try.underlying22 (.int .i64 0) 8 info3 rfl (by decide) (by omega) 0 (ok := fun _ => True) (okp := fun _ => True) rfl (fun _ hk => hk) trivial (by omega) (by have := H5.out; omega) (Below.refl _ _) (Nat.le_refl _) ?_; intro v20 w2 ho hb2 hg2 hn2; rw [Int.toNat_natCast] at ho; obtain ⟨G, cap, ev, gb, gl, cl, hG⟩ := Kd.R_form ho (by rw [List.length_replicate]; exact H1.out); rw [List.length_replicate] at ev; subst ev; have HG := Aside0.mk (And.intro gb gl); have HC2 := Aside0.mk (fun j hj => pw_cell_below (below_step HB1.out hb2) (HCL.out j hj)); have HN := Aside0.mk (show w.heap.size ≠ G ∧ ad.block ≠ G from ⟨fun e_ => Nat.lt_irrefl _ (Nat.lt_of_lt_of_le (World.block_lt_of_cell? _ _ ck1) (Nat.le_trans gb (Nat.le_of_eq e_.symm))), fun e_ => Nat.lt_irrefl _ (Nat.lt_of_lt_of_le (Nat.lt_of_lt_of_le (World.block_lt_of_cell? _ _ HC00.out) HB1.out.size) (Nat.le_trans gb (Nat.le_of_eq e_.symm)))⟩); have HO := Aside0.mk ho; have HB2 := Aside0.mk hb2; have ck2 := pw_cell_below hb2 ck1; have ck3 := fun (o o' : Obj) => pw_cell_below (below_alloc (below_alloc (Below.refl w2.heap.size w2) o) o') ck2; clear ho hb2 hg2 hn2 ck1 gb gl cl hG) | (go_at_call 35; refine (find_calls l ad c w.heap.size w2.heap.size (w2.heap.size + 1) G cap w1.heap.size (fun _ => True) H5.out HLX.out l.length (Nat.le_refl _) s q (List.replicate l.length 0) _ HSQ.out.1.1 HSQ.out.1.2 HSQ.out.2.1 HSQ.out.2.2 List.length_replicate ?hX ?hR).mono ?_; (case hX => exact ctx_first w2 l ad c _ G cap ck2 HC2.out HG.out.2 HN.out.1 HN.out.2); (case hR => exact Kd.R_alloc (Kd.R_alloc HO.out _) _); rw [hns]; rintro e w5 ⟨o', rfl, ho1, ho2, ho3, ho4, hk5, hb5⟩; have hx5 := (ctx_first w2 l ad c _ G cap ck2 HC2.out HG.out.2 HN.out.1 HN.out.2).kept hk5; have co5 := hx5.co; have HQ := Aside0.mk (And.intro ho1 (ho3 ns rfl)); have HR5 := Aside0.mk ho4; have HB5 := Aside0.mk (below_step HB1.out ((below_alloc (below_alloc HB2.out _) _).trans hb5)); clear ho1 ho2 ho3 ho4 hk5 hb5 hx5 ck3))
  go_ret2
  have hQ := HQ.out
  have ho : ns = o' := by rw [← hQ.2, List.take_of_length_le (Nat.le_of_eq hQ.1)]
  rw [ho]
  exact ⟨_, rfl, by (with_reducible repeat (first | apply Kd.R_alloc | apply Kd.R_drewN | apply Kd.R_drew)); exact Kd.R_lower HR5.out HB1.out.size, by repeat (first | exact HB5.out | apply pw_below_drewN | apply below_drew1)⟩
theorem C_cells {w : World} {A : Option Addr} {l : List Int} (h : Kd.C (Kd.int .i64) w A l.length l) (h1 : 1 ≤ l.length) : ∃ ad, A = some ad ∧ ∀ j, j < l.length → w.cell? (ad.add j) = some (.int .i64 (l.getD j 0)) :=
  (show ReadsInt w .i64 A l.length l from readsInt_of.mpr (Kd.reads_of_C (enc := Value.int .i64) (d := (0 : Int)) (h1 := fun _ => rfl) h)).2.2 h1
/-- Where the walk holds. -/
def okF (l : List Int) (s q : Int) : Bool := decide ((1 ≤ l.length ∧ l.length ≤ 5) ∧ (0 ≤ s ∧ s ≤ 200) ∧ 0 ≤ q ∧ q ≤ 200) && l.all (fun x => decide (1 ≤ x ∧ x ≤ 20))
theorem okF_iff {l : List Int} {s q : Int} : okF l s q = true ↔ ((1 ≤ l.length ∧ l.length ≤ 5) ∧ (0 ≤ s ∧ s ≤ 200) ∧ 0 ≤ q ∧ q ≤ 200) ∧ ∀ x ∈ l, 1 ≤ x ∧ x ≤ 20 := by
  unfold okF
  simp only [Bool.and_eq_true, decide_eq_true_eq, List.all_eq_true]
/-- What FirstGoals hands back, its few goals known. -/
def firstOf (l : List Int) (s : Int) (t : Int × Bool) : Option (List Int × Bool) :=
  if t.2 = true then (if okF l s t.1 = true then (firstL l l.length s t.1).bind fun ns => some (ns, true) else none) else some ([], false)
theorem first_calls (w : World) (A : Option Addr) (c : Nat) (l : List Int) (s : Int) (t : Int × Bool) (r1 : List Int) (r2 : Bool) (hr : Kd.C (Kd.int .i64) w A l.length l) (h : firstOf l s t = some (r1, r2))
    (HFew : ∀ w1, Kd.C (Kd.int .i64) w1 A l.length l → Calls Try.prog 34 #[.slice A l.length c, .int .i64 s] w1 fun e w' => e = .returned (.tuple #[.int .i64 t.1, .bool t.2]) ∧ Below w1.heap.size w1 w') :
    Calls Try.prog 16 #[.slice A l.length c, .int .i64 s] w fun e w' => ∃ v0 : Value, e = .returned (.tuple #[v0, .bool r2]) ∧ Kd.R (Kd.int .i64) 3 w' w.heap.size (fun _ => True) v0 r1 ∧ Below w.heap.size w w' := by
  obtain ⟨q, b⟩ := t
  unfold firstOf at h
  cases b with
  | false =>
    rw [if_neg (show ¬ (false = true) by decide)] at h
    simp only [Option.some.injEq, Prod.mk.injEq] at h
    obtain ⟨rfl, rfl⟩ := h
    refine (first_none w A c l s q (fun w1 hb => HFew w1 (Kd.C_below hr hb))).mono ?_
    rintro e w' ⟨rfl, hb⟩
    exact ⟨_, rfl, Kd.R_nil _ _ _ _ _, hb⟩
  | true =>
    rw [if_pos rfl] at h
    split at h
    · rename_i hk
      obtain ⟨⟨⟨h1, h2⟩, ⟨h3, h4⟩, h5, h6⟩, h7⟩ := okF_iff.mp hk
      obtain ⟨ns, hn, h8⟩ := Option.bind_eq_some_iff.mp h
      simp only [Option.some.injEq, Prod.mk.injEq] at h8
      obtain ⟨rfl, rfl⟩ := h8
      obtain ⟨ad, rfl, hc⟩ := C_cells hr h1
      exact first_some w ad c l s q ns h1 h2 h7 h3 h4 h5 h6 hc hn (fun w1 hb => HFew w1 (Kd.C_below hr hb))
    · cases h
end Go.Proofs.Ytcpebdjklameeaa.Goal
