/- What the closure that counts breaks tells, and the map that it keeps: for frames with at most 15 reds. -/
import Derived.Test.YtcmlmjgoidpabaaDoorZU
import Derived.Test.YtcmlmjgoidpabaaDoorProg
import Derived.Outline
import Derived.Deep.RegionLaw
import Derived.StillTailTactics
import Derived.Laws.EntriesVeiled
import Derived.Maps.OwnSet
import Derived.DeepKeys4
import Derived.Laws.RangeString
import Derived.ChangeBookTie2
set_option linter.unusedVariables false
set_option linter.unusedSimpArgs false
namespace Go.Proofs.YtcmlmjgoidpabaaDoor.Brk
open Go.RowKit Go.Proofs.YtcmlmjgoidpabaaDoorW.PrintWords Go.Proofs.YtcmlmjgoidpabaaDoorW.PrintLast
abbrev Fr := Int × Bool × Int
def ballsF (f : Fr) : List Int := if f.2.1 = true then [2, 3, 4, 5, 6, 7] else if f.1 > 0 then [1] else if f.2.2 ≤ 7 then [f.2.2] else []
def potF (f : Fr) : Fr := if f.2.1 = true then (f.1, false, f.2.2) else if f.1 > 0 then (f.1 - 1, true, f.2.2) else (f.1, f.2.1, f.2.2 + 1)
def okFr (f : Fr) : Prop := (0 ≤ f.1 ∧ f.1 ≤ 15) ∧ 2 ≤ f.2.2 ∧ f.2.2 ≤ 8
def capN : Int := 1000000000000001
def stepN (a x : Int) : Int := if a + x < capN then a + x else capN
def cnt : Nat → Fr → Int → Int
  | 0, _, p => if p = 0 then 1 else 0
  | n + 1, f, p => if p ≤ 0 then (if p = 0 then 1 else 0) else (ballsF f).foldl (fun a b => stepN a (cnt n (potF f) (p - b))) 0
def nextS (f : Fr) : ByteArray := ⟨((ballsF f).map fun b => (b + 48).toNat.toUInt8).toArray⟩
theorem balls_in {f : Fr} (h : okFr f) : ∀ b ∈ ballsF f, 1 ≤ b ∧ b ≤ 7 := by
  obtain ⟨r, c, l⟩ := f
  obtain ⟨⟨h1, h2⟩, h3, h4⟩ := h
  simp only at h1 h2 h3 h4
  intro b hb
  unfold ballsF at hb
  split at hb
  · simp at hb; omega
  · split at hb
    · simp at hb; omega
    · split at hb
      · simp only [List.mem_singleton] at hb
        rename_i h5
        simp only at h5
        omega
      · cases hb
theorem balls_len (f : Fr) : (ballsF f).length ≤ 6 := by
  unfold ballsF
  repeat' split
  all_goals simp
theorem pot_ok {f : Fr} (h : okFr f) (hb : ballsF f ≠ []) : okFr (potF f) := by
  obtain ⟨r, c, l⟩ := f
  obtain ⟨⟨h1, h2⟩, h3, h4⟩ := h
  simp only at h1 h2 h3 h4
  unfold potF
  unfold ballsF at hb
  split
  · exact ⟨⟨h1, h2⟩, h3, h4⟩
  · split
    · rename_i h5 h6
      simp only at h6
      exact ⟨⟨by simp only; omega, by simp only; omega⟩, h3, h4⟩
    · rename_i h5 h6
      rw [if_neg h5, if_neg h6] at hb
      split at hb
      · rename_i h7
        simp only at h7
        exact ⟨⟨h1, h2⟩, by simp only; omega, by simp only; omega⟩
      · exact absurd rfl hb
theorem nextS_size (f : Fr) : (nextS f).size = (ballsF f).length := by
  unfold nextS
  show (List.toArray _).size = _
  simp
theorem nextS_at {f : Fr} (h : okFr f) (i : Nat) (hi : i < (ballsF f).length) : ((nextS f)[i]'(by rw [nextS_size]; exact hi)).toNat = ((ballsF f)[i] + 48).toNat := by
  have hb := balls_in h _ (List.getElem_mem hi)
  have e : (nextS f)[i]'(by rw [nextS_size]; exact hi) = ((ballsF f)[i] + 48).toNat.toUInt8 := by
    show (List.toArray _)[i]'(by simpa using hi) = _
    simp
  rw [e, Nat.toUInt8, UInt8.toNat_ofNat']
  omega
theorem step_in {a x : Int} (ha : 0 ≤ a) (hx : 0 ≤ x) : 0 ≤ stepN a x ∧ stepN a x ≤ capN := by
  unfold stepN capN
  split <;> omega
theorem fold_in (g : Int → Int) (hg : ∀ b, 0 ≤ g b) : ∀ (l : List Int) (a : Int), 0 ≤ a → a ≤ capN → 0 ≤ l.foldl (fun a b => stepN a (g b)) a ∧ l.foldl (fun a b => stepN a (g b)) a ≤ capN
  | [], a, h0, h1 => ⟨h0, h1⟩
  | x :: l, a, h0, h1 => by
    have := step_in h0 (hg x)
    exact fold_in g hg l _ this.1 this.2
theorem cnt_in : ∀ (n : Nat) (f : Fr) (p : Int), 0 ≤ cnt n f p ∧ cnt n f p ≤ capN
  | 0, f, p => by
    unfold cnt capN
    split <;> omega
  | n + 1, f, p => by
    unfold cnt
    split
    · unfold capN
      split <;> omega
    · exact fold_in _ (fun b => (cnt_in n _ _).1) _ _ (by omega) (by unfold capN; omega)
theorem cnt_le {n : Nat} {f : Fr} {p : Int} (h : p ≤ 0) : cnt n f p = if p = 0 then 1 else 0 := by
  cases n with
  | zero => rfl
  | succ n => unfold cnt; rw [if_pos h]
theorem foldl_congr_mem {α β : Type} {f g : α → β → α} : ∀ (l : List β) (a : α), (∀ a, ∀ b ∈ l, f a b = g a b) → l.foldl f a = l.foldl g a
  | [], _, _ => rfl
  | x :: l, a, h => by
    rw [List.foldl_cons, List.foldl_cons, h a x (List.mem_cons_self ..)]
    exact foldl_congr_mem l _ (fun a b hb => h a b (List.mem_cons_of_mem _ hb))
theorem cnt_fuel : ∀ (n : Nat) (f : Fr) (p : Int), okFr f → p.toNat ≤ n → cnt n f p = cnt p.toNat f p
  | 0, f, p, _, h => by rw [show p.toNat = 0 by omega]
  | n + 1, f, p, hf, h => by
    by_cases hp : p ≤ 0
    · rw [cnt_le hp, cnt_le hp]
    · obtain ⟨m, hm⟩ : ∃ m, p.toNat = m + 1 := ⟨p.toNat - 1, by omega⟩
      rw [hm]
      unfold cnt
      rw [if_neg hp, if_neg hp]
      refine foldl_congr_mem _ _ (fun a b hb => ?_)
      have hbb := balls_in hf b hb
      have hg := pot_ok hf (List.ne_nil_of_mem hb)
      rw [cnt_fuel n _ _ hg (by omega)]
      by_cases hmn : m = n
      · subst hmn; rw [cnt_fuel m _ _ hg (by omega)]
      · rw [cnt_fuel m _ _ hg (by omega)]
termination_by n => n
decreasing_by all_goals omega
theorem cnt_pos {f : Fr} {p : Int} (hf : okFr f) (hp : 0 < p) : cnt p.toNat f p = (ballsF f).foldl (fun a b => stepN a (cnt (p - b).toNat (potF f) (p - b))) 0 := by
  obtain ⟨m, hm⟩ : ∃ m, p.toNat = m + 1 := ⟨p.toNat - 1, by omega⟩
  rw [hm]
  show (if p ≤ 0 then _ else _) = _
  rw [if_neg (by omega)]
  refine foldl_congr_mem _ _ (fun a b hb => ?_)
  have hbb := balls_in hf b hb
  rw [cnt_fuel m _ _ (pot_ok hf (List.ne_nil_of_mem hb)) (by omega)]
def keyV (f : Fr) (p : Int) : Value := .agg #[.int .i64 f.1, .bool f.2.1, .int .i64 f.2.2, .int .i64 p]
theorem keyV_inj {f g : Fr} {p q : Int} (h : keyV f p = keyV g q) : f = g ∧ p = q := by
  obtain ⟨r, c, l⟩ := f
  obtain ⟨r', c', l'⟩ := g
  unfold keyV at h
  simp only [Value.agg.injEq, Array.mk.injEq, List.cons.injEq, Value.int.injEq, Value.bool.injEq, true_and, and_true] at h
  obtain ⟨rfl, rfl, rfl, rfl⟩ := h
  exact ⟨rfl, rfl⟩
theorem rowKey : (75 : TypeId) < Tryd.prog.types.size := of_decide_eq_true (by kernel_rfl)
theorem wideKey : (match Tryd.prog.underlying 75 with | some (.array _ _) | some (.struct _) => true | _ => false) = true := by kernel_rfl
theorem laidOutK : laidOutB Tryd.prog = true := by kernel_rfl
set_option maxRecDepth 100000 in
theorem lawKey : Go.Maps.Keyed Tryd.prog 75 := Go.Maps.Keyed.of_law (deep_law_laid laidOutK (m := 4) (by decide) rowKey (by kernel_rfl) wideKey)
theorem typeKey : Tryd.prog.keyType 75 = true := by kernel_rfl
theorem cellsKey : Tryd.prog.cellsOf 75 = 4 := by kernel_rfl
theorem cellsFr : Tryd.prog.cellsOf 25 = 3 := by kernel_rfl
theorem cellsInt : Tryd.prog.cellsOf 3 = 1 := by kernel_rfl
theorem cellsBool : Tryd.prog.cellsOf 4 = 1 := by kernel_rfl
theorem lits_int (d : Nat) (n : Int) (hw : (Lit.int .i64 n).wf = true) : Tryd.prog.keyLits (d + 1) 3 [.int .i64 n] = some [.int .i64 n] := by
  simp [Program.keyLits, Tryd.underlying3, hw]
theorem lits_bool (d : Nat) (b : Bool) : Tryd.prog.keyLits (d + 1) 4 [.bool b] = some [.bool b] := by
  simp [Program.keyLits, Tryd.underlying4]
theorem lits_fr (d : Nat) (r : Int) (c : Bool) (l : Int) (w1 : (Lit.int .i64 r).wf = true) (w2 : (Lit.int .i64 l).wf = true) : Tryd.prog.keyLits (d + 2) 25 [.int .i64 r, .bool c, .int .i64 l] = some [.int .i64 r, .bool c, .int .i64 l] := by
  unfold Program.keyLits
  rw [Tryd.underlying25]
  simp only [cellsFr]
  rw [if_pos ⟨rfl, by kernel_rfl⟩]
  simp only [List.mapM_cons, List.mapM_nil, cellsInt, cellsBool, List.drop_zero, List.drop_succ_cons, List.take_succ_cons, List.take_zero, lits_int _ _ w1, lits_int _ _ w2, lits_bool]
  rfl
theorem lits_key (d : Nat) (r : Int) (c : Bool) (l p : Int) (w1 : (Lit.int .i64 r).wf = true) (w2 : (Lit.int .i64 l).wf = true) (w3 : (Lit.int .i64 p).wf = true) : Tryd.prog.keyLits (d + 3) 75 [.int .i64 r, .bool c, .int .i64 l, .int .i64 p] = some [.int .i64 r, .bool c, .int .i64 l, .int .i64 p] := by
  unfold Program.keyLits
  rw [Tryd.underlying75]
  simp only [cellsKey]
  rw [if_pos ⟨rfl, by kernel_rfl⟩]
  simp only [List.mapM_cons, List.mapM_nil, cellsInt, cellsFr, List.drop_zero, List.drop_succ_cons, List.take_succ_cons, List.take_zero, lits_fr _ _ _ _ w1 w2, lits_int _ _ w3]
  rfl
theorem formedKey (xs : Array Value) (h : xs.size = 4) : (Value.agg xs).formed Tryd.prog 75 = true := by
  simp [Value.formed, Tryd.underlying75, cellsKey, h]
theorem litsKey (f : Fr) (p : Int) (h : okFr f) (p0 : 0 < p) (p1 : p ≤ 147) : ∃ kl, keyOf Tryd.prog 75 (keyV f p) = some kl := by
  have w1 : (Lit.int .i64 f.1).wf = true := WalkArith.wf_i64 (by have := h.1; omega)
  have w2 : (Lit.int .i64 f.2.2).wf = true := WalkArith.wf_i64 (by have := h.2; omega)
  have w3 : (Lit.int .i64 p).wf = true := WalkArith.wf_i64 (by omega)
  obtain ⟨m, hm⟩ : ∃ m : Nat, Tryd.prog.types.size + 1 = m + 3 := ⟨Tryd.prog.types.size - 2, by have : (75 : Nat) < Tryd.prog.types.size := rowKey; omega⟩
  have hf := formedKey #[.int .i64 f.1, .bool f.2.1, .int .i64 f.2.2, .int .i64 p] rfl
  have hl := lits_key m f.1 f.2.1 f.2.2 p w1 w2 w3
  have hcs : (keyV f p).cells.toList = [.int .i64 f.1, .bool f.2.1, .int .i64 f.2.2, .int .i64 p] := rfl
  have hf' : (keyV f p).formed Tryd.prog 75 = true := hf
  refine ⟨.string (keyBytes [.int .i64 f.1, .bool f.2.1, .int .i64 f.2.2, .int .i64 p]), ?_⟩
  unfold keyOf
  rw [Tryd.underlying75]
  simp only [typeKey, hf', hm, Bool.and_self, if_true, hcs, hl, Option.map_some]
def memR (_ : Value) : Option (DataW Unit × List MemPlace) := some (.nil, [])
structure Memo (w : World) (M : Nat) (es : Array MapEntry) (clock : Nat) : Prop where
  hb : w.heap[M]? = some (.map es clock)
  fit : Go.WideElems.Fit Tryd.prog 75 memR es clock
  good : ∀ x ∈ es.toList, ∃ (f : Fr) (p : Int), okFr f ∧ 0 < p ∧ p ≤ 147 ∧ x.key = keyV f p ∧ x.val = .int .i64 (cnt p.toNat f p)
def HasMemo (w : World) (M : Nat) : Prop := ∃ es clock, Memo w M es clock
theorem Memo.at {w w' : World} {M : Nat} {es : Array MapEntry} {clock : Nat} (h : Memo w M es clock) (hb : w'.heap[M]? = w.heap[M]?) : Memo w' M es clock := ⟨hb.trans h.hb, h.fit, h.good⟩
theorem HasMemo.at {w w' : World} {M : Nat} (h : HasMemo w M) (hb : w'.heap[M]? = w.heap[M]?) : HasMemo w' M := by
  obtain ⟨es, clock, h⟩ := h
  exact ⟨es, clock, h.at hb⟩
theorem zeroInt (w : World) : (zeroValue 3).run Tryd.prog w = .ok (.int .i64 0) w := by kernel_rfl
theorem memo_look {w : World} {M : Nat} {es : Array MapEntry} {clock : Nat} (h : Memo w M es clock) (f : Fr) (p : Int) (hf : okFr f) (p0 : 0 < p) (p1 : p ≤ 147) :
    (∀ w' : World, w'.heap[M]? = some (.map es clock) → (Instr.lookup 72 (.map (some M)) (keyV f p) true).run Tryd.prog w' = .ok (.tuple #[.int .i64 (cnt p.toNat f p), .bool true]) w') ∨
    (∀ w' : World, w'.heap[M]? = some (.map es clock) → (Instr.lookup 72 (.map (some M)) (keyV f p) true).run Tryd.prog w' = .ok (.tuple #[.int .i64 0, .bool false]) w') := by
  obtain ⟨kl, hk⟩ := litsKey f p hf p0 p1
  by_cases hx : ∃ x ∈ es.toList, x.key = keyV f p
  · left
    intro w' hb
    obtain ⟨x, hx, hxk⟩ := hx
    rcases Go.Maps.fit_look true lawKey Tryd.underlying72 (zeroInt w') hb h.fit hk with ⟨_, h2, _⟩ | ⟨e0, y, h2, h3, h4, _⟩
    · exact absurd hxk (h2 x hx)
    · obtain ⟨g, q, _, _, _, h5, h6⟩ := h.good e0 h2
      rw [h3] at h5
      obtain ⟨rfl, rfl⟩ := keyV_inj h5
      rw [h6] at h4
      exact h4
  · right
    intro w' hb
    rcases Go.Maps.fit_look true lawKey Tryd.underlying72 (zeroInt w') hb h.fit hk with ⟨h1, _, _⟩ | ⟨e0, y, h2, h3, h4, _⟩
    · exact h1
    · exact absurd ⟨e0, h2, h3⟩ hx
def codeL : List Value → Nat
  | [.int _ r, .bool c, .int _ l, .int _ p] => ((r.toNat * 2 + (if c = true then 1 else 0)) * 16 + l.toNat) * 256 + p.toNat
  | _ => 0
def codeK (v : Value) : Nat := codeL v.cells.toList
theorem codeK_key (f : Fr) (p : Int) : codeK (keyV f p) = ((f.1.toNat * 2 + (if f.2.1 = true then 1 else 0)) * 16 + f.2.2.toNat) * 256 + p.toNat := rfl
theorem memo_few {w : World} {M : Nat} {es : Array MapEntry} {clock : Nat} (h : Memo w M es clock) : es.size ≤ 131072 := by
  have hn : es.toList.Pairwise (fun x y => x.key ≠ y.key) := ((Go.MapKept.stamped_iff es clock).1 h.fit.stamped).2.2
  have hc : (es.toList.map fun x => codeK x.key).Nodup := by
    unfold List.Nodup
    rw [List.pairwise_map]
    have : es.toList.Pairwise (fun x y => x ∈ es.toList ∧ y ∈ es.toList ∧ x.key ≠ y.key) := hn.imp_of_mem (fun ha hb h => ⟨ha, hb, h⟩)
    refine this.imp ?_
    rintro x y ⟨hx, hy, hne⟩ e
    obtain ⟨⟨r, c, l⟩, p, ⟨⟨f1, f2⟩, f3, f4⟩, p0, p1, hk, _⟩ := h.good x hx
    obtain ⟨⟨r', c', l'⟩, p', ⟨⟨g1, g2⟩, g3, g4⟩, q0, q1, hk', _⟩ := h.good y hy
    rw [hk, hk'] at e hne
    rw [codeK_key, codeK_key] at e
    simp only at e
    simp only at f1 f2 f3 f4 g1 g2 g3 g4
    have hcc : (if c = true then 1 else 0) = (if c' = true then (1 : Nat) else 0) := by
      cases c <;> cases c' <;> simp at e ⊢ <;> omega
    have hcb : c = c' := by cases c <;> cases c' <;> simp_all
    subst hcb
    refine hne ?_
    have : r = r' ∧ l = l' ∧ p = p' := by omega
    obtain ⟨rfl, rfl, rfl⟩ := this
    rfl
  have := nodup_lt_length 131072 _ hc (by
    intro v hv
    obtain ⟨x, hx, rfl⟩ := List.mem_map.1 hv
    obtain ⟨⟨r, c, l⟩, p, ⟨⟨f1, f2⟩, f3, f4⟩, p0, p1, hk, _⟩ := h.good x hx
    simp only at f1 f2 f3 f4
    rw [hk]
    rw [codeK_key]
    simp only
    split <;> omega)
  simpa using this
theorem memo_store {w : World} {M : Nat} {es : Array MapEntry} {clock : Nat} (h : Memo w M es clock) (f : Fr) (p : Int) (hf : okFr f) (p0 : 0 < p) (p1 : p ≤ 147) :
    ∃ w', (Instr.mapUpdate 72 (.map (some M)) (keyV f p) (.int .i64 (cnt p.toNat f p))).run Tryd.prog w = .ok () w' ∧ HasMemo w' M ∧ w.grownBy w' (some M) := by
  obtain ⟨kl, hk⟩ := litsKey f p hf p0 p1
  obtain ⟨es', clock', hrun, F', _, _, _, hwho⟩ := Go.Maps.fit_store (R' := memR) lawKey Tryd.underlying72 h.hb h.fit (by have := memo_few h; unfold maxLen; omega) (fun _ _ _ _ hz => hz) hk (yv := (.nil, [])) (val := .int .i64 (cnt p.toNat f p)) rfl
  refine ⟨_, hrun, ⟨es', clock', Go.ChangeMaps.heap_setBlock_same h.hb _, F', ?_⟩, ⟨rfl, rfl, rfl, by simp [Go.ChangeMaps.setBlock], fun i _ hi => Go.ChangeMaps.heap_setBlock_other h.hb _ (fun e => hi (by rw [e]))⟩⟩
  intro x hx
  rcases hwho x hx with ⟨h1, _⟩ | ⟨h1, h2⟩
  · exact h.good x h1
  · exact ⟨f, p, hf, p0, p1, h1, h2⟩
theorem memo_made (w : World) : HasMemo (w.alloc (.map #[] 0)) w.heap.size :=
  ⟨#[], 0, (Go.MapKept.heap_alloc w _).1, ⟨by simp, Go.MapKept.stamped_empty 0, by simp⟩, by simp⟩
theorem wpList_look_run {P : Program} (w : World) {ops : Array Oper} {rest : List Oper} {o : Oper} {a : Act} {Q : Exit → Act → World → Prop}
    (hg : o.guard = none) (m x : Operand) (t : TypeId) (hop : o.op = Op.lookup t m x true) (mv key v : Value) (hm : a.eval m = mv) (hx : a.eval x = key) (hrun : (Instr.lookup t mv key true).run P w = .ok v w)
    (hK : wpList P ops Q rest (a.put o.dst v) w) : wpList P ops Q (o :: rest) a w := by
  refine wpList_plain hg fun K' hK' => ?_
  unfold Oper.wp
  simp [execOp, hop, hm, hx, hrun, Result.andThen]
  exact hK' _ _ hK
theorem wpList_upd_run {P : Program} (w : World) {ops : Array Oper} {rest : List Oper} {o : Oper} {a : Act} {Q : Exit → Act → World → Prop}
    (hg : o.guard = none) (m x v : Operand) (t : TypeId) (hop : o.op = Op.mapUpdate t m x v) (mv key val : Value) (hm : a.eval m = mv) (hx : a.eval x = key) (hv : a.eval v = val) (w' : World) (hrun : (Instr.mapUpdate t mv key val).run P w = .ok () w')
    (hK : wpList P ops Q rest (a.put o.dst undef) w') : wpList P ops Q (o :: rest) a w := by
  refine wpList_plain hg fun K' hK' => ?_
  unfold Oper.wp
  simp [execOp, hop, hm, hx, hv, hrun, Result.andThen]
  exact hK' _ _ hK
def iterTo (w : World) (I : Nat) (s : ByteArray) (pos : Nat) : World := { w with heap := w.heap.setIfInBounds I (.stringIter s pos) }
theorem run_next_at {P : Program} (w : World) (I : Nat) (s : ByteArray) (pos : Nat) (ty : TypeId) (hI : w.heap[I]? = some (.stringIter s pos)) (h : pos < s.size) (ha : (s[pos]'h).toNat < 128) :
    (Instr.next (.pointer (some ⟨I, 0, none⟩)) true ty).run P w = .ok (.tuple #[.bool true, .int .i64 pos, .int .i32 (s[pos]'h).toNat]) (iterTo w I s (pos + 1)) := by
  simp only [Instr.next, getObj, setObj, Sem.run_bind, Sem.run, hI, Result.andThen, h, if_true, decode_ascii s pos h ha]
  simp [goInt, Sem.run, hI, iterTo]
theorem run_next_stop {P : Program} (w : World) (I : Nat) (s : ByteArray) (pos : Nat) (ty : TypeId) (hI : w.heap[I]? = some (.stringIter s pos)) (h : ¬ pos < s.size) :
    (Instr.next (.pointer (some ⟨I, 0, none⟩)) true ty).run P w = .ok (.tuple #[.bool false]) w := by
  simp [Instr.next, getObj, Sem.run, hI, h]
theorem iterTo_here {w : World} {I : Nat} {s : ByteArray} {pos : Nat} (hI : I < w.heap.size) : (iterTo w I s pos).heap[I]? = some (.stringIter s pos) := by
  unfold iterTo
  simp [hI]
theorem iterTo_kept (w : World) (I : Nat) (s : ByteArray) (pos : Nat) : Kept w (iterTo w I s pos) (fun k => k = I) :=
  ⟨by simp [iterTo], fun i hi hn => by simp [iterTo, Array.getElem?_setIfInBounds]; intro e; exact absurd e.symm hn⟩
theorem iterTo_below (w : World) (I : Nat) (s : ByteArray) (pos base : Nat) (h : base ≤ I) : Below base w (iterTo w I s pos) :=
  ⟨rfl, rfl, rfl, by simp [iterTo], fun i hi => by simp [iterTo, Array.getElem?_setIfInBounds]; intro e; omega⟩
theorem cell_kept {w w' : World} {S : Nat → Prop} {a : Addr} {v : Value} (h : w.cell? a = some v) (hk : Kept w w' S) (hn : ¬ S a.block) : w'.cell? a = some v := by
  have hlt : a.block < w.heap.size := World.block_lt_of_cell? _ _ h
  rw [← h]
  exact World.cell?_of_block (hk.2 a.block hlt hn)
end Go.Proofs.YtcmlmjgoidpabaaDoor.Brk

