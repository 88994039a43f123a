/- FirstGoals: the closure that looks for the goals, and its caller: for at most five kinds and a score of at most 200. -/
import Derived.Test.YtcpebdjklameeaaWMore
import Derived.Test.YtcpebdjklameeaaProg
import Derived.Outline
import Derived.Deep.RegionLaw
import Derived.StillTailTactics
import Derived.Laws.EntriesVeiled
set_option linter.unusedVariables false
set_option linter.unusedSimpArgs false
namespace Go.Proofs.Ytcpebdjklameeaa.Goal
open Go.RowKit Go.Proofs.YtcpebdjklameeaaW.PrintWords Go.Proofs.YtcpebdjklameeaaW.PrintLast
/-! ### FirstGoals: the closure that looks for the goals -/
/-- The search at one kind: from d - 1 goals of it down to none. -/
def loopL (f : Int → Int → Option (List Int)) (s q x : Int) : Nat → Option (List Int)
  | 0 => none
  | d + 1 => match f (s - (d : Int) * x) (q - d) with
    | some ns => some (ns ++ [(d : Int)])
    | none => loopL f s q x d
/-- How many goals of each of the first kinds. -/
def firstL (l : List Int) : Nat → Int → Int → Option (List Int)
  | 0, s, q => if s = 0 ∧ q = 0 then some [] else none
  | m + 1, s, q => loopL (firstL l m) s q (l.getD m 0) ((min q (s / l.getD m 0)).toNat + 1)
/-- What the closure finds in memory: its three variables, the kinds. -/
structure FCtx (w : World) (l : List Int) (ad : Addr) (c Bk Bo Bf G cap : Nat) : Prop where
  ck : w.cell? ⟨Bk, 0, none⟩ = some (.slice (some ad) l.length c)
  co : w.cell? ⟨Bo, 0, none⟩ = some (.slice (some ⟨G, 0, none⟩) l.length cap)
  cf : w.cell? ⟨Bf, 0, none⟩ = some (.func (.func 35) #[] #[.pointer (some ⟨Bk, 0, none⟩), .pointer (some ⟨Bo, 0, none⟩), .pointer (some ⟨Bf, 0, none⟩)])
  cl : ∀ j, j < l.length → w.cell? (ad.add j) = some (.int .i64 (l.getD j 0))
  nk : Bk ≠ G
  no : Bo ≠ G
  nf : Bf ≠ G
  nl : ad.block ≠ G
theorem cell_kept {w w' : World} {G : Nat} {a : Addr} {v : Value} (h : w.cell? a = some v) (hk : Kept w w' (fun k => k = G)) (hn : a.block ≠ G) : w'.cell? a = some v := by
  have hlt : a.block < w.heap.size := World.block_lt_of_cell? _ _ h
  rw [← h]
  exact World.cell?_of_block (hk.2 a.block hlt hn)
theorem FCtx.kept {w w' : World} {l : List Int} {ad : Addr} {c Bk Bo Bf G cap : Nat} (h : FCtx w l ad c Bk Bo Bf G cap) (hk : Kept w w' (fun k => k = G)) : FCtx w' l ad c Bk Bo Bf G cap :=
  ⟨cell_kept h.ck hk h.nk, cell_kept h.co hk h.no, cell_kept h.cf hk h.nf, fun j hj => cell_kept (h.cl j hj) hk (by rw [add_block]; exact h.nl), h.nk, h.no, h.nf, h.nl⟩
/-- What it answers, and what it leaves. -/
def FPost (l : List Int) (m : Nat) (r : Option (List Int)) (o : List Int) (base G cap : Nat) (ok : Nat → Prop) (w : World) (e : Ending) (w' : World) : Prop :=
  ∃ o' : List Int, e = .returned (.bool r.isSome) ∧ o'.length = l.length ∧ o'.drop m = o.drop m ∧ (∀ ns, r = some ns → o'.take m = ns) ∧ Kd.R (Kd.int .i64) 3 w' base ok (.slice (some ⟨G, 0, none⟩) l.length cap) o' ∧ Kept w w' (fun k => k = G) ∧ Below base w w'
theorem wrapK (x : Int) : IntKind.i64.wrap x = wrap64 x := by simp only [IntKind.wrap_i64, wrap64]
theorem f_w {x : Int} (h : -100000 ≤ x ∧ x ≤ 100000) : wrap64 x = x := by
  unfold wrap64
  omega
theorem f_mul {d x s : Int} (hd : 0 ≤ d) (hx : 1 ≤ x) (h : d ≤ s / x) : 0 ≤ d * x ∧ d * x ≤ s := by
  refine ⟨Int.mul_nonneg hd (by omega), ?_⟩
  have := Int.mul_le_mul_of_nonneg_right h (show 0 ≤ x by omega)
  exact Int.le_trans this (Int.ediv_mul_le s (by omega))
theorem f_drop {o o' : List Int} {m : Nat} (n : Int) (hm : m < o.length) (hl : o'.length = o.length) (h : o'.drop m = (o.set m n).drop m) : o'.drop (m + 1) = o.drop (m + 1) := by
  have h1 := congrArg (List.drop 1) h
  rw [List.drop_drop, List.drop_drop] at h1
  rw [h1, List.drop_set_of_lt (Nat.lt_succ_self m)]
theorem f_take {o o' : List Int} {m : Nat} (n : Int) (ns : List Int) (hm : m < o.length) (hl : o'.length = o.length) (h : o'.drop m = (o.set m n).drop m) (ht : o'.take m = ns) : o'.take (m + 1) = ns ++ [n] := by
  have hm' : m < o'.length := by omega
  rw [List.take_succ_eq_append_getElem hm', ht]
  congr 2
  have h1 := congrArg (fun l => l[0]?) h
  simp only [List.getElem?_drop, Nat.add_zero, List.getElem?_set_self hm, List.getElem?_eq_getElem hm', Option.some.injEq] at h1
  exact h1
open Go.Proofs.YtcpebdjklameeaaW.PrintMore in
attribute [local go_sem] max2_int min2_int max_two min_two
set_option maxRecDepth 100000 in
set_option maxHeartbeats 4000000 in
theorem find_zero (l : List Int) (ad : Addr) (c Bk Bo Bf G cap base : Nat) (ok : Nat → Prop) (s q : Int) (o : List Int) (w : World) (hol : o.length = l.length)
    (hR : Kd.R (Kd.int .i64) 3 w base ok (.slice (some ⟨G, 0, none⟩) l.length cap) o) :
    Calls Try.prog 35 #[.int .i64 (-1), .int .i64 s, .int .i64 q, .pointer (some ⟨Bk, 0, none⟩), .pointer (some ⟨Bo, 0, none⟩), .pointer (some ⟨Bf, 0, none⟩)] w fun e w' => FPost l 0 (firstL l 0 s q) o base G cap ok w e w' := by
  have HR := Aside0.mk hR
  clear hR
  by_cases hs : s = 0
  · by_cases hq : q = 0
    · have h1 : firstL l 0 s q = some [] := by unfold firstL; rw [if_pos ⟨hs, hq⟩]
      rw [h1]
      subst hs hq
      go_enter Try.func35, Try.ntmps35
      go_wp2
      go_ret
      unfold FPost
      refine ⟨o, ?_, ?_, ?_, ?_, ?_, ?_, ?_⟩
      · rfl
      · exact hol
      · rfl
      · exact fun ns h => by cases h; rfl
      · (with_reducible repeat (first | apply Kd.R_alloc | apply Kd.R_drewN | apply Kd.R_drew)); exact HR.out
      · repeat (first | exact Kept.refl _ _ | apply Kept.drewN | apply Kept.drew)
      · repeat (first | exact Below.refl _ _ | apply pw_below_drewN | apply below_drew1)
    · have h1 : firstL l 0 s q = none := by unfold firstL; rw [if_neg (fun h => hq h.2)]
      rw [h1]
      have u : (q == 0) = false := by simpa using hq
      subst hs
      go_enter Try.func35, Try.ntmps35
      go_wp2
      go_ret
      unfold FPost
      refine ⟨o, ?_, ?_, ?_, ?_, ?_, ?_, ?_⟩
      · rfl
      · exact hol
      · rfl
      · exact fun ns h => by cases h
      · (with_reducible repeat (first | apply Kd.R_alloc | apply Kd.R_drewN | apply Kd.R_drew)); exact HR.out
      · repeat (first | exact Kept.refl _ _ | apply Kept.drewN | apply Kept.drew)
      · repeat (first | exact Below.refl _ _ | apply pw_below_drewN | apply below_drew1)
  · have h1 : firstL l 0 s q = none := by unfold firstL; rw [if_neg (fun h => hs h.1)]
    rw [h1]
    have u : (s == 0) = false := by simpa using hs
    go_enter Try.func35, Try.ntmps35
    go_wp2
    go_ret
    unfold FPost
    refine ⟨o, ?_, ?_, ?_, ?_, ?_, ?_, ?_⟩
    · rfl
    · exact hol
    · rfl
    · exact fun ns h => by cases h
    · (with_reducible repeat (first | apply Kd.R_alloc | apply Kd.R_drewN | apply Kd.R_drew)); exact HR.out
    · repeat (first | exact Kept.refl _ _ | apply Kept.drewN | apply Kept.drew)
    · repeat (first | exact Below.refl _ _ | apply pw_below_drewN | apply below_drew1)
set_option maxRecDepth 100000 in
set_option maxHeartbeats 16000000 in
theorem find_succ (l : List Int) (ad : Addr) (c Bk Bo Bf G cap base : Nat) (ok : Nat → Prop) (hl5 : l.length ≤ 5) (hlx : ∀ x ∈ l, 1 ≤ x ∧ x ≤ 20) (m : Nat) (hm : m < l.length)
    (ih : ∀ (s q : Int) (o : List Int) (w : World), 0 ≤ s → s ≤ 200 → 0 ≤ q → q ≤ 200 → o.length = l.length → FCtx w l ad c Bk Bo Bf G cap → Kd.R (Kd.int .i64) 3 w base ok (.slice (some ⟨G, 0, none⟩) l.length cap) o →
      Calls Try.prog 35 #[.int .i64 ((m : Int) - 1), .int .i64 s, .int .i64 q, .pointer (some ⟨Bk, 0, none⟩), .pointer (some ⟨Bo, 0, none⟩), .pointer (some ⟨Bf, 0, none⟩)] w fun e w' => FPost l m (firstL l m s q) o base G cap ok w e w')
    (s q : Int) (o : List Int) (w : World) (s0 : 0 ≤ s) (s1 : s ≤ 200) (q0 : 0 ≤ q) (q1 : q ≤ 200) (hol : o.length = l.length) (hX : FCtx w l ad c Bk Bo Bf G cap) (hR : Kd.R (Kd.int .i64) 3 w base ok (.slice (some ⟨G, 0, none⟩) l.length cap) o) :
    Calls Try.prog 35 #[.int .i64 (m : Int), .int .i64 s, .int .i64 q, .pointer (some ⟨Bk, 0, none⟩), .pointer (some ⟨Bo, 0, none⟩), .pointer (some ⟨Bf, 0, none⟩)] w fun e w' => FPost l (m + 1) (firstL l (m + 1) s q) o base G cap ok w e w' := by
  have hx : 1 ≤ l.getD m 0 ∧ l.getD m 0 ≤ 20 := by
    rw [List.getD_eq_getElem?_getD, List.getElem?_eq_getElem hm]
    exact hlx _ (List.getElem_mem hm)
  have hres : firstL l (m + 1) s q = loopL (firstL l m) s q (l.getD m 0) ((min q (s / l.getD m 0)).toNat + 1) := rfl
  have hcl := hX.cl m hm
  have hck := hX.ck
  generalize hxe : l.getD m 0 = x at *
  rw [hres]
  have hdiv : 0 ≤ s / x := Int.ediv_nonneg s0 (by omega)
  have hdiv2 : s / x ≤ s := Int.ediv_le_self x s0
  have hq1 : wrap64 (Int.tdiv s x) = s / x := by rw [Int.tdiv_eq_ediv_of_nonneg s0]; exact f_w (x := s / x) (by omega)
  have hq2 : IntKind.i64.wrap (Int.tdiv s x) = s / x := by rw [wrapK]; exact hq1
  have hx0 : (x == 0) = false := by simp only [beq_eq_false_iff_ne]; omega
  have hx00 : ¬ x = 0 := by omega
  have u0 : decide ((m : Int) < 0) = false := decide_eq_false (by omega)
  have p5 : (0 ≤ (m : Int)) = True := eq_true (by omega)
  have q5 : ((m : Int) < (l.length : Int)) = True := eq_true (by omega)
  have u1 : decide ((m : Int) < (l.length : Int)) = true := decide_eq_true (by omega)
  have u2 : decide (m < l.length) = true := decide_eq_true hm
  have hmn : (if s / x < q then s / x else q) = (((min q (s / x)).toNat + 1 : Nat) : Int) - 1 := by
    split <;> omega
  have hbound : ((min q (s / x)).toNat : Int) ≤ q ∧ ((min q (s / x)).toNat : Int) ≤ s / x := by omega
  generalize (min q (s / x)).toNat + 1 = D at *
  have hD : (D : Int) - 1 ≤ q ∧ (D : Int) - 1 ≤ s / x := by omega
  have HX := Aside0.mk hX
  have HR := Aside0.mk hR
  have HD := Aside0.mk hD
  have HXX := Aside0.mk hx
  have HS := Aside0.mk (show (0 ≤ s ∧ s ≤ 200) ∧ 0 ≤ q ∧ q ≤ 200 by omega)
  have HIH := Aside0.mk ih
  have HOL := Aside0.mk hol
  have HM := Aside0.mk hm
  have H5 := Aside0.mk hl5
  clear hX hR hD hx ih hlx hres hdiv hdiv2 hbound s0 s1 q0 q1 hol hl5
  go_enter Try.func35, Try.ntmps35
  go_wp2
  go_loopg [10] (D + 1) (fun kq v10 wx => ∃ (r : Nat) (oc : List Int), v10 = .int .i64 ((r : Int) - 1) ∧ Aside0 (r + 1 = kq ∧ r ≤ D) ∧ Aside0 (loopL (firstL l m) s q x r = loopL (firstL l m) s q x D) ∧ Aside0 (oc.length = l.length ∧ oc.drop (m + 1) = o.drop (m + 1)) ∧
    Aside0 (Kd.R (Kd.int .i64) 3 wx base ok (.slice (some ⟨G, 0, none⟩) l.length cap) oc) ∧ Aside0 (Kept w wx (fun k => k = G)) ∧ Aside0 (Below base w wx))
  case atStart => exact ⟨D, o, by first | rfl | (rw [hmn]), ⟨by omega⟩, ⟨rfl⟩, ⟨HOL.out, rfl⟩, HR, ⟨Kept.refl _ _⟩, ⟨Below.refl _ _⟩⟩
  case round =>
    obtain ⟨r, oc, rfl, HI, HV, HO, HR, HK, HB⟩ := hrel
    cases r with
    | zero =>
      have u3 : decide (0 ≤ ((0 : Nat) : Int) - 1) = false := by decide
      have hr0 : loopL (firstL l m) s q x D = none := by rw [← HV.out]; rfl
      rw [show (((0 : Nat) : Int) - 1) = -1 from rfl] at u3 ⊢
      go_wp2
      go_ret
      unfold FPost
      rw [hr0]
      refine ⟨oc, ?_, ?_, ?_, ?_, ?_, ?_, ?_⟩
      · rfl
      · exact HO.out.1
      · exact HO.out.2
      · exact fun ns h => by cases h
      · (with_reducible repeat (first | apply Kd.R_alloc | apply Kd.R_drewN | apply Kd.R_drew)); exact HR.out
      · repeat (first | exact HK.out | apply Kept.drewN | apply Kept.drew)
      · repeat (first | exact HB.out | apply pw_below_drewN | apply below_drew1)
    | succ d =>
      have hd : ((d + 1 : Nat) : Int) - 1 = (d : Int) := by omega
      rw [hd]
      have u3 : decide (0 ≤ (d : Int)) = true := decide_eq_true (by omega)
      have hHD := HD.out
      have hHS := HS.out
      have hHI := HI.out
      have hHX := HXX.out
      have hml := f_mul (d := (d : Int)) (x := x) (s := s) (by omega) hHX.1 (by omega)
      have e1 : wrap64 ((d : Int) * x) = (d : Int) * x := f_w (by omega)
      have e2 : wrap64 (s - (d : Int) * x) = s - (d : Int) * x := f_w (by omega)
      have e3 : wrap64 (q - (d : Int)) = q - d := f_w (by omega)
      have e4 : wrap64 ((d : Int) - 1) = (d : Int) - 1 := f_w (by omega)
      have e5 : wrap64 ((m : Int) - 1) = (m : Int) - 1 := f_w (by have := HM.out; have := H5.out; omega)
      have A3 := Aside0.mk (show (0 ≤ s - (d : Int) * x ∧ s - (d : Int) * x ≤ 200) ∧ 0 ≤ q - (d : Int) ∧ q - (d : Int) ≤ 200 by omega)
      have A4 := Aside0.mk (show d + 1 = gk - 1 ∧ d ≤ D ∧ gk - 1 < gk by omega)
      have HX1 := HX.out.kept HK.out
      have cO := HX1.co
      have hmo : m < oc.length := by rw [HO.out.1]; exact HM.out
      obtain ⟨hcG, hfG⟩ := Kd.R_celln 0 HR.out (m : Int) (by omega) (by have := HM.out; omega)
      obtain ⟨g_, c_, e_, gb, gl, cl_, HG⟩ := Kd.R_form HR.out (Nat.lt_of_le_of_lt (Nat.zero_le _) hmo)
      injection e_ with ea_ en_ ec_
      injection ea_ with ea_
      injection ea_ with ea_
      subst ea_
      have GB := Aside0.mk gb
      have HP7 := Kd.R_putg HR.out (m : Int) (d : Int)
      rw [Int.toNat_natCast] at HP7 hcG hfG
      have HX1 := Aside0.mk HX1
      have HMO := Aside0.mk hmo
      clear hHD hHS hHI hHX hml en_ ec_ gl cl_ HG gb hmo hck hcl
      go_wp2_with (first | ((with_reducible refine gate_store (t := 3) (p := 34) rfl ?_); refine store_event (t := 3) (p := 34) (v := ?vo_w8) (w1 := (wr.setCell ⟨G, m, none⟩ (.int .i64 (d : Int)))) ?hg ?ho ?hn ?hr ?_; (case ho => rfl); (case hg => rfl); (case hn => rfl); (case hr => first | (go_simp; done) | (go_simp; rfl)); intro w8 hw; have hg : wr.grownBy w8 (some G) := (by rw [hw]; exact HP7.2); have hp_ : Kd.R (Kd.int .i64) 3 w8 base ok (.slice (some ⟨G, 0, none⟩) l.length cap) (oc.set m (d : Int)) := (by rw [hw]; exact HP7.1); clear HP7; have HR8 := Aside0.mk hp_; have HB8 := Aside0.mk (show Below base w w8 by rw [hw]; exact HB.out.setCell (p := ⟨G, m, none⟩) GB.out _); have hk8 := Kept.of_grown (S := fun k => k = G) hg (Kept.refl wr _) (fun k_ e_ => Or.inl (by injection e_ with e_; exact e_.symm)); have HK8 := Aside0.mk (HK.out.then_ hk8 (fun _ h_ => Or.inl h_)); have HX8 := Aside0.mk (HX1.out.kept hk8); clear hg hw hp_ hk8))
      have HX9 := HX8.out.kept (Kept.drew (Kept.refl w8 _))
      have HR9 := Aside0.mk (Kd.R_drew HR8.out)
      have HK9 := Aside0.mk (Kept.drew HK8.out)
      have HB9 := Aside0.mk (below_drew1 HB8.out)
      have hk9 := HX9.ck
      have hf9 := HX9.cf
      have hl9 := HX9.cl m HM.out
      rw [hxe] at hl9
      have HX9 := Aside0.mk HX9
      clear HX8 HR8 HK8 HB8 HX1 hcG hfG cO
      refine wp_region_still_tail 14 (by kernel_rfl) (by kernel_rfl) ?_
      simp only [List.take_succ_cons, List.take_zero, List.drop_succ_cons, List.drop_zero]
      change wpStill _ _ (World.drew w8) (fun a' => wpList _ _ _ _ a' (World.drew w8)) _ _
      generalize World.drew w8 = w9 at *
      repeat ((with_reducible refine wpStill_step (fun K hK => ?_)); go_simp; (first | (with_reducible refine hK _ ?_) | (refine iteInduction (motive := fun X => X) (fun hc => absurd hc (by simp [undef])) (fun _ => ?_); (with_reducible refine hK _ ?_))); clear hK K)
      with_reducible refine wpStill_nil ?_
      have HLL := Aside0.mk (show loopL (firstL l m) s q x (d + 1) = match firstL l m (s - (d : Int) * x) (q - d) with | some ns => some (ns ++ [(d : Int)]) | none => loopL (firstL l m) s q x d from rfl)
      cases hfm : firstL l m (s - (d : Int) * x) (q - d) with
      | some ns =>
        rw [hfm] at HLL
        go_wp2_with (go_at_call 35; rw [e5, e1, e2, e3]; refine (HIH.out _ _ _ _ A3.out.1.1 A3.out.1.2 A3.out.2.1 A3.out.2.2 ?hol HX9.out HR9.out).mono ?_; (case hol => rw [List.length_set]; exact HO.out.1); rw [hfm]; rintro e w10 ⟨o', rfl, ho1, ho2, ho3, ho4, hk10, hb10⟩; have HQ := Aside0.mk (And.intro ho1 (And.intro ho2 (ho3 ns rfl))); have HR10 := Aside0.mk ho4; have HK10 := Aside0.mk (HK9.out.then_ hk10 (fun _ h_ => Or.inl h_)); have HB10 := Aside0.mk (HB9.out.trans hb10); clear ho1 ho2 ho3 ho4 hk10 hb10)
        go_ret
        have hr1 : loopL (firstL l m) s q x D = some (ns ++ [(d : Int)]) := by rw [← HV.out, HLL.out]
        unfold FPost
        rw [hr1]
        have hO := HO.out
        have hQ := HQ.out
        have hM := HMO.out
        refine ⟨o', ?_, ?_, ?_, ?_, ?_, ?_, ?_⟩
        · rfl
        · exact hQ.1
        · exact (f_drop (d : Int) hM (hQ.1.trans hO.1.symm) hQ.2.1).trans hO.2
        · exact fun ns' h => by
            injection h with h
            subst h
            exact f_take (d : Int) ns hM (hQ.1.trans hO.1.symm) hQ.2.1 hQ.2.2
        · (with_reducible repeat (first | apply Kd.R_alloc | apply Kd.R_drewN | apply Kd.R_drew)); exact HR10.out
        · repeat (first | exact HK10.out | apply Kept.drewN | apply Kept.drew)
        · repeat (first | exact HB10.out | apply pw_below_drewN | apply below_drew1)
      | none =>
        rw [hfm] at HLL
        go_wp2_with (go_at_call 35; rw [e5, e1, e2, e3]; refine (HIH.out _ _ _ _ A3.out.1.1 A3.out.1.2 A3.out.2.1 A3.out.2.2 ?hol HX9.out HR9.out).mono ?_; (case hol => rw [List.length_set]; exact HO.out.1); rw [hfm]; rintro e w10 ⟨o', rfl, ho1, ho2, ho3, ho4, hk10, hb10⟩; have HQ := Aside0.mk (And.intro ho1 ho2); have HR10 := Aside0.mk ho4; have HK10 := Aside0.mk (HK9.out.then_ hk10 (fun _ h_ => Or.inl h_)); have HB10 := Aside0.mk (HB9.out.trans hb10); clear ho1 ho2 ho3 ho4 hk10 hb10)
        go_roundg (gk - 1)
        case measure => exact A4.out.2.2
        case rel =>
          have hO := HO.out
          have hQ := HQ.out
          have hM := HMO.out
          refine ⟨d, o', ?_, ⟨⟨A4.out.1, A4.out.2.1⟩⟩, ⟨?_⟩, ⟨⟨hQ.1, ?_⟩⟩, ⟨?_⟩, ⟨?_⟩, ⟨?_⟩⟩
          · first | rfl | (rw [e4]) | (rw [wrapK, e4])
          · exact HLL.out.symm.trans HV.out
          · exact (f_drop (d : Int) hM (hQ.1.trans hO.1.symm) hQ.2).trans hO.2
          · (with_reducible repeat (first | apply Kd.R_alloc | apply Kd.R_drewN | apply Kd.R_drew)); exact HR10.out
          · repeat (first | exact HK10.out | apply Kept.drewN | apply Kept.drew)
          · repeat (first | exact HB10.out | apply pw_below_drewN | apply below_drew1)
theorem find_calls (l : List Int) (ad : Addr) (c Bk Bo Bf G cap base : Nat) (ok : Nat → Prop) (hl5 : l.length ≤ 5) (hlx : ∀ x ∈ l, 1 ≤ x ∧ x ≤ 20) : ∀ (m : Nat), m ≤ l.length → ∀ (s q : Int) (o : List Int) (w : World), 0 ≤ s → s ≤ 200 → 0 ≤ q → q ≤ 200 → o.length = l.length → FCtx w l ad c Bk Bo Bf G cap →
    Kd.R (Kd.int .i64) 3 w base ok (.slice (some ⟨G, 0, none⟩) l.length cap) o →
      Calls Try.prog 35 #[.int .i64 ((m : Int) - 1), .int .i64 s, .int .i64 q, .pointer (some ⟨Bk, 0, none⟩), .pointer (some ⟨Bo, 0, none⟩), .pointer (some ⟨Bf, 0, none⟩)] w fun e w' => FPost l m (firstL l m s q) o base G cap ok w e w'
  | 0, _, s, q, o, w, _, _, _, _, hol, _, hR => find_zero l ad c Bk Bo Bf G cap base ok s q o w hol hR
  | m + 1, hm, s, q, o, w, s0, s1, q0, q1, hol, hX, hR => by
    have h : (((m + 1 : Nat) : Int) - 1) = (m : Int) := by omega
    rw [h]
    exact find_succ l ad c Bk Bo Bf G cap base ok hl5 hlx m hm (find_calls l ad c Bk Bo Bf G cap base ok hl5 hlx m (Nat.le_of_succ_le hm)) s q o w s0 s1 q0 q1 hol hX hR
end Go.Proofs.Ytcpebdjklameeaa.Goal
