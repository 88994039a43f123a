/- What the program's function answers on a lane: for every number of frames and every list of rolls. -/
import Derived.Test.YtdioconinnpmmaaDoorLaneR
import Derived.Test.YtdioconinnpmmaaDoorLaneSign
import Derived.Test.YtdioconinnpmmaaDoorLaneBalls
import Derived.Test.YtdioconinnpmmaaDoorLaneRollsText
set_option linter.unusedVariables false
set_option linter.unusedSimpArgs false
namespace Go.Proofs.YtdioconinnpmmaaDoor.Lane
open Go.RowKit Go.Proofs.YtdioconinnpmmaaDoorW.PrintWords Go.Proofs.YtdioconinnpmmaaDoorW.PrintLast
/-- The first n of d numbers from n on whose sign is c. -/
def findV (p : Int) (f : Bool) (c : UInt8) : Nat → Nat → Option Nat
  | 0, _ => none
  | d + 1, n => if ((signV p f (n : Int)).toList == [c]) = true then some n else findV p f c d (n + 1)
def parseV (F : Nat) : List UInt8 → List (List Int) × Int × Bool → List Int → Option (List Int)
  | [], _, out => some out
  | b :: t, s, out => match findV s.2.1 s.2.2 b (s.2.1.toNat + 1) 0 with
    | none => none
    | some n => if allV F s.1 = true then none else parseV F t (stepV F s (n : Int)) (out ++ [(n : Int)])
def resV : Option (List Int) → List Int × Bool
  | some o => (o, true)
  | none => ([], false)
def parseOf (F : Int) (s : ByteArray) : List Int × Bool := if 1 ≤ F ∧ F ≤ 10 then resV (parseV F.toNat s.data.toList ([], 10, true) []) else ([], false)
theorem run_slice_one {P : Program} (t : TypeId) (ht : P.underlying t = some .string) (s : ByteArray) (i : Nat) (hi : i < s.data.toList.length) (w : World) : (Instr.slice t (.string s) (some (.int .i64 (i : Int))) (some (.int .i64 ((i : Int) + 1))) none).run P w = .ok (.string ⟨#[s.data.toList[i]]⟩) w := by
  have hi' : i < s.size := by simpa using hi
  have e : s.extract i (i + 1) = ⟨#[s.data.toList[i]]⟩ := by
    apply ByteArray.ext
    rw [ByteArray.data_extract]
    apply Array.ext'
    simp only [Array.toList_extract, List.extract_eq_take_drop, Nat.add_sub_cancel_left]
    rw [List.drop_eq_getElem_cons hi]
    rfl
  rw [← e]
  have h1 : ((i : Int) + 1).toNat = i + 1 := by omega
  simp [Instr.slice, run_underlying ht, Instr.sliceBounds, run_sliceBound, sliced, h1, (by omega : 0 ≤ (i : Int)), (by omega : 0 ≤ (i : Int) + 1), (by omega : (i : Int) ≤ (i : Int) + 1), (by omega : (i : Int) + 1 ≤ (s.size : Int))]
theorem LN.bound {w : World} {base : Nat} {own : Nat → Prop} {g : Nat} {fr pins : Int} {bg : List (List Int)} {fresh : Bool} (h : LN w base own g fr bg pins fresh) : LN w base (fun k => own k ∧ k < w.heap.size) g fr bg pins fresh := by
  obtain ⟨bv, vs, h1, h2, h3, h4, h5, h6, h7, h8⟩ := h
  exact ⟨bv, vs, h1, h2, ⟨h3, (Array.getElem?_eq_some_iff.1 h1).1⟩, h4, fun k hk => ⟨h5 k hk, own_lt h4 k hk⟩, h6, fun i hi hi' => ⟨(h7 i hi hi').1, fun k hk => ⟨(h7 i hi hi').2 k hk, own_lt (h7 i hi hi').1 k hk⟩⟩, h8⟩
set_option maxRecDepth 100000 in
set_option maxHeartbeats 8000000 in
theorem parse_walk (w : World) (F : Nat) (s : ByteArray) (hF : 1 ≤ F) (hF9 : F ≤ 10) (hs : s.size ≤ 140737488351232) (r : List Int) (b : Bool)
    (hr : resV (parseV F s.data.toList ([], 10, true) []) = (r, b))
    (HItoa : ∀ (m : Nat) (w1 : World), m < 100 → Calls Tryd.prog 26 #[.int .i64 (m : Int)] w1 fun e w' => e = .returned (.string ⟨(Lib.decDigits m).toArray⟩) ∧ w' = w1) :
    Calls Tryd.prog 6 #[.int .i64 (F : Int), .string s] w fun e w' => ∃ v0 : Value, e = .returned (.tuple #[v0, .bool b]) ∧ Kd.R (Kd.int .i64) 3 w' w.heap.size (fun _ => True) v0 r ∧ Below w.heap.size w w' := by
  have t1 : decide (1 ≤ (F : Int) ∧ (F : Int) ≤ 10) = true := decide_eq_true (by omega)
  have HS := Aside0.mk hs
  have HR := Aside0.mk hr
  have HI := Aside0.mk HItoa
  clear hs hr HItoa
  go_enter Tryd.func6, Tryd.ntmps6
  go_wp2_with (first | (go_at_call 14; refine (within_calls _ _ _ _).mono ?_; rw [t1]; rintro e w' ⟨rfl, ⟨nd1, rfl⟩⟩) | (go_at_call 15; refine (new_calls _ _).mono ?_; rintro e w2 ⟨rfl, nd2, rfl⟩) | ((with_reducible refine gate_dst (N := 16) rfl ?_); refine Kd.R_lit (Kd.int .i64) _ 3 ?hg (N := 16) ?hd (xs := ([] : List Int)) (inner := []) (ok := fun _ => True) (okp := fun _ => True) ?hr ?hp (fun _ hk => hk) trivial (Below.refl _ _) (Nat.le_refl _) (by simp) ?_; (case hd => rfl); (case hg => rfl); (case hr => first | (go_simp; done) | (go_simp; rfl)); (case hp => exact Reps.none _ _); intro v1 w3 ho hb hg_ hnew_; clear hg_ hnew_))
  have hL0 : LN ((w.drewN (nd1 + nd2)).alloc (.cells #[.int .i64 (F : Int), .slice none 0 0, .int .i64 10, .bool true] 37)) w.heap.size (fun k => w.heap.size ≤ k) w.heap.size (F : Int) [] 10 true := LN.start w w.heap.size (nd1 + nd2) (F : Int) (Nat.le_refl _)
  generalize hW2 : (w.drewN (nd1 + nd2)).alloc (.cells #[.int .i64 (F : Int), .slice none 0 0, .int .i64 10, .bool true] 37) = W2 at *
  have hb2 : Below w.heap.size w W2 := by rw [← hW2]; exact below_alloc (pw_below_drewN (Below.refl _ _) _) _
  clear hW2
  have HO := Aside0.mk (Kd.R_lower (Kd.R_mono (Kd.R_bound ho) (ok' := fun k => ¬ (w.heap.size ≤ k ∧ k < W2.heap.size)) (fun k hk h2 => Nat.lt_irrefl _ (Nat.lt_of_lt_of_le h2.2 hk.2.1))) hb2.size)
  have HL := Aside0.mk (hL0.bound.step (fun k _ hk => hb.block k hk))
  have HB := Aside0.mk (hb2.trans (hb.mono hb2.size))
  have HS1 := Aside0.mk hb.size
  clear ho hb hL0 hb2
  go_loopg [7, 19] (s.size + 1) (fun kq v7 v19 wx => ∃ (i : Nat) (ys : List Int) (bg : List (List Int)) (p : Int) (f : Bool) (ow : Nat → Prop), v19 = .int .i64 (i : Int) ∧ Aside0 (i + kq = s.size + 1 ∧ i ≤ s.size) ∧ Aside0 (Kd.R (Kd.int .i64) 3 wx w.heap.size (fun k => ¬ ow k) v7 ys) ∧ Aside0 (LN wx w.heap.size ow w.heap.size (F : Int) bg p f) ∧ Aside0 (∀ k, ow k → k < wx.heap.size) ∧ Aside0 (Good F bg ∧ 0 ≤ p ∧ p ≤ 10) ∧ Aside0 (Below w.heap.size w wx) ∧ Aside0 (rollsV F ys ([], 10, true) = some (bg, p, f)) ∧ Aside0 (resV (parseV F (s.data.toList.drop i) (bg, p, f) ys) = (r, b)))
  case atStart => exact ⟨0, [], [], 10, true, _, by simp, ⟨by omega⟩, HO, HL, ⟨fun k hk => Nat.lt_of_lt_of_le hk.2 HS1.out⟩, ⟨good_start F, by decide, by decide⟩, HB, ⟨rfl⟩, ⟨by simpa using HR.out⟩⟩
  case round =>
    clear HO HL HS1 HB HR
    obtain ⟨i, ys, bg, p, f, ow, rfl, HJ, HO, HL, HW, HG, HB, HRV, HY⟩ := hrel
    have hys : ys.length ≤ 21 := rolls_few hF9 HRV.out HG.out.1
    by_cases hi : i < s.size
    · have hi' : i < s.data.toList.length := by simpa using hi
      have hdr : parseV F (s.data.toList.drop i) (bg, p, f) ys = match findV p f s.data.toList[i] (p.toNat + 1) 0 with
          | none => none
          | some n => if allV F bg = true then none else parseV F (s.data.toList.drop (i + 1)) (stepV F (bg, p, f) (n : Int)) (ys ++ [(n : Int)]) := by
        rw [List.drop_eq_getElem_cons hi']
        rfl
      rw [hdr] at HY
      clear hdr
      have u1 : decide ((i : Int) < (s.size : Int)) = true := decide_eq_true (by omega)
      have u2 : decide (i < s.size) = true := decide_eq_true hi
      have hw1 : wrap64 ((i : Int) + 1) = ((i + 1 : Nat) : Int) := by
        have := HS.out
        unfold wrap64
        omega
      have ks := fun (w' : World) => run_slice_one (P := Tryd.prog) 9 rfl s i hi' w'
      generalize s.data.toList[i] = ch at *
      cases ha : allV F bg with
      | true =>
        have hrb : r = [] ∧ b = false := by
          have h := HY.out
          rw [ha] at h
          split at h <;> simp [resV] at h <;> exact ⟨h.1, h.2⟩
        obtain ⟨rfl, rfl⟩ := hrb
        go_wp2
        go_loopg [7, 9, 10] (p.toNat + 2) (fun kq v7 v9 v10 wx => ∃ (n : Nat) (zs : List Int), v10 = .int .i64 (n : Int) ∧ v9 = .bool false ∧ Aside0 (n + kq = p.toNat + 2 ∧ n ≤ p.toNat + 1) ∧ Aside0 (Kd.R (Kd.int .i64) 3 wx w.heap.size (fun k => ¬ ow k) v7 zs ∧ zs.length ≤ 21 + n) ∧ Aside0 (LN wx w.heap.size ow w.heap.size (F : Int) bg p f) ∧ Aside0 (∀ k, ow k → k < wx.heap.size) ∧ Aside0 (Below w.heap.size w wx))
        case atStart => exact ⟨0, ys, by simp, rfl, ⟨by omega⟩, ⟨HO.out, by omega⟩, HL, HW, HB⟩
        case round =>
          clear HO HL HW HB HRV
          obtain ⟨n, zs, rfl, rfl, HN, HO2, HL2, HW2, HB2⟩ := hrel
          obtain ⟨m0, m2, m3, _, fz, _, _⟩ := HL2.out.cells
          have hpp := HG.out.2
          by_cases hn : (n : Int) ≤ p
          · have v1 : decide ((n : Int) ≤ p) = true := decide_eq_true hn
            go_wp2
            refine start_ (n := 9) (S := fun w' => True) (ds := []) #[false, false, false, false, false, false, false, false, false] (by kernel_rfl) rfl rfl trivial (fun hHeld => ?_)
            refine pure_ (i := 0) (N := some 34) (v := ?_) (a' := ?_) #[true, false, false, false, false, false, false, false, false] rfl rfl (by kernel_rfl) (fun _ _ _ h => h) (Or.inl ⟨by rfl, ?_⟩) ?_ ?_
            rotate_left
            · intro w'
              go_simp
              with_reducible rfl
            rotate_left
            · simp only [Act.put, List.setIfInBounds_toArray, List.set_cons_zero, List.set_cons_succ, i64_w, i32_w]
              rfl
            refine pure_ (i := 1) (N := some 35) (v := ?_) (a' := ?_) #[true, true, false, false, false, false, false, false, false] rfl rfl (by kernel_rfl) (fun _ _ _ h => h) (Or.inl ⟨by rfl, ?_⟩) ?_ ?_
            rotate_left
            · intro w'
              go_simp
              with_reducible rfl
            rotate_left
            · simp only [Act.put, List.setIfInBounds_toArray, List.set_cons_zero, List.set_cons_succ, i64_w, i32_w]
              rfl
            refine pure_ (i := 3) (N := some 37) (v := ?_) (a' := ?_) #[true, true, false, true, false, false, false, false, false] rfl rfl (by kernel_rfl) (fun _ _ _ h => h) (Or.inl ⟨by rfl, ?_⟩) ?_ ?_
            rotate_left
            · intro w'
              go_simp
              with_reducible rfl
            rotate_left
            · simp only [Act.put, List.setIfInBounds_toArray, List.set_cons_zero, List.set_cons_succ, i64_w, i32_w]
              rfl
            refine pure_ (i := 4) (N := some 38) (v := ?_) (a' := ?_) #[true, true, false, true, true, false, false, false, false] rfl rfl (by kernel_rfl) (fun _ _ _ h => h) (Or.inl ⟨by rfl, ?_⟩) ?_ ?_
            rotate_left
            · intro w'
              go_simp
              with_reducible rfl
            rotate_left
            · simp only [Act.put, List.setIfInBounds_toArray, List.set_cons_zero, List.set_cons_succ, i64_w, i32_w]
              rfl
            refine pure_ (i := 5) (N := some 39) (v := ?_) (a' := ?_) #[true, true, false, true, true, true, false, false, false] rfl rfl (by kernel_rfl) (fun _ _ _ h => h) (Or.inl ⟨by rfl, ?_⟩) ?_ ?_
            rotate_left
            · intro w'
              go_simp
              with_reducible rfl
            rotate_left
            · simp only [Act.put, List.setIfInBounds_toArray, List.set_cons_zero, List.set_cons_succ, i64_w, i32_w]
              rfl
            refine pure_ (i := 6) (N := some 40) (v := ?_) (a' := ?_) #[true, true, false, true, true, true, true, false, false] rfl rfl (by kernel_rfl) (fun _ _ _ h => h) (Or.inl ⟨by rfl, ?_⟩) ?_ ?_
            rotate_left
            · intro w'
              go_simp
              with_reducible rfl
            rotate_left
            · simp only [Act.put, List.setIfInBounds_toArray, List.set_cons_zero, List.set_cons_succ, i64_w, i32_w]
              rfl
            refine pure_ (i := 7) (N := some 41) (v := ?_) (a' := ?_) #[true, true, false, true, true, true, true, true, false] rfl rfl (by kernel_rfl) (fun _ _ _ h => h) (Or.inl ⟨by rfl, ?_⟩) ?_ ?_
            rotate_left
            · intro w'
              go_simp
              with_reducible rfl
            rotate_left
            · simp only [Act.put, List.setIfInBounds_toArray, List.set_cons_zero, List.set_cons_succ, i64_w, i32_w]
              rfl
            refine one_ (i := 2) (N := some 36) #[true, true, true, true, true, true, true, true, false] rfl rfl (by kernel_rfl) (by decide) (fun K hK => ?_)
            refine goes_ Tryd.func16 (by kernel_rfl) rfl #[.pointer (some ⟨w.heap.size, 0, none⟩), .int .i64 (n : Int)] (by rfl) rfl rfl (by (try simp only [List.map_toArray, List.map_cons, List.map_nil]); first | done | rfl) ?_
            refine (sign_calls (n : Int) (HL2.out.drawn (w' := wr.drew) ⟨⟨1, rfl⟩⟩) ⟨by omega, by omega⟩ HG.out.2.2 HI.out).mono ?_
            rintro e w4 ⟨rfl, ⟨nd4, rfl⟩⟩
            refine ⟨_, rfl, ?_⟩
            refine hK.out _ _ trivial (fun hHeld => ?_)
            clear hK K
            refine norm_ (a' := ?_) ?_ ?_
            rotate_left
            · show Act.put _ (some 36) _ = _
              simp only [Act.put, List.setIfInBounds_toArray, List.set_cons_zero, List.set_cons_succ, i64_w, i32_w]
              rfl
            refine pure_ (i := 8) (N := some 42) (v := ?_) (a' := ?_) #[true, true, true, true, true, true, true, true, true] rfl rfl (by kernel_rfl) (fun _ _ _ h => h) (Or.inl ⟨by rfl, ?_⟩) ?_ ?_
            rotate_left
            · intro w'
              go_simp
              with_reducible rfl
            rotate_left
            · simp only [Act.put, List.setIfInBounds_toArray, List.set_cons_zero, List.set_cons_succ, i64_w, i32_w]
              rfl
            refine done_ (by kernel_rfl) ?_
            cases he : ((signV p f (n : Int)).toList == [ch]) with
            | true =>
              have hm : mayV F bg p (n : Int) = false := by unfold mayV; rw [ha]; rfl
              obtain ⟨A0, c0, e0⟩ := Kd.R_slice HO2.out.1
              subst e0
              have HAL := Aside0.mk (show (zs.length + 1) * 8 ≤ 140737488355328 by have := HO2.out.2; have := HN.out; omega)
              go_wp2_with (first | (go_at_call 17; refine (roll_calls _ (HL2.out.drawnN _) hF hF9 HG.out.1 HG.out.2.2).mono ?_; rw [hm]; rintro e w5 ⟨rfl, hd5⟩; rw [if_neg (by decide)] at hd5; obtain ⟨nd5, rfl⟩ := hd5.out) | ((with_reducible refine gate_builtin (b := .append) (xs := #[.tmp 46, .tmp 48]) rfl ?_); at_builtin; refine Kd.R_append (Kd.int .i64) (w0 := w) w.heap.size rfl (.tmp 46) (.tmp 48) 22 3 (.int .i64 0) 8 rfl Tryd.underlying22 info3 rfl (by decide) (by decide) (.slice A0 zs.length c0) zs (n : Int) [.int .i64 (n : Int)] (fun k => ¬ ow k) (fun _ => False) rfl rfl ?aP (fun _ hk => hk.elim) ?aF ?aO ?aB ?aS ?aL ?_; (case aP => exact rfl); (case aB => exact (by repeat (first | exact HB2.out | apply below_alloc | apply pw_below_drewN | apply below_drew1))); (case aF => exact (fun k hk ho => Nat.lt_irrefl _ (Nat.lt_of_lt_of_le (HW2.out k ho) hk))); (case aO => exact (by (with_reducible repeat (first | apply Kd.R_alloc | apply Kd.R_drewN | apply Kd.R_drew)); exact HO2.out.1)); (case aS => exact (below_size (by repeat (first | exact HB2.out | apply below_alloc | apply pw_below_drewN | apply below_drew1)))); (case aL => exact HAL.out); intro v13 w13 ho hb hg hat; have HO3 := Aside0.mk ho; have HB3 := Aside0.mk hb; have HL3 := Aside0.mk (LN.step (w1 := w13) HL2.out (fun k hk hlt => hg.block k hlt (fun he => (HO2.out.1).1 k he.symm hk))); have HS3 := Aside0.mk hg.size; clear ho hb hg hat))
              go_roundg (gk - 1)
              case measure => have := HN.out; omega
              case rel =>
                refine ⟨n + 1, zs ++ [(n : Int)], ?_, rfl, ⟨by have := HN.out; omega⟩, ⟨HO3.out, by rw [List.length_append, List.length_singleton]; have := HO2.out.2; omega⟩, HL3, ⟨fun k hk => Nat.lt_of_lt_of_le (HW2.out k hk) HS3.out⟩, HB3⟩
                · have : wrap64 ((n : Int) + 1) = ((n + 1 : Nat) : Int) := by
                    unfold wrap64
                    omega
                  first | rfl | simp [this] | (rw [wrapK, this])
            | false =>
              go_wp2
              go_roundg (gk - 1)
              case measure => have := HN.out; omega
              case rel =>
                refine ⟨n + 1, zs, ?_, rfl, ⟨by have := HN.out; omega⟩, ⟨Kd.R_drewN HO2.out.1 _, by have := HO2.out.2; omega⟩, ⟨HL2.out.drawnN _⟩, HW2, ⟨pw_below_drewN HB2.out _⟩⟩
                · have : wrap64 ((n : Int) + 1) = ((n + 1 : Nat) : Int) := by
                    unfold wrap64
                    omega
                  first | rfl | simp [this] | (rw [wrapK, this])
          · have v1 : decide ((n : Int) ≤ p) = false := decide_eq_false hn
            go_wp2
            go_ret2
            exact ⟨_, rfl, Kd.R_nil _ _ _ _ _, HB2.out⟩
      | false =>
        have hres : ∀ o, findV p f ch (p.toNat + 1) 0 = o → resV (match o with
            | none => none
            | some n => parseV F (s.data.toList.drop (i + 1)) (stepV F (bg, p, f) (n : Int)) (ys ++ [(n : Int)])) = (r, b) := by
          rintro o rfl
          have h := HY.out
          rw [ha] at h
          exact h
        have HRs := Aside0.mk hres
        clear hres HY
        go_wp2
        generalize gk = gko at *
        go_loopg [7, 9, 10] (p.toNat + 2) (fun kq v7 v9 v10 wx => ∃ (n : Nat), v10 = .int .i64 (n : Int) ∧
          ((v9 = .bool false ∧ Aside0 (n + kq = p.toNat + 2 ∧ n ≤ p.toNat + 1 ∧ findV p f ch (p.toNat + 1 - n) n = findV p f ch (p.toNat + 1) 0) ∧ Aside0 (Kd.R (Kd.int .i64) 3 wx w.heap.size (fun k => ¬ ow k) v7 ys) ∧ Aside0 (LN wx w.heap.size ow w.heap.size (F : Int) bg p f) ∧ Aside0 (∀ k, ow k → k < wx.heap.size) ∧ Aside0 (Below w.heap.size w wx)) ∨
           (v9 = .bool true ∧ ∃ (x : Nat) (bg' : List (List Int)) (p' : Int) (f' : Bool) (ow' : Nat → Prop), Aside0 (findV p f ch (p.toNat + 1) 0 = some x ∧ mayV F bg p (x : Int) = true ∧ (bg', p', f') = stepV F (bg, p, f) (x : Int)) ∧ Aside0 (Kd.R (Kd.int .i64) 3 wx w.heap.size (fun k => ¬ ow' k) v7 (ys ++ [(x : Int)])) ∧ Aside0 (LN wx w.heap.size ow' w.heap.size (F : Int) bg' p' f') ∧ Aside0 (∀ k, ow' k → k < wx.heap.size) ∧ Aside0 (Good F bg' ∧ 0 ≤ p' ∧ p' ≤ 10) ∧ Aside0 (Below w.heap.size w wx))))
        case atStart => exact ⟨0, by simp, Or.inl ⟨rfl, ⟨by omega, by omega, by simp⟩, HO, HL, HW, HB⟩⟩
        case round =>
          clear HO HL HW HB
          obtain ⟨n, rfl, ⟨rfl, HN, HO2, HL2, HW2, HB2⟩ | ⟨rfl, x, bg', p', f', ow', HX, HO2, HL2, HW2, HG2, HB2⟩⟩ := hrel
          · obtain ⟨m0, m2, m3, _, fz, _, _⟩ := HL2.out.cells
            have hpp := HG.out.2
            by_cases hn : (n : Int) ≤ p
            · have v1 : decide ((n : Int) ≤ p) = true := decide_eq_true hn
              have hd : p.toNat + 1 - n = (p.toNat + 1 - (n + 1)) + 1 := by omega
              have hfv : (if ((signV p f (n : Int)).toList == [ch]) = true then some n else findV p f ch (p.toNat + 1 - (n + 1)) (n + 1)) = findV p f ch (p.toNat + 1) 0 := by
                rw [← HN.out.2.2, hd]
                rfl
              have HF2 := Aside0.mk hfv
              clear hfv hd
              go_wp2
              refine start_ (n := 9) (S := fun w' => True) (ds := []) #[false, false, false, false, false, false, false, false, false] (by kernel_rfl) rfl rfl trivial (fun hHeld => ?_)
              refine pure_ (i := 0) (N := some 34) (v := ?_) (a' := ?_) #[true, false, false, false, false, false, false, false, false] rfl rfl (by kernel_rfl) (fun _ _ _ h => h) (Or.inl ⟨by rfl, ?_⟩) ?_ ?_
              rotate_left
              · intro w'
                go_simp
                with_reducible rfl
              rotate_left
              · simp only [Act.put, List.setIfInBounds_toArray, List.set_cons_zero, List.set_cons_succ, i64_w, i32_w]
                rfl
              refine pure_ (i := 1) (N := some 35) (v := ?_) (a' := ?_) #[true, true, false, false, false, false, false, false, false] rfl rfl (by kernel_rfl) (fun _ _ _ h => h) (Or.inl ⟨by rfl, ?_⟩) ?_ ?_
              rotate_left
              · intro w'
                go_simp
                with_reducible rfl
              rotate_left
              · simp only [Act.put, List.setIfInBounds_toArray, List.set_cons_zero, List.set_cons_succ, i64_w, i32_w]
                rfl
              refine pure_ (i := 3) (N := some 37) (v := ?_) (a' := ?_) #[true, true, false, true, false, false, false, false, false] rfl rfl (by kernel_rfl) (fun _ _ _ h => h) (Or.inl ⟨by rfl, ?_⟩) ?_ ?_
              rotate_left
              · intro w'
                go_simp
                with_reducible rfl
              rotate_left
              · simp only [Act.put, List.setIfInBounds_toArray, List.set_cons_zero, List.set_cons_succ, i64_w, i32_w]
                rfl
              refine pure_ (i := 4) (N := some 38) (v := ?_) (a' := ?_) #[true, true, false, true, true, false, false, false, false] rfl rfl (by kernel_rfl) (fun _ _ _ h => h) (Or.inl ⟨by rfl, ?_⟩) ?_ ?_
              rotate_left
              · intro w'
                go_simp
                with_reducible rfl
              rotate_left
              · simp only [Act.put, List.setIfInBounds_toArray, List.set_cons_zero, List.set_cons_succ, i64_w, i32_w]
                rfl
              refine pure_ (i := 5) (N := some 39) (v := ?_) (a' := ?_) #[true, true, false, true, true, true, false, false, false] rfl rfl (by kernel_rfl) (fun _ _ _ h => h) (Or.inl ⟨by rfl, ?_⟩) ?_ ?_
              rotate_left
              · intro w'
                go_simp
                with_reducible rfl
              rotate_left
              · simp only [Act.put, List.setIfInBounds_toArray, List.set_cons_zero, List.set_cons_succ, i64_w, i32_w]
                rfl
              refine pure_ (i := 6) (N := some 40) (v := ?_) (a' := ?_) #[true, true, false, true, true, true, true, false, false] rfl rfl (by kernel_rfl) (fun _ _ _ h => h) (Or.inl ⟨by rfl, ?_⟩) ?_ ?_
              rotate_left
              · intro w'
                go_simp
                with_reducible rfl
              rotate_left
              · simp only [Act.put, List.setIfInBounds_toArray, List.set_cons_zero, List.set_cons_succ, i64_w, i32_w]
                rfl
              refine pure_ (i := 7) (N := some 41) (v := ?_) (a' := ?_) #[true, true, false, true, true, true, true, true, false] rfl rfl (by kernel_rfl) (fun _ _ _ h => h) (Or.inl ⟨by rfl, ?_⟩) ?_ ?_
              rotate_left
              · intro w'
                go_simp
                with_reducible rfl
              rotate_left
              · simp only [Act.put, List.setIfInBounds_toArray, List.set_cons_zero, List.set_cons_succ, i64_w, i32_w]
                rfl
              refine one_ (i := 2) (N := some 36) #[true, true, true, true, true, true, true, true, false] rfl rfl (by kernel_rfl) (by decide) (fun K hK => ?_)
              refine goes_ Tryd.func16 (by kernel_rfl) rfl #[.pointer (some ⟨w.heap.size, 0, none⟩), .int .i64 (n : Int)] (by rfl) rfl rfl (by (try simp only [List.map_toArray, List.map_cons, List.map_nil]); first | done | rfl) ?_
              refine (sign_calls (n : Int) (HL2.out.drawn (w' := wr.drew) ⟨⟨1, rfl⟩⟩) ⟨by omega, by omega⟩ HG.out.2.2 HI.out).mono ?_
              rintro e w4 ⟨rfl, ⟨nd4, rfl⟩⟩
              refine ⟨_, rfl, ?_⟩
              refine hK.out _ _ trivial (fun hHeld => ?_)
              clear hK K
              refine norm_ (a' := ?_) ?_ ?_
              rotate_left
              · show Act.put _ (some 36) _ = _
                simp only [Act.put, List.setIfInBounds_toArray, List.set_cons_zero, List.set_cons_succ, i64_w, i32_w]
                rfl
              refine pure_ (i := 8) (N := some 42) (v := ?_) (a' := ?_) #[true, true, true, true, true, true, true, true, true] rfl rfl (by kernel_rfl) (fun _ _ _ h => h) (Or.inl ⟨by rfl, ?_⟩) ?_ ?_
              rotate_left
              · intro w'
                go_simp
                with_reducible rfl
              rotate_left
              · simp only [Act.put, List.setIfInBounds_toArray, List.set_cons_zero, List.set_cons_succ, i64_w, i32_w]
                rfl
              refine done_ (by kernel_rfl) ?_
              cases he : ((signV p f (n : Int)).toList == [ch]) with
              | true =>
                have hm : mayV F bg p (n : Int) = true := by
                  unfold mayV
                  rw [ha]
                  simp
                  omega
                have hfx := HF2.out
                rw [he, if_pos rfl] at hfx
                obtain ⟨A0, c0, e0⟩ := Kd.R_slice HO2.out
                subst e0
                have HAL := Aside0.mk (show (ys.length + 1) * 8 ≤ 140737488355328 by omega)
                have HFX := Aside0.mk hfx
                have HM := Aside0.mk hm
                clear hfx hm
                go_wp2_with (first | (go_at_call 17; refine (roll_calls _ (HL2.out.drawnN _) hF hF9 HG.out.1 HG.out.2.2).mono ?_; rw [HM.out]; rintro e w5 ⟨rfl, hw5⟩; rw [if_pos rfl] at hw5; obtain ⟨ow5, hL5, hW5⟩ := hw5; have HL5 := Aside0.mk hL5.bound; have HO5 := Aside0.mk (Kd.R_mono (Kd.R_step (Kd.R_bound (Kd.R_drewN HO2.out _)) (fun k hk hlt => hW5.kept k hlt hk.1)) (ok' := fun k => ¬ (ow5 k ∧ k < w5.heap.size)) (fun k hk h2 => (hW5.new k h2.1).elim hk.1 (fun h3 => Nat.lt_irrefl _ (Nat.lt_of_lt_of_le hk.2.2.1 h3)))); have HB5 := Aside0.mk ((pw_below_drewN HB2.out _).trans hW5.below); have HW5 := Aside0.mk (show ∀ k, (ow5 k ∧ k < w5.heap.size) → k < w5.heap.size from fun k hk => hk.2); clear hL5 hW5) | ((with_reducible refine gate_builtin (b := .append) (xs := #[.tmp 46, .tmp 48]) rfl ?_); at_builtin; refine Kd.R_append (Kd.int .i64) (w0 := w) w.heap.size rfl (.tmp 46) (.tmp 48) 22 3 (.int .i64 0) 8 rfl Tryd.underlying22 info3 rfl (by decide) (by decide) (.slice A0 ys.length c0) ys (n : Int) [.int .i64 (n : Int)] (fun k => ¬ (ow5 k ∧ k < w5.heap.size)) (fun _ => False) rfl rfl ?aP (fun _ hk => hk.elim) ?aF ?aO ?aB ?aS ?aL ?_; (case aP => exact rfl); (case aB => exact (by repeat (first | exact HB5.out | apply below_alloc | apply pw_below_drewN | apply below_drew1))); (case aF => exact (fun k hk ho => Nat.lt_irrefl _ (Nat.lt_of_lt_of_le (HW5.out k ho) hk))); (case aO => exact (by (with_reducible repeat (first | apply Kd.R_alloc | apply Kd.R_drewN | apply Kd.R_drew)); exact HO5.out)); (case aS => exact (below_size (by repeat (first | exact HB5.out | apply below_alloc | apply pw_below_drewN | apply below_drew1)))); (case aL => exact HAL.out); intro v13 w13 ho hb hg hat; have HO3 := Aside0.mk ho; have HB3 := Aside0.mk hb; have HL3 := Aside0.mk (LN.step (w1 := w13) HL5.out (fun k hk hlt => hg.block k hlt (fun he => (HO5.out).1 k he.symm hk))); have HS3 := Aside0.mk hg.size; clear ho hb hg hat))
                go_roundg (gk - 1)
                case measure => have := HN.out; omega
                case rel =>
                  refine ⟨n + 1, ?_, Or.inr ⟨rfl, n, _, _, _, _, ⟨HFX.out.symm, HM.out, rfl⟩, HO3, HL3, ⟨fun k hk => Nat.lt_of_lt_of_le (HW5.out k hk) HS3.out⟩, ⟨good_beg hF HG.out.1 HM.out HG.out.2.2, end_pins ⟨by omega, hn⟩ HG.out.2.2⟩, HB3⟩⟩
                  have : wrap64 ((n : Int) + 1) = ((n + 1 : Nat) : Int) := by
                    unfold wrap64
                    omega
                  first | rfl | simp [this] | (rw [wrapK, this])
              | false =>
                have hfx := HF2.out
                rw [he, if_neg (by decide)] at hfx
                have HFX := Aside0.mk hfx
                clear hfx
                go_wp2
                go_roundg (gk - 1)
                case measure => have := HN.out; omega
                case rel =>
                  refine ⟨n + 1, ?_, Or.inl ⟨rfl, ⟨by have := HN.out; omega, by have := HN.out; omega, HFX.out⟩, ⟨Kd.R_drewN HO2.out _⟩, ⟨HL2.out.drawnN _⟩, HW2, ⟨pw_below_drewN HB2.out _⟩⟩⟩
                  have : wrap64 ((n : Int) + 1) = ((n + 1 : Nat) : Int) := by
                    unfold wrap64
                    omega
                  first | rfl | simp [this] | (rw [wrapK, this])
            · have v1 : decide ((n : Int) ≤ p) = false := decide_eq_false hn
              have hnone : findV p f ch (p.toNat + 1) 0 = none := by
                rw [← HN.out.2.2, show p.toNat + 1 - n = 0 by omega]
                rfl
              have hrb := HRs.out _ hnone
              obtain ⟨rfl, rfl⟩ : [] = r ∧ false = b := by simpa [resV] using hrb
              clear hrb
              go_wp2
              go_ret2
              exact ⟨_, rfl, Kd.R_nil _ _ _ _ _, HB2.out⟩
          · obtain ⟨m0, m2, m3, _, fz, _, _⟩ := HL2.out.cells
            have hrs := HRs.out _ HX.out.1
            have hrl : rollsV F (ys ++ [(x : Int)]) ([], 10, true) = some (bg', p', f') := by
              rw [HX.out.2.2]
              exact rolls_more F ys _ _ _ HRV.out HX.out.2.1
            have HRL := Aside0.mk hrl
            have HRR := Aside0.mk (show resV (parseV F (s.data.toList.drop (i + 1)) (bg', p', f') (ys ++ [(x : Int)])) = (r, b) by rw [HX.out.2.2]; exact hrs)
            clear hrl hrs
            cases hq : decide ((n : Int) ≤ p') with
            | true =>
              go_wp2
              go_roundg (gko - 1)
              case measure => have := HJ.out; omega
              case rel => exact ⟨i + 1, _, bg', p', f', ow', by first | rfl | simp [hw1] | (rw [wrapK, hw1]), ⟨by have := HJ.out; omega⟩, HO2, HL2, HW2, HG2, HB2, HRL, HRR⟩
            | false =>
              go_wp2
              go_roundg (gko - 1)
              case measure => have := HJ.out; omega
              case rel => exact ⟨i + 1, _, bg', p', f', ow', by first | rfl | simp [hw1] | (rw [wrapK, hw1]), ⟨by have := HJ.out; omega⟩, HO2, HL2, HW2, HG2, HB2, HRL, HRR⟩
    · have u1 : decide ((i : Int) < (s.size : Int)) = false := decide_eq_false (by omega)
      have u2 : decide (i < s.size) = false := decide_eq_false hi
      have hi2 : s.data.toList.drop i = [] := List.drop_eq_nil_of_le (by simp; omega)
      have h := HY.out
      rw [hi2] at h
      obtain ⟨rfl, rfl⟩ : ys = r ∧ true = b := by simpa [parseV, resV] using h
      go_wp2
      go_ret2
      exact ⟨_, rfl, Kd.R_mono HO.out (fun _ _ => trivial), HB.out⟩
set_option maxRecDepth 100000 in
set_option maxHeartbeats 8000000 in
theorem parse_calls (w : World) (F : Int) (s : ByteArray) (hs : s.size ≤ 140737488351232) :
    Calls Tryd.prog 6 #[.int .i64 F, .string s] w fun e w' => ∃ v0 : Value, e = .returned (.tuple #[v0, .bool (parseOf F s).2]) ∧ Kd.R (Kd.int .i64) 3 w' w.heap.size (fun _ => True) v0 (parseOf F s).1 ∧ Below w.heap.size w w' := by
  by_cases hF : 1 ≤ F ∧ F ≤ 10
  · obtain ⟨G, rfl⟩ : ∃ G : Nat, F = (G : Int) := ⟨F.toNat, by omega⟩
    exact parse_walk w G s (by omega) (by omega) hs _ _ (by unfold parseOf; rw [if_pos hF, Int.toNat_natCast]) (fun m w1 h => Tryd.strconv_Itoa_small m h w1)
  · rw [show parseOf F s = ([], false) by unfold parseOf; rw [if_neg hF]]
    have t1 : decide (1 ≤ F ∧ F ≤ 10) = false := decide_eq_false hF
    go_enter Tryd.func6, Tryd.ntmps6
    go_wp2_with (go_at_call 14; refine (within_calls _ _ _ _).mono ?_; rw [t1]; rintro e w' ⟨rfl, ⟨nd1, rfl⟩⟩)
    go_ret2
    exact ⟨_, rfl, Kd.R_nil _ _ _ _ _, by first | exact pw_below_drewN (Below.refl _ _) _ | exact Below.refl _ _⟩
end Go.Proofs.YtdioconinnpmmaaDoor.Lane
