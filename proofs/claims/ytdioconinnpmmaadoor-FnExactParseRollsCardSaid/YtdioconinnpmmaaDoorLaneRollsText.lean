/- What the program's function answers on a lane: for every number of frames and every list of rolls. -/
import Derived.Test.YtdioconinnpmmaaDoorLaneR
import Derived.Test.YtdioconinnpmmaaDoorLaneSign
import Derived.Test.YtdioconinnpmmaaDoorLaneAreRolls
set_option linter.unusedVariables false
set_option linter.unusedSimpArgs false
namespace Go.Proofs.YtdioconinnpmmaaDoor.Lane
open Go.RowKit Go.Proofs.YtdioconinnpmmaaDoorW.PrintWords Go.Proofs.YtdioconinnpmmaaDoorW.PrintLast
def stepT (F : Nat) (s : List (List Int) × Int × Bool) (n : Int) : List (List Int) × Int × Bool := (begV F s.1 n, endV F ((begV F s.1 n).length - 1) (begV F s.1 n) (s.2.1 - n))
/-- The signs of balls, from a state on. -/
def textV (F : Nat) : List Int → List (List Int) × Int × Bool → List UInt8
  | [], _ => []
  | n :: t, s => (signV s.2.1 s.2.2 n).data.toList ++ textV F t (stepT F s n)
def textOf (F : Int) (xs : List Int) : ByteArray × Bool := match readV F xs with
  | some _ => (⟨(textV F.toNat xs ([], 10, true)).toArray⟩, true)
  | none => (⟨#[]⟩, false)
theorem LN.typed {w : World} {base : Nat} {own : Nat → Prop} {g : Nat} {fr pins : Int} {bg : List (List Int)} {fresh : Bool} (h : LN w base own g fr bg pins fresh) :
    LN w base (fun k => own k ∧ ∃ cells t, w.heap[k]? = some (.cells cells t (0, 0)) ∧ (t = 37 ∨ t = 22 ∨ t = 3)) g fr bg pins fresh := by
  obtain ⟨bv, vs, h1, h2, h3, h4, h5, h6, h7, h8⟩ := h
  refine ⟨bv, vs, h1, h2, ⟨h3, _, _, h1, Or.inl rfl⟩, h4, fun k hk => ⟨h5 k hk, ?_⟩, h6, fun i hi hi' => ⟨(h7 i hi hi').1, fun k hk => ⟨(h7 i hi hi').2 k hk, ?_⟩⟩, h8⟩
  · obtain ⟨cells, hc⟩ := own_typed h4 k hk
    exact ⟨cells, _, hc, Or.inr (Or.inl rfl)⟩
  · obtain ⟨cells, hc⟩ := own_typed (h7 i hi hi').1 k hk
    exact ⟨cells, _, hc, Or.inr (Or.inr rfl)⟩
/-- A lane's blocks are none of a builder's. -/
def Aw (w : World) (b : Nat) (own : Nat → Prop) : Prop := ∀ k, own k → k ≠ b ∧ ∃ cells t, w.heap[k]? = some (.cells cells t (0, 0)) ∧ (t = 37 ∨ t = 22 ∨ t = 3)
theorem Aw.others {w w' : World} {b : Nat} {own : Nat → Prop} (h : Aw w b own) (hk : Lib.OthersKept 5 (some b) w w') : ∀ k, own k → w'.heap[k]? = w.heap[k]? := by
  intro k ho
  obtain ⟨hne, cells, t, hc, ht⟩ := h k ho
  rw [hc]
  refine hk k _ hc (fun e => hne (by injection e)) (fun c fz e => ?_)
  injection e with e1 e2 e3
  rcases ht with rfl | rfl | rfl <;> exact absurd e2 (by decide)
theorem builder_went {w w' : World} {B b : Nat} {bs : List Value} {base : Nat} {own own' : Nat → Prop} (h : Lib.IsBuilderF 44 5 B b bs w) (ha : Aw w b own) (hw : Went base own own' w w') : Lib.IsBuilderF 44 5 B b bs w' := by
  have one : ∀ p, Lib.BuilderAtF 44 5 B b p bs w → Lib.BuilderAtF 44 5 B b p bs w' := by
    rintro p ⟨hB, v, hb, hown, hne⟩
    have hb2 : w'.heap[b]? = w.heap[b]? := hw.kept b (Array.getElem?_eq_some_iff.1 hb).1 (fun ho => (ha b ho).1 rfl)
    refine ⟨hB, v, hb2.trans hb, ⟨hown.1, ?_⟩, hne⟩
    rcases hown.2 with hn | ⟨g, cap, cur, fz, rfl, hg, hh, r⟩
    · exact Or.inl hn
    · refine Or.inr ⟨g, cap, cur, fz, rfl, hg, (hw.kept g (Array.getElem?_eq_some_iff.1 hh).1 (fun ho => ?_)).trans hh, r⟩
      obtain ⟨_, cells, t, hc, ht⟩ := ha g ho
      rw [hc] at hh
      injection hh with hh
      injection hh with e1 e2 e3
      rcases ht with rfl | rfl | rfl <;> exact absurd e2 (by decide)
  exact h.imp (one _) (one _)
theorem Aw.went {w w' : World} {b : Nat} {base : Nat} {own own' : Nat → Prop} (ha : Aw w b own) (hw : Went base own own' w w') (hb : b < w.heap.size) : Aw w' b (fun k => own' k ∧ ∃ cells t, w'.heap[k]? = some (.cells cells t (0, 0)) ∧ (t = 37 ∨ t = 22 ∨ t = 3)) :=
  fun k hk => ⟨fun e => (hw.new k hk.1).elim (fun h => (ha k h).1 e) (fun h => by omega), hk.2⟩
theorem t_i (i l : Nat) (h : i < l) (h1 : l ≤ 21) : wrap64 ((i : Int) + 1) = ((i + 1 : Nat) : Int) := by
  unfold wrap64
  omega
theorem digits_len (m : Nat) (h : m < 100) : (Lib.decDigits m).length ≤ 2 := by
  have : ∀ m : Fin 100, (Lib.decDigits m.1).length ≤ 2 := by decide +kernel
  exact this ⟨m, h⟩
theorem sign_len {p n : Int} {fr : Bool} (h : 0 ≤ n ∧ n ≤ p) (hp : p ≤ 10) : (signV p fr n).size ≤ 2 := by
  unfold signV
  split
  · decide
  · split
    · split <;> decide
    · exact digits_len n.toNat (by omega)
theorem sign_lens {l k : Nat} {s : ByteArray} (h : l ≤ 2 * k) (hk : k ≤ 21) (hs : s.size ≤ 2) : l + s.size ≤ 140737488355328 ∧ l + s.size ≤ 2 * (k + 1) := by omega
theorem text_lens {l s : List UInt8} {i : Nat} (h : l.length ≤ 2 * i) (hi : i < 21) (hs : s.length ≤ 2) : (Lib.byteCells l).length + s.length ≤ 140737488355328 ∧ (l ++ s).length ≤ 2 * (i + 1) := by
  rw [Lib.byteCells_length, List.length_append]
  omega
theorem builder_drawn {w : World} {B b : Nat} {bs : List Value} (h : Lib.IsBuilderF 44 5 B b bs w) (n : Nat) : Lib.IsBuilderF 44 5 B b bs (w.drewN n) := h
theorem others_undrawn {w w' : World} {n : Nat} {o : Option Nat} (h : Lib.OthersKept 5 o (w.drewN n) w') : Lib.OthersKept 5 o w w' := h
theorem Aw.step {w w' : World} {b : Nat} {own : Nat → Prop} (ha : Aw w b own) (h : ∀ k, own k → w'.heap[k]? = w.heap[k]?) : Aw w' b own := fun k ho => ⟨(ha k ho).1, by rw [h k ho]; exact (ha k ho).2⟩
set_option maxRecDepth 100000 in
set_option maxHeartbeats 8000000 in
theorem text_walk (w : World) (F : Nat) (A : Option Addr) (c : Nat) (xs : List Int) (s : List (List Int) × Int × Bool) (hF : 1 ≤ F) (hF9 : F ≤ 10) (hx : xs.length ≤ 21) (hr : ReadsInt w .i64 A xs.length xs) (hs : rollsV F xs ([], 10, true) = some s) (hv : readV (F : Int) xs = some s)
    (HItoa : ∀ (m : Nat) (w1 : World), m < 100 → Calls Tryd.prog 26 #[.int .i64 (m : Int)] w1 fun e w' => e = .returned (.string ⟨(Lib.decDigits m).toArray⟩) ∧ w' = w1)
    (HWrite : ∀ (B b : Nat) (bs : List Value) (s : ByteArray) (w : World), Lib.IsBuilderF 44 5 B b bs w → bs.length + s.size ≤ 140737488355328 → B ≤ w.heap.size →
      Calls Tryd.prog 21 #[.pointer (some ⟨b, 0, none⟩), .string s] w fun e w' => e = .returned (.tuple #[.int .i64 s.size, .nilIface]) ∧ (Lib.BuilderAtF 44 5 B b (.pointer (some ⟨b, 0, none⟩)) (bs ++ Lib.strCells s) w' ∧ Below B w w' ∧ Lib.OthersKept 5 (some b) w w'))
    (HString : ∀ (B b : Nat) (l : List UInt8) (w : World), Lib.IsBuilderF 44 5 B b (Lib.byteCells l) w → B ≤ w.heap.size →
      Calls Tryd.prog 22 #[.pointer (some ⟨b, 0, none⟩)] w fun e w' => e = .returned (.string ⟨l.toArray⟩) ∧ (Lib.IsBuilderF 44 5 B b (Lib.byteCells l) w' ∧ Below B w w' ∧ Lib.OthersKept 5 (some b) w w')) :
    Calls Tryd.prog 12 #[.int .i64 (F : Int), .slice A xs.length c] w fun e w' => e = .returned (.tuple #[.string ⟨(textV F xs ([], 10, true)).toArray⟩, .bool true]) ∧ Below w.heap.size w w' := by
  have HR := Aside0.mk hr
  have HX := Aside0.mk hx
  have HS := Aside0.mk hs
  have hare : ∀ w1, ReadsInt w1 .i64 A xs.length xs → Calls Tryd.prog 20 #[.int .i64 (F : Int), .slice A xs.length c] w1 fun e w' => e = .returned (.bool true) ∧ Below w1.heap.size w1 w' := fun w1 h => by
    have := areRolls_calls w1 (F : Int) A c xs h
    rw [hv] at this
    exact this
  have HA := Aside0.mk hare
  have HI := Aside0.mk HItoa
  have HW := Aside0.mk HWrite
  have HT := Aside0.mk HString
  clear hr hx hs hv hare HItoa HWrite HString
  go_enter Tryd.func12, Tryd.ntmps12
  go_wp2_with (first | (go_at_call 20; refine (HA.out _ HR.out).mono ?_; rintro e w1 ⟨rfl, hb1⟩) | (go_at_call 15; refine (new_calls _ _).mono ?_; rintro e w2 ⟨rfl, nd, rfl⟩))
  have hle : w.heap.size ≤ w1.heap.size := hb1.size
  have hl0 := (LN.start w1 w.heap.size nd (F : Int) hle).typed
  generalize hW2 : (w1.drewN nd).alloc (.cells #[.int .i64 (F : Int), .slice none 0 0, .int .i64 10, .bool true] 37) = W2 at *
  have hz2 : W2.heap.size = w1.heap.size + 1 := by rw [← hW2]; simp [World.alloc, World.drewN]
  have hb2 : Below w.heap.size w W2 := by rw [← hW2]; exact below_alloc (pw_below_drewN hb1 _) _
  clear hW2
  have haw0 : Aw (W2.alloc (.cells #[.pointer none, .slice none 0 0] 44)) (w1.heap.size + 1) (fun k => (fun k => w1.heap.size ≤ k) k ∧ ∃ cells t, W2.heap[k]? = some (.cells cells t (0, 0)) ∧ (t = 37 ∨ t = 22 ∨ t = 3)) := by
    rintro k ⟨h1, cells, t, hc, ht⟩
    have hk := (Array.getElem?_eq_some_iff.1 hc).1
    refine ⟨by omega, cells, t, ?_, ht⟩
    rw [heap_alloc_old W2 _ hk]
    exact hc
  have hl1 := LN.step (w1 := W2.alloc (.cells #[.pointer none, .slice none 0 0] 44)) hl0 (fun k _ hk => heap_alloc_old W2 _ hk)
  have hbd0 : Lib.IsBuilderF 44 5 w.heap.size (w1.heap.size + 1) (Lib.byteCells []) (W2.alloc (.cells #[.pointer none, .slice none 0 0] 44)) := by
    refine Or.inl ⟨by omega, .slice none 0 0, ?_, ?_, by simp [Value.ownBlock]⟩
    · rw [← hz2]; exact heap_alloc_new W2 _
    · exact World.ownsRowF_of (own_nil _ _ _ _)
  have hb3 : Below w.heap.size w (W2.alloc (.cells #[.pointer none, .slice none 0 0] 44)) := below_alloc hb2 _
  have hsz3 : w1.heap.size + 1 < (W2.alloc (.cells #[.pointer none, .slice none 0 0] 44)).heap.size := by
    show w1.heap.size + 1 < (W2.heap.push _).size
    rw [Array.size_push]
    omega
  generalize W2.alloc (.cells #[.pointer none, .slice none 0 0] 44) = W3 at *
  generalize w1.heap.size + 1 = b at *
  generalize w1.heap.size = g at *
  clear hb1 hb2 hz2 hl0 HA
  go_loopg [19] (xs.length + 1) (fun kq v19 wx => ∃ (i : Nat) (bg : List (List Int)) (p : Int) (f : Bool) (own : Nat → Prop) (l : List UInt8), v19 = .int .i64 (i : Int) ∧ Aside0 (i + kq = xs.length + 1 ∧ i ≤ xs.length) ∧ Aside0 (rollsV F (xs.drop i) (bg, p, f) = some s) ∧ Aside0 (Lib.IsBuilderF 44 5 w.heap.size b (Lib.byteCells l) wx ∧ l.length ≤ 2 * i ∧ l ++ textV F (xs.drop i) (bg, p, f) = textV F xs ([], 10, true)) ∧ Aside0 (LN wx w.heap.size own g F bg p f ∧ Aw wx b own ∧ b < wx.heap.size) ∧ Aside0 (Good F bg ∧ 0 ≤ p ∧ p ≤ 10) ∧ Aside0 (Below w.heap.size w wx))
  case atStart => exact ⟨0, [], 10, true, _, [], by simp, ⟨by omega⟩, ⟨by simpa using HS.out⟩, ⟨hbd0, by simp, by simp⟩, ⟨hl1, haw0, hsz3⟩, ⟨good_start F, by decide, by decide⟩, ⟨hb3⟩⟩
  case round =>
    obtain ⟨i, bg, p, f, own, l, rfl, HJ, HV, HD, HL, HG, HB⟩ := hrel
    clear hb3 hsz3 hl1 haw0 hbd0
    by_cases hi : i < xs.length
    · obtain ⟨ad, rfl, hc⟩ := HR.out.2.2 (by omega)
      have hci := pw_cell_below HB.out (hc i hi)
      have u1 : decide ((i : Int) < (xs.length : Int)) = true := decide_eq_true (by omega)
      have u2 : decide (i < xs.length) = true := decide_eq_true hi
      have hst : rollsV F (xs.drop i) (bg, p, f) = if mayV F bg p (xs.getD i 0) = true then rollsV F (xs.drop (i + 1)) (begV F bg (xs.getD i 0), endV F ((begV F bg (xs.getD i 0)).length - 1) (begV F bg (xs.getD i 0)) (p - xs.getD i 0)) else none := by
        rw [List.drop_eq_getElem_cons hi]
        show (if mayV F bg p xs[i] = true then _ else _) = _
        simp [List.getD_eq_getElem?_getD, List.getElem?_eq_getElem hi]
      have htx : textV F (xs.drop i) (bg, p, f) = (signV p f (xs.getD i 0)).data.toList ++ textV F (xs.drop (i + 1)) (stepT F (bg, p, f) (xs.getD i 0)) := by
        rw [List.drop_eq_getElem_cons hi]
        show (signV p f xs[i]).data.toList ++ _ = _
        simp [List.getD_eq_getElem?_getD, List.getElem?_eq_getElem hi]
      rw [hst] at HV
      rw [htx] at HD
      clear hst htx hc
      have hi21 : i < 21 := by have := HX.out; omega
      generalize xs.getD i 0 = x at *
      cases hm : mayV F bg p x with
      | false =>
        rw [hm] at HV
        exact absurd HV.out (by simp)
      | true =>
        rw [hm, if_pos rfl] at HV
        have hm2 : 0 ≤ x ∧ x ≤ p := by
          have hm2 := hm
          unfold mayV at hm2
          simp only [Bool.and_eq_true, decide_eq_true_eq] at hm2
          exact hm2.2
        have HLn := Aside0.mk (text_lens (s := (signV p f x).data.toList) HD.out.2.1 hi21 (by rw [Array.length_toList]; exact sign_len (fr := f) hm2 HG.out.2.2))
        have HLs := Aside0.mk (show (Lib.byteCells l).length + (signV p f x).size ≤ 140737488355328 by have := HLn.out.1; rw [Array.length_toList] at this; exact this)
        have HBs := Aside0.mk (show w.heap.size ≤ wr.heap.size from HB.out.size)
        have HM := Aside0.mk hm2
        have Hm := Aside0.mk hm
        clear hm2 hm
        go_wp2_with (first | (go_at_call 16; refine (sign_calls x HL.out.1 HM.out HG.out.2.2 HI.out).mono ?_; rintro e w4 ⟨rfl, ⟨nd4, rfl⟩⟩) | (go_at_call 21; refine (HW.out w.heap.size b (Lib.byteCells l) (signV p f x) (wr.drewN nd4) (builder_drawn HD.out.1 nd4) HLs.out HBs.out).mono ?_; rintro e w5 ⟨rfl, hbd5, hbl5, hok5⟩) | (go_at_call 17; refine (roll_calls x (LN.step HL.out.1 (fun k ho _ => HL.out.2.1.others (others_undrawn hok5) k ho)) hF hF9 HG.out.1 HG.out.2.2).mono ?_; rw [Hm.out]; rintro e w6 ⟨rfl, hw6⟩))
        rw [if_pos trivial] at hw6
        obtain ⟨own', hL', hW'⟩ := hw6
        have hbl6 : Below w.heap.size wr w5 := (pw_below_drewN (Below.refl _ _) nd4).trans hbl5
        have ho5 := HL.out.2.1.others (others_undrawn hok5)
        have haw5 := HL.out.2.1.step ho5
        have hb5 : b < w5.heap.size := Nat.lt_of_lt_of_le HL.out.2.2 hbl6.size
        have hbd5' : Lib.IsBuilderF 44 5 w.heap.size b (Lib.byteCells (l ++ (signV p f x).data.toList)) w5 := by
          rw [Lib.byteCells_append, ← Lib.strCells_eq]
          exact Or.inr hbd5
        have hbd6 := builder_went hbd5' haw5 hW'
        have haw6 := haw5.went hW' hb5
        have hl6 := hL'.typed
        have hB6 := (HB.out.trans hbl6).trans hW'.below
        have hb6 : b < w6.heap.size := Nat.lt_of_lt_of_le hb5 hW'.below.size
        clear hL' hW' hbd5 hbd5' haw5 ho5
        go_roundg (gk - 1)
        case measure => have := HJ.out; omega
        case rel =>
          refine ⟨i + 1, _, _, _, _, l ++ (signV p f x).data.toList, ?_, ⟨by have := HJ.out; omega⟩, HV, ⟨hbd6, HLn.out.2, ?_⟩, ⟨hl6, haw6, hb6⟩, ⟨good_beg hF HG.out.1 Hm.out HG.out.2.2, end_pins HM.out HG.out.2.2⟩, ⟨hB6⟩⟩
          · have : wrap64 ((i : Int) + 1) = ((i + 1 : Nat) : Int) := by
              unfold wrap64
              omega
            first | rfl | simp [this] | (rw [wrapK, this])
          · rw [List.append_assoc]
            exact HD.out.2.2
    · have u1 : decide ((i : Int) < (xs.length : Int)) = false := decide_eq_false (by omega)
      have u2 : decide (i < xs.length) = false := decide_eq_false hi
      have hi2 : xs.drop i = [] := List.drop_eq_nil_of_le (by omega)
      rw [hi2] at HD
      have hle : l = textV F xs ([], 10, true) := by rw [← HD.out.2.2]; simp [textV]
      subst hle
      have HBs := Aside0.mk (show w.heap.size ≤ wr.heap.size from HB.out.size)
      go_wp2_with (go_at_call 22; refine (HT.out w.heap.size b _ _ HD.out.1 HBs.out).mono ?_; rintro e w4 ⟨rfl, _, hbl, _⟩)
      go_ret2
      exact ⟨rfl, HB.out.trans hbl⟩
set_option maxRecDepth 100000 in
set_option maxHeartbeats 8000000 in
theorem text_calls (w : World) (F : Int) (A : Option Addr) (c : Nat) (xs : List Int) (hr : ReadsInt w .i64 A xs.length xs) :
    Calls Tryd.prog 12 #[.int .i64 F, .slice A xs.length c] w fun e w' => e = .returned (.tuple #[.string (textOf F xs).1, .bool (textOf F xs).2]) ∧ Below w.heap.size w w' := by
  cases hv : readV F xs with
  | none =>
    rw [show textOf F xs = (⟨#[]⟩, false) by unfold textOf; rw [hv]]
    have hare : ∀ w1, ReadsInt w1 .i64 A xs.length xs → Calls Tryd.prog 20 #[.int .i64 F, .slice A xs.length c] w1 fun e w' => e = .returned (.bool false) ∧ Below w1.heap.size w1 w' := fun w1 h => by
      have := areRolls_calls w1 F A c xs h
      rw [hv] at this
      exact this
    go_enter Tryd.func12, Tryd.ntmps12
    go_wp2_with (go_at_call 20; refine (hare _ hr).mono ?_; rintro e w1 ⟨rfl, hb1⟩)
    go_ret2
    exact ⟨rfl, hb1⟩
  | some s =>
    rw [show textOf F xs = (⟨(textV F.toNat xs ([], 10, true)).toArray⟩, true) by unfold textOf; rw [hv]]
    have hF : 1 ≤ F ∧ F ≤ 10 ∧ xs.length ≤ 21 := by
      by_cases h : 1 ≤ F ∧ F ≤ 10 ∧ xs.length ≤ 21
      · exact h
      · unfold readV at hv
        rw [if_neg h] at hv
        cases hv
    have hs : rollsV F.toNat xs ([], 10, true) = some s := by
      have h := hv
      unfold readV at h
      rw [if_pos hF] at h
      exact h
    obtain ⟨G, rfl⟩ : ∃ G : Nat, F = (G : Int) := ⟨F.toNat, by omega⟩
    exact text_walk w G A c xs s (by omega) (by omega) hF.2.2 hr hs hv (fun m w1 h => Tryd.strconv_Itoa_small m h w1) (fun B b bs s w h1 h2 h3 => Tryd.Builder_WriteString_k B b bs s w h1 h2 h3) (fun B b l w h1 h2 => Tryd.Builder_String_any_k B b l w h1 h2)
end Go.Proofs.YtdioconinnpmmaaDoor.Lane
