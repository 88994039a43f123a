/- Walks of the functions that the law reaches: each comes to just what the function that is told of it tells, for all arguments. -/
import Derived.Test.YtcmlmjgoidpabaaGreatDoorYMFnDartsPlayedx8
import Derived.Test.YtcmlmjgoidpabaaGreatDoorYMFnDartsPlayedx16
import Derived.Test.YtcmlmjgoidpabaaGreatDoorYMFnDartsPlayedx20
import Derived.Test.YtcmlmjgoidpabaaGreatDoorYMFnDartsPlayedx21
namespace Go.Proofs.YtcmlmjgoidpabaaGreatDoor.MFnDartsPlayed
open Go.RowKit Go.Proofs.YtcmlmjgoidpabaaGreatDoorW.PrintWords Go.Proofs.YtcmlmjgoidpabaaGreatDoorW.PrintLast Go.Proofs.YtcmlmjgoidpabaaGreatDoorW.PrintMore
attribute [local go_sem] max2_int min2_int max_two min_two max_three min_three max_four min_four
set_option linter.unusedVariables false
set_option linter.unusedSimpArgs false
attribute [local go_sem high] eqA52
mutual
def laws_FnDartsPlayed.j0 : Nat → List Int → List Int → Option (Bool)
 | 0, _, _ => none
 | k + 1, x0, x1 => (spec_DrawLeftAfter.f k x0).bind fun bt710 => ((impl_LeftAfter.f k bt710.1 bt710.2).bind fun bt714 => ((spec_LeftAfter.f k bt710.1 bt710.2).bind fun bt716 => ((impl_IsBust.f k bt710.1 bt710.2).bind fun bt718 => ((spec_IsBust.f k bt710.1 bt710.2).bind fun bt720 => (if (bt714.2 != bt716.2) = true then (none) else (if bt714.1 = bt716.1 then (if (bt718.2 != bt720.2) = true then (none) else (if (bt718.1 != bt720.1) = true then (none) else (laws_FnDartsPlayed.j1 k x1 bt710.1 bt710.2 bt714.1 bt714.2 bt718.1 (bt718.2 != bt714.2)))) else (none)))))))
def laws_FnDartsPlayed.j1 : Nat → List Int → Int → List (S52) → Int → Bool → Bool → Bool → Option (Bool)
 | 0, _, _, _, _, _, _, _ => none
 | k + 1, x1, x5, x6, x7, x8, x11, x148 => if x148 = true then (none) else (laws_FnDartsPlayed.j2 k x1 x5 x6 x7 x8 x11)
def laws_FnDartsPlayed.j2 : Nat → List Int → Int → List (S52) → Int → Bool → Bool → Option (Bool)
 | 0, _, _, _, _, _, _ => none
 | k + 1, x1, x5, x6, x7, x8, x11 => if x8 = true then ((laws_bAll.f k x6).bind fun bt722 => (if bt722.2 = true then (if (x6.length : Int) < 1 then (none) else (if (x6.length : Int) > 3 then (none) else (if x11 = true then (if x7 = x5 then (if x7 = 1 then (if x5 = 1 then (laws_FnDartsPlayed.j3 k x1) else (none)) else (laws_FnDartsPlayed.j3 k x1)) else (none)) else (if x7 = (wrap64 (x5 - bt722.1)) then (if x7 = 1 then (if x5 = 1 then (if x7 = 0 then (if 0 ≤ (wrap64 ((x6.length : Int) - 1)) then (if (wrap64 ((x6.length : Int) - 1)) < (x6.length : Int) then (if ((rd_T52 x6 (wrap64 ((x6.length : Int) - 1))).f1) = 2 then (laws_FnDartsPlayed.j3 k x1) else (none)) else (none)) else (none)) else (laws_FnDartsPlayed.j3 k x1)) else (none)) else (if x7 = 0 then (if 0 ≤ (wrap64 ((x6.length : Int) - 1)) then (if (wrap64 ((x6.length : Int) - 1)) < (x6.length : Int) then (if ((rd_T52 x6 (wrap64 ((x6.length : Int) - 1))).f1) = 2 then (laws_FnDartsPlayed.j3 k x1) else (none)) else (none)) else (none)) else (laws_FnDartsPlayed.j3 k x1))) else (none))))) else (none))) else (laws_FnDartsPlayed.j3 k x1)
def laws_FnDartsPlayed.j3 : Nat → List Int → Option (Bool)
 | 0, _ => none
 | k + 1, x1 => (spec_DrawPlayLeg.f k x1).bind fun bt726 => ((impl_PlayLeg.f k bt726.1 bt726.2).bind fun bt730 => ((spec_PlayLeg.f k bt726.1 bt726.2).bind fun bt734 => ((spec_DrawScoreOf.f k x1).bind fun t738 => ((impl_ScoreOf.f k t738).bind fun bt741 => ((spec_ScoreOf.f k t738).bind fun bt743 => ((impl_DartsText.f k t738).bind fun bt745 => ((spec_DartsText.f k t738).bind fun bt747 => ((spec_DrawParseDarts.f k x1).bind fun t749 => ((impl_ParseDarts.f k t749).bind fun bt750 => ((spec_ParseDarts.f k t749).bind fun bt754 => ((spec_DrawIsDart.f x1).bind fun bt758 => ((impl_DartText.f bt758.1 bt758.2).bind fun bt761 => ((spec_DartText.f k bt758.1 bt758.2).bind fun bt763 => ((spec_DrawParseDart.f k x1).bind fun t765 => ((impl_ParseDart.f k t765).bind fun bt766 => ((spec_ParseDart.f k t765).bind fun bt770 => ((spec_DrawBesideOf.f x1).bind fun t774 => ((impl_BesideOf.f k t774).bind fun bt775 => ((spec_BesideOf.f k t774).bind fun bt778 => ((spec_DrawStepsAround.f x1).bind fun bt781 => ((impl_StepsAround.f k bt781.1 bt781.2).bind fun bt783 => ((spec_StepsAround.f k bt781.1 bt781.2).bind fun bt785 => ((spec_DrawBestArc.f x1).bind fun t787 => ((impl_BestArc.f k t787).bind fun bt788 => ((spec_BestArc.f k t787).bind fun bt791 => (if (bt730.2 != bt734.2) = true then (none) else ((laws_bSame.f k bt730.1 bt734.1).bind fun t794 => (if t794 = true then (if (bt741.2 != bt743.2) = true then (none) else (if bt741.1 = bt743.1 then (if (bt745.2 != bt747.2) = true then (none) else (if bt745.1.toList = bt747.1.toList then (if (bt750.2 != bt754.2) = true then (none) else ((laws_bDarts.f k bt750.1 bt754.1).bind fun t795 => (if t795 = true then (if (bt761.2 != bt763.2) = true then (none) else (if bt761.1.toList = bt763.1.toList then (if (bt766.2.2 != bt770.2.2) = true then (none) else (if (!(bt766.1 == bt770.1) || (!(bt766.2.1 == bt770.2.1))) = true then (none) else (if (bt775.2.2 != bt778.2.2) = true then (none) else (if bt775.1 = bt778.1 then (if bt775.2.1 = bt778.2.1 then (if (bt783.2 != bt785.2) = true then (none) else (if bt783.1 = bt785.1 then (if (bt788.2.2 != bt791.2.2) = true then (none) else (if bt788.1 = bt791.1 then (if bt788.2.1 = bt791.2.1 then ((impl_IsDart.f bt758.1 bt758.2).bind fun t796 => (if (bt761.2 != t796) = true then (none) else ((impl_IsDart.f bt758.1 bt758.2).bind fun t797 => ((spec_IsDart.f bt758.1 bt758.2).bind fun t798 => (laws_FnDartsPlayed.j4 k bt726.1 bt726.2 bt730.1 bt730.2 t738 bt741.1 bt741.2 bt745.1 bt745.2 t749 bt750.1 bt750.2 bt761.1 bt761.2 t765 bt766.2.2 t774 bt775.1 bt775.2.1 bt775.2.2 bt781.1 bt781.2 bt783.1 bt783.2 t787 bt788.1 bt788.2.1 bt788.2.2 (t797 != t798) bt758.1 bt758.2 bt766.1 bt766.2.1))))) else (none)) else (none))) else (none))) else (none)) else (none))))) else (none))) else (none)))) else (none))) else (none))) else (none)))))))))))))))))))))))))))))
def laws_FnDartsPlayed.j4 : Nat → Int → List (List (S52)) → List Int → Bool → List (S52) → Int → Bool → ByteArray → Bool → ByteArray → List (S52) → Bool → ByteArray → Bool → ByteArray → Bool → Int → Int → Int → Bool → Int → Int → Int → Bool → Int → Int → Int → Bool → Bool → Int → Int → Int → Int → Option (Bool)
 | 0, _, _, _, _, _, _, _, _, _, _, _, _, _, _, _, _, _, _, _, _, _, _, _, _, _, _, _, _, _, _, _, _, _ => none
 | k + 1, x17, x18, x19, x20, x23, x24, x25, x28, x29, x32, x33, x34, x38, x39, x42, x44, x47, x48, x49, x50, x54, x55, x56, x57, x60, x61, x62, x63, x444, x761000, x761001, x770000, x770001 => if x444 = true then (none) else (laws_FnDartsPlayed.j5 k x17 x18 x19 x20 x23 x24 x25 x28 x29 x32 x33 x34 x38 x39 x42 x44 x47 x48 x49 x50 x54 x55 x56 x57 x60 x61 x62 x63 x761000 x761001 x770000 x770001)
def laws_FnDartsPlayed.j5 : Nat → Int → List (List (S52)) → List Int → Bool → List (S52) → Int → Bool → ByteArray → Bool → ByteArray → List (S52) → Bool → ByteArray → Bool → ByteArray → Bool → Int → Int → Int → Bool → Int → Int → Int → Bool → Int → Int → Int → Bool → Int → Int → Int → Int → Option (Bool)
 | 0, _, _, _, _, _, _, _, _, _, _, _, _, _, _, _, _, _, _, _, _, _, _, _, _, _, _, _, _, _, _, _, _ => none
 | k + 1, x17, x18, x19, x20, x23, x24, x25, x28, x29, x32, x33, x34, x38, x39, x42, x44, x47, x48, x49, x50, x54, x55, x56, x57, x60, x61, x62, x63, x761000, x761001, x770000, x770001 => if x20 = true then (if (x19.length : Int) = (wrap64 ((x18.length : Int) + 1)) then (if 0 < (x19.length : Int) then (laws_FnDartsPlayed.j6 k x18 x19 x23 x24 x25 x28 x29 x32 x33 x34 x38 x39 x42 x44 x47 x48 x49 x50 x54 x55 x56 x57 x60 x61 x62 x63 ((rd x19 0) != x17) x761000 x761001 x770000 x770001) else (none)) else (none)) else (laws_FnDartsPlayed.j9 k x23 x24 x25 x28 x29 x32 x33 x34 x38 x39 x42 x44 x47 x48 x49 x50 x54 x55 x56 x57 x60 x61 x62 x63 x761000 x761001 x770000 x770001)
def laws_FnDartsPlayed.j9 : Nat → List (S52) → Int → Bool → ByteArray → Bool → ByteArray → List (S52) → Bool → ByteArray → Bool → ByteArray → Bool → Int → Int → Int → Bool → Int → Int → Int → Bool → Int → Int → Int → Bool → Int → Int → Int → Int → Option (Bool)
 | 0, _, _, _, _, _, _, _, _, _, _, _, _, _, _, _, _, _, _, _, _, _, _, _, _, _, _, _, _ => none
 | k + 1, x23, x24, x25, x28, x29, x32, x33, x34, x38, x39, x42, x44, x47, x48, x49, x50, x54, x55, x56, x57, x60, x61, x62, x63, x761000, x761001, x770000, x770001 => if x25 = true then ((laws_bAll.f k x23).bind fun bt806 => (if bt806.2 = true then (if bt806.1 = x24 then (if (x29 != (decide ((x23.length : Int) > 0))) = true then (none) else (laws_FnDartsPlayed.j10 k x23 x28 x29 x32 x33 x34 x38 x39 x42 x44 x47 x48 x49 x50 x54 x55 x56 x57 x60 x61 x62 x63 x761000 x761001 x770000 x770001)) else (none)) else (none))) else (laws_FnDartsPlayed.j10 k x23 x28 x29 x32 x33 x34 x38 x39 x42 x44 x47 x48 x49 x50 x54 x55 x56 x57 x60 x61 x62 x63 x761000 x761001 x770000 x770001)
def laws_FnDartsPlayed.j10 : Nat → List (S52) → ByteArray → Bool → ByteArray → List (S52) → Bool → ByteArray → Bool → ByteArray → Bool → Int → Int → Int → Bool → Int → Int → Int → Bool → Int → Int → Int → Bool → Int → Int → Int → Int → Option (Bool)
 | 0, _, _, _, _, _, _, _, _, _, _, _, _, _, _, _, _, _, _, _, _, _, _, _, _, _, _ => none
 | k + 1, x23, x28, x29, x32, x33, x34, x38, x39, x42, x44, x47, x48, x49, x50, x54, x55, x56, x57, x60, x61, x62, x63, x761000, x761001, x770000, x770001 => if x29 = true then ((impl_ParseDarts.f k x28).bind fun bt808 => (if bt808.2 = true then ((laws_bDarts.f k bt808.1 x23).bind fun t812 => (if t812 = true then (laws_FnDartsPlayed.j11 k x32 x33 x34 x38 x39 x42 x44 x47 x48 x49 x50 x54 x55 x56 x57 x60 x61 x62 x63 x761000 x761001 x770000 x770001) else (none))) else (none))) else (laws_FnDartsPlayed.j11 k x32 x33 x34 x38 x39 x42 x44 x47 x48 x49 x50 x54 x55 x56 x57 x60 x61 x62 x63 x761000 x761001 x770000 x770001)
def laws_FnDartsPlayed.j11 : Nat → ByteArray → List (S52) → Bool → ByteArray → Bool → ByteArray → Bool → Int → Int → Int → Bool → Int → Int → Int → Bool → Int → Int → Int → Bool → Int → Int → Int → Int → Option (Bool)
 | 0, _, _, _, _, _, _, _, _, _, _, _, _, _, _, _, _, _, _, _, _, _, _, _ => none
 | k + 1, x32, x33, x34, x38, x39, x42, x44, x47, x48, x49, x50, x54, x55, x56, x57, x60, x61, x62, x63, x761000, x761001, x770000, x770001 => if x34 = true then ((impl_DartsText.f k x33).bind fun bt813 => (if bt813.2 = true then (if bt813.1.toList = x32.toList then (laws_FnDartsPlayed.j12 k x38 x39 x42 x44 x47 x48 x49 x50 x54 x55 x56 x57 x60 x61 x62 x63 x761000 x761001 x770000 x770001) else (none)) else (none))) else (laws_FnDartsPlayed.j12 k x38 x39 x42 x44 x47 x48 x49 x50 x54 x55 x56 x57 x60 x61 x62 x63 x761000 x761001 x770000 x770001)
def laws_FnDartsPlayed.j12 : Nat → ByteArray → Bool → ByteArray → Bool → Int → Int → Int → Bool → Int → Int → Int → Bool → Int → Int → Int → Bool → Int → Int → Int → Int → Option (Bool)
 | 0, _, _, _, _, _, _, _, _, _, _, _, _, _, _, _, _, _, _, _, _ => none
 | k + 1, x38, x39, x42, x44, x47, x48, x49, x50, x54, x55, x56, x57, x60, x61, x62, x63, x761000, x761001, x770000, x770001 => if x39 = true then ((impl_ParseDart.f k x38).bind fun bt815 => (if bt815.2.2 = true then (if (!(bt815.1 == x761000) || (!(bt815.2.1 == x761001))) = true then (none) else (laws_FnDartsPlayed.j13 k x42 x44 x47 x48 x49 x50 x54 x55 x56 x57 x60 x61 x62 x63 x770000 x770001)) else (none))) else (laws_FnDartsPlayed.j13 k x42 x44 x47 x48 x49 x50 x54 x55 x56 x57 x60 x61 x62 x63 x770000 x770001)
def laws_FnDartsPlayed.j13 : Nat → ByteArray → Bool → Int → Int → Int → Bool → Int → Int → Int → Bool → Int → Int → Int → Bool → Int → Int → Option (Bool)
 | 0, _, _, _, _, _, _, _, _, _, _, _, _, _, _, _, _ => none
 | k + 1, x42, x44, x47, x48, x49, x50, x54, x55, x56, x57, x60, x61, x62, x63, x770000, x770001 => if x44 = true then ((impl_DartText.f x770000 x770001).bind fun bt819 => (if bt819.2 = true then (if bt819.1.toList = x42.toList then (laws_FnDartsPlayed.j14 k x47 x48 x49 x50 x54 x55 x56 x57 x60 x61 x62 x63) else (none)) else (none))) else (laws_FnDartsPlayed.j14 k x47 x48 x49 x50 x54 x55 x56 x57 x60 x61 x62 x63)
def laws_FnDartsPlayed.j14 : Nat → Int → Int → Int → Bool → Int → Int → Int → Bool → Int → Int → Int → Bool → Option (Bool)
 | 0, _, _, _, _, _, _, _, _, _, _, _, _ => none
 | k + 1, x47, x48, x49, x50, x54, x55, x56, x57, x60, x61, x62, x63 => if x50 = true then ((impl_BesideOf.f k x49).bind fun bt821 => ((impl_StepsAround.f k x48 x49).bind fun bt824 => (if bt821.2.2 = true then (if bt821.1 = x47 then (if bt821.2.1 = x47 then (none) else (if bt824.2 = true then (if bt824.1 = 2 then (laws_FnDartsPlayed.j15 k x54 x55 x56 x57 x60 x61 x62 x63) else (none)) else (none))) else (none)) else (none)))) else (laws_FnDartsPlayed.j15 k x54 x55 x56 x57 x60 x61 x62 x63)
def laws_FnDartsPlayed.j15 : Nat → Int → Int → Int → Bool → Int → Int → Int → Bool → Option (Bool)
 | 0, _, _, _, _, _, _, _, _ => none
 | k + 1, x54, x55, x56, x57, x60, x61, x62, x63 => if x57 = true then ((impl_StepsAround.f k x55 x54).bind fun bt826 => (if bt826.2 = true then (if bt826.1 = x56 then (if x56 < 0 then (none) else (if x56 > 10 then (none) else (if ((x56 == 0) != (x54 == x55)) = true then (none) else (laws_FnDartsPlayed.j16 k x60 x61 x62 x63)))) else (none)) else (none))) else (laws_FnDartsPlayed.j16 k x60 x61 x62 x63)
def laws_FnDartsPlayed.j16 : Nat → Int → Int → Int → Bool → Option (Bool)
 | 0, _, _, _, _ => none
 | k + 1, x60, x61, x62, x63 => if x63 = true then (laws_FnDartsPlayed.l1 k x60 x61 x62 0 x61 0) else (some true)
def laws_FnDartsPlayed.l1 : Nat → Int → Int → Int → Int → Int → Int → Option (Bool)
 | 0, _, _, _, _, _, _ => none
 | k + 1, x60, x61, x62, x88, x89, x90 => if x90 < x60 then ((impl_BesideOf.f k x89).bind fun bt828 => (if bt828.2.2 = true then (laws_FnDartsPlayed.l1 k x60 x61 x62 (wrap64 (x88 + x89)) bt828.2.1 (wrap64 (x90 + 1))) else (none))) else (if x88 = x62 then (if x60 = 20 then (if x62 = 210 then (if x61 = 20 then (some true) else (none)) else (none)) else (some true)) else (none))
def laws_FnDartsPlayed.j6 : Nat → List (List (S52)) → List Int → List (S52) → Int → Bool → ByteArray → Bool → ByteArray → List (S52) → Bool → ByteArray → Bool → ByteArray → Bool → Int → Int → Int → Bool → Int → Int → Int → Bool → Int → Int → Int → Bool → Bool → Int → Int → Int → Int → Option (Bool)
 | 0, _, _, _, _, _, _, _, _, _, _, _, _, _, _, _, _, _, _, _, _, _, _, _, _, _, _, _, _, _, _, _ => none
 | k + 1, x18, x19, x23, x24, x25, x28, x29, x32, x33, x34, x38, x39, x42, x44, x47, x48, x49, x50, x54, x55, x56, x57, x60, x61, x62, x63, x458, x761000, x761001, x770000, x770001 => if x458 = true then (none) else (laws_FnDartsPlayed.j7 k x18 x19 x23 x24 x25 x28 x29 x32 x33 x34 x38 x39 x42 x44 x47 x48 x49 x50 x54 x55 x56 x57 x60 x61 x62 x63 x761000 x761001 x770000 x770001)
def laws_FnDartsPlayed.j7 : Nat → List (List (S52)) → List Int → List (S52) → Int → Bool → ByteArray → Bool → ByteArray → List (S52) → Bool → ByteArray → Bool → ByteArray → Bool → Int → Int → Int → Bool → Int → Int → Int → Bool → Int → Int → Int → Bool → Int → Int → Int → Int → Option (Bool)
 | 0, _, _, _, _, _, _, _, _, _, _, _, _, _, _, _, _, _, _, _, _, _, _, _, _, _, _, _, _, _, _ => none
 | k + 1, x18, x19, x23, x24, x25, x28, x29, x32, x33, x34, x38, x39, x42, x44, x47, x48, x49, x50, x54, x55, x56, x57, x60, x61, x62, x63, x761000, x761001, x770000, x770001 => laws_FnDartsPlayed.l0 k x19 x23 x24 x25 x28 x29 x32 x33 x34 x38 x39 x42 x44 x47 x48 x49 x50 x54 x55 x56 x57 x60 x61 x62 x63 x18 (x18.length : Int) 0 x761000 x761001 x770000 x770001
def laws_FnDartsPlayed.l0 : Nat → List Int → List (S52) → Int → Bool → ByteArray → Bool → ByteArray → List (S52) → Bool → ByteArray → Bool → ByteArray → Bool → Int → Int → Int → Bool → Int → Int → Int → Bool → Int → Int → Int → Bool → List (List (S52)) → Int → Int → Int → Int → Int → Int → Option (Bool)
 | 0, _, _, _, _, _, _, _, _, _, _, _, _, _, _, _, _, _, _, _, _, _, _, _, _, _, _, _, _, _, _, _, _ => none
 | k + 1, x19, x23, x24, x25, x28, x29, x32, x33, x34, x38, x39, x42, x44, x47, x48, x49, x50, x54, x55, x56, x57, x60, x61, x62, x63, x459, x460, x461, x761000, x761001, x770000, x770001 => if x461 < x460 then (if 0 ≤ x461 then (if x461 < (x459.length : Int) then (if x461 < (x19.length : Int) then ((impl_LeftAfter.f k (rd x19 x461) (rd_L3 x459 x461)).bind fun bt802 => (if bt802.2 = true then (if 0 ≤ (wrap64 (x461 + 1)) then (if (wrap64 (x461 + 1)) < (x19.length : Int) then (if bt802.1 = (rd x19 (wrap64 (x461 + 1))) then (if bt802.1 > (rd x19 x461) then (none) else (laws_FnDartsPlayed.l0 k x19 x23 x24 x25 x28 x29 x32 x33 x34 x38 x39 x42 x44 x47 x48 x49 x50 x54 x55 x56 x57 x60 x61 x62 x63 x459 x460 (wrap64 (x461 + 1)) x761000 x761001 x770000 x770001)) else (none)) else (none)) else (none)) else (none))) else (none)) else (none)) else (none)) else (laws_FnDartsPlayed.j9 k x23 x24 x25 x28 x29 x32 x33 x34 x38 x39 x42 x44 x47 x48 x49 x50 x54 x55 x56 x57 x60 x61 x62 x63 x761000 x761001 x770000 x770001)
end
def laws_FnDartsPlayed.f (k : Nat) (l0 : List Int) (l1 : List Int) : Option (Bool) := (laws_big.f l0 l1).bind fun t709 => (if t709 = true then (some true) else (laws_FnDartsPlayed.j0 k l0 l1))
theorem laws_FnDartsPlayed.mono_l : ∀ k, (∀ y0 y1, LeO (laws_FnDartsPlayed.j0 k y0 y1) (laws_FnDartsPlayed.j0 (k + 1) y0 y1)) ∧ (∀ y0 y1 y2 y3 y4 y5 y6, LeO (laws_FnDartsPlayed.j1 k y0 y1 y2 y3 y4 y5 y6) (laws_FnDartsPlayed.j1 (k + 1) y0 y1 y2 y3 y4 y5 y6)) ∧ (∀ y0 y1 y2 y3 y4 y5, LeO (laws_FnDartsPlayed.j2 k y0 y1 y2 y3 y4 y5) (laws_FnDartsPlayed.j2 (k + 1) y0 y1 y2 y3 y4 y5)) ∧ (∀ y0, LeO (laws_FnDartsPlayed.j3 k y0) (laws_FnDartsPlayed.j3 (k + 1) y0)) ∧ (∀ y0 y1 y2 y3 y4 y5 y6 y7 y8 y9 y10 y11 y12 y13 y14 y15 y16 y17 y18 y19 y20 y21 y22 y23 y24 y25 y26 y27 y28 y29 y30 y31 y32, LeO (laws_FnDartsPlayed.j4 k y0 y1 y2 y3 y4 y5 y6 y7 y8 y9 y10 y11 y12 y13 y14 y15 y16 y17 y18 y19 y20 y21 y22 y23 y24 y25 y26 y27 y28 y29 y30 y31 y32) (laws_FnDartsPlayed.j4 (k + 1) y0 y1 y2 y3 y4 y5 y6 y7 y8 y9 y10 y11 y12 y13 y14 y15 y16 y17 y18 y19 y20 y21 y22 y23 y24 y25 y26 y27 y28 y29 y30 y31 y32)) ∧ (∀ y0 y1 y2 y3 y4 y5 y6 y7 y8 y9 y10 y11 y12 y13 y14 y15 y16 y17 y18 y19 y20 y21 y22 y23 y24 y25 y26 y27 y28 y29 y30 y31, LeO (laws_FnDartsPlayed.j5 k y0 y1 y2 y3 y4 y5 y6 y7 y8 y9 y10 y11 y12 y13 y14 y15 y16 y17 y18 y19 y20 y21 y22 y23 y24 y25 y26 y27 y28 y29 y30 y31) (laws_FnDartsPlayed.j5 (k + 1) y0 y1 y2 y3 y4 y5 y6 y7 y8 y9 y10 y11 y12 y13 y14 y15 y16 y17 y18 y19 y20 y21 y22 y23 y24 y25 y26 y27 y28 y29 y30 y31)) ∧ (∀ y0 y1 y2 y3 y4 y5 y6 y7 y8 y9 y10 y11 y12 y13 y14 y15 y16 y17 y18 y19 y20 y21 y22 y23 y24 y25 y26 y27, LeO (laws_FnDartsPlayed.j9 k y0 y1 y2 y3 y4 y5 y6 y7 y8 y9 y10 y11 y12 y13 y14 y15 y16 y17 y18 y19 y20 y21 y22 y23 y24 y25 y26 y27) (laws_FnDartsPlayed.j9 (k + 1) y0 y1 y2 y3 y4 y5 y6 y7 y8 y9 y10 y11 y12 y13 y14 y15 y16 y17 y18 y19 y20 y21 y22 y23 y24 y25 y26 y27)) ∧ (∀ y0 y1 y2 y3 y4 y5 y6 y7 y8 y9 y10 y11 y12 y13 y14 y15 y16 y17 y18 y19 y20 y21 y22 y23 y24 y25, LeO (laws_FnDartsPlayed.j10 k y0 y1 y2 y3 y4 y5 y6 y7 y8 y9 y10 y11 y12 y13 y14 y15 y16 y17 y18 y19 y20 y21 y22 y23 y24 y25) (laws_FnDartsPlayed.j10 (k + 1) y0 y1 y2 y3 y4 y5 y6 y7 y8 y9 y10 y11 y12 y13 y14 y15 y16 y17 y18 y19 y20 y21 y22 y23 y24 y25)) ∧ (∀ y0 y1 y2 y3 y4 y5 y6 y7 y8 y9 y10 y11 y12 y13 y14 y15 y16 y17 y18 y19 y20 y21 y22, LeO (laws_FnDartsPlayed.j11 k y0 y1 y2 y3 y4 y5 y6 y7 y8 y9 y10 y11 y12 y13 y14 y15 y16 y17 y18 y19 y20 y21 y22) (laws_FnDartsPlayed.j11 (k + 1) y0 y1 y2 y3 y4 y5 y6 y7 y8 y9 y10 y11 y12 y13 y14 y15 y16 y17 y18 y19 y20 y21 y22)) ∧ (∀ y0 y1 y2 y3 y4 y5 y6 y7 y8 y9 y10 y11 y12 y13 y14 y15 y16 y17 y18 y19, LeO (laws_FnDartsPlayed.j12 k y0 y1 y2 y3 y4 y5 y6 y7 y8 y9 y10 y11 y12 y13 y14 y15 y16 y17 y18 y19) (laws_FnDartsPlayed.j12 (k + 1) y0 y1 y2 y3 y4 y5 y6 y7 y8 y9 y10 y11 y12 y13 y14 y15 y16 y17 y18 y19)) ∧ (∀ y0 y1 y2 y3 y4 y5 y6 y7 y8 y9 y10 y11 y12 y13 y14 y15, LeO (laws_FnDartsPlayed.j13 k y0 y1 y2 y3 y4 y5 y6 y7 y8 y9 y10 y11 y12 y13 y14 y15) (laws_FnDartsPlayed.j13 (k + 1) y0 y1 y2 y3 y4 y5 y6 y7 y8 y9 y10 y11 y12 y13 y14 y15)) ∧ (∀ y0 y1 y2 y3 y4 y5 y6 y7 y8 y9 y10 y11, LeO (laws_FnDartsPlayed.j14 k y0 y1 y2 y3 y4 y5 y6 y7 y8 y9 y10 y11) (laws_FnDartsPlayed.j14 (k + 1) y0 y1 y2 y3 y4 y5 y6 y7 y8 y9 y10 y11)) ∧ (∀ y0 y1 y2 y3 y4 y5 y6 y7, LeO (laws_FnDartsPlayed.j15 k y0 y1 y2 y3 y4 y5 y6 y7) (laws_FnDartsPlayed.j15 (k + 1) y0 y1 y2 y3 y4 y5 y6 y7)) ∧ (∀ y0 y1 y2 y3, LeO (laws_FnDartsPlayed.j16 k y0 y1 y2 y3) (laws_FnDartsPlayed.j16 (k + 1) y0 y1 y2 y3)) ∧ (∀ y0 y1 y2 y3 y4 y5, LeO (laws_FnDartsPlayed.l1 k y0 y1 y2 y3 y4 y5) (laws_FnDartsPlayed.l1 (k + 1) y0 y1 y2 y3 y4 y5)) ∧ (∀ y0 y1 y2 y3 y4 y5 y6 y7 y8 y9 y10 y11 y12 y13 y14 y15 y16 y17 y18 y19 y20 y21 y22 y23 y24 y25 y26 y27 y28 y29 y30, LeO (laws_FnDartsPlayed.j6 k y0 y1 y2 y3 y4 y5 y6 y7 y8 y9 y10 y11 y12 y13 y14 y15 y16 y17 y18 y19 y20 y21 y22 y23 y24 y25 y26 y27 y28 y29 y30) (laws_FnDartsPlayed.j6 (k + 1) y0 y1 y2 y3 y4 y5 y6 y7 y8 y9 y10 y11 y12 y13 y14 y15 y16 y17 y18 y19 y20 y21 y22 y23 y24 y25 y26 y27 y28 y29 y30)) ∧ (∀ y0 y1 y2 y3 y4 y5 y6 y7 y8 y9 y10 y11 y12 y13 y14 y15 y16 y17 y18 y19 y20 y21 y22 y23 y24 y25 y26 y27 y28 y29, LeO (laws_FnDartsPlayed.j7 k y0 y1 y2 y3 y4 y5 y6 y7 y8 y9 y10 y11 y12 y13 y14 y15 y16 y17 y18 y19 y20 y21 y22 y23 y24 y25 y26 y27 y28 y29) (laws_FnDartsPlayed.j7 (k + 1) y0 y1 y2 y3 y4 y5 y6 y7 y8 y9 y10 y11 y12 y13 y14 y15 y16 y17 y18 y19 y20 y21 y22 y23 y24 y25 y26 y27 y28 y29)) ∧ (∀ y0 y1 y2 y3 y4 y5 y6 y7 y8 y9 y10 y11 y12 y13 y14 y15 y16 y17 y18 y19 y20 y21 y22 y23 y24 y25 y26 y27 y28 y29 y30 y31, LeO (laws_FnDartsPlayed.l0 k y0 y1 y2 y3 y4 y5 y6 y7 y8 y9 y10 y11 y12 y13 y14 y15 y16 y17 y18 y19 y20 y21 y22 y23 y24 y25 y26 y27 y28 y29 y30 y31) (laws_FnDartsPlayed.l0 (k + 1) y0 y1 y2 y3 y4 y5 y6 y7 y8 y9 y10 y11 y12 y13 y14 y15 y16 y17 y18 y19 y20 y21 y22 y23 y24 y25 y26 y27 y28 y29 y30 y31))
 | 0 => ⟨fun _ _ r h => by simp [laws_FnDartsPlayed.j0] at h, fun _ _ _ _ _ _ _ r h => by simp [laws_FnDartsPlayed.j1] at h, fun _ _ _ _ _ _ r h => by simp [laws_FnDartsPlayed.j2] at h, fun _ r h => by simp [laws_FnDartsPlayed.j3] at h, fun _ _ _ _ _ _ _ _ _ _ _ _ _ _ _ _ _ _ _ _ _ _ _ _ _ _ _ _ _ _ _ _ _ r h => by simp [laws_FnDartsPlayed.j4] at h, fun _ _ _ _ _ _ _ _ _ _ _ _ _ _ _ _ _ _ _ _ _ _ _ _ _ _ _ _ _ _ _ _ r h => by simp [laws_FnDartsPlayed.j5] at h, fun _ _ _ _ _ _ _ _ _ _ _ _ _ _ _ _ _ _ _ _ _ _ _ _ _ _ _ _ r h => by simp [laws_FnDartsPlayed.j9] at h, fun _ _ _ _ _ _ _ _ _ _ _ _ _ _ _ _ _ _ _ _ _ _ _ _ _ _ r h => by simp [laws_FnDartsPlayed.j10] at h, fun _ _ _ _ _ _ _ _ _ _ _ _ _ _ _ _ _ _ _ _ _ _ _ r h => by simp [laws_FnDartsPlayed.j11] at h, fun _ _ _ _ _ _ _ _ _ _ _ _ _ _ _ _ _ _ _ _ r h => by simp [laws_FnDartsPlayed.j12] at h, fun _ _ _ _ _ _ _ _ _ _ _ _ _ _ _ _ r h => by simp [laws_FnDartsPlayed.j13] at h, fun _ _ _ _ _ _ _ _ _ _ _ _ r h => by simp [laws_FnDartsPlayed.j14] at h, fun _ _ _ _ _ _ _ _ r h => by simp [laws_FnDartsPlayed.j15] at h, fun _ _ _ _ r h => by simp [laws_FnDartsPlayed.j16] at h, fun _ _ _ _ _ _ r h => by simp [laws_FnDartsPlayed.l1] at h, fun _ _ _ _ _ _ _ _ _ _ _ _ _ _ _ _ _ _ _ _ _ _ _ _ _ _ _ _ _ _ _ r h => by simp [laws_FnDartsPlayed.j6] at h, fun _ _ _ _ _ _ _ _ _ _ _ _ _ _ _ _ _ _ _ _ _ _ _ _ _ _ _ _ _ _ r h => by simp [laws_FnDartsPlayed.j7] at h, fun _ _ _ _ _ _ _ _ _ _ _ _ _ _ _ _ _ _ _ _ _ _ _ _ _ _ _ _ _ _ _ _ r h => by simp [laws_FnDartsPlayed.l0] at h⟩
 | k + 1 => by
  obtain ⟨ih0, ih1, ih2, ih3, ih4, ih5, ih6, ih7, ih8, ih9, ih10, ih11, ih12, ih13, ih14, ih15, ih16, ih17⟩ := laws_FnDartsPlayed.mono_l k
  refine ⟨?_, ?_, ?_, ?_, ?_, ?_, ?_, ?_, ?_, ?_, ?_, ?_, ?_, ?_, ?_, ?_, ?_, ?_⟩
  all_goals intros
  all_goals first | unfold laws_FnDartsPlayed.j0 | unfold laws_FnDartsPlayed.j1 | unfold laws_FnDartsPlayed.j2 | unfold laws_FnDartsPlayed.j3 | unfold laws_FnDartsPlayed.j4 | unfold laws_FnDartsPlayed.j5 | unfold laws_FnDartsPlayed.j9 | unfold laws_FnDartsPlayed.j10 | unfold laws_FnDartsPlayed.j11 | unfold laws_FnDartsPlayed.j12 | unfold laws_FnDartsPlayed.j13 | unfold laws_FnDartsPlayed.j14 | unfold laws_FnDartsPlayed.j15 | unfold laws_FnDartsPlayed.j16 | unfold laws_FnDartsPlayed.l1 | unfold laws_FnDartsPlayed.j6 | unfold laws_FnDartsPlayed.j7 | unfold laws_FnDartsPlayed.l0
  all_goals repeat' first
  | (with_reducible exact ih0 _ _)
  | (with_reducible exact ih1 _ _ _ _ _ _ _)
  | (with_reducible exact ih2 _ _ _ _ _ _)
  | (with_reducible exact ih3 _)
  | (with_reducible exact ih4 _ _ _ _ _ _ _ _ _ _ _ _ _ _ _ _ _ _ _ _ _ _ _ _ _ _ _ _ _ _ _ _ _)
  | (with_reducible exact ih5 _ _ _ _ _ _ _ _ _ _ _ _ _ _ _ _ _ _ _ _ _ _ _ _ _ _ _ _ _ _ _ _)
  | (with_reducible exact ih6 _ _ _ _ _ _ _ _ _ _ _ _ _ _ _ _ _ _ _ _ _ _ _ _ _ _ _ _)
  | (with_reducible exact ih7 _ _ _ _ _ _ _ _ _ _ _ _ _ _ _ _ _ _ _ _ _ _ _ _ _ _)
  | (with_reducible exact ih8 _ _ _ _ _ _ _ _ _ _ _ _ _ _ _ _ _ _ _ _ _ _ _)
  | (with_reducible exact ih9 _ _ _ _ _ _ _ _ _ _ _ _ _ _ _ _ _ _ _ _)
  | (with_reducible exact ih10 _ _ _ _ _ _ _ _ _ _ _ _ _ _ _ _)
  | (with_reducible exact ih11 _ _ _ _ _ _ _ _ _ _ _ _)
  | (with_reducible exact ih12 _ _ _ _ _ _ _ _)
  | (with_reducible exact ih13 _ _ _ _)
  | (with_reducible exact ih14 _ _ _ _ _ _)
  | (with_reducible exact ih15 _ _ _ _ _ _ _ _ _ _ _ _ _ _ _ _ _ _ _ _ _ _ _ _ _ _ _ _ _ _ _)
  | (with_reducible exact ih16 _ _ _ _ _ _ _ _ _ _ _ _ _ _ _ _ _ _ _ _ _ _ _ _ _ _ _ _ _ _)
  | (with_reducible exact ih17 _ _ _ _ _ _ _ _ _ _ _ _ _ _ _ _ _ _ _ _ _ _ _ _ _ _ _ _ _ _ _ _)
  | (with_reducible exact impl_BesideOf.mono _ _)
  | (with_reducible exact impl_BestArc.mono _ _)
  | (with_reducible exact impl_DartsText.mono _ _)
  | (with_reducible exact impl_IsBust.mono _ _ _)
  | (with_reducible exact impl_LeftAfter.mono _ _ _)
  | (with_reducible exact impl_ParseDart.mono _ _)
  | (with_reducible exact impl_ParseDarts.mono _ _)
  | (with_reducible exact impl_PlayLeg.mono _ _ _)
  | (with_reducible exact impl_ScoreOf.mono _ _)
  | (with_reducible exact impl_StepsAround.mono _ _ _)
  | (with_reducible exact laws_bAll.mono _ _)
  | (with_reducible exact laws_bDarts.mono _ _ _)
  | (with_reducible exact laws_bSame.mono _ _ _)
  | (with_reducible exact spec_BesideOf.mono _ _)
  | (with_reducible exact spec_BestArc.mono _ _)
  | (with_reducible exact spec_DartText.mono _ _ _)
  | (with_reducible exact spec_DartsText.mono _ _)
  | (with_reducible exact spec_DrawLeftAfter.mono _ _)
  | (with_reducible exact spec_DrawParseDart.mono _ _)
  | (with_reducible exact spec_DrawParseDarts.mono _ _)
  | (with_reducible exact spec_DrawPlayLeg.mono _ _)
  | (with_reducible exact spec_DrawScoreOf.mono _ _)
  | (with_reducible exact spec_IsBust.mono _ _ _)
  | (with_reducible exact spec_LeftAfter.mono _ _ _)
  | (with_reducible exact spec_ParseDart.mono _ _)
  | (with_reducible exact spec_ParseDarts.mono _ _)
  | (with_reducible exact spec_PlayLeg.mono _ _ _)
  | (with_reducible exact spec_ScoreOf.mono _ _)
  | (with_reducible exact spec_StepsAround.mono _ _ _)
  | (with_reducible exact LeO.refl _)
  | (with_reducible exact LeO.none _)
  | (with_reducible refine LeO.ite ?_ ?_)
  | (with_reducible refine LeO.bind ?_ (fun _ => ?_))
theorem laws_FnDartsPlayed.mono : ∀ a0 a1 k, LeO (laws_FnDartsPlayed.f k a0 a1) (laws_FnDartsPlayed.f (k + 1) a0 a1) := by
 intro a0 a1 k
 obtain ⟨ih0, ih1, ih2, ih3, ih4, ih5, ih6, ih7, ih8, ih9, ih10, ih11, ih12, ih13, ih14, ih15, ih16, ih17⟩ := laws_FnDartsPlayed.mono_l k
 unfold laws_FnDartsPlayed.f
 repeat' first
   | (with_reducible exact ih0 _ _)
   | (with_reducible exact ih1 _ _ _ _ _ _ _)
   | (with_reducible exact ih2 _ _ _ _ _ _)
   | (with_reducible exact ih3 _)
   | (with_reducible exact ih4 _ _ _ _ _ _ _ _ _ _ _ _ _ _ _ _ _ _ _ _ _ _ _ _ _ _ _ _ _ _ _ _ _)
   | (with_reducible exact ih5 _ _ _ _ _ _ _ _ _ _ _ _ _ _ _ _ _ _ _ _ _ _ _ _ _ _ _ _ _ _ _ _)
   | (with_reducible exact ih6 _ _ _ _ _ _ _ _ _ _ _ _ _ _ _ _ _ _ _ _ _ _ _ _ _ _ _ _)
   | (with_reducible exact ih7 _ _ _ _ _ _ _ _ _ _ _ _ _ _ _ _ _ _ _ _ _ _ _ _ _ _)
   | (with_reducible exact ih8 _ _ _ _ _ _ _ _ _ _ _ _ _ _ _ _ _ _ _ _ _ _ _)
   | (with_reducible exact ih9 _ _ _ _ _ _ _ _ _ _ _ _ _ _ _ _ _ _ _ _)
   | (with_reducible exact ih10 _ _ _ _ _ _ _ _ _ _ _ _ _ _ _ _)
   | (with_reducible exact ih11 _ _ _ _ _ _ _ _ _ _ _ _)
   | (with_reducible exact ih12 _ _ _ _ _ _ _ _)
   | (with_reducible exact ih13 _ _ _ _)
   | (with_reducible exact ih14 _ _ _ _ _ _)
   | (with_reducible exact ih15 _ _ _ _ _ _ _ _ _ _ _ _ _ _ _ _ _ _ _ _ _ _ _ _ _ _ _ _ _ _ _)
   | (with_reducible exact ih16 _ _ _ _ _ _ _ _ _ _ _ _ _ _ _ _ _ _ _ _ _ _ _ _ _ _ _ _ _ _)
   | (with_reducible exact ih17 _ _ _ _ _ _ _ _ _ _ _ _ _ _ _ _ _ _ _ _ _ _ _ _ _ _ _ _ _ _ _ _)
   | (with_reducible exact impl_BesideOf.mono _ _)
   | (with_reducible exact impl_BestArc.mono _ _)
   | (with_reducible exact impl_DartsText.mono _ _)
   | (with_reducible exact impl_IsBust.mono _ _ _)
   | (with_reducible exact impl_LeftAfter.mono _ _ _)
   | (with_reducible exact impl_ParseDart.mono _ _)
   | (with_reducible exact impl_ParseDarts.mono _ _)
   | (with_reducible exact impl_PlayLeg.mono _ _ _)
   | (with_reducible exact impl_ScoreOf.mono _ _)
   | (with_reducible exact impl_StepsAround.mono _ _ _)
   | (with_reducible exact laws_bAll.mono _ _)
   | (with_reducible exact laws_bDarts.mono _ _ _)
   | (with_reducible exact laws_bSame.mono _ _ _)
   | (with_reducible exact spec_BesideOf.mono _ _)
   | (with_reducible exact spec_BestArc.mono _ _)
   | (with_reducible exact spec_DartText.mono _ _ _)
   | (with_reducible exact spec_DartsText.mono _ _)
   | (with_reducible exact spec_DrawLeftAfter.mono _ _)
   | (with_reducible exact spec_DrawParseDart.mono _ _)
   | (with_reducible exact spec_DrawParseDarts.mono _ _)
   | (with_reducible exact spec_DrawPlayLeg.mono _ _)
   | (with_reducible exact spec_DrawScoreOf.mono _ _)
   | (with_reducible exact spec_IsBust.mono _ _ _)
   | (with_reducible exact spec_LeftAfter.mono _ _ _)
   | (with_reducible exact spec_ParseDart.mono _ _)
   | (with_reducible exact spec_ParseDarts.mono _ _)
   | (with_reducible exact spec_PlayLeg.mono _ _ _)
   | (with_reducible exact spec_ScoreOf.mono _ _)
   | (with_reducible exact spec_StepsAround.mono _ _ _)
   | (with_reducible exact LeO.refl _)
   | (with_reducible exact LeO.none _)
   | (with_reducible refine LeO.ite ?_ ?_)
   | (with_reducible refine LeO.bind ?_ (fun _ => ?_))
def laws_FnDartsPlayed.T40 : Bool × List (List Nat × List Nat) := (true, [([], []), ([], []), ([0, 1], [0, 1]), ([2], [2]), ([3], [3]), ([3], [3]), ([4, 5, 3, 3], [3, 4, 5]), ([6, 3], [3, 6]), ([3, 7], [3, 7]), ([8, 6], [8]), ([9], [9]), ([9], [9]), ([10, 11, 9], [9, 10, 11]), ([9, 12], [9, 12]), ([13, 9], [13]), ([14], [14]), ([14], [14]), ([15, 16, 14], [14, 15, 16]), ([14, 17], [14, 17]), ([18, 14], [18]), ([19], [19]), ([19], [19]), ([20, 21, 19], [19, 20, 21]), ([19, 22], [19, 22]), ([23, 19], [23]), ([24], [24]), ([24], [24]), ([25, 26, 24], [24, 25, 26]), ([24, 27], [24, 27]), ([28, 24], [28]), ([29], [29]), ([29], [29]), ([30, 31, 29], [29, 30, 31]), ([29, 32], [29, 32]), ([33, 29], [33]), ([34], [34]), ([34], [34]), ([35, 36, 34, 34], [34, 35, 36]), ([37, 34], [34, 37]), ([34, 38], [34, 38]), ([39, 37], [39]), ([40], [40]), ([40], [40]), ([41, 42, 40], [40, 41, 42]), ([40, 43], [40, 43]), ([44, 40], [44]), ([45], [45]), ([45], [45]), ([46, 47, 45], [45, 46, 47]), ([45, 48], [45, 48]), ([49, 45], [49]), ([50], [50]), ([50], [50]), ([51, 52, 50], [50, 51, 52]), ([50, 53], [50, 53]), ([54, 50], [54]), ([55], [55]), ([55], [55]), ([56, 57, 55], [55, 56, 57]), ([55, 58], [55, 58]), ([59, 55], [59]), ([60], [60]), ([60], [60]), ([61, 62, 60], [60, 61, 62]), ([60, 63], [60, 63]), ([64, 60], [64]), ([65], [65]), ([65], [65]), ([66, 67, 65], [65, 66, 67]), ([65, 68], [65, 68]), ([69, 65], [69]), ([70], [70]), ([70], [70]), ([71, 72, 70], [70, 71, 72]), ([70, 73], [70, 73]), ([74, 70], [74]), ([75], [75]), ([75], [75]), ([76, 77, 75], [75, 76, 77]), ([75, 78], [75, 78]), ([79, 75], [79]), ([80], [80]), ([80], [80]), ([81, 82, 80], [80, 81, 82]), ([80, 83], [80, 83]), ([84, 80], [84]), ([85], [85]), ([85], [85]), ([86, 87, 85], [85, 86, 87]), ([85, 88], [85, 88]), ([89, 85], [89]), ([90], [90]), ([90], [90]), ([91, 92, 90], [90, 91, 92]), ([90, 93], [90, 93]), ([94, 90], [94]), ([95], [95]), ([95], [95]), ([96, 97, 95], [95, 96, 97]), ([95, 98], [95, 98]), ([99, 95], [99]), ([100], [100]), ([100], [100]), ([102, 100, 100], [100, 102]), ([101, 103, 100], [100, 101, 103]), ([100, 104], [100, 104]), ([105, 103], [105]), ([106], [106]), ([107, 106, 106], [106, 107]), ([106], [106]), ([109, 108, 106], [106, 109]), ([108, 110, 106], [106, 108, 110]), ([106, 111], [106, 111])])
def laws_FnDartsPlayed.B40 : List Nat := [0, 0, 3, 7, 15, 15, 63, 127, 255, 511, 1023, 1023, 4095, 8191, 16383, 32767, 32767, 131071, 262143, 524287, 1048575, 1048575, 4194303, 8388607, 16777215, 33554431, 33554431, 134217727, 268435455, 536870911, 1073741823, 1073741823, 4294967295, 8589934591, 17179869183, 34359738367, 34359738367, 137438953471, 274877906943, 549755813887, 1099511627775, 2199023255551, 2199023255551, 8796093022207, 17592186044415, 35184372088831, 70368744177663, 70368744177663, 281474976710655, 562949953421311, 1125899906842623, 2251799813685247, 2251799813685247, 9007199254740991, 18014398509481983, 36028797018963967, 72057594037927935, 72057594037927935, 288230376151711743, 576460752303423487, 1152921504606846975, 2305843009213693951, 2305843009213693951, 9223372036854775807, 18446744073709551615, 36893488147419103231, 73786976294838206463, 73786976294838206463, 295147905179352825855, 590295810358705651711, 1180591620717411303423, 2361183241434822606847, 2361183241434822606847, 9444732965739290427391, 18889465931478580854783, 37778931862957161709567, 75557863725914323419135, 75557863725914323419135, 302231454903657293676543, 604462909807314587353087, 1208925819614629174706175, 2417851639229258349412351, 2417851639229258349412351, 9671406556917033397649407, 19342813113834066795298815, 38685626227668133590597631, 77371252455336267181195263, 77371252455336267181195263, 309485009821345068724781055, 618970019642690137449562111, 1237940039285380274899124223, 2475880078570760549798248447, 2475880078570760549798248447, 9903520314283042199192993791, 19807040628566084398385987583, 39614081257132168796771975167, 79228162514264337593543950335, 79228162514264337593543950335, 316912650057057350374175801343, 633825300114114700748351602687, 1267650600228229401496703205375, 2535301200456458802993406410751, 2535301200456458802993406410751, 7605903601369376408980219232255, 20282409603651670423947251286015, 40564819207303340847894502572031, 81129638414606681695789005144063, 162259276829213363391578010288127, 324518553658426726783156020576255, 162259276829213363391578010288127, 1298074214633706907132624082305023, 2596148429267413814265248164610047, 5192296858534827628530496329220095]
theorem laws_FnDartsPlayed.tab40 : rtab .any (opsOf Tryz.f4 40) = laws_FnDartsPlayed.T40 := by kernel_rfl
theorem laws_FnDartsPlayed.bits40 : waitsOk laws_FnDartsPlayed.T40.2 laws_FnDartsPlayed.B40 = true := by kernel_rfl
end Go.Proofs.YtcmlmjgoidpabaaGreatDoor.MFnDartsPlayed

