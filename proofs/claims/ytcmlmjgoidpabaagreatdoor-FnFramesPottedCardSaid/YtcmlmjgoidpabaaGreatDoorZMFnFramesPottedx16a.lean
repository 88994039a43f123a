/- Walks of the functions that the law reaches: each comes to just what the function that is told of it tells, for all arguments. -/
import Derived.Test.YtcmlmjgoidpabaaGreatDoorZMFnFramesPottedx0
import Derived.Test.YtcmlmjgoidpabaaGreatDoorZMFnFramesPottedx1
import Derived.Test.YtcmlmjgoidpabaaGreatDoorZMFnFramesPottedx2
import Derived.Test.YtcmlmjgoidpabaaGreatDoorZMFnFramesPottedx5
import Derived.Test.YtcmlmjgoidpabaaGreatDoorZMFnFramesPottedx6
import Derived.Test.YtcmlmjgoidpabaaGreatDoorZMFnFramesPottedx7
import Derived.Test.YtcmlmjgoidpabaaGreatDoorZMFnFramesPottedx8
import Derived.Test.YtcmlmjgoidpabaaGreatDoorZMFnFramesPottedx9
import Derived.Test.YtcmlmjgoidpabaaGreatDoorZMFnFramesPottedx10
import Derived.Test.YtcmlmjgoidpabaaGreatDoorZMFnFramesPottedx11
import Derived.Test.YtcmlmjgoidpabaaGreatDoorZMFnFramesPottedx12
import Derived.Test.YtcmlmjgoidpabaaGreatDoorZMFnFramesPottedx13
import Derived.Test.YtcmlmjgoidpabaaGreatDoorZMFnFramesPottedx15
namespace Go.Proofs.YtcmlmjgoidpabaaGreatDoor.MFnFramesPotted
open Go.RowKit Go.Proofs.YtcmlmjgoidpabaaGreatDoorW.PrintWords Go.Proofs.YtcmlmjgoidpabaaGreatDoorW.PrintLast Go.Proofs.YtcmlmjgoidpabaaGreatDoorW.PrintMore
attribute [local go_sem] max2_int min2_int max_two min_two max_three min_three max_four min_four
set_option linter.unusedVariables false
set_option linter.unusedSimpArgs false
attribute [local go_sem high] eqA25
mutual
def laws_FnFramesPotted.j0 : Nat → List Int → List Int → Option (Bool)
 | 0, _, _ => none
 | k + 1, x0, x1 => (spec_DrawIsBreak.f k x0).bind fun bt463 => ((impl_IsBreak.f k bt463.1 bt463.2.1 bt463.2.2.1 bt463.2.2.2).bind fun bt468 => ((spec_IsBreak.f k bt463.1 bt463.2.1 bt463.2.2.1 bt463.2.2.2).bind fun bt470 => ((impl_FrameAfter.f k bt463.1 bt463.2.1 bt463.2.2.1 bt463.2.2.2).bind fun bt472 => ((spec_FrameAfter.f k bt463.1 bt463.2.1 bt463.2.2.1 bt463.2.2.2).bind fun bt477 => ((impl_NextBalls.f k bt463.1 bt463.2.1 bt463.2.2.1).bind fun bt482 => ((spec_NextBalls.f k bt463.1 bt463.2.1 bt463.2.2.1).bind fun bt484 => ((impl_HighestBreak.f k bt463.1 bt463.2.1 bt463.2.2.1).bind fun bt486 => ((spec_HighestBreak.f k bt463.1 bt463.2.1 bt463.2.2.1).bind fun bt489 => ((impl_LeastBreak.f k bt463.1 bt463.2.1 bt463.2.2.1).bind fun bt492 => ((spec_LeastBreak.f k bt463.1 bt463.2.1 bt463.2.2.1).bind fun bt494 => ((impl_PointsLeft.f k bt463.1 bt463.2.1 bt463.2.2.1).bind fun bt496 => ((spec_PointsLeft.f k bt463.1 bt463.2.1 bt463.2.2.1).bind fun bt498 => ((impl_BallsLeft.f k bt463.1 bt463.2.1 bt463.2.2.1).bind fun bt500 => ((spec_BallsLeft.f k bt463.1 bt463.2.1 bt463.2.2.1).bind fun bt502 => ((impl_MissBall.f k bt463.1 bt463.2.1 bt463.2.2.1).bind fun bt504 => ((spec_MissBall.f bt463.1 bt463.2.1 bt463.2.2.1).bind fun bt509 => ((impl_FrameText.f k bt463.1 bt463.2.1 bt463.2.2.1).bind fun bt514 => ((spec_FrameText.f k bt463.1 bt463.2.1 bt463.2.2.1).bind fun bt516 => (if (bt468.2 != bt470.2) = true then (none) else (if (bt468.1 != bt470.1) = true then (none) else (if (bt472.2.2.2 != bt477.2.2.2) = true then (none) else (if (!(bt472.1 == bt477.1) || (!(bt472.2.1 == bt477.2.1) || (!(bt472.2.2.1 == bt477.2.2.1)))) = true then (none) else (if (bt482.2 != bt484.2) = true then (none) else (if bt482.1.toList = bt484.1.toList then (if (bt486.2.2 != bt489.2.2) = true then (none) else (if bt486.1.toList = bt489.1.toList then (if bt486.2.1 = bt489.2.1 then (if (bt492.2 != bt494.2) = true then (none) else (if bt492.1 = bt494.1 then (if (bt496.2 != bt498.2) = true then (none) else (if bt496.1 = bt498.1 then (if (bt500.2 != bt502.2) = true then (none) else (if bt500.1 = bt502.1 then (if (bt504.2.2.2 != bt509.2.2.2) = true then (none) else (if (!(bt504.1 == bt509.1) || (!(bt504.2.1 == bt509.2.1) || (!(bt504.2.2.1 == bt509.2.2.1)))) = true then (none) else (if (bt514.2 != bt516.2) = true then (none) else (if bt514.1.toList = bt516.1.toList then ((impl_IsFrame.f k bt463.1 bt463.2.1 bt463.2.2.1).bind fun t518 => (if (bt468.2 != t518) = true then (none) else ((impl_IsFrame.f k bt463.1 bt463.2.1 bt463.2.2.1).bind fun t519 => ((spec_IsFrame.f bt463.1 bt463.2.1 bt463.2.2.1).bind fun t520 => (if (t519 != t520) = true then (none) else (if bt468.2 = true then (if (bt472.2.2.2 != bt468.1) = true then (none) else (if (bt482.2 != bt468.2) = true then (none) else (if (bt486.2.2 != bt468.2) = true then (none) else (if (bt492.2 != bt468.2) = true then (none) else (if (bt496.2 != bt468.2) = true then (none) else (if (bt500.2 != bt468.2) = true then (none) else (if (bt504.2.2.2 != bt468.2) = true then (none) else (laws_FnFramesPotted.j1 k x1 bt463.2.2.2 bt468.2 bt472.2.2.2 bt482.1 bt486.1 bt486.2.1 bt492.1 bt496.1 bt500.1 bt514.1 (bt514.2 != bt468.2) bt463.1 bt463.2.1 bt463.2.2.1 bt472.1 bt472.2.1 bt472.2.2.1 bt504.1 bt504.2.1 bt504.2.2.1)))))))) else (if (bt472.2.2.2 != false) = true then (none) else (if (bt482.2 != bt468.2) = true then (none) else (if (bt486.2.2 != bt468.2) = true then (none) else (if (bt492.2 != bt468.2) = true then (none) else (if (bt496.2 != bt468.2) = true then (none) else (if (bt500.2 != bt468.2) = true then (none) else (if (bt504.2.2.2 != bt468.2) = true then (none) else (laws_FnFramesPotted.j1 k x1 bt463.2.2.2 bt468.2 bt472.2.2.2 bt482.1 bt486.1 bt486.2.1 bt492.1 bt496.1 bt500.1 bt514.1 (bt514.2 != bt468.2) bt463.1 bt463.2.1 bt463.2.2.1 bt472.1 bt472.2.1 bt472.2.2.1 bt504.1 bt504.2.1 bt504.2.2.1)))))))))))))) else (none))))) else (none))) else (none))) else (none))) else (none)) else (none))) else (none)))))))))))))))))))))))))
def laws_FnFramesPotted.j1 : Nat → List Int → ByteArray → Bool → Bool → ByteArray → ByteArray → Int → Int → Int → Int → ByteArray → Bool → Int → Bool → Int → Int → Bool → Int → Int → Bool → Int → Option (Bool)
 | 0, _, _, _, _, _, _, _, _, _, _, _, _, _, _, _, _, _, _, _, _, _ => none
 | k + 1, x1, x6, x8, x12, x15, x19, x20, x25, x29, x33, x41, x345, x468000, x468001, x468002, x477000, x477001, x477002, x509000, x509001, x509002 => if x345 = true then (none) else (laws_FnFramesPotted.j2 k x1 x6 x8 x12 x15 x19 x20 x25 x29 x33 x41 x468000 x468001 x468002 x477000 x477001 x477002 x509000 x509001 x509002)
def laws_FnFramesPotted.j2 : Nat → List Int → ByteArray → Bool → Bool → ByteArray → ByteArray → Int → Int → Int → Int → ByteArray → Int → Bool → Int → Int → Bool → Int → Int → Bool → Int → Option (Bool)
 | 0, _, _, _, _, _, _, _, _, _, _, _, _, _, _, _, _, _, _, _, _ => none
 | k + 1, x1, x6, x8, x12, x15, x19, x20, x25, x29, x33, x41, x468000, x468001, x468002, x477000, x477001, x477002, x509000, x509001, x509002 => if x8 = true then ((impl_FrameAfter.f k x468000 x468001 x468002 x19).bind fun bt521 => ((impl_PointsOf.f k x19).bind fun bt526 => ((impl_ParseFrame.f k x41).bind fun bt528 => (if (x19.size : Int) = x33 then (if bt521.2.2.2 = true then (if bt521.2.2.1 = 8 then (if bt526.2 = true then (if bt526.1 = x20 then (if x29 = x20 then (if x25 > x20 then (none) else (if bt528.2.2.2 = true then (if (!(bt528.1 == x468000) || (!(bt528.2.1 == x468001) || (!(bt528.2.2.1 == x468002)))) = true then (none) else (if x509001 = true then (none) else ((impl_IsFrame.f k x509000 x509001 x509002).bind fun t533 => (if t533 = true then (laws_FnFramesPotted.j3 k x1 x6 x12 x15 x20 x33 ((x15.toList == ([] : List UInt8)) != (x468002 == 8)) x468000 x468001 x468002 x477000 x477001 x477002) else (none))))) else (none))) else (none)) else (none)) else (none)) else (none)) else (none)) else (none))))) else (laws_FnFramesPotted.j7 k x1 x6 x12 x20 x33 x468000 x468001 x468002 x477000 x477001 x477002)
def laws_FnFramesPotted.j7 : Nat → List Int → ByteArray → Bool → Int → Int → Int → Bool → Int → Int → Bool → Int → Option (Bool)
 | 0, _, _, _, _, _, _, _, _, _, _, _ => none
 | k + 1, x1, x6, x12, x20, x33, x468000, x468001, x468002, x477000, x477001, x477002 => if x12 = true then ((impl_BallsLeft.f k x477000 x477001 x477002).bind fun bt545 => ((impl_PointsOf.f k x6).bind fun bt547 => ((impl_PointsLeft.f k x477000 x477001 x477002).bind fun bt549 => (if bt545.2 = true then (if bt545.1 = (wrap64 (x33 - (x6.size : Int))) then (if bt547.2 = true then (if bt549.2 = true then (laws_FnFramesPotted.j8 k x1 x6 (decide ((wrap64 (bt547.1 + bt549.1)) > x20)) x468000 x468001 x468002 x477000 x477001 x477002) else (none)) else (none)) else (none)) else (none))))) else (laws_FnFramesPotted.j11 k x1)
def laws_FnFramesPotted.j11 : Nat → List Int → Option (Bool)
 | 0, _ => none
 | k + 1, x1 => (spec_DrawPotBall.f k x1).bind fun bt559 => ((impl_PotBall.f k bt559.1 bt559.2.1 bt559.2.2.1 bt559.2.2.2).bind fun bt564 => ((spec_PotBall.f k bt559.1 bt559.2.1 bt559.2.2.1 bt559.2.2.2).bind fun bt569 => ((spec_DrawFirstFrame.f x1).bind fun t574 => ((impl_FirstFrame.f k t574).bind fun bt575 => ((spec_FirstFrame.f t574).bind fun bt580 => ((spec_DrawParseFrame.f k x1).bind fun t585 => ((impl_ParseFrame.f k t585).bind fun bt586 => ((spec_ParseFrame.f k t585).bind fun bt591 => ((spec_DrawPointsOf.f k x1).bind fun t596 => ((impl_PointsOf.f k t596).bind fun bt597 => ((spec_PointsOf.f k t596).bind fun bt599 => (if (bt564.2.2.2 != bt569.2.2.2) = true then (none) else (if (!(bt564.1 == bt569.1) || (!(bt564.2.1 == bt569.2.1) || (!(bt564.2.2.1 == bt569.2.2.1)))) = true then (none) else (if (bt575.2.2.2 != bt580.2.2.2) = true then (none) else (if (!(bt575.1 == bt580.1) || (!(bt575.2.1 == bt580.2.1) || (!(bt575.2.2.1 == bt580.2.2.1)))) = true then (none) else (if (bt586.2.2.2 != bt591.2.2.2) = true then (none) else (if (!(bt586.1 == bt591.1) || (!(bt586.2.1 == bt591.2.1) || (!(bt586.2.2.1 == bt591.2.2.1)))) = true then (none) else (if (bt597.2 != bt599.2) = true then (none) else (laws_FnFramesPotted.j12 k t574 bt575.2.2.2 t585 bt586.2.2.2 (bt597.1 != bt599.1) bt575.1 bt575.2.1 bt575.2.2.1 bt586.1 bt586.2.1 bt586.2.2.1)))))))))))))))))))
def laws_FnFramesPotted.j12 : Nat → Int → Bool → ByteArray → Bool → Bool → Int → Bool → Int → Int → Bool → Int → Option (Bool)
 | 0, _, _, _, _, _, _, _, _, _, _, _ => none
 | k + 1, x72, x74, x77, x79, x623, x580000, x580001, x580002, x591000, x591001, x591002 => if x623 = true then (none) else (laws_FnFramesPotted.j13 k x72 x74 x77 x79 x580000 x580001 x580002 x591000 x591001 x591002)
def laws_FnFramesPotted.j13 : Nat → Int → Bool → ByteArray → Bool → Int → Bool → Int → Int → Bool → Int → Option (Bool)
 | 0, _, _, _, _, _, _, _, _, _, _ => none
 | k + 1, x72, x74, x77, x79, x580000, x580001, x580002, x591000, x591001, x591002 => if x74 = true then ((impl_BallsLeft.f k x580000 x580001 x580002).bind fun bt601 => ((impl_PointsLeft.f k x580000 x580001 x580002).bind fun bt603 => (if x580000 = x72 then (if bt601.2 = true then (if bt601.1 = (wrap64 ((wrap64 (2 * x72)) + 6)) then (if bt603.2 = true then (laws_FnFramesPotted.j14 k x77 x79 (bt603.1 != (wrap64 ((wrap64 (8 * x72)) + 27))) x591000 x591001 x591002) else (none)) else (none)) else (none)) else (none)))) else (if x79 = true then ((impl_FrameText.f k x591000 x591001 x591002).bind fun bt607 => (if bt607.2 = true then (some (bt607.1.toList == x77.toList)) else (some false))) else (some true))
def laws_FnFramesPotted.j14 : Nat → ByteArray → Bool → Bool → Int → Bool → Int → Option (Bool)
 | 0, _, _, _, _, _, _ => none
 | k + 1, x77, x79, x660, x591000, x591001, x591002 => if x660 = true then (none) else (if x79 = true then ((impl_FrameText.f k x591000 x591001 x591002).bind fun bt605 => (if bt605.2 = true then (some (bt605.1.toList == x77.toList)) else (some false))) else (some true))
def laws_FnFramesPotted.j8 : Nat → List Int → ByteArray → Bool → Int → Bool → Int → Int → Bool → Int → Option (Bool)
 | 0, _, _, _, _, _, _, _, _, _ => none
 | k + 1, x1, x6, x510, x468000, x468001, x468002, x477000, x477001, x477002 => if x510 = true then (none) else (laws_FnFramesPotted.j9 k x1 x6 x468000 x468001 x468002 x477000 x477001 x477002)
def laws_FnFramesPotted.j9 : Nat → List Int → ByteArray → Int → Bool → Int → Int → Bool → Int → Option (Bool)
 | 0, _, _, _, _, _, _, _, _ => none
 | k + 1, x1, x6, x468000, x468001, x468002, x477000, x477001, x477002 => laws_FnFramesPotted.l1 k x1 x6 (x6.size : Int) x477000 x477001 x477002 x468000 x468001 x468002 0 false 0
def laws_FnFramesPotted.l1 : Nat → List Int → ByteArray → Int → Int → Bool → Int → Int → Bool → Int → Int → Bool → Int → Option (Bool)
 | 0, _, _, _, _, _, _, _, _, _, _, _, _ => none
 | k + 1, x1, x6, x512, x477000, x477001, x477002, x552000, x552001, x552002, x553000, x553001, x553002 => if x553000 < x512 then (if 0 ≤ x553000 then (if x553000 < (x6.size : Int) then ((strconv_Itoa_85.f (wrap64 (bt x6 x553000))).bind fun t553 => (if x553000 ≤ (wrap64 (x553000 + 1)) then (if (wrap64 (x553000 + 1)) ≤ (x6.size : Int) then ((impl_PotBall.f k x552000 x552001 x552002 (x6.extract (x553000 : Int).toNat ((wrap64 (x553000 + 1)) : Int).toNat)).bind fun bt554 => (if bt554.2.2.2 = true then (laws_FnFramesPotted.l1 k x1 x6 x512 x477000 x477001 x477002 bt554.1 bt554.2.1 bt554.2.2.1 (wrap64 (x553000 + 1)) x553001 x553002) else (none))) else (none)) else (none))) else (none)) else (none)) else (if (!(x552000 == x477000) || (!(x552001 == x477001) || (!(x552002 == x477002)))) = true then (none) else (laws_FnFramesPotted.j11 k x1))
def laws_FnFramesPotted.j3 : Nat → List Int → ByteArray → Bool → ByteArray → Int → Int → Bool → Int → Bool → Int → Int → Bool → Int → Option (Bool)
 | 0, _, _, _, _, _, _, _, _, _, _, _, _, _ => none
 | k + 1, x1, x6, x12, x15, x20, x33, x420, x468000, x468001, x468002, x477000, x477001, x477002 => if x420 = true then (none) else (laws_FnFramesPotted.j4 k x1 x6 x12 x15 x20 x33 x468000 x468001 x468002 x477000 x477001 x477002)
def laws_FnFramesPotted.j4 : Nat → List Int → ByteArray → Bool → ByteArray → Int → Int → Int → Bool → Int → Int → Bool → Int → Option (Bool)
 | 0, _, _, _, _, _, _, _, _, _, _, _, _ => none
 | k + 1, x1, x6, x12, x15, x20, x33, x468000, x468001, x468002, x477000, x477001, x477002 => laws_FnFramesPotted.l0 k x1 x6 x12 x15 x20 x33 (x15.size : Int) x468000 x468001 x468002 x477000 x477001 x477002 0 false 0
def laws_FnFramesPotted.l0 : Nat → List Int → ByteArray → Bool → ByteArray → Int → Int → Int → Int → Bool → Int → Int → Bool → Int → Int → Bool → Int → Option (Bool)
 | 0, _, _, _, _, _, _, _, _, _, _, _, _, _, _, _, _ => none
 | k + 1, x1, x6, x12, x15, x20, x33, x421, x468000, x468001, x468002, x477000, x477001, x477002, x535000, x535001, x535002 => if x535000 < x421 then (if 0 ≤ x535000 then (if x535000 < (x15.size : Int) then ((strconv_Itoa_85.f (wrap64 (bt x15 x535000))).bind fun t535 => (if x535000 ≤ (wrap64 (x535000 + 1)) then (if (wrap64 (x535000 + 1)) ≤ (x15.size : Int) then ((impl_PotBall.f k x468000 x468001 x468002 (x15.extract (x535000 : Int).toNat ((wrap64 (x535000 + 1)) : Int).toNat)).bind fun bt536 => (if x535000 > 0 then (if 0 ≤ (wrap64 (x535000 - 1)) then (if (wrap64 (x535000 - 1)) < (x15.size : Int) then (if (bt x15 (wrap64 (x535000 - 1))) ≥ (bt x15 x535000) then (none) else (if bt536.2.2.2 = true then ((impl_IsFrame.f k bt536.1 bt536.2.1 bt536.2.2.1).bind fun t541 => (laws_FnFramesPotted.j6 k x1 x6 x12 x15 x20 x33 x421 (!t541) x468000 x468001 x468002 x477000 x477001 x477002 (wrap64 (x535000 + 1)) x535001 x535002 bt536.1 bt536.2.1 bt536.2.2.1)) else (none))) else (none)) else (none)) else (if bt536.2.2.2 = true then ((impl_IsFrame.f k bt536.1 bt536.2.1 bt536.2.2.1).bind fun t542 => (laws_FnFramesPotted.j6 k x1 x6 x12 x15 x20 x33 x421 (!t542) x468000 x468001 x468002 x477000 x477001 x477002 (wrap64 (x535000 + 1)) x535001 x535002 bt536.1 bt536.2.1 bt536.2.2.1)) else (none)))) else (none)) else (none))) else (none)) else (none)) else (laws_FnFramesPotted.j7 k x1 x6 x12 x20 x33 x468000 x468001 x468002 x477000 x477001 x477002)
def laws_FnFramesPotted.j6 : Nat → List Int → ByteArray → Bool → ByteArray → Int → Int → Int → Bool → Int → Bool → Int → Int → Bool → Int → Int → Bool → Int → Int → Bool → Int → Option (Bool)
 | 0, _, _, _, _, _, _, _, _, _, _, _, _, _, _, _, _, _, _, _, _ => none
 | k + 1, x1, x6, x12, x15, x20, x33, x421, x456, x468000, x468001, x468002, x477000, x477001, x477002, x535000, x535001, x535002, x541000, x541001, x541002 => if x456 = true then (none) else ((impl_BallsLeft.f k x541000 x541001 x541002).bind fun bt543 => (if bt543.2 = true then (if bt543.1 = (wrap64 (x33 - 1)) then (laws_FnFramesPotted.l0 k x1 x6 x12 x15 x20 x33 x421 x468000 x468001 x468002 x477000 x477001 x477002 x535000 x535001 x535002) else (none)) else (none)))
end
def laws_FnFramesPotted.f (k : Nat) (l0 : List Int) (l1 : List Int) : Option (Bool) := (laws_big.f l0 l1).bind fun t462 => (if t462 = true then (some true) else (laws_FnFramesPotted.j0 k l0 l1))
theorem laws_FnFramesPotted.mono_l : ∀ k, (∀ y0 y1, LeO (laws_FnFramesPotted.j0 k y0 y1) (laws_FnFramesPotted.j0 (k + 1) y0 y1)) ∧ (∀ y0 y1 y2 y3 y4 y5 y6 y7 y8 y9 y10 y11 y12 y13 y14 y15 y16 y17 y18 y19 y20, LeO (laws_FnFramesPotted.j1 k y0 y1 y2 y3 y4 y5 y6 y7 y8 y9 y10 y11 y12 y13 y14 y15 y16 y17 y18 y19 y20) (laws_FnFramesPotted.j1 (k + 1) y0 y1 y2 y3 y4 y5 y6 y7 y8 y9 y10 y11 y12 y13 y14 y15 y16 y17 y18 y19 y20)) ∧ (∀ y0 y1 y2 y3 y4 y5 y6 y7 y8 y9 y10 y11 y12 y13 y14 y15 y16 y17 y18 y19, LeO (laws_FnFramesPotted.j2 k y0 y1 y2 y3 y4 y5 y6 y7 y8 y9 y10 y11 y12 y13 y14 y15 y16 y17 y18 y19) (laws_FnFramesPotted.j2 (k + 1) y0 y1 y2 y3 y4 y5 y6 y7 y8 y9 y10 y11 y12 y13 y14 y15 y16 y17 y18 y19)) ∧ (∀ y0 y1 y2 y3 y4 y5 y6 y7 y8 y9 y10, LeO (laws_FnFramesPotted.j7 k y0 y1 y2 y3 y4 y5 y6 y7 y8 y9 y10) (laws_FnFramesPotted.j7 (k + 1) y0 y1 y2 y3 y4 y5 y6 y7 y8 y9 y10)) ∧ (∀ y0, LeO (laws_FnFramesPotted.j11 k y0) (laws_FnFramesPotted.j11 (k + 1) y0)) ∧ (∀ y0 y1 y2 y3 y4 y5 y6 y7 y8 y9 y10, LeO (laws_FnFramesPotted.j12 k y0 y1 y2 y3 y4 y5 y6 y7 y8 y9 y10) (laws_FnFramesPotted.j12 (k + 1) y0 y1 y2 y3 y4 y5 y6 y7 y8 y9 y10)) ∧ (∀ y0 y1 y2 y3 y4 y5 y6 y7 y8 y9, LeO (laws_FnFramesPotted.j13 k y0 y1 y2 y3 y4 y5 y6 y7 y8 y9) (laws_FnFramesPotted.j13 (k + 1) y0 y1 y2 y3 y4 y5 y6 y7 y8 y9)) ∧ (∀ y0 y1 y2 y3 y4 y5, LeO (laws_FnFramesPotted.j14 k y0 y1 y2 y3 y4 y5) (laws_FnFramesPotted.j14 (k + 1) y0 y1 y2 y3 y4 y5)) ∧ (∀ y0 y1 y2 y3 y4 y5 y6 y7 y8, LeO (laws_FnFramesPotted.j8 k y0 y1 y2 y3 y4 y5 y6 y7 y8) (laws_FnFramesPotted.j8 (k + 1) y0 y1 y2 y3 y4 y5 y6 y7 y8)) ∧ (∀ y0 y1 y2 y3 y4 y5 y6 y7, LeO (laws_FnFramesPotted.j9 k y0 y1 y2 y3 y4 y5 y6 y7) (laws_FnFramesPotted.j9 (k + 1) y0 y1 y2 y3 y4 y5 y6 y7)) ∧ (∀ y0 y1 y2 y3 y4 y5 y6 y7 y8 y9 y10 y11, LeO (laws_FnFramesPotted.l1 k y0 y1 y2 y3 y4 y5 y6 y7 y8 y9 y10 y11) (laws_FnFramesPotted.l1 (k + 1) y0 y1 y2 y3 y4 y5 y6 y7 y8 y9 y10 y11)) ∧ (∀ y0 y1 y2 y3 y4 y5 y6 y7 y8 y9 y10 y11 y12, LeO (laws_FnFramesPotted.j3 k y0 y1 y2 y3 y4 y5 y6 y7 y8 y9 y10 y11 y12) (laws_FnFramesPotted.j3 (k + 1) y0 y1 y2 y3 y4 y5 y6 y7 y8 y9 y10 y11 y12)) ∧ (∀ y0 y1 y2 y3 y4 y5 y6 y7 y8 y9 y10 y11, LeO (laws_FnFramesPotted.j4 k y0 y1 y2 y3 y4 y5 y6 y7 y8 y9 y10 y11) (laws_FnFramesPotted.j4 (k + 1) y0 y1 y2 y3 y4 y5 y6 y7 y8 y9 y10 y11)) ∧ (∀ y0 y1 y2 y3 y4 y5 y6 y7 y8 y9 y10 y11 y12 y13 y14 y15, LeO (laws_FnFramesPotted.l0 k y0 y1 y2 y3 y4 y5 y6 y7 y8 y9 y10 y11 y12 y13 y14 y15) (laws_FnFramesPotted.l0 (k + 1) y0 y1 y2 y3 y4 y5 y6 y7 y8 y9 y10 y11 y12 y13 y14 y15)) ∧ (∀ y0 y1 y2 y3 y4 y5 y6 y7 y8 y9 y10 y11 y12 y13 y14 y15 y16 y17 y18 y19, LeO (laws_FnFramesPotted.j6 k y0 y1 y2 y3 y4 y5 y6 y7 y8 y9 y10 y11 y12 y13 y14 y15 y16 y17 y18 y19) (laws_FnFramesPotted.j6 (k + 1) y0 y1 y2 y3 y4 y5 y6 y7 y8 y9 y10 y11 y12 y13 y14 y15 y16 y17 y18 y19))
 | 0 => ⟨fun _ _ r h => by simp [laws_FnFramesPotted.j0] at h, fun _ _ _ _ _ _ _ _ _ _ _ _ _ _ _ _ _ _ _ _ _ r h => by simp [laws_FnFramesPotted.j1] at h, fun _ _ _ _ _ _ _ _ _ _ _ _ _ _ _ _ _ _ _ _ r h => by simp [laws_FnFramesPotted.j2] at h, fun _ _ _ _ _ _ _ _ _ _ _ r h => by simp [laws_FnFramesPotted.j7] at h, fun _ r h => by simp [laws_FnFramesPotted.j11] at h, fun _ _ _ _ _ _ _ _ _ _ _ r h => by simp [laws_FnFramesPotted.j12] at h, fun _ _ _ _ _ _ _ _ _ _ r h => by simp [laws_FnFramesPotted.j13] at h, fun _ _ _ _ _ _ r h => by simp [laws_FnFramesPotted.j14] at h, fun _ _ _ _ _ _ _ _ _ r h => by simp [laws_FnFramesPotted.j8] at h, fun _ _ _ _ _ _ _ _ r h => by simp [laws_FnFramesPotted.j9] at h, fun _ _ _ _ _ _ _ _ _ _ _ _ r h => by simp [laws_FnFramesPotted.l1] at h, fun _ _ _ _ _ _ _ _ _ _ _ _ _ r h => by simp [laws_FnFramesPotted.j3] at h, fun _ _ _ _ _ _ _ _ _ _ _ _ r h => by simp [laws_FnFramesPotted.j4] at h, fun _ _ _ _ _ _ _ _ _ _ _ _ _ _ _ _ r h => by simp [laws_FnFramesPotted.l0] at h, fun _ _ _ _ _ _ _ _ _ _ _ _ _ _ _ _ _ _ _ _ r h => by simp [laws_FnFramesPotted.j6] at h⟩
 | k + 1 => by
  obtain ⟨ih0, ih1, ih2, ih3, ih4, ih5, ih6, ih7, ih8, ih9, ih10, ih11, ih12, ih13, ih14⟩ := laws_FnFramesPotted.mono_l k
  refine ⟨?_, ?_, ?_, ?_, ?_, ?_, ?_, ?_, ?_, ?_, ?_, ?_, ?_, ?_, ?_⟩
  ·intro y0 y1
   unfold laws_FnFramesPotted.j0
   repeat' first
   | (with_reducible exact ih0 _ _)
   | (with_reducible exact ih1 _ _ _ _ _ _ _ _ _ _ _ _ _ _ _ _ _ _ _ _ _)
   | (with_reducible exact ih2 _ _ _ _ _ _ _ _ _ _ _ _ _ _ _ _ _ _ _ _)
   | (with_reducible exact ih3 _ _ _ _ _ _ _ _ _ _ _)
   | (with_reducible exact ih4 _)
   | (with_reducible exact ih5 _ _ _ _ _ _ _ _ _ _ _)
   | (with_reducible exact ih6 _ _ _ _ _ _ _ _ _ _)
   | (with_reducible exact ih7 _ _ _ _ _ _)
   | (with_reducible exact ih8 _ _ _ _ _ _ _ _ _)
   | (with_reducible exact ih9 _ _ _ _ _ _ _ _)
   | (with_reducible exact ih10 _ _ _ _ _ _ _ _ _ _ _ _)
   | (with_reducible exact ih11 _ _ _ _ _ _ _ _ _ _ _ _ _)
   | (with_reducible exact ih12 _ _ _ _ _ _ _ _ _ _ _ _)
   | (with_reducible exact ih13 _ _ _ _ _ _ _ _ _ _ _ _ _ _ _ _)
   | (with_reducible exact ih14 _ _ _ _ _ _ _ _ _ _ _ _ _ _ _ _ _ _ _ _)
   | (with_reducible exact impl_BallsLeft.mono _ _ _ _)
   | (with_reducible exact impl_FirstFrame.mono _ _)
   | (with_reducible exact impl_FrameAfter.mono _ _ _ _ _)
   | (with_reducible exact impl_FrameText.mono _ _ _ _)
   | (with_reducible exact impl_HighestBreak.mono _ _ _ _)
   | (with_reducible exact impl_IsBreak.mono _ _ _ _ _)
   | (with_reducible exact impl_IsFrame.mono _ _ _ _)
   | (with_reducible exact impl_LeastBreak.mono _ _ _ _)
   | (with_reducible exact impl_MissBall.mono _ _ _ _)
   | (with_reducible exact impl_NextBalls.mono _ _ _ _)
   | (with_reducible exact impl_ParseFrame.mono _ _)
   | (with_reducible exact impl_PointsLeft.mono _ _ _ _)
   | (with_reducible exact impl_PointsOf.mono _ _)
   | (with_reducible exact impl_PotBall.mono _ _ _ _ _)
   | (with_reducible exact spec_BallsLeft.mono _ _ _ _)
   | (with_reducible exact spec_DrawIsBreak.mono _ _)
   | (with_reducible exact spec_DrawParseFrame.mono _ _)
   | (with_reducible exact spec_DrawPointsOf.mono _ _)
   | (with_reducible exact spec_DrawPotBall.mono _ _)
   | (with_reducible exact spec_FrameAfter.mono _ _ _ _ _)
   | (with_reducible exact spec_FrameText.mono _ _ _ _)
   | (with_reducible exact spec_HighestBreak.mono _ _ _ _)
   | (with_reducible exact spec_IsBreak.mono _ _ _ _ _)
   | (with_reducible exact spec_LeastBreak.mono _ _ _ _)
   | (with_reducible exact spec_NextBalls.mono _ _ _ _)
   | (with_reducible exact spec_ParseFrame.mono _ _)
   | (with_reducible exact spec_PointsLeft.mono _ _ _ _)
   | (with_reducible exact spec_PointsOf.mono _ _)
   | (with_reducible exact spec_PotBall.mono _ _ _ _ _)
   | (with_reducible exact LeO.refl _)
   | (with_reducible exact LeO.none _)
   | (with_reducible refine LeO.ite ?_ ?_)
   | (with_reducible refine LeO.bind ?_ (fun _ => ?_))
   | exact ih0 _ _
   | exact ih1 _ _ _ _ _ _ _ _ _ _ _ _ _ _ _ _ _ _ _ _ _
   | exact ih2 _ _ _ _ _ _ _ _ _ _ _ _ _ _ _ _ _ _ _ _
   | exact ih3 _ _ _ _ _ _ _ _ _ _ _
   | exact ih4 _
   | exact ih5 _ _ _ _ _ _ _ _ _ _ _
   | exact ih6 _ _ _ _ _ _ _ _ _ _
   | exact ih7 _ _ _ _ _ _
   | exact ih8 _ _ _ _ _ _ _ _ _
   | exact ih9 _ _ _ _ _ _ _ _
   | exact ih10 _ _ _ _ _ _ _ _ _ _ _ _
   | exact ih11 _ _ _ _ _ _ _ _ _ _ _ _ _
   | exact ih12 _ _ _ _ _ _ _ _ _ _ _ _
   | exact ih13 _ _ _ _ _ _ _ _ _ _ _ _ _ _ _ _
   | exact ih14 _ _ _ _ _ _ _ _ _ _ _ _ _ _ _ _ _ _ _ _
   | exact impl_BallsLeft.mono _ _ _ _
   | exact impl_FirstFrame.mono _ _
   | exact impl_FrameAfter.mono _ _ _ _ _
   | exact impl_FrameText.mono _ _ _ _
   | exact impl_HighestBreak.mono _ _ _ _
   | exact impl_IsBreak.mono _ _ _ _ _
   | exact impl_IsFrame.mono _ _ _ _
   | exact impl_LeastBreak.mono _ _ _ _
   | exact impl_MissBall.mono _ _ _ _
   | exact impl_NextBalls.mono _ _ _ _
   | exact impl_ParseFrame.mono _ _
   | exact impl_PointsLeft.mono _ _ _ _
   | exact impl_PointsOf.mono _ _
   | exact impl_PotBall.mono _ _ _ _ _
   | exact spec_BallsLeft.mono _ _ _ _
   | exact spec_DrawIsBreak.mono _ _
   | exact spec_DrawParseFrame.mono _ _
   | exact spec_DrawPointsOf.mono _ _
   | exact spec_DrawPotBall.mono _ _
   | exact spec_FrameAfter.mono _ _ _ _ _
   | exact spec_FrameText.mono _ _ _ _
   | exact spec_HighestBreak.mono _ _ _ _
   | exact spec_IsBreak.mono _ _ _ _ _
   | exact spec_LeastBreak.mono _ _ _ _
   | exact spec_NextBalls.mono _ _ _ _
   | exact spec_ParseFrame.mono _ _
   | exact spec_PointsLeft.mono _ _ _ _
   | exact spec_PointsOf.mono _ _
   | exact spec_PotBall.mono _ _ _ _ _
   | exact LeO.none _
   | refine LeO.ite ?_ ?_
   | refine LeO.bind ?_ (fun _ => ?_)
  ·intro y0 y1 y2 y3 y4 y5 y6 y7 y8 y9 y10 y11 y12 y13 y14 y15 y16 y17 y18 y19 y20
   unfold laws_FnFramesPotted.j1
   repeat' first
   | (with_reducible exact ih0 _ _)
   | (with_reducible exact ih1 _ _ _ _ _ _ _ _ _ _ _ _ _ _ _ _ _ _ _ _ _)
   | (with_reducible exact ih2 _ _ _ _ _ _ _ _ _ _ _ _ _ _ _ _ _ _ _ _)
   | (with_reducible exact ih3 _ _ _ _ _ _ _ _ _ _ _)
   | (with_reducible exact ih4 _)
   | (with_reducible exact ih5 _ _ _ _ _ _ _ _ _ _ _)
   | (with_reducible exact ih6 _ _ _ _ _ _ _ _ _ _)
   | (with_reducible exact ih7 _ _ _ _ _ _)
   | (with_reducible exact ih8 _ _ _ _ _ _ _ _ _)
   | (with_reducible exact ih9 _ _ _ _ _ _ _ _)
   | (with_reducible exact ih10 _ _ _ _ _ _ _ _ _ _ _ _)
   | (with_reducible exact ih11 _ _ _ _ _ _ _ _ _ _ _ _ _)
   | (with_reducible exact ih12 _ _ _ _ _ _ _ _ _ _ _ _)
   | (with_reducible exact ih13 _ _ _ _ _ _ _ _ _ _ _ _ _ _ _ _)
   | (with_reducible exact ih14 _ _ _ _ _ _ _ _ _ _ _ _ _ _ _ _ _ _ _ _)
   | (with_reducible exact impl_BallsLeft.mono _ _ _ _)
   | (with_reducible exact impl_FirstFrame.mono _ _)
   | (with_reducible exact impl_FrameAfter.mono _ _ _ _ _)
   | (with_reducible exact impl_FrameText.mono _ _ _ _)
   | (with_reducible exact impl_HighestBreak.mono _ _ _ _)
   | (with_reducible exact impl_IsBreak.mono _ _ _ _ _)
   | (with_reducible exact impl_IsFrame.mono _ _ _ _)
   | (with_reducible exact impl_LeastBreak.mono _ _ _ _)
   | (with_reducible exact impl_MissBall.mono _ _ _ _)
   | (with_reducible exact impl_NextBalls.mono _ _ _ _)
   | (with_reducible exact impl_ParseFrame.mono _ _)
   | (with_reducible exact impl_PointsLeft.mono _ _ _ _)
   | (with_reducible exact impl_PointsOf.mono _ _)
   | (with_reducible exact impl_PotBall.mono _ _ _ _ _)
   | (with_reducible exact spec_BallsLeft.mono _ _ _ _)
   | (with_reducible exact spec_DrawIsBreak.mono _ _)
   | (with_reducible exact spec_DrawParseFrame.mono _ _)
   | (with_reducible exact spec_DrawPointsOf.mono _ _)
   | (with_reducible exact spec_DrawPotBall.mono _ _)
   | (with_reducible exact spec_FrameAfter.mono _ _ _ _ _)
   | (with_reducible exact spec_FrameText.mono _ _ _ _)
   | (with_reducible exact spec_HighestBreak.mono _ _ _ _)
   | (with_reducible exact spec_IsBreak.mono _ _ _ _ _)
   | (with_reducible exact spec_LeastBreak.mono _ _ _ _)
   | (with_reducible exact spec_NextBalls.mono _ _ _ _)
   | (with_reducible exact spec_ParseFrame.mono _ _)
   | (with_reducible exact spec_PointsLeft.mono _ _ _ _)
   | (with_reducible exact spec_PointsOf.mono _ _)
   | (with_reducible exact spec_PotBall.mono _ _ _ _ _)
   | (with_reducible exact LeO.refl _)
   | (with_reducible exact LeO.none _)
   | (with_reducible refine LeO.ite ?_ ?_)
   | (with_reducible refine LeO.bind ?_ (fun _ => ?_))
   | exact ih0 _ _
   | exact ih1 _ _ _ _ _ _ _ _ _ _ _ _ _ _ _ _ _ _ _ _ _
   | exact ih2 _ _ _ _ _ _ _ _ _ _ _ _ _ _ _ _ _ _ _ _
   | exact ih3 _ _ _ _ _ _ _ _ _ _ _
   | exact ih4 _
   | exact ih5 _ _ _ _ _ _ _ _ _ _ _
   | exact ih6 _ _ _ _ _ _ _ _ _ _
   | exact ih7 _ _ _ _ _ _
   | exact ih8 _ _ _ _ _ _ _ _ _
   | exact ih9 _ _ _ _ _ _ _ _
   | exact ih10 _ _ _ _ _ _ _ _ _ _ _ _
   | exact ih11 _ _ _ _ _ _ _ _ _ _ _ _ _
   | exact ih12 _ _ _ _ _ _ _ _ _ _ _ _
   | exact ih13 _ _ _ _ _ _ _ _ _ _ _ _ _ _ _ _
   | exact ih14 _ _ _ _ _ _ _ _ _ _ _ _ _ _ _ _ _ _ _ _
   | exact impl_BallsLeft.mono _ _ _ _
   | exact impl_FirstFrame.mono _ _
   | exact impl_FrameAfter.mono _ _ _ _ _
   | exact impl_FrameText.mono _ _ _ _
   | exact impl_HighestBreak.mono _ _ _ _
   | exact impl_IsBreak.mono _ _ _ _ _
   | exact impl_IsFrame.mono _ _ _ _
   | exact impl_LeastBreak.mono _ _ _ _
   | exact impl_MissBall.mono _ _ _ _
   | exact impl_NextBalls.mono _ _ _ _
   | exact impl_ParseFrame.mono _ _
   | exact impl_PointsLeft.mono _ _ _ _
   | exact impl_PointsOf.mono _ _
   | exact impl_PotBall.mono _ _ _ _ _
   | exact spec_BallsLeft.mono _ _ _ _
   | exact spec_DrawIsBreak.mono _ _
   | exact spec_DrawParseFrame.mono _ _
   | exact spec_DrawPointsOf.mono _ _
   | exact spec_DrawPotBall.mono _ _
   | exact spec_FrameAfter.mono _ _ _ _ _
   | exact spec_FrameText.mono _ _ _ _
   | exact spec_HighestBreak.mono _ _ _ _
   | exact spec_IsBreak.mono _ _ _ _ _
   | exact spec_LeastBreak.mono _ _ _ _
   | exact spec_NextBalls.mono _ _ _ _
   | exact spec_ParseFrame.mono _ _
   | exact spec_PointsLeft.mono _ _ _ _
   | exact spec_PointsOf.mono _ _
   | exact spec_PotBall.mono _ _ _ _ _
   | exact LeO.none _
   | refine LeO.ite ?_ ?_
   | refine LeO.bind ?_ (fun _ => ?_)
  ·intro y0 y1 y2 y3 y4 y5 y6 y7 y8 y9 y10 y11 y12 y13 y14 y15 y16 y17 y18 y19
   unfold laws_FnFramesPotted.j2
   repeat' first
   | (with_reducible exact ih0 _ _)
   | (with_reducible exact ih1 _ _ _ _ _ _ _ _ _ _ _ _ _ _ _ _ _ _ _ _ _)
   | (with_reducible exact ih2 _ _ _ _ _ _ _ _ _ _ _ _ _ _ _ _ _ _ _ _)
   | (with_reducible exact ih3 _ _ _ _ _ _ _ _ _ _ _)
   | (with_reducible exact ih4 _)
   | (with_reducible exact ih5 _ _ _ _ _ _ _ _ _ _ _)
   | (with_reducible exact ih6 _ _ _ _ _ _ _ _ _ _)
   | (with_reducible exact ih7 _ _ _ _ _ _)
   | (with_reducible exact ih8 _ _ _ _ _ _ _ _ _)
   | (with_reducible exact ih9 _ _ _ _ _ _ _ _)
   | (with_reducible exact ih10 _ _ _ _ _ _ _ _ _ _ _ _)
   | (with_reducible exact ih11 _ _ _ _ _ _ _ _ _ _ _ _ _)
   | (with_reducible exact ih12 _ _ _ _ _ _ _ _ _ _ _ _)
   | (with_reducible exact ih13 _ _ _ _ _ _ _ _ _ _ _ _ _ _ _ _)
   | (with_reducible exact ih14 _ _ _ _ _ _ _ _ _ _ _ _ _ _ _ _ _ _ _ _)
   | (with_reducible exact impl_BallsLeft.mono _ _ _ _)
   | (with_reducible exact impl_FirstFrame.mono _ _)
   | (with_reducible exact impl_FrameAfter.mono _ _ _ _ _)
   | (with_reducible exact impl_FrameText.mono _ _ _ _)
   | (with_reducible exact impl_HighestBreak.mono _ _ _ _)
   | (with_reducible exact impl_IsBreak.mono _ _ _ _ _)
   | (with_reducible exact impl_IsFrame.mono _ _ _ _)
   | (with_reducible exact impl_LeastBreak.mono _ _ _ _)
   | (with_reducible exact impl_MissBall.mono _ _ _ _)
   | (with_reducible exact impl_NextBalls.mono _ _ _ _)
   | (with_reducible exact impl_ParseFrame.mono _ _)
   | (with_reducible exact impl_PointsLeft.mono _ _ _ _)
   | (with_reducible exact impl_PointsOf.mono _ _)
   | (with_reducible exact impl_PotBall.mono _ _ _ _ _)
   | (with_reducible exact spec_BallsLeft.mono _ _ _ _)
   | (with_reducible exact spec_DrawIsBreak.mono _ _)
   | (with_reducible exact spec_DrawParseFrame.mono _ _)
   | (with_reducible exact spec_DrawPointsOf.mono _ _)
   | (with_reducible exact spec_DrawPotBall.mono _ _)
   | (with_reducible exact spec_FrameAfter.mono _ _ _ _ _)
   | (with_reducible exact spec_FrameText.mono _ _ _ _)
   | (with_reducible exact spec_HighestBreak.mono _ _ _ _)
   | (with_reducible exact spec_IsBreak.mono _ _ _ _ _)
   | (with_reducible exact spec_LeastBreak.mono _ _ _ _)
   | (with_reducible exact spec_NextBalls.mono _ _ _ _)
   | (with_reducible exact spec_ParseFrame.mono _ _)
   | (with_reducible exact spec_PointsLeft.mono _ _ _ _)
   | (with_reducible exact spec_PointsOf.mono _ _)
   | (with_reducible exact spec_PotBall.mono _ _ _ _ _)
   | (with_reducible exact LeO.refl _)
   | (with_reducible exact LeO.none _)
   | (with_reducible refine LeO.ite ?_ ?_)
   | (with_reducible refine LeO.bind ?_ (fun _ => ?_))
   | exact ih0 _ _
   | exact ih1 _ _ _ _ _ _ _ _ _ _ _ _ _ _ _ _ _ _ _ _ _
   | exact ih2 _ _ _ _ _ _ _ _ _ _ _ _ _ _ _ _ _ _ _ _
   | exact ih3 _ _ _ _ _ _ _ _ _ _ _
   | exact ih4 _
   | exact ih5 _ _ _ _ _ _ _ _ _ _ _
   | exact ih6 _ _ _ _ _ _ _ _ _ _
   | exact ih7 _ _ _ _ _ _
   | exact ih8 _ _ _ _ _ _ _ _ _
   | exact ih9 _ _ _ _ _ _ _ _
   | exact ih10 _ _ _ _ _ _ _ _ _ _ _ _
   | exact ih11 _ _ _ _ _ _ _ _ _ _ _ _ _
   | exact ih12 _ _ _ _ _ _ _ _ _ _ _ _
   | exact ih13 _ _ _ _ _ _ _ _ _ _ _ _ _ _ _ _
   | exact ih14 _ _ _ _ _ _ _ _ _ _ _ _ _ _ _ _ _ _ _ _
   | exact impl_BallsLeft.mono _ _ _ _
   | exact impl_FirstFrame.mono _ _
   | exact impl_FrameAfter.mono _ _ _ _ _
   | exact impl_FrameText.mono _ _ _ _
   | exact impl_HighestBreak.mono _ _ _ _
   | exact impl_IsBreak.mono _ _ _ _ _
   | exact impl_IsFrame.mono _ _ _ _
   | exact impl_LeastBreak.mono _ _ _ _
   | exact impl_MissBall.mono _ _ _ _
   | exact impl_NextBalls.mono _ _ _ _
   | exact impl_ParseFrame.mono _ _
   | exact impl_PointsLeft.mono _ _ _ _
   | exact impl_PointsOf.mono _ _
   | exact impl_PotBall.mono _ _ _ _ _
   | exact spec_BallsLeft.mono _ _ _ _
   | exact spec_DrawIsBreak.mono _ _
   | exact spec_DrawParseFrame.mono _ _
   | exact spec_DrawPointsOf.mono _ _
   | exact spec_DrawPotBall.mono _ _
   | exact spec_FrameAfter.mono _ _ _ _ _
   | exact spec_FrameText.mono _ _ _ _
   | exact spec_HighestBreak.mono _ _ _ _
   | exact spec_IsBreak.mono _ _ _ _ _
   | exact spec_LeastBreak.mono _ _ _ _
   | exact spec_NextBalls.mono _ _ _ _
   | exact spec_ParseFrame.mono _ _
   | exact spec_PointsLeft.mono _ _ _ _
   | exact spec_PointsOf.mono _ _
   | exact spec_PotBall.mono _ _ _ _ _
   | exact LeO.none _
   | refine LeO.ite ?_ ?_
   | refine LeO.bind ?_ (fun _ => ?_)
  ·intro y0 y1 y2 y3 y4 y5 y6 y7 y8 y9 y10
   unfold laws_FnFramesPotted.j7
   repeat' first
   | (with_reducible exact ih0 _ _)
   | (with_reducible exact ih1 _ _ _ _ _ _ _ _ _ _ _ _ _ _ _ _ _ _ _ _ _)
   | (with_reducible exact ih2 _ _ _ _ _ _ _ _ _ _ _ _ _ _ _ _ _ _ _ _)
   | (with_reducible exact ih3 _ _ _ _ _ _ _ _ _ _ _)
   | (with_reducible exact ih4 _)
   | (with_reducible exact ih5 _ _ _ _ _ _ _ _ _ _ _)
   | (with_reducible exact ih6 _ _ _ _ _ _ _ _ _ _)
   | (with_reducible exact ih7 _ _ _ _ _ _)
   | (with_reducible exact ih8 _ _ _ _ _ _ _ _ _)
   | (with_reducible exact ih9 _ _ _ _ _ _ _ _)
   | (with_reducible exact ih10 _ _ _ _ _ _ _ _ _ _ _ _)
   | (with_reducible exact ih11 _ _ _ _ _ _ _ _ _ _ _ _ _)
   | (with_reducible exact ih12 _ _ _ _ _ _ _ _ _ _ _ _)
   | (with_reducible exact ih13 _ _ _ _ _ _ _ _ _ _ _ _ _ _ _ _)
   | (with_reducible exact ih14 _ _ _ _ _ _ _ _ _ _ _ _ _ _ _ _ _ _ _ _)
   | (with_reducible exact impl_BallsLeft.mono _ _ _ _)
   | (with_reducible exact impl_FirstFrame.mono _ _)
   | (with_reducible exact impl_FrameAfter.mono _ _ _ _ _)
   | (with_reducible exact impl_FrameText.mono _ _ _ _)
   | (with_reducible exact impl_HighestBreak.mono _ _ _ _)
   | (with_reducible exact impl_IsBreak.mono _ _ _ _ _)
   | (with_reducible exact impl_IsFrame.mono _ _ _ _)
   | (with_reducible exact impl_LeastBreak.mono _ _ _ _)
   | (with_reducible exact impl_MissBall.mono _ _ _ _)
   | (with_reducible exact impl_NextBalls.mono _ _ _ _)
   | (with_reducible exact impl_ParseFrame.mono _ _)
   | (with_reducible exact impl_PointsLeft.mono _ _ _ _)
   | (with_reducible exact impl_PointsOf.mono _ _)
   | (with_reducible exact impl_PotBall.mono _ _ _ _ _)
   | (with_reducible exact spec_BallsLeft.mono _ _ _ _)
   | (with_reducible exact spec_DrawIsBreak.mono _ _)
   | (with_reducible exact spec_DrawParseFrame.mono _ _)
   | (with_reducible exact spec_DrawPointsOf.mono _ _)
   | (with_reducible exact spec_DrawPotBall.mono _ _)
   | (with_reducible exact spec_FrameAfter.mono _ _ _ _ _)
   | (with_reducible exact spec_FrameText.mono _ _ _ _)
   | (with_reducible exact spec_HighestBreak.mono _ _ _ _)
   | (with_reducible exact spec_IsBreak.mono _ _ _ _ _)
   | (with_reducible exact spec_LeastBreak.mono _ _ _ _)
   | (with_reducible exact spec_NextBalls.mono _ _ _ _)
   | (with_reducible exact spec_ParseFrame.mono _ _)
   | (with_reducible exact spec_PointsLeft.mono _ _ _ _)
   | (with_reducible exact spec_PointsOf.mono _ _)
   | (with_reducible exact spec_PotBall.mono _ _ _ _ _)
   | (with_reducible exact LeO.refl _)
   | (with_reducible exact LeO.none _)
   | (with_reducible refine LeO.ite ?_ ?_)
   | (with_reducible refine LeO.bind ?_ (fun _ => ?_))
   | exact ih0 _ _
   | exact ih1 _ _ _ _ _ _ _ _ _ _ _ _ _ _ _ _ _ _ _ _ _
   | exact ih2 _ _ _ _ _ _ _ _ _ _ _ _ _ _ _ _ _ _ _ _
   | exact ih3 _ _ _ _ _ _ _ _ _ _ _
   | exact ih4 _
   | exact ih5 _ _ _ _ _ _ _ _ _ _ _
   | exact ih6 _ _ _ _ _ _ _ _ _ _
   | exact ih7 _ _ _ _ _ _
   | exact ih8 _ _ _ _ _ _ _ _ _
   | exact ih9 _ _ _ _ _ _ _ _
   | exact ih10 _ _ _ _ _ _ _ _ _ _ _ _
   | exact ih11 _ _ _ _ _ _ _ _ _ _ _ _ _
   | exact ih12 _ _ _ _ _ _ _ _ _ _ _ _
   | exact ih13 _ _ _ _ _ _ _ _ _ _ _ _ _ _ _ _
   | exact ih14 _ _ _ _ _ _ _ _ _ _ _ _ _ _ _ _ _ _ _ _
   | exact impl_BallsLeft.mono _ _ _ _
   | exact impl_FirstFrame.mono _ _
   | exact impl_FrameAfter.mono _ _ _ _ _
   | exact impl_FrameText.mono _ _ _ _
   | exact impl_HighestBreak.mono _ _ _ _
   | exact impl_IsBreak.mono _ _ _ _ _
   | exact impl_IsFrame.mono _ _ _ _
   | exact impl_LeastBreak.mono _ _ _ _
   | exact impl_MissBall.mono _ _ _ _
   | exact impl_NextBalls.mono _ _ _ _
   | exact impl_ParseFrame.mono _ _
   | exact impl_PointsLeft.mono _ _ _ _
   | exact impl_PointsOf.mono _ _
   | exact impl_PotBall.mono _ _ _ _ _
   | exact spec_BallsLeft.mono _ _ _ _
   | exact spec_DrawIsBreak.mono _ _
   | exact spec_DrawParseFrame.mono _ _
   | exact spec_DrawPointsOf.mono _ _
   | exact spec_DrawPotBall.mono _ _
   | exact spec_FrameAfter.mono _ _ _ _ _
   | exact spec_FrameText.mono _ _ _ _
   | exact spec_HighestBreak.mono _ _ _ _
   | exact spec_IsBreak.mono _ _ _ _ _
   | exact spec_LeastBreak.mono _ _ _ _
   | exact spec_NextBalls.mono _ _ _ _
   | exact spec_ParseFrame.mono _ _
   | exact spec_PointsLeft.mono _ _ _ _
   | exact spec_PointsOf.mono _ _
   | exact spec_PotBall.mono _ _ _ _ _
   | exact LeO.none _
   | refine LeO.ite ?_ ?_
   | refine LeO.bind ?_ (fun _ => ?_)
  ·intro y0
   unfold laws_FnFramesPotted.j11
   repeat' first
   | (with_reducible exact ih0 _ _)
   | (with_reducible exact ih1 _ _ _ _ _ _ _ _ _ _ _ _ _ _ _ _ _ _ _ _ _)
   | (with_reducible exact ih2 _ _ _ _ _ _ _ _ _ _ _ _ _ _ _ _ _ _ _ _)
   | (with_reducible exact ih3 _ _ _ _ _ _ _ _ _ _ _)
   | (with_reducible exact ih4 _)
   | (with_reducible exact ih5 _ _ _ _ _ _ _ _ _ _ _)
   | (with_reducible exact ih6 _ _ _ _ _ _ _ _ _ _)
   | (with_reducible exact ih7 _ _ _ _ _ _)
   | (with_reducible exact ih8 _ _ _ _ _ _ _ _ _)
   | (with_reducible exact ih9 _ _ _ _ _ _ _ _)
   | (with_reducible exact ih10 _ _ _ _ _ _ _ _ _ _ _ _)
   | (with_reducible exact ih11 _ _ _ _ _ _ _ _ _ _ _ _ _)
   | (with_reducible exact ih12 _ _ _ _ _ _ _ _ _ _ _ _)
   | (with_reducible exact ih13 _ _ _ _ _ _ _ _ _ _ _ _ _ _ _ _)
   | (with_reducible exact ih14 _ _ _ _ _ _ _ _ _ _ _ _ _ _ _ _ _ _ _ _)
   | (with_reducible exact impl_BallsLeft.mono _ _ _ _)
   | (with_reducible exact impl_FirstFrame.mono _ _)
   | (with_reducible exact impl_FrameAfter.mono _ _ _ _ _)
   | (with_reducible exact impl_FrameText.mono _ _ _ _)
   | (with_reducible exact impl_HighestBreak.mono _ _ _ _)
   | (with_reducible exact impl_IsBreak.mono _ _ _ _ _)
   | (with_reducible exact impl_IsFrame.mono _ _ _ _)
   | (with_reducible exact impl_LeastBreak.mono _ _ _ _)
   | (with_reducible exact impl_MissBall.mono _ _ _ _)
   | (with_reducible exact impl_NextBalls.mono _ _ _ _)
   | (with_reducible exact impl_ParseFrame.mono _ _)
   | (with_reducible exact impl_PointsLeft.mono _ _ _ _)
   | (with_reducible exact impl_PointsOf.mono _ _)
   | (with_reducible exact impl_PotBall.mono _ _ _ _ _)
   | (with_reducible exact spec_BallsLeft.mono _ _ _ _)
   | (with_reducible exact spec_DrawIsBreak.mono _ _)
   | (with_reducible exact spec_DrawParseFrame.mono _ _)
   | (with_reducible exact spec_DrawPointsOf.mono _ _)
   | (with_reducible exact spec_DrawPotBall.mono _ _)
   | (with_reducible exact spec_FrameAfter.mono _ _ _ _ _)
   | (with_reducible exact spec_FrameText.mono _ _ _ _)
   | (with_reducible exact spec_HighestBreak.mono _ _ _ _)
   | (with_reducible exact spec_IsBreak.mono _ _ _ _ _)
   | (with_reducible exact spec_LeastBreak.mono _ _ _ _)
   | (with_reducible exact spec_NextBalls.mono _ _ _ _)
   | (with_reducible exact spec_ParseFrame.mono _ _)
   | (with_reducible exact spec_PointsLeft.mono _ _ _ _)
   | (with_reducible exact spec_PointsOf.mono _ _)
   | (with_reducible exact spec_PotBall.mono _ _ _ _ _)
   | (with_reducible exact LeO.refl _)
   | (with_reducible exact LeO.none _)
   | (with_reducible refine LeO.ite ?_ ?_)
   | (with_reducible refine LeO.bind ?_ (fun _ => ?_))
   | exact ih0 _ _
   | exact ih1 _ _ _ _ _ _ _ _ _ _ _ _ _ _ _ _ _ _ _ _ _
   | exact ih2 _ _ _ _ _ _ _ _ _ _ _ _ _ _ _ _ _ _ _ _
   | exact ih3 _ _ _ _ _ _ _ _ _ _ _
   | exact ih4 _
   | exact ih5 _ _ _ _ _ _ _ _ _ _ _
   | exact ih6 _ _ _ _ _ _ _ _ _ _
   | exact ih7 _ _ _ _ _ _
   | exact ih8 _ _ _ _ _ _ _ _ _
   | exact ih9 _ _ _ _ _ _ _ _
   | exact ih10 _ _ _ _ _ _ _ _ _ _ _ _
   | exact ih11 _ _ _ _ _ _ _ _ _ _ _ _ _
   | exact ih12 _ _ _ _ _ _ _ _ _ _ _ _
   | exact ih13 _ _ _ _ _ _ _ _ _ _ _ _ _ _ _ _
   | exact ih14 _ _ _ _ _ _ _ _ _ _ _ _ _ _ _ _ _ _ _ _
   | exact impl_BallsLeft.mono _ _ _ _
   | exact impl_FirstFrame.mono _ _
   | exact impl_FrameAfter.mono _ _ _ _ _
   | exact impl_FrameText.mono _ _ _ _
   | exact impl_HighestBreak.mono _ _ _ _
   | exact impl_IsBreak.mono _ _ _ _ _
   | exact impl_IsFrame.mono _ _ _ _
   | exact impl_LeastBreak.mono _ _ _ _
   | exact impl_MissBall.mono _ _ _ _
   | exact impl_NextBalls.mono _ _ _ _
   | exact impl_ParseFrame.mono _ _
   | exact impl_PointsLeft.mono _ _ _ _
   | exact impl_PointsOf.mono _ _
   | exact impl_PotBall.mono _ _ _ _ _
   | exact spec_BallsLeft.mono _ _ _ _
   | exact spec_DrawIsBreak.mono _ _
   | exact spec_DrawParseFrame.mono _ _
   | exact spec_DrawPointsOf.mono _ _
   | exact spec_DrawPotBall.mono _ _
   | exact spec_FrameAfter.mono _ _ _ _ _
   | exact spec_FrameText.mono _ _ _ _
   | exact spec_HighestBreak.mono _ _ _ _
   | exact spec_IsBreak.mono _ _ _ _ _
   | exact spec_LeastBreak.mono _ _ _ _
   | exact spec_NextBalls.mono _ _ _ _
   | exact spec_ParseFrame.mono _ _
   | exact spec_PointsLeft.mono _ _ _ _
   | exact spec_PointsOf.mono _ _
   | exact spec_PotBall.mono _ _ _ _ _
   | exact LeO.none _
   | refine LeO.ite ?_ ?_
   | refine LeO.bind ?_ (fun _ => ?_)
  ·intro y0 y1 y2 y3 y4 y5 y6 y7 y8 y9 y10
   unfold laws_FnFramesPotted.j12
   repeat' first
   | (with_reducible exact ih0 _ _)
   | (with_reducible exact ih1 _ _ _ _ _ _ _ _ _ _ _ _ _ _ _ _ _ _ _ _ _)
   | (with_reducible exact ih2 _ _ _ _ _ _ _ _ _ _ _ _ _ _ _ _ _ _ _ _)
   | (with_reducible exact ih3 _ _ _ _ _ _ _ _ _ _ _)
   | (with_reducible exact ih4 _)
   | (with_reducible exact ih5 _ _ _ _ _ _ _ _ _ _ _)
   | (with_reducible exact ih6 _ _ _ _ _ _ _ _ _ _)
   | (with_reducible exact ih7 _ _ _ _ _ _)
   | (with_reducible exact ih8 _ _ _ _ _ _ _ _ _)
   | (with_reducible exact ih9 _ _ _ _ _ _ _ _)
   | (with_reducible exact ih10 _ _ _ _ _ _ _ _ _ _ _ _)
   | (with_reducible exact ih11 _ _ _ _ _ _ _ _ _ _ _ _ _)
   | (with_reducible exact ih12 _ _ _ _ _ _ _ _ _ _ _ _)
   | (with_reducible exact ih13 _ _ _ _ _ _ _ _ _ _ _ _ _ _ _ _)
   | (with_reducible exact ih14 _ _ _ _ _ _ _ _ _ _ _ _ _ _ _ _ _ _ _ _)
   | (with_reducible exact impl_BallsLeft.mono _ _ _ _)
   | (with_reducible exact impl_FirstFrame.mono _ _)
   | (with_reducible exact impl_FrameAfter.mono _ _ _ _ _)
   | (with_reducible exact impl_FrameText.mono _ _ _ _)
   | (with_reducible exact impl_HighestBreak.mono _ _ _ _)
   | (with_reducible exact impl_IsBreak.mono _ _ _ _ _)
   | (with_reducible exact impl_IsFrame.mono _ _ _ _)
   | (with_reducible exact impl_LeastBreak.mono _ _ _ _)
   | (with_reducible exact impl_MissBall.mono _ _ _ _)
   | (with_reducible exact impl_NextBalls.mono _ _ _ _)
   | (with_reducible exact impl_ParseFrame.mono _ _)
   | (with_reducible exact impl_PointsLeft.mono _ _ _ _)
   | (with_reducible exact impl_PointsOf.mono _ _)
   | (with_reducible exact impl_PotBall.mono _ _ _ _ _)
   | (with_reducible exact spec_BallsLeft.mono _ _ _ _)
   | (with_reducible exact spec_DrawIsBreak.mono _ _)
   | (with_reducible exact spec_DrawParseFrame.mono _ _)
   | (with_reducible exact spec_DrawPointsOf.mono _ _)
   | (with_reducible exact spec_DrawPotBall.mono _ _)
   | (with_reducible exact spec_FrameAfter.mono _ _ _ _ _)
   | (with_reducible exact spec_FrameText.mono _ _ _ _)
   | (with_reducible exact spec_HighestBreak.mono _ _ _ _)
   | (with_reducible exact spec_IsBreak.mono _ _ _ _ _)
   | (with_reducible exact spec_LeastBreak.mono _ _ _ _)
   | (with_reducible exact spec_NextBalls.mono _ _ _ _)
   | (with_reducible exact spec_ParseFrame.mono _ _)
   | (with_reducible exact spec_PointsLeft.mono _ _ _ _)
   | (with_reducible exact spec_PointsOf.mono _ _)
   | (with_reducible exact spec_PotBall.mono _ _ _ _ _)
   | (with_reducible exact LeO.refl _)
   | (with_reducible exact LeO.none _)
   | (with_reducible refine LeO.ite ?_ ?_)
   | (with_reducible refine LeO.bind ?_ (fun _ => ?_))
   | exact ih0 _ _
   | exact ih1 _ _ _ _ _ _ _ _ _ _ _ _ _ _ _ _ _ _ _ _ _
   | exact ih2 _ _ _ _ _ _ _ _ _ _ _ _ _ _ _ _ _ _ _ _
   | exact ih3 _ _ _ _ _ _ _ _ _ _ _
   | exact ih4 _
   | exact ih5 _ _ _ _ _ _ _ _ _ _ _
   | exact ih6 _ _ _ _ _ _ _ _ _ _
   | exact ih7 _ _ _ _ _ _
   | exact ih8 _ _ _ _ _ _ _ _ _
   | exact ih9 _ _ _ _ _ _ _ _
   | exact ih10 _ _ _ _ _ _ _ _ _ _ _ _
   | exact ih11 _ _ _ _ _ _ _ _ _ _ _ _ _
   | exact ih12 _ _ _ _ _ _ _ _ _ _ _ _
   | exact ih13 _ _ _ _ _ _ _ _ _ _ _ _ _ _ _ _
   | exact ih14 _ _ _ _ _ _ _ _ _ _ _ _ _ _ _ _ _ _ _ _
   | exact impl_BallsLeft.mono _ _ _ _
   | exact impl_FirstFrame.mono _ _
   | exact impl_FrameAfter.mono _ _ _ _ _
   | exact impl_FrameText.mono _ _ _ _
   | exact impl_HighestBreak.mono _ _ _ _
   | exact impl_IsBreak.mono _ _ _ _ _
   | exact impl_IsFrame.mono _ _ _ _
   | exact impl_LeastBreak.mono _ _ _ _
   | exact impl_MissBall.mono _ _ _ _
   | exact impl_NextBalls.mono _ _ _ _
   | exact impl_ParseFrame.mono _ _
   | exact impl_PointsLeft.mono _ _ _ _
   | exact impl_PointsOf.mono _ _
   | exact impl_PotBall.mono _ _ _ _ _
   | exact spec_BallsLeft.mono _ _ _ _
   | exact spec_DrawIsBreak.mono _ _
   | exact spec_DrawParseFrame.mono _ _
   | exact spec_DrawPointsOf.mono _ _
   | exact spec_DrawPotBall.mono _ _
   | exact spec_FrameAfter.mono _ _ _ _ _
   | exact spec_FrameText.mono _ _ _ _
   | exact spec_HighestBreak.mono _ _ _ _
   | exact spec_IsBreak.mono _ _ _ _ _
   | exact spec_LeastBreak.mono _ _ _ _
   | exact spec_NextBalls.mono _ _ _ _
   | exact spec_ParseFrame.mono _ _
   | exact spec_PointsLeft.mono _ _ _ _
   | exact spec_PointsOf.mono _ _
   | exact spec_PotBall.mono _ _ _ _ _
   | exact LeO.none _
   | refine LeO.ite ?_ ?_
   | refine LeO.bind ?_ (fun _ => ?_)
  ·intro y0 y1 y2 y3 y4 y5 y6 y7 y8 y9
   unfold laws_FnFramesPotted.j13
   repeat' first
   | (with_reducible exact ih0 _ _)
   | (with_reducible exact ih1 _ _ _ _ _ _ _ _ _ _ _ _ _ _ _ _ _ _ _ _ _)
   | (with_reducible exact ih2 _ _ _ _ _ _ _ _ _ _ _ _ _ _ _ _ _ _ _ _)
   | (with_reducible exact ih3 _ _ _ _ _ _ _ _ _ _ _)
   | (with_reducible exact ih4 _)
   | (with_reducible exact ih5 _ _ _ _ _ _ _ _ _ _ _)
   | (with_reducible exact ih6 _ _ _ _ _ _ _ _ _ _)
   | (with_reducible exact ih7 _ _ _ _ _ _)
   | (with_reducible exact ih8 _ _ _ _ _ _ _ _ _)
   | (with_reducible exact ih9 _ _ _ _ _ _ _ _)
   | (with_reducible exact ih10 _ _ _ _ _ _ _ _ _ _ _ _)
   | (with_reducible exact ih11 _ _ _ _ _ _ _ _ _ _ _ _ _)
   | (with_reducible exact ih12 _ _ _ _ _ _ _ _ _ _ _ _)
   | (with_reducible exact ih13 _ _ _ _ _ _ _ _ _ _ _ _ _ _ _ _)
   | (with_reducible exact ih14 _ _ _ _ _ _ _ _ _ _ _ _ _ _ _ _ _ _ _ _)
   | (with_reducible exact impl_BallsLeft.mono _ _ _ _)
   | (with_reducible exact impl_FirstFrame.mono _ _)
   | (with_reducible exact impl_FrameAfter.mono _ _ _ _ _)
   | (with_reducible exact impl_FrameText.mono _ _ _ _)
   | (with_reducible exact impl_HighestBreak.mono _ _ _ _)
   | (with_reducible exact impl_IsBreak.mono _ _ _ _ _)
   | (with_reducible exact impl_IsFrame.mono _ _ _ _)
   | (with_reducible exact impl_LeastBreak.mono _ _ _ _)
   | (with_reducible exact impl_MissBall.mono _ _ _ _)
   | (with_reducible exact impl_NextBalls.mono _ _ _ _)
   | (with_reducible exact impl_ParseFrame.mono _ _)
   | (with_reducible exact impl_PointsLeft.mono _ _ _ _)
   | (with_reducible exact impl_PointsOf.mono _ _)
   | (with_reducible exact impl_PotBall.mono _ _ _ _ _)
   | (with_reducible exact spec_BallsLeft.mono _ _ _ _)
   | (with_reducible exact spec_DrawIsBreak.mono _ _)
   | (with_reducible exact spec_DrawParseFrame.mono _ _)
   | (with_reducible exact spec_DrawPointsOf.mono _ _)
   | (with_reducible exact spec_DrawPotBall.mono _ _)
   | (with_reducible exact spec_FrameAfter.mono _ _ _ _ _)
   | (with_reducible exact spec_FrameText.mono _ _ _ _)
   | (with_reducible exact spec_HighestBreak.mono _ _ _ _)
   | (with_reducible exact spec_IsBreak.mono _ _ _ _ _)
   | (with_reducible exact spec_LeastBreak.mono _ _ _ _)
   | (with_reducible exact spec_NextBalls.mono _ _ _ _)
   | (with_reducible exact spec_ParseFrame.mono _ _)
   | (with_reducible exact spec_PointsLeft.mono _ _ _ _)
   | (with_reducible exact spec_PointsOf.mono _ _)
   | (with_reducible exact spec_PotBall.mono _ _ _ _ _)
   | (with_reducible exact LeO.refl _)
   | (with_reducible exact LeO.none _)
   | (with_reducible refine LeO.ite ?_ ?_)
   | (with_reducible refine LeO.bind ?_ (fun _ => ?_))
   | exact ih0 _ _
   | exact ih1 _ _ _ _ _ _ _ _ _ _ _ _ _ _ _ _ _ _ _ _ _
   | exact ih2 _ _ _ _ _ _ _ _ _ _ _ _ _ _ _ _ _ _ _ _
   | exact ih3 _ _ _ _ _ _ _ _ _ _ _
   | exact ih4 _
   | exact ih5 _ _ _ _ _ _ _ _ _ _ _
   | exact ih6 _ _ _ _ _ _ _ _ _ _
   | exact ih7 _ _ _ _ _ _
   | exact ih8 _ _ _ _ _ _ _ _ _
   | exact ih9 _ _ _ _ _ _ _ _
   | exact ih10 _ _ _ _ _ _ _ _ _ _ _ _
   | exact ih11 _ _ _ _ _ _ _ _ _ _ _ _ _
   | exact ih12 _ _ _ _ _ _ _ _ _ _ _ _
   | exact ih13 _ _ _ _ _ _ _ _ _ _ _ _ _ _ _ _
   | exact ih14 _ _ _ _ _ _ _ _ _ _ _ _ _ _ _ _ _ _ _ _
   | exact impl_BallsLeft.mono _ _ _ _
   | exact impl_FirstFrame.mono _ _
   | exact impl_FrameAfter.mono _ _ _ _ _
   | exact impl_FrameText.mono _ _ _ _
   | exact impl_HighestBreak.mono _ _ _ _
   | exact impl_IsBreak.mono _ _ _ _ _
   | exact impl_IsFrame.mono _ _ _ _
   | exact impl_LeastBreak.mono _ _ _ _
   | exact impl_MissBall.mono _ _ _ _
   | exact impl_NextBalls.mono _ _ _ _
   | exact impl_ParseFrame.mono _ _
   | exact impl_PointsLeft.mono _ _ _ _
   | exact impl_PointsOf.mono _ _
   | exact impl_PotBall.mono _ _ _ _ _
   | exact spec_BallsLeft.mono _ _ _ _
   | exact spec_DrawIsBreak.mono _ _
   | exact spec_DrawParseFrame.mono _ _
   | exact spec_DrawPointsOf.mono _ _
   | exact spec_DrawPotBall.mono _ _
   | exact spec_FrameAfter.mono _ _ _ _ _
   | exact spec_FrameText.mono _ _ _ _
   | exact spec_HighestBreak.mono _ _ _ _
   | exact spec_IsBreak.mono _ _ _ _ _
   | exact spec_LeastBreak.mono _ _ _ _
   | exact spec_NextBalls.mono _ _ _ _
   | exact spec_ParseFrame.mono _ _
   | exact spec_PointsLeft.mono _ _ _ _
   | exact spec_PointsOf.mono _ _
   | exact spec_PotBall.mono _ _ _ _ _
   | exact LeO.none _
   | refine LeO.ite ?_ ?_
   | refine LeO.bind ?_ (fun _ => ?_)
  ·intro y0 y1 y2 y3 y4 y5
   unfold laws_FnFramesPotted.j14
   repeat' first
   | (with_reducible exact ih0 _ _)
   | (with_reducible exact ih1 _ _ _ _ _ _ _ _ _ _ _ _ _ _ _ _ _ _ _ _ _)
   | (with_reducible exact ih2 _ _ _ _ _ _ _ _ _ _ _ _ _ _ _ _ _ _ _ _)
   | (with_reducible exact ih3 _ _ _ _ _ _ _ _ _ _ _)
   | (with_reducible exact ih4 _)
   | (with_reducible exact ih5 _ _ _ _ _ _ _ _ _ _ _)
   | (with_reducible exact ih6 _ _ _ _ _ _ _ _ _ _)
   | (with_reducible exact ih7 _ _ _ _ _ _)
   | (with_reducible exact ih8 _ _ _ _ _ _ _ _ _)
   | (with_reducible exact ih9 _ _ _ _ _ _ _ _)
   | (with_reducible exact ih10 _ _ _ _ _ _ _ _ _ _ _ _)
   | (with_reducible exact ih11 _ _ _ _ _ _ _ _ _ _ _ _ _)
   | (with_reducible exact ih12 _ _ _ _ _ _ _ _ _ _ _ _)
   | (with_reducible exact ih13 _ _ _ _ _ _ _ _ _ _ _ _ _ _ _ _)
   | (with_reducible exact ih14 _ _ _ _ _ _ _ _ _ _ _ _ _ _ _ _ _ _ _ _)
   | (with_reducible exact impl_BallsLeft.mono _ _ _ _)
   | (with_reducible exact impl_FirstFrame.mono _ _)
   | (with_reducible exact impl_FrameAfter.mono _ _ _ _ _)
   | (with_reducible exact impl_FrameText.mono _ _ _ _)
   | (with_reducible exact impl_HighestBreak.mono _ _ _ _)
   | (with_reducible exact impl_IsBreak.mono _ _ _ _ _)
   | (with_reducible exact impl_IsFrame.mono _ _ _ _)
   | (with_reducible exact impl_LeastBreak.mono _ _ _ _)
   | (with_reducible exact impl_MissBall.mono _ _ _ _)
   | (with_reducible exact impl_NextBalls.mono _ _ _ _)
   | (with_reducible exact impl_ParseFrame.mono _ _)
   | (with_reducible exact impl_PointsLeft.mono _ _ _ _)
   | (with_reducible exact impl_PointsOf.mono _ _)
   | (with_reducible exact impl_PotBall.mono _ _ _ _ _)
   | (with_reducible exact spec_BallsLeft.mono _ _ _ _)
   | (with_reducible exact spec_DrawIsBreak.mono _ _)
   | (with_reducible exact spec_DrawParseFrame.mono _ _)
   | (with_reducible exact spec_DrawPointsOf.mono _ _)
   | (with_reducible exact spec_DrawPotBall.mono _ _)
   | (with_reducible exact spec_FrameAfter.mono _ _ _ _ _)
   | (with_reducible exact spec_FrameText.mono _ _ _ _)
   | (with_reducible exact spec_HighestBreak.mono _ _ _ _)
   | (with_reducible exact spec_IsBreak.mono _ _ _ _ _)
   | (with_reducible exact spec_LeastBreak.mono _ _ _ _)
   | (with_reducible exact spec_NextBalls.mono _ _ _ _)
   | (with_reducible exact spec_ParseFrame.mono _ _)
   | (with_reducible exact spec_PointsLeft.mono _ _ _ _)
   | (with_reducible exact spec_PointsOf.mono _ _)
   | (with_reducible exact spec_PotBall.mono _ _ _ _ _)
   | (with_reducible exact LeO.refl _)
   | (with_reducible exact LeO.none _)
   | (with_reducible refine LeO.ite ?_ ?_)
   | (with_reducible refine LeO.bind ?_ (fun _ => ?_))
   | exact ih0 _ _
   | exact ih1 _ _ _ _ _ _ _ _ _ _ _ _ _ _ _ _ _ _ _ _ _
   | exact ih2 _ _ _ _ _ _ _ _ _ _ _ _ _ _ _ _ _ _ _ _
   | exact ih3 _ _ _ _ _ _ _ _ _ _ _
   | exact ih4 _
   | exact ih5 _ _ _ _ _ _ _ _ _ _ _
   | exact ih6 _ _ _ _ _ _ _ _ _ _
   | exact ih7 _ _ _ _ _ _
   | exact ih8 _ _ _ _ _ _ _ _ _
   | exact ih9 _ _ _ _ _ _ _ _
   | exact ih10 _ _ _ _ _ _ _ _ _ _ _ _
   | exact ih11 _ _ _ _ _ _ _ _ _ _ _ _ _
   | exact ih12 _ _ _ _ _ _ _ _ _ _ _ _
   | exact ih13 _ _ _ _ _ _ _ _ _ _ _ _ _ _ _ _
   | exact ih14 _ _ _ _ _ _ _ _ _ _ _ _ _ _ _ _ _ _ _ _
   | exact impl_BallsLeft.mono _ _ _ _
   | exact impl_FirstFrame.mono _ _
   | exact impl_FrameAfter.mono _ _ _ _ _
   | exact impl_FrameText.mono _ _ _ _
   | exact impl_HighestBreak.mono _ _ _ _
   | exact impl_IsBreak.mono _ _ _ _ _
   | exact impl_IsFrame.mono _ _ _ _
   | exact impl_LeastBreak.mono _ _ _ _
   | exact impl_MissBall.mono _ _ _ _
   | exact impl_NextBalls.mono _ _ _ _
   | exact impl_ParseFrame.mono _ _
   | exact impl_PointsLeft.mono _ _ _ _
   | exact impl_PointsOf.mono _ _
   | exact impl_PotBall.mono _ _ _ _ _
   | exact spec_BallsLeft.mono _ _ _ _
   | exact spec_DrawIsBreak.mono _ _
   | exact spec_DrawParseFrame.mono _ _
   | exact spec_DrawPointsOf.mono _ _
   | exact spec_DrawPotBall.mono _ _
   | exact spec_FrameAfter.mono _ _ _ _ _
   | exact spec_FrameText.mono _ _ _ _
   | exact spec_HighestBreak.mono _ _ _ _
   | exact spec_IsBreak.mono _ _ _ _ _
   | exact spec_LeastBreak.mono _ _ _ _
   | exact spec_NextBalls.mono _ _ _ _
   | exact spec_ParseFrame.mono _ _
   | exact spec_PointsLeft.mono _ _ _ _
   | exact spec_PointsOf.mono _ _
   | exact spec_PotBall.mono _ _ _ _ _
   | exact LeO.none _
   | refine LeO.ite ?_ ?_
   | refine LeO.bind ?_ (fun _ => ?_)
  ·intro y0 y1 y2 y3 y4 y5 y6 y7 y8
   unfold laws_FnFramesPotted.j8
   repeat' first
   | (with_reducible exact ih0 _ _)
   | (with_reducible exact ih1 _ _ _ _ _ _ _ _ _ _ _ _ _ _ _ _ _ _ _ _ _)
   | (with_reducible exact ih2 _ _ _ _ _ _ _ _ _ _ _ _ _ _ _ _ _ _ _ _)
   | (with_reducible exact ih3 _ _ _ _ _ _ _ _ _ _ _)
   | (with_reducible exact ih4 _)
   | (with_reducible exact ih5 _ _ _ _ _ _ _ _ _ _ _)
   | (with_reducible exact ih6 _ _ _ _ _ _ _ _ _ _)
   | (with_reducible exact ih7 _ _ _ _ _ _)
   | (with_reducible exact ih8 _ _ _ _ _ _ _ _ _)
   | (with_reducible exact ih9 _ _ _ _ _ _ _ _)
   | (with_reducible exact ih10 _ _ _ _ _ _ _ _ _ _ _ _)
   | (with_reducible exact ih11 _ _ _ _ _ _ _ _ _ _ _ _ _)
   | (with_reducible exact ih12 _ _ _ _ _ _ _ _ _ _ _ _)
   | (with_reducible exact ih13 _ _ _ _ _ _ _ _ _ _ _ _ _ _ _ _)
   | (with_reducible exact ih14 _ _ _ _ _ _ _ _ _ _ _ _ _ _ _ _ _ _ _ _)
   | (with_reducible exact impl_BallsLeft.mono _ _ _ _)
   | (with_reducible exact impl_FirstFrame.mono _ _)
   | (with_reducible exact impl_FrameAfter.mono _ _ _ _ _)
   | (with_reducible exact impl_FrameText.mono _ _ _ _)
   | (with_reducible exact impl_HighestBreak.mono _ _ _ _)
   | (with_reducible exact impl_IsBreak.mono _ _ _ _ _)
   | (with_reducible exact impl_IsFrame.mono _ _ _ _)
   | (with_reducible exact impl_LeastBreak.mono _ _ _ _)
   | (with_reducible exact impl_MissBall.mono _ _ _ _)
   | (with_reducible exact impl_NextBalls.mono _ _ _ _)
   | (with_reducible exact impl_ParseFrame.mono _ _)
   | (with_reducible exact impl_PointsLeft.mono _ _ _ _)
   | (with_reducible exact impl_PointsOf.mono _ _)
   | (with_reducible exact impl_PotBall.mono _ _ _ _ _)
   | (with_reducible exact spec_BallsLeft.mono _ _ _ _)
   | (with_reducible exact spec_DrawIsBreak.mono _ _)
   | (with_reducible exact spec_DrawParseFrame.mono _ _)
   | (with_reducible exact spec_DrawPointsOf.mono _ _)
   | (with_reducible exact spec_DrawPotBall.mono _ _)
   | (with_reducible exact spec_FrameAfter.mono _ _ _ _ _)
   | (with_reducible exact spec_FrameText.mono _ _ _ _)
   | (with_reducible exact spec_HighestBreak.mono _ _ _ _)
   | (with_reducible exact spec_IsBreak.mono _ _ _ _ _)
   | (with_reducible exact spec_LeastBreak.mono _ _ _ _)
   | (with_reducible exact spec_NextBalls.mono _ _ _ _)
   | (with_reducible exact spec_ParseFrame.mono _ _)
   | (with_reducible exact spec_PointsLeft.mono _ _ _ _)
   | (with_reducible exact spec_PointsOf.mono _ _)
   | (with_reducible exact spec_PotBall.mono _ _ _ _ _)
   | (with_reducible exact LeO.refl _)
   | (with_reducible exact LeO.none _)
   | (with_reducible refine LeO.ite ?_ ?_)
   | (with_reducible refine LeO.bind ?_ (fun _ => ?_))
   | exact ih0 _ _
   | exact ih1 _ _ _ _ _ _ _ _ _ _ _ _ _ _ _ _ _ _ _ _ _
   | exact ih2 _ _ _ _ _ _ _ _ _ _ _ _ _ _ _ _ _ _ _ _
   | exact ih3 _ _ _ _ _ _ _ _ _ _ _
   | exact ih4 _
   | exact ih5 _ _ _ _ _ _ _ _ _ _ _
   | exact ih6 _ _ _ _ _ _ _ _ _ _
   | exact ih7 _ _ _ _ _ _
   | exact ih8 _ _ _ _ _ _ _ _ _
   | exact ih9 _ _ _ _ _ _ _ _
   | exact ih10 _ _ _ _ _ _ _ _ _ _ _ _
   | exact ih11 _ _ _ _ _ _ _ _ _ _ _ _ _
   | exact ih12 _ _ _ _ _ _ _ _ _ _ _ _
   | exact ih13 _ _ _ _ _ _ _ _ _ _ _ _ _ _ _ _
   | exact ih14 _ _ _ _ _ _ _ _ _ _ _ _ _ _ _ _ _ _ _ _
   | exact impl_BallsLeft.mono _ _ _ _
   | exact impl_FirstFrame.mono _ _
   | exact impl_FrameAfter.mono _ _ _ _ _
   | exact impl_FrameText.mono _ _ _ _
   | exact impl_HighestBreak.mono _ _ _ _
   | exact impl_IsBreak.mono _ _ _ _ _
   | exact impl_IsFrame.mono _ _ _ _
   | exact impl_LeastBreak.mono _ _ _ _
   | exact impl_MissBall.mono _ _ _ _
   | exact impl_NextBalls.mono _ _ _ _
   | exact impl_ParseFrame.mono _ _
   | exact impl_PointsLeft.mono _ _ _ _
   | exact impl_PointsOf.mono _ _
   | exact impl_PotBall.mono _ _ _ _ _
   | exact spec_BallsLeft.mono _ _ _ _
   | exact spec_DrawIsBreak.mono _ _
   | exact spec_DrawParseFrame.mono _ _
   | exact spec_DrawPointsOf.mono _ _
   | exact spec_DrawPotBall.mono _ _
   | exact spec_FrameAfter.mono _ _ _ _ _
   | exact spec_FrameText.mono _ _ _ _
   | exact spec_HighestBreak.mono _ _ _ _
   | exact spec_IsBreak.mono _ _ _ _ _
   | exact spec_LeastBreak.mono _ _ _ _
   | exact spec_NextBalls.mono _ _ _ _
   | exact spec_ParseFrame.mono _ _
   | exact spec_PointsLeft.mono _ _ _ _
   | exact spec_PointsOf.mono _ _
   | exact spec_PotBall.mono _ _ _ _ _
   | exact LeO.none _
   | refine LeO.ite ?_ ?_
   | refine LeO.bind ?_ (fun _ => ?_)
  ·intro y0 y1 y2 y3 y4 y5 y6 y7
   unfold laws_FnFramesPotted.j9
   repeat' first
   | (with_reducible exact ih0 _ _)
   | (with_reducible exact ih1 _ _ _ _ _ _ _ _ _ _ _ _ _ _ _ _ _ _ _ _ _)
   | (with_reducible exact ih2 _ _ _ _ _ _ _ _ _ _ _ _ _ _ _ _ _ _ _ _)
   | (with_reducible exact ih3 _ _ _ _ _ _ _ _ _ _ _)
   | (with_reducible exact ih4 _)
   | (with_reducible exact ih5 _ _ _ _ _ _ _ _ _ _ _)
   | (with_reducible exact ih6 _ _ _ _ _ _ _ _ _ _)
   | (with_reducible exact ih7 _ _ _ _ _ _)
   | (with_reducible exact ih8 _ _ _ _ _ _ _ _ _)
   | (with_reducible exact ih9 _ _ _ _ _ _ _ _)
   | (with_reducible exact ih10 _ _ _ _ _ _ _ _ _ _ _ _)
   | (with_reducible exact ih11 _ _ _ _ _ _ _ _ _ _ _ _ _)
   | (with_reducible exact ih12 _ _ _ _ _ _ _ _ _ _ _ _)
   | (with_reducible exact ih13 _ _ _ _ _ _ _ _ _ _ _ _ _ _ _ _)
   | (with_reducible exact ih14 _ _ _ _ _ _ _ _ _ _ _ _ _ _ _ _ _ _ _ _)
   | (with_reducible exact impl_BallsLeft.mono _ _ _ _)
   | (with_reducible exact impl_FirstFrame.mono _ _)
   | (with_reducible exact impl_FrameAfter.mono _ _ _ _ _)
   | (with_reducible exact impl_FrameText.mono _ _ _ _)
   | (with_reducible exact impl_HighestBreak.mono _ _ _ _)
   | (with_reducible exact impl_IsBreak.mono _ _ _ _ _)
   | (with_reducible exact impl_IsFrame.mono _ _ _ _)
   | (with_reducible exact impl_LeastBreak.mono _ _ _ _)
   | (with_reducible exact impl_MissBall.mono _ _ _ _)
   | (with_reducible exact impl_NextBalls.mono _ _ _ _)
   | (with_reducible exact impl_ParseFrame.mono _ _)
   | (with_reducible exact impl_PointsLeft.mono _ _ _ _)
   | (with_reducible exact impl_PointsOf.mono _ _)
   | (with_reducible exact impl_PotBall.mono _ _ _ _ _)
   | (with_reducible exact spec_BallsLeft.mono _ _ _ _)
   | (with_reducible exact spec_DrawIsBreak.mono _ _)
   | (with_reducible exact spec_DrawParseFrame.mono _ _)
   | (with_reducible exact spec_DrawPointsOf.mono _ _)
   | (with_reducible exact spec_DrawPotBall.mono _ _)
   | (with_reducible exact spec_FrameAfter.mono _ _ _ _ _)
   | (with_reducible exact spec_FrameText.mono _ _ _ _)
   | (with_reducible exact spec_HighestBreak.mono _ _ _ _)
   | (with_reducible exact spec_IsBreak.mono _ _ _ _ _)
   | (with_reducible exact spec_LeastBreak.mono _ _ _ _)
   | (with_reducible exact spec_NextBalls.mono _ _ _ _)
   | (with_reducible exact spec_ParseFrame.mono _ _)
   | (with_reducible exact spec_PointsLeft.mono _ _ _ _)
   | (with_reducible exact spec_PointsOf.mono _ _)
   | (with_reducible exact spec_PotBall.mono _ _ _ _ _)
   | (with_reducible exact LeO.refl _)
   | (with_reducible exact LeO.none _)
   | (with_reducible refine LeO.ite ?_ ?_)
   | (with_reducible refine LeO.bind ?_ (fun _ => ?_))
   | exact ih0 _ _
   | exact ih1 _ _ _ _ _ _ _ _ _ _ _ _ _ _ _ _ _ _ _ _ _
   | exact ih2 _ _ _ _ _ _ _ _ _ _ _ _ _ _ _ _ _ _ _ _
   | exact ih3 _ _ _ _ _ _ _ _ _ _ _
   | exact ih4 _
   | exact ih5 _ _ _ _ _ _ _ _ _ _ _
   | exact ih6 _ _ _ _ _ _ _ _ _ _
   | exact ih7 _ _ _ _ _ _
   | exact ih8 _ _ _ _ _ _ _ _ _
   | exact ih9 _ _ _ _ _ _ _ _
   | exact ih10 _ _ _ _ _ _ _ _ _ _ _ _
   | exact ih11 _ _ _ _ _ _ _ _ _ _ _ _ _
   | exact ih12 _ _ _ _ _ _ _ _ _ _ _ _
   | exact ih13 _ _ _ _ _ _ _ _ _ _ _ _ _ _ _ _
   | exact ih14 _ _ _ _ _ _ _ _ _ _ _ _ _ _ _ _ _ _ _ _
   | exact impl_BallsLeft.mono _ _ _ _
   | exact impl_FirstFrame.mono _ _
   | exact impl_FrameAfter.mono _ _ _ _ _
   | exact impl_FrameText.mono _ _ _ _
   | exact impl_HighestBreak.mono _ _ _ _
   | exact impl_IsBreak.mono _ _ _ _ _
   | exact impl_IsFrame.mono _ _ _ _
   | exact impl_LeastBreak.mono _ _ _ _
   | exact impl_MissBall.mono _ _ _ _
   | exact impl_NextBalls.mono _ _ _ _
   | exact impl_ParseFrame.mono _ _
   | exact impl_PointsLeft.mono _ _ _ _
   | exact impl_PointsOf.mono _ _
   | exact impl_PotBall.mono _ _ _ _ _
   | exact spec_BallsLeft.mono _ _ _ _
   | exact spec_DrawIsBreak.mono _ _
   | exact spec_DrawParseFrame.mono _ _
   | exact spec_DrawPointsOf.mono _ _
   | exact spec_DrawPotBall.mono _ _
   | exact spec_FrameAfter.mono _ _ _ _ _
   | exact spec_FrameText.mono _ _ _ _
   | exact spec_HighestBreak.mono _ _ _ _
   | exact spec_IsBreak.mono _ _ _ _ _
   | exact spec_LeastBreak.mono _ _ _ _
   | exact spec_NextBalls.mono _ _ _ _
   | exact spec_ParseFrame.mono _ _
   | exact spec_PointsLeft.mono _ _ _ _
   | exact spec_PointsOf.mono _ _
   | exact spec_PotBall.mono _ _ _ _ _
   | exact LeO.none _
   | refine LeO.ite ?_ ?_
   | refine LeO.bind ?_ (fun _ => ?_)
  ·intro y0 y1 y2 y3 y4 y5 y6 y7 y8 y9 y10 y11
   unfold laws_FnFramesPotted.l1
   repeat' first
   | (with_reducible exact ih0 _ _)
   | (with_reducible exact ih1 _ _ _ _ _ _ _ _ _ _ _ _ _ _ _ _ _ _ _ _ _)
   | (with_reducible exact ih2 _ _ _ _ _ _ _ _ _ _ _ _ _ _ _ _ _ _ _ _)
   | (with_reducible exact ih3 _ _ _ _ _ _ _ _ _ _ _)
   | (with_reducible exact ih4 _)
   | (with_reducible exact ih5 _ _ _ _ _ _ _ _ _ _ _)
   | (with_reducible exact ih6 _ _ _ _ _ _ _ _ _ _)
   | (with_reducible exact ih7 _ _ _ _ _ _)
   | (with_reducible exact ih8 _ _ _ _ _ _ _ _ _)
   | (with_reducible exact ih9 _ _ _ _ _ _ _ _)
   | (with_reducible exact ih10 _ _ _ _ _ _ _ _ _ _ _ _)
   | (with_reducible exact ih11 _ _ _ _ _ _ _ _ _ _ _ _ _)
   | (with_reducible exact ih12 _ _ _ _ _ _ _ _ _ _ _ _)
   | (with_reducible exact ih13 _ _ _ _ _ _ _ _ _ _ _ _ _ _ _ _)
   | (with_reducible exact ih14 _ _ _ _ _ _ _ _ _ _ _ _ _ _ _ _ _ _ _ _)
   | (with_reducible exact impl_BallsLeft.mono _ _ _ _)
   | (with_reducible exact impl_FirstFrame.mono _ _)
   | (with_reducible exact impl_FrameAfter.mono _ _ _ _ _)
   | (with_reducible exact impl_FrameText.mono _ _ _ _)
   | (with_reducible exact impl_HighestBreak.mono _ _ _ _)
   | (with_reducible exact impl_IsBreak.mono _ _ _ _ _)
   | (with_reducible exact impl_IsFrame.mono _ _ _ _)
   | (with_reducible exact impl_LeastBreak.mono _ _ _ _)
   | (with_reducible exact impl_MissBall.mono _ _ _ _)
   | (with_reducible exact impl_NextBalls.mono _ _ _ _)
   | (with_reducible exact impl_ParseFrame.mono _ _)
   | (with_reducible exact impl_PointsLeft.mono _ _ _ _)
   | (with_reducible exact impl_PointsOf.mono _ _)
   | (with_reducible exact impl_PotBall.mono _ _ _ _ _)
   | (with_reducible exact spec_BallsLeft.mono _ _ _ _)
   | (with_reducible exact spec_DrawIsBreak.mono _ _)
   | (with_reducible exact spec_DrawParseFrame.mono _ _)
   | (with_reducible exact spec_DrawPointsOf.mono _ _)
   | (with_reducible exact spec_DrawPotBall.mono _ _)
   | (with_reducible exact spec_FrameAfter.mono _ _ _ _ _)
   | (with_reducible exact spec_FrameText.mono _ _ _ _)
   | (with_reducible exact spec_HighestBreak.mono _ _ _ _)
   | (with_reducible exact spec_IsBreak.mono _ _ _ _ _)
   | (with_reducible exact spec_LeastBreak.mono _ _ _ _)
   | (with_reducible exact spec_NextBalls.mono _ _ _ _)
   | (with_reducible exact spec_ParseFrame.mono _ _)
   | (with_reducible exact spec_PointsLeft.mono _ _ _ _)
   | (with_reducible exact spec_PointsOf.mono _ _)
   | (with_reducible exact spec_PotBall.mono _ _ _ _ _)
   | (with_reducible exact LeO.refl _)
   | (with_reducible exact LeO.none _)
   | (with_reducible refine LeO.ite ?_ ?_)
   | (with_reducible refine LeO.bind ?_ (fun _ => ?_))
   | exact ih0 _ _
   | exact ih1 _ _ _ _ _ _ _ _ _ _ _ _ _ _ _ _ _ _ _ _ _
   | exact ih2 _ _ _ _ _ _ _ _ _ _ _ _ _ _ _ _ _ _ _ _
   | exact ih3 _ _ _ _ _ _ _ _ _ _ _
   | exact ih4 _
   | exact ih5 _ _ _ _ _ _ _ _ _ _ _
   | exact ih6 _ _ _ _ _ _ _ _ _ _
   | exact ih7 _ _ _ _ _ _
   | exact ih8 _ _ _ _ _ _ _ _ _
   | exact ih9 _ _ _ _ _ _ _ _
   | exact ih10 _ _ _ _ _ _ _ _ _ _ _ _
   | exact ih11 _ _ _ _ _ _ _ _ _ _ _ _ _
   | exact ih12 _ _ _ _ _ _ _ _ _ _ _ _
   | exact ih13 _ _ _ _ _ _ _ _ _ _ _ _ _ _ _ _
   | exact ih14 _ _ _ _ _ _ _ _ _ _ _ _ _ _ _ _ _ _ _ _
   | exact impl_BallsLeft.mono _ _ _ _
   | exact impl_FirstFrame.mono _ _
   | exact impl_FrameAfter.mono _ _ _ _ _
   | exact impl_FrameText.mono _ _ _ _
   | exact impl_HighestBreak.mono _ _ _ _
   | exact impl_IsBreak.mono _ _ _ _ _
   | exact impl_IsFrame.mono _ _ _ _
   | exact impl_LeastBreak.mono _ _ _ _
   | exact impl_MissBall.mono _ _ _ _
   | exact impl_NextBalls.mono _ _ _ _
   | exact impl_ParseFrame.mono _ _
   | exact impl_PointsLeft.mono _ _ _ _
   | exact impl_PointsOf.mono _ _
   | exact impl_PotBall.mono _ _ _ _ _
   | exact spec_BallsLeft.mono _ _ _ _
   | exact spec_DrawIsBreak.mono _ _
   | exact spec_DrawParseFrame.mono _ _
   | exact spec_DrawPointsOf.mono _ _
   | exact spec_DrawPotBall.mono _ _
   | exact spec_FrameAfter.mono _ _ _ _ _
   | exact spec_FrameText.mono _ _ _ _
   | exact spec_HighestBreak.mono _ _ _ _
   | exact spec_IsBreak.mono _ _ _ _ _
   | exact spec_LeastBreak.mono _ _ _ _
   | exact spec_NextBalls.mono _ _ _ _
   | exact spec_ParseFrame.mono _ _
   | exact spec_PointsLeft.mono _ _ _ _
   | exact spec_PointsOf.mono _ _
   | exact spec_PotBall.mono _ _ _ _ _
   | exact LeO.none _
   | refine LeO.ite ?_ ?_
   | refine LeO.bind ?_ (fun _ => ?_)
  ·intro y0 y1 y2 y3 y4 y5 y6 y7 y8 y9 y10 y11 y12
   unfold laws_FnFramesPotted.j3
   repeat' first
   | (with_reducible exact ih0 _ _)
   | (with_reducible exact ih1 _ _ _ _ _ _ _ _ _ _ _ _ _ _ _ _ _ _ _ _ _)
   | (with_reducible exact ih2 _ _ _ _ _ _ _ _ _ _ _ _ _ _ _ _ _ _ _ _)
   | (with_reducible exact ih3 _ _ _ _ _ _ _ _ _ _ _)
   | (with_reducible exact ih4 _)
   | (with_reducible exact ih5 _ _ _ _ _ _ _ _ _ _ _)
   | (with_reducible exact ih6 _ _ _ _ _ _ _ _ _ _)
   | (with_reducible exact ih7 _ _ _ _ _ _)
   | (with_reducible exact ih8 _ _ _ _ _ _ _ _ _)
   | (with_reducible exact ih9 _ _ _ _ _ _ _ _)
   | (with_reducible exact ih10 _ _ _ _ _ _ _ _ _ _ _ _)
   | (with_reducible exact ih11 _ _ _ _ _ _ _ _ _ _ _ _ _)
   | (with_reducible exact ih12 _ _ _ _ _ _ _ _ _ _ _ _)
   | (with_reducible exact ih13 _ _ _ _ _ _ _ _ _ _ _ _ _ _ _ _)
   | (with_reducible exact ih14 _ _ _ _ _ _ _ _ _ _ _ _ _ _ _ _ _ _ _ _)
   | (with_reducible exact impl_BallsLeft.mono _ _ _ _)
   | (with_reducible exact impl_FirstFrame.mono _ _)
   | (with_reducible exact impl_FrameAfter.mono _ _ _ _ _)
   | (with_reducible exact impl_FrameText.mono _ _ _ _)
   | (with_reducible exact impl_HighestBreak.mono _ _ _ _)
   | (with_reducible exact impl_IsBreak.mono _ _ _ _ _)
   | (with_reducible exact impl_IsFrame.mono _ _ _ _)
   | (with_reducible exact impl_LeastBreak.mono _ _ _ _)
   | (with_reducible exact impl_MissBall.mono _ _ _ _)
   | (with_reducible exact impl_NextBalls.mono _ _ _ _)
   | (with_reducible exact impl_ParseFrame.mono _ _)
   | (with_reducible exact impl_PointsLeft.mono _ _ _ _)
   | (with_reducible exact impl_PointsOf.mono _ _)
   | (with_reducible exact impl_PotBall.mono _ _ _ _ _)
   | (with_reducible exact spec_BallsLeft.mono _ _ _ _)
   | (with_reducible exact spec_DrawIsBreak.mono _ _)
   | (with_reducible exact spec_DrawParseFrame.mono _ _)
   | (with_reducible exact spec_DrawPointsOf.mono _ _)
   | (with_reducible exact spec_DrawPotBall.mono _ _)
   | (with_reducible exact spec_FrameAfter.mono _ _ _ _ _)
   | (with_reducible exact spec_FrameText.mono _ _ _ _)
   | (with_reducible exact spec_HighestBreak.mono _ _ _ _)
   | (with_reducible exact spec_IsBreak.mono _ _ _ _ _)
   | (with_reducible exact spec_LeastBreak.mono _ _ _ _)
   | (with_reducible exact spec_NextBalls.mono _ _ _ _)
   | (with_reducible exact spec_ParseFrame.mono _ _)
   | (with_reducible exact spec_PointsLeft.mono _ _ _ _)
   | (with_reducible exact spec_PointsOf.mono _ _)
   | (with_reducible exact spec_PotBall.mono _ _ _ _ _)
   | (with_reducible exact LeO.refl _)
   | (with_reducible exact LeO.none _)
   | (with_reducible refine LeO.ite ?_ ?_)
   | (with_reducible refine LeO.bind ?_ (fun _ => ?_))
   | exact ih0 _ _
   | exact ih1 _ _ _ _ _ _ _ _ _ _ _ _ _ _ _ _ _ _ _ _ _
   | exact ih2 _ _ _ _ _ _ _ _ _ _ _ _ _ _ _ _ _ _ _ _
   | exact ih3 _ _ _ _ _ _ _ _ _ _ _
   | exact ih4 _
   | exact ih5 _ _ _ _ _ _ _ _ _ _ _
   | exact ih6 _ _ _ _ _ _ _ _ _ _
   | exact ih7 _ _ _ _ _ _
   | exact ih8 _ _ _ _ _ _ _ _ _
   | exact ih9 _ _ _ _ _ _ _ _
   | exact ih10 _ _ _ _ _ _ _ _ _ _ _ _
   | exact ih11 _ _ _ _ _ _ _ _ _ _ _ _ _
   | exact ih12 _ _ _ _ _ _ _ _ _ _ _ _
   | exact ih13 _ _ _ _ _ _ _ _ _ _ _ _ _ _ _ _
   | exact ih14 _ _ _ _ _ _ _ _ _ _ _ _ _ _ _ _ _ _ _ _
   | exact impl_BallsLeft.mono _ _ _ _
   | exact impl_FirstFrame.mono _ _
   | exact impl_FrameAfter.mono _ _ _ _ _
   | exact impl_FrameText.mono _ _ _ _
   | exact impl_HighestBreak.mono _ _ _ _
   | exact impl_IsBreak.mono _ _ _ _ _
   | exact impl_IsFrame.mono _ _ _ _
   | exact impl_LeastBreak.mono _ _ _ _
   | exact impl_MissBall.mono _ _ _ _
   | exact impl_NextBalls.mono _ _ _ _
   | exact impl_ParseFrame.mono _ _
   | exact impl_PointsLeft.mono _ _ _ _
   | exact impl_PointsOf.mono _ _
   | exact impl_PotBall.mono _ _ _ _ _
   | exact spec_BallsLeft.mono _ _ _ _
   | exact spec_DrawIsBreak.mono _ _
   | exact spec_DrawParseFrame.mono _ _
   | exact spec_DrawPointsOf.mono _ _
   | exact spec_DrawPotBall.mono _ _
   | exact spec_FrameAfter.mono _ _ _ _ _
   | exact spec_FrameText.mono _ _ _ _
   | exact spec_HighestBreak.mono _ _ _ _
   | exact spec_IsBreak.mono _ _ _ _ _
   | exact spec_LeastBreak.mono _ _ _ _
   | exact spec_NextBalls.mono _ _ _ _
   | exact spec_ParseFrame.mono _ _
   | exact spec_PointsLeft.mono _ _ _ _
   | exact spec_PointsOf.mono _ _
   | exact spec_PotBall.mono _ _ _ _ _
   | exact LeO.none _
   | refine LeO.ite ?_ ?_
   | refine LeO.bind ?_ (fun _ => ?_)
  ·intro y0 y1 y2 y3 y4 y5 y6 y7 y8 y9 y10 y11
   unfold laws_FnFramesPotted.j4
   repeat' first
   | (with_reducible exact ih0 _ _)
   | (with_reducible exact ih1 _ _ _ _ _ _ _ _ _ _ _ _ _ _ _ _ _ _ _ _ _)
   | (with_reducible exact ih2 _ _ _ _ _ _ _ _ _ _ _ _ _ _ _ _ _ _ _ _)
   | (with_reducible exact ih3 _ _ _ _ _ _ _ _ _ _ _)
   | (with_reducible exact ih4 _)
   | (with_reducible exact ih5 _ _ _ _ _ _ _ _ _ _ _)
   | (with_reducible exact ih6 _ _ _ _ _ _ _ _ _ _)
   | (with_reducible exact ih7 _ _ _ _ _ _)
   | (with_reducible exact ih8 _ _ _ _ _ _ _ _ _)
   | (with_reducible exact ih9 _ _ _ _ _ _ _ _)
   | (with_reducible exact ih10 _ _ _ _ _ _ _ _ _ _ _ _)
   | (with_reducible exact ih11 _ _ _ _ _ _ _ _ _ _ _ _ _)
   | (with_reducible exact ih12 _ _ _ _ _ _ _ _ _ _ _ _)
   | (with_reducible exact ih13 _ _ _ _ _ _ _ _ _ _ _ _ _ _ _ _)
   | (with_reducible exact ih14 _ _ _ _ _ _ _ _ _ _ _ _ _ _ _ _ _ _ _ _)
   | (with_reducible exact impl_BallsLeft.mono _ _ _ _)
   | (with_reducible exact impl_FirstFrame.mono _ _)
   | (with_reducible exact impl_FrameAfter.mono _ _ _ _ _)
   | (with_reducible exact impl_FrameText.mono _ _ _ _)
   | (with_reducible exact impl_HighestBreak.mono _ _ _ _)
   | (with_reducible exact impl_IsBreak.mono _ _ _ _ _)
   | (with_reducible exact impl_IsFrame.mono _ _ _ _)
   | (with_reducible exact impl_LeastBreak.mono _ _ _ _)
   | (with_reducible exact impl_MissBall.mono _ _ _ _)
   | (with_reducible exact impl_NextBalls.mono _ _ _ _)
   | (with_reducible exact impl_ParseFrame.mono _ _)
   | (with_reducible exact impl_PointsLeft.mono _ _ _ _)
   | (with_reducible exact impl_PointsOf.mono _ _)
   | (with_reducible exact impl_PotBall.mono _ _ _ _ _)
   | (with_reducible exact spec_BallsLeft.mono _ _ _ _)
   | (with_reducible exact spec_DrawIsBreak.mono _ _)
   | (with_reducible exact spec_DrawParseFrame.mono _ _)
   | (with_reducible exact spec_DrawPointsOf.mono _ _)
   | (with_reducible exact spec_DrawPotBall.mono _ _)
   | (with_reducible exact spec_FrameAfter.mono _ _ _ _ _)
   | (with_reducible exact spec_FrameText.mono _ _ _ _)
   | (with_reducible exact spec_HighestBreak.mono _ _ _ _)
   | (with_reducible exact spec_IsBreak.mono _ _ _ _ _)
   | (with_reducible exact spec_LeastBreak.mono _ _ _ _)
   | (with_reducible exact spec_NextBalls.mono _ _ _ _)
   | (with_reducible exact spec_ParseFrame.mono _ _)
   | (with_reducible exact spec_PointsLeft.mono _ _ _ _)
   | (with_reducible exact spec_PointsOf.mono _ _)
   | (with_reducible exact spec_PotBall.mono _ _ _ _ _)
   | (with_reducible exact LeO.refl _)
   | (with_reducible exact LeO.none _)
   | (with_reducible refine LeO.ite ?_ ?_)
   | (with_reducible refine LeO.bind ?_ (fun _ => ?_))
   | exact ih0 _ _
   | exact ih1 _ _ _ _ _ _ _ _ _ _ _ _ _ _ _ _ _ _ _ _ _
   | exact ih2 _ _ _ _ _ _ _ _ _ _ _ _ _ _ _ _ _ _ _ _
   | exact ih3 _ _ _ _ _ _ _ _ _ _ _
   | exact ih4 _
   | exact ih5 _ _ _ _ _ _ _ _ _ _ _
   | exact ih6 _ _ _ _ _ _ _ _ _ _
   | exact ih7 _ _ _ _ _ _
   | exact ih8 _ _ _ _ _ _ _ _ _
   | exact ih9 _ _ _ _ _ _ _ _
   | exact ih10 _ _ _ _ _ _ _ _ _ _ _ _
   | exact ih11 _ _ _ _ _ _ _ _ _ _ _ _ _
   | exact ih12 _ _ _ _ _ _ _ _ _ _ _ _
   | exact ih13 _ _ _ _ _ _ _ _ _ _ _ _ _ _ _ _
   | exact ih14 _ _ _ _ _ _ _ _ _ _ _ _ _ _ _ _ _ _ _ _
   | exact impl_BallsLeft.mono _ _ _ _
   | exact impl_FirstFrame.mono _ _
   | exact impl_FrameAfter.mono _ _ _ _ _
   | exact impl_FrameText.mono _ _ _ _
   | exact impl_HighestBreak.mono _ _ _ _
   | exact impl_IsBreak.mono _ _ _ _ _
   | exact impl_IsFrame.mono _ _ _ _
   | exact impl_LeastBreak.mono _ _ _ _
   | exact impl_MissBall.mono _ _ _ _
   | exact impl_NextBalls.mono _ _ _ _
   | exact impl_ParseFrame.mono _ _
   | exact impl_PointsLeft.mono _ _ _ _
   | exact impl_PointsOf.mono _ _
   | exact impl_PotBall.mono _ _ _ _ _
   | exact spec_BallsLeft.mono _ _ _ _
   | exact spec_DrawIsBreak.mono _ _
   | exact spec_DrawParseFrame.mono _ _
   | exact spec_DrawPointsOf.mono _ _
   | exact spec_DrawPotBall.mono _ _
   | exact spec_FrameAfter.mono _ _ _ _ _
   | exact spec_FrameText.mono _ _ _ _
   | exact spec_HighestBreak.mono _ _ _ _
   | exact spec_IsBreak.mono _ _ _ _ _
   | exact spec_LeastBreak.mono _ _ _ _
   | exact spec_NextBalls.mono _ _ _ _
   | exact spec_ParseFrame.mono _ _
   | exact spec_PointsLeft.mono _ _ _ _
   | exact spec_PointsOf.mono _ _
   | exact spec_PotBall.mono _ _ _ _ _
   | exact LeO.none _
   | refine LeO.ite ?_ ?_
   | refine LeO.bind ?_ (fun _ => ?_)
  ·intro y0 y1 y2 y3 y4 y5 y6 y7 y8 y9 y10 y11 y12 y13 y14 y15
   unfold laws_FnFramesPotted.l0
   repeat' first
   | (with_reducible exact ih0 _ _)
   | (with_reducible exact ih1 _ _ _ _ _ _ _ _ _ _ _ _ _ _ _ _ _ _ _ _ _)
   | (with_reducible exact ih2 _ _ _ _ _ _ _ _ _ _ _ _ _ _ _ _ _ _ _ _)
   | (with_reducible exact ih3 _ _ _ _ _ _ _ _ _ _ _)
   | (with_reducible exact ih4 _)
   | (with_reducible exact ih5 _ _ _ _ _ _ _ _ _ _ _)
   | (with_reducible exact ih6 _ _ _ _ _ _ _ _ _ _)
   | (with_reducible exact ih7 _ _ _ _ _ _)
   | (with_reducible exact ih8 _ _ _ _ _ _ _ _ _)
   | (with_reducible exact ih9 _ _ _ _ _ _ _ _)
   | (with_reducible exact ih10 _ _ _ _ _ _ _ _ _ _ _ _)
   | (with_reducible exact ih11 _ _ _ _ _ _ _ _ _ _ _ _ _)
   | (with_reducible exact ih12 _ _ _ _ _ _ _ _ _ _ _ _)
   | (with_reducible exact ih13 _ _ _ _ _ _ _ _ _ _ _ _ _ _ _ _)
   | (with_reducible exact ih14 _ _ _ _ _ _ _ _ _ _ _ _ _ _ _ _ _ _ _ _)
   | (with_reducible exact impl_BallsLeft.mono _ _ _ _)
   | (with_reducible exact impl_FirstFrame.mono _ _)
   | (with_reducible exact impl_FrameAfter.mono _ _ _ _ _)
   | (with_reducible exact impl_FrameText.mono _ _ _ _)
   | (with_reducible exact impl_HighestBreak.mono _ _ _ _)
   | (with_reducible exact impl_IsBreak.mono _ _ _ _ _)
   | (with_reducible exact impl_IsFrame.mono _ _ _ _)
   | (with_reducible exact impl_LeastBreak.mono _ _ _ _)
   | (with_reducible exact impl_MissBall.mono _ _ _ _)
   | (with_reducible exact impl_NextBalls.mono _ _ _ _)
   | (with_reducible exact impl_ParseFrame.mono _ _)
   | (with_reducible exact impl_PointsLeft.mono _ _ _ _)
   | (with_reducible exact impl_PointsOf.mono _ _)
   | (with_reducible exact impl_PotBall.mono _ _ _ _ _)
   | (with_reducible exact spec_BallsLeft.mono _ _ _ _)
   | (with_reducible exact spec_DrawIsBreak.mono _ _)
   | (with_reducible exact spec_DrawParseFrame.mono _ _)
   | (with_reducible exact spec_DrawPointsOf.mono _ _)
   | (with_reducible exact spec_DrawPotBall.mono _ _)
   | (with_reducible exact spec_FrameAfter.mono _ _ _ _ _)
   | (with_reducible exact spec_FrameText.mono _ _ _ _)
   | (with_reducible exact spec_HighestBreak.mono _ _ _ _)
   | (with_reducible exact spec_IsBreak.mono _ _ _ _ _)
   | (with_reducible exact spec_LeastBreak.mono _ _ _ _)
   | (with_reducible exact spec_NextBalls.mono _ _ _ _)
   | (with_reducible exact spec_ParseFrame.mono _ _)
   | (with_reducible exact spec_PointsLeft.mono _ _ _ _)
   | (with_reducible exact spec_PointsOf.mono _ _)
   | (with_reducible exact spec_PotBall.mono _ _ _ _ _)
   | (with_reducible exact LeO.refl _)
   | (with_reducible exact LeO.none _)
   | (with_reducible refine LeO.ite ?_ ?_)
   | (with_reducible refine LeO.bind ?_ (fun _ => ?_))
   | exact ih0 _ _
   | exact ih1 _ _ _ _ _ _ _ _ _ _ _ _ _ _ _ _ _ _ _ _ _
   | exact ih2 _ _ _ _ _ _ _ _ _ _ _ _ _ _ _ _ _ _ _ _
   | exact ih3 _ _ _ _ _ _ _ _ _ _ _
   | exact ih4 _
   | exact ih5 _ _ _ _ _ _ _ _ _ _ _
   | exact ih6 _ _ _ _ _ _ _ _ _ _
   | exact ih7 _ _ _ _ _ _
   | exact ih8 _ _ _ _ _ _ _ _ _
   | exact ih9 _ _ _ _ _ _ _ _
   | exact ih10 _ _ _ _ _ _ _ _ _ _ _ _
   | exact ih11 _ _ _ _ _ _ _ _ _ _ _ _ _
   | exact ih12 _ _ _ _ _ _ _ _ _ _ _ _
   | exact ih13 _ _ _ _ _ _ _ _ _ _ _ _ _ _ _ _
   | exact ih14 _ _ _ _ _ _ _ _ _ _ _ _ _ _ _ _ _ _ _ _
   | exact impl_BallsLeft.mono _ _ _ _
   | exact impl_FirstFrame.mono _ _
   | exact impl_FrameAfter.mono _ _ _ _ _
   | exact impl_FrameText.mono _ _ _ _
   | exact impl_HighestBreak.mono _ _ _ _
   | exact impl_IsBreak.mono _ _ _ _ _
   | exact impl_IsFrame.mono _ _ _ _
   | exact impl_LeastBreak.mono _ _ _ _
   | exact impl_MissBall.mono _ _ _ _
   | exact impl_NextBalls.mono _ _ _ _
   | exact impl_ParseFrame.mono _ _
   | exact impl_PointsLeft.mono _ _ _ _
   | exact impl_PointsOf.mono _ _
   | exact impl_PotBall.mono _ _ _ _ _
   | exact spec_BallsLeft.mono _ _ _ _
   | exact spec_DrawIsBreak.mono _ _
   | exact spec_DrawParseFrame.mono _ _
   | exact spec_DrawPointsOf.mono _ _
   | exact spec_DrawPotBall.mono _ _
   | exact spec_FrameAfter.mono _ _ _ _ _
   | exact spec_FrameText.mono _ _ _ _
   | exact spec_HighestBreak.mono _ _ _ _
   | exact spec_IsBreak.mono _ _ _ _ _
   | exact spec_LeastBreak.mono _ _ _ _
   | exact spec_NextBalls.mono _ _ _ _
   | exact spec_ParseFrame.mono _ _
   | exact spec_PointsLeft.mono _ _ _ _
   | exact spec_PointsOf.mono _ _
   | exact spec_PotBall.mono _ _ _ _ _
   | exact LeO.none _
   | refine LeO.ite ?_ ?_
   | refine LeO.bind ?_ (fun _ => ?_)
  ·intro y0 y1 y2 y3 y4 y5 y6 y7 y8 y9 y10 y11 y12 y13 y14 y15 y16 y17 y18 y19
   unfold laws_FnFramesPotted.j6
   repeat' first
   | (with_reducible exact ih0 _ _)
   | (with_reducible exact ih1 _ _ _ _ _ _ _ _ _ _ _ _ _ _ _ _ _ _ _ _ _)
   | (with_reducible exact ih2 _ _ _ _ _ _ _ _ _ _ _ _ _ _ _ _ _ _ _ _)
   | (with_reducible exact ih3 _ _ _ _ _ _ _ _ _ _ _)
   | (with_reducible exact ih4 _)
   | (with_reducible exact ih5 _ _ _ _ _ _ _ _ _ _ _)
   | (with_reducible exact ih6 _ _ _ _ _ _ _ _ _ _)
   | (with_reducible exact ih7 _ _ _ _ _ _)
   | (with_reducible exact ih8 _ _ _ _ _ _ _ _ _)
   | (with_reducible exact ih9 _ _ _ _ _ _ _ _)
   | (with_reducible exact ih10 _ _ _ _ _ _ _ _ _ _ _ _)
   | (with_reducible exact ih11 _ _ _ _ _ _ _ _ _ _ _ _ _)
   | (with_reducible exact ih12 _ _ _ _ _ _ _ _ _ _ _ _)
   | (with_reducible exact ih13 _ _ _ _ _ _ _ _ _ _ _ _ _ _ _ _)
   | (with_reducible exact ih14 _ _ _ _ _ _ _ _ _ _ _ _ _ _ _ _ _ _ _ _)
   | (with_reducible exact impl_BallsLeft.mono _ _ _ _)
   | (with_reducible exact impl_FirstFrame.mono _ _)
   | (with_reducible exact impl_FrameAfter.mono _ _ _ _ _)
   | (with_reducible exact impl_FrameText.mono _ _ _ _)
   | (with_reducible exact impl_HighestBreak.mono _ _ _ _)
   | (with_reducible exact impl_IsBreak.mono _ _ _ _ _)
   | (with_reducible exact impl_IsFrame.mono _ _ _ _)
   | (with_reducible exact impl_LeastBreak.mono _ _ _ _)
   | (with_reducible exact impl_MissBall.mono _ _ _ _)
   | (with_reducible exact impl_NextBalls.mono _ _ _ _)
   | (with_reducible exact impl_ParseFrame.mono _ _)
   | (with_reducible exact impl_PointsLeft.mono _ _ _ _)
   | (with_reducible exact impl_PointsOf.mono _ _)
   | (with_reducible exact impl_PotBall.mono _ _ _ _ _)
   | (with_reducible exact spec_BallsLeft.mono _ _ _ _)
   | (with_reducible exact spec_DrawIsBreak.mono _ _)
   | (with_reducible exact spec_DrawParseFrame.mono _ _)
   | (with_reducible exact spec_DrawPointsOf.mono _ _)
   | (with_reducible exact spec_DrawPotBall.mono _ _)
   | (with_reducible exact spec_FrameAfter.mono _ _ _ _ _)
   | (with_reducible exact spec_FrameText.mono _ _ _ _)
   | (with_reducible exact spec_HighestBreak.mono _ _ _ _)
   | (with_reducible exact spec_IsBreak.mono _ _ _ _ _)
   | (with_reducible exact spec_LeastBreak.mono _ _ _ _)
   | (with_reducible exact spec_NextBalls.mono _ _ _ _)
   | (with_reducible exact spec_ParseFrame.mono _ _)
   | (with_reducible exact spec_PointsLeft.mono _ _ _ _)
   | (with_reducible exact spec_PointsOf.mono _ _)
   | (with_reducible exact spec_PotBall.mono _ _ _ _ _)
   | (with_reducible exact LeO.refl _)
   | (with_reducible exact LeO.none _)
   | (with_reducible refine LeO.ite ?_ ?_)
   | (with_reducible refine LeO.bind ?_ (fun _ => ?_))
   | exact ih0 _ _
   | exact ih1 _ _ _ _ _ _ _ _ _ _ _ _ _ _ _ _ _ _ _ _ _
   | exact ih2 _ _ _ _ _ _ _ _ _ _ _ _ _ _ _ _ _ _ _ _
   | exact ih3 _ _ _ _ _ _ _ _ _ _ _
   | exact ih4 _
   | exact ih5 _ _ _ _ _ _ _ _ _ _ _
   | exact ih6 _ _ _ _ _ _ _ _ _ _
   | exact ih7 _ _ _ _ _ _
   | exact ih8 _ _ _ _ _ _ _ _ _
   | exact ih9 _ _ _ _ _ _ _ _
   | exact ih10 _ _ _ _ _ _ _ _ _ _ _ _
   | exact ih11 _ _ _ _ _ _ _ _ _ _ _ _ _
   | exact ih12 _ _ _ _ _ _ _ _ _ _ _ _
   | exact ih13 _ _ _ _ _ _ _ _ _ _ _ _ _ _ _ _
   | exact ih14 _ _ _ _ _ _ _ _ _ _ _ _ _ _ _ _ _ _ _ _
   | exact impl_BallsLeft.mono _ _ _ _
   | exact impl_FirstFrame.mono _ _
   | exact impl_FrameAfter.mono _ _ _ _ _
   | exact impl_FrameText.mono _ _ _ _
   | exact impl_HighestBreak.mono _ _ _ _
   | exact impl_IsBreak.mono _ _ _ _ _
   | exact impl_IsFrame.mono _ _ _ _
   | exact impl_LeastBreak.mono _ _ _ _
   | exact impl_MissBall.mono _ _ _ _
   | exact impl_NextBalls.mono _ _ _ _
   | exact impl_ParseFrame.mono _ _
   | exact impl_PointsLeft.mono _ _ _ _
   | exact impl_PointsOf.mono _ _
   | exact impl_PotBall.mono _ _ _ _ _
   | exact spec_BallsLeft.mono _ _ _ _
   | exact spec_DrawIsBreak.mono _ _
   | exact spec_DrawParseFrame.mono _ _
   | exact spec_DrawPointsOf.mono _ _
   | exact spec_DrawPotBall.mono _ _
   | exact spec_FrameAfter.mono _ _ _ _ _
   | exact spec_FrameText.mono _ _ _ _
   | exact spec_HighestBreak.mono _ _ _ _
   | exact spec_IsBreak.mono _ _ _ _ _
   | exact spec_LeastBreak.mono _ _ _ _
   | exact spec_NextBalls.mono _ _ _ _
   | exact spec_ParseFrame.mono _ _
   | exact spec_PointsLeft.mono _ _ _ _
   | exact spec_PointsOf.mono _ _
   | exact spec_PotBall.mono _ _ _ _ _
   | exact LeO.none _
   | refine LeO.ite ?_ ?_
   | refine LeO.bind ?_ (fun _ => ?_)
theorem laws_FnFramesPotted.mono : ∀ a0 a1 k, LeO (laws_FnFramesPotted.f k a0 a1) (laws_FnFramesPotted.f (k + 1) a0 a1) := by
 intro a0 a1 k
 obtain ⟨ih0, ih1, ih2, ih3, ih4, ih5, ih6, ih7, ih8, ih9, ih10, ih11, ih12, ih13, ih14⟩ := laws_FnFramesPotted.mono_l k
 unfold laws_FnFramesPotted.f
 repeat' first
   | (with_reducible exact ih0 _ _)
   | (with_reducible exact ih1 _ _ _ _ _ _ _ _ _ _ _ _ _ _ _ _ _ _ _ _ _)
   | (with_reducible exact ih2 _ _ _ _ _ _ _ _ _ _ _ _ _ _ _ _ _ _ _ _)
   | (with_reducible exact ih3 _ _ _ _ _ _ _ _ _ _ _)
   | (with_reducible exact ih4 _)
   | (with_reducible exact ih5 _ _ _ _ _ _ _ _ _ _ _)
   | (with_reducible exact ih6 _ _ _ _ _ _ _ _ _ _)
   | (with_reducible exact ih7 _ _ _ _ _ _)
   | (with_reducible exact ih8 _ _ _ _ _ _ _ _ _)
   | (with_reducible exact ih9 _ _ _ _ _ _ _ _)
   | (with_reducible exact ih10 _ _ _ _ _ _ _ _ _ _ _ _)
   | (with_reducible exact ih11 _ _ _ _ _ _ _ _ _ _ _ _ _)
   | (with_reducible exact ih12 _ _ _ _ _ _ _ _ _ _ _ _)
   | (with_reducible exact ih13 _ _ _ _ _ _ _ _ _ _ _ _ _ _ _ _)
   | (with_reducible exact ih14 _ _ _ _ _ _ _ _ _ _ _ _ _ _ _ _ _ _ _ _)
   | (with_reducible exact impl_BallsLeft.mono _ _ _ _)
   | (with_reducible exact impl_FirstFrame.mono _ _)
   | (with_reducible exact impl_FrameAfter.mono _ _ _ _ _)
   | (with_reducible exact impl_FrameText.mono _ _ _ _)
   | (with_reducible exact impl_HighestBreak.mono _ _ _ _)
   | (with_reducible exact impl_IsBreak.mono _ _ _ _ _)
   | (with_reducible exact impl_IsFrame.mono _ _ _ _)
   | (with_reducible exact impl_LeastBreak.mono _ _ _ _)
   | (with_reducible exact impl_MissBall.mono _ _ _ _)
   | (with_reducible exact impl_NextBalls.mono _ _ _ _)
   | (with_reducible exact impl_ParseFrame.mono _ _)
   | (with_reducible exact impl_PointsLeft.mono _ _ _ _)
   | (with_reducible exact impl_PointsOf.mono _ _)
   | (with_reducible exact impl_PotBall.mono _ _ _ _ _)
   | (with_reducible exact spec_BallsLeft.mono _ _ _ _)
   | (with_reducible exact spec_DrawIsBreak.mono _ _)
   | (with_reducible exact spec_DrawParseFrame.mono _ _)
   | (with_reducible exact spec_DrawPointsOf.mono _ _)
   | (with_reducible exact spec_DrawPotBall.mono _ _)
   | (with_reducible exact spec_FrameAfter.mono _ _ _ _ _)
   | (with_reducible exact spec_FrameText.mono _ _ _ _)
   | (with_reducible exact spec_HighestBreak.mono _ _ _ _)
   | (with_reducible exact spec_IsBreak.mono _ _ _ _ _)
   | (with_reducible exact spec_LeastBreak.mono _ _ _ _)
   | (with_reducible exact spec_NextBalls.mono _ _ _ _)
   | (with_reducible exact spec_ParseFrame.mono _ _)
   | (with_reducible exact spec_PointsLeft.mono _ _ _ _)
   | (with_reducible exact spec_PointsOf.mono _ _)
   | (with_reducible exact spec_PotBall.mono _ _ _ _ _)
   | (with_reducible exact LeO.refl _)
   | (with_reducible exact LeO.none _)
   | (with_reducible refine LeO.ite ?_ ?_)
   | (with_reducible refine LeO.bind ?_ (fun _ => ?_))
   | exact ih0 _ _
   | exact ih1 _ _ _ _ _ _ _ _ _ _ _ _ _ _ _ _ _ _ _ _ _
   | exact ih2 _ _ _ _ _ _ _ _ _ _ _ _ _ _ _ _ _ _ _ _
   | exact ih3 _ _ _ _ _ _ _ _ _ _ _
   | exact ih4 _
   | exact ih5 _ _ _ _ _ _ _ _ _ _ _
   | exact ih6 _ _ _ _ _ _ _ _ _ _
   | exact ih7 _ _ _ _ _ _
   | exact ih8 _ _ _ _ _ _ _ _ _
   | exact ih9 _ _ _ _ _ _ _ _
   | exact ih10 _ _ _ _ _ _ _ _ _ _ _ _
   | exact ih11 _ _ _ _ _ _ _ _ _ _ _ _ _
   | exact ih12 _ _ _ _ _ _ _ _ _ _ _ _
   | exact ih13 _ _ _ _ _ _ _ _ _ _ _ _ _ _ _ _
   | exact ih14 _ _ _ _ _ _ _ _ _ _ _ _ _ _ _ _ _ _ _ _
   | exact impl_BallsLeft.mono _ _ _ _
   | exact impl_FirstFrame.mono _ _
   | exact impl_FrameAfter.mono _ _ _ _ _
   | exact impl_FrameText.mono _ _ _ _
   | exact impl_HighestBreak.mono _ _ _ _
   | exact impl_IsBreak.mono _ _ _ _ _
   | exact impl_IsFrame.mono _ _ _ _
   | exact impl_LeastBreak.mono _ _ _ _
   | exact impl_MissBall.mono _ _ _ _
   | exact impl_NextBalls.mono _ _ _ _
   | exact impl_ParseFrame.mono _ _
   | exact impl_PointsLeft.mono _ _ _ _
   | exact impl_PointsOf.mono _ _
   | exact impl_PotBall.mono _ _ _ _ _
   | exact spec_BallsLeft.mono _ _ _ _
   | exact spec_DrawIsBreak.mono _ _
   | exact spec_DrawParseFrame.mono _ _
   | exact spec_DrawPointsOf.mono _ _
   | exact spec_DrawPotBall.mono _ _
   | exact spec_FrameAfter.mono _ _ _ _ _
   | exact spec_FrameText.mono _ _ _ _
   | exact spec_HighestBreak.mono _ _ _ _
   | exact spec_IsBreak.mono _ _ _ _ _
   | exact spec_LeastBreak.mono _ _ _ _
   | exact spec_NextBalls.mono _ _ _ _
   | exact spec_ParseFrame.mono _ _
   | exact spec_PointsLeft.mono _ _ _ _
   | exact spec_PointsOf.mono _ _
   | exact spec_PotBall.mono _ _ _ _ _
   | exact LeO.none _
   | refine LeO.ite ?_ ?_
   | refine LeO.bind ?_ (fun _ => ?_)
def laws_FnFramesPotted.T22 : Bool × List (List Nat × List Nat) := (true, [([], []), ([], []), ([0, 1], [0, 1]), ([2], [2]), ([3], [3]), ([3], [3]), ([4, 5, 3], [3, 4, 5]), ([3, 6], [3, 6]), ([7, 3], [7]), ([8], [8]), ([8], [8]), ([9, 10, 8], [8, 9, 10]), ([8, 11], [8, 11]), ([12, 8], [12]), ([13], [13]), ([13], [13]), ([14, 15, 13], [13, 14, 15]), ([13, 16], [13, 16]), ([17, 13], [17]), ([18], [18]), ([18], [18]), ([19, 20, 18], [18, 19, 20]), ([18, 21], [18, 21]), ([22, 18], [22]), ([23], [23]), ([23], [23]), ([24, 25, 23], [23, 24, 25]), ([23, 26], [23, 26]), ([27, 23], [27]), ([28], [28]), ([28], [28]), ([29, 30, 28], [28, 29, 30]), ([28, 31], [28, 31]), ([32, 28], [32]), ([33], [33]), ([33], [33]), ([34, 35, 33], [33, 34, 35]), ([33, 36], [33, 36]), ([37, 33], [37]), ([38], [38]), ([38], [38]), ([39, 40, 38], [38, 39, 40]), ([38, 41], [38, 41]), ([42, 38], [42]), ([43], [43]), ([43], [43]), ([44, 45, 43], [43, 44, 45]), ([43, 46], [43, 46]), ([47, 43], [47]), ([48], [48]), ([48], [48]), ([49, 50, 48], [48, 49, 50]), ([48, 51], [48, 51]), ([52, 48], [52]), ([53], [53]), ([53], [53]), ([54, 55, 53], [53, 54, 55]), ([53, 56], [53, 56]), ([57, 53], [57]), ([58], [58]), ([58], [58]), ([59, 60, 58], [58, 59, 60]), ([58, 61], [58, 61]), ([62, 58], [62]), ([63], [63]), ([63], [63]), ([64, 65, 63], [63, 64, 65]), ([63, 66], [63, 66]), ([67, 63], [67]), ([68], [68]), ([68], [68]), ([69, 70, 68], [68, 69, 70]), ([68, 71], [68, 71]), ([72, 68], [72]), ([73], [73]), ([73], [73]), ([74, 75, 73], [73, 74, 75]), ([73, 76], [73, 76]), ([77, 73], [77]), ([78], [78]), ([78], [78]), ([79, 80, 78], [78, 79, 80]), ([78, 81], [78, 81]), ([82, 78], [82]), ([83], [83]), ([83], [83]), ([84, 85, 83], [83, 84, 85]), ([83, 86], [83, 86]), ([87, 83], [87]), ([88], [88]), ([88], [88]), ([89, 90, 88], [88, 89, 90]), ([88, 91], [88, 91]), ([92, 88], [92]), ([93], [93]), ([93], [93]), ([95, 93, 93], [93, 95]), ([94, 96, 93], [93, 94, 96]), ([93, 97], [93, 97]), ([98, 96], [98]), ([99], [99]), ([100, 99, 99], [99, 100]), ([99], [99]), ([102, 101, 99], [99, 102]), ([101, 103, 99], [99, 101, 103]), ([99, 104], [99, 104]), ([105, 103], [105]), ([106], [106]), ([106], [106]), ([108, 106, 106], [106, 108]), ([109], [109]), ([109, 110, 106], [106, 109, 110]), ([107, 111, 106], [106, 107, 111]), ([106, 112], [106, 112]), ([113, 109], [113]), ([114], [114]), ([114], [114]), ([115, 116, 114], [114, 115, 116]), ([114, 117], [114, 117]), ([118, 114], [118]), ([119], [119]), ([119], [119]), ([120, 121, 119], [119, 120, 121]), ([119, 122], [119, 122]), ([123, 119], [123]), ([124], [124]), ([124], [124]), ([125, 126, 124], [124, 125, 126]), ([124, 127], [124, 127]), ([128, 124], [128]), ([129], [129]), ([129], [129]), ([130, 131, 129], [129, 130, 131]), ([129, 132], [129, 132]), ([133, 129], [133]), ([134], [134]), ([134], [134]), ([135, 136, 134], [134, 135, 136]), ([134, 137], [134, 137]), ([138, 134], [138]), ([139], [139]), ([139], [139]), ([140, 141, 139], [139, 140, 141]), ([139, 142], [139, 142]), ([143, 139], [143]), ([144], [144]), ([144], [144]), ([145, 146, 144], [144, 145, 146]), ([144, 147], [144, 147])])
def laws_FnFramesPotted.B22 : List Nat := [0, 0, 3, 7, 15, 15, 63, 127, 255, 511, 511, 2047, 4095, 8191, 16383, 16383, 65535, 131071, 262143, 524287, 524287, 2097151, 4194303, 8388607, 16777215, 16777215, 67108863, 134217727, 268435455, 536870911, 536870911, 2147483647, 4294967295, 8589934591, 17179869183, 17179869183, 68719476735, 137438953471, 274877906943, 549755813887, 549755813887, 2199023255551, 4398046511103, 8796093022207, 17592186044415, 17592186044415, 70368744177663, 140737488355327, 281474976710655, 562949953421311, 562949953421311, 2251799813685247, 4503599627370495, 9007199254740991, 18014398509481983, 18014398509481983, 72057594037927935, 144115188075855871, 288230376151711743, 576460752303423487, 576460752303423487, 2305843009213693951, 4611686018427387903, 9223372036854775807, 18446744073709551615, 18446744073709551615, 73786976294838206463, 147573952589676412927, 295147905179352825855, 590295810358705651711, 590295810358705651711, 2361183241434822606847, 4722366482869645213695, 9444732965739290427391, 18889465931478580854783, 18889465931478580854783, 75557863725914323419135, 151115727451828646838271, 302231454903657293676543, 604462909807314587353087, 604462909807314587353087, 2417851639229258349412351, 4835703278458516698824703, 9671406556917033397649407, 19342813113834066795298815, 19342813113834066795298815, 77371252455336267181195263, 154742504910672534362390527, 309485009821345068724781055, 618970019642690137449562111, 618970019642690137449562111, 2475880078570760549798248447, 4951760157141521099596496895, 9903520314283042199192993791, 19807040628566084398385987583, 19807040628566084398385987583, 59421121885698253195157962751, 158456325028528675187087900671, 316912650057057350374175801343, 633825300114114700748351602687, 1267650600228229401496703205375, 2535301200456458802993406410751, 1267650600228229401496703205375, 10141204801825835211973625643007, 20282409603651670423947251286015, 40564819207303340847894502572031, 81129638414606681695789005144063, 162259276829213363391578010288127, 162259276829213363391578010288127, 486777830487640090174734030864383, 1135814937804493543741046072016895, 2433889152438200450873670154321919, 5192296858534827628530496329220095, 10384593717069655257060992658440191, 20769187434139310514121985316880383, 41538374868278621028243970633760767, 41538374868278621028243970633760767, 166153499473114484112975882535043071, 332306998946228968225951765070086143, 664613997892457936451903530140172287, 1329227995784915872903807060280344575, 1329227995784915872903807060280344575, 5316911983139663491615228241121378303, 10633823966279326983230456482242756607, 21267647932558653966460912964485513215, 42535295865117307932921825928971026431, 42535295865117307932921825928971026431, 170141183460469231731687303715884105727, 340282366920938463463374607431768211455, 680564733841876926926749214863536422911, 1361129467683753853853498429727072845823, 1361129467683753853853498429727072845823, 5444517870735015415413993718908291383295, 10889035741470030830827987437816582766591, 21778071482940061661655974875633165533183, 43556142965880123323311949751266331066367, 43556142965880123323311949751266331066367, 174224571863520493293247799005065324265471, 348449143727040986586495598010130648530943, 696898287454081973172991196020261297061887, 1393796574908163946345982392040522594123775, 1393796574908163946345982392040522594123775, 5575186299632655785383929568162090376495103, 11150372599265311570767859136324180752990207, 22300745198530623141535718272648361505980415, 44601490397061246283071436545296723011960831, 44601490397061246283071436545296723011960831, 178405961588244985132285746181186892047843327, 356811923176489970264571492362373784095686655]
theorem laws_FnFramesPotted.tab22 : rtab .any (opsOf Tryz.f3 22) = laws_FnFramesPotted.T22 := by kernel_rfl
theorem laws_FnFramesPotted.bits22 : waitsOk laws_FnFramesPotted.T22.2 laws_FnFramesPotted.B22 = true := by kernel_rfl
def laws_FnFramesPotted.T33 : Bool × List (List Nat × List Nat) := (true, [([], []), ([], []), ([], []), ([], []), ([3], [3]), ([1, 2, 4], [1, 2, 4]), ([0, 5], [0, 5]), ([6], [6]), ([7], [7]), ([7], [7]), ([], []), ([10, 8, 6, 0, 1, 2, 3, 4, 5, 6, 7, 8, 10], [8, 10]), ([9, 11, 0, 1, 2, 3, 4, 5, 6, 7, 8, 9, 10, 11], [9])])
def laws_FnFramesPotted.B33 : List Nat := [0, 0, 0, 0, 8, 30, 63, 127, 255, 255, 0, 1535, 4095]
theorem laws_FnFramesPotted.tab33 : rtab .any (opsOf Tryz.f3 33) = laws_FnFramesPotted.T33 := by kernel_rfl
theorem laws_FnFramesPotted.bits33 : waitsOk laws_FnFramesPotted.T33.2 laws_FnFramesPotted.B33 = true := by kernel_rfl
def laws_FnFramesPotted.T34 : Bool × List (List Nat × List Nat) := (true, [([], []), ([0], [0]), ([1], [1]), ([2], [2]), ([2], [2]), ([4, 2], [2, 4]), ([3, 5, 2], [2, 3, 5]), ([2], [2]), ([2], [2]), ([7, 8, 2], [2, 7, 8]), ([6, 9, 2], [2, 6, 9]), ([2, 10], [2, 10]), ([11, 2], [11]), ([12], [12]), ([13, 12], [12, 13]), ([12, 14], [12, 14]), ([15, 12], [15]), ([16], [16]), ([17, 16, 16], [16, 17]), ([18, 16], [16, 18]), ([16, 19], [16, 19])])
def laws_FnFramesPotted.B34 : List Nat := [0, 1, 3, 7, 7, 23, 63, 7, 7, 391, 1023, 2047, 4095, 8191, 16383, 32767, 65535, 131071, 262143, 524287, 1048575]
theorem laws_FnFramesPotted.tab34 : rtab .any (opsOf Tryz.f3 34) = laws_FnFramesPotted.T34 := by kernel_rfl
theorem laws_FnFramesPotted.bits34 : waitsOk laws_FnFramesPotted.T34.2 laws_FnFramesPotted.B34 = true := by kernel_rfl
def laws_FnFramesPotted.T49 : Bool × List (List Nat × List Nat) := (true, [([], []), ([], []), ([], []), ([], []), ([3], [3]), ([1, 2, 4], [1, 2, 4]), ([0, 5], [0, 5]), ([6], [6]), ([7], [7]), ([7], [7]), ([], []), ([10, 8, 6, 0, 1, 2, 3, 4, 5, 6, 7, 8, 10], [8, 10]), ([9, 11, 0, 1, 2, 3, 4, 5, 6, 7, 8, 9, 10, 11], [9])])
def laws_FnFramesPotted.B49 : List Nat := [0, 0, 0, 0, 8, 30, 63, 127, 255, 255, 0, 1535, 4095]
theorem laws_FnFramesPotted.tab49 : rtab .any (opsOf Tryz.f3 49) = laws_FnFramesPotted.T49 := by kernel_rfl
theorem laws_FnFramesPotted.bits49 : waitsOk laws_FnFramesPotted.T49.2 laws_FnFramesPotted.B49 = true := by kernel_rfl
end Go.Proofs.YtcmlmjgoidpabaaGreatDoor.MFnFramesPotted

