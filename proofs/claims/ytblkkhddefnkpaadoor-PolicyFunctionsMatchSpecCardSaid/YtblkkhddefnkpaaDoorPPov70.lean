-- printed by drv.py (a program of this repo, over the kit's printer)
-- CUT TO THE WAYS THAT ANSWER TRUE (trunc.py of this repo): the mirror is none elsewhere
import Derived.Test.YtblkkhddefnkpaaDoorPa
import Derived.Test.YtblkkhddefnkpaaDoorPPox59
import Derived.Test.YtblkkhddefnkpaaDoorPPox5
import Derived.Test.YtblkkhddefnkpaaDoorPf
import Derived.Test.YtblkkhddefnkpaaDoorPm
import Derived.Test.YtblkkhddefnkpaaDoorPPoz61
import Derived.Test.YtblkkhddefnkpaaDoorPPox6
import Derived.Test.YtblkkhddefnkpaaDoorPPox0
import Derived.Test.YtblkkhddefnkpaaDoorPPox1
import Derived.Test.YtblkkhddefnkpaaDoorPPov7
import Derived.Test.YtblkkhddefnkpaaDoorPPov67
import Derived.Test.YtblkkhddefnkpaaDoorPPov68
import Derived.Test.YtblkkhddefnkpaaDoorPPov69
namespace Go.Proofs.YtblkkhddefnkpaaDoor.PPo
open Go.RowKit Go.Proofs.YtblkkhddefnkpaaDoorW.PrintWords Go.Proofs.YtblkkhddefnkpaaDoorW.PrintLast Go.Proofs.YtblkkhddefnkpaaDoorW.PrintMore
attribute [local go_sem] max2_int min2_int max_two min_two max_three min_three max_four min_four   -- for this text's walks alone
set_option linter.unusedVariables false
set_option linter.unusedSimpArgs false

attribute [local go_sem high] eqA28
/-! ### qe_: function 3 -/
mutual
def qe_.j0 : Nat → ByteArray → Bool → Bool → List (S47) → Int → Bool → Bool → Int → Int → Int → Int → Int → Int → Int → List (S47) → Int → Int → Option (Bool)
 | 0, _, _, _, _, _, _, _, _, _, _, _, _, _, _, _, _, _ => none
 | k + 1, x6, x8, x42, x233000, x234000, x234001, x234002, x234003, x237000, x237001, x241000, x241001, x245000, x245001, x251000, x252000, x252001 => if x42 = true then (none) else (if x237000 = 0 then ((qi_.f k x233000 (wrap64 ((x233000.length : Int) - 1)) 7).bind fun t257 => (if (t257.size : Int) > 200 then ((qF_.f 10 (-1)).bind fun bt258 => (if (x241000 == bt258.1 && (x241001 == bt258.2)) = true then (if x6.toList = ([] : List UInt8) then (qe_.j1 k x8 (wrap64 ((x233000.length : Int) - 1)) x233000 x234000 x234001 x234002 x234003 x245000 x245001 x251000 x252000 x252001) else (none)) else (none))) else (if x241000 = 0 then (if x6.toList = t257.toList then (qe_.j1 k x8 (wrap64 ((x233000.length : Int) - 1)) x233000 x234000 x234001 x234002 x234003 x245000 x245001 x251000 x252000 x252001) else (none)) else (none)))) else (if (x241000 == x237000 && (x241001 == x237001)) = true then (if (x245000 == x237000 && (x245001 == x237001)) = true then (if (x252000 == x237000 && (x252001 == x237001)) = true then (if x6.toList = ([] : List UInt8) then (if x8 = true then (none) else ((qp_.f k x251000 ([] : List (S47))).bind fun t256 => (some t256))) else (none)) else (none)) else (none)) else (none)))
def qe_.j1 : Nat → Bool → Int → List (S47) → Int → Bool → Bool → Int → Int → Int → List (S47) → Int → Int → Option (Bool)
 | 0, _, _, _, _, _, _, _, _, _, _, _, _ => none
 | k + 1, x8, x13, x233000, x234000, x234001, x234002, x234003, x245000, x245001, x251000, x252000, x252001 => if x234000 < (-1000000000) then (qe_.j2 k x8 x13 true x233000 x234000 x234001 x234002 x234003 x245000 x245001 x251000 x252000 x252001) else (if x234000 > 1000000000 then (qe_.j2 k x8 x13 true x233000 x234000 x234001 x234002 x234003 x245000 x245001 x251000 x252000 x252001) else (if x234003 < 0 then (qe_.j2 k x8 x13 true x233000 x234000 x234001 x234002 x234003 x245000 x245001 x251000 x252000 x252001) else (qe_.j2 k x8 x13 (decide (x234003 > 255)) x233000 x234000 x234001 x234002 x234003 x245000 x245001 x251000 x252000 x252001)))
def qe_.j2 : Nat → Bool → Int → Bool → List (S47) → Int → Bool → Bool → Int → Int → Int → List (S47) → Int → Int → Option (Bool)
 | 0, _, _, _, _, _, _, _, _, _, _, _, _, _ => none
 | k + 1, x8, x13, x114, x233000, x234000, x234001, x234002, x234003, x245000, x245001, x251000, x252000, x252001 => if x114 = true then ((qF_.f 3 (-2)).bind fun bt260 => (if (x245000 == bt260.1 && (x245001 == bt260.2)) = true then (if x8 = true then (none) else (qe_.j3 k x13 x233000 x251000 x252000 x252001)) else (none))) else (if x245000 = 0 then ((qx_.f k x233000 x13 x234000 x234001 x234002 x234003).bind fun t262 => (if (x8 != t262) = true then (none) else (qe_.j3 k x13 x233000 x251000 x252000 x252001))) else (none))
def qe_.j3 : Nat → Int → List (S47) → List (S47) → Int → Int → Option (Bool)
 | 0, _, _, _, _, _ => none
 | k + 1, x13, x233000, x251000, x252000, x252001 => (qz_.f k x233000 x13 false ([] : List (S47))).bind fun t263 => ((qr_.f k t263).bind fun bt267 => (if bt267.1 = 0 then (if x252000 = 0 then ((qp_.f k x251000 t263).bind fun t269 => (some t269)) else (none)) else ((qF_.f 10 (-1)).bind fun bt270 => (if (x252000 == bt270.1 && (x252001 == bt270.2)) = true then ((qp_.f k x251000 ([] : List (S47))).bind fun t272 => (some t272)) else (none)))))
end
def qe_.f (k : Nat) (l0_0 : List (S47)) (a1_0 : Int) (a1_1 : Bool) (a1_2 : Bool) (a1_3 : Int) : Option (Bool) := (qr_.f k l0_0).bind fun bt234 => ((policy_Format.f k l0_0).bind fun bt237 => ((qC_.f k l0_0 a1_0 a1_1 a1_2 a1_3).bind fun bt241 => ((policy_Normal.f k l0_0).bind fun bt245 => ((qD_.f k).bind fun t253 => (if t253 = true then ((qw_.f k l0_0).bind fun bt254 => (qe_.j0 k bt237.1 bt241.1 (!(bt254.1 == bt234.1) || (!(bt254.2 == bt234.2))) l0_0 a1_0 a1_1 a1_2 a1_3 bt234.1 bt234.2 bt237.2.1 bt237.2.2 bt241.2.1 bt241.2.2 bt245.1 bt245.2.1 bt245.2.2)) else (qe_.j0 k bt237.1 bt241.1 true l0_0 a1_0 a1_1 a1_2 a1_3 bt234.1 bt234.2 bt237.2.1 bt237.2.2 bt241.2.1 bt241.2.2 bt245.1 bt245.2.1 bt245.2.2))))))
theorem qe_.mono_l : ∀ k, (∀ y0 y1 y2 y3 y4 y5 y6 y7 y8 y9 y10 y11 y12 y13 y14 y15 y16, LeO (qe_.j0 k y0 y1 y2 y3 y4 y5 y6 y7 y8 y9 y10 y11 y12 y13 y14 y15 y16) (qe_.j0 (k + 1) y0 y1 y2 y3 y4 y5 y6 y7 y8 y9 y10 y11 y12 y13 y14 y15 y16)) ∧ (∀ y0 y1 y2 y3 y4 y5 y6 y7 y8 y9 y10 y11, LeO (qe_.j1 k y0 y1 y2 y3 y4 y5 y6 y7 y8 y9 y10 y11) (qe_.j1 (k + 1) y0 y1 y2 y3 y4 y5 y6 y7 y8 y9 y10 y11)) ∧ (∀ y0 y1 y2 y3 y4 y5 y6 y7 y8 y9 y10 y11 y12, LeO (qe_.j2 k y0 y1 y2 y3 y4 y5 y6 y7 y8 y9 y10 y11 y12) (qe_.j2 (k + 1) y0 y1 y2 y3 y4 y5 y6 y7 y8 y9 y10 y11 y12)) ∧ (∀ y0 y1 y2 y3 y4, LeO (qe_.j3 k y0 y1 y2 y3 y4) (qe_.j3 (k + 1) y0 y1 y2 y3 y4))
 | 0 => ⟨fun _ _ _ _ _ _ _ _ _ _ _ _ _ _ _ _ _ r h => by simp [qe_.j0] at h, fun _ _ _ _ _ _ _ _ _ _ _ _ r h => by simp [qe_.j1] at h, fun _ _ _ _ _ _ _ _ _ _ _ _ _ r h => by simp [qe_.j2] at h, fun _ _ _ _ _ r h => by simp [qe_.j3] at h⟩
 | k + 1 => by
  obtain ⟨ih0, ih1, ih2, ih3⟩ := qe_.mono_l k
  refine ⟨?_, ?_, ?_, ?_⟩
  ·intro y0 y1 y2 y3 y4 y5 y6 y7 y8 y9 y10 y11 y12 y13 y14 y15 y16
   unfold qe_.j0
   repeat' first
   | (with_reducible exact ih0 _ _ _ _ _ _ _ _ _ _ _ _ _ _ _ _ _)
   | (with_reducible exact ih1 _ _ _ _ _ _ _ _ _ _ _ _)
   | (with_reducible exact ih2 _ _ _ _ _ _ _ _ _ _ _ _ _)
   | (with_reducible exact ih3 _ _ _ _ _)
   | (with_reducible exact qD_.mono _)
   | (with_reducible exact qp_.mono _ _ _)
   | (with_reducible exact qz_.mono _ _ _ _ _)
   | (with_reducible exact qr_.mono _ _)
   | (with_reducible exact qx_.mono _ _ _ _ _ _ _)
   | (with_reducible exact qi_.mono _ _ _ _)
   | (with_reducible exact qC_.mono _ _ _ _ _ _)
   | (with_reducible exact policy_Format.mono _ _)
   | (with_reducible exact policy_Normal.mono _ _)
   | (with_reducible exact qw_.mono _ _)
   | (with_reducible exact LeO.refl _)
   | (with_reducible exact LeO.none _)
   | (with_reducible refine LeO.ite ?_ ?_)
   | (with_reducible refine LeO.bind ?_ (fun _ => ?_))
   | exact ih0 _ _ _ _ _ _ _ _ _ _ _ _ _ _ _ _ _
   | exact ih1 _ _ _ _ _ _ _ _ _ _ _ _
   | exact ih2 _ _ _ _ _ _ _ _ _ _ _ _ _
   | exact ih3 _ _ _ _ _
   | exact qD_.mono _
   | exact qp_.mono _ _ _
   | exact qz_.mono _ _ _ _ _
   | exact qr_.mono _ _
   | exact qx_.mono _ _ _ _ _ _ _
   | exact qi_.mono _ _ _ _
   | exact qC_.mono _ _ _ _ _ _
   | exact policy_Format.mono _ _
   | exact policy_Normal.mono _ _
   | exact qw_.mono _ _
   | exact LeO.none _
   | refine LeO.ite ?_ ?_
   | refine LeO.bind ?_ (fun _ => ?_)
  ·intro y0 y1 y2 y3 y4 y5 y6 y7 y8 y9 y10 y11
   unfold qe_.j1
   repeat' first
   | (with_reducible exact ih0 _ _ _ _ _ _ _ _ _ _ _ _ _ _ _ _ _)
   | (with_reducible exact ih1 _ _ _ _ _ _ _ _ _ _ _ _)
   | (with_reducible exact ih2 _ _ _ _ _ _ _ _ _ _ _ _ _)
   | (with_reducible exact ih3 _ _ _ _ _)
   | (with_reducible exact qD_.mono _)
   | (with_reducible exact qp_.mono _ _ _)
   | (with_reducible exact qz_.mono _ _ _ _ _)
   | (with_reducible exact qr_.mono _ _)
   | (with_reducible exact qx_.mono _ _ _ _ _ _ _)
   | (with_reducible exact qi_.mono _ _ _ _)
   | (with_reducible exact qC_.mono _ _ _ _ _ _)
   | (with_reducible exact policy_Format.mono _ _)
   | (with_reducible exact policy_Normal.mono _ _)
   | (with_reducible exact qw_.mono _ _)
   | (with_reducible exact LeO.refl _)
   | (with_reducible exact LeO.none _)
   | (with_reducible refine LeO.ite ?_ ?_)
   | (with_reducible refine LeO.bind ?_ (fun _ => ?_))
   | exact ih0 _ _ _ _ _ _ _ _ _ _ _ _ _ _ _ _ _
   | exact ih1 _ _ _ _ _ _ _ _ _ _ _ _
   | exact ih2 _ _ _ _ _ _ _ _ _ _ _ _ _
   | exact ih3 _ _ _ _ _
   | exact qD_.mono _
   | exact qp_.mono _ _ _
   | exact qz_.mono _ _ _ _ _
   | exact qr_.mono _ _
   | exact qx_.mono _ _ _ _ _ _ _
   | exact qi_.mono _ _ _ _
   | exact qC_.mono _ _ _ _ _ _
   | exact policy_Format.mono _ _
   | exact policy_Normal.mono _ _
   | exact qw_.mono _ _
   | exact LeO.none _
   | refine LeO.ite ?_ ?_
   | refine LeO.bind ?_ (fun _ => ?_)
  ·intro y0 y1 y2 y3 y4 y5 y6 y7 y8 y9 y10 y11 y12
   unfold qe_.j2
   repeat' first
   | (with_reducible exact ih0 _ _ _ _ _ _ _ _ _ _ _ _ _ _ _ _ _)
   | (with_reducible exact ih1 _ _ _ _ _ _ _ _ _ _ _ _)
   | (with_reducible exact ih2 _ _ _ _ _ _ _ _ _ _ _ _ _)
   | (with_reducible exact ih3 _ _ _ _ _)
   | (with_reducible exact qD_.mono _)
   | (with_reducible exact qp_.mono _ _ _)
   | (with_reducible exact qz_.mono _ _ _ _ _)
   | (with_reducible exact qr_.mono _ _)
   | (with_reducible exact qx_.mono _ _ _ _ _ _ _)
   | (with_reducible exact qi_.mono _ _ _ _)
   | (with_reducible exact qC_.mono _ _ _ _ _ _)
   | (with_reducible exact policy_Format.mono _ _)
   | (with_reducible exact policy_Normal.mono _ _)
   | (with_reducible exact qw_.mono _ _)
   | (with_reducible exact LeO.refl _)
   | (with_reducible exact LeO.none _)
   | (with_reducible refine LeO.ite ?_ ?_)
   | (with_reducible refine LeO.bind ?_ (fun _ => ?_))
   | exact ih0 _ _ _ _ _ _ _ _ _ _ _ _ _ _ _ _ _
   | exact ih1 _ _ _ _ _ _ _ _ _ _ _ _
   | exact ih2 _ _ _ _ _ _ _ _ _ _ _ _ _
   | exact ih3 _ _ _ _ _
   | exact qD_.mono _
   | exact qp_.mono _ _ _
   | exact qz_.mono _ _ _ _ _
   | exact qr_.mono _ _
   | exact qx_.mono _ _ _ _ _ _ _
   | exact qi_.mono _ _ _ _
   | exact qC_.mono _ _ _ _ _ _
   | exact policy_Format.mono _ _
   | exact policy_Normal.mono _ _
   | exact qw_.mono _ _
   | exact LeO.none _
   | refine LeO.ite ?_ ?_
   | refine LeO.bind ?_ (fun _ => ?_)
  ·intro y0 y1 y2 y3 y4
   unfold qe_.j3
   repeat' first
   | (with_reducible exact ih0 _ _ _ _ _ _ _ _ _ _ _ _ _ _ _ _ _)
   | (with_reducible exact ih1 _ _ _ _ _ _ _ _ _ _ _ _)
   | (with_reducible exact ih2 _ _ _ _ _ _ _ _ _ _ _ _ _)
   | (with_reducible exact ih3 _ _ _ _ _)
   | (with_reducible exact qD_.mono _)
   | (with_reducible exact qp_.mono _ _ _)
   | (with_reducible exact qz_.mono _ _ _ _ _)
   | (with_reducible exact qr_.mono _ _)
   | (with_reducible exact qx_.mono _ _ _ _ _ _ _)
   | (with_reducible exact qi_.mono _ _ _ _)
   | (with_reducible exact qC_.mono _ _ _ _ _ _)
   | (with_reducible exact policy_Format.mono _ _)
   | (with_reducible exact policy_Normal.mono _ _)
   | (with_reducible exact qw_.mono _ _)
   | (with_reducible exact LeO.refl _)
   | (with_reducible exact LeO.none _)
   | (with_reducible refine LeO.ite ?_ ?_)
   | (with_reducible refine LeO.bind ?_ (fun _ => ?_))
   | exact ih0 _ _ _ _ _ _ _ _ _ _ _ _ _ _ _ _ _
   | exact ih1 _ _ _ _ _ _ _ _ _ _ _ _
   | exact ih2 _ _ _ _ _ _ _ _ _ _ _ _ _
   | exact ih3 _ _ _ _ _
   | exact qD_.mono _
   | exact qp_.mono _ _ _
   | exact qz_.mono _ _ _ _ _
   | exact qr_.mono _ _
   | exact qx_.mono _ _ _ _ _ _ _
   | exact qi_.mono _ _ _ _
   | exact qC_.mono _ _ _ _ _ _
   | exact policy_Format.mono _ _
   | exact policy_Normal.mono _ _
   | exact qw_.mono _ _
   | exact LeO.none _
   | refine LeO.ite ?_ ?_
   | refine LeO.bind ?_ (fun _ => ?_)
theorem qe_.mono : ∀ a0 a1 a2 a3 a4 k, LeO (qe_.f k a0 a1 a2 a3 a4) (qe_.f (k + 1) a0 a1 a2 a3 a4) := by
 intro a0 a1 a2 a3 a4 k
 obtain ⟨ih0, ih1, ih2, ih3⟩ := qe_.mono_l k
 unfold qe_.f
 repeat' first
   | (with_reducible exact ih0 _ _ _ _ _ _ _ _ _ _ _ _ _ _ _ _ _)
   | (with_reducible exact ih1 _ _ _ _ _ _ _ _ _ _ _ _)
   | (with_reducible exact ih2 _ _ _ _ _ _ _ _ _ _ _ _ _)
   | (with_reducible exact ih3 _ _ _ _ _)
   | (with_reducible exact qD_.mono _)
   | (with_reducible exact qp_.mono _ _ _)
   | (with_reducible exact qz_.mono _ _ _ _ _)
   | (with_reducible exact qr_.mono _ _)
   | (with_reducible exact qx_.mono _ _ _ _ _ _ _)
   | (with_reducible exact qi_.mono _ _ _ _)
   | (with_reducible exact qC_.mono _ _ _ _ _ _)
   | (with_reducible exact policy_Format.mono _ _)
   | (with_reducible exact policy_Normal.mono _ _)
   | (with_reducible exact qw_.mono _ _)
   | (with_reducible exact LeO.refl _)
   | (with_reducible exact LeO.none _)
   | (with_reducible refine LeO.ite ?_ ?_)
   | (with_reducible refine LeO.bind ?_ (fun _ => ?_))
   | exact ih0 _ _ _ _ _ _ _ _ _ _ _ _ _ _ _ _ _
   | exact ih1 _ _ _ _ _ _ _ _ _ _ _ _
   | exact ih2 _ _ _ _ _ _ _ _ _ _ _ _ _
   | exact ih3 _ _ _ _ _
   | exact qD_.mono _
   | exact qp_.mono _ _ _
   | exact qz_.mono _ _ _ _ _
   | exact qr_.mono _ _
   | exact qx_.mono _ _ _ _ _ _ _
   | exact qi_.mono _ _ _ _
   | exact qC_.mono _ _ _ _ _ _
   | exact policy_Format.mono _ _
   | exact policy_Normal.mono _ _
   | exact qw_.mono _ _
   | exact LeO.none _
   | refine LeO.ite ?_ ?_
   | refine LeO.bind ?_ (fun _ => ?_)
def qe_.T6 : Bool × List (List Nat × List Nat) := (true, [([], []), ([0], [0]), ([1, 0], [1]), ([2], [2]), ([3, 2, 2], [2, 3]), ([2], [2]), ([4, 5, 2], [2, 4, 5]), ([2, 6], [2, 6])])
def qe_.B6 : List Nat := [0, 1, 3, 7, 15, 7, 63, 127]
theorem qe_.tab6 : rtab .any (opsOf Tryd.f3 6) = qe_.T6 := by kernel_rfl
theorem qe_.bits6 : waitsOk qe_.T6.2 qe_.B6 = true := by kernel_rfl
def qe_.T24 : Bool × List (List Nat × List Nat) := (true, [([], []), ([], []), ([0, 1], [0, 1]), ([2, 1], [2]), ([3], [3]), ([3], [3]), ([4, 5, 3, 3], [3, 4, 5]), ([3, 6], [3, 6]), ([7, 6, 0, 1, 2, 3, 4, 5, 6, 7], [7])])
def qe_.B24 : List Nat := [0, 0, 3, 7, 15, 15, 63, 127, 255]
theorem qe_.tab24 : rtab .any (opsOf Tryd.f3 24) = qe_.T24 := by kernel_rfl
theorem qe_.bits24 : waitsOk qe_.T24.2 qe_.B24 = true := by kernel_rfl
set_option maxHeartbeats 8000000 in
set_option maxRecDepth 100000 in
theorem qe_.calls (k : Nat) (A0_0 : Option Addr) (c0_0 : Nat) (l0_0 : List (S47)) (a1_0 : Int) (a1_1 : Bool) (a1_2 : Bool) (a1_3 : Int) (r : Bool) (w : World) (hr0_0 : Kd.C k47 w A0_0 l0_0.length l0_0) (hc0_0 : l0_0.length ≤ c0_0) (h : qe_.f k l0_0 a1_0 a1_1 a1_2 a1_3 = some r) :
  Calls Tryd.prog 3 #[.agg #[.slice A0_0 l0_0.length c0_0], .agg #[.int .i64 a1_0, .bool a1_1, .bool a1_2, .int .i64 a1_3]] w fun e w' => e = .returned (.bool r) ∧ Below w.heap.size w w' := by
 have hu24 := Tryd.underlying24
 have hu26 := Tryd.underlying26
 have hu28 := Tryd.underlying28
 have hfl28_0 : ∀ (c0_ c1_ : Value) (W : World), (Instr.field 28 (.agg #[c0_, c1_]) 0).run Tryd.prog W = .ok c0_ W := fun _ _ _ => by kernel_rfl
 have HR0_0 := Aside0.mk hr0_0
 have HC0_0 := Aside0.mk hc0_0
 clear hr0_0 hc0_0
 have HB := Aside0.mk (Below.refl w.heap.size w)
 have H : ((qr_.f k l0_0).bind fun bt234 => ((policy_Format.f k l0_0).bind fun bt237 => ((qC_.f k l0_0 a1_0 a1_1 a1_2 a1_3).bind fun bt241 => ((policy_Normal.f k l0_0).bind fun bt245 => ((qD_.f k).bind fun t253 => (if t253 = true then ((qw_.f k l0_0).bind fun bt254 => (qe_.j0 k bt237.1 bt241.1 (!(bt254.1 == bt234.1) || (!(bt254.2 == bt234.2))) l0_0 a1_0 a1_1 a1_2 a1_3 bt234.1 bt234.2 bt237.2.1 bt237.2.2 bt241.2.1 bt241.2.2 bt245.1 bt245.2.1 bt245.2.2)) else (qe_.j0 k bt237.1 bt241.1 true l0_0 a1_0 a1_1 a1_2 a1_3 bt234.1 bt234.2 bt237.2.1 bt237.2.2 bt241.2.1 bt241.2.2 bt245.1 bt245.2.1 bt245.2.2))))))) = some r := h
 clear h
 replace H := Option.bind_eq_some_iff.mp H
 obtain ⟨⟨t234, t235⟩, A30, H⟩ := H
 replace H : ((policy_Format.f k l0_0).bind fun bt237 => ((qC_.f k l0_0 a1_0 a1_1 a1_2 a1_3).bind fun bt241 => ((policy_Normal.f k l0_0).bind fun bt245 => ((qD_.f k).bind fun t253 => (if t253 = true then ((qw_.f k l0_0).bind fun bt254 => (qe_.j0 k bt237.1 bt241.1 (!(bt254.1 == t234) || (!(bt254.2 == t235))) l0_0 a1_0 a1_1 a1_2 a1_3 t234 t235 bt237.2.1 bt237.2.2 bt241.2.1 bt241.2.2 bt245.1 bt245.2.1 bt245.2.2)) else (qe_.j0 k bt237.1 bt241.1 true l0_0 a1_0 a1_1 a1_2 a1_3 t234 t235 bt237.2.1 bt237.2.2 bt241.2.1 bt241.2.2 bt245.1 bt245.2.1 bt245.2.2)))))) = some r := H
 have A3 := Aside0.mk A30
 clear A30
 replace H := Option.bind_eq_some_iff.mp H
 obtain ⟨⟨t237, t238, t239⟩, A40, H⟩ := H
 replace H : ((qC_.f k l0_0 a1_0 a1_1 a1_2 a1_3).bind fun bt241 => ((policy_Normal.f k l0_0).bind fun bt245 => ((qD_.f k).bind fun t253 => (if t253 = true then ((qw_.f k l0_0).bind fun bt254 => (qe_.j0 k t237 bt241.1 (!(bt254.1 == t234) || (!(bt254.2 == t235))) l0_0 a1_0 a1_1 a1_2 a1_3 t234 t235 t238 t239 bt241.2.1 bt241.2.2 bt245.1 bt245.2.1 bt245.2.2)) else (qe_.j0 k t237 bt241.1 true l0_0 a1_0 a1_1 a1_2 a1_3 t234 t235 t238 t239 bt241.2.1 bt241.2.2 bt245.1 bt245.2.1 bt245.2.2))))) = some r := H
 have A4 := Aside0.mk A40
 clear A40
 replace H := Option.bind_eq_some_iff.mp H
 obtain ⟨⟨t241, t242, t243⟩, A50, H⟩ := H
 replace H : ((policy_Normal.f k l0_0).bind fun bt245 => ((qD_.f k).bind fun t253 => (if t253 = true then ((qw_.f k l0_0).bind fun bt254 => (qe_.j0 k t237 t241 (!(bt254.1 == t234) || (!(bt254.2 == t235))) l0_0 a1_0 a1_1 a1_2 a1_3 t234 t235 t238 t239 t242 t243 bt245.1 bt245.2.1 bt245.2.2)) else (qe_.j0 k t237 t241 true l0_0 a1_0 a1_1 a1_2 a1_3 t234 t235 t238 t239 t242 t243 bt245.1 bt245.2.1 bt245.2.2)))) = some r := H
 have A5 := Aside0.mk A50
 clear A50
 replace H := Option.bind_eq_some_iff.mp H
 obtain ⟨⟨t245, t248, t249⟩, A60, H⟩ := H
 replace H : ((qD_.f k).bind fun t253 => (if t253 = true then ((qw_.f k l0_0).bind fun bt254 => (qe_.j0 k t237 t241 (!(bt254.1 == t234) || (!(bt254.2 == t235))) l0_0 a1_0 a1_1 a1_2 a1_3 t234 t235 t238 t239 t242 t243 t245 t248 t249)) else (qe_.j0 k t237 t241 true l0_0 a1_0 a1_1 a1_2 a1_3 t234 t235 t238 t239 t242 t243 t245 t248 t249))) = some r := H
 have A6 := Aside0.mk A60
 clear A60
 have HC7 := Aside0.mk H
 clear H
 go_enter Tryd.func3, Tryd.ntmps3
 go_upto_region 6 with (first | ((with_reducible refine gate_dst (N := 2) rfl ?_); refine qE_ ?hg (N := 2) ?hd (cs := #[.slice A0_0 l0_0.length c0_0]) (t := 24) ?hr ?_; (case hd => rfl); (case hg => rfl); (case hr => first | (go_simp; done) | (go_simp; rfl)); intro gb232 hg w8 hbox hb; have BK232 := Aside0.mk (hbox); have GW232 := Aside0.mk ((by rw [hg]; exact (qv_ (by repeat (first | (with_reducible first | exact HB.out | apply qh_ | apply qc_ | apply qf_) | exact HB.out))) : w.heap.size ≤ gb232)); have GE232 := Aside0.mk ((by rw [hg]; exact (qv_ (by repeat (first | (with_reducible first | exact HB.out | apply qh_ | apply qc_ | apply qf_) | exact HB.out))) : w.heap.size ≤ gb232)); replace HB := Aside0.mk (qq_ (by repeat (first | (with_reducible first | exact HB.out | apply qh_ | apply qc_ | apply qf_) | exact HB.out)) hb); clear hb hbox hg) | ((with_reducible refine gate_dst (N := 3) rfl ?_); refine qE_ ?hg (N := 3) ?hd (cs := #[.int .i64 a1_0, .bool a1_1, .bool a1_2, .int .i64 a1_3]) (t := 26) ?hr ?_; (case hd => rfl); (case hg => rfl); (case hr => first | (go_simp; done) | (go_simp; rfl)); intro gb233 hg w9 hbox hb; have BK233 := Aside0.mk (hbox); have GW233 := Aside0.mk ((by rw [hg]; exact (qv_ (by repeat (first | (with_reducible first | exact HB.out | apply qh_ | apply qc_ | apply qf_ | refine qk_ ?_ (by assumption)) | exact HB.out))) : w.heap.size ≤ gb233)); have GE233 := Aside0.mk ((by rw [hg]; exact (qv_ (by repeat (first | (with_reducible first | exact HB.out | apply qh_ | apply qc_ | apply qf_ | refine qk_ ?_ (by assumption)) | exact HB.out))) : w.heap.size ≤ gb233)); replace HB := Aside0.mk (qq_ (by repeat (first | (with_reducible first | exact HB.out | apply qh_ | apply qc_ | apply qf_ | refine qk_ ?_ (by assumption)) | exact HB.out)) hb); have NB232_233 := Aside0.mk ((by rw [hg]; exact Nat.ne_of_lt (qB_ (g := gb232) (o := .cells #[.slice A0_0 l0_0.length c0_0] 24 (0, 0)) (by (with_reducible repeat first | apply qa_ | apply qb_ | apply blk_alloc); exact BK232.out)) : gb232 ≠ gb233)); have NB233_232 := Aside0.mk ((by rw [hg]; exact Nat.ne_of_gt (qB_ (g := gb232) (o := .cells #[.slice A0_0 l0_0.length c0_0] 24 (0, 0)) (by (with_reducible repeat first | apply qa_ | apply qb_ | apply blk_alloc); exact BK232.out)) : gb233 ≠ gb232)); replace BK232 := Aside0.mk (ql_ BK232 (by (with_reducible repeat first | apply qa_ | apply qb_ | apply blk_alloc); exact BK232.out) hb); clear hb hbox hg; have hnb10 := NB232_233.out; have hnc10 := NB233_232.out; have hcz11_0 := qg_ BK232 0 (.slice A0_0 l0_0.length c0_0) rfl; have hfz11_0 := qd_ BK232 0) | ((with_reducible refine qs_ (f := 8) rfl ?_); refine goesL_ (some 17) rfl rfl Tryd.func8 (by kernel_rfl) rfl #[.agg #[.slice A0_0 l0_0.length c0_0]] rfl (by (try simp only [List.map_toArray]); first | done | rfl) ?_; (with_reducible refine (qr_.calls k _ _ l0_0 t234 t235 _ ?side1 ?side2 A3.out).mono ?_); (case side1 => repeat (first | exact (Kd.C_below HR0_0.out HB.out) | (with_reducible refine Kd.C_alloc ?_ _) | (with_reducible refine Kd.C_drewN ?_ _) | (with_reducible refine Kd.C_drew ?_))); (case side2 => exact HC0_0.out); rintro e w12 ⟨rfl, hb⟩; refine ⟨_, rfl, ?_⟩; replace BK232 := Aside0.mk (ql_ BK232 (by (with_reducible repeat first | apply qa_ | apply qb_ | apply blk_alloc); exact BK232.out) hb); replace BK233 := Aside0.mk (ql_ BK233 (by (with_reducible repeat first | apply qa_ | apply qb_ | apply blk_alloc); exact BK233.out) hb); replace HB := Aside0.mk (qq_ (by repeat (first | (with_reducible first | exact HB.out | apply qh_ | apply qc_ | apply qf_ | refine qk_ ?_ (by assumption)) | exact HB.out)) hb); (try clear hb)) | ((with_reducible refine gate_dst (N := 5) rfl ?_); refine qE_ ?hg (N := 5) ?hd (cs := #[.int .i64 0, .int .i64 0]) (t := 28) ?hr ?_; (case hd => rfl); (case hg => rfl); (case hr => first | (go_simp; done) | (go_simp; rfl)); intro gb236 hg w13 hbox hb; have BK236 := Aside0.mk (hbox); have GW236 := Aside0.mk ((by rw [hg]; exact (qv_ (by repeat (first | (with_reducible first | exact HB.out | apply qh_ | apply qc_ | apply qf_ | refine qk_ ?_ (by assumption)) | exact HB.out))) : w.heap.size ≤ gb236)); have GE236 := Aside0.mk ((by rw [hg]; exact (qv_ (by repeat (first | (with_reducible first | exact HB.out | apply qh_ | apply qc_ | apply qf_ | refine qk_ ?_ (by assumption)) | exact HB.out))) : w.heap.size ≤ gb236)); replace HB := Aside0.mk (qq_ (by repeat (first | (with_reducible first | exact HB.out | apply qh_ | apply qc_ | apply qf_ | refine qk_ ?_ (by assumption)) | exact HB.out)) hb); have NB232_236 := Aside0.mk ((by rw [hg]; exact Nat.ne_of_lt (qB_ (g := gb232) (o := .cells #[.slice A0_0 l0_0.length c0_0] 24 (0, 0)) (by (with_reducible repeat first | apply qa_ | apply qb_ | apply blk_alloc); exact BK232.out)) : gb232 ≠ gb236)); have NB236_232 := Aside0.mk ((by rw [hg]; exact Nat.ne_of_gt (qB_ (g := gb232) (o := .cells #[.slice A0_0 l0_0.length c0_0] 24 (0, 0)) (by (with_reducible repeat first | apply qa_ | apply qb_ | apply blk_alloc); exact BK232.out)) : gb236 ≠ gb232)); replace BK232 := Aside0.mk (ql_ BK232 (by (with_reducible repeat first | apply qa_ | apply qb_ | apply blk_alloc); exact BK232.out) hb); have NB233_236 := Aside0.mk ((by rw [hg]; exact Nat.ne_of_lt (qB_ (g := gb233) (o := .cells #[.int .i64 a1_0, .bool a1_1, .bool a1_2, .int .i64 a1_3] 26 (0, 0)) (by (with_reducible repeat first | apply qa_ | apply qb_ | apply blk_alloc); exact BK233.out)) : gb233 ≠ gb236)); have NB236_233 := Aside0.mk ((by rw [hg]; exact Nat.ne_of_gt (qB_ (g := gb233) (o := .cells #[.int .i64 a1_0, .bool a1_1, .bool a1_2, .int .i64 a1_3] 26 (0, 0)) (by (with_reducible repeat first | apply qa_ | apply qb_ | apply blk_alloc); exact BK233.out)) : gb236 ≠ gb233)); replace BK233 := Aside0.mk (ql_ BK233 (by (with_reducible repeat first | apply qa_ | apply qb_ | apply blk_alloc); exact BK233.out) hb); clear hb hbox hg; have hnb14 := NB236_232.out; have hnc14 := NB232_236.out; have hnb15 := NB236_233.out; have hnc15 := NB233_236.out; have hcz16_0 := qg_ BK236 0 (.int .i64 0) rfl; have hcz16_1 := qg_ BK236 1 (.int .i64 0) rfl; have hfz16_0 := qd_ BK236 0; have hfz16_1 := qd_ BK236 1; have hcz17_0 := qg_ BK232 0 (.slice A0_0 l0_0.length c0_0) rfl; have hfz17_0 := qd_ BK232 0) | ((with_reducible refine qs_ (f := 9) rfl ?_); refine goesL_ (some 20) rfl rfl Tryd.func9 (by kernel_rfl) rfl #[.agg #[.slice A0_0 l0_0.length c0_0]] rfl (by (try simp only [List.map_toArray]); first | done | rfl) ?_; (with_reducible refine (policy_Format.calls k _ _ l0_0 t237 t238 t239 _ ?side1 ?side2 A4.out).mono ?_); (case side1 => exact Kd.C_below HR0_0.out (by repeat (first | (with_reducible first | exact HB.out | apply qh_ | apply qc_ | apply qf_ | refine qk_ ?_ (by assumption)) | exact HB.out))); (case side2 => exact HC0_0.out); rintro e w18 ⟨rfl, hb⟩; refine ⟨_, rfl, ?_⟩; replace BK232 := Aside0.mk (ql_ BK232 (by (with_reducible repeat first | apply qa_ | apply qb_ | apply blk_alloc); refine qn_ ?_ NB232_236.out _; (with_reducible repeat first | apply qa_ | apply qb_ | apply blk_alloc); refine qn_ ?_ NB232_236.out _; (with_reducible repeat first | apply qa_ | apply qb_ | apply blk_alloc); exact BK232.out) hb); replace BK233 := Aside0.mk (ql_ BK233 (by (with_reducible repeat first | apply qa_ | apply qb_ | apply blk_alloc); refine qn_ ?_ NB233_236.out _; (with_reducible repeat first | apply qa_ | apply qb_ | apply blk_alloc); refine qn_ ?_ NB233_236.out _; (with_reducible repeat first | apply qa_ | apply qb_ | apply blk_alloc); exact BK233.out) hb); replace BK236 := Aside0.mk (qy_ (g := gb236) (o := .cells #[.int .i64 t234, .int .i64 t235] 28 (0, 0)) (by (with_reducible repeat first | apply qa_ | apply qb_ | apply blk_alloc); refine qA_ (cs := #[.int .i64 t234, .int .i64 0]) ?_ 1 _ rfl; (with_reducible repeat first | apply qa_ | apply qb_ | apply blk_alloc); refine qA_ (cs := #[.int .i64 0, .int .i64 0]) ?_ 0 _ rfl; (with_reducible repeat first | apply qa_ | apply qb_ | apply blk_alloc); exact BK236.out) hb); replace HB := Aside0.mk (qq_ (by repeat (first | (with_reducible first | exact HB.out | apply qh_ | apply qc_ | apply qf_ | refine qk_ ?_ (by assumption)) | exact HB.out)) hb); (try clear hb)) | ((with_reducible refine gate_dst (N := 7) rfl ?_); refine qE_ ?hg (N := 7) ?hd (cs := #[.int .i64 0, .int .i64 0]) (t := 28) ?hr ?_; (case hd => rfl); (case hg => rfl); (case hr => first | (go_simp; done) | (go_simp; rfl)); intro gb240 hg w19 hbox hb; have BK240 := Aside0.mk (hbox); have GW240 := Aside0.mk ((by rw [hg]; exact (qv_ (by repeat (first | (with_reducible first | exact HB.out | apply qh_ | apply qc_ | apply qf_ | refine qk_ ?_ (by assumption)) | exact HB.out))) : w.heap.size ≤ gb240)); have GE240 := Aside0.mk ((by rw [hg]; exact (qv_ (by repeat (first | (with_reducible first | exact HB.out | apply qh_ | apply qc_ | apply qf_ | refine qk_ ?_ (by assumption)) | exact HB.out))) : w.heap.size ≤ gb240)); replace HB := Aside0.mk (qq_ (by repeat (first | (with_reducible first | exact HB.out | apply qh_ | apply qc_ | apply qf_ | refine qk_ ?_ (by assumption)) | exact HB.out)) hb); have NB232_240 := Aside0.mk ((by rw [hg]; exact Nat.ne_of_lt (qB_ (g := gb232) (o := .cells #[.slice A0_0 l0_0.length c0_0] 24 (0, 0)) (by (with_reducible repeat first | apply qa_ | apply qb_ | apply blk_alloc); exact BK232.out)) : gb232 ≠ gb240)); have NB240_232 := Aside0.mk ((by rw [hg]; exact Nat.ne_of_gt (qB_ (g := gb232) (o := .cells #[.slice A0_0 l0_0.length c0_0] 24 (0, 0)) (by (with_reducible repeat first | apply qa_ | apply qb_ | apply blk_alloc); exact BK232.out)) : gb240 ≠ gb232)); replace BK232 := Aside0.mk (ql_ BK232 (by (with_reducible repeat first | apply qa_ | apply qb_ | apply blk_alloc); exact BK232.out) hb); have NB233_240 := Aside0.mk ((by rw [hg]; exact Nat.ne_of_lt (qB_ (g := gb233) (o := .cells #[.int .i64 a1_0, .bool a1_1, .bool a1_2, .int .i64 a1_3] 26 (0, 0)) (by (with_reducible repeat first | apply qa_ | apply qb_ | apply blk_alloc); exact BK233.out)) : gb233 ≠ gb240)); have NB240_233 := Aside0.mk ((by rw [hg]; exact Nat.ne_of_gt (qB_ (g := gb233) (o := .cells #[.int .i64 a1_0, .bool a1_1, .bool a1_2, .int .i64 a1_3] 26 (0, 0)) (by (with_reducible repeat first | apply qa_ | apply qb_ | apply blk_alloc); exact BK233.out)) : gb240 ≠ gb233)); replace BK233 := Aside0.mk (ql_ BK233 (by (with_reducible repeat first | apply qa_ | apply qb_ | apply blk_alloc); exact BK233.out) hb); have NB236_240 := Aside0.mk ((by rw [hg]; exact Nat.ne_of_lt (qB_ (g := gb236) (o := .cells #[.int .i64 t234, .int .i64 t235] 28 (0, 0)) (by (with_reducible repeat first | apply qa_ | apply qb_ | apply blk_alloc); exact BK236.out)) : gb236 ≠ gb240)); have NB240_236 := Aside0.mk ((by rw [hg]; exact Nat.ne_of_gt (qB_ (g := gb236) (o := .cells #[.int .i64 t234, .int .i64 t235] 28 (0, 0)) (by (with_reducible repeat first | apply qa_ | apply qb_ | apply blk_alloc); exact BK236.out)) : gb240 ≠ gb236)); replace BK236 := Aside0.mk (ql_ BK236 (by (with_reducible repeat first | apply qa_ | apply qb_ | apply blk_alloc); exact BK236.out) hb); clear hb hbox hg; have hnb20 := NB240_232.out; have hnc20 := NB232_240.out; have hnb21 := NB240_233.out; have hnc21 := NB233_240.out; have hnb22 := NB240_236.out; have hnc22 := NB236_240.out; have hcz23_0 := qg_ BK240 0 (.int .i64 0) rfl; have hcz23_1 := qg_ BK240 1 (.int .i64 0) rfl; have hfz23_0 := qd_ BK240 0; have hfz23_1 := qd_ BK240 1; have hcz24_0 := qg_ BK232 0 (.slice A0_0 l0_0.length c0_0) rfl; have hfz24_0 := qd_ BK232 0; have hcz25_0 := qg_ BK233 0 (.int .i64 a1_0) rfl; have hcz25_1 := qg_ BK233 1 (.bool a1_1) rfl; have hcz25_2 := qg_ BK233 2 (.bool a1_2) rfl; have hcz25_3 := qg_ BK233 3 (.int .i64 a1_3) rfl; have hfz25_0 := qd_ BK233 0; have hfz25_1 := qd_ BK233 1; have hfz25_2 := qd_ BK233 2; have hfz25_3 := qd_ BK233 3) | ((with_reducible refine qs_ (f := 10) rfl ?_); refine goesL_ (some 26) rfl rfl Tryd.func10 (by kernel_rfl) rfl #[.agg #[.slice A0_0 l0_0.length c0_0], .agg #[.int .i64 a1_0, .bool a1_1, .bool a1_2, .int .i64 a1_3]] rfl (by (try simp only [List.map_toArray]); first | done | rfl) ?_; (with_reducible refine (qC_.calls k _ _ l0_0 a1_0 a1_1 a1_2 a1_3 t241 t242 t243 _ ?side1 ?side2 A5.out).mono ?_); (case side1 => exact Kd.C_below HR0_0.out (by repeat (first | (with_reducible first | exact HB.out | apply qh_ | apply qc_ | apply qf_ | refine qk_ ?_ (by assumption)) | exact HB.out))); (case side2 => exact HC0_0.out); rintro e w26 ⟨rfl, hb⟩; refine ⟨_, rfl, ?_⟩; replace BK232 := Aside0.mk (ql_ BK232 (by (with_reducible repeat first | apply qa_ | apply qb_ | apply blk_alloc); refine qn_ ?_ NB232_240.out _; (with_reducible repeat first | apply qa_ | apply qb_ | apply blk_alloc); refine qn_ ?_ NB232_240.out _; (with_reducible repeat first | apply qa_ | apply qb_ | apply blk_alloc); exact BK232.out) hb); replace BK233 := Aside0.mk (ql_ BK233 (by (with_reducible repeat first | apply qa_ | apply qb_ | apply blk_alloc); refine qn_ ?_ NB233_240.out _; (with_reducible repeat first | apply qa_ | apply qb_ | apply blk_alloc); refine qn_ ?_ NB233_240.out _; (with_reducible repeat first | apply qa_ | apply qb_ | apply blk_alloc); exact BK233.out) hb); replace BK236 := Aside0.mk (ql_ BK236 (by (with_reducible repeat first | apply qa_ | apply qb_ | apply blk_alloc); refine qn_ ?_ NB236_240.out _; (with_reducible repeat first | apply qa_ | apply qb_ | apply blk_alloc); refine qn_ ?_ NB236_240.out _; (with_reducible repeat first | apply qa_ | apply qb_ | apply blk_alloc); exact BK236.out) hb); replace BK240 := Aside0.mk (qy_ (g := gb240) (o := .cells #[.int .i64 t238, .int .i64 t239] 28 (0, 0)) (by (with_reducible repeat first | apply qa_ | apply qb_ | apply blk_alloc); refine qA_ (cs := #[.int .i64 t238, .int .i64 0]) ?_ 1 _ rfl; (with_reducible repeat first | apply qa_ | apply qb_ | apply blk_alloc); refine qA_ (cs := #[.int .i64 0, .int .i64 0]) ?_ 0 _ rfl; (with_reducible repeat first | apply qa_ | apply qb_ | apply blk_alloc); exact BK240.out) hb); replace HB := Aside0.mk (qq_ (by repeat (first | (with_reducible first | exact HB.out | apply qh_ | apply qc_ | apply qf_ | refine qk_ ?_ (by assumption)) | exact HB.out)) hb); (try clear hb)) | ((with_reducible refine gate_dst (N := 9) rfl ?_); refine qE_ ?hg (N := 9) ?hd (cs := #[.int .i64 0, .int .i64 0]) (t := 28) ?hr ?_; (case hd => rfl); (case hg => rfl); (case hr => first | (go_simp; done) | (go_simp; rfl)); intro gb244 hg w27 hbox hb; have BK244 := Aside0.mk (hbox); have GW244 := Aside0.mk ((by rw [hg]; exact (qv_ (by repeat (first | (with_reducible first | exact HB.out | apply qh_ | apply qc_ | apply qf_ | refine qk_ ?_ (by assumption)) | exact HB.out))) : w.heap.size ≤ gb244)); have GE244 := Aside0.mk ((by rw [hg]; exact (qv_ (by repeat (first | (with_reducible first | exact HB.out | apply qh_ | apply qc_ | apply qf_ | refine qk_ ?_ (by assumption)) | exact HB.out))) : w.heap.size ≤ gb244)); replace HB := Aside0.mk (qq_ (by repeat (first | (with_reducible first | exact HB.out | apply qh_ | apply qc_ | apply qf_ | refine qk_ ?_ (by assumption)) | exact HB.out)) hb); have NB232_244 := Aside0.mk ((by rw [hg]; exact Nat.ne_of_lt (qB_ (g := gb232) (o := .cells #[.slice A0_0 l0_0.length c0_0] 24 (0, 0)) (by (with_reducible repeat first | apply qa_ | apply qb_ | apply blk_alloc); exact BK232.out)) : gb232 ≠ gb244)); have NB244_232 := Aside0.mk ((by rw [hg]; exact Nat.ne_of_gt (qB_ (g := gb232) (o := .cells #[.slice A0_0 l0_0.length c0_0] 24 (0, 0)) (by (with_reducible repeat first | apply qa_ | apply qb_ | apply blk_alloc); exact BK232.out)) : gb244 ≠ gb232)); replace BK232 := Aside0.mk (ql_ BK232 (by (with_reducible repeat first | apply qa_ | apply qb_ | apply blk_alloc); exact BK232.out) hb); have NB233_244 := Aside0.mk ((by rw [hg]; exact Nat.ne_of_lt (qB_ (g := gb233) (o := .cells #[.int .i64 a1_0, .bool a1_1, .bool a1_2, .int .i64 a1_3] 26 (0, 0)) (by (with_reducible repeat first | apply qa_ | apply qb_ | apply blk_alloc); exact BK233.out)) : gb233 ≠ gb244)); have NB244_233 := Aside0.mk ((by rw [hg]; exact Nat.ne_of_gt (qB_ (g := gb233) (o := .cells #[.int .i64 a1_0, .bool a1_1, .bool a1_2, .int .i64 a1_3] 26 (0, 0)) (by (with_reducible repeat first | apply qa_ | apply qb_ | apply blk_alloc); exact BK233.out)) : gb244 ≠ gb233)); replace BK233 := Aside0.mk (ql_ BK233 (by (with_reducible repeat first | apply qa_ | apply qb_ | apply blk_alloc); exact BK233.out) hb); have NB236_244 := Aside0.mk ((by rw [hg]; exact Nat.ne_of_lt (qB_ (g := gb236) (o := .cells #[.int .i64 t234, .int .i64 t235] 28 (0, 0)) (by (with_reducible repeat first | apply qa_ | apply qb_ | apply blk_alloc); exact BK236.out)) : gb236 ≠ gb244)); have NB244_236 := Aside0.mk ((by rw [hg]; exact Nat.ne_of_gt (qB_ (g := gb236) (o := .cells #[.int .i64 t234, .int .i64 t235] 28 (0, 0)) (by (with_reducible repeat first | apply qa_ | apply qb_ | apply blk_alloc); exact BK236.out)) : gb244 ≠ gb236)); replace BK236 := Aside0.mk (ql_ BK236 (by (with_reducible repeat first | apply qa_ | apply qb_ | apply blk_alloc); exact BK236.out) hb); have NB240_244 := Aside0.mk ((by rw [hg]; exact Nat.ne_of_lt (qB_ (g := gb240) (o := .cells #[.int .i64 t238, .int .i64 t239] 28 (0, 0)) (by (with_reducible repeat first | apply qa_ | apply qb_ | apply blk_alloc); exact BK240.out)) : gb240 ≠ gb244)); have NB244_240 := Aside0.mk ((by rw [hg]; exact Nat.ne_of_gt (qB_ (g := gb240) (o := .cells #[.int .i64 t238, .int .i64 t239] 28 (0, 0)) (by (with_reducible repeat first | apply qa_ | apply qb_ | apply blk_alloc); exact BK240.out)) : gb244 ≠ gb240)); replace BK240 := Aside0.mk (ql_ BK240 (by (with_reducible repeat first | apply qa_ | apply qb_ | apply blk_alloc); exact BK240.out) hb); clear hb hbox hg; have hnb28 := NB244_232.out; have hnc28 := NB232_244.out; have hnb29 := NB244_233.out; have hnc29 := NB233_244.out; have hnb30 := NB244_236.out; have hnc30 := NB236_244.out; have hnb31 := NB244_240.out; have hnc31 := NB240_244.out; have hcz32_0 := qg_ BK244 0 (.int .i64 0) rfl; have hcz32_1 := qg_ BK244 1 (.int .i64 0) rfl; have hfz32_0 := qd_ BK244 0; have hfz32_1 := qd_ BK244 1; have hcz33_0 := qg_ BK232 0 (.slice A0_0 l0_0.length c0_0) rfl; have hfz33_0 := qd_ BK232 0) | ((with_reducible refine qs_ (f := 11) rfl ?_); refine goesL_ (some 31) rfl rfl Tryd.func11 (by kernel_rfl) rfl #[.agg #[.slice A0_0 l0_0.length c0_0]] rfl (by (try simp only [List.map_toArray]); first | done | rfl) ?_; (with_reducible refine (policy_Normal.calls k _ _ l0_0 t245 t248 t249 _ ?side1 ?side2 A6.out).mono ?_); (case side1 => exact Kd.C_below HR0_0.out (by repeat (first | (with_reducible first | exact HB.out | apply qh_ | apply qc_ | apply qf_ | refine qk_ ?_ (by assumption)) | exact HB.out))); (case side2 => exact HC0_0.out); rintro e w34 ⟨v246, rfl, ho0, hb⟩; refine ⟨_, rfl, ?_⟩; have HO247 := Aside0.mk (Kd.V_lower (Kd.V_mono (ok' := fun k_ => k_ ≠ gb232 ∧ k_ ≠ gb233 ∧ k_ ≠ gb236 ∧ k_ ≠ gb240 ∧ k_ ≠ gb244) ho0 (fun k_ hk_ => ⟨(Kd.freshB (g := gb232) (o := .cells #[.slice A0_0 l0_0.length c0_0] 24 (0, 0)) (by (with_reducible repeat first | apply qa_ | apply qb_ | apply blk_alloc); refine qn_ ?_ NB232_244.out _; (with_reducible repeat first | apply qa_ | apply qb_ | apply blk_alloc); refine qn_ ?_ NB232_244.out _; (with_reducible repeat first | apply qa_ | apply qb_ | apply blk_alloc); exact BK232.out) k_ hk_), (Kd.freshB (g := gb233) (o := .cells #[.int .i64 a1_0, .bool a1_1, .bool a1_2, .int .i64 a1_3] 26 (0, 0)) (by (with_reducible repeat first | apply qa_ | apply qb_ | apply blk_alloc); refine qn_ ?_ NB233_244.out _; (with_reducible repeat first | apply qa_ | apply qb_ | apply blk_alloc); refine qn_ ?_ NB233_244.out _; (with_reducible repeat first | apply qa_ | apply qb_ | apply blk_alloc); exact BK233.out) k_ hk_), (Kd.freshB (g := gb236) (o := .cells #[.int .i64 t234, .int .i64 t235] 28 (0, 0)) (by (with_reducible repeat first | apply qa_ | apply qb_ | apply blk_alloc); refine qn_ ?_ NB236_244.out _; (with_reducible repeat first | apply qa_ | apply qb_ | apply blk_alloc); refine qn_ ?_ NB236_244.out _; (with_reducible repeat first | apply qa_ | apply qb_ | apply blk_alloc); exact BK236.out) k_ hk_), (Kd.freshB (g := gb240) (o := .cells #[.int .i64 t238, .int .i64 t239] 28 (0, 0)) (by (with_reducible repeat first | apply qa_ | apply qb_ | apply blk_alloc); refine qn_ ?_ NB240_244.out _; (with_reducible repeat first | apply qa_ | apply qb_ | apply blk_alloc); refine qn_ ?_ NB240_244.out _; (with_reducible repeat first | apply qa_ | apply qb_ | apply blk_alloc); exact BK240.out) k_ hk_), (Kd.freshB (g := gb244) (o := .cells #[.int .i64 t242, .int .i64 t243] 28 (0, 0)) (by (with_reducible repeat first | apply qa_ | apply qb_ | apply blk_alloc); refine qA_ (cs := #[.int .i64 t242, .int .i64 0]) ?_ 1 _ rfl; (with_reducible repeat first | apply qa_ | apply qb_ | apply blk_alloc); refine qA_ (cs := #[.int .i64 0, .int .i64 0]) ?_ 0 _ rfl; (with_reducible repeat first | apply qa_ | apply qb_ | apply blk_alloc); exact BK244.out) k_ hk_)⟩)) (qv_ (by repeat (first | (with_reducible first | exact HB.out | apply qh_ | apply qc_ | apply qf_ | refine qk_ ?_ (by assumption)) | exact HB.out)))); replace BK232 := Aside0.mk (ql_ BK232 (by (with_reducible repeat first | apply qa_ | apply qb_ | apply blk_alloc); refine qn_ ?_ NB232_244.out _; (with_reducible repeat first | apply qa_ | apply qb_ | apply blk_alloc); refine qn_ ?_ NB232_244.out _; (with_reducible repeat first | apply qa_ | apply qb_ | apply blk_alloc); exact BK232.out) hb); replace BK233 := Aside0.mk (ql_ BK233 (by (with_reducible repeat first | apply qa_ | apply qb_ | apply blk_alloc); refine qn_ ?_ NB233_244.out _; (with_reducible repeat first | apply qa_ | apply qb_ | apply blk_alloc); refine qn_ ?_ NB233_244.out _; (with_reducible repeat first | apply qa_ | apply qb_ | apply blk_alloc); exact BK233.out) hb); replace BK236 := Aside0.mk (ql_ BK236 (by (with_reducible repeat first | apply qa_ | apply qb_ | apply blk_alloc); refine qn_ ?_ NB236_244.out _; (with_reducible repeat first | apply qa_ | apply qb_ | apply blk_alloc); refine qn_ ?_ NB236_244.out _; (with_reducible repeat first | apply qa_ | apply qb_ | apply blk_alloc); exact BK236.out) hb); replace BK240 := Aside0.mk (ql_ BK240 (by (with_reducible repeat first | apply qa_ | apply qb_ | apply blk_alloc); refine qn_ ?_ NB240_244.out _; (with_reducible repeat first | apply qa_ | apply qb_ | apply blk_alloc); refine qn_ ?_ NB240_244.out _; (with_reducible repeat first | apply qa_ | apply qb_ | apply blk_alloc); exact BK240.out) hb); replace BK244 := Aside0.mk (qy_ (g := gb244) (o := .cells #[.int .i64 t242, .int .i64 t243] 28 (0, 0)) (by (with_reducible repeat first | apply qa_ | apply qb_ | apply blk_alloc); refine qA_ (cs := #[.int .i64 t242, .int .i64 0]) ?_ 1 _ rfl; (with_reducible repeat first | apply qa_ | apply qb_ | apply blk_alloc); refine qA_ (cs := #[.int .i64 0, .int .i64 0]) ?_ 0 _ rfl; (with_reducible repeat first | apply qa_ | apply qb_ | apply blk_alloc); exact BK244.out) hb); replace HB := Aside0.mk (qq_ (by repeat (first | (with_reducible first | exact HB.out | apply qh_ | apply qc_ | apply qf_ | refine qk_ ?_ (by assumption)) | exact HB.out)) hb); (try clear hb); (try clear ho0)) | ((with_reducible refine gate_dst (N := 10) rfl ?_); refine qE_ ?hg (N := 10) ?hd (cs := #[.slice none 0 0]) (t := 24) ?hr ?_; (case hd => rfl); (case hg => rfl); (case hr => first | (go_simp; done) | (go_simp; rfl)); intro gb250 hg w35 hbox hb; replace HO247 := Aside0.mk (Kd.V_below (Kd.V_elderB (by (with_reducible repeat (first | apply Kd.V_alloc | apply Kd.V_drewN | apply Kd.V_drew)); exact HO247.out) gb250 (Nat.le_of_eq hg.symm)) hb); have BK250 := Aside0.mk (hbox); have GW250 := Aside0.mk ((by rw [hg]; exact (qv_ (by repeat (first | (with_reducible first | exact HB.out | apply qh_ | apply qc_ | apply qf_ | refine qk_ ?_ (by assumption)) | exact HB.out))) : w.heap.size ≤ gb250)); have GE250 := Aside0.mk ((by rw [hg]; exact (qv_ (by repeat (first | (with_reducible first | exact HB.out | apply qh_ | apply qc_ | apply qf_ | refine qk_ ?_ (by assumption)) | exact HB.out))) : w.heap.size ≤ gb250)); replace HB := Aside0.mk (qq_ (by repeat (first | (with_reducible first | exact HB.out | apply qh_ | apply qc_ | apply qf_ | refine qk_ ?_ (by assumption)) | exact HB.out)) hb); have NB232_250 := Aside0.mk ((by rw [hg]; exact Nat.ne_of_lt (qB_ (g := gb232) (o := .cells #[.slice A0_0 l0_0.length c0_0] 24 (0, 0)) (by (with_reducible repeat first | apply qa_ | apply qb_ | apply blk_alloc); exact BK232.out)) : gb232 ≠ gb250)); have NB250_232 := Aside0.mk ((by rw [hg]; exact Nat.ne_of_gt (qB_ (g := gb232) (o := .cells #[.slice A0_0 l0_0.length c0_0] 24 (0, 0)) (by (with_reducible repeat first | apply qa_ | apply qb_ | apply blk_alloc); exact BK232.out)) : gb250 ≠ gb232)); replace BK232 := Aside0.mk (ql_ BK232 (by (with_reducible repeat first | apply qa_ | apply qb_ | apply blk_alloc); exact BK232.out) hb); have NB233_250 := Aside0.mk ((by rw [hg]; exact Nat.ne_of_lt (qB_ (g := gb233) (o := .cells #[.int .i64 a1_0, .bool a1_1, .bool a1_2, .int .i64 a1_3] 26 (0, 0)) (by (with_reducible repeat first | apply qa_ | apply qb_ | apply blk_alloc); exact BK233.out)) : gb233 ≠ gb250)); have NB250_233 := Aside0.mk ((by rw [hg]; exact Nat.ne_of_gt (qB_ (g := gb233) (o := .cells #[.int .i64 a1_0, .bool a1_1, .bool a1_2, .int .i64 a1_3] 26 (0, 0)) (by (with_reducible repeat first | apply qa_ | apply qb_ | apply blk_alloc); exact BK233.out)) : gb250 ≠ gb233)); replace BK233 := Aside0.mk (ql_ BK233 (by (with_reducible repeat first | apply qa_ | apply qb_ | apply blk_alloc); exact BK233.out) hb); have NB236_250 := Aside0.mk ((by rw [hg]; exact Nat.ne_of_lt (qB_ (g := gb236) (o := .cells #[.int .i64 t234, .int .i64 t235] 28 (0, 0)) (by (with_reducible repeat first | apply qa_ | apply qb_ | apply blk_alloc); exact BK236.out)) : gb236 ≠ gb250)); have NB250_236 := Aside0.mk ((by rw [hg]; exact Nat.ne_of_gt (qB_ (g := gb236) (o := .cells #[.int .i64 t234, .int .i64 t235] 28 (0, 0)) (by (with_reducible repeat first | apply qa_ | apply qb_ | apply blk_alloc); exact BK236.out)) : gb250 ≠ gb236)); replace BK236 := Aside0.mk (ql_ BK236 (by (with_reducible repeat first | apply qa_ | apply qb_ | apply blk_alloc); exact BK236.out) hb); have NB240_250 := Aside0.mk ((by rw [hg]; exact Nat.ne_of_lt (qB_ (g := gb240) (o := .cells #[.int .i64 t238, .int .i64 t239] 28 (0, 0)) (by (with_reducible repeat first | apply qa_ | apply qb_ | apply blk_alloc); exact BK240.out)) : gb240 ≠ gb250)); have NB250_240 := Aside0.mk ((by rw [hg]; exact Nat.ne_of_gt (qB_ (g := gb240) (o := .cells #[.int .i64 t238, .int .i64 t239] 28 (0, 0)) (by (with_reducible repeat first | apply qa_ | apply qb_ | apply blk_alloc); exact BK240.out)) : gb250 ≠ gb240)); replace BK240 := Aside0.mk (ql_ BK240 (by (with_reducible repeat first | apply qa_ | apply qb_ | apply blk_alloc); exact BK240.out) hb); have NB244_250 := Aside0.mk ((by rw [hg]; exact Nat.ne_of_lt (qB_ (g := gb244) (o := .cells #[.int .i64 t242, .int .i64 t243] 28 (0, 0)) (by (with_reducible repeat first | apply qa_ | apply qb_ | apply blk_alloc); exact BK244.out)) : gb244 ≠ gb250)); have NB250_244 := Aside0.mk ((by rw [hg]; exact Nat.ne_of_gt (qB_ (g := gb244) (o := .cells #[.int .i64 t242, .int .i64 t243] 28 (0, 0)) (by (with_reducible repeat first | apply qa_ | apply qb_ | apply blk_alloc); exact BK244.out)) : gb250 ≠ gb244)); replace BK244 := Aside0.mk (ql_ BK244 (by (with_reducible repeat first | apply qa_ | apply qb_ | apply blk_alloc); exact BK244.out) hb); clear hb hbox hg) | ((with_reducible refine gate_dst (N := 11) rfl ?_); refine qE_ ?hg (N := 11) ?hd (cs := #[.int .i64 0, .int .i64 0]) (t := 28) ?hr ?_; (case hd => rfl); (case hg => rfl); (case hr => first | (go_simp; done) | (go_simp; rfl)); intro gb251 hg w36 hbox hb; replace HO247 := Aside0.mk (Kd.V_below (Kd.V_elderB (by (with_reducible repeat (first | apply Kd.V_alloc | apply Kd.V_drewN | apply Kd.V_drew)); exact HO247.out) gb251 (Nat.le_of_eq hg.symm)) hb); have BK251 := Aside0.mk (hbox); have GW251 := Aside0.mk ((by rw [hg]; exact (qv_ (by repeat (first | (with_reducible first | exact HB.out | apply qh_ | apply qc_ | apply qf_ | refine qk_ ?_ (by assumption)) | exact HB.out))) : w.heap.size ≤ gb251)); have GE251 := Aside0.mk ((by rw [hg]; exact (qv_ (by repeat (first | (with_reducible first | exact HB.out | apply qh_ | apply qc_ | apply qf_ | refine qk_ ?_ (by assumption)) | exact HB.out))) : w.heap.size ≤ gb251)); replace HB := Aside0.mk (qq_ (by repeat (first | (with_reducible first | exact HB.out | apply qh_ | apply qc_ | apply qf_ | refine qk_ ?_ (by assumption)) | exact HB.out)) hb); have NB232_251 := Aside0.mk ((by rw [hg]; exact Nat.ne_of_lt (qB_ (g := gb232) (o := .cells #[.slice A0_0 l0_0.length c0_0] 24 (0, 0)) (by (with_reducible repeat first | apply qa_ | apply qb_ | apply blk_alloc); exact BK232.out)) : gb232 ≠ gb251)); have NB251_232 := Aside0.mk ((by rw [hg]; exact Nat.ne_of_gt (qB_ (g := gb232) (o := .cells #[.slice A0_0 l0_0.length c0_0] 24 (0, 0)) (by (with_reducible repeat first | apply qa_ | apply qb_ | apply blk_alloc); exact BK232.out)) : gb251 ≠ gb232)); replace BK232 := Aside0.mk (ql_ BK232 (by (with_reducible repeat first | apply qa_ | apply qb_ | apply blk_alloc); exact BK232.out) hb); have NB233_251 := Aside0.mk ((by rw [hg]; exact Nat.ne_of_lt (qB_ (g := gb233) (o := .cells #[.int .i64 a1_0, .bool a1_1, .bool a1_2, .int .i64 a1_3] 26 (0, 0)) (by (with_reducible repeat first | apply qa_ | apply qb_ | apply blk_alloc); exact BK233.out)) : gb233 ≠ gb251)); have NB251_233 := Aside0.mk ((by rw [hg]; exact Nat.ne_of_gt (qB_ (g := gb233) (o := .cells #[.int .i64 a1_0, .bool a1_1, .bool a1_2, .int .i64 a1_3] 26 (0, 0)) (by (with_reducible repeat first | apply qa_ | apply qb_ | apply blk_alloc); exact BK233.out)) : gb251 ≠ gb233)); replace BK233 := Aside0.mk (ql_ BK233 (by (with_reducible repeat first | apply qa_ | apply qb_ | apply blk_alloc); exact BK233.out) hb); have NB236_251 := Aside0.mk ((by rw [hg]; exact Nat.ne_of_lt (qB_ (g := gb236) (o := .cells #[.int .i64 t234, .int .i64 t235] 28 (0, 0)) (by (with_reducible repeat first | apply qa_ | apply qb_ | apply blk_alloc); exact BK236.out)) : gb236 ≠ gb251)); have NB251_236 := Aside0.mk ((by rw [hg]; exact Nat.ne_of_gt (qB_ (g := gb236) (o := .cells #[.int .i64 t234, .int .i64 t235] 28 (0, 0)) (by (with_reducible repeat first | apply qa_ | apply qb_ | apply blk_alloc); exact BK236.out)) : gb251 ≠ gb236)); replace BK236 := Aside0.mk (ql_ BK236 (by (with_reducible repeat first | apply qa_ | apply qb_ | apply blk_alloc); exact BK236.out) hb); have NB240_251 := Aside0.mk ((by rw [hg]; exact Nat.ne_of_lt (qB_ (g := gb240) (o := .cells #[.int .i64 t238, .int .i64 t239] 28 (0, 0)) (by (with_reducible repeat first | apply qa_ | apply qb_ | apply blk_alloc); exact BK240.out)) : gb240 ≠ gb251)); have NB251_240 := Aside0.mk ((by rw [hg]; exact Nat.ne_of_gt (qB_ (g := gb240) (o := .cells #[.int .i64 t238, .int .i64 t239] 28 (0, 0)) (by (with_reducible repeat first | apply qa_ | apply qb_ | apply blk_alloc); exact BK240.out)) : gb251 ≠ gb240)); replace BK240 := Aside0.mk (ql_ BK240 (by (with_reducible repeat first | apply qa_ | apply qb_ | apply blk_alloc); exact BK240.out) hb); have NB244_251 := Aside0.mk ((by rw [hg]; exact Nat.ne_of_lt (qB_ (g := gb244) (o := .cells #[.int .i64 t242, .int .i64 t243] 28 (0, 0)) (by (with_reducible repeat first | apply qa_ | apply qb_ | apply blk_alloc); exact BK244.out)) : gb244 ≠ gb251)); have NB251_244 := Aside0.mk ((by rw [hg]; exact Nat.ne_of_gt (qB_ (g := gb244) (o := .cells #[.int .i64 t242, .int .i64 t243] 28 (0, 0)) (by (with_reducible repeat first | apply qa_ | apply qb_ | apply blk_alloc); exact BK244.out)) : gb251 ≠ gb244)); replace BK244 := Aside0.mk (ql_ BK244 (by (with_reducible repeat first | apply qa_ | apply qb_ | apply blk_alloc); exact BK244.out) hb); have NB250_251 := Aside0.mk ((by rw [hg]; exact Nat.ne_of_lt (qB_ (g := gb250) (o := .cells #[.slice none 0 0] 24 (0, 0)) (by (with_reducible repeat first | apply qa_ | apply qb_ | apply blk_alloc); exact BK250.out)) : gb250 ≠ gb251)); have NB251_250 := Aside0.mk ((by rw [hg]; exact Nat.ne_of_gt (qB_ (g := gb250) (o := .cells #[.slice none 0 0] 24 (0, 0)) (by (with_reducible repeat first | apply qa_ | apply qb_ | apply blk_alloc); exact BK250.out)) : gb251 ≠ gb250)); replace BK250 := Aside0.mk (ql_ BK250 (by (with_reducible repeat first | apply qa_ | apply qb_ | apply blk_alloc); exact BK250.out) hb); clear hb hbox hg; obtain ⟨Ao37, co37, eo37⟩ := Kd.V_slice HO247.out; subst eo37; have hnb38 := NB250_232.out; have hnc38 := NB232_250.out; have hnb39 := NB250_233.out; have hnc39 := NB233_250.out; have hnb40 := NB250_236.out; have hnc40 := NB236_250.out; have hnb41 := NB250_240.out; have hnc41 := NB240_250.out; have hnb42 := NB250_244.out; have hnc42 := NB244_250.out; have hnb43 := NB250_251.out; have hnc43 := NB251_250.out; have hcz44_0 := qg_ BK250 0 (.slice none 0 0) rfl; have hfz44_0 := qd_ BK250 0; have hnb45 := NB251_232.out; have hnc45 := NB232_251.out; have hnb46 := NB251_233.out; have hnc46 := NB233_251.out; have hnb47 := NB251_236.out; have hnc47 := NB236_251.out; have hnb48 := NB251_240.out; have hnc48 := NB240_251.out; have hnb49 := NB251_244.out; have hnc49 := NB244_251.out; have hcz50_0 := qg_ BK251 0 (.int .i64 0) rfl; have hcz50_1 := qg_ BK251 1 (.int .i64 0) rfl; have hfz50_0 := qd_ BK251 0; have hfz50_1 := qd_ BK251 1) | ((with_reducible refine gate_dst (N := 12) rfl ?_); refine qE_ ?hg (N := 12) ?hd (cs := #[.slice none 0 0]) (t := 24) ?hr ?_; (case hd => rfl); (case hg => rfl); (case hr => first | (go_simp; done) | (go_simp; rfl)); intro gb252 hg w51 hbox hb; replace HO247 := Aside0.mk (Kd.V_below (Kd.V_elderB (by (with_reducible repeat (first | apply Kd.V_alloc | apply Kd.V_drewN | apply Kd.V_drew)); exact (Kd.V_mono (Kd.V_mono (Kd.V_far (p := ⟨gb251, 1, none⟩) (Kd.V_far (p := ⟨gb251, 0, none⟩) (Kd.V_far (p := ⟨gb250, 0, none⟩) (Kd.V_mono (Kd.V_mono HO247.out (fun k_ hk => (⟨hk, hk.1.2⟩ : _ ∧ k_ ≠ gb250))) (fun k_ hk => (⟨hk, hk.1.2⟩ : _ ∧ k_ ≠ gb251))) (fun _ hk => hk.1.2) (.slice Ao37 t245.length co37)) (fun _ hk => hk.2) (.int .i64 t248)) (fun _ hk => hk.2) (.int .i64 t249)) (fun _ h_ => h_.1)) (fun _ h_ => h_.1))) gb252 (Nat.le_of_eq hg.symm)) hb); have BK252 := Aside0.mk (hbox); have GW252 := Aside0.mk ((by rw [hg]; exact (qv_ (by repeat (first | (with_reducible first | exact HB.out | apply qh_ | apply qc_ | apply qf_ | refine qk_ ?_ (by assumption)) | exact HB.out))) : w.heap.size ≤ gb252)); have GE252 := Aside0.mk ((by rw [hg]; exact (qv_ (by repeat (first | (with_reducible first | exact HB.out | apply qh_ | apply qc_ | apply qf_ | refine qk_ ?_ (by assumption)) | exact HB.out))) : w.heap.size ≤ gb252)); replace HB := Aside0.mk (qq_ (by repeat (first | (with_reducible first | exact HB.out | apply qh_ | apply qc_ | apply qf_ | refine qk_ ?_ (by assumption)) | exact HB.out)) hb); have NB232_252 := Aside0.mk ((by rw [hg]; exact Nat.ne_of_lt (qB_ (g := gb232) (o := .cells #[.slice A0_0 l0_0.length c0_0] 24 (0, 0)) (by (with_reducible repeat first | apply qa_ | apply qb_ | apply blk_alloc); refine qn_ ?_ NB232_251.out _; (with_reducible repeat first | apply qa_ | apply qb_ | apply blk_alloc); refine qn_ ?_ NB232_251.out _; (with_reducible repeat first | apply qa_ | apply qb_ | apply blk_alloc); refine qn_ ?_ NB232_250.out _; (with_reducible repeat first | apply qa_ | apply qb_ | apply blk_alloc); exact BK232.out)) : gb232 ≠ gb252)); have NB252_232 := Aside0.mk ((by rw [hg]; exact Nat.ne_of_gt (qB_ (g := gb232) (o := .cells #[.slice A0_0 l0_0.length c0_0] 24 (0, 0)) (by (with_reducible repeat first | apply qa_ | apply qb_ | apply blk_alloc); refine qn_ ?_ NB232_251.out _; (with_reducible repeat first | apply qa_ | apply qb_ | apply blk_alloc); refine qn_ ?_ NB232_251.out _; (with_reducible repeat first | apply qa_ | apply qb_ | apply blk_alloc); refine qn_ ?_ NB232_250.out _; (with_reducible repeat first | apply qa_ | apply qb_ | apply blk_alloc); exact BK232.out)) : gb252 ≠ gb232)); replace BK232 := Aside0.mk (ql_ BK232 (by (with_reducible repeat first | apply qa_ | apply qb_ | apply blk_alloc); refine qn_ ?_ NB232_251.out _; (with_reducible repeat first | apply qa_ | apply qb_ | apply blk_alloc); refine qn_ ?_ NB232_251.out _; (with_reducible repeat first | apply qa_ | apply qb_ | apply blk_alloc); refine qn_ ?_ NB232_250.out _; (with_reducible repeat first | apply qa_ | apply qb_ | apply blk_alloc); exact BK232.out) hb); have NB233_252 := Aside0.mk ((by rw [hg]; exact Nat.ne_of_lt (qB_ (g := gb233) (o := .cells #[.int .i64 a1_0, .bool a1_1, .bool a1_2, .int .i64 a1_3] 26 (0, 0)) (by (with_reducible repeat first | apply qa_ | apply qb_ | apply blk_alloc); refine qn_ ?_ NB233_251.out _; (with_reducible repeat first | apply qa_ | apply qb_ | apply blk_alloc); refine qn_ ?_ NB233_251.out _; (with_reducible repeat first | apply qa_ | apply qb_ | apply blk_alloc); refine qn_ ?_ NB233_250.out _; (with_reducible repeat first | apply qa_ | apply qb_ | apply blk_alloc); exact BK233.out)) : gb233 ≠ gb252)); have NB252_233 := Aside0.mk ((by rw [hg]; exact Nat.ne_of_gt (qB_ (g := gb233) (o := .cells #[.int .i64 a1_0, .bool a1_1, .bool a1_2, .int .i64 a1_3] 26 (0, 0)) (by (with_reducible repeat first | apply qa_ | apply qb_ | apply blk_alloc); refine qn_ ?_ NB233_251.out _; (with_reducible repeat first | apply qa_ | apply qb_ | apply blk_alloc); refine qn_ ?_ NB233_251.out _; (with_reducible repeat first | apply qa_ | apply qb_ | apply blk_alloc); refine qn_ ?_ NB233_250.out _; (with_reducible repeat first | apply qa_ | apply qb_ | apply blk_alloc); exact BK233.out)) : gb252 ≠ gb233)); replace BK233 := Aside0.mk (ql_ BK233 (by (with_reducible repeat first | apply qa_ | apply qb_ | apply blk_alloc); refine qn_ ?_ NB233_251.out _; (with_reducible repeat first | apply qa_ | apply qb_ | apply blk_alloc); refine qn_ ?_ NB233_251.out _; (with_reducible repeat first | apply qa_ | apply qb_ | apply blk_alloc); refine qn_ ?_ NB233_250.out _; (with_reducible repeat first | apply qa_ | apply qb_ | apply blk_alloc); exact BK233.out) hb); have NB236_252 := Aside0.mk ((by rw [hg]; exact Nat.ne_of_lt (qB_ (g := gb236) (o := .cells #[.int .i64 t234, .int .i64 t235] 28 (0, 0)) (by (with_reducible repeat first | apply qa_ | apply qb_ | apply blk_alloc); refine qn_ ?_ NB236_251.out _; (with_reducible repeat first | apply qa_ | apply qb_ | apply blk_alloc); refine qn_ ?_ NB236_251.out _; (with_reducible repeat first | apply qa_ | apply qb_ | apply blk_alloc); refine qn_ ?_ NB236_250.out _; (with_reducible repeat first | apply qa_ | apply qb_ | apply blk_alloc); exact BK236.out)) : gb236 ≠ gb252)); have NB252_236 := Aside0.mk ((by rw [hg]; exact Nat.ne_of_gt (qB_ (g := gb236) (o := .cells #[.int .i64 t234, .int .i64 t235] 28 (0, 0)) (by (with_reducible repeat first | apply qa_ | apply qb_ | apply blk_alloc); refine qn_ ?_ NB236_251.out _; (with_reducible repeat first | apply qa_ | apply qb_ | apply blk_alloc); refine qn_ ?_ NB236_251.out _; (with_reducible repeat first | apply qa_ | apply qb_ | apply blk_alloc); refine qn_ ?_ NB236_250.out _; (with_reducible repeat first | apply qa_ | apply qb_ | apply blk_alloc); exact BK236.out)) : gb252 ≠ gb236)); replace BK236 := Aside0.mk (ql_ BK236 (by (with_reducible repeat first | apply qa_ | apply qb_ | apply blk_alloc); refine qn_ ?_ NB236_251.out _; (with_reducible repeat first | apply qa_ | apply qb_ | apply blk_alloc); refine qn_ ?_ NB236_251.out _; (with_reducible repeat first | apply qa_ | apply qb_ | apply blk_alloc); refine qn_ ?_ NB236_250.out _; (with_reducible repeat first | apply qa_ | apply qb_ | apply blk_alloc); exact BK236.out) hb); have NB240_252 := Aside0.mk ((by rw [hg]; exact Nat.ne_of_lt (qB_ (g := gb240) (o := .cells #[.int .i64 t238, .int .i64 t239] 28 (0, 0)) (by (with_reducible repeat first | apply qa_ | apply qb_ | apply blk_alloc); refine qn_ ?_ NB240_251.out _; (with_reducible repeat first | apply qa_ | apply qb_ | apply blk_alloc); refine qn_ ?_ NB240_251.out _; (with_reducible repeat first | apply qa_ | apply qb_ | apply blk_alloc); refine qn_ ?_ NB240_250.out _; (with_reducible repeat first | apply qa_ | apply qb_ | apply blk_alloc); exact BK240.out)) : gb240 ≠ gb252)); have NB252_240 := Aside0.mk ((by rw [hg]; exact Nat.ne_of_gt (qB_ (g := gb240) (o := .cells #[.int .i64 t238, .int .i64 t239] 28 (0, 0)) (by (with_reducible repeat first | apply qa_ | apply qb_ | apply blk_alloc); refine qn_ ?_ NB240_251.out _; (with_reducible repeat first | apply qa_ | apply qb_ | apply blk_alloc); refine qn_ ?_ NB240_251.out _; (with_reducible repeat first | apply qa_ | apply qb_ | apply blk_alloc); refine qn_ ?_ NB240_250.out _; (with_reducible repeat first | apply qa_ | apply qb_ | apply blk_alloc); exact BK240.out)) : gb252 ≠ gb240)); replace BK240 := Aside0.mk (ql_ BK240 (by (with_reducible repeat first | apply qa_ | apply qb_ | apply blk_alloc); refine qn_ ?_ NB240_251.out _; (with_reducible repeat first | apply qa_ | apply qb_ | apply blk_alloc); refine qn_ ?_ NB240_251.out _; (with_reducible repeat first | apply qa_ | apply qb_ | apply blk_alloc); refine qn_ ?_ NB240_250.out _; (with_reducible repeat first | apply qa_ | apply qb_ | apply blk_alloc); exact BK240.out) hb); have NB244_252 := Aside0.mk ((by rw [hg]; exact Nat.ne_of_lt (qB_ (g := gb244) (o := .cells #[.int .i64 t242, .int .i64 t243] 28 (0, 0)) (by (with_reducible repeat first | apply qa_ | apply qb_ | apply blk_alloc); refine qn_ ?_ NB244_251.out _; (with_reducible repeat first | apply qa_ | apply qb_ | apply blk_alloc); refine qn_ ?_ NB244_251.out _; (with_reducible repeat first | apply qa_ | apply qb_ | apply blk_alloc); refine qn_ ?_ NB244_250.out _; (with_reducible repeat first | apply qa_ | apply qb_ | apply blk_alloc); exact BK244.out)) : gb244 ≠ gb252)); have NB252_244 := Aside0.mk ((by rw [hg]; exact Nat.ne_of_gt (qB_ (g := gb244) (o := .cells #[.int .i64 t242, .int .i64 t243] 28 (0, 0)) (by (with_reducible repeat first | apply qa_ | apply qb_ | apply blk_alloc); refine qn_ ?_ NB244_251.out _; (with_reducible repeat first | apply qa_ | apply qb_ | apply blk_alloc); refine qn_ ?_ NB244_251.out _; (with_reducible repeat first | apply qa_ | apply qb_ | apply blk_alloc); refine qn_ ?_ NB244_250.out _; (with_reducible repeat first | apply qa_ | apply qb_ | apply blk_alloc); exact BK244.out)) : gb252 ≠ gb244)); replace BK244 := Aside0.mk (ql_ BK244 (by (with_reducible repeat first | apply qa_ | apply qb_ | apply blk_alloc); refine qn_ ?_ NB244_251.out _; (with_reducible repeat first | apply qa_ | apply qb_ | apply blk_alloc); refine qn_ ?_ NB244_251.out _; (with_reducible repeat first | apply qa_ | apply qb_ | apply blk_alloc); refine qn_ ?_ NB244_250.out _; (with_reducible repeat first | apply qa_ | apply qb_ | apply blk_alloc); exact BK244.out) hb); have NB250_252 := Aside0.mk ((by rw [hg]; exact Nat.ne_of_lt (qB_ (g := gb250) (o := .cells #[.slice Ao37 t245.length co37] 24 (0, 0)) (by (with_reducible repeat first | apply qa_ | apply qb_ | apply blk_alloc); refine qn_ ?_ NB250_251.out _; (with_reducible repeat first | apply qa_ | apply qb_ | apply blk_alloc); refine qn_ ?_ NB250_251.out _; (with_reducible repeat first | apply qa_ | apply qb_ | apply blk_alloc); refine qA_ (cs := #[.slice none 0 0]) ?_ 0 _ rfl; (with_reducible repeat first | apply qa_ | apply qb_ | apply blk_alloc); exact BK250.out)) : gb250 ≠ gb252)); have NB252_250 := Aside0.mk ((by rw [hg]; exact Nat.ne_of_gt (qB_ (g := gb250) (o := .cells #[.slice Ao37 t245.length co37] 24 (0, 0)) (by (with_reducible repeat first | apply qa_ | apply qb_ | apply blk_alloc); refine qn_ ?_ NB250_251.out _; (with_reducible repeat first | apply qa_ | apply qb_ | apply blk_alloc); refine qn_ ?_ NB250_251.out _; (with_reducible repeat first | apply qa_ | apply qb_ | apply blk_alloc); refine qA_ (cs := #[.slice none 0 0]) ?_ 0 _ rfl; (with_reducible repeat first | apply qa_ | apply qb_ | apply blk_alloc); exact BK250.out)) : gb252 ≠ gb250)); replace BK250 := Aside0.mk (qy_ (g := gb250) (o := .cells #[.slice Ao37 t245.length co37] 24 (0, 0)) (by (with_reducible repeat first | apply qa_ | apply qb_ | apply blk_alloc); refine qn_ ?_ NB250_251.out _; (with_reducible repeat first | apply qa_ | apply qb_ | apply blk_alloc); refine qn_ ?_ NB250_251.out _; (with_reducible repeat first | apply qa_ | apply qb_ | apply blk_alloc); refine qA_ (cs := #[.slice none 0 0]) ?_ 0 _ rfl; (with_reducible repeat first | apply qa_ | apply qb_ | apply blk_alloc); exact BK250.out) hb); have NB251_252 := Aside0.mk ((by rw [hg]; exact Nat.ne_of_lt (qB_ (g := gb251) (o := .cells #[.int .i64 t248, .int .i64 t249] 28 (0, 0)) (by (with_reducible repeat first | apply qa_ | apply qb_ | apply blk_alloc); refine qA_ (cs := #[.int .i64 t248, .int .i64 0]) ?_ 1 _ rfl; (with_reducible repeat first | apply qa_ | apply qb_ | apply blk_alloc); refine qA_ (cs := #[.int .i64 0, .int .i64 0]) ?_ 0 _ rfl; (with_reducible repeat first | apply qa_ | apply qb_ | apply blk_alloc); refine qn_ ?_ NB251_250.out _; (with_reducible repeat first | apply qa_ | apply qb_ | apply blk_alloc); exact BK251.out)) : gb251 ≠ gb252)); have NB252_251 := Aside0.mk ((by rw [hg]; exact Nat.ne_of_gt (qB_ (g := gb251) (o := .cells #[.int .i64 t248, .int .i64 t249] 28 (0, 0)) (by (with_reducible repeat first | apply qa_ | apply qb_ | apply blk_alloc); refine qA_ (cs := #[.int .i64 t248, .int .i64 0]) ?_ 1 _ rfl; (with_reducible repeat first | apply qa_ | apply qb_ | apply blk_alloc); refine qA_ (cs := #[.int .i64 0, .int .i64 0]) ?_ 0 _ rfl; (with_reducible repeat first | apply qa_ | apply qb_ | apply blk_alloc); refine qn_ ?_ NB251_250.out _; (with_reducible repeat first | apply qa_ | apply qb_ | apply blk_alloc); exact BK251.out)) : gb252 ≠ gb251)); replace BK251 := Aside0.mk (qy_ (g := gb251) (o := .cells #[.int .i64 t248, .int .i64 t249] 28 (0, 0)) (by (with_reducible repeat first | apply qa_ | apply qb_ | apply blk_alloc); refine qA_ (cs := #[.int .i64 t248, .int .i64 0]) ?_ 1 _ rfl; (with_reducible repeat first | apply qa_ | apply qb_ | apply blk_alloc); refine qA_ (cs := #[.int .i64 0, .int .i64 0]) ?_ 0 _ rfl; (with_reducible repeat first | apply qa_ | apply qb_ | apply blk_alloc); refine qn_ ?_ NB251_250.out _; (with_reducible repeat first | apply qa_ | apply qb_ | apply blk_alloc); exact BK251.out) hb); clear hb hbox hg; have hnb52 := NB252_232.out; have hnc52 := NB232_252.out; have hnb53 := NB252_233.out; have hnc53 := NB233_252.out; have hnb54 := NB252_236.out; have hnc54 := NB236_252.out; have hnb55 := NB252_240.out; have hnc55 := NB240_252.out; have hnb56 := NB252_244.out; have hnc56 := NB244_252.out; have hnb57 := NB252_250.out; have hnc57 := NB250_252.out; have hnb58 := NB252_251.out; have hnc58 := NB251_252.out; have hcz59_0 := qg_ BK252 0 (.slice none 0 0) rfl; have hfz59_0 := qd_ BK252 0))
 (try simp only [Act.put, List.setIfInBounds_toArray, List.set_cons_zero, List.set_cons_succ])
 go_cut [42] (fun v42 wc => ∃ (kq : Nat) (x42_6 : Bool), v42 = .bool x42_6 ∧ Aside0 (qe_.j0 kq t237 t241 x42_6 l0_0 a1_0 a1_1 a1_2 a1_3 t234 t235 t238 t239 t242 t243 t245 t248 t249 = some r) ∧ Aside0 (kq ≤ k) ∧ Aside0 (Kd.V k47 47 wc w.heap.size (fun k_ => k_ ≠ gb232 ∧ k_ ≠ gb233 ∧ k_ ≠ gb236 ∧ k_ ≠ gb240 ∧ k_ ≠ gb244 ∧ k_ ≠ gb250 ∧ k_ ≠ gb251 ∧ k_ ≠ gb252) (.slice Ao37 t245.length co37) t245) ∧ Aside0 (wc.heap[gb232]? = some (.cells #[(.slice A0_0 l0_0.length c0_0)] 24 (0, 0))) ∧ Aside0 (wc.heap[gb233]? = some (.cells #[.int .i64 a1_0, .bool a1_1, .bool a1_2, .int .i64 a1_3] 26 (0, 0))) ∧ Aside0 (wc.heap[gb236]? = some (.cells #[.int .i64 t234, .int .i64 t235] 28 (0, 0))) ∧ Aside0 (wc.heap[gb240]? = some (.cells #[.int .i64 t238, .int .i64 t239] 28 (0, 0))) ∧ Aside0 (wc.heap[gb244]? = some (.cells #[.int .i64 t242, .int .i64 t243] 28 (0, 0))) ∧ Aside0 (wc.heap[gb250]? = some (.cells #[(.slice Ao37 t245.length co37)] 24 (0, 0))) ∧ Aside0 (wc.heap[gb251]? = some (.cells #[.int .i64 t248, .int .i64 t249] 28 (0, 0))) ∧ Aside0 (wc.heap[gb252]? = some (.cells #[(.slice none 0 0)] 24 (0, 0))) ∧ Aside0 (Below w.heap.size w wc))
 case first =>
  have H := HC7.out
  clear HC7
  replace H := Option.bind_eq_some_iff.mp H
  obtain ⟨t253, A600, H⟩ := H
  replace H : (if t253 = true then ((qw_.f k l0_0).bind fun bt254 => (qe_.j0 k t237 t241 (!(bt254.1 == t234) || (!(bt254.2 == t235))) l0_0 a1_0 a1_1 a1_2 a1_3 t234 t235 t238 t239 t242 t243 t245 t248 t249)) else (qe_.j0 k t237 t241 true l0_0 a1_0 a1_1 a1_2 a1_3 t234 t235 t238 t239 t242 t243 t245 t248 t249)) = some r := H
  have A60 := Aside0.mk A600
  clear A600
  by_cases c61 : t253 = true
  ·subst c61
   have H1 : ((qw_.f k l0_0).bind fun bt254 => (qe_.j0 k t237 t241 (!(bt254.1 == t234) || (!(bt254.2 == t235))) l0_0 a1_0 a1_1 a1_2 a1_3 t234 t235 t238 t239 t242 t243 t245 t248 t249)) = some r := by rw [if_pos rfl] at H; exact H
   clear H
   have H := H1
   clear H1
   replace H := Option.bind_eq_some_iff.mp H
   obtain ⟨⟨t254, t255⟩, A620, H⟩ := H
   replace H : (qe_.j0 k t237 t241 (!(t254 == t234) || (!(t255 == t235))) l0_0 a1_0 a1_1 a1_2 a1_3 t234 t235 t238 t239 t242 t243 t245 t248 t249) = some r := H
   have A62 := Aside0.mk A620
   clear A620
   have H' := Aside0.mk H
   clear H
   try go_wp2
   have n0_ : Aside0 (Kd.V k47 47 (w51.setCell ⟨gb252, 0, none⟩ (.slice none 0 0)) w.heap.size (fun k_ => k_ ≠ gb232 ∧ k_ ≠ gb233 ∧ k_ ≠ gb236 ∧ k_ ≠ gb240 ∧ k_ ≠ gb244 ∧ k_ ≠ gb250 ∧ k_ ≠ gb251 ∧ k_ ≠ gb252) (.slice Ao37 t245.length co37) t245) := ⟨by (with_reducible repeat (first | apply Kd.V_alloc | apply Kd.V_drewN | apply Kd.V_drew)); exact Kd.V_mono (Kd.V_far (p := ⟨gb252, 0, none⟩) (Kd.V_mono HO247.out (fun k_ hk => (⟨hk, hk.2⟩ : _ ∧ k_ ≠ gb252))) (fun _ hk => hk.2) (.slice none 0 0)) (fun _ hk => ⟨hk.1.1.1.1.1, ⟨hk.1.1.1.1.2.1, ⟨hk.1.1.1.1.2.2.1, ⟨hk.1.1.1.1.2.2.2.1, ⟨hk.1.1.1.1.2.2.2.2, ⟨hk.1.1.1.2, ⟨hk.1.1.2, hk.1.2⟩⟩⟩⟩⟩⟩⟩)⟩
   have n1_ : Aside0 ((w51.setCell ⟨gb252, 0, none⟩ (.slice none 0 0)).heap[gb232]? = some (.cells #[.slice A0_0 l0_0.length c0_0] 24 (0, 0))) := ⟨by (with_reducible repeat first | apply qa_ | apply qb_ | apply blk_alloc); refine qn_ ?_ NB232_252.out _; (with_reducible repeat first | apply qa_ | apply qb_ | apply blk_alloc); exact BK232.out⟩
   have n2_ : Aside0 ((w51.setCell ⟨gb252, 0, none⟩ (.slice none 0 0)).heap[gb233]? = some (.cells #[.int .i64 a1_0, .bool a1_1, .bool a1_2, .int .i64 a1_3] 26 (0, 0))) := ⟨by (with_reducible repeat first | apply qa_ | apply qb_ | apply blk_alloc); refine qn_ ?_ NB233_252.out _; (with_reducible repeat first | apply qa_ | apply qb_ | apply blk_alloc); exact BK233.out⟩
   have n3_ : Aside0 ((w51.setCell ⟨gb252, 0, none⟩ (.slice none 0 0)).heap[gb236]? = some (.cells #[.int .i64 t234, .int .i64 t235] 28 (0, 0))) := ⟨by (with_reducible repeat first | apply qa_ | apply qb_ | apply blk_alloc); refine qn_ ?_ NB236_252.out _; (with_reducible repeat first | apply qa_ | apply qb_ | apply blk_alloc); exact BK236.out⟩
   have n4_ : Aside0 ((w51.setCell ⟨gb252, 0, none⟩ (.slice none 0 0)).heap[gb240]? = some (.cells #[.int .i64 t238, .int .i64 t239] 28 (0, 0))) := ⟨by (with_reducible repeat first | apply qa_ | apply qb_ | apply blk_alloc); refine qn_ ?_ NB240_252.out _; (with_reducible repeat first | apply qa_ | apply qb_ | apply blk_alloc); exact BK240.out⟩
   have n5_ : Aside0 ((w51.setCell ⟨gb252, 0, none⟩ (.slice none 0 0)).heap[gb244]? = some (.cells #[.int .i64 t242, .int .i64 t243] 28 (0, 0))) := ⟨by (with_reducible repeat first | apply qa_ | apply qb_ | apply blk_alloc); refine qn_ ?_ NB244_252.out _; (with_reducible repeat first | apply qa_ | apply qb_ | apply blk_alloc); exact BK244.out⟩
   have n6_ : Aside0 ((w51.setCell ⟨gb252, 0, none⟩ (.slice none 0 0)).heap[gb250]? = some (.cells #[.slice Ao37 t245.length co37] 24 (0, 0))) := ⟨by (with_reducible repeat first | apply qa_ | apply qb_ | apply blk_alloc); refine qn_ ?_ NB250_252.out _; (with_reducible repeat first | apply qa_ | apply qb_ | apply blk_alloc); exact BK250.out⟩
   have n7_ : Aside0 ((w51.setCell ⟨gb252, 0, none⟩ (.slice none 0 0)).heap[gb251]? = some (.cells #[.int .i64 t248, .int .i64 t249] 28 (0, 0))) := ⟨by (with_reducible repeat first | apply qa_ | apply qb_ | apply blk_alloc); refine qn_ ?_ NB251_252.out _; (with_reducible repeat first | apply qa_ | apply qb_ | apply blk_alloc); exact BK251.out⟩
   have n8_ : Aside0 ((w51.setCell ⟨gb252, 0, none⟩ (.slice none 0 0)).heap[gb252]? = some (.cells #[.slice none 0 0] 24 (0, 0))) := ⟨by (with_reducible repeat first | apply qa_ | apply qb_ | apply blk_alloc); refine qA_ (cs := #[.slice none 0 0]) ?_ 0 _ rfl; (with_reducible repeat first | apply qa_ | apply qb_ | apply blk_alloc); exact BK252.out⟩
   have n9_ : Aside0 (Below w.heap.size w (w51.setCell ⟨gb252, 0, none⟩ (.slice none 0 0))) := ⟨by repeat (first | (with_reducible first | exact HB.out | apply qh_ | apply qc_ | apply qf_ | refine qk_ ?_ (by assumption)) | exact HB.out)⟩
   (try clear HO247)
   (try clear BK232)
   (try clear BK233)
   (try clear BK236)
   (try clear BK240)
   (try clear BK244)
   (try clear BK250)
   (try clear BK251)
   (try clear BK252)
   (try clear HB)
   generalize (w51.setCell ⟨gb252, 0, none⟩ (.slice none 0 0)) = w63 at n0_ n1_ n2_ n3_ n4_ n5_ n6_ n7_ n8_ n9_ ⊢
   have HO247 := n0_
   have BK232 := n1_
   have BK233 := n2_
   have BK236 := n3_
   have BK240 := n4_
   have BK244 := n5_
   have BK250 := n6_
   have BK251 := n7_
   have BK252 := n8_
   have HB := n9_
   clear n0_ n1_ n2_ n3_ n4_ n5_ n6_ n7_ n8_ n9_
   replace HO247 := Aside0.mk (Kd.V_drew HO247.out)
   replace BK232 := Aside0.mk (qb_ BK232.out)
   replace BK233 := Aside0.mk (qb_ BK233.out)
   replace BK236 := Aside0.mk (qb_ BK236.out)
   replace BK240 := Aside0.mk (qb_ BK240.out)
   replace BK244 := Aside0.mk (qb_ BK244.out)
   replace BK250 := Aside0.mk (qb_ BK250.out)
   replace BK251 := Aside0.mk (qb_ BK251.out)
   replace BK252 := Aside0.mk (qb_ BK252.out)
   replace HB := Aside0.mk (qf_ HB.out)
   refine start_ (n := 8) (S := fun w' => w'.cell? ⟨gb232, 0, none⟩ = some (.slice A0_0 l0_0.length c0_0) ∧ w'.cell? ⟨gb236, 0, none⟩ = some (.int .i64 t234) ∧ w'.cell? ⟨gb236, 1, none⟩ = some (.int .i64 t235)) (ds := []) #[false, false, false, false, false, false, false, false] (by kernel_rfl) rfl rfl ⟨(qm_ BK232.out 0).trans rfl, (qm_ BK236.out 0).trans rfl, (qm_ BK236.out 1).trans rfl⟩ (fun hHeld => ?_); refine with_tabW qe_.tab6 qe_.bits6 (fun HT_ HW_ => ?_)
   generalize w63.drew = w64 at HO247 BK232 BK233 BK236 BK240 BK244 BK250 BK251 BK252 HB hHeld ⊢
   refine one_ (i := 0) (N := some 35) #[true, false, false, false, false, false, false, false] rfl rfl (one_of HT_.out (by kernel_rfl)) (by decide) (fun K hK => ?_)
   refine goes_ Tryd.func12 (by kernel_rfl) rfl #[] (by rfl) rfl rfl (by (try simp only [List.map_toArray]); first | done | rfl) ?_
   with_reducible refine (qD_.calls k  true _ A60.out).mono ?_
   rintro e w65 ⟨rfl, hb⟩
   refine ⟨_, rfl, ?_⟩
   replace HO247 := Aside0.mk (Kd.V_below (by (with_reducible repeat (first | apply Kd.V_alloc | apply Kd.V_drewN | apply Kd.V_drew)); exact HO247.out) hb)
   replace BK232 := Aside0.mk (ql_ BK232 (by (with_reducible repeat first | apply qa_ | apply qb_ | apply blk_alloc); exact BK232.out) hb)
   replace BK233 := Aside0.mk (ql_ BK233 (by (with_reducible repeat first | apply qa_ | apply qb_ | apply blk_alloc); exact BK233.out) hb)
   replace BK236 := Aside0.mk (ql_ BK236 (by (with_reducible repeat first | apply qa_ | apply qb_ | apply blk_alloc); exact BK236.out) hb)
   replace BK240 := Aside0.mk (ql_ BK240 (by (with_reducible repeat first | apply qa_ | apply qb_ | apply blk_alloc); exact BK240.out) hb)
   replace BK244 := Aside0.mk (ql_ BK244 (by (with_reducible repeat first | apply qa_ | apply qb_ | apply blk_alloc); exact BK244.out) hb)
   replace BK250 := Aside0.mk (ql_ BK250 (by (with_reducible repeat first | apply qa_ | apply qb_ | apply blk_alloc); exact BK250.out) hb)
   replace BK251 := Aside0.mk (ql_ BK251 (by (with_reducible repeat first | apply qa_ | apply qb_ | apply blk_alloc); exact BK251.out) hb)
   replace BK252 := Aside0.mk (ql_ BK252 (by (with_reducible repeat first | apply qa_ | apply qb_ | apply blk_alloc); exact BK252.out) hb)
   replace HB := Aside0.mk (qq_ (by repeat (first | (with_reducible first | exact HB.out | apply qh_ | apply qc_ | apply qf_ | refine qk_ ?_ (by assumption)) | exact HB.out)) hb)
   (try clear hb)
   refine hK.out _ _ ⟨(qm_ BK232.out 0).trans rfl, (qm_ BK236.out 0).trans rfl, (qm_ BK236.out 1).trans rfl⟩ (fun hHeld => ?_)
   clear hK K
   refine norm_ (a' := ?_) ?_ ?_
   rotate_left
   ·show Act.put _ (some 35) _ = _
    simp only [Act.put, List.setIfInBounds_toArray, List.set_cons_zero, List.set_cons_succ, i64_w, i32_w]
    rfl
   refine pure_ (i := 1) (N := some 36) (v := ?_) (a' := ?_) #[true, true, false, false, false, false, false, false] rfl rfl (any_of HT_.out (by kernel_rfl)) (fun _ _ _ h => h) (Or.inl ⟨by rfl, ?_⟩) ?_ ?_
   rotate_left
   ·intro w'
    go_simp
    with_reducible rfl
   rotate_left
   ·simp only [Act.put, List.setIfInBounds_toArray, List.set_cons_zero, List.set_cons_succ, i64_w, i32_w]
    rfl
   refine pure_ (i := 2) (N := some 37) (v := ?_) (a' := ?_) #[true, true, true, false, false, false, false, false] rfl rfl (any_of HT_.out (by kernel_rfl)) (fun _ _ _ h => h) (Or.inl ⟨by rfl, ?_⟩) ?_ ?_
   rotate_left
   ·intro w'
    go_simp
    with_reducible rfl
   rotate_left
   ·simp only [Act.put, List.setIfInBounds_toArray, List.set_cons_zero, List.set_cons_succ, i64_w, i32_w]
    rfl
   refine take_ (i := 3) (N := some 38) (v := ?_) (a' := ?_) #[true, true, true, true, false, false, false, false] rfl rfl (take_ofW HT_.out HW_.out (by kernel_rfl)) (fun _ _ _ h => h) (Or.inl ⟨by rfl, ?_⟩) hHeld ?_ ?_
   rotate_left
   ·rintro w' ⟨s0, s1, s2⟩
    go_simp
    with_reducible rfl
   rotate_left
   ·simp only [Act.put, List.setIfInBounds_toArray, List.set_cons_zero, List.set_cons_succ, i64_w, i32_w]
    rfl
   refine take_ (i := 5) (N := some 40) (v := ?_) (a' := ?_) #[true, true, true, true, false, true, false, false] rfl rfl (take_ofW HT_.out HW_.out (by kernel_rfl)) (fun _ _ _ h => h) (Or.inl ⟨by rfl, ?_⟩) hHeld ?_ ?_
   rotate_left
   ·rintro w' ⟨s0, s1, s2⟩
    go_simp
    with_reducible rfl
   rotate_left
   ·simp only [Act.put, List.setIfInBounds_toArray, List.set_cons_zero, List.set_cons_succ, i64_w, i32_w]
    rfl
   refine one_ (i := 4) (N := some 39) #[true, true, true, true, true, true, false, false] rfl rfl (one_of HT_.out (by kernel_rfl)) (by decide) (fun K hK => ?_)
   refine goes_ Tryd.func13 (by kernel_rfl) rfl #[.agg #[.slice A0_0 l0_0.length c0_0]] (by rfl) rfl rfl (by (try simp only [List.map_toArray]); first | done | rfl) ?_
   with_reducible refine (qw_.calls k _ _ l0_0 t254 t255 _ ?side1 ?side2 A62.out).mono ?_
   (case side1 => repeat (first | exact (Kd.C_below HR0_0.out HB.out) | (with_reducible refine Kd.C_alloc ?_ _) | (with_reducible refine Kd.C_drewN ?_ _) | (with_reducible refine Kd.C_drew ?_)))
   (case side2 => exact HC0_0.out)
   rintro e w66 ⟨rfl, hb⟩
   refine ⟨_, rfl, ?_⟩
   replace HO247 := Aside0.mk (Kd.V_below (by (with_reducible repeat (first | apply Kd.V_alloc | apply Kd.V_drewN | apply Kd.V_drew)); exact HO247.out) hb)
   replace BK232 := Aside0.mk (ql_ BK232 (by (with_reducible repeat first | apply qa_ | apply qb_ | apply blk_alloc); exact BK232.out) hb)
   replace BK233 := Aside0.mk (ql_ BK233 (by (with_reducible repeat first | apply qa_ | apply qb_ | apply blk_alloc); exact BK233.out) hb)
   replace BK236 := Aside0.mk (ql_ BK236 (by (with_reducible repeat first | apply qa_ | apply qb_ | apply blk_alloc); exact BK236.out) hb)
   replace BK240 := Aside0.mk (ql_ BK240 (by (with_reducible repeat first | apply qa_ | apply qb_ | apply blk_alloc); exact BK240.out) hb)
   replace BK244 := Aside0.mk (ql_ BK244 (by (with_reducible repeat first | apply qa_ | apply qb_ | apply blk_alloc); exact BK244.out) hb)
   replace BK250 := Aside0.mk (ql_ BK250 (by (with_reducible repeat first | apply qa_ | apply qb_ | apply blk_alloc); exact BK250.out) hb)
   replace BK251 := Aside0.mk (ql_ BK251 (by (with_reducible repeat first | apply qa_ | apply qb_ | apply blk_alloc); exact BK251.out) hb)
   replace BK252 := Aside0.mk (ql_ BK252 (by (with_reducible repeat first | apply qa_ | apply qb_ | apply blk_alloc); exact BK252.out) hb)
   replace HB := Aside0.mk (qq_ (by repeat (first | (with_reducible first | exact HB.out | apply qh_ | apply qc_ | apply qf_ | refine qk_ ?_ (by assumption)) | exact HB.out)) hb)
   (try clear hb)
   refine hK.out _ _ ⟨(qm_ BK232.out 0).trans rfl, (qm_ BK236.out 0).trans rfl, (qm_ BK236.out 1).trans rfl⟩ (fun hHeld => ?_)
   clear hK K
   refine norm_ (a' := ?_) ?_ ?_
   rotate_left
   ·show Act.put _ (some 39) _ = _
    simp only [Act.put, List.setIfInBounds_toArray, List.set_cons_zero, List.set_cons_succ, i64_w, i32_w]
    rfl
   refine pure_ (i := 6) (N := some 41) (v := ?_) (a' := ?_) #[true, true, true, true, true, true, true, false] rfl rfl (any_of HT_.out (by kernel_rfl)) (fun _ _ _ h => h) (Or.inl ⟨by rfl, ?_⟩) ?_ ?_
   rotate_left
   ·intro w'
    go_simp
    with_reducible rfl
   rotate_left
   ·simp only [Act.put, List.setIfInBounds_toArray, List.set_cons_zero, List.set_cons_succ, i64_w, i32_w]
    rfl
   refine pure_ (i := 7) (N := some 42) (v := ?_) (a' := ?_) #[true, true, true, true, true, true, true, true] rfl rfl (any_of HT_.out (by kernel_rfl)) (fun _ _ _ h => h) (Or.inl ⟨by rfl, ?_⟩) ?_ ?_
   rotate_left
   ·intro w'
    go_simp
    with_reducible rfl
   rotate_left
   ·simp only [Act.put, List.setIfInBounds_toArray, List.set_cons_zero, List.set_cons_succ, i64_w, i32_w]
    rfl
   refine done_ (done_of HT_.out (by kernel_rfl)) ?_
   try go_wp2
   go_meet
   case rel => exact ⟨_, ((!(t254 == t234) || (!(t255 == t235)))), (by first | rfl | (simp [*]; done)), H', ⟨by first | omega | exact Nat.le_refl _⟩, ⟨by (with_reducible repeat (first | apply Kd.V_alloc | apply Kd.V_drewN | apply Kd.V_drew)); exact HO247.out⟩, ⟨by (with_reducible repeat first | apply qa_ | apply qb_ | apply blk_alloc); exact BK232.out⟩, ⟨by (with_reducible repeat first | apply qa_ | apply qb_ | apply blk_alloc); exact BK233.out⟩, ⟨by (with_reducible repeat first | apply qa_ | apply qb_ | apply blk_alloc); exact BK236.out⟩, ⟨by (with_reducible repeat first | apply qa_ | apply qb_ | apply blk_alloc); exact BK240.out⟩, ⟨by (with_reducible repeat first | apply qa_ | apply qb_ | apply blk_alloc); exact BK244.out⟩, ⟨by (with_reducible repeat first | apply qa_ | apply qb_ | apply blk_alloc); exact BK250.out⟩, ⟨by (with_reducible repeat first | apply qa_ | apply qb_ | apply blk_alloc); exact BK251.out⟩, ⟨by (with_reducible repeat first | apply qa_ | apply qb_ | apply blk_alloc); exact BK252.out⟩, ⟨by repeat (first | (with_reducible first | exact HB.out | apply qh_ | apply qc_ | apply qf_ | refine qk_ ?_ (by assumption)) | exact HB.out)⟩⟩
  ·replace c61 := Bool.eq_false_iff.mpr c61
   subst c61
   have H1 : (qe_.j0 k t237 t241 true l0_0 a1_0 a1_1 a1_2 a1_3 t234 t235 t238 t239 t242 t243 t245 t248 t249) = some r := by rw [if_neg (show ¬ (false = true) by decide)] at H; exact H
   clear H
   have H := H1
   clear H1
   have H' := Aside0.mk H
   clear H
   try go_wp2
   have n0_ : Aside0 (Kd.V k47 47 (w51.setCell ⟨gb252, 0, none⟩ (.slice none 0 0)) w.heap.size (fun k_ => k_ ≠ gb232 ∧ k_ ≠ gb233 ∧ k_ ≠ gb236 ∧ k_ ≠ gb240 ∧ k_ ≠ gb244 ∧ k_ ≠ gb250 ∧ k_ ≠ gb251 ∧ k_ ≠ gb252) (.slice Ao37 t245.length co37) t245) := ⟨by (with_reducible repeat (first | apply Kd.V_alloc | apply Kd.V_drewN | apply Kd.V_drew)); exact Kd.V_mono (Kd.V_far (p := ⟨gb252, 0, none⟩) (Kd.V_mono HO247.out (fun k_ hk => (⟨hk, hk.2⟩ : _ ∧ k_ ≠ gb252))) (fun _ hk => hk.2) (.slice none 0 0)) (fun _ hk => ⟨hk.1.1.1.1.1, ⟨hk.1.1.1.1.2.1, ⟨hk.1.1.1.1.2.2.1, ⟨hk.1.1.1.1.2.2.2.1, ⟨hk.1.1.1.1.2.2.2.2, ⟨hk.1.1.1.2, ⟨hk.1.1.2, hk.1.2⟩⟩⟩⟩⟩⟩⟩)⟩
   have n1_ : Aside0 ((w51.setCell ⟨gb252, 0, none⟩ (.slice none 0 0)).heap[gb232]? = some (.cells #[.slice A0_0 l0_0.length c0_0] 24 (0, 0))) := ⟨by (with_reducible repeat first | apply qa_ | apply qb_ | apply blk_alloc); refine qn_ ?_ NB232_252.out _; (with_reducible repeat first | apply qa_ | apply qb_ | apply blk_alloc); exact BK232.out⟩
   have n2_ : Aside0 ((w51.setCell ⟨gb252, 0, none⟩ (.slice none 0 0)).heap[gb233]? = some (.cells #[.int .i64 a1_0, .bool a1_1, .bool a1_2, .int .i64 a1_3] 26 (0, 0))) := ⟨by (with_reducible repeat first | apply qa_ | apply qb_ | apply blk_alloc); refine qn_ ?_ NB233_252.out _; (with_reducible repeat first | apply qa_ | apply qb_ | apply blk_alloc); exact BK233.out⟩
   have n3_ : Aside0 ((w51.setCell ⟨gb252, 0, none⟩ (.slice none 0 0)).heap[gb236]? = some (.cells #[.int .i64 t234, .int .i64 t235] 28 (0, 0))) := ⟨by (with_reducible repeat first | apply qa_ | apply qb_ | apply blk_alloc); refine qn_ ?_ NB236_252.out _; (with_reducible repeat first | apply qa_ | apply qb_ | apply blk_alloc); exact BK236.out⟩
   have n4_ : Aside0 ((w51.setCell ⟨gb252, 0, none⟩ (.slice none 0 0)).heap[gb240]? = some (.cells #[.int .i64 t238, .int .i64 t239] 28 (0, 0))) := ⟨by (with_reducible repeat first | apply qa_ | apply qb_ | apply blk_alloc); refine qn_ ?_ NB240_252.out _; (with_reducible repeat first | apply qa_ | apply qb_ | apply blk_alloc); exact BK240.out⟩
   have n5_ : Aside0 ((w51.setCell ⟨gb252, 0, none⟩ (.slice none 0 0)).heap[gb244]? = some (.cells #[.int .i64 t242, .int .i64 t243] 28 (0, 0))) := ⟨by (with_reducible repeat first | apply qa_ | apply qb_ | apply blk_alloc); refine qn_ ?_ NB244_252.out _; (with_reducible repeat first | apply qa_ | apply qb_ | apply blk_alloc); exact BK244.out⟩
   have n6_ : Aside0 ((w51.setCell ⟨gb252, 0, none⟩ (.slice none 0 0)).heap[gb250]? = some (.cells #[.slice Ao37 t245.length co37] 24 (0, 0))) := ⟨by (with_reducible repeat first | apply qa_ | apply qb_ | apply blk_alloc); refine qn_ ?_ NB250_252.out _; (with_reducible repeat first | apply qa_ | apply qb_ | apply blk_alloc); exact BK250.out⟩
   have n7_ : Aside0 ((w51.setCell ⟨gb252, 0, none⟩ (.slice none 0 0)).heap[gb251]? = some (.cells #[.int .i64 t248, .int .i64 t249] 28 (0, 0))) := ⟨by (with_reducible repeat first | apply qa_ | apply qb_ | apply blk_alloc); refine qn_ ?_ NB251_252.out _; (with_reducible repeat first | apply qa_ | apply qb_ | apply blk_alloc); exact BK251.out⟩
   have n8_ : Aside0 ((w51.setCell ⟨gb252, 0, none⟩ (.slice none 0 0)).heap[gb252]? = some (.cells #[.slice none 0 0] 24 (0, 0))) := ⟨by (with_reducible repeat first | apply qa_ | apply qb_ | apply blk_alloc); refine qA_ (cs := #[.slice none 0 0]) ?_ 0 _ rfl; (with_reducible repeat first | apply qa_ | apply qb_ | apply blk_alloc); exact BK252.out⟩
   have n9_ : Aside0 (Below w.heap.size w (w51.setCell ⟨gb252, 0, none⟩ (.slice none 0 0))) := ⟨by repeat (first | (with_reducible first | exact HB.out | apply qh_ | apply qc_ | apply qf_ | refine qk_ ?_ (by assumption)) | exact HB.out)⟩
   (try clear HO247)
   (try clear BK232)
   (try clear BK233)
   (try clear BK236)
   (try clear BK240)
   (try clear BK244)
   (try clear BK250)
   (try clear BK251)
   (try clear BK252)
   (try clear HB)
   generalize (w51.setCell ⟨gb252, 0, none⟩ (.slice none 0 0)) = w67 at n0_ n1_ n2_ n3_ n4_ n5_ n6_ n7_ n8_ n9_ ⊢
   have HO247 := n0_
   have BK232 := n1_
   have BK233 := n2_
   have BK236 := n3_
   have BK240 := n4_
   have BK244 := n5_
   have BK250 := n6_
   have BK251 := n7_
   have BK252 := n8_
   have HB := n9_
   clear n0_ n1_ n2_ n3_ n4_ n5_ n6_ n7_ n8_ n9_
   replace HO247 := Aside0.mk (Kd.V_drew HO247.out)
   replace BK232 := Aside0.mk (qb_ BK232.out)
   replace BK233 := Aside0.mk (qb_ BK233.out)
   replace BK236 := Aside0.mk (qb_ BK236.out)
   replace BK240 := Aside0.mk (qb_ BK240.out)
   replace BK244 := Aside0.mk (qb_ BK244.out)
   replace BK250 := Aside0.mk (qb_ BK250.out)
   replace BK251 := Aside0.mk (qb_ BK251.out)
   replace BK252 := Aside0.mk (qb_ BK252.out)
   replace HB := Aside0.mk (qf_ HB.out)
   refine start_ (n := 8) (S := fun w' => True) (ds := []) #[false, false, false, false, false, false, false, false] (by kernel_rfl) rfl rfl trivial (fun hHeld => ?_); refine with_tabW qe_.tab6 qe_.bits6 (fun HT_ HW_ => ?_)
   generalize w67.drew = w68 at HO247 BK232 BK233 BK236 BK240 BK244 BK250 BK251 BK252 HB hHeld ⊢
   refine one_ (i := 0) (N := some 35) #[true, false, false, false, false, false, false, false] rfl rfl (one_of HT_.out (by kernel_rfl)) (by decide) (fun K hK => ?_)
   refine goes_ Tryd.func12 (by kernel_rfl) rfl #[] (by rfl) rfl rfl (by (try simp only [List.map_toArray]); first | done | rfl) ?_
   with_reducible refine (qD_.calls k  false _ A60.out).mono ?_
   rintro e w69 ⟨rfl, hb⟩
   refine ⟨_, rfl, ?_⟩
   replace HO247 := Aside0.mk (Kd.V_below (by (with_reducible repeat (first | apply Kd.V_alloc | apply Kd.V_drewN | apply Kd.V_drew)); exact HO247.out) hb)
   replace BK232 := Aside0.mk (ql_ BK232 (by (with_reducible repeat first | apply qa_ | apply qb_ | apply blk_alloc); exact BK232.out) hb)
   replace BK233 := Aside0.mk (ql_ BK233 (by (with_reducible repeat first | apply qa_ | apply qb_ | apply blk_alloc); exact BK233.out) hb)
   replace BK236 := Aside0.mk (ql_ BK236 (by (with_reducible repeat first | apply qa_ | apply qb_ | apply blk_alloc); exact BK236.out) hb)
   replace BK240 := Aside0.mk (ql_ BK240 (by (with_reducible repeat first | apply qa_ | apply qb_ | apply blk_alloc); exact BK240.out) hb)
   replace BK244 := Aside0.mk (ql_ BK244 (by (with_reducible repeat first | apply qa_ | apply qb_ | apply blk_alloc); exact BK244.out) hb)
   replace BK250 := Aside0.mk (ql_ BK250 (by (with_reducible repeat first | apply qa_ | apply qb_ | apply blk_alloc); exact BK250.out) hb)
   replace BK251 := Aside0.mk (ql_ BK251 (by (with_reducible repeat first | apply qa_ | apply qb_ | apply blk_alloc); exact BK251.out) hb)
   replace BK252 := Aside0.mk (ql_ BK252 (by (with_reducible repeat first | apply qa_ | apply qb_ | apply blk_alloc); exact BK252.out) hb)
   replace HB := Aside0.mk (qq_ (by repeat (first | (with_reducible first | exact HB.out | apply qh_ | apply qc_ | apply qf_ | refine qk_ ?_ (by assumption)) | exact HB.out)) hb)
   (try clear hb)
   refine hK.out _ _ trivial (fun hHeld => ?_)
   clear hK K
   refine norm_ (a' := ?_) ?_ ?_
   rotate_left
   ·show Act.put _ (some 35) _ = _
    simp only [Act.put, List.setIfInBounds_toArray, List.set_cons_zero, List.set_cons_succ, i64_w, i32_w]
    rfl
   refine pure_ (i := 1) (N := some 36) (v := ?_) (a' := ?_) #[true, true, false, false, false, false, false, false] rfl rfl (any_of HT_.out (by kernel_rfl)) (fun _ _ _ h => h) (Or.inl ⟨by rfl, ?_⟩) ?_ ?_
   rotate_left
   ·intro w'
    go_simp
    with_reducible rfl
   rotate_left
   ·simp only [Act.put, List.setIfInBounds_toArray, List.set_cons_zero, List.set_cons_succ, i64_w, i32_w]
    rfl
   refine pure_ (i := 2) (N := some 37) (v := ?_) (a' := ?_) #[true, true, true, false, false, false, false, false] rfl rfl (any_of HT_.out (by kernel_rfl)) (fun _ _ _ h => h) (Or.inl ⟨by rfl, ?_⟩) ?_ ?_
   rotate_left
   ·intro w'
    go_simp
    with_reducible rfl
   rotate_left
   ·simp only [Act.put, List.setIfInBounds_toArray, List.set_cons_zero, List.set_cons_succ, i64_w, i32_w]
    rfl
   refine pure_ (i := 3) (N := some 38) (v := undef) (a' := ?_) #[true, true, true, true, false, false, false, false] rfl rfl (any_of HT_.out (by kernel_rfl)) (fun _ _ _ h => h) (Or.inr ⟨by rfl, rfl⟩) ?_ ?_
   rotate_left
   ·simp only [Act.put, List.setIfInBounds_toArray, List.set_cons_zero, List.set_cons_succ, i64_w, i32_w]
    rfl
   refine pure_ (i := 4) (N := some 39) (v := undef) (a' := ?_) #[true, true, true, true, true, false, false, false] rfl rfl (any_of HT_.out (by kernel_rfl)) (fun _ _ _ h => h) (Or.inr ⟨by rfl, rfl⟩) ?_ ?_
   rotate_left
   ·simp only [Act.put, List.setIfInBounds_toArray, List.set_cons_zero, List.set_cons_succ, i64_w, i32_w]
    rfl
   refine pure_ (i := 5) (N := some 40) (v := undef) (a' := ?_) #[true, true, true, true, true, true, false, false] rfl rfl (any_of HT_.out (by kernel_rfl)) (fun _ _ _ h => h) (Or.inr ⟨by rfl, rfl⟩) ?_ ?_
   rotate_left
   ·simp only [Act.put, List.setIfInBounds_toArray, List.set_cons_zero, List.set_cons_succ, i64_w, i32_w]
    rfl
   refine pure_ (i := 6) (N := some 41) (v := undef) (a' := ?_) #[true, true, true, true, true, true, true, false] rfl rfl (any_of HT_.out (by kernel_rfl)) (fun _ _ _ h => h) (Or.inr ⟨by rfl, rfl⟩) ?_ ?_
   rotate_left
   ·simp only [Act.put, List.setIfInBounds_toArray, List.set_cons_zero, List.set_cons_succ, i64_w, i32_w]
    rfl
   refine pure_ (i := 7) (N := some 42) (v := ?_) (a' := ?_) #[true, true, true, true, true, true, true, true] rfl rfl (any_of HT_.out (by kernel_rfl)) (fun _ _ _ h => h) (Or.inl ⟨by rfl, ?_⟩) ?_ ?_
   rotate_left
   ·intro w'
    go_simp
    with_reducible rfl
   rotate_left
   ·simp only [Act.put, List.setIfInBounds_toArray, List.set_cons_zero, List.set_cons_succ, i64_w, i32_w]
    rfl
   refine done_ (done_of HT_.out (by kernel_rfl)) ?_
   try go_wp2
   go_meet
   case rel => exact ⟨_, (true), (by first | rfl | (simp [*]; done)), H', ⟨by first | omega | exact Nat.le_refl _⟩, ⟨by (with_reducible repeat (first | apply Kd.V_alloc | apply Kd.V_drewN | apply Kd.V_drew)); exact HO247.out⟩, ⟨by (with_reducible repeat first | apply qa_ | apply qb_ | apply blk_alloc); exact BK232.out⟩, ⟨by (with_reducible repeat first | apply qa_ | apply qb_ | apply blk_alloc); exact BK233.out⟩, ⟨by (with_reducible repeat first | apply qa_ | apply qb_ | apply blk_alloc); exact BK236.out⟩, ⟨by (with_reducible repeat first | apply qa_ | apply qb_ | apply blk_alloc); exact BK240.out⟩, ⟨by (with_reducible repeat first | apply qa_ | apply qb_ | apply blk_alloc); exact BK244.out⟩, ⟨by (with_reducible repeat first | apply qa_ | apply qb_ | apply blk_alloc); exact BK250.out⟩, ⟨by (with_reducible repeat first | apply qa_ | apply qb_ | apply blk_alloc); exact BK251.out⟩, ⟨by (with_reducible repeat first | apply qa_ | apply qb_ | apply blk_alloc); exact BK252.out⟩, ⟨by repeat (first | (with_reducible first | exact HB.out | apply qh_ | apply qc_ | apply qf_ | refine qk_ ?_ (by assumption)) | exact HB.out)⟩⟩
 case rest =>
  clear HC7
  obtain ⟨kq, x42_6, rfl, HA, HJ6, HO_251000, BK232, BK233, BK236, BK240, BK244, BK250, BK251, BK252, HB⟩ := hcut
  cases kq with
  | zero => exact absurd HA.out (by simp [qe_.j0])
  | succ kj6 =>
   have H := HA.out
   clear HA
   simp only [qe_.j0] at H
   by_cases c70 : x42_6 = true
   ·subst c70
    have H1 : (none) = some r := by rw [if_pos rfl] at H; exact H
    clear H
    have H := H1
    clear H1
    exact absurd H (by simp)
   ·replace c70 := Bool.eq_false_iff.mpr c70
    subst c70
    have H1 : (if t234 = 0 then ((qi_.f kj6 l0_0 (wrap64 ((l0_0.length : Int) - 1)) 7).bind fun t257 => (if (t257.size : Int) > 200 then ((qF_.f 10 (-1)).bind fun bt258 => (if (t238 == bt258.1 && (t239 == bt258.2)) = true then (if t237.toList = ([] : List UInt8) then (qe_.j1 kj6 t241 (wrap64 ((l0_0.length : Int) - 1)) l0_0 a1_0 a1_1 a1_2 a1_3 t242 t243 t245 t248 t249) else (none)) else (none))) else (if t238 = 0 then (if t237.toList = t257.toList then (qe_.j1 kj6 t241 (wrap64 ((l0_0.length : Int) - 1)) l0_0 a1_0 a1_1 a1_2 a1_3 t242 t243 t245 t248 t249) else (none)) else (none)))) else (if (t238 == t234 && (t239 == t235)) = true then (if (t242 == t234 && (t243 == t235)) = true then (if (t248 == t234 && (t249 == t235)) = true then (if t237.toList = ([] : List UInt8) then (if t241 = true then (none) else ((qp_.f kj6 t245 ([] : List (S47))).bind fun t256 => (some t256))) else (none)) else (none)) else (none)) else (none))) = some r := by rw [if_neg (show ¬ (false = true) by decide)] at H; exact H
    clear H
    have H := H1
    clear H1
    by_cases c71 : t234 = 0
    ·rw [if_pos c71] at H
     have c71b0 : (t234 == 0) = true := beq_iff_eq.mpr c71
     have c71b1 : (t234 != 0) = false := bne_eq_false_iff_eq.mpr c71
     clear c71
     replace H := Option.bind_eq_some_iff.mp H
     obtain ⟨t257, A720, H⟩ := H
     replace H : (if (t257.size : Int) > 200 then ((qF_.f 10 (-1)).bind fun bt258 => (if (t238 == bt258.1 && (t239 == bt258.2)) = true then (if t237.toList = ([] : List UInt8) then (qe_.j1 kj6 t241 (wrap64 ((l0_0.length : Int) - 1)) l0_0 a1_0 a1_1 a1_2 a1_3 t242 t243 t245 t248 t249) else (none)) else (none))) else (if t238 = 0 then (if t237.toList = t257.toList then (qe_.j1 kj6 t241 (wrap64 ((l0_0.length : Int) - 1)) l0_0 a1_0 a1_1 a1_2 a1_3 t242 t243 t245 t248 t249) else (none)) else (none))) = some r := H
     have A72 := Aside0.mk A720
     clear A720
     have HC73 := Aside0.mk H
     clear H
     have hcz81_0 := qg_ BK236 0 (.int .i64 t234) rfl
     have hcz81_1 := qg_ BK236 1 (.int .i64 t235) rfl
     have hfz81_0 := qd_ BK236 0
     have hfz81_1 := qd_ BK236 1
     have hcz88_0 := qg_ BK232 0 (.slice A0_0 l0_0.length c0_0) rfl
     have hfz88_0 := qd_ BK232 0
     go_upto_if 81 with (first | ((with_reducible refine qs_ (f := 15) rfl ?_); refine goesL_ (some 78) rfl rfl Tryd.func15 (by kernel_rfl) rfl #[.agg #[.slice A0_0 l0_0.length c0_0], .int .i64 (wrap64 ((l0_0.length : Int) - 1)), .int .i64 7] rfl (by (try simp only [List.map_toArray]); first | done | rfl) ?_; (with_reducible refine (qi_.calls kj6 _ _ l0_0 (wrap64 ((l0_0.length : Int) - 1)) 7 t257 _ ?side1 ?side2 A72.out).mono ?_); (case side1 => repeat (first | exact (Kd.C_below HR0_0.out HB.out) | (with_reducible refine Kd.C_alloc ?_ _) | (with_reducible refine Kd.C_drewN ?_ _) | (with_reducible refine Kd.C_drew ?_))); (case side2 => exact HC0_0.out); rintro e w89 ⟨rfl, hb⟩; refine ⟨_, rfl, ?_⟩; replace HO_251000 := Aside0.mk (Kd.V_below (by (with_reducible repeat (first | apply Kd.V_alloc | apply Kd.V_drewN | apply Kd.V_drew)); exact HO_251000.out) hb); replace BK232 := Aside0.mk (ql_ BK232 (by (with_reducible repeat first | apply qa_ | apply qb_ | apply blk_alloc); exact BK232.out) hb); replace BK233 := Aside0.mk (ql_ BK233 (by (with_reducible repeat first | apply qa_ | apply qb_ | apply blk_alloc); exact BK233.out) hb); replace BK236 := Aside0.mk (ql_ BK236 (by (with_reducible repeat first | apply qa_ | apply qb_ | apply blk_alloc); exact BK236.out) hb); replace BK240 := Aside0.mk (ql_ BK240 (by (with_reducible repeat first | apply qa_ | apply qb_ | apply blk_alloc); exact BK240.out) hb); replace BK244 := Aside0.mk (ql_ BK244 (by (with_reducible repeat first | apply qa_ | apply qb_ | apply blk_alloc); exact BK244.out) hb); replace BK250 := Aside0.mk (ql_ BK250 (by (with_reducible repeat first | apply qa_ | apply qb_ | apply blk_alloc); exact BK250.out) hb); replace BK251 := Aside0.mk (ql_ BK251 (by (with_reducible repeat first | apply qa_ | apply qb_ | apply blk_alloc); exact BK251.out) hb); replace BK252 := Aside0.mk (ql_ BK252 (by (with_reducible repeat first | apply qa_ | apply qb_ | apply blk_alloc); exact BK252.out) hb); replace HB := Aside0.mk (qq_ (by repeat (first | (with_reducible first | exact HB.out | apply qh_ | apply qc_ | apply qf_ | refine qk_ ?_ (by assumption)) | exact HB.out)) hb); (try clear hb)))
     (try simp only [Act.put, List.setIfInBounds_toArray, List.set_cons_zero, List.set_cons_succ])
     go_cut [] (fun wc => ∃ (kq : Nat), Aside0 (qe_.j1 kq t241 (wrap64 ((l0_0.length : Int) - 1)) l0_0 a1_0 a1_1 a1_2 a1_3 t242 t243 t245 t248 t249 = some r) ∧ Aside0 (kq ≤ kj6) ∧ Aside0 (Kd.V k47 47 wc w.heap.size (fun k_ => k_ ≠ gb232 ∧ k_ ≠ gb233 ∧ k_ ≠ gb236 ∧ k_ ≠ gb240 ∧ k_ ≠ gb244 ∧ k_ ≠ gb250 ∧ k_ ≠ gb251 ∧ k_ ≠ gb252) (.slice Ao37 t245.length co37) t245) ∧ Aside0 (wc.heap[gb232]? = some (.cells #[(.slice A0_0 l0_0.length c0_0)] 24 (0, 0))) ∧ Aside0 (wc.heap[gb233]? = some (.cells #[.int .i64 a1_0, .bool a1_1, .bool a1_2, .int .i64 a1_3] 26 (0, 0))) ∧ Aside0 (wc.heap[gb236]? = some (.cells #[.int .i64 t234, .int .i64 t235] 28 (0, 0))) ∧ Aside0 (wc.heap[gb240]? = some (.cells #[.int .i64 t238, .int .i64 t239] 28 (0, 0))) ∧ Aside0 (wc.heap[gb244]? = some (.cells #[.int .i64 t242, .int .i64 t243] 28 (0, 0))) ∧ Aside0 (wc.heap[gb250]? = some (.cells #[(.slice Ao37 t245.length co37)] 24 (0, 0))) ∧ Aside0 (wc.heap[gb251]? = some (.cells #[.int .i64 t248, .int .i64 t249] 28 (0, 0))) ∧ Aside0 (wc.heap[gb252]? = some (.cells #[(.slice none 0 0)] 24 (0, 0))) ∧ Aside0 (Below w.heap.size w wc))
     case first =>
      have H := HC73.out
      clear HC73
      by_cases c90 : (t257.size : Int) > 200
      ·rw [if_pos c90] at H
       have c90b0 : decide (200 < (t257.size : Int)) = true := decide_eq_true c90
       have c90b1 : decide (200 < t257.size) = true := decide_eq_true (by omega)
       clear c90
       (first | rw [c90b0] | (simp only [i64_w, i32_w]; rw [c90b0]) | skip)
       replace H := Option.bind_eq_some_iff.mp H
       obtain ⟨⟨t258, t259⟩, A910, H⟩ := H
       replace H : (if (t238 == t258 && (t239 == t259)) = true then (if t237.toList = ([] : List UInt8) then (qe_.j1 kj6 t241 (wrap64 ((l0_0.length : Int) - 1)) l0_0 a1_0 a1_1 a1_2 a1_3 t242 t243 t245 t248 t249) else (none)) else (none)) = some r := H
       have A91 := Aside0.mk A910
       clear A910
       by_cases c92 : (t238 == t258 && (t239 == t259)) = true
       ·rw [if_pos c92] at H
        have c92b0 : (t238 == t258 && (t239 == t259)) = true := c92
        (try (have c92b1 : decide (t238 = t258 && (t239 == t259)) = true := by simpa using c92))
        (try (have c92b2 : (t238 == t258 && (t239 == t259)) = true := by simpa using c92))
        clear c92
        by_cases c93 : t237.toList = ([] : List UInt8)
        ·rw [if_pos c93] at H
         have c93b0 : (t237.toList == ([] : List UInt8)) = true := beq_iff_eq.mpr c93
         have c93b1 : (t237.toList != ([] : List UInt8)) = false := bne_eq_false_iff_eq.mpr c93
         clear c93
         have H' := Aside0.mk H
         clear H
         try go_wp2
         replace HO_251000 := Aside0.mk (Kd.V_drew HO_251000.out)
         replace BK232 := Aside0.mk (qb_ BK232.out)
         replace BK233 := Aside0.mk (qb_ BK233.out)
         replace BK236 := Aside0.mk (qb_ BK236.out)
         replace BK240 := Aside0.mk (qb_ BK240.out)
         replace BK244 := Aside0.mk (qb_ BK244.out)
         replace BK250 := Aside0.mk (qb_ BK250.out)
         replace BK251 := Aside0.mk (qb_ BK251.out)
         replace BK252 := Aside0.mk (qb_ BK252.out)
         replace HB := Aside0.mk (qf_ HB.out)
         refine start_ (n := 7) (S := fun w' => w'.cell? ⟨gb240, 0, none⟩ = some (.int .i64 t238) ∧ w'.cell? ⟨gb240, 1, none⟩ = some (.int .i64 t239)) (ds := []) #[false, false, false, false, false, false, false] (by kernel_rfl) rfl rfl ⟨(qm_ BK240.out 0).trans rfl, (qm_ BK240.out 1).trans rfl⟩ (fun hHeld => ?_)
         generalize w89.drew = w94 at HO_251000 BK232 BK233 BK236 BK240 BK244 BK250 BK251 BK252 HB hHeld ⊢
         refine take_ (i := 0) (N := some 82) (v := ?_) (a' := ?_) #[true, false, false, false, false, false, false] rfl rfl (by kernel_rfl) (fun _ _ _ h => h) (Or.inl ⟨by rfl, ?_⟩) hHeld ?_ ?_
         rotate_left
         ·rintro w' ⟨s0, s1⟩
          go_simp
          with_reducible rfl
         rotate_left
         ·simp only [Act.put, List.setIfInBounds_toArray, List.set_cons_zero, List.set_cons_succ, i64_w, i32_w]
          rfl
         refine one_ (i := 1) (N := some 83) #[true, true, false, false, false, false, false] rfl rfl (by kernel_rfl) (by decide) (fun K hK => ?_)
         refine goes_ Tryd.func16 (by kernel_rfl) rfl #[.int .i64 10, .int .i64 (-1)] (by rfl) rfl rfl (by (try simp only [List.map_toArray]); first | done | rfl) ?_
         with_reducible refine (qF_.calls 10 (-1) t258 t259 _ A91.out).mono ?_
         rintro e w95 ⟨rfl, hb⟩
         refine ⟨_, rfl, ?_⟩
         replace HO_251000 := Aside0.mk (Kd.V_below (by (with_reducible repeat (first | apply Kd.V_alloc | apply Kd.V_drewN | apply Kd.V_drew)); exact HO_251000.out) hb)
         replace BK232 := Aside0.mk (ql_ BK232 (by (with_reducible repeat first | apply qa_ | apply qb_ | apply blk_alloc); exact BK232.out) hb)
         replace BK233 := Aside0.mk (ql_ BK233 (by (with_reducible repeat first | apply qa_ | apply qb_ | apply blk_alloc); exact BK233.out) hb)
         replace BK236 := Aside0.mk (ql_ BK236 (by (with_reducible repeat first | apply qa_ | apply qb_ | apply blk_alloc); exact BK236.out) hb)
         replace BK240 := Aside0.mk (ql_ BK240 (by (with_reducible repeat first | apply qa_ | apply qb_ | apply blk_alloc); exact BK240.out) hb)
         replace BK244 := Aside0.mk (ql_ BK244 (by (with_reducible repeat first | apply qa_ | apply qb_ | apply blk_alloc); exact BK244.out) hb)
         replace BK250 := Aside0.mk (ql_ BK250 (by (with_reducible repeat first | apply qa_ | apply qb_ | apply blk_alloc); exact BK250.out) hb)
         replace BK251 := Aside0.mk (ql_ BK251 (by (with_reducible repeat first | apply qa_ | apply qb_ | apply blk_alloc); exact BK251.out) hb)
         replace BK252 := Aside0.mk (ql_ BK252 (by (with_reducible repeat first | apply qa_ | apply qb_ | apply blk_alloc); exact BK252.out) hb)
         replace HB := Aside0.mk (qq_ (by repeat (first | (with_reducible first | exact HB.out | apply qh_ | apply qc_ | apply qf_ | refine qk_ ?_ (by assumption)) | exact HB.out)) hb)
         (try clear hb)
         refine hK.out _ _ ⟨(qm_ BK240.out 0).trans rfl, (qm_ BK240.out 1).trans rfl⟩ (fun hHeld => ?_)
         clear hK K
         refine norm_ (a' := ?_) ?_ ?_
         rotate_left
         ·show Act.put _ (some 83) _ = _
          simp only [Act.put, List.setIfInBounds_toArray, List.set_cons_zero, List.set_cons_succ, i64_w, i32_w]
          rfl
         refine pure_ (i := 2) (N := some 84) (v := ?_) (a' := ?_) #[true, true, true, false, false, false, false] rfl rfl (by kernel_rfl) (fun _ _ _ h => h) (Or.inl ⟨by rfl, ?_⟩) ?_ ?_
         rotate_left
         ·intro w'
          go_simp
          with_reducible rfl
         rotate_left
         ·simp only [Act.put, List.setIfInBounds_toArray, List.set_cons_zero, List.set_cons_succ, i64_w, i32_w]
          rfl
         refine pure_ (i := 3) (N := some 85) (v := ?_) (a' := ?_) #[true, true, true, true, false, false, false] rfl rfl (by kernel_rfl) (fun _ _ _ h => h) (Or.inl ⟨by rfl, ?_⟩) ?_ ?_
         rotate_left
         ·intro w'
          go_simp
          with_reducible rfl
         rotate_left
         ·simp only [Act.put, List.setIfInBounds_toArray, List.set_cons_zero, List.set_cons_succ, i64_w, i32_w]
          rfl
         refine pure_ (i := 4) (N := some 86) (v := ?_) (a' := ?_) #[true, true, true, true, true, false, false] rfl rfl (by kernel_rfl) (fun _ _ _ h => h) (Or.inl ⟨by rfl, ?_⟩) ?_ ?_
         rotate_left
         ·intro w'
          go_simp
          with_reducible rfl
         rotate_left
         ·simp only [Act.put, List.setIfInBounds_toArray, List.set_cons_zero, List.set_cons_succ, i64_w, i32_w]
          rfl
         refine pure_ (i := 5) (N := some 87) (v := ?_) (a' := ?_) #[true, true, true, true, true, true, false] rfl rfl (by kernel_rfl) (fun _ _ _ h => h) (Or.inl ⟨by rfl, ?_⟩) ?_ ?_
         rotate_left
         ·intro w'
          go_simp
          with_reducible rfl
         rotate_left
         ·simp only [Act.put, List.setIfInBounds_toArray, List.set_cons_zero, List.set_cons_succ, i64_w, i32_w]
          rfl
         refine pure_ (i := 6) (N := some 88) (v := ?_) (a' := ?_) #[true, true, true, true, true, true, true] rfl rfl (by kernel_rfl) (fun _ _ _ h => h) (Or.inl ⟨by rfl, ?_⟩) ?_ ?_
         rotate_left
         ·intro w'
          go_simp
          with_reducible rfl
         rotate_left
         ·simp only [Act.put, List.setIfInBounds_toArray, List.set_cons_zero, List.set_cons_succ, i64_w, i32_w]
          rfl
         refine done_ (by kernel_rfl) ?_
         try go_wp2
         go_meet
         case rel => exact ⟨_, H', ⟨by have := HJ6.out; first | omega | exact Nat.le_refl _⟩, ⟨by (with_reducible repeat (first | apply Kd.V_alloc | apply Kd.V_drewN | apply Kd.V_drew)); exact HO_251000.out⟩, ⟨by (with_reducible repeat first | apply qa_ | apply qb_ | apply blk_alloc); exact BK232.out⟩, ⟨by (with_reducible repeat first | apply qa_ | apply qb_ | apply blk_alloc); exact BK233.out⟩, ⟨by (with_reducible repeat first | apply qa_ | apply qb_ | apply blk_alloc); exact BK236.out⟩, ⟨by (with_reducible repeat first | apply qa_ | apply qb_ | apply blk_alloc); exact BK240.out⟩, ⟨by (with_reducible repeat first | apply qa_ | apply qb_ | apply blk_alloc); exact BK244.out⟩, ⟨by (with_reducible repeat first | apply qa_ | apply qb_ | apply blk_alloc); exact BK250.out⟩, ⟨by (with_reducible repeat first | apply qa_ | apply qb_ | apply blk_alloc); exact BK251.out⟩, ⟨by (with_reducible repeat first | apply qa_ | apply qb_ | apply blk_alloc); exact BK252.out⟩, ⟨by repeat (first | (with_reducible first | exact HB.out | apply qh_ | apply qc_ | apply qf_ | refine qk_ ?_ (by assumption)) | exact HB.out)⟩⟩
        ·rw [if_neg c93] at H
         have c93b0 : (t237.toList == ([] : List UInt8)) = false := beq_eq_false_iff_ne.mpr c93
         have c93b1 : (t237.toList != ([] : List UInt8)) = true := bne_iff_ne.mpr c93
         exact absurd H (by simp)
       ·rw [if_neg c92] at H
        have c92b0 : (t238 == t258 && (t239 == t259)) = false := by simpa using c92
        (try (have c92b1 : decide (t238 = t258 && (t239 == t259)) = false := by simpa using c92))
        (try (have c92b2 : (t238 == t258 && (t239 == t259)) = false := by simpa using c92))
        (try (have c92b3 : ¬ (t238 = t258 && (t239 == t259)) := by simpa using c92))
        clear c92
        exact absurd H (by simp)
      ·rw [if_neg c90] at H
       have c90b0 : decide (200 < (t257.size : Int)) = false := decide_eq_false c90
       have c90b1 : decide (200 < t257.size) = false := decide_eq_false (by omega)
       clear c90
       (first | rw [c90b0] | (simp only [i64_w, i32_w]; rw [c90b0]) | skip)
       by_cases c100 : t238 = 0
       ·rw [if_pos c100] at H
        have c100b0 : (t238 == 0) = true := beq_iff_eq.mpr c100
        have c100b1 : (t238 != 0) = false := bne_eq_false_iff_eq.mpr c100
        clear c100
        by_cases c101 : t237.toList = t257.toList
        ·rw [if_pos c101] at H
         have c101b0 : (t237.toList == t257.toList) = true := beq_iff_eq.mpr c101
         have c101b1 : (t237.toList != t257.toList) = false := bne_eq_false_iff_eq.mpr c101
         clear c101
         have H' := Aside0.mk H
         clear H
         have hcz109_0 := qg_ BK240 0 (.int .i64 t238) rfl
         have hcz109_1 := qg_ BK240 1 (.int .i64 t239) rfl
         have hfz109_0 := qd_ BK240 0
         have hfz109_1 := qd_ BK240 1
         go_wp2
         go_meet
         case rel => exact ⟨_, H', ⟨by have := HJ6.out; first | omega | exact Nat.le_refl _⟩, ⟨by (with_reducible repeat (first | apply Kd.V_alloc | apply Kd.V_drewN | apply Kd.V_drew)); exact HO_251000.out⟩, ⟨by (with_reducible repeat first | apply qa_ | apply qb_ | apply blk_alloc); exact BK232.out⟩, ⟨by (with_reducible repeat first | apply qa_ | apply qb_ | apply blk_alloc); exact BK233.out⟩, ⟨by (with_reducible repeat first | apply qa_ | apply qb_ | apply blk_alloc); exact BK236.out⟩, ⟨by (with_reducible repeat first | apply qa_ | apply qb_ | apply blk_alloc); exact BK240.out⟩, ⟨by (with_reducible repeat first | apply qa_ | apply qb_ | apply blk_alloc); exact BK244.out⟩, ⟨by (with_reducible repeat first | apply qa_ | apply qb_ | apply blk_alloc); exact BK250.out⟩, ⟨by (with_reducible repeat first | apply qa_ | apply qb_ | apply blk_alloc); exact BK251.out⟩, ⟨by (with_reducible repeat first | apply qa_ | apply qb_ | apply blk_alloc); exact BK252.out⟩, ⟨by repeat (first | (with_reducible first | exact HB.out | apply qh_ | apply qc_ | apply qf_ | refine qk_ ?_ (by assumption)) | exact HB.out)⟩⟩
        ·rw [if_neg c101] at H
         have c101b0 : (t237.toList == t257.toList) = false := beq_eq_false_iff_ne.mpr c101
         have c101b1 : (t237.toList != t257.toList) = true := bne_iff_ne.mpr c101
         exact absurd H (by simp)
       ·rw [if_neg c100] at H
        have c100b0 : (t238 == 0) = false := beq_eq_false_iff_ne.mpr c100
        have c100b1 : (t238 != 0) = true := bne_iff_ne.mpr c100
        exact absurd H (by simp)
     case rest =>
      clear HC73
      obtain ⟨kq, HA, HJ72, HO_251000, BK232, BK233, BK236, BK240, BK244, BK250, BK251, BK252, HB⟩ := hcut
      cases kq with
      | zero => exact absurd HA.out (by simp [qe_.j1])
      | succ kj72 =>
       have H := HA.out
       clear HA
       simp only [qe_.j1] at H
       have HC126 := Aside0.mk H
       clear H
       go_upto_region 17 with (fail)
       go_cut [114] (fun v114 wc => ∃ (kq : Nat) (x114_125 : Bool), v114 = .bool x114_125 ∧ Aside0 (qe_.j2 kq t241 (wrap64 ((l0_0.length : Int) - 1)) x114_125 l0_0 a1_0 a1_1 a1_2 a1_3 t242 t243 t245 t248 t249 = some r) ∧ Aside0 (kq ≤ kj72) ∧ Aside0 (Kd.V k47 47 wc w.heap.size (fun k_ => k_ ≠ gb232 ∧ k_ ≠ gb233 ∧ k_ ≠ gb236 ∧ k_ ≠ gb240 ∧ k_ ≠ gb244 ∧ k_ ≠ gb250 ∧ k_ ≠ gb251 ∧ k_ ≠ gb252) (.slice Ao37 t245.length co37) t245) ∧ Aside0 (wc.heap[gb232]? = some (.cells #[(.slice A0_0 l0_0.length c0_0)] 24 (0, 0))) ∧ Aside0 (wc.heap[gb233]? = some (.cells #[.int .i64 a1_0, .bool a1_1, .bool a1_2, .int .i64 a1_3] 26 (0, 0))) ∧ Aside0 (wc.heap[gb236]? = some (.cells #[.int .i64 t234, .int .i64 t235] 28 (0, 0))) ∧ Aside0 (wc.heap[gb240]? = some (.cells #[.int .i64 t238, .int .i64 t239] 28 (0, 0))) ∧ Aside0 (wc.heap[gb244]? = some (.cells #[.int .i64 t242, .int .i64 t243] 28 (0, 0))) ∧ Aside0 (wc.heap[gb250]? = some (.cells #[(.slice Ao37 t245.length co37)] 24 (0, 0))) ∧ Aside0 (wc.heap[gb251]? = some (.cells #[.int .i64 t248, .int .i64 t249] 28 (0, 0))) ∧ Aside0 (wc.heap[gb252]? = some (.cells #[(.slice none 0 0)] 24 (0, 0))) ∧ Aside0 (Below w.heap.size w wc))
       case first =>
        have H := HC126.out
        clear HC126
        by_cases c127 : a1_0 < (-1000000000)
        ·rw [if_pos c127] at H
         have c127b0 : decide (a1_0 < (-1000000000)) = true := decide_eq_true c127
         clear c127
         (first | rw [c127b0] | (simp only [i64_w, i32_w]; rw [c127b0]) | skip)
         have H' := Aside0.mk H
         clear H
         have hcz135_0 := qg_ BK233 0 (.int .i64 a1_0) rfl
         have hcz135_1 := qg_ BK233 1 (.bool a1_1) rfl
         have hcz135_2 := qg_ BK233 2 (.bool a1_2) rfl
         have hcz135_3 := qg_ BK233 3 (.int .i64 a1_3) rfl
         have hfz135_0 := qd_ BK233 0
         have hfz135_1 := qd_ BK233 1
         have hfz135_2 := qd_ BK233 2
         have hfz135_3 := qd_ BK233 3
         go_wp2
         go_meet
         case rel => exact ⟨_, (true), (by first | rfl | (simp [*]; done)), H', ⟨by have := HJ6.out; have := HJ72.out; first | omega | exact Nat.le_refl _⟩, ⟨by (with_reducible repeat (first | apply Kd.V_alloc | apply Kd.V_drewN | apply Kd.V_drew)); exact HO_251000.out⟩, ⟨by (with_reducible repeat first | apply qa_ | apply qb_ | apply blk_alloc); exact BK232.out⟩, ⟨by (with_reducible repeat first | apply qa_ | apply qb_ | apply blk_alloc); exact BK233.out⟩, ⟨by (with_reducible repeat first | apply qa_ | apply qb_ | apply blk_alloc); exact BK236.out⟩, ⟨by (with_reducible repeat first | apply qa_ | apply qb_ | apply blk_alloc); exact BK240.out⟩, ⟨by (with_reducible repeat first | apply qa_ | apply qb_ | apply blk_alloc); exact BK244.out⟩, ⟨by (with_reducible repeat first | apply qa_ | apply qb_ | apply blk_alloc); exact BK250.out⟩, ⟨by (with_reducible repeat first | apply qa_ | apply qb_ | apply blk_alloc); exact BK251.out⟩, ⟨by (with_reducible repeat first | apply qa_ | apply qb_ | apply blk_alloc); exact BK252.out⟩, ⟨by repeat (first | (with_reducible first | exact HB.out | apply qh_ | apply qc_ | apply qf_ | refine qk_ ?_ (by assumption)) | exact HB.out)⟩⟩
        ·rw [if_neg c127] at H
         have c127b0 : decide (a1_0 < (-1000000000)) = false := decide_eq_false c127
         clear c127
         (first | rw [c127b0] | (simp only [i64_w, i32_w]; rw [c127b0]) | skip)
         by_cases c136 : a1_0 > 1000000000
         ·rw [if_pos c136] at H
          have c136b0 : decide (1000000000 < a1_0) = true := decide_eq_true c136
          clear c136
          have H' := Aside0.mk H
          clear H
          have hcz144_0 := qg_ BK233 0 (.int .i64 a1_0) rfl
          have hcz144_1 := qg_ BK233 1 (.bool a1_1) rfl
          have hcz144_2 := qg_ BK233 2 (.bool a1_2) rfl
          have hcz144_3 := qg_ BK233 3 (.int .i64 a1_3) rfl
          have hfz144_0 := qd_ BK233 0
          have hfz144_1 := qd_ BK233 1
          have hfz144_2 := qd_ BK233 2
          have hfz144_3 := qd_ BK233 3
          go_wp2
          go_meet
          case rel => exact ⟨_, (true), (by first | rfl | (simp [*]; done)), H', ⟨by have := HJ6.out; have := HJ72.out; first | omega | exact Nat.le_refl _⟩, ⟨by (with_reducible repeat (first | apply Kd.V_alloc | apply Kd.V_drewN | apply Kd.V_drew)); exact HO_251000.out⟩, ⟨by (with_reducible repeat first | apply qa_ | apply qb_ | apply blk_alloc); exact BK232.out⟩, ⟨by (with_reducible repeat first | apply qa_ | apply qb_ | apply blk_alloc); exact BK233.out⟩, ⟨by (with_reducible repeat first | apply qa_ | apply qb_ | apply blk_alloc); exact BK236.out⟩, ⟨by (with_reducible repeat first | apply qa_ | apply qb_ | apply blk_alloc); exact BK240.out⟩, ⟨by (with_reducible repeat first | apply qa_ | apply qb_ | apply blk_alloc); exact BK244.out⟩, ⟨by (with_reducible repeat first | apply qa_ | apply qb_ | apply blk_alloc); exact BK250.out⟩, ⟨by (with_reducible repeat first | apply qa_ | apply qb_ | apply blk_alloc); exact BK251.out⟩, ⟨by (with_reducible repeat first | apply qa_ | apply qb_ | apply blk_alloc); exact BK252.out⟩, ⟨by repeat (first | (with_reducible first | exact HB.out | apply qh_ | apply qc_ | apply qf_ | refine qk_ ?_ (by assumption)) | exact HB.out)⟩⟩
         ·rw [if_neg c136] at H
          have c136b0 : decide (1000000000 < a1_0) = false := decide_eq_false c136
          clear c136
          by_cases c145 : a1_3 < 0
          ·rw [if_pos c145] at H
           have c145b0 : decide (a1_3 < 0) = true := decide_eq_true c145
           clear c145
           have H' := Aside0.mk H
           clear H
           have hcz153_0 := qg_ BK233 0 (.int .i64 a1_0) rfl
           have hcz153_1 := qg_ BK233 1 (.bool a1_1) rfl
           have hcz153_2 := qg_ BK233 2 (.bool a1_2) rfl
           have hcz153_3 := qg_ BK233 3 (.int .i64 a1_3) rfl
           have hfz153_0 := qd_ BK233 0
           have hfz153_1 := qd_ BK233 1
           have hfz153_2 := qd_ BK233 2
           have hfz153_3 := qd_ BK233 3
           go_wp2
           go_meet
           case rel => exact ⟨_, (true), (by first | rfl | (simp [*]; done)), H', ⟨by have := HJ6.out; have := HJ72.out; first | omega | exact Nat.le_refl _⟩, ⟨by (with_reducible repeat (first | apply Kd.V_alloc | apply Kd.V_drewN | apply Kd.V_drew)); exact HO_251000.out⟩, ⟨by (with_reducible repeat first | apply qa_ | apply qb_ | apply blk_alloc); exact BK232.out⟩, ⟨by (with_reducible repeat first | apply qa_ | apply qb_ | apply blk_alloc); exact BK233.out⟩, ⟨by (with_reducible repeat first | apply qa_ | apply qb_ | apply blk_alloc); exact BK236.out⟩, ⟨by (with_reducible repeat first | apply qa_ | apply qb_ | apply blk_alloc); exact BK240.out⟩, ⟨by (with_reducible repeat first | apply qa_ | apply qb_ | apply blk_alloc); exact BK244.out⟩, ⟨by (with_reducible repeat first | apply qa_ | apply qb_ | apply blk_alloc); exact BK250.out⟩, ⟨by (with_reducible repeat first | apply qa_ | apply qb_ | apply blk_alloc); exact BK251.out⟩, ⟨by (with_reducible repeat first | apply qa_ | apply qb_ | apply blk_alloc); exact BK252.out⟩, ⟨by repeat (first | (with_reducible first | exact HB.out | apply qh_ | apply qc_ | apply qf_ | refine qk_ ?_ (by assumption)) | exact HB.out)⟩⟩
          ·rw [if_neg c145] at H
           have c145b0 : decide (a1_3 < 0) = false := decide_eq_false c145
           clear c145
           have H' := Aside0.mk H
           clear H
           have hcz161_0 := qg_ BK233 0 (.int .i64 a1_0) rfl
           have hcz161_1 := qg_ BK233 1 (.bool a1_1) rfl
           have hcz161_2 := qg_ BK233 2 (.bool a1_2) rfl
           have hcz161_3 := qg_ BK233 3 (.int .i64 a1_3) rfl
           have hfz161_0 := qd_ BK233 0
           have hfz161_1 := qd_ BK233 1
           have hfz161_2 := qd_ BK233 2
           have hfz161_3 := qd_ BK233 3
           go_wp2
           go_meet
           case rel => exact ⟨_, (decide (a1_3 > 255)), (by first | rfl | (simp [*]; done)), H', ⟨by have := HJ6.out; have := HJ72.out; first | omega | exact Nat.le_refl _⟩, ⟨by (with_reducible repeat (first | apply Kd.V_alloc | apply Kd.V_drewN | apply Kd.V_drew)); exact HO_251000.out⟩, ⟨by (with_reducible repeat first | apply qa_ | apply qb_ | apply blk_alloc); exact BK232.out⟩, ⟨by (with_reducible repeat first | apply qa_ | apply qb_ | apply blk_alloc); exact BK233.out⟩, ⟨by (with_reducible repeat first | apply qa_ | apply qb_ | apply blk_alloc); exact BK236.out⟩, ⟨by (with_reducible repeat first | apply qa_ | apply qb_ | apply blk_alloc); exact BK240.out⟩, ⟨by (with_reducible repeat first | apply qa_ | apply qb_ | apply blk_alloc); exact BK244.out⟩, ⟨by (with_reducible repeat first | apply qa_ | apply qb_ | apply blk_alloc); exact BK250.out⟩, ⟨by (with_reducible repeat first | apply qa_ | apply qb_ | apply blk_alloc); exact BK251.out⟩, ⟨by (with_reducible repeat first | apply qa_ | apply qb_ | apply blk_alloc); exact BK252.out⟩, ⟨by repeat (first | (with_reducible first | exact HB.out | apply qh_ | apply qc_ | apply qf_ | refine qk_ ?_ (by assumption)) | exact HB.out)⟩⟩
       case rest =>
        clear HC126
        obtain ⟨kq, x114_125, rfl, HA, HJ125, HO_251000, BK232, BK233, BK236, BK240, BK244, BK250, BK251, BK252, HB⟩ := hcut
        cases kq with
        | zero => exact absurd HA.out (by simp [qe_.j2])
        | succ kj125 =>
         have H := HA.out
         clear HA
         simp only [qe_.j2] at H
         have HC162 := Aside0.mk H
         clear H
         go_upto_if 114 with (fail)
         go_cut [] (fun wc => ∃ (kq : Nat), Aside0 (qe_.j3 kq (wrap64 ((l0_0.length : Int) - 1)) l0_0 t245 t248 t249 = some r) ∧ Aside0 (kq ≤ kj125) ∧ Aside0 (Kd.V k47 47 wc w.heap.size (fun k_ => k_ ≠ gb232 ∧ k_ ≠ gb233 ∧ k_ ≠ gb236 ∧ k_ ≠ gb240 ∧ k_ ≠ gb244 ∧ k_ ≠ gb250 ∧ k_ ≠ gb251 ∧ k_ ≠ gb252) (.slice Ao37 t245.length co37) t245) ∧ Aside0 (wc.heap[gb232]? = some (.cells #[(.slice A0_0 l0_0.length c0_0)] 24 (0, 0))) ∧ Aside0 (wc.heap[gb233]? = some (.cells #[.int .i64 a1_0, .bool a1_1, .bool a1_2, .int .i64 a1_3] 26 (0, 0))) ∧ Aside0 (wc.heap[gb236]? = some (.cells #[.int .i64 t234, .int .i64 t235] 28 (0, 0))) ∧ Aside0 (wc.heap[gb240]? = some (.cells #[.int .i64 t238, .int .i64 t239] 28 (0, 0))) ∧ Aside0 (wc.heap[gb244]? = some (.cells #[.int .i64 t242, .int .i64 t243] 28 (0, 0))) ∧ Aside0 (wc.heap[gb250]? = some (.cells #[(.slice Ao37 t245.length co37)] 24 (0, 0))) ∧ Aside0 (wc.heap[gb251]? = some (.cells #[.int .i64 t248, .int .i64 t249] 28 (0, 0))) ∧ Aside0 (wc.heap[gb252]? = some (.cells #[(.slice none 0 0)] 24 (0, 0))) ∧ Aside0 (Below w.heap.size w wc))
         case first =>
          have H := HC162.out
          clear HC162
          by_cases c163 : x114_125 = true
          ·subst c163
           have H1 : ((qF_.f 3 (-2)).bind fun bt260 => (if (t242 == bt260.1 && (t243 == bt260.2)) = true then (if t241 = true then (none) else (qe_.j3 kj125 (wrap64 ((l0_0.length : Int) - 1)) l0_0 t245 t248 t249)) else (none))) = some r := by rw [if_pos rfl] at H; exact H
           clear H
           have H := H1
           clear H1
           replace H := Option.bind_eq_some_iff.mp H
           obtain ⟨⟨t260, t261⟩, A1640, H⟩ := H
           replace H : (if (t242 == t260 && (t243 == t261)) = true then (if t241 = true then (none) else (qe_.j3 kj125 (wrap64 ((l0_0.length : Int) - 1)) l0_0 t245 t248 t249)) else (none)) = some r := H
           have A164 := Aside0.mk A1640
           clear A1640
           by_cases c165 : (t242 == t260 && (t243 == t261)) = true
           ·rw [if_pos c165] at H
            have c165b0 : (t242 == t260 && (t243 == t261)) = true := c165
            (try (have c165b1 : decide (t242 = t260 && (t243 == t261)) = true := by simpa using c165))
            (try (have c165b2 : (t242 == t260 && (t243 == t261)) = true := by simpa using c165))
            clear c165
            (first | rw [c165b0] | (simp only [i64_w, i32_w]; rw [c165b0]) | skip)
            by_cases c166 : t241 = true
            ·subst c166
             have H1 : (none) = some r := by rw [if_pos rfl] at H; exact H
             clear H
             have H := H1
             clear H1
             exact absurd H (by simp)
            ·replace c166 := Bool.eq_false_iff.mpr c166
             subst c166
             have H1 : (qe_.j3 kj125 (wrap64 ((l0_0.length : Int) - 1)) l0_0 t245 t248 t249) = some r := by rw [if_neg (show ¬ (false = true) by decide)] at H; exact H
             clear H
             have H := H1
             clear H1
             have H' := Aside0.mk H
             clear H
             try go_wp2
             replace HO_251000 := Aside0.mk (Kd.V_drew HO_251000.out)
             replace BK232 := Aside0.mk (qb_ BK232.out)
             replace BK233 := Aside0.mk (qb_ BK233.out)
             replace BK236 := Aside0.mk (qb_ BK236.out)
             replace BK240 := Aside0.mk (qb_ BK240.out)
             replace BK244 := Aside0.mk (qb_ BK244.out)
             replace BK250 := Aside0.mk (qb_ BK250.out)
             replace BK251 := Aside0.mk (qb_ BK251.out)
             replace BK252 := Aside0.mk (qb_ BK252.out)
             replace HB := Aside0.mk (qf_ HB.out)
             refine start_ (n := 6) (S := fun w' => w'.cell? ⟨gb244, 0, none⟩ = some (.int .i64 t242) ∧ w'.cell? ⟨gb244, 1, none⟩ = some (.int .i64 t243)) (ds := []) #[false, false, false, false, false, false] (by kernel_rfl) rfl rfl ⟨(qm_ BK244.out 0).trans rfl, (qm_ BK244.out 1).trans rfl⟩ (fun hHeld => ?_)
             generalize wc.drew = w169 at HO_251000 BK232 BK233 BK236 BK240 BK244 BK250 BK251 BK252 HB hHeld ⊢
             refine take_ (i := 0) (N := some 115) (v := ?_) (a' := ?_) #[true, false, false, false, false, false] rfl rfl (by kernel_rfl) (fun _ _ _ h => h) (Or.inl ⟨by rfl, ?_⟩) hHeld ?_ ?_
             rotate_left
             ·rintro w' ⟨s0, s1⟩
              go_simp
              with_reducible rfl
             rotate_left
             ·simp only [Act.put, List.setIfInBounds_toArray, List.set_cons_zero, List.set_cons_succ, i64_w, i32_w]
              rfl
             refine one_ (i := 1) (N := some 116) #[true, true, false, false, false, false] rfl rfl (by kernel_rfl) (by decide) (fun K hK => ?_)
             refine goes_ Tryd.func16 (by kernel_rfl) rfl #[.int .i64 3, .int .i64 (-2)] (by rfl) rfl rfl (by (try simp only [List.map_toArray]); first | done | rfl) ?_
             with_reducible refine (qF_.calls 3 (-2) t260 t261 _ A164.out).mono ?_
             rintro e w170 ⟨rfl, hb⟩
             refine ⟨_, rfl, ?_⟩
             replace HO_251000 := Aside0.mk (Kd.V_below (by (with_reducible repeat (first | apply Kd.V_alloc | apply Kd.V_drewN | apply Kd.V_drew)); exact HO_251000.out) hb)
             replace BK232 := Aside0.mk (ql_ BK232 (by (with_reducible repeat first | apply qa_ | apply qb_ | apply blk_alloc); exact BK232.out) hb)
             replace BK233 := Aside0.mk (ql_ BK233 (by (with_reducible repeat first | apply qa_ | apply qb_ | apply blk_alloc); exact BK233.out) hb)
             replace BK236 := Aside0.mk (ql_ BK236 (by (with_reducible repeat first | apply qa_ | apply qb_ | apply blk_alloc); exact BK236.out) hb)
             replace BK240 := Aside0.mk (ql_ BK240 (by (with_reducible repeat first | apply qa_ | apply qb_ | apply blk_alloc); exact BK240.out) hb)
             replace BK244 := Aside0.mk (ql_ BK244 (by (with_reducible repeat first | apply qa_ | apply qb_ | apply blk_alloc); exact BK244.out) hb)
             replace BK250 := Aside0.mk (ql_ BK250 (by (with_reducible repeat first | apply qa_ | apply qb_ | apply blk_alloc); exact BK250.out) hb)
             replace BK251 := Aside0.mk (ql_ BK251 (by (with_reducible repeat first | apply qa_ | apply qb_ | apply blk_alloc); exact BK251.out) hb)
             replace BK252 := Aside0.mk (ql_ BK252 (by (with_reducible repeat first | apply qa_ | apply qb_ | apply blk_alloc); exact BK252.out) hb)
             replace HB := Aside0.mk (qq_ (by repeat (first | (with_reducible first | exact HB.out | apply qh_ | apply qc_ | apply qf_ | refine qk_ ?_ (by assumption)) | exact HB.out)) hb)
             (try clear hb)
             refine hK.out _ _ ⟨(qm_ BK244.out 0).trans rfl, (qm_ BK244.out 1).trans rfl⟩ (fun hHeld => ?_)
             clear hK K
             refine norm_ (a' := ?_) ?_ ?_
             rotate_left
             ·show Act.put _ (some 116) _ = _
              simp only [Act.put, List.setIfInBounds_toArray, List.set_cons_zero, List.set_cons_succ, i64_w, i32_w]
              rfl
             refine pure_ (i := 2) (N := some 117) (v := ?_) (a' := ?_) #[true, true, true, false, false, false] rfl rfl (by kernel_rfl) (fun _ _ _ h => h) (Or.inl ⟨by rfl, ?_⟩) ?_ ?_
             rotate_left
             ·intro w'
              go_simp
              with_reducible rfl
             rotate_left
             ·simp only [Act.put, List.setIfInBounds_toArray, List.set_cons_zero, List.set_cons_succ, i64_w, i32_w]
              rfl
             refine pure_ (i := 3) (N := some 118) (v := ?_) (a' := ?_) #[true, true, true, true, false, false] rfl rfl (by kernel_rfl) (fun _ _ _ h => h) (Or.inl ⟨by rfl, ?_⟩) ?_ ?_
             rotate_left
             ·intro w'
              go_simp
              with_reducible rfl
             rotate_left
             ·simp only [Act.put, List.setIfInBounds_toArray, List.set_cons_zero, List.set_cons_succ, i64_w, i32_w]
              rfl
             refine pure_ (i := 4) (N := some 119) (v := ?_) (a' := ?_) #[true, true, true, true, true, false] rfl rfl (by kernel_rfl) (fun _ _ _ h => h) (Or.inl ⟨by rfl, ?_⟩) ?_ ?_
             rotate_left
             ·intro w'
              go_simp
              with_reducible rfl
             rotate_left
             ·simp only [Act.put, List.setIfInBounds_toArray, List.set_cons_zero, List.set_cons_succ, i64_w, i32_w]
              rfl
             refine pure_ (i := 5) (N := some 120) (v := ?_) (a' := ?_) #[true, true, true, true, true, true] rfl rfl (by kernel_rfl) (fun _ _ _ h => h) (Or.inl ⟨by rfl, ?_⟩) ?_ ?_
             rotate_left
             ·intro w'
              go_simp
              with_reducible rfl
             rotate_left
             ·simp only [Act.put, List.setIfInBounds_toArray, List.set_cons_zero, List.set_cons_succ, i64_w, i32_w]
              rfl
             refine done_ (by kernel_rfl) ?_
             try go_wp2
             go_meet
             case rel => exact ⟨_, H', ⟨by have := HJ6.out; have := HJ72.out; have := HJ125.out; first | omega | exact Nat.le_refl _⟩, ⟨by (with_reducible repeat (first | apply Kd.V_alloc | apply Kd.V_drewN | apply Kd.V_drew)); exact HO_251000.out⟩, ⟨by (with_reducible repeat first | apply qa_ | apply qb_ | apply blk_alloc); exact BK232.out⟩, ⟨by (with_reducible repeat first | apply qa_ | apply qb_ | apply blk_alloc); exact BK233.out⟩, ⟨by (with_reducible repeat first | apply qa_ | apply qb_ | apply blk_alloc); exact BK236.out⟩, ⟨by (with_reducible repeat first | apply qa_ | apply qb_ | apply blk_alloc); exact BK240.out⟩, ⟨by (with_reducible repeat first | apply qa_ | apply qb_ | apply blk_alloc); exact BK244.out⟩, ⟨by (with_reducible repeat first | apply qa_ | apply qb_ | apply blk_alloc); exact BK250.out⟩, ⟨by (with_reducible repeat first | apply qa_ | apply qb_ | apply blk_alloc); exact BK251.out⟩, ⟨by (with_reducible repeat first | apply qa_ | apply qb_ | apply blk_alloc); exact BK252.out⟩, ⟨by repeat (first | (with_reducible first | exact HB.out | apply qh_ | apply qc_ | apply qf_ | refine qk_ ?_ (by assumption)) | exact HB.out)⟩⟩
           ·rw [if_neg c165] at H
            have c165b0 : (t242 == t260 && (t243 == t261)) = false := by simpa using c165
            (try (have c165b1 : decide (t242 = t260 && (t243 == t261)) = false := by simpa using c165))
            (try (have c165b2 : (t242 == t260 && (t243 == t261)) = false := by simpa using c165))
            (try (have c165b3 : ¬ (t242 = t260 && (t243 == t261)) := by simpa using c165))
            clear c165
            (first | rw [c165b0] | (simp only [i64_w, i32_w]; rw [c165b0]) | skip)
            exact absurd H (by simp)
          ·replace c163 := Bool.eq_false_iff.mpr c163
           subst c163
           have H1 : (if t242 = 0 then ((qx_.f kj125 l0_0 (wrap64 ((l0_0.length : Int) - 1)) a1_0 a1_1 a1_2 a1_3).bind fun t262 => (if (t241 != t262) = true then (none) else (qe_.j3 kj125 (wrap64 ((l0_0.length : Int) - 1)) l0_0 t245 t248 t249))) else (none)) = some r := by rw [if_neg (show ¬ (false = true) by decide)] at H; exact H
           clear H
           have H := H1
           clear H1
           by_cases c173 : t242 = 0
           ·rw [if_pos c173] at H
            have c173b0 : (t242 == 0) = true := beq_iff_eq.mpr c173
            have c173b1 : (t242 != 0) = false := bne_eq_false_iff_eq.mpr c173
            clear c173
            replace H := Option.bind_eq_some_iff.mp H
            obtain ⟨t262, A1740, H⟩ := H
            replace H : (if (t241 != t262) = true then (none) else (qe_.j3 kj125 (wrap64 ((l0_0.length : Int) - 1)) l0_0 t245 t248 t249)) = some r := H
            have A174 := Aside0.mk A1740
            clear A1740
            by_cases c175 : (t241 != t262) = true
            ·rw [if_pos c175] at H
             have c175b0 : (t241 != t262) = true := c175
             (try (have c175b1 : decide (t241 = t262) = false := by simpa using c175))
             (try (have c175b2 : (t241 == t262) = false := by simpa using c175))
             (try (have c175b3 : ¬ (t241 = t262) := by simpa using c175))
             clear c175
             exact absurd H (by simp)
            ·rw [if_neg c175] at H
             have c175b0 : (t241 != t262) = false := by simpa using c175
             (try (have c175b1 : decide (t241 = t262) = true := by simpa using c175))
             (try (have c175b2 : (t241 == t262) = true := by simpa using c175))
             clear c175
             have H' := Aside0.mk H
             clear H
             have hcz205_0 := qg_ BK244 0 (.int .i64 t242) rfl
             have hcz205_1 := qg_ BK244 1 (.int .i64 t243) rfl
             have hfz205_0 := qd_ BK244 0
             have hfz205_1 := qd_ BK244 1
             have hcz212_0 := qg_ BK232 0 (.slice A0_0 l0_0.length c0_0) rfl
             have hfz212_0 := qd_ BK232 0
             have hcz218_0 := qg_ BK233 0 (.int .i64 a1_0) rfl
             have hcz218_1 := qg_ BK233 1 (.bool a1_1) rfl
             have hcz218_2 := qg_ BK233 2 (.bool a1_2) rfl
             have hcz218_3 := qg_ BK233 3 (.int .i64 a1_3) rfl
             have hfz218_0 := qd_ BK233 0
             have hfz218_1 := qd_ BK233 1
             have hfz218_2 := qd_ BK233 2
             have hfz218_3 := qd_ BK233 3
             go_wp2_with (first | (go_at_call 17; (with_reducible refine (qx_.calls kj125 _ _ l0_0 (wrap64 ((l0_0.length : Int) - 1)) a1_0 a1_1 a1_2 a1_3 t262 _ ?side1 ?side2 A174.out).mono ?_); (case side1 => repeat (first | exact (Kd.C_below HR0_0.out HB.out) | (with_reducible refine Kd.C_alloc ?_ _) | (with_reducible refine Kd.C_drewN ?_ _) | (with_reducible refine Kd.C_drew ?_))); (case side2 => exact HC0_0.out); rintro e w219 ⟨rfl, hb⟩; replace HO_251000 := Aside0.mk (Kd.V_below (by (with_reducible repeat (first | apply Kd.V_alloc | apply Kd.V_drewN | apply Kd.V_drew)); exact HO_251000.out) hb); replace BK232 := Aside0.mk (ql_ BK232 (by (with_reducible repeat first | apply qa_ | apply qb_ | apply blk_alloc); exact BK232.out) hb); replace BK233 := Aside0.mk (ql_ BK233 (by (with_reducible repeat first | apply qa_ | apply qb_ | apply blk_alloc); exact BK233.out) hb); replace BK236 := Aside0.mk (ql_ BK236 (by (with_reducible repeat first | apply qa_ | apply qb_ | apply blk_alloc); exact BK236.out) hb); replace BK240 := Aside0.mk (ql_ BK240 (by (with_reducible repeat first | apply qa_ | apply qb_ | apply blk_alloc); exact BK240.out) hb); replace BK244 := Aside0.mk (ql_ BK244 (by (with_reducible repeat first | apply qa_ | apply qb_ | apply blk_alloc); exact BK244.out) hb); replace BK250 := Aside0.mk (ql_ BK250 (by (with_reducible repeat first | apply qa_ | apply qb_ | apply blk_alloc); exact BK250.out) hb); replace BK251 := Aside0.mk (ql_ BK251 (by (with_reducible repeat first | apply qa_ | apply qb_ | apply blk_alloc); exact BK251.out) hb); replace BK252 := Aside0.mk (ql_ BK252 (by (with_reducible repeat first | apply qa_ | apply qb_ | apply blk_alloc); exact BK252.out) hb); replace HB := Aside0.mk (qq_ (by repeat (first | (with_reducible first | exact HB.out | apply qh_ | apply qc_ | apply qf_ | refine qk_ ?_ (by assumption)) | exact HB.out)) hb); (try clear hb)))
             go_meet
             case rel => exact ⟨_, H', ⟨by have := HJ6.out; have := HJ72.out; have := HJ125.out; first | omega | exact Nat.le_refl _⟩, ⟨by (with_reducible repeat (first | apply Kd.V_alloc | apply Kd.V_drewN | apply Kd.V_drew)); exact HO_251000.out⟩, ⟨by (with_reducible repeat first | apply qa_ | apply qb_ | apply blk_alloc); exact BK232.out⟩, ⟨by (with_reducible repeat first | apply qa_ | apply qb_ | apply blk_alloc); exact BK233.out⟩, ⟨by (with_reducible repeat first | apply qa_ | apply qb_ | apply blk_alloc); exact BK236.out⟩, ⟨by (with_reducible repeat first | apply qa_ | apply qb_ | apply blk_alloc); exact BK240.out⟩, ⟨by (with_reducible repeat first | apply qa_ | apply qb_ | apply blk_alloc); exact BK244.out⟩, ⟨by (with_reducible repeat first | apply qa_ | apply qb_ | apply blk_alloc); exact BK250.out⟩, ⟨by (with_reducible repeat first | apply qa_ | apply qb_ | apply blk_alloc); exact BK251.out⟩, ⟨by (with_reducible repeat first | apply qa_ | apply qb_ | apply blk_alloc); exact BK252.out⟩, ⟨by repeat (first | (with_reducible first | exact HB.out | apply qh_ | apply qc_ | apply qf_ | refine qk_ ?_ (by assumption)) | exact HB.out)⟩⟩
           ·rw [if_neg c173] at H
            have c173b0 : (t242 == 0) = false := beq_eq_false_iff_ne.mpr c173
            have c173b1 : (t242 != 0) = true := bne_iff_ne.mpr c173
            exact absurd H (by simp)
         case rest =>
          clear HC162
          obtain ⟨kq, HA, HJ161, HO_251000, BK232, BK233, BK236, BK240, BK244, BK250, BK251, BK252, HB⟩ := hcut
          cases kq with
          | zero => exact absurd HA.out (by simp [qe_.j3])
          | succ kj161 =>
           have H := HA.out
           clear HA
           simp only [qe_.j3] at H
           replace H := Option.bind_eq_some_iff.mp H
           obtain ⟨t263, A2280, H⟩ := H
           replace H : ((qr_.f kj161 t263).bind fun bt267 => (if bt267.1 = 0 then (if t248 = 0 then ((qp_.f kj161 t245 t263).bind fun t269 => (some t269)) else (none)) else ((qF_.f 10 (-1)).bind fun bt270 => (if (t248 == bt270.1 && (t249 == bt270.2)) = true then ((qp_.f kj161 t245 ([] : List (S47))).bind fun t272 => (some t272)) else (none))))) = some r := H
           have A228 := Aside0.mk A2280
           clear A2280
           replace H := Option.bind_eq_some_iff.mp H
           obtain ⟨⟨t267, t268⟩, A2290, H⟩ := H
           replace H : (if t267 = 0 then (if t248 = 0 then ((qp_.f kj161 t245 t263).bind fun t269 => (some t269)) else (none)) else ((qF_.f 10 (-1)).bind fun bt270 => (if (t248 == bt270.1 && (t249 == bt270.2)) = true then ((qp_.f kj161 t245 ([] : List (S47))).bind fun t272 => (some t272)) else (none)))) = some r := H
           have A229 := Aside0.mk A2290
           clear A2290
           by_cases c230 : t267 = 0
           ·rw [if_pos c230] at H
            have c230b0 : (t267 == 0) = true := beq_iff_eq.mpr c230
            have c230b1 : (t267 != 0) = false := bne_eq_false_iff_eq.mpr c230
            clear c230
            by_cases c231 : t248 = 0
            ·rw [if_pos c231] at H
             have c231b0 : (t248 == 0) = true := beq_iff_eq.mpr c231
             have c231b1 : (t248 != 0) = false := bne_eq_false_iff_eq.mpr c231
             clear c231
             replace H := Option.bind_eq_some_iff.mp H
             obtain ⟨t269, A2320, H⟩ := H
             replace H : (some t269) = some r := H
             have A232 := Aside0.mk A2320
             clear A2320
             obtain rfl := Option.some.inj H
             have hcz240_0 := qg_ BK232 0 (.slice A0_0 l0_0.length c0_0) rfl
             have hfz240_0 := qd_ BK232 0
             go_wp2_with (first | ((with_reducible refine qs_ (f := 18) rfl ?_); refine goesL_ (some 134) rfl rfl Tryd.func18 (by kernel_rfl) rfl #[.agg #[.slice A0_0 l0_0.length c0_0], .int .i64 (wrap64 ((l0_0.length : Int) - 1)), .bool false, .slice none 0 0] rfl (by (try simp only [List.map_toArray]); first | done | rfl) ?_; (refine (qz_.calls kj161 _ _ l0_0 (wrap64 ((l0_0.length : Int) - 1)) false (fun k_ => some k_ = (.slice none 0 0 : Value).ownBlock) (.slice none 0 0) ([] : List (S47)) t263 w _ ?side1 ?side2 ?side3 ?side4 A228.out).mono ?_); (case side1 => repeat (first | (with_reducible first | exact HB.out | apply qh_ | apply qc_ | apply qf_ | refine qk_ ?_ (by assumption)) | exact HB.out)); (case side2 => exact Kd.C_kept_came k47_heap HR0_0.out (by repeat (first | (with_reducible first | exact HB.out | apply qh_ | apply qc_ | apply qf_ | refine qk_ ?_ (by assumption)) | exact HB.out)) (fun k_ hs_ => (fun e_ => by simp [Value.ownBlock] at e_) hs_)); (case side3 => exact HC0_0.out); (case side4 => exact Kd.R_nil _ _ _ _ _); rintro e w241 ⟨v264, rfl, ho0, hb, hkp⟩; refine ⟨_, rfl, ?_⟩; replace HO_251000 := Aside0.mk (Kd.V_mono (ok' := fun k_ => k_ ≠ gb232 ∧ k_ ≠ gb233 ∧ k_ ≠ gb236 ∧ k_ ≠ gb240 ∧ k_ ≠ gb244 ∧ k_ ≠ gb250 ∧ k_ ≠ gb251 ∧ k_ ≠ gb252 ∧ some k_ ≠ (v264 : Value).ownBlock) (Kd.V_keptB (HO_251000.out) hkp (fun k_ hk_ hs_ => (fun e_ => by simp [Value.ownBlock] at e_) hs_)) (fun k_ hk_ => ⟨hk_.1.1, hk_.1.2.1, hk_.1.2.2.1, hk_.1.2.2.2.1, hk_.1.2.2.2.2.1, hk_.1.2.2.2.2.2.1, hk_.1.2.2.2.2.2.2.1, hk_.1.2.2.2.2.2.2.2, fun e_ => Or.elim (ho0.1 k_ e_.symm) (fun hs_ => hk_.2.1 hs_) (fun hn_ => Nat.not_le.2 hk_.2.2 hn_)⟩)); replace BK232 := Aside0.mk (blk_kept (by (with_reducible repeat first | apply qa_ | apply qb_ | apply blk_alloc); exact BK232.out) hkp (fun hs_ => (fun e_ => by simp [Value.ownBlock] at e_) hs_)); replace BK233 := Aside0.mk (blk_kept (by (with_reducible repeat first | apply qa_ | apply qb_ | apply blk_alloc); exact BK233.out) hkp (fun hs_ => (fun e_ => by simp [Value.ownBlock] at e_) hs_)); replace BK236 := Aside0.mk (blk_kept (by (with_reducible repeat first | apply qa_ | apply qb_ | apply blk_alloc); exact BK236.out) hkp (fun hs_ => (fun e_ => by simp [Value.ownBlock] at e_) hs_)); replace BK240 := Aside0.mk (blk_kept (by (with_reducible repeat first | apply qa_ | apply qb_ | apply blk_alloc); exact BK240.out) hkp (fun hs_ => (fun e_ => by simp [Value.ownBlock] at e_) hs_)); replace BK244 := Aside0.mk (blk_kept (by (with_reducible repeat first | apply qa_ | apply qb_ | apply blk_alloc); exact BK244.out) hkp (fun hs_ => (fun e_ => by simp [Value.ownBlock] at e_) hs_)); replace BK250 := Aside0.mk (blk_kept (by (with_reducible repeat first | apply qa_ | apply qb_ | apply blk_alloc); exact BK250.out) hkp (fun hs_ => (fun e_ => by simp [Value.ownBlock] at e_) hs_)); replace BK251 := Aside0.mk (blk_kept (by (with_reducible repeat first | apply qa_ | apply qb_ | apply blk_alloc); exact BK251.out) hkp (fun hs_ => (fun e_ => by simp [Value.ownBlock] at e_) hs_)); replace BK252 := Aside0.mk (blk_kept (by (with_reducible repeat first | apply qa_ | apply qb_ | apply blk_alloc); exact BK252.out) hkp (fun hs_ => (fun e_ => by simp [Value.ownBlock] at e_) hs_)); have HO265 := Aside0.mk (Kd.R_mono (ok' := fun k_ => True) ho0 (fun k_ hk_ => trivial)); replace HB := Aside0.mk (hb); (try clear hb); (try clear hkp); (try clear ho0); obtain ⟨Ao242, co242, eo242⟩ := Kd.R_slice HO265.out; subst eo242) | ((with_reducible refine gate_dst (N := 15) rfl ?_); refine qE_ ?hg (N := 15) ?hd (cs := #[.slice none 0 0]) (t := 24) ?hr ?_; (case hd => rfl); (case hg => rfl); (case hr => first | (go_simp; done) | (go_simp; rfl)); intro gb266 hg w243 hbox hb; replace HO_251000 := Aside0.mk (Kd.V_below (Kd.V_elderB (by (with_reducible repeat (first | apply Kd.V_alloc | apply Kd.V_drewN | apply Kd.V_drew)); exact HO_251000.out) gb266 (Nat.le_of_eq hg.symm)) hb); replace HO265 := Aside0.mk (Kd.R_below (by (with_reducible repeat first | apply Kd.R_alloc | apply Kd.R_drewN | apply Kd.R_drew); exact HO265.out) hb); have BK266 := Aside0.mk (hbox); have GW266 := Aside0.mk ((by rw [hg]; exact (qv_ (by repeat (first | (with_reducible first | exact HB.out | apply qh_ | apply qc_ | apply qf_ | refine qk_ ?_ (by assumption)) | exact HB.out))) : w.heap.size ≤ gb266)); have GE266 := Aside0.mk ((by rw [hg]; exact (qv_ (by repeat (first | (with_reducible first | exact HB.out | apply qh_ | apply qc_ | apply qf_ | refine qk_ ?_ (by assumption)) | exact HB.out))) : w.heap.size ≤ gb266)); replace HB := Aside0.mk (qq_ (by repeat (first | (with_reducible first | exact HB.out | apply qh_ | apply qc_ | apply qf_ | refine qk_ ?_ (by assumption)) | exact HB.out)) hb); have NB232_266 := Aside0.mk ((by rw [hg]; exact Nat.ne_of_lt (qB_ (g := gb232) (o := .cells #[.slice A0_0 l0_0.length c0_0] 24 (0, 0)) (by (with_reducible repeat first | apply qa_ | apply qb_ | apply blk_alloc); exact BK232.out)) : gb232 ≠ gb266)); have NB266_232 := Aside0.mk ((by rw [hg]; exact Nat.ne_of_gt (qB_ (g := gb232) (o := .cells #[.slice A0_0 l0_0.length c0_0] 24 (0, 0)) (by (with_reducible repeat first | apply qa_ | apply qb_ | apply blk_alloc); exact BK232.out)) : gb266 ≠ gb232)); replace BK232 := Aside0.mk (ql_ BK232 (by (with_reducible repeat first | apply qa_ | apply qb_ | apply blk_alloc); exact BK232.out) hb); have NB233_266 := Aside0.mk ((by rw [hg]; exact Nat.ne_of_lt (qB_ (g := gb233) (o := .cells #[.int .i64 a1_0, .bool a1_1, .bool a1_2, .int .i64 a1_3] 26 (0, 0)) (by (with_reducible repeat first | apply qa_ | apply qb_ | apply blk_alloc); exact BK233.out)) : gb233 ≠ gb266)); have NB266_233 := Aside0.mk ((by rw [hg]; exact Nat.ne_of_gt (qB_ (g := gb233) (o := .cells #[.int .i64 a1_0, .bool a1_1, .bool a1_2, .int .i64 a1_3] 26 (0, 0)) (by (with_reducible repeat first | apply qa_ | apply qb_ | apply blk_alloc); exact BK233.out)) : gb266 ≠ gb233)); replace BK233 := Aside0.mk (ql_ BK233 (by (with_reducible repeat first | apply qa_ | apply qb_ | apply blk_alloc); exact BK233.out) hb); have NB236_266 := Aside0.mk ((by rw [hg]; exact Nat.ne_of_lt (qB_ (g := gb236) (o := .cells #[.int .i64 t234, .int .i64 t235] 28 (0, 0)) (by (with_reducible repeat first | apply qa_ | apply qb_ | apply blk_alloc); exact BK236.out)) : gb236 ≠ gb266)); have NB266_236 := Aside0.mk ((by rw [hg]; exact Nat.ne_of_gt (qB_ (g := gb236) (o := .cells #[.int .i64 t234, .int .i64 t235] 28 (0, 0)) (by (with_reducible repeat first | apply qa_ | apply qb_ | apply blk_alloc); exact BK236.out)) : gb266 ≠ gb236)); replace BK236 := Aside0.mk (ql_ BK236 (by (with_reducible repeat first | apply qa_ | apply qb_ | apply blk_alloc); exact BK236.out) hb); have NB240_266 := Aside0.mk ((by rw [hg]; exact Nat.ne_of_lt (qB_ (g := gb240) (o := .cells #[.int .i64 t238, .int .i64 t239] 28 (0, 0)) (by (with_reducible repeat first | apply qa_ | apply qb_ | apply blk_alloc); exact BK240.out)) : gb240 ≠ gb266)); have NB266_240 := Aside0.mk ((by rw [hg]; exact Nat.ne_of_gt (qB_ (g := gb240) (o := .cells #[.int .i64 t238, .int .i64 t239] 28 (0, 0)) (by (with_reducible repeat first | apply qa_ | apply qb_ | apply blk_alloc); exact BK240.out)) : gb266 ≠ gb240)); replace BK240 := Aside0.mk (ql_ BK240 (by (with_reducible repeat first | apply qa_ | apply qb_ | apply blk_alloc); exact BK240.out) hb); have NB244_266 := Aside0.mk ((by rw [hg]; exact Nat.ne_of_lt (qB_ (g := gb244) (o := .cells #[.int .i64 t242, .int .i64 t243] 28 (0, 0)) (by (with_reducible repeat first | apply qa_ | apply qb_ | apply blk_alloc); exact BK244.out)) : gb244 ≠ gb266)); have NB266_244 := Aside0.mk ((by rw [hg]; exact Nat.ne_of_gt (qB_ (g := gb244) (o := .cells #[.int .i64 t242, .int .i64 t243] 28 (0, 0)) (by (with_reducible repeat first | apply qa_ | apply qb_ | apply blk_alloc); exact BK244.out)) : gb266 ≠ gb244)); replace BK244 := Aside0.mk (ql_ BK244 (by (with_reducible repeat first | apply qa_ | apply qb_ | apply blk_alloc); exact BK244.out) hb); have NB250_266 := Aside0.mk ((by rw [hg]; exact Nat.ne_of_lt (qB_ (g := gb250) (o := .cells #[.slice Ao37 t245.length co37] 24 (0, 0)) (by (with_reducible repeat first | apply qa_ | apply qb_ | apply blk_alloc); exact BK250.out)) : gb250 ≠ gb266)); have NB266_250 := Aside0.mk ((by rw [hg]; exact Nat.ne_of_gt (qB_ (g := gb250) (o := .cells #[.slice Ao37 t245.length co37] 24 (0, 0)) (by (with_reducible repeat first | apply qa_ | apply qb_ | apply blk_alloc); exact BK250.out)) : gb266 ≠ gb250)); replace BK250 := Aside0.mk (ql_ BK250 (by (with_reducible repeat first | apply qa_ | apply qb_ | apply blk_alloc); exact BK250.out) hb); have NB251_266 := Aside0.mk ((by rw [hg]; exact Nat.ne_of_lt (qB_ (g := gb251) (o := .cells #[.int .i64 t248, .int .i64 t249] 28 (0, 0)) (by (with_reducible repeat first | apply qa_ | apply qb_ | apply blk_alloc); exact BK251.out)) : gb251 ≠ gb266)); have NB266_251 := Aside0.mk ((by rw [hg]; exact Nat.ne_of_gt (qB_ (g := gb251) (o := .cells #[.int .i64 t248, .int .i64 t249] 28 (0, 0)) (by (with_reducible repeat first | apply qa_ | apply qb_ | apply blk_alloc); exact BK251.out)) : gb266 ≠ gb251)); replace BK251 := Aside0.mk (ql_ BK251 (by (with_reducible repeat first | apply qa_ | apply qb_ | apply blk_alloc); exact BK251.out) hb); have NB252_266 := Aside0.mk ((by rw [hg]; exact Nat.ne_of_lt (qB_ (g := gb252) (o := .cells #[.slice none 0 0] 24 (0, 0)) (by (with_reducible repeat first | apply qa_ | apply qb_ | apply blk_alloc); exact BK252.out)) : gb252 ≠ gb266)); have NB266_252 := Aside0.mk ((by rw [hg]; exact Nat.ne_of_gt (qB_ (g := gb252) (o := .cells #[.slice none 0 0] 24 (0, 0)) (by (with_reducible repeat first | apply qa_ | apply qb_ | apply blk_alloc); exact BK252.out)) : gb266 ≠ gb252)); replace BK252 := Aside0.mk (ql_ BK252 (by (with_reducible repeat first | apply qa_ | apply qb_ | apply blk_alloc); exact BK252.out) hb); clear hb hbox hg; have hnb244 := NB266_232.out; have hnc244 := NB232_266.out; have hnb245 := NB266_233.out; have hnc245 := NB233_266.out; have hnb246 := NB266_236.out; have hnc246 := NB236_266.out; have hnb247 := NB266_240.out; have hnc247 := NB240_266.out; have hnb248 := NB266_244.out; have hnc248 := NB244_266.out; have hnb249 := NB266_250.out; have hnc249 := NB250_266.out; have hnb250 := NB266_251.out; have hnc250 := NB251_266.out; have hnb251 := NB266_252.out; have hnc251 := NB252_266.out; have hcz252_0 := qg_ BK266 0 (.slice none 0 0) rfl; have hfz252_0 := qd_ BK266 0) | ((with_reducible refine qs_ (f := 8) rfl ?_); refine goesL_ (some 137) rfl rfl Tryd.func8 (by kernel_rfl) rfl #[.agg #[.slice Ao242 t263.length co242]] rfl (by (try simp only [List.map_toArray]); first | done | rfl) ?_; (with_reducible refine (qr_.calls kj161 _ _ t263 t267 t268 _ ?side1 ?side2 A229.out).mono ?_); (case side1 => refine (Kd.R_reads' (e := 47) (base := w.heap.size) (ok := fun k_ => True) (n := t263.length) (c := co242) ?_).2.2; exact (by (with_reducible repeat first | apply Kd.R_alloc | apply Kd.R_drewN | apply Kd.R_drew); exact (Kd.R_mono (Kd.R_far (p := ⟨gb266, 0, none⟩) (Kd.R_types HO265.out BK266.out (by decide)) (fun _ hk => hk.2) (.slice Ao242 t263.length co242)) (fun _ h_ => h_.1)))); (case side2 => exact (Kd.R_reads' HO265.out).2.1); rintro e w253 ⟨rfl, hb⟩; refine ⟨_, rfl, ?_⟩; replace HO_251000 := Aside0.mk (Kd.V_below (by (with_reducible repeat (first | apply Kd.V_alloc | apply Kd.V_drewN | apply Kd.V_drew)); exact (Kd.V_mono (Kd.V_far (p := ⟨gb266, 0, none⟩) (Kd.V_mono HO_251000.out (fun k_ hk => (⟨hk, hk.2⟩ : _ ∧ k_ ≠ gb266))) (fun _ hk => hk.2) (.slice Ao242 t263.length co242)) (fun _ h_ => h_.1))) hb); replace HO265 := Aside0.mk (Kd.R_below (by (with_reducible repeat first | apply Kd.R_alloc | apply Kd.R_drewN | apply Kd.R_drew); exact (Kd.R_mono (Kd.R_far (p := ⟨gb266, 0, none⟩) (Kd.R_types HO265.out BK266.out (by decide)) (fun _ hk => hk.2) (.slice Ao242 t263.length co242)) (fun _ h_ => h_.1))) hb); replace BK232 := Aside0.mk (ql_ BK232 (by (with_reducible repeat first | apply qa_ | apply qb_ | apply blk_alloc); refine qn_ ?_ NB232_266.out _; (with_reducible repeat first | apply qa_ | apply qb_ | apply blk_alloc); exact BK232.out) hb); replace BK233 := Aside0.mk (ql_ BK233 (by (with_reducible repeat first | apply qa_ | apply qb_ | apply blk_alloc); refine qn_ ?_ NB233_266.out _; (with_reducible repeat first | apply qa_ | apply qb_ | apply blk_alloc); exact BK233.out) hb); replace BK236 := Aside0.mk (ql_ BK236 (by (with_reducible repeat first | apply qa_ | apply qb_ | apply blk_alloc); refine qn_ ?_ NB236_266.out _; (with_reducible repeat first | apply qa_ | apply qb_ | apply blk_alloc); exact BK236.out) hb); replace BK240 := Aside0.mk (ql_ BK240 (by (with_reducible repeat first | apply qa_ | apply qb_ | apply blk_alloc); refine qn_ ?_ NB240_266.out _; (with_reducible repeat first | apply qa_ | apply qb_ | apply blk_alloc); exact BK240.out) hb); replace BK244 := Aside0.mk (ql_ BK244 (by (with_reducible repeat first | apply qa_ | apply qb_ | apply blk_alloc); refine qn_ ?_ NB244_266.out _; (with_reducible repeat first | apply qa_ | apply qb_ | apply blk_alloc); exact BK244.out) hb); replace BK250 := Aside0.mk (ql_ BK250 (by (with_reducible repeat first | apply qa_ | apply qb_ | apply blk_alloc); refine qn_ ?_ NB250_266.out _; (with_reducible repeat first | apply qa_ | apply qb_ | apply blk_alloc); exact BK250.out) hb); replace BK251 := Aside0.mk (ql_ BK251 (by (with_reducible repeat first | apply qa_ | apply qb_ | apply blk_alloc); refine qn_ ?_ NB251_266.out _; (with_reducible repeat first | apply qa_ | apply qb_ | apply blk_alloc); exact BK251.out) hb); replace BK252 := Aside0.mk (ql_ BK252 (by (with_reducible repeat first | apply qa_ | apply qb_ | apply blk_alloc); refine qn_ ?_ NB252_266.out _; (with_reducible repeat first | apply qa_ | apply qb_ | apply blk_alloc); exact BK252.out) hb); replace BK266 := Aside0.mk (qy_ (g := gb266) (o := .cells #[.slice Ao242 t263.length co242] 24 (0, 0)) (by (with_reducible repeat first | apply qa_ | apply qb_ | apply blk_alloc); refine qA_ (cs := #[.slice none 0 0]) ?_ 0 _ rfl; (with_reducible repeat first | apply qa_ | apply qb_ | apply blk_alloc); exact BK266.out) hb); replace HB := Aside0.mk (qq_ (by repeat (first | (with_reducible first | exact HB.out | apply qh_ | apply qc_ | apply qf_ | refine qk_ ?_ (by assumption)) | exact HB.out)) hb); (try clear hb); have hnb254 := NB251_233.out; have hnc254 := NB233_251.out; have hnb255 := NB251_236.out; have hnc255 := NB236_251.out; have hnb256 := NB251_240.out; have hnc256 := NB240_251.out; have hnb257 := NB251_244.out; have hnc257 := NB244_251.out; have hnb258 := NB251_250.out; have hnc258 := NB250_251.out; have hnb259 := NB251_252.out; have hnc259 := NB252_251.out; have hcz260_0 := qg_ BK251 0 (.int .i64 t248) rfl; have hcz260_1 := qg_ BK251 1 (.int .i64 t249) rfl; have hfz260_0 := qd_ BK251 0; have hfz260_1 := qd_ BK251 1; have hnb261 := NB250_233.out; have hnc261 := NB233_250.out; have hnb262 := NB250_236.out; have hnc262 := NB236_250.out; have hnb263 := NB250_240.out; have hnc263 := NB240_250.out; have hnb264 := NB250_244.out; have hnc264 := NB244_250.out; have hnb265 := NB250_252.out; have hnc265 := NB252_250.out; have hcz266_0 := qg_ BK250 0 (.slice Ao37 t245.length co37) rfl; have hfz266_0 := qd_ BK250 0; have hcz267_0 := qg_ BK266 0 (.slice Ao242 t263.length co242) rfl; have hfz267_0 := qd_ BK266 0) | (go_at_call 14; (with_reducible refine (qp_.calls kj161 _ _ t245 _ _ t263 t269 _ ?side1 ?side2 ?side3 ?side4 A232.out).mono ?_); (case side1 => repeat (first | exact (Kd.V_reads' HO_251000.out).2.2 | (with_reducible refine Kd.C_alloc ?_ _) | (with_reducible refine Kd.C_drewN ?_ _) | (with_reducible refine Kd.C_drew ?_))); (case side2 => exact (Kd.V_reads' HO_251000.out).2.1); (case side3 => repeat (first | exact (Kd.R_reads' HO265.out).2.2 | (with_reducible refine Kd.C_alloc ?_ _) | (with_reducible refine Kd.C_drewN ?_ _) | (with_reducible refine Kd.C_drew ?_))); (case side4 => exact (Kd.R_reads' HO265.out).2.1); rintro e w268 ⟨rfl, hb⟩; replace HO_251000 := Aside0.mk (Kd.V_below (by (with_reducible repeat (first | apply Kd.V_alloc | apply Kd.V_drewN | apply Kd.V_drew)); exact HO_251000.out) hb); replace HO265 := Aside0.mk (Kd.R_below (by (with_reducible repeat first | apply Kd.R_alloc | apply Kd.R_drewN | apply Kd.R_drew); exact HO265.out) hb); replace BK232 := Aside0.mk (ql_ BK232 (by (with_reducible repeat first | apply qa_ | apply qb_ | apply blk_alloc); exact BK232.out) hb); replace BK233 := Aside0.mk (ql_ BK233 (by (with_reducible repeat first | apply qa_ | apply qb_ | apply blk_alloc); exact BK233.out) hb); replace BK236 := Aside0.mk (ql_ BK236 (by (with_reducible repeat first | apply qa_ | apply qb_ | apply blk_alloc); exact BK236.out) hb); replace BK240 := Aside0.mk (ql_ BK240 (by (with_reducible repeat first | apply qa_ | apply qb_ | apply blk_alloc); exact BK240.out) hb); replace BK244 := Aside0.mk (ql_ BK244 (by (with_reducible repeat first | apply qa_ | apply qb_ | apply blk_alloc); exact BK244.out) hb); replace BK250 := Aside0.mk (ql_ BK250 (by (with_reducible repeat first | apply qa_ | apply qb_ | apply blk_alloc); exact BK250.out) hb); replace BK251 := Aside0.mk (ql_ BK251 (by (with_reducible repeat first | apply qa_ | apply qb_ | apply blk_alloc); exact BK251.out) hb); replace BK252 := Aside0.mk (ql_ BK252 (by (with_reducible repeat first | apply qa_ | apply qb_ | apply blk_alloc); exact BK252.out) hb); replace BK266 := Aside0.mk (ql_ BK266 (by (with_reducible repeat first | apply qa_ | apply qb_ | apply blk_alloc); exact BK266.out) hb); replace HB := Aside0.mk (qq_ (by repeat (first | (with_reducible first | exact HB.out | apply qh_ | apply qc_ | apply qf_ | refine qk_ ?_ (by assumption)) | exact HB.out)) hb); (try clear hb)))
             go_ret
             exact ⟨by first | rfl | (simp [*] <;> rfl), by repeat (first | (with_reducible first | exact HB.out | apply qh_ | apply qc_ | apply qf_ | refine qk_ ?_ (by assumption)) | exact HB.out)⟩
            ·rw [if_neg c231] at H
             have c231b0 : (t248 == 0) = false := beq_eq_false_iff_ne.mpr c231
             have c231b1 : (t248 != 0) = true := bne_iff_ne.mpr c231
             exact absurd H (by simp)
           ·rw [if_neg c230] at H
            have c230b0 : (t267 == 0) = false := beq_eq_false_iff_ne.mpr c230
            have c230b1 : (t267 != 0) = true := bne_iff_ne.mpr c230
            replace H := Option.bind_eq_some_iff.mp H
            obtain ⟨⟨t270, t271⟩, A2970, H⟩ := H
            replace H : (if (t248 == t270 && (t249 == t271)) = true then ((qp_.f kj161 t245 ([] : List (S47))).bind fun t272 => (some t272)) else (none)) = some r := H
            have A297 := Aside0.mk A2970
            clear A2970
            by_cases c298 : (t248 == t270 && (t249 == t271)) = true
            ·rw [if_pos c298] at H
             have c298b0 : (t248 == t270 && (t249 == t271)) = true := c298
             (try (have c298b1 : decide (t248 = t270 && (t249 == t271)) = true := by simpa using c298))
             (try (have c298b2 : (t248 == t270 && (t249 == t271)) = true := by simpa using c298))
             clear c298
             replace H := Option.bind_eq_some_iff.mp H
             obtain ⟨t272, A2990, H⟩ := H
             replace H : (some t272) = some r := H
             have A299 := Aside0.mk A2990
             clear A2990
             obtain rfl := Option.some.inj H
             have hcz307_0 := qg_ BK232 0 (.slice A0_0 l0_0.length c0_0) rfl
             have hfz307_0 := qd_ BK232 0
             try go_wp2_with (first | ((with_reducible refine qs_ (f := 18) rfl ?_); refine goesL_ (some 134) rfl rfl Tryd.func18 (by kernel_rfl) rfl #[.agg #[.slice A0_0 l0_0.length c0_0], .int .i64 (wrap64 ((l0_0.length : Int) - 1)), .bool false, .slice none 0 0] rfl (by (try simp only [List.map_toArray]); first | done | rfl) ?_; (refine (qz_.calls kj161 _ _ l0_0 (wrap64 ((l0_0.length : Int) - 1)) false (fun k_ => some k_ = (.slice none 0 0 : Value).ownBlock) (.slice none 0 0) ([] : List (S47)) t263 w _ ?side1 ?side2 ?side3 ?side4 A228.out).mono ?_); (case side1 => repeat (first | (with_reducible first | exact HB.out | apply qh_ | apply qc_ | apply qf_ | refine qk_ ?_ (by assumption)) | exact HB.out)); (case side2 => exact Kd.C_kept_came k47_heap HR0_0.out (by repeat (first | (with_reducible first | exact HB.out | apply qh_ | apply qc_ | apply qf_ | refine qk_ ?_ (by assumption)) | exact HB.out)) (fun k_ hs_ => (fun e_ => by simp [Value.ownBlock] at e_) hs_)); (case side3 => exact HC0_0.out); (case side4 => exact Kd.R_nil _ _ _ _ _); rintro e w308 ⟨v264, rfl, ho0, hb, hkp⟩; refine ⟨_, rfl, ?_⟩; replace HO_251000 := Aside0.mk (Kd.V_mono (ok' := fun k_ => k_ ≠ gb232 ∧ k_ ≠ gb233 ∧ k_ ≠ gb236 ∧ k_ ≠ gb240 ∧ k_ ≠ gb244 ∧ k_ ≠ gb250 ∧ k_ ≠ gb251 ∧ k_ ≠ gb252 ∧ some k_ ≠ (v264 : Value).ownBlock) (Kd.V_keptB (HO_251000.out) hkp (fun k_ hk_ hs_ => (fun e_ => by simp [Value.ownBlock] at e_) hs_)) (fun k_ hk_ => ⟨hk_.1.1, hk_.1.2.1, hk_.1.2.2.1, hk_.1.2.2.2.1, hk_.1.2.2.2.2.1, hk_.1.2.2.2.2.2.1, hk_.1.2.2.2.2.2.2.1, hk_.1.2.2.2.2.2.2.2, fun e_ => Or.elim (ho0.1 k_ e_.symm) (fun hs_ => hk_.2.1 hs_) (fun hn_ => Nat.not_le.2 hk_.2.2 hn_)⟩)); replace BK232 := Aside0.mk (blk_kept (by (with_reducible repeat first | apply qa_ | apply qb_ | apply blk_alloc); exact BK232.out) hkp (fun hs_ => (fun e_ => by simp [Value.ownBlock] at e_) hs_)); replace BK233 := Aside0.mk (blk_kept (by (with_reducible repeat first | apply qa_ | apply qb_ | apply blk_alloc); exact BK233.out) hkp (fun hs_ => (fun e_ => by simp [Value.ownBlock] at e_) hs_)); replace BK236 := Aside0.mk (blk_kept (by (with_reducible repeat first | apply qa_ | apply qb_ | apply blk_alloc); exact BK236.out) hkp (fun hs_ => (fun e_ => by simp [Value.ownBlock] at e_) hs_)); replace BK240 := Aside0.mk (blk_kept (by (with_reducible repeat first | apply qa_ | apply qb_ | apply blk_alloc); exact BK240.out) hkp (fun hs_ => (fun e_ => by simp [Value.ownBlock] at e_) hs_)); replace BK244 := Aside0.mk (blk_kept (by (with_reducible repeat first | apply qa_ | apply qb_ | apply blk_alloc); exact BK244.out) hkp (fun hs_ => (fun e_ => by simp [Value.ownBlock] at e_) hs_)); replace BK250 := Aside0.mk (blk_kept (by (with_reducible repeat first | apply qa_ | apply qb_ | apply blk_alloc); exact BK250.out) hkp (fun hs_ => (fun e_ => by simp [Value.ownBlock] at e_) hs_)); replace BK251 := Aside0.mk (blk_kept (by (with_reducible repeat first | apply qa_ | apply qb_ | apply blk_alloc); exact BK251.out) hkp (fun hs_ => (fun e_ => by simp [Value.ownBlock] at e_) hs_)); replace BK252 := Aside0.mk (blk_kept (by (with_reducible repeat first | apply qa_ | apply qb_ | apply blk_alloc); exact BK252.out) hkp (fun hs_ => (fun e_ => by simp [Value.ownBlock] at e_) hs_)); have HO265 := Aside0.mk (Kd.R_mono (ok' := fun k_ => True) ho0 (fun k_ hk_ => trivial)); replace HB := Aside0.mk (hb); (try clear hb); (try clear hkp); (try clear ho0); obtain ⟨Ao309, co309, eo309⟩ := Kd.R_slice HO265.out; subst eo309) | ((with_reducible refine gate_dst (N := 15) rfl ?_); refine qE_ ?hg (N := 15) ?hd (cs := #[.slice none 0 0]) (t := 24) ?hr ?_; (case hd => rfl); (case hg => rfl); (case hr => first | (go_simp; done) | (go_simp; rfl)); intro gb266 hg w310 hbox hb; replace HO_251000 := Aside0.mk (Kd.V_below (Kd.V_elderB (by (with_reducible repeat (first | apply Kd.V_alloc | apply Kd.V_drewN | apply Kd.V_drew)); exact HO_251000.out) gb266 (Nat.le_of_eq hg.symm)) hb); replace HO265 := Aside0.mk (Kd.R_below (by (with_reducible repeat first | apply Kd.R_alloc | apply Kd.R_drewN | apply Kd.R_drew); exact HO265.out) hb); have BK266 := Aside0.mk (hbox); have GW266 := Aside0.mk ((by rw [hg]; exact (qv_ (by repeat (first | (with_reducible first | exact HB.out | apply qh_ | apply qc_ | apply qf_ | refine qk_ ?_ (by assumption)) | exact HB.out))) : w.heap.size ≤ gb266)); have GE266 := Aside0.mk ((by rw [hg]; exact (qv_ (by repeat (first | (with_reducible first | exact HB.out | apply qh_ | apply qc_ | apply qf_ | refine qk_ ?_ (by assumption)) | exact HB.out))) : w.heap.size ≤ gb266)); replace HB := Aside0.mk (qq_ (by repeat (first | (with_reducible first | exact HB.out | apply qh_ | apply qc_ | apply qf_ | refine qk_ ?_ (by assumption)) | exact HB.out)) hb); have NB232_266 := Aside0.mk ((by rw [hg]; exact Nat.ne_of_lt (qB_ (g := gb232) (o := .cells #[.slice A0_0 l0_0.length c0_0] 24 (0, 0)) (by (with_reducible repeat first | apply qa_ | apply qb_ | apply blk_alloc); exact BK232.out)) : gb232 ≠ gb266)); have NB266_232 := Aside0.mk ((by rw [hg]; exact Nat.ne_of_gt (qB_ (g := gb232) (o := .cells #[.slice A0_0 l0_0.length c0_0] 24 (0, 0)) (by (with_reducible repeat first | apply qa_ | apply qb_ | apply blk_alloc); exact BK232.out)) : gb266 ≠ gb232)); replace BK232 := Aside0.mk (ql_ BK232 (by (with_reducible repeat first | apply qa_ | apply qb_ | apply blk_alloc); exact BK232.out) hb); have NB233_266 := Aside0.mk ((by rw [hg]; exact Nat.ne_of_lt (qB_ (g := gb233) (o := .cells #[.int .i64 a1_0, .bool a1_1, .bool a1_2, .int .i64 a1_3] 26 (0, 0)) (by (with_reducible repeat first | apply qa_ | apply qb_ | apply blk_alloc); exact BK233.out)) : gb233 ≠ gb266)); have NB266_233 := Aside0.mk ((by rw [hg]; exact Nat.ne_of_gt (qB_ (g := gb233) (o := .cells #[.int .i64 a1_0, .bool a1_1, .bool a1_2, .int .i64 a1_3] 26 (0, 0)) (by (with_reducible repeat first | apply qa_ | apply qb_ | apply blk_alloc); exact BK233.out)) : gb266 ≠ gb233)); replace BK233 := Aside0.mk (ql_ BK233 (by (with_reducible repeat first | apply qa_ | apply qb_ | apply blk_alloc); exact BK233.out) hb); have NB236_266 := Aside0.mk ((by rw [hg]; exact Nat.ne_of_lt (qB_ (g := gb236) (o := .cells #[.int .i64 t234, .int .i64 t235] 28 (0, 0)) (by (with_reducible repeat first | apply qa_ | apply qb_ | apply blk_alloc); exact BK236.out)) : gb236 ≠ gb266)); have NB266_236 := Aside0.mk ((by rw [hg]; exact Nat.ne_of_gt (qB_ (g := gb236) (o := .cells #[.int .i64 t234, .int .i64 t235] 28 (0, 0)) (by (with_reducible repeat first | apply qa_ | apply qb_ | apply blk_alloc); exact BK236.out)) : gb266 ≠ gb236)); replace BK236 := Aside0.mk (ql_ BK236 (by (with_reducible repeat first | apply qa_ | apply qb_ | apply blk_alloc); exact BK236.out) hb); have NB240_266 := Aside0.mk ((by rw [hg]; exact Nat.ne_of_lt (qB_ (g := gb240) (o := .cells #[.int .i64 t238, .int .i64 t239] 28 (0, 0)) (by (with_reducible repeat first | apply qa_ | apply qb_ | apply blk_alloc); exact BK240.out)) : gb240 ≠ gb266)); have NB266_240 := Aside0.mk ((by rw [hg]; exact Nat.ne_of_gt (qB_ (g := gb240) (o := .cells #[.int .i64 t238, .int .i64 t239] 28 (0, 0)) (by (with_reducible repeat first | apply qa_ | apply qb_ | apply blk_alloc); exact BK240.out)) : gb266 ≠ gb240)); replace BK240 := Aside0.mk (ql_ BK240 (by (with_reducible repeat first | apply qa_ | apply qb_ | apply blk_alloc); exact BK240.out) hb); have NB244_266 := Aside0.mk ((by rw [hg]; exact Nat.ne_of_lt (qB_ (g := gb244) (o := .cells #[.int .i64 t242, .int .i64 t243] 28 (0, 0)) (by (with_reducible repeat first | apply qa_ | apply qb_ | apply blk_alloc); exact BK244.out)) : gb244 ≠ gb266)); have NB266_244 := Aside0.mk ((by rw [hg]; exact Nat.ne_of_gt (qB_ (g := gb244) (o := .cells #[.int .i64 t242, .int .i64 t243] 28 (0, 0)) (by (with_reducible repeat first | apply qa_ | apply qb_ | apply blk_alloc); exact BK244.out)) : gb266 ≠ gb244)); replace BK244 := Aside0.mk (ql_ BK244 (by (with_reducible repeat first | apply qa_ | apply qb_ | apply blk_alloc); exact BK244.out) hb); have NB250_266 := Aside0.mk ((by rw [hg]; exact Nat.ne_of_lt (qB_ (g := gb250) (o := .cells #[.slice Ao37 t245.length co37] 24 (0, 0)) (by (with_reducible repeat first | apply qa_ | apply qb_ | apply blk_alloc); exact BK250.out)) : gb250 ≠ gb266)); have NB266_250 := Aside0.mk ((by rw [hg]; exact Nat.ne_of_gt (qB_ (g := gb250) (o := .cells #[.slice Ao37 t245.length co37] 24 (0, 0)) (by (with_reducible repeat first | apply qa_ | apply qb_ | apply blk_alloc); exact BK250.out)) : gb266 ≠ gb250)); replace BK250 := Aside0.mk (ql_ BK250 (by (with_reducible repeat first | apply qa_ | apply qb_ | apply blk_alloc); exact BK250.out) hb); have NB251_266 := Aside0.mk ((by rw [hg]; exact Nat.ne_of_lt (qB_ (g := gb251) (o := .cells #[.int .i64 t248, .int .i64 t249] 28 (0, 0)) (by (with_reducible repeat first | apply qa_ | apply qb_ | apply blk_alloc); exact BK251.out)) : gb251 ≠ gb266)); have NB266_251 := Aside0.mk ((by rw [hg]; exact Nat.ne_of_gt (qB_ (g := gb251) (o := .cells #[.int .i64 t248, .int .i64 t249] 28 (0, 0)) (by (with_reducible repeat first | apply qa_ | apply qb_ | apply blk_alloc); exact BK251.out)) : gb266 ≠ gb251)); replace BK251 := Aside0.mk (ql_ BK251 (by (with_reducible repeat first | apply qa_ | apply qb_ | apply blk_alloc); exact BK251.out) hb); have NB252_266 := Aside0.mk ((by rw [hg]; exact Nat.ne_of_lt (qB_ (g := gb252) (o := .cells #[.slice none 0 0] 24 (0, 0)) (by (with_reducible repeat first | apply qa_ | apply qb_ | apply blk_alloc); exact BK252.out)) : gb252 ≠ gb266)); have NB266_252 := Aside0.mk ((by rw [hg]; exact Nat.ne_of_gt (qB_ (g := gb252) (o := .cells #[.slice none 0 0] 24 (0, 0)) (by (with_reducible repeat first | apply qa_ | apply qb_ | apply blk_alloc); exact BK252.out)) : gb266 ≠ gb252)); replace BK252 := Aside0.mk (ql_ BK252 (by (with_reducible repeat first | apply qa_ | apply qb_ | apply blk_alloc); exact BK252.out) hb); clear hb hbox hg; have hnb311 := NB266_232.out; have hnc311 := NB232_266.out; have hnb312 := NB266_233.out; have hnc312 := NB233_266.out; have hnb313 := NB266_236.out; have hnc313 := NB236_266.out; have hnb314 := NB266_240.out; have hnc314 := NB240_266.out; have hnb315 := NB266_244.out; have hnc315 := NB244_266.out; have hnb316 := NB266_250.out; have hnc316 := NB250_266.out; have hnb317 := NB266_251.out; have hnc317 := NB251_266.out; have hnb318 := NB266_252.out; have hnc318 := NB252_266.out; have hcz319_0 := qg_ BK266 0 (.slice none 0 0) rfl; have hfz319_0 := qd_ BK266 0) | ((with_reducible refine qs_ (f := 8) rfl ?_); refine goesL_ (some 137) rfl rfl Tryd.func8 (by kernel_rfl) rfl #[.agg #[.slice Ao309 t263.length co309]] rfl (by (try simp only [List.map_toArray]); first | done | rfl) ?_; (with_reducible refine (qr_.calls kj161 _ _ t263 t267 t268 _ ?side1 ?side2 A229.out).mono ?_); (case side1 => refine (Kd.R_reads' (e := 47) (base := w.heap.size) (ok := fun k_ => True) (n := t263.length) (c := co309) ?_).2.2; exact (by (with_reducible repeat first | apply Kd.R_alloc | apply Kd.R_drewN | apply Kd.R_drew); exact (Kd.R_mono (Kd.R_far (p := ⟨gb266, 0, none⟩) (Kd.R_types HO265.out BK266.out (by decide)) (fun _ hk => hk.2) (.slice Ao309 t263.length co309)) (fun _ h_ => h_.1)))); (case side2 => exact (Kd.R_reads' HO265.out).2.1); rintro e w320 ⟨rfl, hb⟩; refine ⟨_, rfl, ?_⟩; replace HO_251000 := Aside0.mk (Kd.V_below (by (with_reducible repeat (first | apply Kd.V_alloc | apply Kd.V_drewN | apply Kd.V_drew)); exact (Kd.V_mono (Kd.V_far (p := ⟨gb266, 0, none⟩) (Kd.V_mono HO_251000.out (fun k_ hk => (⟨hk, hk.2⟩ : _ ∧ k_ ≠ gb266))) (fun _ hk => hk.2) (.slice Ao309 t263.length co309)) (fun _ h_ => h_.1))) hb); replace HO265 := Aside0.mk (Kd.R_below (by (with_reducible repeat first | apply Kd.R_alloc | apply Kd.R_drewN | apply Kd.R_drew); exact (Kd.R_mono (Kd.R_far (p := ⟨gb266, 0, none⟩) (Kd.R_types HO265.out BK266.out (by decide)) (fun _ hk => hk.2) (.slice Ao309 t263.length co309)) (fun _ h_ => h_.1))) hb); replace BK232 := Aside0.mk (ql_ BK232 (by (with_reducible repeat first | apply qa_ | apply qb_ | apply blk_alloc); refine qn_ ?_ NB232_266.out _; (with_reducible repeat first | apply qa_ | apply qb_ | apply blk_alloc); exact BK232.out) hb); replace BK233 := Aside0.mk (ql_ BK233 (by (with_reducible repeat first | apply qa_ | apply qb_ | apply blk_alloc); refine qn_ ?_ NB233_266.out _; (with_reducible repeat first | apply qa_ | apply qb_ | apply blk_alloc); exact BK233.out) hb); replace BK236 := Aside0.mk (ql_ BK236 (by (with_reducible repeat first | apply qa_ | apply qb_ | apply blk_alloc); refine qn_ ?_ NB236_266.out _; (with_reducible repeat first | apply qa_ | apply qb_ | apply blk_alloc); exact BK236.out) hb); replace BK240 := Aside0.mk (ql_ BK240 (by (with_reducible repeat first | apply qa_ | apply qb_ | apply blk_alloc); refine qn_ ?_ NB240_266.out _; (with_reducible repeat first | apply qa_ | apply qb_ | apply blk_alloc); exact BK240.out) hb); replace BK244 := Aside0.mk (ql_ BK244 (by (with_reducible repeat first | apply qa_ | apply qb_ | apply blk_alloc); refine qn_ ?_ NB244_266.out _; (with_reducible repeat first | apply qa_ | apply qb_ | apply blk_alloc); exact BK244.out) hb); replace BK250 := Aside0.mk (ql_ BK250 (by (with_reducible repeat first | apply qa_ | apply qb_ | apply blk_alloc); refine qn_ ?_ NB250_266.out _; (with_reducible repeat first | apply qa_ | apply qb_ | apply blk_alloc); exact BK250.out) hb); replace BK251 := Aside0.mk (ql_ BK251 (by (with_reducible repeat first | apply qa_ | apply qb_ | apply blk_alloc); refine qn_ ?_ NB251_266.out _; (with_reducible repeat first | apply qa_ | apply qb_ | apply blk_alloc); exact BK251.out) hb); replace BK252 := Aside0.mk (ql_ BK252 (by (with_reducible repeat first | apply qa_ | apply qb_ | apply blk_alloc); refine qn_ ?_ NB252_266.out _; (with_reducible repeat first | apply qa_ | apply qb_ | apply blk_alloc); exact BK252.out) hb); replace BK266 := Aside0.mk (qy_ (g := gb266) (o := .cells #[.slice Ao309 t263.length co309] 24 (0, 0)) (by (with_reducible repeat first | apply qa_ | apply qb_ | apply blk_alloc); refine qA_ (cs := #[.slice none 0 0]) ?_ 0 _ rfl; (with_reducible repeat first | apply qa_ | apply qb_ | apply blk_alloc); exact BK266.out) hb); replace HB := Aside0.mk (qq_ (by repeat (first | (with_reducible first | exact HB.out | apply qh_ | apply qc_ | apply qf_ | refine qk_ ?_ (by assumption)) | exact HB.out)) hb); (try clear hb)))
             replace HO_251000 := Aside0.mk (Kd.V_drew HO_251000.out)
             replace HO265 := Aside0.mk (Kd.R_drew HO265.out)
             replace BK232 := Aside0.mk (qb_ BK232.out)
             replace BK233 := Aside0.mk (qb_ BK233.out)
             replace BK236 := Aside0.mk (qb_ BK236.out)
             replace BK240 := Aside0.mk (qb_ BK240.out)
             replace BK244 := Aside0.mk (qb_ BK244.out)
             replace BK250 := Aside0.mk (qb_ BK250.out)
             replace BK251 := Aside0.mk (qb_ BK251.out)
             replace BK252 := Aside0.mk (qb_ BK252.out)
             replace BK266 := Aside0.mk (qb_ BK266.out)
             replace HB := Aside0.mk (qf_ HB.out)
             refine start_ (n := 9) (S := fun w' => w'.cell? ⟨gb251, 0, none⟩ = some (.int .i64 t248) ∧ w'.cell? ⟨gb251, 1, none⟩ = some (.int .i64 t249) ∧ w'.cell? ⟨gb250, 0, none⟩ = some (.slice Ao37 t245.length co37) ∧ w'.cell? ⟨gb252, 0, none⟩ = some (.slice none 0 0)) (ds := []) #[false, false, false, false, false, false, false, false, false] (by kernel_rfl) rfl rfl ⟨(qm_ BK251.out 0).trans rfl, (qm_ BK251.out 1).trans rfl, (qm_ BK250.out 0).trans rfl, (qm_ BK252.out 0).trans rfl⟩ (fun hHeld => ?_); refine with_tabW qe_.tab24 qe_.bits24 (fun HT_ HW_ => ?_)
             generalize w320.drew = w321 at HO_251000 HO265 BK232 BK233 BK236 BK240 BK244 BK250 BK251 BK252 BK266 HB hHeld ⊢
             refine take_ (i := 0) (N := some 140) (v := ?_) (a' := ?_) #[true, false, false, false, false, false, false, false, false] rfl rfl (take_ofW HT_.out HW_.out (by kernel_rfl)) (fun _ _ _ h => h) (Or.inl ⟨by rfl, ?_⟩) hHeld ?_ ?_
             rotate_left
             ·rintro w' ⟨s0, s1, s2, s3⟩
              go_simp
              with_reducible rfl
             rotate_left
             ·simp only [Act.put, List.setIfInBounds_toArray, List.set_cons_zero, List.set_cons_succ, i64_w, i32_w]
              rfl
             refine one_ (i := 1) (N := some 141) #[true, true, false, false, false, false, false, false, false] rfl rfl (one_of HT_.out (by kernel_rfl)) (by decide) (fun K hK => ?_)
             refine goes_ Tryd.func16 (by kernel_rfl) rfl #[.int .i64 10, .int .i64 (-1)] (by rfl) rfl rfl (by (try simp only [List.map_toArray]); first | done | rfl) ?_
             with_reducible refine (qF_.calls 10 (-1) t270 t271 _ A297.out).mono ?_
             rintro e w322 ⟨rfl, hb⟩
             refine ⟨_, rfl, ?_⟩
             replace HO_251000 := Aside0.mk (Kd.V_below (by (with_reducible repeat (first | apply Kd.V_alloc | apply Kd.V_drewN | apply Kd.V_drew)); exact HO_251000.out) hb)
             replace HO265 := Aside0.mk (Kd.R_below (by (with_reducible repeat first | apply Kd.R_alloc | apply Kd.R_drewN | apply Kd.R_drew); exact HO265.out) hb)
             replace BK232 := Aside0.mk (ql_ BK232 (by (with_reducible repeat first | apply qa_ | apply qb_ | apply blk_alloc); exact BK232.out) hb)
             replace BK233 := Aside0.mk (ql_ BK233 (by (with_reducible repeat first | apply qa_ | apply qb_ | apply blk_alloc); exact BK233.out) hb)
             replace BK236 := Aside0.mk (ql_ BK236 (by (with_reducible repeat first | apply qa_ | apply qb_ | apply blk_alloc); exact BK236.out) hb)
             replace BK240 := Aside0.mk (ql_ BK240 (by (with_reducible repeat first | apply qa_ | apply qb_ | apply blk_alloc); exact BK240.out) hb)
             replace BK244 := Aside0.mk (ql_ BK244 (by (with_reducible repeat first | apply qa_ | apply qb_ | apply blk_alloc); exact BK244.out) hb)
             replace BK250 := Aside0.mk (ql_ BK250 (by (with_reducible repeat first | apply qa_ | apply qb_ | apply blk_alloc); exact BK250.out) hb)
             replace BK251 := Aside0.mk (ql_ BK251 (by (with_reducible repeat first | apply qa_ | apply qb_ | apply blk_alloc); exact BK251.out) hb)
             replace BK252 := Aside0.mk (ql_ BK252 (by (with_reducible repeat first | apply qa_ | apply qb_ | apply blk_alloc); exact BK252.out) hb)
             replace BK266 := Aside0.mk (ql_ BK266 (by (with_reducible repeat first | apply qa_ | apply qb_ | apply blk_alloc); exact BK266.out) hb)
             replace HB := Aside0.mk (qq_ (by repeat (first | (with_reducible first | exact HB.out | apply qh_ | apply qc_ | apply qf_ | refine qk_ ?_ (by assumption)) | exact HB.out)) hb)
             (try clear hb)
             refine hK.out _ _ ⟨(qm_ BK251.out 0).trans rfl, (qm_ BK251.out 1).trans rfl, (qm_ BK250.out 0).trans rfl, (qm_ BK252.out 0).trans rfl⟩ (fun hHeld => ?_)
             clear hK K
             refine norm_ (a' := ?_) ?_ ?_
             rotate_left
             ·show Act.put _ (some 141) _ = _
              simp only [Act.put, List.setIfInBounds_toArray, List.set_cons_zero, List.set_cons_succ, i64_w, i32_w]
              rfl
             refine pure_ (i := 2) (N := some 142) (v := ?_) (a' := ?_) #[true, true, true, false, false, false, false, false, false] rfl rfl (any_of HT_.out (by kernel_rfl)) (fun _ _ _ h => h) (Or.inl ⟨by rfl, ?_⟩) ?_ ?_
             rotate_left
             ·intro w'
              go_simp
              with_reducible rfl
             rotate_left
             ·simp only [Act.put, List.setIfInBounds_toArray, List.set_cons_zero, List.set_cons_succ, i64_w, i32_w]
              rfl
             refine pure_ (i := 3) (N := some 143) (v := ?_) (a' := ?_) #[true, true, true, true, false, false, false, false, false] rfl rfl (any_of HT_.out (by kernel_rfl)) (fun _ _ _ h => h) (Or.inl ⟨by rfl, ?_⟩) ?_ ?_
             rotate_left
             ·intro w'
              go_simp
              with_reducible rfl
             rotate_left
             ·simp only [Act.put, List.setIfInBounds_toArray, List.set_cons_zero, List.set_cons_succ, i64_w, i32_w]
              rfl
             refine take_ (i := 4) (N := some 144) (v := ?_) (a' := ?_) #[true, true, true, true, true, false, false, false, false] rfl rfl (take_ofW HT_.out HW_.out (by kernel_rfl)) (fun _ _ _ h => h) (Or.inl ⟨by rfl, ?_⟩) hHeld ?_ ?_
             rotate_left
             ·rintro w' ⟨s0, s1, s2, s3⟩
              go_simp
              with_reducible rfl
             rotate_left
             ·simp only [Act.put, List.setIfInBounds_toArray, List.set_cons_zero, List.set_cons_succ, i64_w, i32_w]
              rfl
             refine take_ (i := 5) (N := some 145) (v := ?_) (a' := ?_) #[true, true, true, true, true, true, false, false, false] rfl rfl (take_ofW HT_.out HW_.out (by kernel_rfl)) (fun _ _ _ h => h) (Or.inl ⟨by rfl, ?_⟩) hHeld ?_ ?_
             rotate_left
             ·rintro w' ⟨s0, s1, s2, s3⟩
              go_simp
              with_reducible rfl
             rotate_left
             ·simp only [Act.put, List.setIfInBounds_toArray, List.set_cons_zero, List.set_cons_succ, i64_w, i32_w]
              rfl
             refine one_ (i := 6) (N := some 146) #[true, true, true, true, true, true, true, false, false] rfl rfl (one_of HT_.out (by kernel_rfl)) (by decide) (fun K hK => ?_)
             refine goes_ Tryd.func14 (by kernel_rfl) rfl #[.agg #[.slice Ao37 t245.length co37], .agg #[.slice none 0 0]] (by rfl) rfl rfl (by (try simp only [List.map_toArray]); first | done | rfl) ?_
             refine (qp_.calls kj161 _ _ t245 _ _ ([] : List (S47)) t272 _ ?side1 ?side2 ?side3 ?side4 A299.out).mono ?_
             (case side1 => repeat (first | exact (Kd.V_reads' HO_251000.out).2.2 | (with_reducible refine Kd.C_alloc ?_ _) | (with_reducible refine Kd.C_drewN ?_ _) | (with_reducible refine Kd.C_drew ?_)))
             (case side2 => exact (Kd.V_reads' HO_251000.out).2.1)
             (case side3 => exact Kd.C_nil _ _)
             (case side4 => exact Nat.le_refl _)
             rintro e w323 ⟨rfl, hb⟩
             refine ⟨_, rfl, ?_⟩
             replace HO_251000 := Aside0.mk (Kd.V_below (by (with_reducible repeat (first | apply Kd.V_alloc | apply Kd.V_drewN | apply Kd.V_drew)); exact HO_251000.out) hb)
             replace HO265 := Aside0.mk (Kd.R_below (by (with_reducible repeat first | apply Kd.R_alloc | apply Kd.R_drewN | apply Kd.R_drew); exact HO265.out) hb)
             replace BK232 := Aside0.mk (ql_ BK232 (by (with_reducible repeat first | apply qa_ | apply qb_ | apply blk_alloc); exact BK232.out) hb)
             replace BK233 := Aside0.mk (ql_ BK233 (by (with_reducible repeat first | apply qa_ | apply qb_ | apply blk_alloc); exact BK233.out) hb)
             replace BK236 := Aside0.mk (ql_ BK236 (by (with_reducible repeat first | apply qa_ | apply qb_ | apply blk_alloc); exact BK236.out) hb)
             replace BK240 := Aside0.mk (ql_ BK240 (by (with_reducible repeat first | apply qa_ | apply qb_ | apply blk_alloc); exact BK240.out) hb)
             replace BK244 := Aside0.mk (ql_ BK244 (by (with_reducible repeat first | apply qa_ | apply qb_ | apply blk_alloc); exact BK244.out) hb)
             replace BK250 := Aside0.mk (ql_ BK250 (by (with_reducible repeat first | apply qa_ | apply qb_ | apply blk_alloc); exact BK250.out) hb)
             replace BK251 := Aside0.mk (ql_ BK251 (by (with_reducible repeat first | apply qa_ | apply qb_ | apply blk_alloc); exact BK251.out) hb)
             replace BK252 := Aside0.mk (ql_ BK252 (by (with_reducible repeat first | apply qa_ | apply qb_ | apply blk_alloc); exact BK252.out) hb)
             replace BK266 := Aside0.mk (ql_ BK266 (by (with_reducible repeat first | apply qa_ | apply qb_ | apply blk_alloc); exact BK266.out) hb)
             replace HB := Aside0.mk (qq_ (by repeat (first | (with_reducible first | exact HB.out | apply qh_ | apply qc_ | apply qf_ | refine qk_ ?_ (by assumption)) | exact HB.out)) hb)
             (try clear hb)
             refine hK.out _ _ ⟨(qm_ BK251.out 0).trans rfl, (qm_ BK251.out 1).trans rfl, (qm_ BK250.out 0).trans rfl, (qm_ BK252.out 0).trans rfl⟩ (fun hHeld => ?_)
             clear hK K
             refine norm_ (a' := ?_) ?_ ?_
             rotate_left
             ·show Act.put _ (some 146) _ = _
              simp only [Act.put, List.setIfInBounds_toArray, List.set_cons_zero, List.set_cons_succ, i64_w, i32_w]
              rfl
             refine pure_ (i := 7) (N := some 147) (v := ?_) (a' := ?_) #[true, true, true, true, true, true, true, true, false] rfl rfl (any_of HT_.out (by kernel_rfl)) (fun _ _ _ h => h) (Or.inl ⟨by rfl, ?_⟩) ?_ ?_
             rotate_left
             ·intro w'
              go_simp
              with_reducible rfl
             rotate_left
             ·simp only [Act.put, List.setIfInBounds_toArray, List.set_cons_zero, List.set_cons_succ, i64_w, i32_w]
              rfl
             refine pure_ (i := 8) (N := some 4) (v := ?_) (a' := ?_) #[true, true, true, true, true, true, true, true, true] rfl rfl (any_of HT_.out (by kernel_rfl)) (fun _ _ _ h => h) (Or.inl ⟨by rfl, ?_⟩) ?_ ?_
             rotate_left
             ·intro w'
              go_simp
              with_reducible rfl
             rotate_left
             ·simp only [Act.put, List.setIfInBounds_toArray, List.set_cons_zero, List.set_cons_succ, i64_w, i32_w]
              rfl
             refine done_ (done_of HT_.out (by kernel_rfl)) ?_
             try go_wp2
             go_ret
             exact ⟨by first | rfl | (simp [*] <;> rfl), by repeat (first | (with_reducible first | exact HB.out | apply qh_ | apply qc_ | apply qf_ | refine qk_ ?_ (by assumption)) | exact HB.out)⟩
            ·rw [if_neg c298] at H
             have c298b0 : (t248 == t270 && (t249 == t271)) = false := by simpa using c298
             (try (have c298b1 : decide (t248 = t270 && (t249 == t271)) = false := by simpa using c298))
             (try (have c298b2 : (t248 == t270 && (t249 == t271)) = false := by simpa using c298))
             (try (have c298b3 : ¬ (t248 = t270 && (t249 == t271)) := by simpa using c298))
             clear c298
             exact absurd H (by simp)
    ·rw [if_neg c71] at H
     have c71b0 : (t234 == 0) = false := beq_eq_false_iff_ne.mpr c71
     have c71b1 : (t234 != 0) = true := bne_iff_ne.mpr c71
     by_cases c347 : (t238 == t234 && (t239 == t235)) = true
     ·rw [if_pos c347] at H
      have c347b0 : (t238 == t234 && (t239 == t235)) = true := c347
      (try (have c347b1 : decide (t238 = t234 && (t239 == t235)) = true := by simpa using c347))
      (try (have c347b2 : (t238 == t234 && (t239 == t235)) = true := by simpa using c347))
      clear c347
      by_cases c348 : (t242 == t234 && (t243 == t235)) = true
      ·rw [if_pos c348] at H
       have c348b0 : (t242 == t234 && (t243 == t235)) = true := c348
       (try (have c348b1 : decide (t242 = t234 && (t243 == t235)) = true := by simpa using c348))
       (try (have c348b2 : (t242 == t234 && (t243 == t235)) = true := by simpa using c348))
       clear c348
       by_cases c349 : (t248 == t234 && (t249 == t235)) = true
       ·rw [if_pos c349] at H
        have c349b0 : (t248 == t234 && (t249 == t235)) = true := c349
        (try (have c349b1 : decide (t248 = t234 && (t249 == t235)) = true := by simpa using c349))
        (try (have c349b2 : (t248 == t234 && (t249 == t235)) = true := by simpa using c349))
        clear c349
        by_cases c350 : t237.toList = ([] : List UInt8)
        ·rw [if_pos c350] at H
         have c350b0 : (t237.toList == ([] : List UInt8)) = true := beq_iff_eq.mpr c350
         have c350b1 : (t237.toList != ([] : List UInt8)) = false := bne_eq_false_iff_eq.mpr c350
         clear c350
         by_cases c351 : t241 = true
         ·subst c351
          have H1 : (none) = some r := by rw [if_pos rfl] at H; exact H
          clear H
          have H := H1
          clear H1
          exact absurd H (by simp)
         ·replace c351 := Bool.eq_false_iff.mpr c351
          subst c351
          have H1 : ((qp_.f kj6 t245 ([] : List (S47))).bind fun t256 => (some t256)) = some r := by rw [if_neg (show ¬ (false = true) by decide)] at H; exact H
          clear H
          have H := H1
          clear H1
          replace H := Option.bind_eq_some_iff.mp H
          obtain ⟨t256, A3780, H⟩ := H
          replace H : (some t256) = some r := H
          have A378 := Aside0.mk A3780
          clear A3780
          obtain rfl := Option.some.inj H
          have hcz386_0 := qg_ BK236 0 (.int .i64 t234) rfl
          have hcz386_1 := qg_ BK236 1 (.int .i64 t235) rfl
          have hfz386_0 := qd_ BK236 0
          have hfz386_1 := qd_ BK236 1
          have hcz393_0 := qg_ BK240 0 (.int .i64 t238) rfl
          have hcz393_1 := qg_ BK240 1 (.int .i64 t239) rfl
          have hfz393_0 := qd_ BK240 0
          have hfz393_1 := qd_ BK240 1
          have hcz399_0 := qg_ BK244 0 (.int .i64 t242) rfl
          have hcz399_1 := qg_ BK244 1 (.int .i64 t243) rfl
          have hfz399_0 := qd_ BK244 0
          have hfz399_1 := qd_ BK244 1
          have hcz404_0 := qg_ BK251 0 (.int .i64 t248) rfl
          have hcz404_1 := qg_ BK251 1 (.int .i64 t249) rfl
          have hfz404_0 := qd_ BK251 0
          have hfz404_1 := qd_ BK251 1
          have hcz408_0 := qg_ BK250 0 (.slice Ao37 t245.length co37) rfl
          have hfz408_0 := qd_ BK250 0
          have hcz411_0 := qg_ BK252 0 (.slice none 0 0) rfl
          have hfz411_0 := qd_ BK252 0
          go_wp2_with (first | (go_at_call 14; (refine (qp_.calls kj6 _ _ t245 _ _ ([] : List (S47)) t256 _ ?side1 ?side2 ?side3 ?side4 A378.out).mono ?_); (case side1 => repeat (first | exact (Kd.V_reads' HO_251000.out).2.2 | (with_reducible refine Kd.C_alloc ?_ _) | (with_reducible refine Kd.C_drewN ?_ _) | (with_reducible refine Kd.C_drew ?_))); (case side2 => exact (Kd.V_reads' HO_251000.out).2.1); (case side3 => exact Kd.C_nil _ _); (case side4 => exact Nat.le_refl _); rintro e w412 ⟨rfl, hb⟩; replace HO_251000 := Aside0.mk (Kd.V_below (by (with_reducible repeat (first | apply Kd.V_alloc | apply Kd.V_drewN | apply Kd.V_drew)); exact HO_251000.out) hb); replace BK232 := Aside0.mk (ql_ BK232 (by (with_reducible repeat first | apply qa_ | apply qb_ | apply blk_alloc); exact BK232.out) hb); replace BK233 := Aside0.mk (ql_ BK233 (by (with_reducible repeat first | apply qa_ | apply qb_ | apply blk_alloc); exact BK233.out) hb); replace BK236 := Aside0.mk (ql_ BK236 (by (with_reducible repeat first | apply qa_ | apply qb_ | apply blk_alloc); exact BK236.out) hb); replace BK240 := Aside0.mk (ql_ BK240 (by (with_reducible repeat first | apply qa_ | apply qb_ | apply blk_alloc); exact BK240.out) hb); replace BK244 := Aside0.mk (ql_ BK244 (by (with_reducible repeat first | apply qa_ | apply qb_ | apply blk_alloc); exact BK244.out) hb); replace BK250 := Aside0.mk (ql_ BK250 (by (with_reducible repeat first | apply qa_ | apply qb_ | apply blk_alloc); exact BK250.out) hb); replace BK251 := Aside0.mk (ql_ BK251 (by (with_reducible repeat first | apply qa_ | apply qb_ | apply blk_alloc); exact BK251.out) hb); replace BK252 := Aside0.mk (ql_ BK252 (by (with_reducible repeat first | apply qa_ | apply qb_ | apply blk_alloc); exact BK252.out) hb); replace HB := Aside0.mk (qq_ (by repeat (first | (with_reducible first | exact HB.out | apply qh_ | apply qc_ | apply qf_ | refine qk_ ?_ (by assumption)) | exact HB.out)) hb); (try clear hb)))
          go_ret
          exact ⟨by first | rfl | (simp [*] <;> rfl), by repeat (first | (with_reducible first | exact HB.out | apply qh_ | apply qc_ | apply qf_ | refine qk_ ?_ (by assumption)) | exact HB.out)⟩
        ·rw [if_neg c350] at H
         have c350b0 : (t237.toList == ([] : List UInt8)) = false := beq_eq_false_iff_ne.mpr c350
         have c350b1 : (t237.toList != ([] : List UInt8)) = true := bne_iff_ne.mpr c350
         exact absurd H (by simp)
       ·rw [if_neg c349] at H
        have c349b0 : (t248 == t234 && (t249 == t235)) = false := by simpa using c349
        (try (have c349b1 : decide (t248 = t234 && (t249 == t235)) = false := by simpa using c349))
        (try (have c349b2 : (t248 == t234 && (t249 == t235)) = false := by simpa using c349))
        (try (have c349b3 : ¬ (t248 = t234 && (t249 == t235)) := by simpa using c349))
        clear c349
        exact absurd H (by simp)
      ·rw [if_neg c348] at H
       have c348b0 : (t242 == t234 && (t243 == t235)) = false := by simpa using c348
       (try (have c348b1 : decide (t242 = t234 && (t243 == t235)) = false := by simpa using c348))
       (try (have c348b2 : (t242 == t234 && (t243 == t235)) = false := by simpa using c348))
       (try (have c348b3 : ¬ (t242 = t234 && (t243 == t235)) := by simpa using c348))
       clear c348
       exact absurd H (by simp)
     ·rw [if_neg c347] at H
      have c347b0 : (t238 == t234 && (t239 == t235)) = false := by simpa using c347
      (try (have c347b1 : decide (t238 = t234 && (t239 == t235)) = false := by simpa using c347))
      (try (have c347b2 : (t238 == t234 && (t239 == t235)) = false := by simpa using c347))
      (try (have c347b3 : ¬ (t238 = t234 && (t239 == t235)) := by simpa using c347))
      clear c347
      exact absurd H (by simp)

end Go.Proofs.YtblkkhddefnkpaaDoor.PPo
