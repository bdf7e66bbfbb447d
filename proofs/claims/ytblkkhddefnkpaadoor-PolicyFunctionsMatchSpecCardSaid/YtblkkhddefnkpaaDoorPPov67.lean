-- printed by drv.py (a program of this repo, over the kit's printer)
import Derived.Test.YtblkkhddefnkpaaDoorPPox0
namespace Go.Proofs.YtblkkhddefnkpaaDoor.PPo
open Go.RowKit Go.Proofs.YtblkkhddefnkpaaDoorW.PrintWords Go.Proofs.YtblkkhddefnkpaaDoorW.PrintLast Go.Proofs.YtblkkhddefnkpaaDoorW.PrintMore
attribute [local go_sem] max2_int min2_int max_two min_two max_three min_three max_four min_four   -- for this text's walks alone
set_option linter.unusedVariables false
set_option linter.unusedSimpArgs false

/-! ### qi_: function 15 -/
mutual
def qi_.j0 : Nat → Int → ByteArray → ByteArray → List (S47) → Int → Int → Int → Int → Option (ByteArray)
 | 0, _, _, _, _, _, _, _, _ => none
 | k + 1, x2, x8, x9, x195000, x197000, x197001, x197002, x197003 => if x197000 = 2 then (qi_.j1 k x2 x8 (⟨#[111, 119, 110, 101, 114, 115]⟩ : ByteArray) x195000 x197000 x197001 x197002 x197003) else (qi_.j1 k x2 x8 x9 x195000 x197000 x197001 x197002 x197003)
def qi_.j1 : Nat → Int → ByteArray → ByteArray → List (S47) → Int → Int → Int → Int → Option (ByteArray)
 | 0, _, _, _, _, _, _, _, _ => none
 | k + 1, x2, x8, x9, x195000, x197000, x197001, x197002, x197003 => if x197000 = 3 then (qi_.j2 k x2 x8 (⟨#[116, 101, 115, 116, 115]⟩ : ByteArray) x195000 x197000 x197001 x197002 x197003) else (qi_.j2 k x2 x8 x9 x195000 x197000 x197001 x197002 x197003)
def qi_.j2 : Nat → Int → ByteArray → ByteArray → List (S47) → Int → Int → Int → Int → Option (ByteArray)
 | 0, _, _, _, _, _, _, _, _ => none
 | k + 1, x2, x8, x9, x195000, x197000, x197001, x197002, x197003 => if x197000 = 4 then (if 0 ≤ x197001 then (if x197001 ≤ (wrap64 (x197001 + 1)) then (if (wrap64 (x197001 + 1)) ≤ (x8.size : Int) then (if 5 + (x8.extract (x197001 : Int).toNat ((wrap64 (x197001 + 1)) : Int).toNat).size ≤ 9223372036854775807 then (qi_.j3 k x2 ((⟨#[117, 115, 101, 114, 32]⟩ : ByteArray) ++ (x8.extract (x197001 : Int).toNat ((wrap64 (x197001 + 1)) : Int).toNat)) x195000 x197000 x197001 x197002 x197003) else (none)) else (none)) else (none)) else (none)) else (qi_.j3 k x2 x9 x195000 x197000 x197001 x197002 x197003)
def qi_.j3 : Nat → Int → ByteArray → List (S47) → Int → Int → Int → Int → Option (ByteArray)
 | 0, _, _, _, _, _, _, _ => none
 | k + 1, x2, x9, x195000, x197000, x197001, x197002, x197003 => if x197000 = 5 then ((qi_.f k x195000 x197002 5).bind fun t197 => (if 4 + t197.size ≤ 9223372036854775807 then (qi_.j4 k x2 ((⟨#[110, 111, 116, 32]⟩ : ByteArray) ++ t197) x195000 x197000 x197001 x197002 x197003) else (none))) else (qi_.j4 k x2 x9 x195000 x197000 x197001 x197002 x197003)
def qi_.j4 : Nat → Int → ByteArray → List (S47) → Int → Int → Int → Int → Option (ByteArray)
 | 0, _, _, _, _, _, _, _ => none
 | k + 1, x2, x9, x195000, x197000, x197001, x197002, x197003 => if x197000 = 6 then ((qi_.f k x195000 x197002 6).bind fun t198 => (if t198.size + 5 ≤ 9223372036854775807 then ((qi_.f k x195000 x197003 5).bind fun t199 => (if (t198 ++ (⟨#[32, 97, 110, 100, 32]⟩ : ByteArray)).size + t199.size ≤ 9223372036854775807 then (qi_.j5 k x2 ((t198 ++ (⟨#[32, 97, 110, 100, 32]⟩ : ByteArray)) ++ t199) x195000 x197000 x197001 x197002 x197003) else (none))) else (none))) else (qi_.j5 k x2 x9 x195000 x197000 x197001 x197002 x197003)
def qi_.j5 : Nat → Int → ByteArray → List (S47) → Int → Int → Int → Int → Option (ByteArray)
 | 0, _, _, _, _, _, _, _ => none
 | k + 1, x2, x9, x195000, x197000, x197001, x197002, x197003 => if x197000 = 7 then ((qi_.f k x195000 x197002 7).bind fun t200 => (if t200.size + 4 ≤ 9223372036854775807 then ((qi_.f k x195000 x197003 6).bind fun t201 => (if (t200 ++ (⟨#[32, 111, 114, 32]⟩ : ByteArray)).size + t201.size ≤ 9223372036854775807 then (if x197000 > x2 then (if 1 + ((t200 ++ (⟨#[32, 111, 114, 32]⟩ : ByteArray)) ++ t201).size ≤ 9223372036854775807 then (if ((⟨#[40]⟩ : ByteArray) ++ ((t200 ++ (⟨#[32, 111, 114, 32]⟩ : ByteArray)) ++ t201)).size + 1 ≤ 9223372036854775807 then (some (((⟨#[40]⟩ : ByteArray) ++ ((t200 ++ (⟨#[32, 111, 114, 32]⟩ : ByteArray)) ++ t201)) ++ (⟨#[41]⟩ : ByteArray))) else (none)) else (none)) else (some ((t200 ++ (⟨#[32, 111, 114, 32]⟩ : ByteArray)) ++ t201))) else (none))) else (none))) else (if x197000 > x2 then (if 1 + x9.size ≤ 9223372036854775807 then (if ((⟨#[40]⟩ : ByteArray) ++ x9).size + 1 ≤ 9223372036854775807 then (some (((⟨#[40]⟩ : ByteArray) ++ x9) ++ (⟨#[41]⟩ : ByteArray))) else (none)) else (none)) else (some x9))
def qi_.f : Nat → List (S47) → Int → Int → Option (ByteArray)
 | 0, _, _, _ => none
 | k + 1, l0_0, a1, a2 => if 0 ≤ a1 then (if a1 < (l0_0.length : Int) then (if ((qj_ l0_0 a1).f0) = 1 then (if 0 ≤ ((qj_ l0_0 a1).f1) then (if ((qj_ l0_0 a1).f1) ≤ (wrap64 (((qj_ l0_0 a1).f1) + 1)) then (if (wrap64 (((qj_ l0_0 a1).f1) + 1)) ≤ 9 then (if 6 + ((⟨#[48, 49, 50, 51, 52, 53, 54, 55, 56]⟩ : ByteArray).extract (((qj_ l0_0 a1).f1) : Int).toNat ((wrap64 (((qj_ l0_0 a1).f1) + 1)) : Int).toNat).size ≤ 9223372036854775807 then (qi_.j0 k a2 (⟨#[48, 49, 50, 51, 52, 53, 54, 55, 56]⟩ : ByteArray) ((⟨#[115, 99, 111, 114, 101, 32]⟩ : ByteArray) ++ ((⟨#[48, 49, 50, 51, 52, 53, 54, 55, 56]⟩ : ByteArray).extract (((qj_ l0_0 a1).f1) : Int).toNat ((wrap64 (((qj_ l0_0 a1).f1) + 1)) : Int).toNat)) l0_0 ((qj_ l0_0 a1).f0) ((qj_ l0_0 a1).f1) ((qj_ l0_0 a1).f2) ((qj_ l0_0 a1).f3)) else (none)) else (none)) else (none)) else (none)) else (qi_.j0 k a2 (⟨#[48, 49, 50, 51, 52, 53, 54, 55, 56]⟩ : ByteArray) (⟨#[]⟩ : ByteArray) l0_0 ((qj_ l0_0 a1).f0) ((qj_ l0_0 a1).f1) ((qj_ l0_0 a1).f2) ((qj_ l0_0 a1).f3))) else (none)) else (none)
end
theorem qi_.mono_l : ∀ k, (∀ y0 y1 y2, LeO (qi_.f k y0 y1 y2) (qi_.f (k + 1) y0 y1 y2)) ∧ (∀ y0 y1 y2 y3 y4 y5 y6 y7, LeO (qi_.j0 k y0 y1 y2 y3 y4 y5 y6 y7) (qi_.j0 (k + 1) y0 y1 y2 y3 y4 y5 y6 y7)) ∧ (∀ y0 y1 y2 y3 y4 y5 y6 y7, LeO (qi_.j1 k y0 y1 y2 y3 y4 y5 y6 y7) (qi_.j1 (k + 1) y0 y1 y2 y3 y4 y5 y6 y7)) ∧ (∀ y0 y1 y2 y3 y4 y5 y6 y7, LeO (qi_.j2 k y0 y1 y2 y3 y4 y5 y6 y7) (qi_.j2 (k + 1) y0 y1 y2 y3 y4 y5 y6 y7)) ∧ (∀ y0 y1 y2 y3 y4 y5 y6, LeO (qi_.j3 k y0 y1 y2 y3 y4 y5 y6) (qi_.j3 (k + 1) y0 y1 y2 y3 y4 y5 y6)) ∧ (∀ y0 y1 y2 y3 y4 y5 y6, LeO (qi_.j4 k y0 y1 y2 y3 y4 y5 y6) (qi_.j4 (k + 1) y0 y1 y2 y3 y4 y5 y6)) ∧ (∀ y0 y1 y2 y3 y4 y5 y6, LeO (qi_.j5 k y0 y1 y2 y3 y4 y5 y6) (qi_.j5 (k + 1) y0 y1 y2 y3 y4 y5 y6))
 | 0 => ⟨fun _ _ _ r h => by simp [qi_.f] at h, fun _ _ _ _ _ _ _ _ r h => by simp [qi_.j0] at h, fun _ _ _ _ _ _ _ _ r h => by simp [qi_.j1] at h, fun _ _ _ _ _ _ _ _ r h => by simp [qi_.j2] at h, fun _ _ _ _ _ _ _ r h => by simp [qi_.j3] at h, fun _ _ _ _ _ _ _ r h => by simp [qi_.j4] at h, fun _ _ _ _ _ _ _ r h => by simp [qi_.j5] at h⟩
 | k + 1 => by
  obtain ⟨ih0, ih1, ih2, ih3, ih4, ih5, ih6⟩ := qi_.mono_l k
  refine ⟨?_, ?_, ?_, ?_, ?_, ?_, ?_⟩
  ·intro y0 y1 y2
   unfold qi_.f
   repeat' first
   | (with_reducible exact ih0 _ _ _)
   | (with_reducible exact ih1 _ _ _ _ _ _ _ _)
   | (with_reducible exact ih2 _ _ _ _ _ _ _ _)
   | (with_reducible exact ih3 _ _ _ _ _ _ _ _)
   | (with_reducible exact ih4 _ _ _ _ _ _ _)
   | (with_reducible exact ih5 _ _ _ _ _ _ _)
   | (with_reducible exact ih6 _ _ _ _ _ _ _)
   | (with_reducible exact LeO.refl _)
   | (with_reducible exact LeO.none _)
   | (with_reducible refine LeO.ite ?_ ?_)
   | (with_reducible refine LeO.bind ?_ (fun _ => ?_))
   | exact ih0 _ _ _
   | exact ih1 _ _ _ _ _ _ _ _
   | exact ih2 _ _ _ _ _ _ _ _
   | exact ih3 _ _ _ _ _ _ _ _
   | exact ih4 _ _ _ _ _ _ _
   | exact ih5 _ _ _ _ _ _ _
   | exact ih6 _ _ _ _ _ _ _
   | exact LeO.none _
   | refine LeO.ite ?_ ?_
   | refine LeO.bind ?_ (fun _ => ?_)
  ·intro y0 y1 y2 y3 y4 y5 y6 y7
   unfold qi_.j0
   repeat' first
   | (with_reducible exact ih0 _ _ _)
   | (with_reducible exact ih1 _ _ _ _ _ _ _ _)
   | (with_reducible exact ih2 _ _ _ _ _ _ _ _)
   | (with_reducible exact ih3 _ _ _ _ _ _ _ _)
   | (with_reducible exact ih4 _ _ _ _ _ _ _)
   | (with_reducible exact ih5 _ _ _ _ _ _ _)
   | (with_reducible exact ih6 _ _ _ _ _ _ _)
   | (with_reducible exact LeO.refl _)
   | (with_reducible exact LeO.none _)
   | (with_reducible refine LeO.ite ?_ ?_)
   | (with_reducible refine LeO.bind ?_ (fun _ => ?_))
   | exact ih0 _ _ _
   | exact ih1 _ _ _ _ _ _ _ _
   | exact ih2 _ _ _ _ _ _ _ _
   | exact ih3 _ _ _ _ _ _ _ _
   | exact ih4 _ _ _ _ _ _ _
   | exact ih5 _ _ _ _ _ _ _
   | exact ih6 _ _ _ _ _ _ _
   | exact LeO.none _
   | refine LeO.ite ?_ ?_
   | refine LeO.bind ?_ (fun _ => ?_)
  ·intro y0 y1 y2 y3 y4 y5 y6 y7
   unfold qi_.j1
   repeat' first
   | (with_reducible exact ih0 _ _ _)
   | (with_reducible exact ih1 _ _ _ _ _ _ _ _)
   | (with_reducible exact ih2 _ _ _ _ _ _ _ _)
   | (with_reducible exact ih3 _ _ _ _ _ _ _ _)
   | (with_reducible exact ih4 _ _ _ _ _ _ _)
   | (with_reducible exact ih5 _ _ _ _ _ _ _)
   | (with_reducible exact ih6 _ _ _ _ _ _ _)
   | (with_reducible exact LeO.refl _)
   | (with_reducible exact LeO.none _)
   | (with_reducible refine LeO.ite ?_ ?_)
   | (with_reducible refine LeO.bind ?_ (fun _ => ?_))
   | exact ih0 _ _ _
   | exact ih1 _ _ _ _ _ _ _ _
   | exact ih2 _ _ _ _ _ _ _ _
   | exact ih3 _ _ _ _ _ _ _ _
   | exact ih4 _ _ _ _ _ _ _
   | exact ih5 _ _ _ _ _ _ _
   | exact ih6 _ _ _ _ _ _ _
   | exact LeO.none _
   | refine LeO.ite ?_ ?_
   | refine LeO.bind ?_ (fun _ => ?_)
  ·intro y0 y1 y2 y3 y4 y5 y6 y7
   unfold qi_.j2
   repeat' first
   | (with_reducible exact ih0 _ _ _)
   | (with_reducible exact ih1 _ _ _ _ _ _ _ _)
   | (with_reducible exact ih2 _ _ _ _ _ _ _ _)
   | (with_reducible exact ih3 _ _ _ _ _ _ _ _)
   | (with_reducible exact ih4 _ _ _ _ _ _ _)
   | (with_reducible exact ih5 _ _ _ _ _ _ _)
   | (with_reducible exact ih6 _ _ _ _ _ _ _)
   | (with_reducible exact LeO.refl _)
   | (with_reducible exact LeO.none _)
   | (with_reducible refine LeO.ite ?_ ?_)
   | (with_reducible refine LeO.bind ?_ (fun _ => ?_))
   | exact ih0 _ _ _
   | exact ih1 _ _ _ _ _ _ _ _
   | exact ih2 _ _ _ _ _ _ _ _
   | exact ih3 _ _ _ _ _ _ _ _
   | exact ih4 _ _ _ _ _ _ _
   | exact ih5 _ _ _ _ _ _ _
   | exact ih6 _ _ _ _ _ _ _
   | exact LeO.none _
   | refine LeO.ite ?_ ?_
   | refine LeO.bind ?_ (fun _ => ?_)
  ·intro y0 y1 y2 y3 y4 y5 y6
   unfold qi_.j3
   repeat' first
   | (with_reducible exact ih0 _ _ _)
   | (with_reducible exact ih1 _ _ _ _ _ _ _ _)
   | (with_reducible exact ih2 _ _ _ _ _ _ _ _)
   | (with_reducible exact ih3 _ _ _ _ _ _ _ _)
   | (with_reducible exact ih4 _ _ _ _ _ _ _)
   | (with_reducible exact ih5 _ _ _ _ _ _ _)
   | (with_reducible exact ih6 _ _ _ _ _ _ _)
   | (with_reducible exact LeO.refl _)
   | (with_reducible exact LeO.none _)
   | (with_reducible refine LeO.ite ?_ ?_)
   | (with_reducible refine LeO.bind ?_ (fun _ => ?_))
   | exact ih0 _ _ _
   | exact ih1 _ _ _ _ _ _ _ _
   | exact ih2 _ _ _ _ _ _ _ _
   | exact ih3 _ _ _ _ _ _ _ _
   | exact ih4 _ _ _ _ _ _ _
   | exact ih5 _ _ _ _ _ _ _
   | exact ih6 _ _ _ _ _ _ _
   | exact LeO.none _
   | refine LeO.ite ?_ ?_
   | refine LeO.bind ?_ (fun _ => ?_)
  ·intro y0 y1 y2 y3 y4 y5 y6
   unfold qi_.j4
   repeat' first
   | (with_reducible exact ih0 _ _ _)
   | (with_reducible exact ih1 _ _ _ _ _ _ _ _)
   | (with_reducible exact ih2 _ _ _ _ _ _ _ _)
   | (with_reducible exact ih3 _ _ _ _ _ _ _ _)
   | (with_reducible exact ih4 _ _ _ _ _ _ _)
   | (with_reducible exact ih5 _ _ _ _ _ _ _)
   | (with_reducible exact ih6 _ _ _ _ _ _ _)
   | (with_reducible exact LeO.refl _)
   | (with_reducible exact LeO.none _)
   | (with_reducible refine LeO.ite ?_ ?_)
   | (with_reducible refine LeO.bind ?_ (fun _ => ?_))
   | exact ih0 _ _ _
   | exact ih1 _ _ _ _ _ _ _ _
   | exact ih2 _ _ _ _ _ _ _ _
   | exact ih3 _ _ _ _ _ _ _ _
   | exact ih4 _ _ _ _ _ _ _
   | exact ih5 _ _ _ _ _ _ _
   | exact ih6 _ _ _ _ _ _ _
   | exact LeO.none _
   | refine LeO.ite ?_ ?_
   | refine LeO.bind ?_ (fun _ => ?_)
  ·intro y0 y1 y2 y3 y4 y5 y6
   unfold qi_.j5
   repeat' first
   | (with_reducible exact ih0 _ _ _)
   | (with_reducible exact ih1 _ _ _ _ _ _ _ _)
   | (with_reducible exact ih2 _ _ _ _ _ _ _ _)
   | (with_reducible exact ih3 _ _ _ _ _ _ _ _)
   | (with_reducible exact ih4 _ _ _ _ _ _ _)
   | (with_reducible exact ih5 _ _ _ _ _ _ _)
   | (with_reducible exact ih6 _ _ _ _ _ _ _)
   | (with_reducible exact LeO.refl _)
   | (with_reducible exact LeO.none _)
   | (with_reducible refine LeO.ite ?_ ?_)
   | (with_reducible refine LeO.bind ?_ (fun _ => ?_))
   | exact ih0 _ _ _
   | exact ih1 _ _ _ _ _ _ _ _
   | exact ih2 _ _ _ _ _ _ _ _
   | exact ih3 _ _ _ _ _ _ _ _
   | exact ih4 _ _ _ _ _ _ _
   | exact ih5 _ _ _ _ _ _ _
   | exact ih6 _ _ _ _ _ _ _
   | exact LeO.none _
   | refine LeO.ite ?_ ?_
   | refine LeO.bind ?_ (fun _ => ?_)
theorem qi_.mono : ∀ a0 a1 a2 k, LeO (qi_.f k a0 a1 a2) (qi_.f (k + 1) a0 a1 a2) := by
 intro a0 a1 a2 k
 obtain ⟨ih0, ih1, ih2, ih3, ih4, ih5, ih6⟩ := qi_.mono_l k
 exact ih0 a0 a1 a2
def qi_.T15 : Bool × List (List Nat × List Nat) := (true, [([], []), ([], []), ([1], [1]), ([0, 2], [0, 2]), ([3], [3]), ([], []), ([], []), ([6], [6]), ([5, 7, 3], [5, 7]), ([4, 8], [4, 8]), ([9, 8, 0, 1, 2, 3, 4, 5, 6, 7, 8, 9], [9])])
def qi_.B15 : List Nat := [0, 0, 2, 7, 15, 0, 0, 64, 239, 511, 1023]
theorem qi_.tab15 : rtab .any (opsOf Tryd.f15 15) = qi_.T15 := by kernel_rfl
theorem qi_.bits15 : waitsOk qi_.T15.2 qi_.B15 = true := by kernel_rfl
def qi_.T17 : Bool × List (List Nat × List Nat) := (true, [([], []), ([], []), ([1], [1]), ([0, 2], [0, 2]), ([3], [3]), ([], []), ([], []), ([6], [6]), ([5, 7, 3], [5, 7]), ([4, 8], [4, 8]), ([9, 8, 0, 1, 2, 3, 4, 5, 6, 7, 8, 9], [9])])
def qi_.B17 : List Nat := [0, 0, 2, 7, 15, 0, 0, 64, 239, 511, 1023]
theorem qi_.tab17 : rtab .any (opsOf Tryd.f15 17) = qi_.T17 := by kernel_rfl
theorem qi_.bits17 : waitsOk qi_.T17.2 qi_.B17 = true := by kernel_rfl
set_option maxHeartbeats 8000000 in
set_option maxRecDepth 100000 in
theorem qi_.calls (k : Nat) : ∀ (A0_0 : Option Addr) (c0_0 : Nat) (l0_0 : List (S47)) (a1 : Int) (a2 : Int) (r : ByteArray) (w : World) (hr0_0 : Kd.C k47 w A0_0 l0_0.length l0_0) (hc0_0 : l0_0.length ≤ c0_0) (h : qi_.f k l0_0 a1 a2 = some r),
  Calls Tryd.prog 15 #[.agg #[.slice A0_0 l0_0.length c0_0], .int .i64 a1, .int .i64 a2] w fun e w' => e = .returned (.string r) ∧ Below w.heap.size w w' := by
 induction k using Nat.strongRecOn with
 | _ k ih =>
 intro A0_0 c0_0 l0_0 a1 a2 r w hr0_0 hc0_0 h
 cases k with
 | zero => exact absurd h (by simp [qi_.f])
 | succ k =>
 simp only [qi_.f] at h
 have hu24 := Tryd.underlying24
 have hu47 := Tryd.underlying47
 have HR0_0 := Aside0.mk hr0_0
 have HC0_0 := Aside0.mk hc0_0
 clear hr0_0 hc0_0
 have HB := Aside0.mk (Below.refl w.heap.size w)
 have H : (if 0 ≤ a1 then (if a1 < (l0_0.length : Int) then (if ((qj_ l0_0 a1).f0) = 1 then (if 0 ≤ ((qj_ l0_0 a1).f1) then (if ((qj_ l0_0 a1).f1) ≤ (wrap64 (((qj_ l0_0 a1).f1) + 1)) then (if (wrap64 (((qj_ l0_0 a1).f1) + 1)) ≤ 9 then (if 6 + ((⟨#[48, 49, 50, 51, 52, 53, 54, 55, 56]⟩ : ByteArray).extract (((qj_ l0_0 a1).f1) : Int).toNat ((wrap64 (((qj_ l0_0 a1).f1) + 1)) : Int).toNat).size ≤ 9223372036854775807 then (qi_.j0 k a2 (⟨#[48, 49, 50, 51, 52, 53, 54, 55, 56]⟩ : ByteArray) ((⟨#[115, 99, 111, 114, 101, 32]⟩ : ByteArray) ++ ((⟨#[48, 49, 50, 51, 52, 53, 54, 55, 56]⟩ : ByteArray).extract (((qj_ l0_0 a1).f1) : Int).toNat ((wrap64 (((qj_ l0_0 a1).f1) + 1)) : Int).toNat)) l0_0 ((qj_ l0_0 a1).f0) ((qj_ l0_0 a1).f1) ((qj_ l0_0 a1).f2) ((qj_ l0_0 a1).f3)) else (none)) else (none)) else (none)) else (none)) else (qi_.j0 k a2 (⟨#[48, 49, 50, 51, 52, 53, 54, 55, 56]⟩ : ByteArray) (⟨#[]⟩ : ByteArray) l0_0 ((qj_ l0_0 a1).f0) ((qj_ l0_0 a1).f1) ((qj_ l0_0 a1).f2) ((qj_ l0_0 a1).f3))) else (none)) else (none)) = some r := h
 clear h
 by_cases c4 : 0 ≤ a1
 ·rw [if_pos c4] at H
  have c4b0 : decide (0 ≤ a1) = true := decide_eq_true c4
  clear c4
  by_cases c5 : a1 < (l0_0.length : Int)
  ·rw [if_pos c5] at H
   have c5b0 : decide (a1 < (l0_0.length : Int)) = true := decide_eq_true c5
   clear c5
   have HC6 := Aside0.mk H
   clear H
   go_enter Tryd.func15, Tryd.ntmps15
   go_upto_if 17 with (first | ((with_reducible refine gate_dst (N := 3) rfl ?_); refine qE_ ?hg (N := 3) ?hd (cs := #[.slice A0_0 l0_0.length c0_0]) (t := 24) ?hr ?_; (case hd => rfl); (case hg => rfl); (case hr => first | (go_simp; done) | (go_simp; rfl)); intro gb194 hg w7 hbox hb; have BK194 := Aside0.mk (hbox); have GW194 := Aside0.mk ((by rw [hg]; exact (qv_ (by repeat (first | (with_reducible first | exact HB.out | apply qh_ | apply qc_ | apply qf_) | exact HB.out))) : w.heap.size ≤ gb194)); have GE194 := Aside0.mk ((by rw [hg]; exact (qv_ (by repeat (first | (with_reducible first | exact HB.out | apply qh_ | apply qc_ | apply qf_) | exact HB.out))) : w.heap.size ≤ gb194)); replace HB := Aside0.mk (qq_ (by repeat (first | (with_reducible first | exact HB.out | apply qh_ | apply qc_ | apply qf_) | exact HB.out)) hb); clear hb hbox hg; have hcz8_0 := qg_ BK194 0 (.slice A0_0 l0_0.length c0_0) rfl; have hfz8_0 := qd_ BK194 0; have p195 : 0 ≤ (a1 : Int) := of_decide_eq_true (by assumption); have q195 : a1 < (l0_0.length : Int) := of_decide_eq_true (by assumption); obtain ⟨ad195, e195, hx195_0, hx195_1, hx195_2, hx195_3⟩ := at_T47 HR0_0.out a1 p195 q195; cases e195; replace hx195_0 := (HB.out.cell (World.block_lt_of_cell? w _ hx195_0)).trans hx195_0; replace hx195_1 := (HB.out.cell (World.block_lt_of_cell? w _ hx195_1)).trans hx195_1; replace hx195_2 := (HB.out.cell (World.block_lt_of_cell? w _ hx195_2)).trans hx195_2; replace hx195_3 := (HB.out.cell (World.block_lt_of_cell? w _ hx195_3)).trans hx195_3; replace p195 := eq_true p195; replace q195 := eq_true q195) | ((with_reducible refine gate_dst (N := 7) rfl ?_); refine qE_ ?hg (N := 7) ?hd (cs := #[.int .i64 0, .int .i64 0, .int .i64 0, .int .i64 0]) (t := 47) ?hr ?_; (case hd => rfl); (case hg => rfl); (case hr => first | (go_simp; done) | (go_simp; rfl)); intro gb196 hg w9 hbox hb; have BK196 := Aside0.mk (hbox); have GW196 := Aside0.mk ((by rw [hg]; exact (qv_ (by repeat (first | (with_reducible first | exact HB.out | apply qh_ | apply qc_ | apply qf_ | refine qk_ ?_ (by assumption)) | exact HB.out))) : w.heap.size ≤ gb196)); have GE196 := Aside0.mk ((by rw [hg]; exact (qv_ (by repeat (first | (with_reducible first | exact HB.out | apply qh_ | apply qc_ | apply qf_ | refine qk_ ?_ (by assumption)) | exact HB.out))) : w.heap.size ≤ gb196)); replace HB := Aside0.mk (qq_ (by repeat (first | (with_reducible first | exact HB.out | apply qh_ | apply qc_ | apply qf_ | refine qk_ ?_ (by assumption)) | exact HB.out)) hb); have NB194_196 := Aside0.mk ((by rw [hg]; exact Nat.ne_of_lt (qB_ (g := gb194) (o := .cells #[.slice (some ad195) l0_0.length c0_0] 24 (0, 0)) (by (with_reducible repeat first | apply qa_ | apply qb_ | apply blk_alloc); exact BK194.out)) : gb194 ≠ gb196)); have NB196_194 := Aside0.mk ((by rw [hg]; exact Nat.ne_of_gt (qB_ (g := gb194) (o := .cells #[.slice (some ad195) l0_0.length c0_0] 24 (0, 0)) (by (with_reducible repeat first | apply qa_ | apply qb_ | apply blk_alloc); exact BK194.out)) : gb196 ≠ gb194)); replace BK194 := Aside0.mk (ql_ BK194 (by (with_reducible repeat first | apply qa_ | apply qb_ | apply blk_alloc); exact BK194.out) hb); clear hb hbox hg; have hnb10 := NB196_194.out; have hnc10 := NB194_196.out; have hcz11_0 := qg_ BK196 0 (.int .i64 0) rfl; have hcz11_1 := qg_ BK196 1 (.int .i64 0) rfl; have hcz11_2 := qg_ BK196 2 (.int .i64 0) rfl; have hcz11_3 := qg_ BK196 3 (.int .i64 0) rfl; have hfz11_0 := qd_ BK196 0; have hfz11_1 := qd_ BK196 1; have hfz11_2 := qd_ BK196 2; have hfz11_3 := qd_ BK196 3))
   (try simp only [Act.put, List.setIfInBounds_toArray, List.set_cons_zero, List.set_cons_succ])
   go_cut [9] (fun v9 wc => ∃ (kq : Nat) (x9_5 : ByteArray), v9 = .string x9_5 ∧ Aside0 (qi_.j0 kq a2 (⟨#[48, 49, 50, 51, 52, 53, 54, 55, 56]⟩ : ByteArray) x9_5 l0_0 ((qj_ l0_0 a1).f0) ((qj_ l0_0 a1).f1) ((qj_ l0_0 a1).f2) ((qj_ l0_0 a1).f3) = some r) ∧ Aside0 (kq ≤ k) ∧ Aside0 (wc.heap[gb194]? = some (.cells #[(.slice (some ad195) l0_0.length c0_0)] 24 (0, 0))) ∧ Aside0 (wc.heap[gb196]? = some (.cells #[.int .i64 ((qj_ l0_0 a1).f0), .int .i64 ((qj_ l0_0 a1).f1), .int .i64 ((qj_ l0_0 a1).f2), .int .i64 ((qj_ l0_0 a1).f3)] 47 (0, 0))) ∧ Aside0 (Below w.heap.size w wc))
   case first =>
    have H := HC6.out
    clear HC6
    by_cases c12 : ((qj_ l0_0 a1).f0) = 1
    ·rw [if_pos c12] at H
     have c12b0 : (((qj_ l0_0 a1).f0) == 1) = true := beq_iff_eq.mpr c12
     have c12b1 : (((qj_ l0_0 a1).f0) != 1) = false := bne_eq_false_iff_eq.mpr c12
     clear c12
     (first | rw [c12b0] | (simp only [i64_w, i32_w]; rw [c12b0]) | skip)
     by_cases c13 : 0 ≤ ((qj_ l0_0 a1).f1)
     ·rw [if_pos c13] at H
      have c13b0 := eq_true c13
      have c13b1 : decide (0 ≤ ((qj_ l0_0 a1).f1)) = true := decide_eq_true c13
      clear c13
      by_cases c14 : ((qj_ l0_0 a1).f1) ≤ (wrap64 (((qj_ l0_0 a1).f1) + 1))
      ·rw [if_pos c14] at H
       have c14b0 := eq_true c14
       have c14b1 : decide (((qj_ l0_0 a1).f1) ≤ (wrap64 (((qj_ l0_0 a1).f1) + 1))) = true := decide_eq_true c14
       by_cases c15 : (wrap64 (((qj_ l0_0 a1).f1) + 1)) ≤ 9
       ·rw [if_pos c15] at H
        have c15b0 := eq_true c15
        have c15b1 : decide ((wrap64 (((qj_ l0_0 a1).f1) + 1)) ≤ 9) = true := decide_eq_true c15
        by_cases c16 : 6 + ((⟨#[48, 49, 50, 51, 52, 53, 54, 55, 56]⟩ : ByteArray).extract (((qj_ l0_0 a1).f1) : Int).toNat ((wrap64 (((qj_ l0_0 a1).f1) + 1)) : Int).toNat).size ≤ 9223372036854775807
        ·rw [if_pos c16] at H
         have c16b0 := eq_true c16
         have c16b1 : decide (6 + ((⟨#[48, 49, 50, 51, 52, 53, 54, 55, 56]⟩ : ByteArray).extract (((qj_ l0_0 a1).f1) : Int).toNat ((wrap64 (((qj_ l0_0 a1).f1) + 1)) : Int).toNat).size ≤ 9223372036854775807) = true := decide_eq_true c16
         try have c16b2 : (9223372036854775807 < 6 + ((⟨#[48, 49, 50, 51, 52, 53, 54, 55, 56]⟩ : ByteArray).extract (((qj_ l0_0 a1).f1) : Int).toNat ((wrap64 (((qj_ l0_0 a1).f1) + 1)) : Int).toNat).size) = False := eq_false (Nat.not_lt.2 c16)
         have H' := Aside0.mk H
         clear H
         have hcz18_0 := qg_ BK196 0 (.int .i64 0) rfl
         have hcz18_1 := qg_ BK196 1 (.int .i64 0) rfl
         have hcz18_2 := qg_ BK196 2 (.int .i64 0) rfl
         have hcz18_3 := qg_ BK196 3 (.int .i64 0) rfl
         have hfz18_0 := qd_ BK196 0
         have hfz18_1 := qd_ BK196 1
         have hfz18_2 := qd_ BK196 2
         have hfz18_3 := qd_ BK196 3
         go_wp2
         go_meet
         case rel => exact ⟨_, ((⟨#[115, 99, 111, 114, 101, 32]⟩ : ByteArray) ++ ((⟨#[48, 49, 50, 51, 52, 53, 54, 55, 56]⟩ : ByteArray).extract (((qj_ l0_0 a1).f1) : Int).toNat ((wrap64 (((qj_ l0_0 a1).f1) + 1)) : Int).toNat)), (by first | rfl | (simp [*]; done)), H', ⟨by first | omega | exact Nat.le_refl _⟩, ⟨by (with_reducible repeat first | apply qa_ | apply qb_ | apply blk_alloc); refine qn_ ?_ NB194_196.out _; (with_reducible repeat first | apply qa_ | apply qb_ | apply blk_alloc); refine qn_ ?_ NB194_196.out _; (with_reducible repeat first | apply qa_ | apply qb_ | apply blk_alloc); refine qn_ ?_ NB194_196.out _; (with_reducible repeat first | apply qa_ | apply qb_ | apply blk_alloc); refine qn_ ?_ NB194_196.out _; (with_reducible repeat first | apply qa_ | apply qb_ | apply blk_alloc); exact BK194.out⟩, ⟨by (with_reducible repeat first | apply qa_ | apply qb_ | apply blk_alloc); refine qA_ (cs := #[.int .i64 ((qj_ l0_0 a1).f0), .int .i64 ((qj_ l0_0 a1).f1), .int .i64 ((qj_ l0_0 a1).f2), .int .i64 0]) ?_ 3 _ rfl; (with_reducible repeat first | apply qa_ | apply qb_ | apply blk_alloc); refine qA_ (cs := #[.int .i64 ((qj_ l0_0 a1).f0), .int .i64 ((qj_ l0_0 a1).f1), .int .i64 0, .int .i64 0]) ?_ 2 _ rfl; (with_reducible repeat first | apply qa_ | apply qb_ | apply blk_alloc); refine qA_ (cs := #[.int .i64 ((qj_ l0_0 a1).f0), .int .i64 0, .int .i64 0, .int .i64 0]) ?_ 1 _ rfl; (with_reducible repeat first | apply qa_ | apply qb_ | apply blk_alloc); refine qA_ (cs := #[.int .i64 0, .int .i64 0, .int .i64 0, .int .i64 0]) ?_ 0 _ rfl; (with_reducible repeat first | apply qa_ | apply qb_ | apply blk_alloc); exact BK196.out⟩, ⟨by repeat (first | (with_reducible first | exact HB.out | apply qh_ | apply qc_ | apply qf_ | refine qk_ ?_ (by assumption)) | exact HB.out)⟩⟩
        ·rw [if_neg c16] at H
         exact absurd H (by simp)
       ·rw [if_neg c15] at H
        exact absurd H (by simp)
      ·rw [if_neg c14] at H
       exact absurd H (by simp)
     ·rw [if_neg c13] at H
      exact absurd H (by simp)
    ·rw [if_neg c12] at H
     have c12b0 : (((qj_ l0_0 a1).f0) == 1) = false := beq_eq_false_iff_ne.mpr c12
     have c12b1 : (((qj_ l0_0 a1).f0) != 1) = true := bne_iff_ne.mpr c12
     (first | rw [c12b0] | (simp only [i64_w, i32_w]; rw [c12b0]) | skip)
     have H' := Aside0.mk H
     clear H
     go_wp2
     go_meet
     case rel => exact ⟨_, ((⟨#[]⟩ : ByteArray)), (by first | rfl | (simp [*]; done)), H', ⟨by first | omega | exact Nat.le_refl _⟩, ⟨by (with_reducible repeat first | apply qa_ | apply qb_ | apply blk_alloc); refine qn_ ?_ NB194_196.out _; (with_reducible repeat first | apply qa_ | apply qb_ | apply blk_alloc); refine qn_ ?_ NB194_196.out _; (with_reducible repeat first | apply qa_ | apply qb_ | apply blk_alloc); refine qn_ ?_ NB194_196.out _; (with_reducible repeat first | apply qa_ | apply qb_ | apply blk_alloc); refine qn_ ?_ NB194_196.out _; (with_reducible repeat first | apply qa_ | apply qb_ | apply blk_alloc); exact BK194.out⟩, ⟨by (with_reducible repeat first | apply qa_ | apply qb_ | apply blk_alloc); refine qA_ (cs := #[.int .i64 ((qj_ l0_0 a1).f0), .int .i64 ((qj_ l0_0 a1).f1), .int .i64 ((qj_ l0_0 a1).f2), .int .i64 0]) ?_ 3 _ rfl; (with_reducible repeat first | apply qa_ | apply qb_ | apply blk_alloc); refine qA_ (cs := #[.int .i64 ((qj_ l0_0 a1).f0), .int .i64 ((qj_ l0_0 a1).f1), .int .i64 0, .int .i64 0]) ?_ 2 _ rfl; (with_reducible repeat first | apply qa_ | apply qb_ | apply blk_alloc); refine qA_ (cs := #[.int .i64 ((qj_ l0_0 a1).f0), .int .i64 0, .int .i64 0, .int .i64 0]) ?_ 1 _ rfl; (with_reducible repeat first | apply qa_ | apply qb_ | apply blk_alloc); refine qA_ (cs := #[.int .i64 0, .int .i64 0, .int .i64 0, .int .i64 0]) ?_ 0 _ rfl; (with_reducible repeat first | apply qa_ | apply qb_ | apply blk_alloc); exact BK196.out⟩, ⟨by repeat (first | (with_reducible first | exact HB.out | apply qh_ | apply qc_ | apply qf_ | refine qk_ ?_ (by assumption)) | exact HB.out)⟩⟩
   case rest =>
    clear HC6
    obtain ⟨kq, x9_5, rfl, HA, HJ5, BK194, BK196, HB⟩ := hcut
    cases kq with
    | zero => exact absurd HA.out (by simp [qi_.j0])
    | succ kj5 =>
     have H := HA.out
     clear HA
     simp only [qi_.j0] at H
     have HC19 := Aside0.mk H
     clear H
     have hcz21_0 := qg_ BK196 0 (.int .i64 ((qj_ l0_0 a1).f0)) rfl
     have hcz21_1 := qg_ BK196 1 (.int .i64 ((qj_ l0_0 a1).f1)) rfl
     have hcz21_2 := qg_ BK196 2 (.int .i64 ((qj_ l0_0 a1).f2)) rfl
     have hcz21_3 := qg_ BK196 3 (.int .i64 ((qj_ l0_0 a1).f3)) rfl
     have hfz21_0 := qd_ BK196 0
     have hfz21_1 := qd_ BK196 1
     have hfz21_2 := qd_ BK196 2
     have hfz21_3 := qd_ BK196 3
     go_upto_if 28 with (fail)
     go_cut [9] (fun v9 wc => ∃ (kq : Nat) (x9_18 : ByteArray), v9 = .string x9_18 ∧ Aside0 (qi_.j1 kq a2 (⟨#[48, 49, 50, 51, 52, 53, 54, 55, 56]⟩ : ByteArray) x9_18 l0_0 ((qj_ l0_0 a1).f0) ((qj_ l0_0 a1).f1) ((qj_ l0_0 a1).f2) ((qj_ l0_0 a1).f3) = some r) ∧ Aside0 (kq ≤ kj5) ∧ Aside0 (wc.heap[gb194]? = some (.cells #[(.slice (some ad195) l0_0.length c0_0)] 24 (0, 0))) ∧ Aside0 (wc.heap[gb196]? = some (.cells #[.int .i64 ((qj_ l0_0 a1).f0), .int .i64 ((qj_ l0_0 a1).f1), .int .i64 ((qj_ l0_0 a1).f2), .int .i64 ((qj_ l0_0 a1).f3)] 47 (0, 0))) ∧ Aside0 (Below w.heap.size w wc))
     case first =>
      have H := HC19.out
      clear HC19
      by_cases c22 : ((qj_ l0_0 a1).f0) = 2
      ·rw [if_pos c22] at H
       have c22b0 : (((qj_ l0_0 a1).f0) == 2) = true := beq_iff_eq.mpr c22
       have c22b1 : (((qj_ l0_0 a1).f0) != 2) = false := bne_eq_false_iff_eq.mpr c22
       clear c22
       (first | rw [c22b0] | (simp only [i64_w, i32_w]; rw [c22b0]) | skip)
       have H' := Aside0.mk H
       clear H
       go_wp2
       go_meet
       case rel => exact ⟨_, ((⟨#[111, 119, 110, 101, 114, 115]⟩ : ByteArray)), (by first | rfl | (simp [*]; done)), H', ⟨by have := HJ5.out; first | omega | exact Nat.le_refl _⟩, ⟨by (with_reducible repeat first | apply qa_ | apply qb_ | apply blk_alloc); exact BK194.out⟩, ⟨by (with_reducible repeat first | apply qa_ | apply qb_ | apply blk_alloc); exact BK196.out⟩, ⟨by repeat (first | (with_reducible first | exact HB.out | apply qh_ | apply qc_ | apply qf_ | refine qk_ ?_ (by assumption)) | exact HB.out)⟩⟩
      ·rw [if_neg c22] at H
       have c22b0 : (((qj_ l0_0 a1).f0) == 2) = false := beq_eq_false_iff_ne.mpr c22
       have c22b1 : (((qj_ l0_0 a1).f0) != 2) = true := bne_iff_ne.mpr c22
       (first | rw [c22b0] | (simp only [i64_w, i32_w]; rw [c22b0]) | skip)
       have H' := Aside0.mk H
       clear H
       go_wp2
       go_meet
       case rel => exact ⟨_, (x9_5), (by first | rfl | (simp [*]; done)), H', ⟨by have := HJ5.out; first | omega | exact Nat.le_refl _⟩, ⟨by (with_reducible repeat first | apply qa_ | apply qb_ | apply blk_alloc); exact BK194.out⟩, ⟨by (with_reducible repeat first | apply qa_ | apply qb_ | apply blk_alloc); exact BK196.out⟩, ⟨by repeat (first | (with_reducible first | exact HB.out | apply qh_ | apply qc_ | apply qf_ | refine qk_ ?_ (by assumption)) | exact HB.out)⟩⟩
     case rest =>
      clear HC19
      obtain ⟨kq, x9_18, rfl, HA, HJ18, BK194, BK196, HB⟩ := hcut
      cases kq with
      | zero => exact absurd HA.out (by simp [qi_.j1])
      | succ kj18 =>
       have H := HA.out
       clear HA
       simp only [qi_.j1] at H
       have HC23 := Aside0.mk H
       clear H
       have hcz25_0 := qg_ BK196 0 (.int .i64 ((qj_ l0_0 a1).f0)) rfl
       have hcz25_1 := qg_ BK196 1 (.int .i64 ((qj_ l0_0 a1).f1)) rfl
       have hcz25_2 := qg_ BK196 2 (.int .i64 ((qj_ l0_0 a1).f2)) rfl
       have hcz25_3 := qg_ BK196 3 (.int .i64 ((qj_ l0_0 a1).f3)) rfl
       have hfz25_0 := qd_ BK196 0
       have hfz25_1 := qd_ BK196 1
       have hfz25_2 := qd_ BK196 2
       have hfz25_3 := qd_ BK196 3
       go_upto_if 31 with (fail)
       go_cut [9] (fun v9 wc => ∃ (kq : Nat) (x9_22 : ByteArray), v9 = .string x9_22 ∧ Aside0 (qi_.j2 kq a2 (⟨#[48, 49, 50, 51, 52, 53, 54, 55, 56]⟩ : ByteArray) x9_22 l0_0 ((qj_ l0_0 a1).f0) ((qj_ l0_0 a1).f1) ((qj_ l0_0 a1).f2) ((qj_ l0_0 a1).f3) = some r) ∧ Aside0 (kq ≤ kj18) ∧ Aside0 (wc.heap[gb194]? = some (.cells #[(.slice (some ad195) l0_0.length c0_0)] 24 (0, 0))) ∧ Aside0 (wc.heap[gb196]? = some (.cells #[.int .i64 ((qj_ l0_0 a1).f0), .int .i64 ((qj_ l0_0 a1).f1), .int .i64 ((qj_ l0_0 a1).f2), .int .i64 ((qj_ l0_0 a1).f3)] 47 (0, 0))) ∧ Aside0 (Below w.heap.size w wc))
       case first =>
        have H := HC23.out
        clear HC23
        by_cases c26 : ((qj_ l0_0 a1).f0) = 3
        ·rw [if_pos c26] at H
         have c26b0 : (((qj_ l0_0 a1).f0) == 3) = true := beq_iff_eq.mpr c26
         have c26b1 : (((qj_ l0_0 a1).f0) != 3) = false := bne_eq_false_iff_eq.mpr c26
         clear c26
         (first | rw [c26b0] | (simp only [i64_w, i32_w]; rw [c26b0]) | skip)
         have H' := Aside0.mk H
         clear H
         go_wp2
         go_meet
         case rel => exact ⟨_, ((⟨#[116, 101, 115, 116, 115]⟩ : ByteArray)), (by first | rfl | (simp [*]; done)), H', ⟨by have := HJ5.out; have := HJ18.out; first | omega | exact Nat.le_refl _⟩, ⟨by (with_reducible repeat first | apply qa_ | apply qb_ | apply blk_alloc); exact BK194.out⟩, ⟨by (with_reducible repeat first | apply qa_ | apply qb_ | apply blk_alloc); exact BK196.out⟩, ⟨by repeat (first | (with_reducible first | exact HB.out | apply qh_ | apply qc_ | apply qf_ | refine qk_ ?_ (by assumption)) | exact HB.out)⟩⟩
        ·rw [if_neg c26] at H
         have c26b0 : (((qj_ l0_0 a1).f0) == 3) = false := beq_eq_false_iff_ne.mpr c26
         have c26b1 : (((qj_ l0_0 a1).f0) != 3) = true := bne_iff_ne.mpr c26
         (first | rw [c26b0] | (simp only [i64_w, i32_w]; rw [c26b0]) | skip)
         have H' := Aside0.mk H
         clear H
         go_wp2
         go_meet
         case rel => exact ⟨_, (x9_18), (by first | rfl | (simp [*]; done)), H', ⟨by have := HJ5.out; have := HJ18.out; first | omega | exact Nat.le_refl _⟩, ⟨by (with_reducible repeat first | apply qa_ | apply qb_ | apply blk_alloc); exact BK194.out⟩, ⟨by (with_reducible repeat first | apply qa_ | apply qb_ | apply blk_alloc); exact BK196.out⟩, ⟨by repeat (first | (with_reducible first | exact HB.out | apply qh_ | apply qc_ | apply qf_ | refine qk_ ?_ (by assumption)) | exact HB.out)⟩⟩
       case rest =>
        clear HC23
        obtain ⟨kq, x9_22, rfl, HA, HJ22, BK194, BK196, HB⟩ := hcut
        cases kq with
        | zero => exact absurd HA.out (by simp [qi_.j2])
        | succ kj22 =>
         have H := HA.out
         clear HA
         simp only [qi_.j2] at H
         have HC27 := Aside0.mk H
         clear H
         have hcz29_0 := qg_ BK196 0 (.int .i64 ((qj_ l0_0 a1).f0)) rfl
         have hcz29_1 := qg_ BK196 1 (.int .i64 ((qj_ l0_0 a1).f1)) rfl
         have hcz29_2 := qg_ BK196 2 (.int .i64 ((qj_ l0_0 a1).f2)) rfl
         have hcz29_3 := qg_ BK196 3 (.int .i64 ((qj_ l0_0 a1).f3)) rfl
         have hfz29_0 := qd_ BK196 0
         have hfz29_1 := qd_ BK196 1
         have hfz29_2 := qd_ BK196 2
         have hfz29_3 := qd_ BK196 3
         go_upto_if 34 with (fail)
         go_cut [9] (fun v9 wc => ∃ (kq : Nat) (x9_26 : ByteArray), v9 = .string x9_26 ∧ Aside0 (qi_.j3 kq a2 x9_26 l0_0 ((qj_ l0_0 a1).f0) ((qj_ l0_0 a1).f1) ((qj_ l0_0 a1).f2) ((qj_ l0_0 a1).f3) = some r) ∧ Aside0 (kq ≤ kj22) ∧ Aside0 (wc.heap[gb194]? = some (.cells #[(.slice (some ad195) l0_0.length c0_0)] 24 (0, 0))) ∧ Aside0 (wc.heap[gb196]? = some (.cells #[.int .i64 ((qj_ l0_0 a1).f0), .int .i64 ((qj_ l0_0 a1).f1), .int .i64 ((qj_ l0_0 a1).f2), .int .i64 ((qj_ l0_0 a1).f3)] 47 (0, 0))) ∧ Aside0 (Below w.heap.size w wc))
         case first =>
          have H := HC27.out
          clear HC27
          by_cases c30 : ((qj_ l0_0 a1).f0) = 4
          ·rw [if_pos c30] at H
           have c30b0 : (((qj_ l0_0 a1).f0) == 4) = true := beq_iff_eq.mpr c30
           have c30b1 : (((qj_ l0_0 a1).f0) != 4) = false := bne_eq_false_iff_eq.mpr c30
           clear c30
           (first | rw [c30b0] | (simp only [i64_w, i32_w]; rw [c30b0]) | skip)
           by_cases c31 : 0 ≤ ((qj_ l0_0 a1).f1)
           ·rw [if_pos c31] at H
            have c31b0 := eq_true c31
            have c31b1 : decide (0 ≤ ((qj_ l0_0 a1).f1)) = true := decide_eq_true c31
            clear c31
            by_cases c32 : ((qj_ l0_0 a1).f1) ≤ (wrap64 (((qj_ l0_0 a1).f1) + 1))
            ·rw [if_pos c32] at H
             have c32b0 := eq_true c32
             have c32b1 : decide (((qj_ l0_0 a1).f1) ≤ (wrap64 (((qj_ l0_0 a1).f1) + 1))) = true := decide_eq_true c32
             by_cases c33 : (wrap64 (((qj_ l0_0 a1).f1) + 1)) ≤ ((⟨#[48, 49, 50, 51, 52, 53, 54, 55, 56]⟩ : ByteArray).size : Int)
             ·rw [if_pos c33] at H
              replace c33 : (wrap64 (((qj_ l0_0 a1).f1) + 1)) ≤ 9 := c33
              have c33b0 := eq_true c33
              have c33b1 : decide ((wrap64 (((qj_ l0_0 a1).f1) + 1)) ≤ 9) = true := decide_eq_true c33
              by_cases c34 : 5 + ((⟨#[48, 49, 50, 51, 52, 53, 54, 55, 56]⟩ : ByteArray).extract (((qj_ l0_0 a1).f1) : Int).toNat ((wrap64 (((qj_ l0_0 a1).f1) + 1)) : Int).toNat).size ≤ 9223372036854775807
              ·rw [if_pos c34] at H
               have c34b0 := eq_true c34
               have c34b1 : decide (5 + ((⟨#[48, 49, 50, 51, 52, 53, 54, 55, 56]⟩ : ByteArray).extract (((qj_ l0_0 a1).f1) : Int).toNat ((wrap64 (((qj_ l0_0 a1).f1) + 1)) : Int).toNat).size ≤ 9223372036854775807) = true := decide_eq_true c34
               try have c34b2 : (9223372036854775807 < 5 + ((⟨#[48, 49, 50, 51, 52, 53, 54, 55, 56]⟩ : ByteArray).extract (((qj_ l0_0 a1).f1) : Int).toNat ((wrap64 (((qj_ l0_0 a1).f1) + 1)) : Int).toNat).size) = False := eq_false (Nat.not_lt.2 c34)
               have H' := Aside0.mk H
               clear H
               have hcz36_0 := qg_ BK196 0 (.int .i64 ((qj_ l0_0 a1).f0)) rfl
               have hcz36_1 := qg_ BK196 1 (.int .i64 ((qj_ l0_0 a1).f1)) rfl
               have hcz36_2 := qg_ BK196 2 (.int .i64 ((qj_ l0_0 a1).f2)) rfl
               have hcz36_3 := qg_ BK196 3 (.int .i64 ((qj_ l0_0 a1).f3)) rfl
               have hfz36_0 := qd_ BK196 0
               have hfz36_1 := qd_ BK196 1
               have hfz36_2 := qd_ BK196 2
               have hfz36_3 := qd_ BK196 3
               go_wp2
               go_meet
               case rel => exact ⟨_, ((⟨#[117, 115, 101, 114, 32]⟩ : ByteArray) ++ ((⟨#[48, 49, 50, 51, 52, 53, 54, 55, 56]⟩ : ByteArray).extract (((qj_ l0_0 a1).f1) : Int).toNat ((wrap64 (((qj_ l0_0 a1).f1) + 1)) : Int).toNat)), (by first | rfl | (simp [*]; done)), H', ⟨by have := HJ5.out; have := HJ18.out; have := HJ22.out; first | omega | exact Nat.le_refl _⟩, ⟨by (with_reducible repeat first | apply qa_ | apply qb_ | apply blk_alloc); exact BK194.out⟩, ⟨by (with_reducible repeat first | apply qa_ | apply qb_ | apply blk_alloc); exact BK196.out⟩, ⟨by repeat (first | (with_reducible first | exact HB.out | apply qh_ | apply qc_ | apply qf_ | refine qk_ ?_ (by assumption)) | exact HB.out)⟩⟩
              ·rw [if_neg c34] at H
               exact absurd H (by simp)
             ·rw [if_neg c33] at H
              exact absurd H (by simp)
            ·rw [if_neg c32] at H
             exact absurd H (by simp)
           ·rw [if_neg c31] at H
            exact absurd H (by simp)
          ·rw [if_neg c30] at H
           have c30b0 : (((qj_ l0_0 a1).f0) == 4) = false := beq_eq_false_iff_ne.mpr c30
           have c30b1 : (((qj_ l0_0 a1).f0) != 4) = true := bne_iff_ne.mpr c30
           (first | rw [c30b0] | (simp only [i64_w, i32_w]; rw [c30b0]) | skip)
           have H' := Aside0.mk H
           clear H
           go_wp2
           go_meet
           case rel => exact ⟨_, (x9_22), (by first | rfl | (simp [*]; done)), H', ⟨by have := HJ5.out; have := HJ18.out; have := HJ22.out; first | omega | exact Nat.le_refl _⟩, ⟨by (with_reducible repeat first | apply qa_ | apply qb_ | apply blk_alloc); exact BK194.out⟩, ⟨by (with_reducible repeat first | apply qa_ | apply qb_ | apply blk_alloc); exact BK196.out⟩, ⟨by repeat (first | (with_reducible first | exact HB.out | apply qh_ | apply qc_ | apply qf_ | refine qk_ ?_ (by assumption)) | exact HB.out)⟩⟩
         case rest =>
          clear HC27
          obtain ⟨kq, x9_26, rfl, HA, HJ26, BK194, BK196, HB⟩ := hcut
          cases kq with
          | zero => exact absurd HA.out (by simp [qi_.j3])
          | succ kj26 =>
           have H := HA.out
           clear HA
           simp only [qi_.j3] at H
           have HC37 := Aside0.mk H
           clear H
           have hcz39_0 := qg_ BK196 0 (.int .i64 ((qj_ l0_0 a1).f0)) rfl
           have hcz39_1 := qg_ BK196 1 (.int .i64 ((qj_ l0_0 a1).f1)) rfl
           have hcz39_2 := qg_ BK196 2 (.int .i64 ((qj_ l0_0 a1).f2)) rfl
           have hcz39_3 := qg_ BK196 3 (.int .i64 ((qj_ l0_0 a1).f3)) rfl
           have hfz39_0 := qd_ BK196 0
           have hfz39_1 := qd_ BK196 1
           have hfz39_2 := qd_ BK196 2
           have hfz39_3 := qd_ BK196 3
           go_upto_if 45 with (fail)
           go_cut [9] (fun v9 wc => ∃ (kq : Nat) (x9_36 : ByteArray), v9 = .string x9_36 ∧ Aside0 (qi_.j4 kq a2 x9_36 l0_0 ((qj_ l0_0 a1).f0) ((qj_ l0_0 a1).f1) ((qj_ l0_0 a1).f2) ((qj_ l0_0 a1).f3) = some r) ∧ Aside0 (kq ≤ kj26) ∧ Aside0 (wc.heap[gb194]? = some (.cells #[(.slice (some ad195) l0_0.length c0_0)] 24 (0, 0))) ∧ Aside0 (wc.heap[gb196]? = some (.cells #[.int .i64 ((qj_ l0_0 a1).f0), .int .i64 ((qj_ l0_0 a1).f1), .int .i64 ((qj_ l0_0 a1).f2), .int .i64 ((qj_ l0_0 a1).f3)] 47 (0, 0))) ∧ Aside0 (Below w.heap.size w wc))
           case first =>
            have H := HC37.out
            clear HC37
            by_cases c40 : ((qj_ l0_0 a1).f0) = 5
            ·rw [if_pos c40] at H
             have c40b0 : (((qj_ l0_0 a1).f0) == 5) = true := beq_iff_eq.mpr c40
             have c40b1 : (((qj_ l0_0 a1).f0) != 5) = false := bne_eq_false_iff_eq.mpr c40
             clear c40
             (first | rw [c40b0] | (simp only [i64_w, i32_w]; rw [c40b0]) | skip)
             replace H := Option.bind_eq_some_iff.mp H
             obtain ⟨t197, A410, H⟩ := H
             replace H : (if 4 + t197.size ≤ 9223372036854775807 then (qi_.j4 kj26 a2 ((⟨#[110, 111, 116, 32]⟩ : ByteArray) ++ t197) l0_0 ((qj_ l0_0 a1).f0) ((qj_ l0_0 a1).f1) ((qj_ l0_0 a1).f2) ((qj_ l0_0 a1).f3)) else (none)) = some r := H
             have A41 := Aside0.mk A410
             clear A410
             by_cases c42 : 4 + t197.size ≤ 9223372036854775807
             ·rw [if_pos c42] at H
              have c42b0 := eq_true c42
              have c42b1 : decide (4 + t197.size ≤ 9223372036854775807) = true := decide_eq_true c42
              try have c42b2 : (9223372036854775807 < 4 + t197.size) = False := eq_false (Nat.not_lt.2 c42)
              have H' := Aside0.mk H
              clear H
              have hcz44_0 := qg_ BK194 0 (.slice (some ad195) l0_0.length c0_0) rfl
              have hfz44_0 := qd_ BK194 0
              have hcz45_0 := qg_ BK196 0 (.int .i64 ((qj_ l0_0 a1).f0)) rfl
              have hcz45_1 := qg_ BK196 1 (.int .i64 ((qj_ l0_0 a1).f1)) rfl
              have hcz45_2 := qg_ BK196 2 (.int .i64 ((qj_ l0_0 a1).f2)) rfl
              have hcz45_3 := qg_ BK196 3 (.int .i64 ((qj_ l0_0 a1).f3)) rfl
              have hfz45_0 := qd_ BK196 0
              have hfz45_1 := qd_ BK196 1
              have hfz45_2 := qd_ BK196 2
              have hfz45_3 := qd_ BK196 3
              go_wp2_with (first | ((with_reducible refine qs_ (f := 15) rfl ?_); refine goesL_ (some 49) rfl rfl Tryd.func15 (by kernel_rfl) rfl #[.agg #[.slice (some ad195) l0_0.length c0_0], .int .i64 ((qj_ l0_0 a1).f2), .int .i64 5] rfl (by (try simp only [List.map_toArray]); first | done | rfl) ?_; (with_reducible refine (ih kj26 (by have := HJ5.out; have := HJ18.out; have := HJ22.out; have := HJ26.out; omega) _ _ l0_0 ((qj_ l0_0 a1).f2) 5 t197 _ ?side1 ?side2 A41.out).mono ?_); (case side1 => repeat (first | exact (Kd.C_below HR0_0.out HB.out) | (with_reducible refine Kd.C_alloc ?_ _) | (with_reducible refine Kd.C_drewN ?_ _) | (with_reducible refine Kd.C_drew ?_))); (case side2 => exact HC0_0.out); rintro e w46 ⟨rfl, hb⟩; refine ⟨_, rfl, ?_⟩; replace BK194 := Aside0.mk (ql_ BK194 (by (with_reducible repeat first | apply qa_ | apply qb_ | apply blk_alloc); exact BK194.out) hb); replace BK196 := Aside0.mk (ql_ BK196 (by (with_reducible repeat first | apply qa_ | apply qb_ | apply blk_alloc); exact BK196.out) hb); replace HB := Aside0.mk (qq_ (by repeat (first | (with_reducible first | exact HB.out | apply qh_ | apply qc_ | apply qf_ | refine qk_ ?_ (by assumption)) | exact HB.out)) hb); (try clear hb)))
              go_meet
              case rel => exact ⟨_, ((⟨#[110, 111, 116, 32]⟩ : ByteArray) ++ t197), (by first | rfl | (simp [*]; done)), H', ⟨by have := HJ5.out; have := HJ18.out; have := HJ22.out; have := HJ26.out; first | omega | exact Nat.le_refl _⟩, ⟨by (with_reducible repeat first | apply qa_ | apply qb_ | apply blk_alloc); exact BK194.out⟩, ⟨by (with_reducible repeat first | apply qa_ | apply qb_ | apply blk_alloc); exact BK196.out⟩, ⟨by repeat (first | (with_reducible first | exact HB.out | apply qh_ | apply qc_ | apply qf_ | refine qk_ ?_ (by assumption)) | exact HB.out)⟩⟩
             ·rw [if_neg c42] at H
              exact absurd H (by simp)
            ·rw [if_neg c40] at H
             have c40b0 : (((qj_ l0_0 a1).f0) == 5) = false := beq_eq_false_iff_ne.mpr c40
             have c40b1 : (((qj_ l0_0 a1).f0) != 5) = true := bne_iff_ne.mpr c40
             (first | rw [c40b0] | (simp only [i64_w, i32_w]; rw [c40b0]) | skip)
             have H' := Aside0.mk H
             clear H
             go_wp2
             go_meet
             case rel => exact ⟨_, (x9_26), (by first | rfl | (simp [*]; done)), H', ⟨by have := HJ5.out; have := HJ18.out; have := HJ22.out; have := HJ26.out; first | omega | exact Nat.le_refl _⟩, ⟨by (with_reducible repeat first | apply qa_ | apply qb_ | apply blk_alloc); exact BK194.out⟩, ⟨by (with_reducible repeat first | apply qa_ | apply qb_ | apply blk_alloc); exact BK196.out⟩, ⟨by repeat (first | (with_reducible first | exact HB.out | apply qh_ | apply qc_ | apply qf_ | refine qk_ ?_ (by assumption)) | exact HB.out)⟩⟩
           case rest =>
            clear HC37
            obtain ⟨kq, x9_36, rfl, HA, HJ36, BK194, BK196, HB⟩ := hcut
            cases kq with
            | zero => exact absurd HA.out (by simp [qi_.j4])
            | succ kj36 =>
             have H := HA.out
             clear HA
             simp only [qi_.j4] at H
             have HC47 := Aside0.mk H
             clear H
             have hcz49_0 := qg_ BK196 0 (.int .i64 ((qj_ l0_0 a1).f0)) rfl
             have hcz49_1 := qg_ BK196 1 (.int .i64 ((qj_ l0_0 a1).f1)) rfl
             have hcz49_2 := qg_ BK196 2 (.int .i64 ((qj_ l0_0 a1).f2)) rfl
             have hcz49_3 := qg_ BK196 3 (.int .i64 ((qj_ l0_0 a1).f3)) rfl
             have hfz49_0 := qd_ BK196 0
             have hfz49_1 := qd_ BK196 1
             have hfz49_2 := qd_ BK196 2
             have hfz49_3 := qd_ BK196 3
             go_upto_if 53 with (fail)
             go_cut [9] (fun v9 wc => ∃ (kq : Nat) (x9_46 : ByteArray), v9 = .string x9_46 ∧ Aside0 (qi_.j5 kq a2 x9_46 l0_0 ((qj_ l0_0 a1).f0) ((qj_ l0_0 a1).f1) ((qj_ l0_0 a1).f2) ((qj_ l0_0 a1).f3) = some r) ∧ Aside0 (kq ≤ kj36) ∧ Aside0 (wc.heap[gb194]? = some (.cells #[(.slice (some ad195) l0_0.length c0_0)] 24 (0, 0))) ∧ Aside0 (wc.heap[gb196]? = some (.cells #[.int .i64 ((qj_ l0_0 a1).f0), .int .i64 ((qj_ l0_0 a1).f1), .int .i64 ((qj_ l0_0 a1).f2), .int .i64 ((qj_ l0_0 a1).f3)] 47 (0, 0))) ∧ Aside0 (Below w.heap.size w wc))
             case first =>
              have H := HC47.out
              clear HC47
              by_cases c50 : ((qj_ l0_0 a1).f0) = 6
              ·rw [if_pos c50] at H
               have c50b0 : (((qj_ l0_0 a1).f0) == 6) = true := beq_iff_eq.mpr c50
               have c50b1 : (((qj_ l0_0 a1).f0) != 6) = false := bne_eq_false_iff_eq.mpr c50
               clear c50
               (first | rw [c50b0] | (simp only [i64_w, i32_w]; rw [c50b0]) | skip)
               replace H := Option.bind_eq_some_iff.mp H
               obtain ⟨t198, A510, H⟩ := H
               replace H : (if t198.size + 5 ≤ 9223372036854775807 then ((qi_.f kj36 l0_0 ((qj_ l0_0 a1).f3) 5).bind fun t199 => (if (t198 ++ (⟨#[32, 97, 110, 100, 32]⟩ : ByteArray)).size + t199.size ≤ 9223372036854775807 then (qi_.j5 kj36 a2 ((t198 ++ (⟨#[32, 97, 110, 100, 32]⟩ : ByteArray)) ++ t199) l0_0 ((qj_ l0_0 a1).f0) ((qj_ l0_0 a1).f1) ((qj_ l0_0 a1).f2) ((qj_ l0_0 a1).f3)) else (none))) else (none)) = some r := H
               have A51 := Aside0.mk A510
               clear A510
               by_cases c52 : t198.size + 5 ≤ 9223372036854775807
               ·rw [if_pos c52] at H
                have c52b0 := eq_true c52
                have c52b1 : decide (t198.size + 5 ≤ 9223372036854775807) = true := decide_eq_true c52
                try have c52b2 : (9223372036854775807 < t198.size + 5) = False := eq_false (Nat.not_lt.2 c52)
                replace H := Option.bind_eq_some_iff.mp H
                obtain ⟨t199, A530, H⟩ := H
                replace H : (if (t198 ++ (⟨#[32, 97, 110, 100, 32]⟩ : ByteArray)).size + t199.size ≤ 9223372036854775807 then (qi_.j5 kj36 a2 ((t198 ++ (⟨#[32, 97, 110, 100, 32]⟩ : ByteArray)) ++ t199) l0_0 ((qj_ l0_0 a1).f0) ((qj_ l0_0 a1).f1) ((qj_ l0_0 a1).f2) ((qj_ l0_0 a1).f3)) else (none)) = some r := H
                have A53 := Aside0.mk A530
                clear A530
                by_cases c54 : (t198 ++ (⟨#[32, 97, 110, 100, 32]⟩ : ByteArray)).size + t199.size ≤ 9223372036854775807
                ·rw [if_pos c54] at H
                 have c54b0 := eq_true c54
                 have c54b1 : decide ((t198 ++ (⟨#[32, 97, 110, 100, 32]⟩ : ByteArray)).size + t199.size ≤ 9223372036854775807) = true := decide_eq_true c54
                 try have c54b2 : (9223372036854775807 < (t198 ++ (⟨#[32, 97, 110, 100, 32]⟩ : ByteArray)).size + t199.size) = False := eq_false (Nat.not_lt.2 c54)
                 have c54b9 : (9223372036854775807 < t198.size + 5 + t199.size) = False := by have h_ := c54; simp only [ByteArray.size_append] at h_; exact eq_false (Nat.not_lt.2 h_)
                 have H' := Aside0.mk H
                 clear H
                 try go_wp2
                 replace BK194 := Aside0.mk (qb_ BK194.out)
                 replace BK196 := Aside0.mk (qb_ BK196.out)
                 replace HB := Aside0.mk (qf_ HB.out)
                 refine start_ (n := 11) (S := fun w' => w'.cell? ⟨gb194, 0, none⟩ = some (.slice (some ad195) l0_0.length c0_0) ∧ w'.cell? ⟨gb196, 0, none⟩ = some (.int .i64 ((qj_ l0_0 a1).f0)) ∧ w'.cell? ⟨gb196, 1, none⟩ = some (.int .i64 ((qj_ l0_0 a1).f1)) ∧ w'.cell? ⟨gb196, 2, none⟩ = some (.int .i64 ((qj_ l0_0 a1).f2)) ∧ w'.cell? ⟨gb196, 3, none⟩ = some (.int .i64 ((qj_ l0_0 a1).f3))) (ds := []) #[false, false, false, false, false, false, false, false, false, false, false] (by kernel_rfl) rfl rfl ⟨(qm_ BK194.out 0).trans rfl, (qm_ BK196.out 0).trans rfl, (qm_ BK196.out 1).trans rfl, (qm_ BK196.out 2).trans rfl, (qm_ BK196.out 3).trans rfl⟩ (fun hHeld => ?_); refine with_tabW qi_.tab15 qi_.bits15 (fun HT_ HW_ => ?_)
                 generalize wc.drew = w55 at BK194 BK196 HB hHeld ⊢
                 refine pure_ (i := 1) (N := some 55) (v := ?_) (a' := ?_) #[false, true, false, false, false, false, false, false, false, false, false] rfl rfl (any_of HT_.out (by kernel_rfl)) (fun _ _ _ h => h) (Or.inl ⟨by rfl, ?_⟩) ?_ ?_
                 rotate_left
                 ·intro w'
                  go_simp
                  with_reducible rfl
                 rotate_left
                 ·simp only [Act.put, List.setIfInBounds_toArray, List.set_cons_zero, List.set_cons_succ, i64_w, i32_w]
                  rfl
                 refine pure_ (i := 6) (N := some 60) (v := ?_) (a' := ?_) #[false, true, false, false, false, false, true, false, false, false, false] rfl rfl (any_of HT_.out (by kernel_rfl)) (fun _ _ _ h => h) (Or.inl ⟨by rfl, ?_⟩) ?_ ?_
                 rotate_left
                 ·intro w'
                  go_simp
                  with_reducible rfl
                 rotate_left
                 ·simp only [Act.put, List.setIfInBounds_toArray, List.set_cons_zero, List.set_cons_succ, i64_w, i32_w]
                  rfl
                 refine take_ (i := 0) (N := some 54) (v := ?_) (a' := ?_) #[true, true, false, false, false, false, true, false, false, false, false] rfl rfl (take_ofW HT_.out HW_.out (by kernel_rfl)) (fun _ _ _ h => h) (Or.inl ⟨by rfl, ?_⟩) hHeld ?_ ?_
                 rotate_left
                 ·rintro w' ⟨s0, s1, s2, s3, s4⟩
                  go_simp
                  with_reducible rfl
                 rotate_left
                 ·simp only [Act.put, List.setIfInBounds_toArray, List.set_cons_zero, List.set_cons_succ, i64_w, i32_w]
                  rfl
                 refine take_ (i := 2) (N := some 56) (v := ?_) (a' := ?_) #[true, true, true, false, false, false, true, false, false, false, false] rfl rfl (take_ofW HT_.out HW_.out (by kernel_rfl)) (fun _ _ _ h => h) (Or.inl ⟨by rfl, ?_⟩) hHeld ?_ ?_
                 rotate_left
                 ·rintro w' ⟨s0, s1, s2, s3, s4⟩
                  go_simp
                  with_reducible rfl
                 rotate_left
                 ·simp only [Act.put, List.setIfInBounds_toArray, List.set_cons_zero, List.set_cons_succ, i64_w, i32_w]
                  rfl
                 refine take_ (i := 5) (N := some 59) (v := ?_) (a' := ?_) #[true, true, true, false, false, true, true, false, false, false, false] rfl rfl (take_ofW HT_.out HW_.out (by kernel_rfl)) (fun _ _ _ h => h) (Or.inl ⟨by rfl, ?_⟩) hHeld ?_ ?_
                 rotate_left
                 ·rintro w' ⟨s0, s1, s2, s3, s4⟩
                  go_simp
                  with_reducible rfl
                 rotate_left
                 ·simp only [Act.put, List.setIfInBounds_toArray, List.set_cons_zero, List.set_cons_succ, i64_w, i32_w]
                  rfl
                 refine take_ (i := 7) (N := some 61) (v := ?_) (a' := ?_) #[true, true, true, false, false, true, true, true, false, false, false] rfl rfl (take_ofW HT_.out HW_.out (by kernel_rfl)) (fun _ _ _ h => h) (Or.inl ⟨by rfl, ?_⟩) hHeld ?_ ?_
                 rotate_left
                 ·rintro w' ⟨s0, s1, s2, s3, s4⟩
                  go_simp
                  with_reducible rfl
                 rotate_left
                 ·simp only [Act.put, List.setIfInBounds_toArray, List.set_cons_zero, List.set_cons_succ, i64_w, i32_w]
                  rfl
                 refine one_ (i := 3) (N := some 57) #[true, true, true, true, false, true, true, true, false, false, false] rfl rfl (one_of HT_.out (by kernel_rfl)) (by decide) (fun K hK => ?_)
                 refine goes_ Tryd.func15 (by kernel_rfl) rfl #[.agg #[.slice (some ad195) l0_0.length c0_0], .int .i64 ((qj_ l0_0 a1).f2), .int .i64 6] (by rfl) rfl rfl (by (try simp only [List.map_toArray]); first | done | rfl) ?_
                 with_reducible refine (ih kj36 (by have := HJ5.out; have := HJ18.out; have := HJ22.out; have := HJ26.out; have := HJ36.out; omega) _ _ l0_0 ((qj_ l0_0 a1).f2) 6 t198 _ ?side1 ?side2 A51.out).mono ?_
                 (case side1 => repeat (first | exact (Kd.C_below HR0_0.out HB.out) | (with_reducible refine Kd.C_alloc ?_ _) | (with_reducible refine Kd.C_drewN ?_ _) | (with_reducible refine Kd.C_drew ?_)))
                 (case side2 => exact HC0_0.out)
                 rintro e w56 ⟨rfl, hb⟩
                 refine ⟨_, rfl, ?_⟩
                 replace BK194 := Aside0.mk (ql_ BK194 (by (with_reducible repeat first | apply qa_ | apply qb_ | apply blk_alloc); exact BK194.out) hb)
                 replace BK196 := Aside0.mk (ql_ BK196 (by (with_reducible repeat first | apply qa_ | apply qb_ | apply blk_alloc); exact BK196.out) hb)
                 replace HB := Aside0.mk (qq_ (by repeat (first | (with_reducible first | exact HB.out | apply qh_ | apply qc_ | apply qf_ | refine qk_ ?_ (by assumption)) | exact HB.out)) hb)
                 (try clear hb)
                 refine hK.out _ _ ⟨(qm_ BK194.out 0).trans rfl, (qm_ BK196.out 0).trans rfl, (qm_ BK196.out 1).trans rfl, (qm_ BK196.out 2).trans rfl, (qm_ BK196.out 3).trans rfl⟩ (fun hHeld => ?_)
                 clear hK K
                 refine norm_ (a' := ?_) ?_ ?_
                 rotate_left
                 ·show Act.put _ (some 57) _ = _
                  simp only [Act.put, List.setIfInBounds_toArray, List.set_cons_zero, List.set_cons_succ, i64_w, i32_w]
                  rfl
                 refine pure_ (i := 4) (N := some 58) (v := ?_) (a' := ?_) #[true, true, true, true, true, true, true, true, false, false, false] rfl rfl (any_of HT_.out (by kernel_rfl)) (fun _ _ _ h => h) (Or.inl ⟨by rfl, ?_⟩) ?_ ?_
                 rotate_left
                 ·intro w'
                  go_simp
                  with_reducible rfl
                 rotate_left
                 ·simp only [Act.put, List.setIfInBounds_toArray, List.set_cons_zero, List.set_cons_succ, i64_w, i32_w]
                  rfl
                 refine one_ (i := 8) (N := some 62) #[true, true, true, true, true, true, true, true, true, false, false] rfl rfl (one_of HT_.out (by kernel_rfl)) (by decide) (fun K hK => ?_)
                 refine goes_ Tryd.func15 (by kernel_rfl) rfl #[.agg #[.slice (some ad195) l0_0.length c0_0], .int .i64 ((qj_ l0_0 a1).f3), .int .i64 5] (by rfl) rfl rfl (by (try simp only [List.map_toArray]); first | done | rfl) ?_
                 with_reducible refine (ih kj36 (by have := HJ5.out; have := HJ18.out; have := HJ22.out; have := HJ26.out; have := HJ36.out; omega) _ _ l0_0 ((qj_ l0_0 a1).f3) 5 t199 _ ?side1 ?side2 A53.out).mono ?_
                 (case side1 => repeat (first | exact (Kd.C_below HR0_0.out HB.out) | (with_reducible refine Kd.C_alloc ?_ _) | (with_reducible refine Kd.C_drewN ?_ _) | (with_reducible refine Kd.C_drew ?_)))
                 (case side2 => exact HC0_0.out)
                 rintro e w57 ⟨rfl, hb⟩
                 refine ⟨_, rfl, ?_⟩
                 replace BK194 := Aside0.mk (ql_ BK194 (by (with_reducible repeat first | apply qa_ | apply qb_ | apply blk_alloc); exact BK194.out) hb)
                 replace BK196 := Aside0.mk (ql_ BK196 (by (with_reducible repeat first | apply qa_ | apply qb_ | apply blk_alloc); exact BK196.out) hb)
                 replace HB := Aside0.mk (qq_ (by repeat (first | (with_reducible first | exact HB.out | apply qh_ | apply qc_ | apply qf_ | refine qk_ ?_ (by assumption)) | exact HB.out)) hb)
                 (try clear hb)
                 refine hK.out _ _ ⟨(qm_ BK194.out 0).trans rfl, (qm_ BK196.out 0).trans rfl, (qm_ BK196.out 1).trans rfl, (qm_ BK196.out 2).trans rfl, (qm_ BK196.out 3).trans rfl⟩ (fun hHeld => ?_)
                 clear hK K
                 refine norm_ (a' := ?_) ?_ ?_
                 rotate_left
                 ·show Act.put _ (some 62) _ = _
                  simp only [Act.put, List.setIfInBounds_toArray, List.set_cons_zero, List.set_cons_succ, i64_w, i32_w]
                  rfl
                 refine pure_ (i := 9) (N := some 63) (v := ?_) (a' := ?_) #[true, true, true, true, true, true, true, true, true, true, false] rfl rfl (any_of HT_.out (by kernel_rfl)) (fun _ _ _ h => h) (Or.inl ⟨by rfl, ?_⟩) ?_ ?_
                 rotate_left
                 ·intro w'
                  go_simp
                  with_reducible rfl
                 rotate_left
                 ·simp only [Act.put, List.setIfInBounds_toArray, List.set_cons_zero, List.set_cons_succ, i64_w, i32_w]
                  rfl
                 refine pure_ (i := 10) (N := some 9) (v := ?_) (a' := ?_) #[true, true, true, true, true, true, true, true, true, true, true] rfl rfl (any_of HT_.out (by kernel_rfl)) (fun _ _ _ h => h) (Or.inl ⟨by rfl, ?_⟩) ?_ ?_
                 rotate_left
                 ·intro w'
                  go_simp
                  with_reducible rfl
                 rotate_left
                 ·simp only [Act.put, List.setIfInBounds_toArray, List.set_cons_zero, List.set_cons_succ, i64_w, i32_w]
                  rfl
                 refine done_ (done_of HT_.out (by kernel_rfl)) ?_
                 try go_wp2
                 go_meet
                 case rel => exact ⟨_, ((t198 ++ (⟨#[32, 97, 110, 100, 32]⟩ : ByteArray)) ++ t199), (by first | rfl | (simp [*]; done)), H', ⟨by have := HJ5.out; have := HJ18.out; have := HJ22.out; have := HJ26.out; have := HJ36.out; first | omega | exact Nat.le_refl _⟩, ⟨by (with_reducible repeat first | apply qa_ | apply qb_ | apply blk_alloc); exact BK194.out⟩, ⟨by (with_reducible repeat first | apply qa_ | apply qb_ | apply blk_alloc); exact BK196.out⟩, ⟨by repeat (first | (with_reducible first | exact HB.out | apply qh_ | apply qc_ | apply qf_ | refine qk_ ?_ (by assumption)) | exact HB.out)⟩⟩
                ·rw [if_neg c54] at H
                 exact absurd H (by simp)
               ·rw [if_neg c52] at H
                exact absurd H (by simp)
              ·rw [if_neg c50] at H
               have c50b0 : (((qj_ l0_0 a1).f0) == 6) = false := beq_eq_false_iff_ne.mpr c50
               have c50b1 : (((qj_ l0_0 a1).f0) != 6) = true := bne_iff_ne.mpr c50
               (first | rw [c50b0] | (simp only [i64_w, i32_w]; rw [c50b0]) | skip)
               have H' := Aside0.mk H
               clear H
               go_wp2
               go_meet
               case rel => exact ⟨_, (x9_36), (by first | rfl | (simp [*]; done)), H', ⟨by have := HJ5.out; have := HJ18.out; have := HJ22.out; have := HJ26.out; have := HJ36.out; first | omega | exact Nat.le_refl _⟩, ⟨by (with_reducible repeat first | apply qa_ | apply qb_ | apply blk_alloc); exact BK194.out⟩, ⟨by (with_reducible repeat first | apply qa_ | apply qb_ | apply blk_alloc); exact BK196.out⟩, ⟨by repeat (first | (with_reducible first | exact HB.out | apply qh_ | apply qc_ | apply qf_ | refine qk_ ?_ (by assumption)) | exact HB.out)⟩⟩
             case rest =>
              clear HC47
              obtain ⟨kq, x9_46, rfl, HA, HJ46, BK194, BK196, HB⟩ := hcut
              cases kq with
              | zero => exact absurd HA.out (by simp [qi_.j5])
              | succ kj46 =>
               have H := HA.out
               clear HA
               simp only [qi_.j5] at H
               by_cases c58 : ((qj_ l0_0 a1).f0) = 7
               ·rw [if_pos c58] at H
                have c58b0 : (((qj_ l0_0 a1).f0) == 7) = true := beq_iff_eq.mpr c58
                have c58b1 : (((qj_ l0_0 a1).f0) != 7) = false := bne_eq_false_iff_eq.mpr c58
                clear c58
                replace H := Option.bind_eq_some_iff.mp H
                obtain ⟨t200, A590, H⟩ := H
                replace H : (if t200.size + 4 ≤ 9223372036854775807 then ((qi_.f kj46 l0_0 ((qj_ l0_0 a1).f3) 6).bind fun t201 => (if (t200 ++ (⟨#[32, 111, 114, 32]⟩ : ByteArray)).size + t201.size ≤ 9223372036854775807 then (if ((qj_ l0_0 a1).f0) > a2 then (if 1 + ((t200 ++ (⟨#[32, 111, 114, 32]⟩ : ByteArray)) ++ t201).size ≤ 9223372036854775807 then (if ((⟨#[40]⟩ : ByteArray) ++ ((t200 ++ (⟨#[32, 111, 114, 32]⟩ : ByteArray)) ++ t201)).size + 1 ≤ 9223372036854775807 then (some (((⟨#[40]⟩ : ByteArray) ++ ((t200 ++ (⟨#[32, 111, 114, 32]⟩ : ByteArray)) ++ t201)) ++ (⟨#[41]⟩ : ByteArray))) else (none)) else (none)) else (some ((t200 ++ (⟨#[32, 111, 114, 32]⟩ : ByteArray)) ++ t201))) else (none))) else (none)) = some r := H
                have A59 := Aside0.mk A590
                clear A590
                by_cases c60 : t200.size + 4 ≤ 9223372036854775807
                ·rw [if_pos c60] at H
                 have c60b0 := eq_true c60
                 have c60b1 : decide (t200.size + 4 ≤ 9223372036854775807) = true := decide_eq_true c60
                 try have c60b2 : (9223372036854775807 < t200.size + 4) = False := eq_false (Nat.not_lt.2 c60)
                 replace H := Option.bind_eq_some_iff.mp H
                 obtain ⟨t201, A610, H⟩ := H
                 replace H : (if (t200 ++ (⟨#[32, 111, 114, 32]⟩ : ByteArray)).size + t201.size ≤ 9223372036854775807 then (if ((qj_ l0_0 a1).f0) > a2 then (if 1 + ((t200 ++ (⟨#[32, 111, 114, 32]⟩ : ByteArray)) ++ t201).size ≤ 9223372036854775807 then (if ((⟨#[40]⟩ : ByteArray) ++ ((t200 ++ (⟨#[32, 111, 114, 32]⟩ : ByteArray)) ++ t201)).size + 1 ≤ 9223372036854775807 then (some (((⟨#[40]⟩ : ByteArray) ++ ((t200 ++ (⟨#[32, 111, 114, 32]⟩ : ByteArray)) ++ t201)) ++ (⟨#[41]⟩ : ByteArray))) else (none)) else (none)) else (some ((t200 ++ (⟨#[32, 111, 114, 32]⟩ : ByteArray)) ++ t201))) else (none)) = some r := H
                 have A61 := Aside0.mk A610
                 clear A610
                 by_cases c62 : (t200 ++ (⟨#[32, 111, 114, 32]⟩ : ByteArray)).size + t201.size ≤ 9223372036854775807
                 ·rw [if_pos c62] at H
                  have c62b0 := eq_true c62
                  have c62b1 : decide ((t200 ++ (⟨#[32, 111, 114, 32]⟩ : ByteArray)).size + t201.size ≤ 9223372036854775807) = true := decide_eq_true c62
                  try have c62b2 : (9223372036854775807 < (t200 ++ (⟨#[32, 111, 114, 32]⟩ : ByteArray)).size + t201.size) = False := eq_false (Nat.not_lt.2 c62)
                  have c62b9 : (9223372036854775807 < t200.size + 4 + t201.size) = False := by have h_ := c62; simp only [ByteArray.size_append] at h_; exact eq_false (Nat.not_lt.2 h_)
                  by_cases c63 : ((qj_ l0_0 a1).f0) > a2
                  ·rw [if_pos c63] at H
                   have c63b0 : decide (a2 < ((qj_ l0_0 a1).f0)) = true := decide_eq_true c63
                   clear c63
                   by_cases c64 : 1 + ((t200 ++ (⟨#[32, 111, 114, 32]⟩ : ByteArray)) ++ t201).size ≤ 9223372036854775807
                   ·rw [if_pos c64] at H
                    have c64b0 := eq_true c64
                    have c64b1 : decide (1 + ((t200 ++ (⟨#[32, 111, 114, 32]⟩ : ByteArray)) ++ t201).size ≤ 9223372036854775807) = true := decide_eq_true c64
                    try have c64b2 : (9223372036854775807 < 1 + ((t200 ++ (⟨#[32, 111, 114, 32]⟩ : ByteArray)) ++ t201).size) = False := eq_false (Nat.not_lt.2 c64)
                    have c64b9 : (9223372036854775807 < 1 + (t200.size + 4 + t201.size)) = False := by have h_ := c64; simp only [ByteArray.size_append] at h_; exact eq_false (Nat.not_lt.2 h_)
                    by_cases c65 : ((⟨#[40]⟩ : ByteArray) ++ ((t200 ++ (⟨#[32, 111, 114, 32]⟩ : ByteArray)) ++ t201)).size + 1 ≤ 9223372036854775807
                    ·rw [if_pos c65] at H
                     have c65b0 := eq_true c65
                     have c65b1 : decide (((⟨#[40]⟩ : ByteArray) ++ ((t200 ++ (⟨#[32, 111, 114, 32]⟩ : ByteArray)) ++ t201)).size + 1 ≤ 9223372036854775807) = true := decide_eq_true c65
                     try have c65b2 : (9223372036854775807 < ((⟨#[40]⟩ : ByteArray) ++ ((t200 ++ (⟨#[32, 111, 114, 32]⟩ : ByteArray)) ++ t201)).size + 1) = False := eq_false (Nat.not_lt.2 c65)
                     have c65b9 : (9223372036854775807 < 1 + (t200.size + 4 + t201.size) + 1) = False := by have h_ := c65; simp only [ByteArray.size_append] at h_; exact eq_false (Nat.not_lt.2 h_)
                     obtain rfl := Option.some.inj H
                     have hcz67_0 := qg_ BK196 0 (.int .i64 ((qj_ l0_0 a1).f0)) rfl
                     have hcz67_1 := qg_ BK196 1 (.int .i64 ((qj_ l0_0 a1).f1)) rfl
                     have hcz67_2 := qg_ BK196 2 (.int .i64 ((qj_ l0_0 a1).f2)) rfl
                     have hcz67_3 := qg_ BK196 3 (.int .i64 ((qj_ l0_0 a1).f3)) rfl
                     have hfz67_0 := qd_ BK196 0
                     have hfz67_1 := qd_ BK196 1
                     have hfz67_2 := qd_ BK196 2
                     have hfz67_3 := qd_ BK196 3
                     try go_wp2
                     replace BK194 := Aside0.mk (qb_ BK194.out)
                     replace BK196 := Aside0.mk (qb_ BK196.out)
                     replace HB := Aside0.mk (qf_ HB.out)
                     refine start_ (n := 11) (S := fun w' => w'.cell? ⟨gb194, 0, none⟩ = some (.slice (some ad195) l0_0.length c0_0) ∧ w'.cell? ⟨gb196, 0, none⟩ = some (.int .i64 ((qj_ l0_0 a1).f0)) ∧ w'.cell? ⟨gb196, 1, none⟩ = some (.int .i64 ((qj_ l0_0 a1).f1)) ∧ w'.cell? ⟨gb196, 2, none⟩ = some (.int .i64 ((qj_ l0_0 a1).f2)) ∧ w'.cell? ⟨gb196, 3, none⟩ = some (.int .i64 ((qj_ l0_0 a1).f3))) (ds := []) #[false, false, false, false, false, false, false, false, false, false, false] (by kernel_rfl) rfl rfl ⟨(qm_ BK194.out 0).trans rfl, (qm_ BK196.out 0).trans rfl, (qm_ BK196.out 1).trans rfl, (qm_ BK196.out 2).trans rfl, (qm_ BK196.out 3).trans rfl⟩ (fun hHeld => ?_); refine with_tabW qi_.tab17 qi_.bits17 (fun HT_ HW_ => ?_)
                     generalize wc.drew = w68 at BK194 BK196 HB hHeld ⊢
                     refine pure_ (i := 1) (N := some 68) (v := ?_) (a' := ?_) #[false, true, false, false, false, false, false, false, false, false, false] rfl rfl (any_of HT_.out (by kernel_rfl)) (fun _ _ _ h => h) (Or.inl ⟨by rfl, ?_⟩) ?_ ?_
                     rotate_left
                     ·intro w'
                      go_simp
                      with_reducible rfl
                     rotate_left
                     ·simp only [Act.put, List.setIfInBounds_toArray, List.set_cons_zero, List.set_cons_succ, i64_w, i32_w]
                      rfl
                     refine pure_ (i := 6) (N := some 73) (v := ?_) (a' := ?_) #[false, true, false, false, false, false, true, false, false, false, false] rfl rfl (any_of HT_.out (by kernel_rfl)) (fun _ _ _ h => h) (Or.inl ⟨by rfl, ?_⟩) ?_ ?_
                     rotate_left
                     ·intro w'
                      go_simp
                      with_reducible rfl
                     rotate_left
                     ·simp only [Act.put, List.setIfInBounds_toArray, List.set_cons_zero, List.set_cons_succ, i64_w, i32_w]
                      rfl
                     refine take_ (i := 0) (N := some 67) (v := ?_) (a' := ?_) #[true, true, false, false, false, false, true, false, false, false, false] rfl rfl (take_ofW HT_.out HW_.out (by kernel_rfl)) (fun _ _ _ h => h) (Or.inl ⟨by rfl, ?_⟩) hHeld ?_ ?_
                     rotate_left
                     ·rintro w' ⟨s0, s1, s2, s3, s4⟩
                      go_simp
                      with_reducible rfl
                     rotate_left
                     ·simp only [Act.put, List.setIfInBounds_toArray, List.set_cons_zero, List.set_cons_succ, i64_w, i32_w]
                      rfl
                     refine take_ (i := 2) (N := some 69) (v := ?_) (a' := ?_) #[true, true, true, false, false, false, true, false, false, false, false] rfl rfl (take_ofW HT_.out HW_.out (by kernel_rfl)) (fun _ _ _ h => h) (Or.inl ⟨by rfl, ?_⟩) hHeld ?_ ?_
                     rotate_left
                     ·rintro w' ⟨s0, s1, s2, s3, s4⟩
                      go_simp
                      with_reducible rfl
                     rotate_left
                     ·simp only [Act.put, List.setIfInBounds_toArray, List.set_cons_zero, List.set_cons_succ, i64_w, i32_w]
                      rfl
                     refine take_ (i := 5) (N := some 72) (v := ?_) (a' := ?_) #[true, true, true, false, false, true, true, false, false, false, false] rfl rfl (take_ofW HT_.out HW_.out (by kernel_rfl)) (fun _ _ _ h => h) (Or.inl ⟨by rfl, ?_⟩) hHeld ?_ ?_
                     rotate_left
                     ·rintro w' ⟨s0, s1, s2, s3, s4⟩
                      go_simp
                      with_reducible rfl
                     rotate_left
                     ·simp only [Act.put, List.setIfInBounds_toArray, List.set_cons_zero, List.set_cons_succ, i64_w, i32_w]
                      rfl
                     refine take_ (i := 7) (N := some 74) (v := ?_) (a' := ?_) #[true, true, true, false, false, true, true, true, false, false, false] rfl rfl (take_ofW HT_.out HW_.out (by kernel_rfl)) (fun _ _ _ h => h) (Or.inl ⟨by rfl, ?_⟩) hHeld ?_ ?_
                     rotate_left
                     ·rintro w' ⟨s0, s1, s2, s3, s4⟩
                      go_simp
                      with_reducible rfl
                     rotate_left
                     ·simp only [Act.put, List.setIfInBounds_toArray, List.set_cons_zero, List.set_cons_succ, i64_w, i32_w]
                      rfl
                     refine one_ (i := 3) (N := some 70) #[true, true, true, true, false, true, true, true, false, false, false] rfl rfl (one_of HT_.out (by kernel_rfl)) (by decide) (fun K hK => ?_)
                     refine goes_ Tryd.func15 (by kernel_rfl) rfl #[.agg #[.slice (some ad195) l0_0.length c0_0], .int .i64 ((qj_ l0_0 a1).f2), .int .i64 7] (by rfl) rfl rfl (by (try simp only [List.map_toArray]); first | done | rfl) ?_
                     with_reducible refine (ih kj46 (by have := HJ5.out; have := HJ18.out; have := HJ22.out; have := HJ26.out; have := HJ36.out; have := HJ46.out; omega) _ _ l0_0 ((qj_ l0_0 a1).f2) 7 t200 _ ?side1 ?side2 A59.out).mono ?_
                     (case side1 => repeat (first | exact (Kd.C_below HR0_0.out HB.out) | (with_reducible refine Kd.C_alloc ?_ _) | (with_reducible refine Kd.C_drewN ?_ _) | (with_reducible refine Kd.C_drew ?_)))
                     (case side2 => exact HC0_0.out)
                     rintro e w69 ⟨rfl, hb⟩
                     refine ⟨_, rfl, ?_⟩
                     replace BK194 := Aside0.mk (ql_ BK194 (by (with_reducible repeat first | apply qa_ | apply qb_ | apply blk_alloc); exact BK194.out) hb)
                     replace BK196 := Aside0.mk (ql_ BK196 (by (with_reducible repeat first | apply qa_ | apply qb_ | apply blk_alloc); exact BK196.out) hb)
                     replace HB := Aside0.mk (qq_ (by repeat (first | (with_reducible first | exact HB.out | apply qh_ | apply qc_ | apply qf_ | refine qk_ ?_ (by assumption)) | exact HB.out)) hb)
                     (try clear hb)
                     refine hK.out _ _ ⟨(qm_ BK194.out 0).trans rfl, (qm_ BK196.out 0).trans rfl, (qm_ BK196.out 1).trans rfl, (qm_ BK196.out 2).trans rfl, (qm_ BK196.out 3).trans rfl⟩ (fun hHeld => ?_)
                     clear hK K
                     refine norm_ (a' := ?_) ?_ ?_
                     rotate_left
                     ·show Act.put _ (some 70) _ = _
                      simp only [Act.put, List.setIfInBounds_toArray, List.set_cons_zero, List.set_cons_succ, i64_w, i32_w]
                      rfl
                     refine pure_ (i := 4) (N := some 71) (v := ?_) (a' := ?_) #[true, true, true, true, true, true, true, true, false, false, false] rfl rfl (any_of HT_.out (by kernel_rfl)) (fun _ _ _ h => h) (Or.inl ⟨by rfl, ?_⟩) ?_ ?_
                     rotate_left
                     ·intro w'
                      go_simp
                      with_reducible rfl
                     rotate_left
                     ·simp only [Act.put, List.setIfInBounds_toArray, List.set_cons_zero, List.set_cons_succ, i64_w, i32_w]
                      rfl
                     refine one_ (i := 8) (N := some 75) #[true, true, true, true, true, true, true, true, true, false, false] rfl rfl (one_of HT_.out (by kernel_rfl)) (by decide) (fun K hK => ?_)
                     refine goes_ Tryd.func15 (by kernel_rfl) rfl #[.agg #[.slice (some ad195) l0_0.length c0_0], .int .i64 ((qj_ l0_0 a1).f3), .int .i64 6] (by rfl) rfl rfl (by (try simp only [List.map_toArray]); first | done | rfl) ?_
                     with_reducible refine (ih kj46 (by have := HJ5.out; have := HJ18.out; have := HJ22.out; have := HJ26.out; have := HJ36.out; have := HJ46.out; omega) _ _ l0_0 ((qj_ l0_0 a1).f3) 6 t201 _ ?side1 ?side2 A61.out).mono ?_
                     (case side1 => repeat (first | exact (Kd.C_below HR0_0.out HB.out) | (with_reducible refine Kd.C_alloc ?_ _) | (with_reducible refine Kd.C_drewN ?_ _) | (with_reducible refine Kd.C_drew ?_)))
                     (case side2 => exact HC0_0.out)
                     rintro e w70 ⟨rfl, hb⟩
                     refine ⟨_, rfl, ?_⟩
                     replace BK194 := Aside0.mk (ql_ BK194 (by (with_reducible repeat first | apply qa_ | apply qb_ | apply blk_alloc); exact BK194.out) hb)
                     replace BK196 := Aside0.mk (ql_ BK196 (by (with_reducible repeat first | apply qa_ | apply qb_ | apply blk_alloc); exact BK196.out) hb)
                     replace HB := Aside0.mk (qq_ (by repeat (first | (with_reducible first | exact HB.out | apply qh_ | apply qc_ | apply qf_ | refine qk_ ?_ (by assumption)) | exact HB.out)) hb)
                     (try clear hb)
                     refine hK.out _ _ ⟨(qm_ BK194.out 0).trans rfl, (qm_ BK196.out 0).trans rfl, (qm_ BK196.out 1).trans rfl, (qm_ BK196.out 2).trans rfl, (qm_ BK196.out 3).trans rfl⟩ (fun hHeld => ?_)
                     clear hK K
                     refine norm_ (a' := ?_) ?_ ?_
                     rotate_left
                     ·show Act.put _ (some 75) _ = _
                      simp only [Act.put, List.setIfInBounds_toArray, List.set_cons_zero, List.set_cons_succ, i64_w, i32_w]
                      rfl
                     refine pure_ (i := 9) (N := some 76) (v := ?_) (a' := ?_) #[true, true, true, true, true, true, true, true, true, true, false] rfl rfl (any_of HT_.out (by kernel_rfl)) (fun _ _ _ h => h) (Or.inl ⟨by rfl, ?_⟩) ?_ ?_
                     rotate_left
                     ·intro w'
                      go_simp
                      with_reducible rfl
                     rotate_left
                     ·simp only [Act.put, List.setIfInBounds_toArray, List.set_cons_zero, List.set_cons_succ, i64_w, i32_w]
                      rfl
                     refine pure_ (i := 10) (N := some 9) (v := ?_) (a' := ?_) #[true, true, true, true, true, true, true, true, true, true, true] rfl rfl (any_of HT_.out (by kernel_rfl)) (fun _ _ _ h => h) (Or.inl ⟨by rfl, ?_⟩) ?_ ?_
                     rotate_left
                     ·intro w'
                      go_simp
                      with_reducible rfl
                     rotate_left
                     ·simp only [Act.put, List.setIfInBounds_toArray, List.set_cons_zero, List.set_cons_succ, i64_w, i32_w]
                      rfl
                     refine done_ (done_of HT_.out (by kernel_rfl)) ?_
                     have hcz71_0 := qg_ BK196 0 (.int .i64 ((qj_ l0_0 a1).f0)) rfl
                     have hcz71_1 := qg_ BK196 1 (.int .i64 ((qj_ l0_0 a1).f1)) rfl
                     have hcz71_2 := qg_ BK196 2 (.int .i64 ((qj_ l0_0 a1).f2)) rfl
                     have hcz71_3 := qg_ BK196 3 (.int .i64 ((qj_ l0_0 a1).f3)) rfl
                     have hfz71_0 := qd_ BK196 0
                     have hfz71_1 := qd_ BK196 1
                     have hfz71_2 := qd_ BK196 2
                     have hfz71_3 := qd_ BK196 3
                     try go_wp2
                     go_ret
                     exact ⟨by first | rfl | (simp [*] <;> rfl), by repeat (first | (with_reducible first | exact HB.out | apply qh_ | apply qc_ | apply qf_ | refine qk_ ?_ (by assumption)) | exact HB.out)⟩
                    ·rw [if_neg c65] at H
                     exact absurd H (by simp)
                   ·rw [if_neg c64] at H
                    exact absurd H (by simp)
                  ·rw [if_neg c63] at H
                   have c63b0 : decide (a2 < ((qj_ l0_0 a1).f0)) = false := decide_eq_false c63
                   clear c63
                   obtain rfl := Option.some.inj H
                   have hcz73_0 := qg_ BK196 0 (.int .i64 ((qj_ l0_0 a1).f0)) rfl
                   have hcz73_1 := qg_ BK196 1 (.int .i64 ((qj_ l0_0 a1).f1)) rfl
                   have hcz73_2 := qg_ BK196 2 (.int .i64 ((qj_ l0_0 a1).f2)) rfl
                   have hcz73_3 := qg_ BK196 3 (.int .i64 ((qj_ l0_0 a1).f3)) rfl
                   have hfz73_0 := qd_ BK196 0
                   have hfz73_1 := qd_ BK196 1
                   have hfz73_2 := qd_ BK196 2
                   have hfz73_3 := qd_ BK196 3
                   try go_wp2
                   replace BK194 := Aside0.mk (qb_ BK194.out)
                   replace BK196 := Aside0.mk (qb_ BK196.out)
                   replace HB := Aside0.mk (qf_ HB.out)
                   refine start_ (n := 11) (S := fun w' => w'.cell? ⟨gb194, 0, none⟩ = some (.slice (some ad195) l0_0.length c0_0) ∧ w'.cell? ⟨gb196, 0, none⟩ = some (.int .i64 ((qj_ l0_0 a1).f0)) ∧ w'.cell? ⟨gb196, 1, none⟩ = some (.int .i64 ((qj_ l0_0 a1).f1)) ∧ w'.cell? ⟨gb196, 2, none⟩ = some (.int .i64 ((qj_ l0_0 a1).f2)) ∧ w'.cell? ⟨gb196, 3, none⟩ = some (.int .i64 ((qj_ l0_0 a1).f3))) (ds := []) #[false, false, false, false, false, false, false, false, false, false, false] (by kernel_rfl) rfl rfl ⟨(qm_ BK194.out 0).trans rfl, (qm_ BK196.out 0).trans rfl, (qm_ BK196.out 1).trans rfl, (qm_ BK196.out 2).trans rfl, (qm_ BK196.out 3).trans rfl⟩ (fun hHeld => ?_); refine with_tabW qi_.tab17 qi_.bits17 (fun HT_ HW_ => ?_)
                   generalize wc.drew = w74 at BK194 BK196 HB hHeld ⊢
                   refine pure_ (i := 1) (N := some 68) (v := ?_) (a' := ?_) #[false, true, false, false, false, false, false, false, false, false, false] rfl rfl (any_of HT_.out (by kernel_rfl)) (fun _ _ _ h => h) (Or.inl ⟨by rfl, ?_⟩) ?_ ?_
                   rotate_left
                   ·intro w'
                    go_simp
                    with_reducible rfl
                   rotate_left
                   ·simp only [Act.put, List.setIfInBounds_toArray, List.set_cons_zero, List.set_cons_succ, i64_w, i32_w]
                    rfl
                   refine pure_ (i := 6) (N := some 73) (v := ?_) (a' := ?_) #[false, true, false, false, false, false, true, false, false, false, false] rfl rfl (any_of HT_.out (by kernel_rfl)) (fun _ _ _ h => h) (Or.inl ⟨by rfl, ?_⟩) ?_ ?_
                   rotate_left
                   ·intro w'
                    go_simp
                    with_reducible rfl
                   rotate_left
                   ·simp only [Act.put, List.setIfInBounds_toArray, List.set_cons_zero, List.set_cons_succ, i64_w, i32_w]
                    rfl
                   refine take_ (i := 0) (N := some 67) (v := ?_) (a' := ?_) #[true, true, false, false, false, false, true, false, false, false, false] rfl rfl (take_ofW HT_.out HW_.out (by kernel_rfl)) (fun _ _ _ h => h) (Or.inl ⟨by rfl, ?_⟩) hHeld ?_ ?_
                   rotate_left
                   ·rintro w' ⟨s0, s1, s2, s3, s4⟩
                    go_simp
                    with_reducible rfl
                   rotate_left
                   ·simp only [Act.put, List.setIfInBounds_toArray, List.set_cons_zero, List.set_cons_succ, i64_w, i32_w]
                    rfl
                   refine take_ (i := 2) (N := some 69) (v := ?_) (a' := ?_) #[true, true, true, false, false, false, true, false, false, false, false] rfl rfl (take_ofW HT_.out HW_.out (by kernel_rfl)) (fun _ _ _ h => h) (Or.inl ⟨by rfl, ?_⟩) hHeld ?_ ?_
                   rotate_left
                   ·rintro w' ⟨s0, s1, s2, s3, s4⟩
                    go_simp
                    with_reducible rfl
                   rotate_left
                   ·simp only [Act.put, List.setIfInBounds_toArray, List.set_cons_zero, List.set_cons_succ, i64_w, i32_w]
                    rfl
                   refine take_ (i := 5) (N := some 72) (v := ?_) (a' := ?_) #[true, true, true, false, false, true, true, false, false, false, false] rfl rfl (take_ofW HT_.out HW_.out (by kernel_rfl)) (fun _ _ _ h => h) (Or.inl ⟨by rfl, ?_⟩) hHeld ?_ ?_
                   rotate_left
                   ·rintro w' ⟨s0, s1, s2, s3, s4⟩
                    go_simp
                    with_reducible rfl
                   rotate_left
                   ·simp only [Act.put, List.setIfInBounds_toArray, List.set_cons_zero, List.set_cons_succ, i64_w, i32_w]
                    rfl
                   refine take_ (i := 7) (N := some 74) (v := ?_) (a' := ?_) #[true, true, true, false, false, true, true, true, false, false, false] rfl rfl (take_ofW HT_.out HW_.out (by kernel_rfl)) (fun _ _ _ h => h) (Or.inl ⟨by rfl, ?_⟩) hHeld ?_ ?_
                   rotate_left
                   ·rintro w' ⟨s0, s1, s2, s3, s4⟩
                    go_simp
                    with_reducible rfl
                   rotate_left
                   ·simp only [Act.put, List.setIfInBounds_toArray, List.set_cons_zero, List.set_cons_succ, i64_w, i32_w]
                    rfl
                   refine one_ (i := 3) (N := some 70) #[true, true, true, true, false, true, true, true, false, false, false] rfl rfl (one_of HT_.out (by kernel_rfl)) (by decide) (fun K hK => ?_)
                   refine goes_ Tryd.func15 (by kernel_rfl) rfl #[.agg #[.slice (some ad195) l0_0.length c0_0], .int .i64 ((qj_ l0_0 a1).f2), .int .i64 7] (by rfl) rfl rfl (by (try simp only [List.map_toArray]); first | done | rfl) ?_
                   with_reducible refine (ih kj46 (by have := HJ5.out; have := HJ18.out; have := HJ22.out; have := HJ26.out; have := HJ36.out; have := HJ46.out; omega) _ _ l0_0 ((qj_ l0_0 a1).f2) 7 t200 _ ?side1 ?side2 A59.out).mono ?_
                   (case side1 => repeat (first | exact (Kd.C_below HR0_0.out HB.out) | (with_reducible refine Kd.C_alloc ?_ _) | (with_reducible refine Kd.C_drewN ?_ _) | (with_reducible refine Kd.C_drew ?_)))
                   (case side2 => exact HC0_0.out)
                   rintro e w75 ⟨rfl, hb⟩
                   refine ⟨_, rfl, ?_⟩
                   replace BK194 := Aside0.mk (ql_ BK194 (by (with_reducible repeat first | apply qa_ | apply qb_ | apply blk_alloc); exact BK194.out) hb)
                   replace BK196 := Aside0.mk (ql_ BK196 (by (with_reducible repeat first | apply qa_ | apply qb_ | apply blk_alloc); exact BK196.out) hb)
                   replace HB := Aside0.mk (qq_ (by repeat (first | (with_reducible first | exact HB.out | apply qh_ | apply qc_ | apply qf_ | refine qk_ ?_ (by assumption)) | exact HB.out)) hb)
                   (try clear hb)
                   refine hK.out _ _ ⟨(qm_ BK194.out 0).trans rfl, (qm_ BK196.out 0).trans rfl, (qm_ BK196.out 1).trans rfl, (qm_ BK196.out 2).trans rfl, (qm_ BK196.out 3).trans rfl⟩ (fun hHeld => ?_)
                   clear hK K
                   refine norm_ (a' := ?_) ?_ ?_
                   rotate_left
                   ·show Act.put _ (some 70) _ = _
                    simp only [Act.put, List.setIfInBounds_toArray, List.set_cons_zero, List.set_cons_succ, i64_w, i32_w]
                    rfl
                   refine pure_ (i := 4) (N := some 71) (v := ?_) (a' := ?_) #[true, true, true, true, true, true, true, true, false, false, false] rfl rfl (any_of HT_.out (by kernel_rfl)) (fun _ _ _ h => h) (Or.inl ⟨by rfl, ?_⟩) ?_ ?_
                   rotate_left
                   ·intro w'
                    go_simp
                    with_reducible rfl
                   rotate_left
                   ·simp only [Act.put, List.setIfInBounds_toArray, List.set_cons_zero, List.set_cons_succ, i64_w, i32_w]
                    rfl
                   refine one_ (i := 8) (N := some 75) #[true, true, true, true, true, true, true, true, true, false, false] rfl rfl (one_of HT_.out (by kernel_rfl)) (by decide) (fun K hK => ?_)
                   refine goes_ Tryd.func15 (by kernel_rfl) rfl #[.agg #[.slice (some ad195) l0_0.length c0_0], .int .i64 ((qj_ l0_0 a1).f3), .int .i64 6] (by rfl) rfl rfl (by (try simp only [List.map_toArray]); first | done | rfl) ?_
                   with_reducible refine (ih kj46 (by have := HJ5.out; have := HJ18.out; have := HJ22.out; have := HJ26.out; have := HJ36.out; have := HJ46.out; omega) _ _ l0_0 ((qj_ l0_0 a1).f3) 6 t201 _ ?side1 ?side2 A61.out).mono ?_
                   (case side1 => repeat (first | exact (Kd.C_below HR0_0.out HB.out) | (with_reducible refine Kd.C_alloc ?_ _) | (with_reducible refine Kd.C_drewN ?_ _) | (with_reducible refine Kd.C_drew ?_)))
                   (case side2 => exact HC0_0.out)
                   rintro e w76 ⟨rfl, hb⟩
                   refine ⟨_, rfl, ?_⟩
                   replace BK194 := Aside0.mk (ql_ BK194 (by (with_reducible repeat first | apply qa_ | apply qb_ | apply blk_alloc); exact BK194.out) hb)
                   replace BK196 := Aside0.mk (ql_ BK196 (by (with_reducible repeat first | apply qa_ | apply qb_ | apply blk_alloc); exact BK196.out) hb)
                   replace HB := Aside0.mk (qq_ (by repeat (first | (with_reducible first | exact HB.out | apply qh_ | apply qc_ | apply qf_ | refine qk_ ?_ (by assumption)) | exact HB.out)) hb)
                   (try clear hb)
                   refine hK.out _ _ ⟨(qm_ BK194.out 0).trans rfl, (qm_ BK196.out 0).trans rfl, (qm_ BK196.out 1).trans rfl, (qm_ BK196.out 2).trans rfl, (qm_ BK196.out 3).trans rfl⟩ (fun hHeld => ?_)
                   clear hK K
                   refine norm_ (a' := ?_) ?_ ?_
                   rotate_left
                   ·show Act.put _ (some 75) _ = _
                    simp only [Act.put, List.setIfInBounds_toArray, List.set_cons_zero, List.set_cons_succ, i64_w, i32_w]
                    rfl
                   refine pure_ (i := 9) (N := some 76) (v := ?_) (a' := ?_) #[true, true, true, true, true, true, true, true, true, true, false] rfl rfl (any_of HT_.out (by kernel_rfl)) (fun _ _ _ h => h) (Or.inl ⟨by rfl, ?_⟩) ?_ ?_
                   rotate_left
                   ·intro w'
                    go_simp
                    with_reducible rfl
                   rotate_left
                   ·simp only [Act.put, List.setIfInBounds_toArray, List.set_cons_zero, List.set_cons_succ, i64_w, i32_w]
                    rfl
                   refine pure_ (i := 10) (N := some 9) (v := ?_) (a' := ?_) #[true, true, true, true, true, true, true, true, true, true, true] rfl rfl (any_of HT_.out (by kernel_rfl)) (fun _ _ _ h => h) (Or.inl ⟨by rfl, ?_⟩) ?_ ?_
                   rotate_left
                   ·intro w'
                    go_simp
                    with_reducible rfl
                   rotate_left
                   ·simp only [Act.put, List.setIfInBounds_toArray, List.set_cons_zero, List.set_cons_succ, i64_w, i32_w]
                    rfl
                   refine done_ (done_of HT_.out (by kernel_rfl)) ?_
                   have hcz77_0 := qg_ BK196 0 (.int .i64 ((qj_ l0_0 a1).f0)) rfl
                   have hcz77_1 := qg_ BK196 1 (.int .i64 ((qj_ l0_0 a1).f1)) rfl
                   have hcz77_2 := qg_ BK196 2 (.int .i64 ((qj_ l0_0 a1).f2)) rfl
                   have hcz77_3 := qg_ BK196 3 (.int .i64 ((qj_ l0_0 a1).f3)) rfl
                   have hfz77_0 := qd_ BK196 0
                   have hfz77_1 := qd_ BK196 1
                   have hfz77_2 := qd_ BK196 2
                   have hfz77_3 := qd_ BK196 3
                   try go_wp2
                   go_ret
                   exact ⟨by first | rfl | (simp [*] <;> rfl), by repeat (first | (with_reducible first | exact HB.out | apply qh_ | apply qc_ | apply qf_ | refine qk_ ?_ (by assumption)) | exact HB.out)⟩
                 ·rw [if_neg c62] at H
                  exact absurd H (by simp)
                ·rw [if_neg c60] at H
                 exact absurd H (by simp)
               ·rw [if_neg c58] at H
                have c58b0 : (((qj_ l0_0 a1).f0) == 7) = false := beq_eq_false_iff_ne.mpr c58
                have c58b1 : (((qj_ l0_0 a1).f0) != 7) = true := bne_iff_ne.mpr c58
                by_cases c78 : ((qj_ l0_0 a1).f0) > a2
                ·rw [if_pos c78] at H
                 have c78b0 : decide (a2 < ((qj_ l0_0 a1).f0)) = true := decide_eq_true c78
                 clear c78
                 by_cases c79 : 1 + x9_46.size ≤ 9223372036854775807
                 ·rw [if_pos c79] at H
                  have c79b0 := eq_true c79
                  have c79b1 : decide (1 + x9_46.size ≤ 9223372036854775807) = true := decide_eq_true c79
                  try have c79b2 : (9223372036854775807 < 1 + x9_46.size) = False := eq_false (Nat.not_lt.2 c79)
                  by_cases c80 : ((⟨#[40]⟩ : ByteArray) ++ x9_46).size + 1 ≤ 9223372036854775807
                  ·rw [if_pos c80] at H
                   have c80b0 := eq_true c80
                   have c80b1 : decide (((⟨#[40]⟩ : ByteArray) ++ x9_46).size + 1 ≤ 9223372036854775807) = true := decide_eq_true c80
                   try have c80b2 : (9223372036854775807 < ((⟨#[40]⟩ : ByteArray) ++ x9_46).size + 1) = False := eq_false (Nat.not_lt.2 c80)
                   have c80b9 : (9223372036854775807 < 1 + x9_46.size + 1) = False := by have h_ := c80; simp only [ByteArray.size_append] at h_; exact eq_false (Nat.not_lt.2 h_)
                   obtain rfl := Option.some.inj H
                   have hcz82_0 := qg_ BK196 0 (.int .i64 ((qj_ l0_0 a1).f0)) rfl
                   have hcz82_1 := qg_ BK196 1 (.int .i64 ((qj_ l0_0 a1).f1)) rfl
                   have hcz82_2 := qg_ BK196 2 (.int .i64 ((qj_ l0_0 a1).f2)) rfl
                   have hcz82_3 := qg_ BK196 3 (.int .i64 ((qj_ l0_0 a1).f3)) rfl
                   have hfz82_0 := qd_ BK196 0
                   have hfz82_1 := qd_ BK196 1
                   have hfz82_2 := qd_ BK196 2
                   have hfz82_3 := qd_ BK196 3
                   go_wp2
                   go_ret
                   exact ⟨by first | rfl | (simp [*] <;> rfl), by repeat (first | (with_reducible first | exact HB.out | apply qh_ | apply qc_ | apply qf_ | refine qk_ ?_ (by assumption)) | exact HB.out)⟩
                  ·rw [if_neg c80] at H
                   exact absurd H (by simp)
                 ·rw [if_neg c79] at H
                  exact absurd H (by simp)
                ·rw [if_neg c78] at H
                 have c78b0 : decide (a2 < ((qj_ l0_0 a1).f0)) = false := decide_eq_false c78
                 clear c78
                 obtain rfl := Option.some.inj H
                 have hcz84_0 := qg_ BK196 0 (.int .i64 ((qj_ l0_0 a1).f0)) rfl
                 have hcz84_1 := qg_ BK196 1 (.int .i64 ((qj_ l0_0 a1).f1)) rfl
                 have hcz84_2 := qg_ BK196 2 (.int .i64 ((qj_ l0_0 a1).f2)) rfl
                 have hcz84_3 := qg_ BK196 3 (.int .i64 ((qj_ l0_0 a1).f3)) rfl
                 have hfz84_0 := qd_ BK196 0
                 have hfz84_1 := qd_ BK196 1
                 have hfz84_2 := qd_ BK196 2
                 have hfz84_3 := qd_ BK196 3
                 go_wp2
                 go_ret
                 exact ⟨by first | rfl | (simp [*] <;> rfl), by repeat (first | (with_reducible first | exact HB.out | apply qh_ | apply qc_ | apply qf_ | refine qk_ ?_ (by assumption)) | exact HB.out)⟩
  ·rw [if_neg c5] at H
   exact absurd H (by simp)
 ·rw [if_neg c4] at H
  exact absurd H (by simp)

end Go.Proofs.YtblkkhddefnkpaaDoor.PPo
