-- printed by drv.py (a program of this repo, over the kit's printer)
import Derived.Test.YtbkdaofddnkaaaaVe
import Derived.Test.YtbkdaofddnkaaaaVg
import Derived.Test.YtbkdaofddnkaaaaVf
import Derived.Test.YtbkdaofddnkaaaaPVox0
import Derived.Test.YtbkdaofddnkaaaaPVox1
import Derived.Test.YtbkdaofddnkaaaaPVox2
import Derived.Test.YtbkdaofddnkaaaaPVox3
import Derived.Test.YtbkdaofddnkaaaaPVox4
import Derived.Test.YtbkdaofddnkaaaaPVox9
import Derived.Test.YtbkdaofddnkaaaaPVox10
import Derived.Test.YtbkdaofddnkaaaaPVox11
import Derived.Test.YtbkdaofddnkaaaaPVox12
namespace Go.Proofs.Ytbkdaofddnkaaaa.PVo
open Go.RowKit Go.Proofs.YtbkdaofddnkaaaaW.PrintWords Go.Proofs.YtbkdaofddnkaaaaW.PrintLast Go.Proofs.YtbkdaofddnkaaaaW.PrintMore
attribute [local go_sem] max2_int min2_int max_two min_two max_three min_three max_four min_four   -- for this text's walks alone
set_option linter.unusedVariables false
set_option linter.unusedSimpArgs false

attribute [local go_sem high] eqA25
/-! ### changeforgelaw7_VotesFunctionsMatchSpec: function 3 -/
mutual
def changeforgelaw7_VotesFunctionsMatchSpec.j0 : Nat → List (S35) → List Bool → Int → List Int → Int → Bool → List Int → Bool → Int → Int → Int → Int → Int → Int → Int → Int → Option (Bool)
 | 0, _, _, _, _, _, _, _, _, _, _, _, _, _, _, _, _ => none
 | k + 1, x0, x1, x2, x8, x10, x11, x13, x55, x171000, x171001, x177000, x177001, x182000, x182001, x188000, x188001 => if x55 = true then (some false) else (if x171000 = 0 then (if x2 < 0 then (changeforgelaw7_VotesFunctionsMatchSpec.j1 k x0 x1 x2 x8 x10 x11 x13 true x171000 x171001 x177000 x177001 x182000 x182001 x188000 x188001) else (changeforgelaw7_VotesFunctionsMatchSpec.j1 k x0 x1 x2 x8 x10 x11 x13 (decide (x2 ≥ (x1.length : Int))) x171000 x171001 x177000 x177001 x182000 x182001 x188000 x188001)) else (changeforgelaw7_VotesFunctionsMatchSpec.j1 k x0 x1 x2 x8 x10 x11 x13 false x171000 x171001 x177000 x177001 x182000 x182001 x188000 x188001))
def changeforgelaw7_VotesFunctionsMatchSpec.j1 : Nat → List (S35) → List Bool → Int → List Int → Int → Bool → List Int → Bool → Int → Int → Int → Int → Int → Int → Int → Int → Option (Bool)
 | 0, _, _, _, _, _, _, _, _, _, _, _, _, _, _, _, _ => none
 | k + 1, x0, x1, x2, x8, x10, x11, x13, x68, x171000, x171001, x177000, x177001, x182000, x182001, x188000, x188001 => if x68 = true then ((changeforgeref7_Fault.f 3 (-3)).bind fun bt191 => (changeforgelaw7_VotesFunctionsMatchSpec.j2 k x0 x1 x2 x8 x10 x11 x13 bt191.1 bt191.2 x177000 x177001 x182000 x182001 x188000 x188001)) else (changeforgelaw7_VotesFunctionsMatchSpec.j2 k x0 x1 x2 x8 x10 x11 x13 x171000 x171001 x177000 x177001 x182000 x182001 x188000 x188001)
def changeforgelaw7_VotesFunctionsMatchSpec.j2 : Nat → List (S35) → List Bool → Int → List Int → Int → Bool → List Int → Int → Int → Int → Int → Int → Int → Int → Int → Option (Bool)
 | 0, _, _, _, _, _, _, _, _, _, _, _, _, _, _, _ => none
 | k + 1, x0, x1, x2, x8, x10, x11, x13, x171000, x171001, x177000, x177001, x182000, x182001, x188000, x188001 => if x171000 = 0 then (changeforgelaw7_VotesFunctionsMatchSpec.l0 k x0 x1 x2 x8 x10 x11 x13 ([] : List Int) ([] : List Int) 0 false 0 x177000 x177001 x182000 x182001 x188000 x188001) else (if (x177000 == x171000 && (x177001 == x171001)) = true then (if (x182000 == x171000 && (x182001 == x171001)) = true then (if (x188000 == x171000 && (x188001 == x171001)) = true then (if (x8.length : Int) = 0 then (if x10 = 0 then (if x11 = true then (some false) else (some ((x13.length : Int) == 0))) else (some false)) else (some false)) else (some false)) else (some false)) else (some false))
def changeforgelaw7_VotesFunctionsMatchSpec.l0 : Nat → List (S35) → List Bool → Int → List Int → Int → Bool → List Int → List Int → List Int → Int → Bool → Int → Int → Int → Int → Int → Int → Int → Option (Bool)
 | 0, _, _, _, _, _, _, _, _, _, _, _, _, _, _, _, _, _, _ => none
 | k + 1, x0, x1, x2, x8, x10, x11, x13, x15, x16, x17, x18, x19, x177000, x177001, x182000, x182001, x188000, x188001 => if x19 ≤ 7 then ((changeforgeref7_LastVote.f k x0 x19 x2).bind fun bt195 => ((changeforgeref7_Counts.f k bt195.1 bt195.2.1 bt195.2.2 x1 x2).bind fun t199 => (if t199 = true then (if x15.length < 17592186044416 then ((some (x15 ++ [bt195.2.2] : List Int)).bind fun y200 => (if x18 = true then (changeforgelaw7_VotesFunctionsMatchSpec.l0 k x0 x1 x2 x8 x10 x11 x13 y200 x16 (wrap64 (x17 + bt195.2.2)) true (wrap64 (x19 + 1)) x177000 x177001 x182000 x182001 x188000 x188001) else (changeforgelaw7_VotesFunctionsMatchSpec.l0 k x0 x1 x2 x8 x10 x11 x13 y200 x16 (wrap64 (x17 + bt195.2.2)) (bt195.2.2 == (-2)) (wrap64 (x19 + 1)) x177000 x177001 x182000 x182001 x188000 x188001))) else (none)) else (if bt195.2.2 = 0 then (if x15.length < 17592186044416 then ((some (x15 ++ [0] : List Int)).bind fun y203 => (if x18 = true then (changeforgelaw7_VotesFunctionsMatchSpec.l0 k x0 x1 x2 x8 x10 x11 x13 y203 x16 (wrap64 (x17 + 0)) true (wrap64 (x19 + 1)) x177000 x177001 x182000 x182001 x188000 x188001) else (changeforgelaw7_VotesFunctionsMatchSpec.l0 k x0 x1 x2 x8 x10 x11 x13 y203 x16 (wrap64 (x17 + 0)) (0 == (-2)) (wrap64 (x19 + 1)) x177000 x177001 x182000 x182001 x188000 x188001))) else (none)) else (if x16.length < 17592186044416 then ((some (x16 ++ [x19] : List Int)).bind fun y206 => (if x15.length < 17592186044416 then ((some (x15 ++ [0] : List Int)).bind fun y209 => (if x18 = true then (changeforgelaw7_VotesFunctionsMatchSpec.l0 k x0 x1 x2 x8 x10 x11 x13 y209 y206 (wrap64 (x17 + 0)) true (wrap64 (x19 + 1)) x177000 x177001 x182000 x182001 x188000 x188001) else (changeforgelaw7_VotesFunctionsMatchSpec.l0 k x0 x1 x2 x8 x10 x11 x13 y209 y206 (wrap64 (x17 + 0)) (0 == (-2)) (wrap64 (x19 + 1)) x177000 x177001 x182000 x182001 x188000 x188001))) else (none))) else (none)))))) else (if x177000 = 0 then (if x182000 = 0 then (if x188000 = 0 then ((changeforgelaw7_sameInts.f k x8 x15).bind fun t193 => (if t193 = true then (if x10 = x17 then (if (x11 == x18) = true then ((changeforgelaw7_sameInts.f k x13 x16).bind fun t194 => (some t194)) else (some false)) else (some false)) else (some false))) else (some false)) else (some false)) else (some false))
end
def changeforgelaw7_VotesFunctionsMatchSpec.f (k : Nat) (l0 : List (S35)) (l1 : List Bool) (a2 : Int) : Option (Bool) := (changeforgeref7_VotesFault.f k l0 l1).bind fun bt168 => ((votes_Current.f k l0 l1 a2).bind fun bt171 => ((votes_Score.f k l0 l1 a2).bind fun bt177 => ((votes_Lapsed.f k l0 l1 a2).bind fun bt182 => ((changeforgelaw7_votesExample.f k).bind fun t188 => (if t188 = true then ((votes_Validate.f k l0 l1).bind fun bt189 => (changeforgelaw7_VotesFunctionsMatchSpec.j0 k l0 l1 a2 bt171.1 bt177.1 bt177.2.1 bt182.1 (!(bt189.1 == bt168.1) || (!(bt189.2 == bt168.2))) bt168.1 bt168.2 bt171.2.1 bt171.2.2 bt177.2.2.1 bt177.2.2.2 bt182.2.1 bt182.2.2)) else (changeforgelaw7_VotesFunctionsMatchSpec.j0 k l0 l1 a2 bt171.1 bt177.1 bt177.2.1 bt182.1 true bt168.1 bt168.2 bt171.2.1 bt171.2.2 bt177.2.2.1 bt177.2.2.2 bt182.2.1 bt182.2.2))))))
theorem changeforgelaw7_VotesFunctionsMatchSpec.mono_l : ∀ k, (∀ y0 y1 y2 y3 y4 y5 y6 y7 y8 y9 y10 y11 y12 y13 y14 y15, LeO (changeforgelaw7_VotesFunctionsMatchSpec.j0 k y0 y1 y2 y3 y4 y5 y6 y7 y8 y9 y10 y11 y12 y13 y14 y15) (changeforgelaw7_VotesFunctionsMatchSpec.j0 (k + 1) y0 y1 y2 y3 y4 y5 y6 y7 y8 y9 y10 y11 y12 y13 y14 y15)) ∧ (∀ y0 y1 y2 y3 y4 y5 y6 y7 y8 y9 y10 y11 y12 y13 y14 y15, LeO (changeforgelaw7_VotesFunctionsMatchSpec.j1 k y0 y1 y2 y3 y4 y5 y6 y7 y8 y9 y10 y11 y12 y13 y14 y15) (changeforgelaw7_VotesFunctionsMatchSpec.j1 (k + 1) y0 y1 y2 y3 y4 y5 y6 y7 y8 y9 y10 y11 y12 y13 y14 y15)) ∧ (∀ y0 y1 y2 y3 y4 y5 y6 y7 y8 y9 y10 y11 y12 y13 y14, LeO (changeforgelaw7_VotesFunctionsMatchSpec.j2 k y0 y1 y2 y3 y4 y5 y6 y7 y8 y9 y10 y11 y12 y13 y14) (changeforgelaw7_VotesFunctionsMatchSpec.j2 (k + 1) y0 y1 y2 y3 y4 y5 y6 y7 y8 y9 y10 y11 y12 y13 y14)) ∧ (∀ y0 y1 y2 y3 y4 y5 y6 y7 y8 y9 y10 y11 y12 y13 y14 y15 y16 y17, LeO (changeforgelaw7_VotesFunctionsMatchSpec.l0 k y0 y1 y2 y3 y4 y5 y6 y7 y8 y9 y10 y11 y12 y13 y14 y15 y16 y17) (changeforgelaw7_VotesFunctionsMatchSpec.l0 (k + 1) y0 y1 y2 y3 y4 y5 y6 y7 y8 y9 y10 y11 y12 y13 y14 y15 y16 y17))
 | 0 => ⟨fun _ _ _ _ _ _ _ _ _ _ _ _ _ _ _ _ r h => by simp [changeforgelaw7_VotesFunctionsMatchSpec.j0] at h, fun _ _ _ _ _ _ _ _ _ _ _ _ _ _ _ _ r h => by simp [changeforgelaw7_VotesFunctionsMatchSpec.j1] at h, fun _ _ _ _ _ _ _ _ _ _ _ _ _ _ _ r h => by simp [changeforgelaw7_VotesFunctionsMatchSpec.j2] at h, fun _ _ _ _ _ _ _ _ _ _ _ _ _ _ _ _ _ _ r h => by simp [changeforgelaw7_VotesFunctionsMatchSpec.l0] at h⟩
 | k + 1 => by
  obtain ⟨ih0, ih1, ih2, ih3⟩ := changeforgelaw7_VotesFunctionsMatchSpec.mono_l k
  refine ⟨?_, ?_, ?_, ?_⟩
  ·intro y0 y1 y2 y3 y4 y5 y6 y7 y8 y9 y10 y11 y12 y13 y14 y15
   unfold changeforgelaw7_VotesFunctionsMatchSpec.j0
   repeat' first
   | (with_reducible exact ih0 _ _ _ _ _ _ _ _ _ _ _ _ _ _ _ _)
   | (with_reducible exact ih1 _ _ _ _ _ _ _ _ _ _ _ _ _ _ _ _)
   | (with_reducible exact ih2 _ _ _ _ _ _ _ _ _ _ _ _ _ _ _)
   | (with_reducible exact ih3 _ _ _ _ _ _ _ _ _ _ _ _ _ _ _ _ _ _)
   | (with_reducible exact changeforgelaw7_sameInts.mono _ _ _)
   | (with_reducible exact changeforgelaw7_votesExample.mono _)
   | (with_reducible exact changeforgeref7_Counts.mono _ _ _ _ _ _)
   | (with_reducible exact changeforgeref7_LastVote.mono _ _ _ _)
   | (with_reducible exact changeforgeref7_VotesFault.mono _ _ _)
   | (with_reducible exact votes_Current.mono _ _ _ _)
   | (with_reducible exact votes_Lapsed.mono _ _ _ _)
   | (with_reducible exact votes_Score.mono _ _ _ _)
   | (with_reducible exact votes_Validate.mono _ _ _)
   | (with_reducible exact LeO.refl _)
   | (with_reducible exact LeO.none _)
   | (with_reducible refine LeO.ite ?_ ?_)
   | (with_reducible refine LeO.bind ?_ (fun _ => ?_))
   | exact ih0 _ _ _ _ _ _ _ _ _ _ _ _ _ _ _ _
   | exact ih1 _ _ _ _ _ _ _ _ _ _ _ _ _ _ _ _
   | exact ih2 _ _ _ _ _ _ _ _ _ _ _ _ _ _ _
   | exact ih3 _ _ _ _ _ _ _ _ _ _ _ _ _ _ _ _ _ _
   | exact changeforgelaw7_sameInts.mono _ _ _
   | exact changeforgelaw7_votesExample.mono _
   | exact changeforgeref7_Counts.mono _ _ _ _ _ _
   | exact changeforgeref7_LastVote.mono _ _ _ _
   | exact changeforgeref7_VotesFault.mono _ _ _
   | exact votes_Current.mono _ _ _ _
   | exact votes_Lapsed.mono _ _ _ _
   | exact votes_Score.mono _ _ _ _
   | exact votes_Validate.mono _ _ _
   | exact LeO.none _
   | refine LeO.ite ?_ ?_
   | refine LeO.bind ?_ (fun _ => ?_)
  ·intro y0 y1 y2 y3 y4 y5 y6 y7 y8 y9 y10 y11 y12 y13 y14 y15
   unfold changeforgelaw7_VotesFunctionsMatchSpec.j1
   repeat' first
   | (with_reducible exact ih0 _ _ _ _ _ _ _ _ _ _ _ _ _ _ _ _)
   | (with_reducible exact ih1 _ _ _ _ _ _ _ _ _ _ _ _ _ _ _ _)
   | (with_reducible exact ih2 _ _ _ _ _ _ _ _ _ _ _ _ _ _ _)
   | (with_reducible exact ih3 _ _ _ _ _ _ _ _ _ _ _ _ _ _ _ _ _ _)
   | (with_reducible exact changeforgelaw7_sameInts.mono _ _ _)
   | (with_reducible exact changeforgelaw7_votesExample.mono _)
   | (with_reducible exact changeforgeref7_Counts.mono _ _ _ _ _ _)
   | (with_reducible exact changeforgeref7_LastVote.mono _ _ _ _)
   | (with_reducible exact changeforgeref7_VotesFault.mono _ _ _)
   | (with_reducible exact votes_Current.mono _ _ _ _)
   | (with_reducible exact votes_Lapsed.mono _ _ _ _)
   | (with_reducible exact votes_Score.mono _ _ _ _)
   | (with_reducible exact votes_Validate.mono _ _ _)
   | (with_reducible exact LeO.refl _)
   | (with_reducible exact LeO.none _)
   | (with_reducible refine LeO.ite ?_ ?_)
   | (with_reducible refine LeO.bind ?_ (fun _ => ?_))
   | exact ih0 _ _ _ _ _ _ _ _ _ _ _ _ _ _ _ _
   | exact ih1 _ _ _ _ _ _ _ _ _ _ _ _ _ _ _ _
   | exact ih2 _ _ _ _ _ _ _ _ _ _ _ _ _ _ _
   | exact ih3 _ _ _ _ _ _ _ _ _ _ _ _ _ _ _ _ _ _
   | exact changeforgelaw7_sameInts.mono _ _ _
   | exact changeforgelaw7_votesExample.mono _
   | exact changeforgeref7_Counts.mono _ _ _ _ _ _
   | exact changeforgeref7_LastVote.mono _ _ _ _
   | exact changeforgeref7_VotesFault.mono _ _ _
   | exact votes_Current.mono _ _ _ _
   | exact votes_Lapsed.mono _ _ _ _
   | exact votes_Score.mono _ _ _ _
   | exact votes_Validate.mono _ _ _
   | exact LeO.none _
   | refine LeO.ite ?_ ?_
   | refine LeO.bind ?_ (fun _ => ?_)
  ·intro y0 y1 y2 y3 y4 y5 y6 y7 y8 y9 y10 y11 y12 y13 y14
   unfold changeforgelaw7_VotesFunctionsMatchSpec.j2
   repeat' first
   | (with_reducible exact ih0 _ _ _ _ _ _ _ _ _ _ _ _ _ _ _ _)
   | (with_reducible exact ih1 _ _ _ _ _ _ _ _ _ _ _ _ _ _ _ _)
   | (with_reducible exact ih2 _ _ _ _ _ _ _ _ _ _ _ _ _ _ _)
   | (with_reducible exact ih3 _ _ _ _ _ _ _ _ _ _ _ _ _ _ _ _ _ _)
   | (with_reducible exact changeforgelaw7_sameInts.mono _ _ _)
   | (with_reducible exact changeforgelaw7_votesExample.mono _)
   | (with_reducible exact changeforgeref7_Counts.mono _ _ _ _ _ _)
   | (with_reducible exact changeforgeref7_LastVote.mono _ _ _ _)
   | (with_reducible exact changeforgeref7_VotesFault.mono _ _ _)
   | (with_reducible exact votes_Current.mono _ _ _ _)
   | (with_reducible exact votes_Lapsed.mono _ _ _ _)
   | (with_reducible exact votes_Score.mono _ _ _ _)
   | (with_reducible exact votes_Validate.mono _ _ _)
   | (with_reducible exact LeO.refl _)
   | (with_reducible exact LeO.none _)
   | (with_reducible refine LeO.ite ?_ ?_)
   | (with_reducible refine LeO.bind ?_ (fun _ => ?_))
   | exact ih0 _ _ _ _ _ _ _ _ _ _ _ _ _ _ _ _
   | exact ih1 _ _ _ _ _ _ _ _ _ _ _ _ _ _ _ _
   | exact ih2 _ _ _ _ _ _ _ _ _ _ _ _ _ _ _
   | exact ih3 _ _ _ _ _ _ _ _ _ _ _ _ _ _ _ _ _ _
   | exact changeforgelaw7_sameInts.mono _ _ _
   | exact changeforgelaw7_votesExample.mono _
   | exact changeforgeref7_Counts.mono _ _ _ _ _ _
   | exact changeforgeref7_LastVote.mono _ _ _ _
   | exact changeforgeref7_VotesFault.mono _ _ _
   | exact votes_Current.mono _ _ _ _
   | exact votes_Lapsed.mono _ _ _ _
   | exact votes_Score.mono _ _ _ _
   | exact votes_Validate.mono _ _ _
   | exact LeO.none _
   | refine LeO.ite ?_ ?_
   | refine LeO.bind ?_ (fun _ => ?_)
  ·intro y0 y1 y2 y3 y4 y5 y6 y7 y8 y9 y10 y11 y12 y13 y14 y15 y16 y17
   unfold changeforgelaw7_VotesFunctionsMatchSpec.l0
   repeat' first
   | (with_reducible exact ih0 _ _ _ _ _ _ _ _ _ _ _ _ _ _ _ _)
   | (with_reducible exact ih1 _ _ _ _ _ _ _ _ _ _ _ _ _ _ _ _)
   | (with_reducible exact ih2 _ _ _ _ _ _ _ _ _ _ _ _ _ _ _)
   | (with_reducible exact ih3 _ _ _ _ _ _ _ _ _ _ _ _ _ _ _ _ _ _)
   | (with_reducible exact changeforgelaw7_sameInts.mono _ _ _)
   | (with_reducible exact changeforgelaw7_votesExample.mono _)
   | (with_reducible exact changeforgeref7_Counts.mono _ _ _ _ _ _)
   | (with_reducible exact changeforgeref7_LastVote.mono _ _ _ _)
   | (with_reducible exact changeforgeref7_VotesFault.mono _ _ _)
   | (with_reducible exact votes_Current.mono _ _ _ _)
   | (with_reducible exact votes_Lapsed.mono _ _ _ _)
   | (with_reducible exact votes_Score.mono _ _ _ _)
   | (with_reducible exact votes_Validate.mono _ _ _)
   | (with_reducible exact LeO.refl _)
   | (with_reducible exact LeO.none _)
   | (with_reducible refine LeO.ite ?_ ?_)
   | (with_reducible refine LeO.bind ?_ (fun _ => ?_))
   | exact ih0 _ _ _ _ _ _ _ _ _ _ _ _ _ _ _ _
   | exact ih1 _ _ _ _ _ _ _ _ _ _ _ _ _ _ _ _
   | exact ih2 _ _ _ _ _ _ _ _ _ _ _ _ _ _ _
   | exact ih3 _ _ _ _ _ _ _ _ _ _ _ _ _ _ _ _ _ _
   | exact changeforgelaw7_sameInts.mono _ _ _
   | exact changeforgelaw7_votesExample.mono _
   | exact changeforgeref7_Counts.mono _ _ _ _ _ _
   | exact changeforgeref7_LastVote.mono _ _ _ _
   | exact changeforgeref7_VotesFault.mono _ _ _
   | exact votes_Current.mono _ _ _ _
   | exact votes_Lapsed.mono _ _ _ _
   | exact votes_Score.mono _ _ _ _
   | exact votes_Validate.mono _ _ _
   | exact LeO.none _
   | refine LeO.ite ?_ ?_
   | refine LeO.bind ?_ (fun _ => ?_)
theorem changeforgelaw7_VotesFunctionsMatchSpec.mono : ∀ a0 a1 a2 k, LeO (changeforgelaw7_VotesFunctionsMatchSpec.f k a0 a1 a2) (changeforgelaw7_VotesFunctionsMatchSpec.f (k + 1) a0 a1 a2) := by
 intro a0 a1 a2 k
 obtain ⟨ih0, ih1, ih2, ih3⟩ := changeforgelaw7_VotesFunctionsMatchSpec.mono_l k
 unfold changeforgelaw7_VotesFunctionsMatchSpec.f
 repeat' first
   | (with_reducible exact ih0 _ _ _ _ _ _ _ _ _ _ _ _ _ _ _ _)
   | (with_reducible exact ih1 _ _ _ _ _ _ _ _ _ _ _ _ _ _ _ _)
   | (with_reducible exact ih2 _ _ _ _ _ _ _ _ _ _ _ _ _ _ _)
   | (with_reducible exact ih3 _ _ _ _ _ _ _ _ _ _ _ _ _ _ _ _ _ _)
   | (with_reducible exact changeforgelaw7_sameInts.mono _ _ _)
   | (with_reducible exact changeforgelaw7_votesExample.mono _)
   | (with_reducible exact changeforgeref7_Counts.mono _ _ _ _ _ _)
   | (with_reducible exact changeforgeref7_LastVote.mono _ _ _ _)
   | (with_reducible exact changeforgeref7_VotesFault.mono _ _ _)
   | (with_reducible exact votes_Current.mono _ _ _ _)
   | (with_reducible exact votes_Lapsed.mono _ _ _ _)
   | (with_reducible exact votes_Score.mono _ _ _ _)
   | (with_reducible exact votes_Validate.mono _ _ _)
   | (with_reducible exact LeO.refl _)
   | (with_reducible exact LeO.none _)
   | (with_reducible refine LeO.ite ?_ ?_)
   | (with_reducible refine LeO.bind ?_ (fun _ => ?_))
   | exact ih0 _ _ _ _ _ _ _ _ _ _ _ _ _ _ _ _
   | exact ih1 _ _ _ _ _ _ _ _ _ _ _ _ _ _ _ _
   | exact ih2 _ _ _ _ _ _ _ _ _ _ _ _ _ _ _
   | exact ih3 _ _ _ _ _ _ _ _ _ _ _ _ _ _ _ _ _ _
   | exact changeforgelaw7_sameInts.mono _ _ _
   | exact changeforgelaw7_votesExample.mono _
   | exact changeforgeref7_Counts.mono _ _ _ _ _ _
   | exact changeforgeref7_LastVote.mono _ _ _ _
   | exact changeforgeref7_VotesFault.mono _ _ _
   | exact votes_Current.mono _ _ _ _
   | exact votes_Lapsed.mono _ _ _ _
   | exact votes_Score.mono _ _ _ _
   | exact votes_Validate.mono _ _ _
   | exact LeO.none _
   | refine LeO.ite ?_ ?_
   | refine LeO.bind ?_ (fun _ => ?_)
def changeforgelaw7_VotesFunctionsMatchSpec.T5 : Bool × List (List Nat × List Nat) := (true, [([], []), ([0], [0]), ([1, 0], [1]), ([2], [2]), ([2], [2]), ([3, 4, 2, 2], [2, 3, 4]), ([2], [2]), ([5, 6, 2], [2, 5, 6]), ([2, 7], [2, 7])])
def changeforgelaw7_VotesFunctionsMatchSpec.B5 : List Nat := [0, 1, 3, 7, 7, 31, 7, 127, 255]
theorem changeforgelaw7_VotesFunctionsMatchSpec.tab5 : rtab .any (opsOf Try.f3 5) = changeforgelaw7_VotesFunctionsMatchSpec.T5 := by kernel_rfl
theorem changeforgelaw7_VotesFunctionsMatchSpec.bits5 : waitsOk changeforgelaw7_VotesFunctionsMatchSpec.T5.2 changeforgelaw7_VotesFunctionsMatchSpec.B5 = true := by kernel_rfl
end Go.Proofs.Ytbkdaofddnkaaaa.PVo
