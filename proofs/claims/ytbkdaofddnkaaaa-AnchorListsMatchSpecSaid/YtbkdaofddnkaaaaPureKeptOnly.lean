/- Kept in plain words: by the template tmpl/PureKeptOnly.lean of this repo. -/
import Derived.Test.YtbkdaofddnkaaaaPureThrough
import Derived.Test.YtbkdaofddnkaaaaPAmx18
namespace Go.Proofs.Ytbkdaofddnkaaaa.Pu
open Go.RowKit Go.Proofs.YtbkdaofddnkaaaaW.PrintWords Go.Proofs.YtbkdaofddnkaaaaW.PrintLast Go.Proofs.Ytbkdaofddnkaaaa.PAm
set_option linter.unusedVariables false
set_option linter.unusedSimpArgs false

def keptAt (hs : List Hk) (i : Nat) : Int := if (place hs (i : Int) 0).2 = true then (place hs (i : Int) 0).1 else -1
def keptL (hs : List Hk) (n : Nat) : List Int := (List.range n).map (keptAt hs)
/-- The first hunk that ends behind line n. -/
def firstLong : List Hk → Int → Int → Option Int
  | [], _, _ => none
  | h :: t, n, j => if h.f0 + h.f1.length > n then some j else firstLong t n (j + 1)
def keptV (hs : List Hk) (n : Int) : List Int × Int × Int :=
  if (patchV hs).1 = 0 then (if n < 0 ∨ n > 120 then ([], 3, -2) else match firstLong hs n 0 with | some j => ([], 19, j) | none => (keptL hs n.toNat, 0, 0)) else ([], (patchV hs).1, (patchV hs).2)
theorem kept_l1 (hs : List Hk) (hm : hs.length ≤ 130) (hv : Valid 0 hs) (n : Nat) (hn : n ≤ 120) : ∀ (d j : Nat) (acc : List Int), n - j = d → j ≤ n → acc.length = n → acc.take j = (List.range j).map (keptAt hs) →
    Ev (fun k => anchor_Kept.l1 k acc (n : Int) (j : Int) hs) (keptL hs n, 0, 0) := by
  intro d
  induction d with
  | zero =>
    intro j acc h hj hl ht
    refine Ev.succ ?_
    simp only [anchor_Kept.l1]
    refine Ev.neg (by omega) ?_
    have e : acc = keptL hs n := by
      have : j = n := by omega
      subst this
      rw [List.take_of_length_le (by omega)] at ht
      exact ht
    rw [e]
    exact Ev.now _
  | succ d ih =>
    intro j acc h hj hl ht
    refine Ev.succ ?_
    simp only [anchor_Kept.l1]
    refine Ev.pos (by omega) ?_
    refine Ev.bind (Place_ev hm hv (j : Int) (by omega) (by omega)) ?_
    have step : ∀ v, v = keptAt hs j → Ev (fun k => anchor_Kept.l1 k (acc.set (j : Int).toNat v) (n : Int) (wrap64 ((j : Int) + 1)) hs) (keptL hs n, 0, 0) := by
      intro v hv2
      rw [wsucc (by omega), Int.toNat_natCast]
      refine ih (j + 1) _ (by omega) (by omega) (by simp [hl]) ?_
      rw [List.take_succ_eq_append_getElem (by simp; omega), List.take_set_of_le (Nat.le_refl _), ht, List.range_succ, List.map_append]
      simp [hv2]
    by_cases hk : (place hs (j : Int) 0).2 = true
    · simp only [hk, if_true]
      refine Ev.pos (by omega) (Ev.pos (by omega) ?_)
      exact step _ (by unfold keptAt; rw [if_pos hk])
    · simp only [hk]
      refine Ev.neg (by simp) (Ev.pos (by omega) (Ev.pos (by omega) ?_))
      exact step _ (by unfold keptAt; rw [if_neg hk])
theorem kept_l0 (hs : List Hk) (hm : hs.length ≤ 130) (hv : Valid 0 hs) (n : Nat) (hn : n ≤ 120) : ∀ (t : List Hk) (j : Nat) (low : Int), hs.drop j = t → j ≤ hs.length → Valid low t →
    Ev (fun k => anchor_Kept.l0 k (n : Int) hs (hs.length : Int) (j : Int) hs) (match firstLong t (n : Int) (j : Int) with | some j => ([], 19, j) | none => (keptL hs n, 0, 0)) := by
  intro t
  induction t with
  | nil =>
    intro j low h hj _
    have := drop_nil h
    refine Ev.succ ?_
    simp only [anchor_Kept.l0]
    refine Ev.neg (by omega) (Ev.pos (by omega) (Ev.pos (by omega) ?_))
    simp only [Option.bind_some, Int.toNat_natCast, List.length_replicate, firstLong]
    exact kept_l1 hs hm hv n hn n 0 _ (by omega) (by omega) (by simp) (by simp)
  | cons s t ih =>
    intro j low h hj hv2
    obtain ⟨hl, hg, ht⟩ := drop_cons h
    have hr := rd_hunk hg
    obtain ⟨a, b, c, _, _, _, _, hv'⟩ := hv2
    refine Ev.succ ?_
    simp only [anchor_Kept.l0]
    refine Ev.pos (by omega) (Ev.pos (by omega) (Ev.pos (by omega) ?_))
    simp only [hr, End_eq s a b (linesV_len c), Option.bind_some, firstLong]
    by_cases h1 : s.f0 + s.f1.length > (n : Int)
    · simp only [if_pos h1]
      exact Ev.now _
    · simp only [if_neg h1]
      rw [wsucc (by omega)]
      exact ih (j + 1) _ ht (by omega) hv'
theorem Kept_ev (hs : List Hk) (n : Int) : Ev (fun k => anchor_Kept.f k hs n) (keptV hs n) := by
  unfold anchor_Kept.f keptV
  refine Ev.bind (patch_Validate_ev hs) ?_
  by_cases hz : (patchV hs).1 = 0
  · rw [if_pos hz]
    obtain ⟨_, hm, hv⟩ := patchV_zero hz
    refine Ev.pos ((patchV_test hs).2 hz) ?_
    have j0 : ∀ b, b = decide (n < 0 ∨ n > 120) → Ev (fun k => anchor_Kept.j0 k n b hs) (if n < 0 ∨ n > 120 then ([], 3, -2) else match firstLong hs n 0 with | some j => ([], 19, j) | none => (keptL hs n.toNat, 0, 0)) := by
      intro b hb
      refine Ev.succ ?_
      simp only [anchor_Kept.j0]
      by_cases h0 : n < 0 ∨ n > 120
      · rw [if_pos h0]
        refine Ev.pos (by simp [hb, h0]) (Ev.now _)
      · rw [if_neg h0]
        refine Ev.neg (by simp [hb, h0]) ?_
        obtain ⟨m, rfl⟩ := Int.eq_ofNat_of_zero_le (show 0 ≤ n by omega)
        rw [Int.toNat_natCast]
        exact kept_l0 hs hm hv m (by omega) hs 0 0 rfl (by omega) hv
    by_cases h0 : n < 0
    · refine Ev.pos h0 ?_
      exact j0 true (by simp [h0])
    · refine Ev.neg h0 ?_
      exact j0 _ (by simp [h0])
  · rw [if_neg hz]
    exact Ev.neg (fun e => hz ((patchV_test hs).1 e)) (Ev.now _)
end Go.Proofs.Ytbkdaofddnkaaaa.Pu
