/- What the reference functions of votes compute (toward VotesFunctionsMatchSpec). -/
import Derived.Test.YtbkdaofddnkaaaaPureVotes
import Derived.Test.YtbkdaofddnkaaaaPVox3
import Derived.Test.YtbkdaofddnkaaaaPVox11
import Derived.Test.YtbkdaofddnkaaaaPVox12
namespace Go.Proofs.Ytbkdaofddnkaaaa.Pu
open Go.RowKit Go.Proofs.YtbkdaofddnkaaaaW.PrintWords Go.Proofs.YtbkdaofddnkaaaaW.PrintLast Go.Proofs.Ytbkdaofddnkaaaa.PVo
set_option linter.unusedVariables false
set_option linter.unusedSimpArgs false

theorem fault_loop (l : List Vt) (tr : List Bool) (hl : l.length ≤ 40) : ∀ (t : List Vt) (j : Nat) (p : Int), l.drop j = t → (j = 0 → p = 0) →
    Ev (fun k => changeforgeref7_VotesFault.l0 k l tr p (j : Int)) (fromV tr.length t j p) := by
  intro t
  induction t with
  | nil =>
    intro j p h hp
    have := drop_nil h
    refine Ev.succ ?_
    simp only [changeforgeref7_VotesFault.l0]
    exact Ev.neg (by omega) (Ev.bind (Ev.now _) (Ev.now _))
  | cons v r ih =>
    intro j p h hp
    obtain ⟨hj, hg, ht⟩ := drop_cons h
    have e := rdT h
    have hj2 : ∀ b : Bool, (b = true ↔ badV tr.length v) → Ev (fun k => changeforgeref7_VotesFault.j2 k l tr p (j : Int) b v.f0 v.f1 v.f2) (fromV tr.length (v :: r) j p) := by
      intro b hb
      have ihn := ih (j + 1) v.f1 ht (fun h => absurd h (by omega))
      refine Ev.succ ?_
      simp only [changeforgeref7_VotesFault.j2]
      by_cases hb1 : b = true
      · simp only [fromV, if_pos (hb.1 hb1)]
        exact Ev.pos hb1 (Ev.bind (Ev.now _) (Ev.now _))
      · have nb : ¬ badV tr.length v := fun h => hb1 (hb.2 h)
        simp only [fromV, if_neg nb]
        refine Ev.neg hb1 ?_
        by_cases c : v.f1 < p
        · have hj0 : 0 < j := by
            rcases Nat.eq_zero_or_pos j with h0 | h0
            · have := hp h0
              unfold badV at nb
              omega
            · exact h0
          rw [if_pos ⟨hj0, c⟩]
          exact Ev.pos c (Ev.bind (Ev.now _) (Ev.now _))
        · rw [if_neg (fun h => c h.2)]
          refine Ev.neg c ?_
          rw [wsucc (by omega)]
          exact ihn
    refine Ev.succ ?_
    simp only [changeforgeref7_VotesFault.l0]
    refine Ev.pos (by omega) (Ev.pos (by omega) ?_)
    simp only [e]
    refine Ev.ite (fun c => hj2 true ⟨fun _ => .inl c, fun _ => rfl⟩) (fun c0 => ?_)
    refine Ev.ite (fun c => hj2 true ⟨fun _ => .inr (.inl c), fun _ => rfl⟩) (fun c1 => ?_)
    refine Ev.ite (fun c => hj2 true ⟨fun _ => .inr (.inr (.inl c)), fun _ => rfl⟩) (fun c2 => ?_)
    refine Ev.ite (fun c => hj2 true ⟨fun _ => .inr (.inr (.inr (.inl c))), fun _ => rfl⟩) (fun c3 => ?_)
    refine Ev.ite (fun c => hj2 true ⟨fun _ => .inr (.inr (.inr (.inr (.inl c)))), fun _ => rfl⟩) (fun c4 => ?_)
    exact hj2 _ ⟨fun c => .inr (.inr (.inr (.inr (.inr (of_decide_eq_true c))))), fun hb => decide_eq_true (by unfold badV at hb; omega)⟩
theorem VotesFault_ev (l : List Vt) (tr : List Bool) : Ev (fun k => changeforgeref7_VotesFault.f k l tr) (validV l tr) := by
  unfold changeforgeref7_VotesFault.f validV
  by_cases h0 : (l.length : Int) > 40
  · rw [if_pos h0]
    exact Ev.pos h0 (Ev.bind (Ev.now _) (Ev.now _))
  · rw [if_neg h0]
    refine Ev.neg h0 ?_
    by_cases h1 : (tr.length : Int) = 0
    · rw [if_pos (.inl (by omega))]
      refine Ev.pos h1 (Ev.succ ?_)
      simp only [changeforgeref7_VotesFault.j0]
      exact Ev.pos (by trivial) (Ev.bind (Ev.now _) (Ev.now _))
    · refine Ev.neg h1 (Ev.succ ?_)
      simp only [changeforgeref7_VotesFault.j0]
      by_cases h2 : (tr.length : Int) > 12
      · rw [if_pos (.inr h2)]
        exact Ev.pos (decide_eq_true h2) (Ev.bind (Ev.now _) (Ev.now _))
      · rw [if_neg (fun h => h.elim (by omega) h2)]
        refine Ev.neg (by simp only [decide_eq_true_eq]; exact h2) (Ev.pos (by omega) ?_)
        by_cases h3 : rdOf false tr 0 = true
        · rw [if_pos h3]
          exact Ev.pos h3 (Ev.bind (Ev.now _) (Ev.now _))
        · rw [if_neg h3]
          exact Ev.neg h3 (fault_loop l tr (by omega) l 0 0 rfl (fun _ => rfl))
/-- the last vote of user u up to revision a -/
def lastF (u a : Int) (x : Vt) : List Vt → Vt
  | [] => x
  | v :: t => lastF u a (if v.f0 = u ∧ v.f1 ≤ a then v else x) t
theorem lastF_snoc (u a : Int) (v : Vt) : ∀ (l : List Vt) (x : Vt), lastF u a x (l ++ [v]) = if v.f0 = u ∧ v.f1 ≤ a then v else lastF u a x l := by
  intro l
  induction l with
  | nil => intro x; rfl
  | cons b t ih => intro x; exact ih _
theorem LastVote_loop (l : List Vt) (u a : Int) (hl : l.length ≤ 40) : ∀ (n : Nat), n ≤ l.length → Ev (fun k => changeforgeref7_LastVote.l0 k l u a ((n : Int) - 1)) ((lastF u a ⟨u, a, 0⟩ (l.take n)).f0, (lastF u a ⟨u, a, 0⟩ (l.take n)).f1, (lastF u a ⟨u, a, 0⟩ (l.take n)).f2) := by
  intro n
  induction n with
  | zero =>
    intro h
    refine Ev.succ ?_
    simp only [changeforgeref7_LastVote.l0]
    exact Ev.neg (by omega) (Ev.now _)
  | succ n ih =>
    intro h
    have ihn := ih (by omega)
    obtain ⟨v, hv⟩ : ∃ v, l.drop n = v :: l.drop (n + 1) := by
      rcases drop_nil_or l n with ⟨_, h⟩ | ⟨a, h, _⟩
      · omega
      · exact ⟨a, h⟩
    have e := rdT hv
    have et : l.take (n + 1) = l.take n ++ [v] := by rw [List.take_add, hv]; rfl
    have en : ((n + 1 : Nat) : Int) - 1 = (n : Int) := by omega
    refine Ev.succ ?_
    rw [en, et]
    simp only [changeforgeref7_LastVote.l0, lastF_snoc, e]
    rw [show wrap64 ((n : Int) - 1) = (n : Int) - 1 from w64 (by omega) (by omega)]
    refine Ev.pos (by omega) (Ev.pos (by omega) (Ev.pos (by omega) ?_))
    by_cases c1 : v.f0 = u
    · by_cases c2 : v.f1 ≤ a
      · simp only [if_pos (And.intro c1 c2)]
        exact Ev.pos c1 (Ev.pos c2 (Ev.now _))
      · rw [if_neg (fun h => c2 h.2)]
        exact Ev.pos c1 (Ev.neg c2 ihn)
    · rw [if_neg (fun h => c1 h.1)]
      exact Ev.neg c1 ihn
theorem LastVote_ev (l : List Vt) (u a : Int) (hl : l.length ≤ 40) : Ev (fun k => changeforgeref7_LastVote.f k l u a) ((lastF u a ⟨u, a, 0⟩ l).f0, (lastF u a ⟨u, a, 0⟩ l).f1, (lastF u a ⟨u, a, 0⟩ l).f2) := by
  unfold changeforgeref7_LastVote.f
  have h := LastVote_loop l u a hl l.length (Nat.le_refl _)
  rw [List.take_length] at h
  rw [show wrap64 ((l.length : Int) - 1) = (l.length : Int) - 1 from w64 (by omega) (by omega)]
  exact h
/-- the n revisions from i on are all trivial -/
def allT (tr : List Bool) : Nat → Nat → Bool
  | _, 0 => true
  | i, n + 1 => rdOf false tr (i : Int) && allT tr (i + 1) n
theorem allT_snoc (tr : List Bool) : ∀ (n i : Nat), allT tr i (n + 1) = (allT tr i n && rdOf false tr ((i + n : Nat) : Int)) := by
  intro n
  induction n with
  | zero => intro i; simp [allT]
  | succ n ih =>
    intro i
    rw [allT, ih (i + 1), allT, Bool.and_assoc, show i + 1 + n = i + (n + 1) by omega]
theorem Counts_loop (tr : List Bool) (a : Int) (ha : a < (tr.length : Int)) (htr : tr.length ≤ 12) : ∀ (n i : Nat), (i : Int) + n = a + 1 → Ev (fun k => changeforgeref7_Counts.l0 k tr a (i : Int)) (allT tr i n) := by
  intro n
  induction n with
  | zero =>
    intro i h
    refine Ev.succ ?_
    simp only [changeforgeref7_Counts.l0]
    exact Ev.neg (by omega) (Ev.now _)
  | succ n ih =>
    intro i h
    refine Ev.succ ?_
    simp only [changeforgeref7_Counts.l0]
    refine Ev.pos (by omega) (Ev.pos (by omega) (Ev.pos (by omega) ?_))
    by_cases c : rdOf false tr (i : Int) = true
    · simp only [allT, c, Bool.true_and]
      rw [wsucc (by omega)]
      exact ih (i + 1) (by omega)
    · have c' : rdOf false tr (i : Int) = false := by simpa using c
      simp only [allT, c', Bool.false_and]
      exact Ev.now _
theorem Counts_end (tr : List Bool) (a i : Int) (h : a < i) : Ev (fun k => changeforgeref7_Counts.l0 k tr a i) true := by
  refine Ev.succ ?_
  simp only [changeforgeref7_Counts.l0]
  exact Ev.neg (by omega) (Ev.now _)
/-- a vote counts for revision a -/
def countsV (v : Vt) (tr : List Bool) (a : Int) : Bool := decide (v.f2 = -2) || allT tr (v.f1 + 1).toNat (a - v.f1).toNat
theorem Counts_ev (v : Vt) (tr : List Bool) (a : Int) (ha : a < (tr.length : Int)) (htr : tr.length ≤ 12) (h0 : 0 ≤ v.f1) (h1 : v.f1 ≤ a) : Ev (fun k => changeforgeref7_Counts.f k v.f0 v.f1 v.f2 tr a) (countsV v tr a) := by
  unfold changeforgeref7_Counts.f countsV
  by_cases c : v.f2 = -2
  · rw [decide_eq_true c, Bool.true_or]
    exact Ev.pos c (Ev.now _)
  · rw [decide_eq_false c, Bool.false_or]
    refine Ev.neg c ?_
    obtain ⟨j, hj⟩ := Int.eq_ofNat_of_zero_le h0
    rw [hj, wsucc (by omega), show ((j : Int) + 1).toNat = j + 1 by omega]
    exact Counts_loop tr a ha htr _ (j + 1) (by omega)
end Go.Proofs.Ytbkdaofddnkaaaa.Pu
