/- Two votes of different users on one revision may stand in either order: the law VotesOfUsersAreIndependent returns true, for every list of votes. -/
import Derived.Test.YtbkdaofddnkaaaaOkVotesOfUsersAreIndependent
import Derived.Test.YtbkdaofddnkaaaaPureVotes
namespace Go.Proofs.Ytbkdaofddnkaaaa.Pure
open Go.RowKit Go.Proofs.YtbkdaofddnkaaaaW.PrintWords Go.Proofs.YtbkdaofddnkaaaaW.PrintLast Go.Proofs.Ytbkdaofddnkaaaa.PVo Go.Proofs.Ytbkdaofddnkaaaa.Pu
set_option linter.unusedVariables false
set_option linter.unusedSimpArgs false

theorem okL_swap (N : Int) (a b : Vt) (q : List Vt) (h : a.f1 = b.f1) : ∀ (p : List Vt) (s : Int), okL N s (p ++ a :: b :: q) → okL N s (p ++ b :: a :: q) := by
  intro p
  induction p with
  | nil =>
    intro s ho
    obtain ⟨h1, h2, h3, h4, h5⟩ := ho
    exact ⟨h3, by omega, h1, by omega, h ▸ h5⟩
  | cons v p ih =>
    intro s ho
    obtain ⟨h1, h2, h3⟩ := ho
    exact ⟨h1, h2, ih _ h3⟩
theorem take_swap (r : Int) (a b : Vt) (q : List Vt) (h : a.f1 = b.f1) (hu : a.f0.toNat ≠ b.f0.toNat) : ∀ (p : List Vt) (la co : List Int),
    takeV r (p ++ a :: b :: q) la co = takeV r (p ++ b :: a :: q) la co ∨ ∃ p' X, takeV r (p ++ a :: b :: q) la co = (p' ++ a :: b :: q, X) ∧ takeV r (p ++ b :: a :: q) la co = (p' ++ b :: a :: q, X) := by
  intro p
  induction p with
  | nil =>
    intro la co
    by_cases c : a.f1 = r
    · have c2 : b.f1 = r := h ▸ c
      left
      simp only [List.nil_append, takeV, if_pos c, if_pos c2]
      rw [List.set_comm _ _ hu, List.set_comm _ _ hu]
    · have c2 : ¬ b.f1 = r := h ▸ c
      right
      refine ⟨[], (la, co), ?_, ?_⟩
      · simp only [List.nil_append, takeV, if_neg c]
      · simp only [List.nil_append, takeV, if_neg c2]
  | cons v p ih =>
    intro la co
    simp only [List.cons_append, takeV]
    by_cases c : v.f1 = r
    · simp only [if_pos c]
      exact ih _ _
    · simp only [if_neg c]
      exact .inr ⟨v :: p, (la, co), rfl, rfl⟩
theorem run_swap (tr : List Bool) (a b : Vt) (q : List Vt) (h : a.f1 = b.f1) (hu : a.f0.toNat ≠ b.f0.toNat) : ∀ (n r : Nat) (p : List Vt) (la co : List Int), runV tr n r (p ++ a :: b :: q) la co = runV tr n r (p ++ b :: a :: q) la co := by
  intro n
  induction n with
  | zero => intro r p la co; rfl
  | succ n ih =>
    intro r p la co
    rw [runV_succ, runV_succ]
    rcases take_swap (r : Int) a b q h hu p la (if rdOf false tr (r : Int) = true then co else co.map dimV) with e | ⟨p', X, e1, e2⟩
    · rw [e]
    · rw [e1, e2]
      exact ih (r + 1) p' _ _
theorem cur_swap (tr : List Bool) (x : Int) (a b : Vt) (p q : List Vt) (h : a.f1 = b.f1) (hu : a.f0 ≠ b.f0) (hc : (curV (p ++ a :: b :: q) tr x).2.1 = 0) : curV (p ++ b :: a :: q) tr x = curV (p ++ a :: b :: q) tr x := by
  obtain ⟨ok, a0, a1, e⟩ := curV_ok hc
  obtain ⟨h1, h2, h3, h4, h5⟩ := ok
  have ok2 : okV (p ++ b :: a :: q) tr := ⟨by simpa using h1, h2, h3, h4, okL_swap _ a b q h p 0 h5⟩
  have ba := (okL_mem h5 a (by simp)).2
  have bb := (okL_mem h5 b (by simp)).2
  unfold badV at ba bb
  rw [e, ok_curV ok2 a0 a1, run_swap tr a b q h (by omega)]
theorem curV_bad {l : List Vt} {tr : List Bool} {x : Int} (h : ¬ (curV l tr x).2.1 = 0) : (curV l tr x).1 = [] := by
  unfold curV at h ⊢
  split
  · rename_i c
    rw [if_pos c] at h
    simp only [Bool.and_eq_true, beq_iff_eq] at c
    exact absurd c.1 h
  · rfl
theorem swap_end (l m : List Vt) (tr : List Bool) (x : Int) (h1 : (curV l tr x).2.1 = 0 → curV m tr x = curV l tr x) (h2 : (curV m tr x).2.1 = 0 → curV l tr x = curV m tr x) : Ev (fun k => if ((curV l tr x).2.1 == 0) == ((curV m tr x).2.1 == 0) then ((changeforgelaw7_sameInts.f k (curV l tr x).1 (curV m tr x).1).bind fun t => some t) else some false) true := by
  by_cases c : (curV l tr x).2.1 = 0
  · rw [h1 c]
    obtain ⟨_, _, _, q⟩ := curV_ok c
    exact Ev.pos (by simp) (Ev.bind (sameInts_ev _ (by rw [q]; have := run8 tr (x.toNat + 1) 0 l; simp only; omega)) (Ev.now _))
  · have c2 : ¬ (curV m tr x).2.1 = 0 := fun h => c (by rw [h2 h]; exact h)
    rw [curV_bad c, curV_bad c2]
    exact Ev.pos (by rw [beq_eq_false_iff_ne.mpr c, beq_eq_false_iff_ne.mpr c2]; rfl) (Ev.bind (sameInts_ev _ (by simp)) (Ev.now _))
theorem set_swap {l : List Vt} {i : Nat} {a b : Vt} {q : List Vt} (h : l.drop i = a :: b :: q) : l = l.take i ++ a :: b :: q ∧ (l.set i b).set (i + 1) a = l.take i ++ b :: a :: q := by
  have e : l = l.take i ++ a :: b :: q := by rw [← h, List.take_append_drop]
  have hi : i < l.length := (drop_cons h).1
  have hl : (l.take i).length = i := by rw [List.length_take]; omega
  refine ⟨e, ?_⟩
  have e2 : (l.set i b).set (i + 1) a = (((l.take i) ++ a :: b :: q).set i b).set (i + 1) a := by rw [← e]
  rw [e2, List.set_append_right _ _ (by omega), List.set_append_right _ _ (by omega), hl]
  rw [Nat.sub_self, show i + 1 - i = 1 by omega]
  rfl
theorem VotesOfUsersAreIndependent : changeforgelaw7_VotesOfUsersAreIndependent.Pure := by
  intro l tr x i hl htr hx hi
  refine Ev.rounds ?_
  unfold changeforgelaw7_VotesOfUsersAreIndependent.f
  refine Ev.bind (Current_ev l tr x) (Ev.bind votesExample_ev (Ev.pos rfl ?_))
  have htrue : Ev (fun k => changeforgelaw7_VotesOfUsersAreIndependent.j0 k l tr x i (curV l tr x).1 true (curV l tr x).2.1 (curV l tr x).2.2) true := by
    refine Ev.succ ?_
    simp only [changeforgelaw7_VotesOfUsersAreIndependent.j0]
    exact Ev.pos (by trivial) (Ev.now _)
  have hl1 := hl.1
  have ew : wrap64 ((l.length : Int) - 1) = (l.length : Int) - 1 := w64 (by omega) (by omega)
  rw [ew]
  refine Ev.ite (fun c => htrue) (fun c0 => Ev.ite (fun c => htrue) (fun c1 => ?_))
  obtain ⟨j, rfl⟩ := Int.eq_ofNat_of_zero_le (show 0 ≤ i by omega)
  have ej : wrap64 ((j : Int) + 1) = ((j + 1 : Nat) : Int) := wsucc (by omega)
  rw [ej]
  refine Ev.pos (by omega) (Ev.pos (by omega) (Ev.pos (by omega) (Ev.pos (by omega) ?_)))
  obtain ⟨a, ha⟩ : ∃ a, l.drop j = a :: l.drop (j + 1) := by
    rcases drop_nil_or l j with ⟨_, h⟩ | ⟨a, h, _⟩
    · omega
    · exact ⟨a, h⟩
  obtain ⟨b, hb⟩ : ∃ b, l.drop (j + 1) = b :: l.drop (j + 1 + 1) := by
    rcases drop_nil_or l (j + 1) with ⟨_, h⟩ | ⟨a, h, _⟩
    · omega
    · exact ⟨a, h⟩
  have ea := rdT ha
  have eb := rdT hb
  simp only [ea, eb]
  refine Ev.ite (fun c => htrue) (fun c2 => ?_)
  by_cases c3 : a.f1 = b.f1
  · have e3 : (a.f1 != b.f1) = false := by simp [c3]
    rw [e3]
    refine Ev.succ ?_
    simp only [changeforgelaw7_VotesOfUsersAreIndependent.j0, ea, eb, ej]
    refine Ev.neg (by simp) (Ev.pos (by simp only [List.length_nil]; omega) (Ev.bind (Ev.now _) ?_))
    simp only [List.nil_append, Int.toNat_natCast]
    refine Ev.pos (by omega) (Ev.pos (by omega) (Ev.pos (by omega) (Ev.pos (by omega) (Ev.pos (by omega) (Ev.pos (by omega) ?_)))))
    rw [hb] at ha
    obtain ⟨s1, s2⟩ := set_swap ha
    refine Ev.bind (Current_ev _ tr x) ?_
    refine swap_end l _ tr x (fun hc => ?_) (fun hc => ?_)
    · rw [s2]
      have := cur_swap tr x a b (l.take j) (l.drop (j + 1 + 1)) c3 c2 (by rw [← s1]; exact hc)
      rw [← s1] at this
      exact this
    · rw [s2] at hc ⊢
      have := cur_swap tr x b a (l.take j) (l.drop (j + 1 + 1)) c3.symm (fun h => c2 h.symm) hc
      rw [← s1] at this
      exact this
  · have e3 : (a.f1 != b.f1) = true := by simpa using c3
    rw [e3]
    exact htrue
end Go.Proofs.Ytbkdaofddnkaaaa.Pure
