/- Later votes change nothing of an earlier revision: the law VotesEarlierRevisionsAreFinal returns true, for every list of votes. -/
import Derived.Test.YtbkdaofddnkaaaaOkVotesEarlierRevisionsAreFinal
import Derived.Test.YtbkdaofddnkaaaaPureVotes
namespace Go.Proofs.Ytbkdaofddnkaaaa.Pure
open Go.RowKit Go.Proofs.YtbkdaofddnkaaaaW.PrintWords Go.Proofs.YtbkdaofddnkaaaaW.PrintLast Go.Proofs.Ytbkdaofddnkaaaa.PVo Go.Proofs.Ytbkdaofddnkaaaa.Pu
set_option linter.unusedVariables false
set_option linter.unusedSimpArgs false

def early (a : Int) (l : List Vt) : List Vt := l.filter (fun v => decide (v.f1 ≤ a))
theorem early_split (N a : Int) : ∀ (l : List Vt) (p : Int), okL N p l → ∃ m, l = early a l ++ m ∧ (∀ x ∈ m, a < x.f1) ∧ okL N p (early a l) := by
  intro l
  induction l with
  | nil => intro p _; exact ⟨[], rfl, fun x hx => (by cases hx), trivial⟩
  | cons v t ih =>
    intro p h
    obtain ⟨h1, h2, h3⟩ := h
    by_cases c : v.f1 ≤ a
    · obtain ⟨m, e, hm, ho⟩ := ih v.f1 h3
      have ee : early a (v :: t) = v :: early a t := by unfold early; rw [List.filter_cons_of_pos (by simpa using c)]
      refine ⟨m, ?_, hm, ?_⟩
      · rw [ee, List.cons_append, ← e]
      · rw [ee]
        exact ⟨h1, h2, ho⟩
    · have ee : early a (v :: t) = [] := by
        unfold early
        rw [List.filter_eq_nil_iff]
        intro x hx
        rcases List.mem_cons.1 hx with rfl | hx
        · simpa using c
        · have := (okL_mem h3 x hx).1
          simp only [decide_eq_true_eq]
          omega
      refine ⟨v :: t, by rw [ee]; rfl, ?_, by rw [ee]; trivial⟩
      intro x hx
      rcases List.mem_cons.1 hx with rfl | hx
      · omega
      · have := (okL_mem h3 x hx).1
        omega
theorem run_prefix (tr : List Bool) (m : List Vt) : ∀ (n r : Nat) (l : List Vt) (la co : List Int), (∀ x ∈ m, (r : Int) + n ≤ x.f1) → runV tr n r (l ++ m) la co = runV tr n r l la co := by
  intro n
  induction n with
  | zero => intro r l la co _; rfl
  | succ n ih =>
    intro r l la co h
    rw [runV_succ, runV_succ, take_append_ne (r : Int) m (fun x hx => by have := h x hx; omega) l la _]
    exact ih (r + 1) _ _ _ (fun x hx => by have := h x hx; omega)
theorem lapF_len (la co : List Int) : ∀ (k j : Nat) (out : List Int), (lapF la co k j out).length ≤ out.length + k := by
  intro k
  induction k with
  | zero => intro j out; exact Nat.le_refl _
  | succ k ih =>
    intro j out
    simp only [lapF]
    refine Nat.le_trans (ih (j + 1) _) ?_
    split
    · omega
    · rw [List.length_append]; simp; omega
theorem early_count {l : List Vt} {tr : List Bool} {a : Int} (h : (curV l tr a).2.1 = 0) : countV (early a l) tr a = countV l tr a := by
  obtain ⟨ok, a0, a1, _⟩ := curV_ok h
  obtain ⟨m, e, hm, ho⟩ := early_split tr.length a l 0 ok.2.2.2.2
  have hl : (early a l).length ≤ l.length := List.length_filter_le _ _
  have ok2 : okV (early a l) tr := ⟨Nat.le_trans hl ok.1, ok.2.1, ok.2.2.1, ok.2.2.2.1, ho⟩
  have er : runV tr (a.toNat + 1) 0 l z8 z8 = runV tr (a.toNat + 1) 0 (early a l) z8 z8 := by
    have := run_prefix tr m (a.toNat + 1) 0 (early a l) z8 z8 (fun x hx => by have := hm x hx; omega)
    rw [← e] at this
    exact this
  rw [ok_countV ok a0 a1, ok_countV ok2 a0 a1, er]
theorem early_cur {l : List Vt} {tr : List Bool} {a : Int} (h : (curV l tr a).2.1 = 0) : curV (early a l) tr a = curV l tr a ∧ lapV (early a l) tr a = lapV l tr a := by
  have e := early_count h
  unfold curV lapV
  rw [e]
  exact ⟨rfl, rfl⟩
theorem final_end (l : List Vt) (tr : List Bool) (a : Int) : Ev (fun k => ((votes_Current.f k l tr a).bind fun bt287 => ((votes_Current.f k (early a l) tr a).bind fun bt293 => ((votes_Lapsed.f k l tr a).bind fun bt299 => ((votes_Lapsed.f k (early a l) tr a).bind fun bt305 => ((changeforgelaw7_votesExample.f k).bind fun t311 => (if t311 = true then (if bt287.2.1 = 0 then (if bt293.2.1 = 0 then (if bt299.2.1 = 0 then (if bt305.2.1 = 0 then ((changeforgelaw7_sameInts.f k bt287.1 bt293.1).bind fun t312 => (if t312 = true then ((changeforgelaw7_sameInts.f k bt299.1 bt305.1).bind fun t313 => (some t313)) else (some false))) else (some false)) else (some false)) else (some false)) else (some true)) else (some false)))))))) true := by
  refine Ev.bind (Current_ev l tr a) (Ev.bind (Current_ev _ tr a) (Ev.bind (Lapsed_ev l tr a) (Ev.bind (Lapsed_ev _ tr a) (Ev.bind votesExample_ev (Ev.pos rfl ?_)))))
  by_cases c : (curV l tr a).2.1 = 0
  · obtain ⟨e1, e2⟩ := early_cur c
    obtain ⟨_, _, _, q⟩ := curV_ok c
    have hc : (lapV l tr a).2.1 = 0 := by
      have : (curV l tr a).2.1 = (countV l tr a).2.2.1 := by unfold curV; split <;> rfl
      unfold lapV
      rw [← this]
      exact c
    rw [e1, e2]
    refine Ev.pos c (Ev.pos c (Ev.pos hc (Ev.pos hc ?_)))
    refine Ev.bind (sameInts_ev _ (by rw [q]; have := run8 tr (a.toNat + 1) 0 l; simp only; omega)) (Ev.pos rfl (Ev.bind (sameInts_ev _ ?_) (Ev.now _)))
    have := lapF_len (countV l tr a).1 (countV l tr a).2.1 8 0 []
    unfold lapV
    simp only [List.length_nil] at this ⊢
    omega
  · exact Ev.neg c (Ev.now _)
theorem final_loop (l : List Vt) (tr : List Bool) (a : Int) (hl : l.length * 24 ≤ 140737488351232) : ∀ (t : List Vt) (j : Nat), l.drop j = t → Ev (fun k => changeforgelaw7_VotesEarlierRevisionsAreFinal.l0 k l tr a (early a (l.take j)) (j : Int)) true := by
  intro t
  induction t with
  | nil =>
    intro j h
    have hj := drop_nil h
    refine Ev.succ ?_
    simp only [changeforgelaw7_VotesEarlierRevisionsAreFinal.l0]
    refine Ev.neg (by omega) ?_
    rw [List.take_of_length_le hj]
    exact final_end l tr a
  | cons v t ih =>
    intro j h
    obtain ⟨hj, hg, ht⟩ := drop_cons h
    have e := rdT h
    have e1 : l.take (j + 1) = l.take j ++ [v] := by rw [List.take_add, h]; rfl
    have ihn := ih (j + 1) ht
    rw [e1] at ihn
    have hle : (early a (l.take j)).length ≤ l.length := Nat.le_trans (List.length_filter_le _ _) (by rw [List.length_take]; omega)
    refine Ev.succ ?_
    simp only [changeforgelaw7_VotesEarlierRevisionsAreFinal.l0]
    refine Ev.pos (by omega) (Ev.pos (by omega) ?_)
    simp only [e]
    rw [wsucc (by omega)]
    by_cases c : v.f1 ≤ a
    · refine Ev.pos c (Ev.pos (by omega) ?_)
      have e2 : early a (l.take j ++ [v]) = early a (l.take j) ++ [v] := by
        unfold early
        rw [List.filter_append, List.filter_cons_of_pos (by simpa using c)]
        rfl
      rw [e2] at ihn
      exact ihn
    · refine Ev.neg c ?_
      have e2 : early a (l.take j ++ [v]) = early a (l.take j) := by
        unfold early
        rw [List.filter_append, List.filter_cons_of_neg (by simpa using c)]
        simp
      rw [e2] at ihn
      exact ihn
theorem VotesEarlierRevisionsAreFinal : changeforgelaw7_VotesEarlierRevisionsAreFinal.Pure := by
  intro l tr a hl htr ha
  refine Ev.rounds ?_
  unfold changeforgelaw7_VotesEarlierRevisionsAreFinal.f
  exact final_loop l tr a hl.1 l 0 rfl
end Go.Proofs.Ytbkdaofddnkaaaa.Pure
