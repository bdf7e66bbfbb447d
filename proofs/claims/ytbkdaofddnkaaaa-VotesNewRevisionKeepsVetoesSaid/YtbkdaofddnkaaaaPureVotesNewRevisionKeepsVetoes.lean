/- A new revision keeps all votes if it is trivial, and else the vetoes: the law VotesNewRevisionKeepsVetoes returns true. -/
import Derived.Test.YtbkdaofddnkaaaaOkVotesNewRevisionKeepsVetoes
import Derived.Test.YtbkdaofddnkaaaaPureVotes
namespace Go.Proofs.Ytbkdaofddnkaaaa.Pure
open Go.RowKit Go.Proofs.YtbkdaofddnkaaaaW.PrintWords Go.Proofs.YtbkdaofddnkaaaaW.PrintLast Go.Proofs.Ytbkdaofddnkaaaa.PVo Go.Proofs.Ytbkdaofddnkaaaa.Pu
set_option linter.unusedVariables false
set_option linter.unusedSimpArgs false

theorem rd_snoc (tr : List Bool) (b : Bool) (r : Nat) (h : r < tr.length) : rdOf false (tr ++ [b]) (r : Int) = rdOf false tr (r : Int) := by
  unfold rdOf
  rw [Int.toNat_natCast]
  simp [List.getD, List.getElem?_append_left h]
theorem rd_last (tr : List Bool) (b : Bool) : rdOf false (tr ++ [b]) (tr.length : Int) = b := by
  unfold rdOf
  rw [Int.toNat_natCast]
  simp [List.getD]
theorem run_rev (tr : List Bool) (b : Bool) : ∀ (n r : Nat) (l : List Vt) (la co : List Int), okL tr.length (r : Int) l → r + n = tr.length →
    (runV (tr ++ [b]) (n + 1) r l la co).2 = if b = true then (runV tr n r l la co).2 else (runV tr n r l la co).2.map dimV := by
  intro n
  induction n with
  | zero =>
    intro r l la co h hr
    have hnil : l = [] := by
      cases l with
      | nil => rfl
      | cons v t =>
        obtain ⟨h1, h2, _⟩ := h
        unfold badV at h1
        omega
    subst hnil
    have er : (r : Int) = (tr.length : Int) := by omega
    simp only [runV, takeV, er, rd_last]
  | succ n ih =>
    intro r l la co h hr
    rw [runV_succ, runV_succ tr n r l, rd_snoc tr b r (by omega)]
    exact ih (r + 1) _ _ _ (by have := take_rest tr.length (r : Int) l la (if rdOf false tr (r : Int) = true then co else co.map dimV) h; simpa using this) (by omega)
def inV (co : List Int) : Prop := ∀ x ∈ co, -2 ≤ x ∧ x ≤ 2
theorem dimV_in (x : Int) (h : -2 ≤ x ∧ x ≤ 2) : dimV x = if x = -2 then -2 else 0 := by
  have : x = -2 ∨ x = -1 ∨ x = 0 ∨ x = 1 ∨ x = 2 := by omega
  rcases this with rfl | rfl | rfl | rfl | rfl <;> decide +kernel
theorem inV_dim {co : List Int} (h : inV co) : inV (co.map dimV) := by
  intro x hx
  obtain ⟨y, hy, rfl⟩ := List.mem_map.1 hx
  rw [dimV_in y (h y hy)]
  split <;> omega
theorem take_in (N r : Int) : ∀ (l : List Vt) (la co : List Int) (p : Int), okL N p l → inV co → inV (takeV r l la co).2.2 := by
  intro l
  induction l with
  | nil => intro la co p _ h; exact h
  | cons v t ih =>
    intro la co p ho h
    obtain ⟨h1, h2, h3⟩ := ho
    simp only [takeV]
    split
    · refine ih _ _ _ h3 ?_
      intro x hx
      rcases List.mem_or_eq_of_mem_set hx with hx | rfl
      · exact h x hx
      · unfold badV at h1
        omega
    · exact h
theorem run_in (tr : List Bool) (N : Int) : ∀ (n r : Nat) (l : List Vt) (la co : List Int), okL N (r : Int) l → inV co → inV (runV tr n r l la co).2 := by
  intro n
  induction n with
  | zero => intro r l la co _ h; exact h
  | succ n ih =>
    intro r l la co ho h
    rw [runV_succ]
    refine ih (r + 1) _ _ _ (by have := take_rest N (r : Int) l la (if rdOf false tr (r : Int) = true then co else co.map dimV) ho; simpa using this) (take_in N r l la _ _ ho ?_)
    split
    · exact h
    · exact inV_dim h
theorem rev_loop (b : Bool) (a c : List Int) (ha : a.length = 8) (hin : inV a) (hc : c = if b = true then a else a.map dimV) : ∀ (d j : Nat), j + d = 8 → Ev (fun k => changeforgelaw7_VotesNewRevisionKeepsVetoes.l0 k b a c (j : Int)) true := by
  have hcl : c.length = 8 := by rw [hc]; split <;> simp [ha]
  intro d
  induction d with
  | zero =>
    intro j hj
    refine Ev.succ ?_
    simp only [changeforgelaw7_VotesNewRevisionKeepsVetoes.l0]
    exact Ev.neg (by omega) (Ev.now _)
  | succ d ih =>
    intro j hj
    have ihn := ih (j + 1) (by omega)
    refine Ev.succ ?_
    simp only [changeforgelaw7_VotesNewRevisionKeepsVetoes.l0]
    refine Ev.pos (by omega) (Ev.neg (by omega) ?_)
    rw [decide_eq_false (by omega)]
    refine Ev.succ ?_
    simp only [changeforgelaw7_VotesNewRevisionKeepsVetoes.j2]
    refine Ev.neg (by simp) ?_
    have hj8 : j < a.length := by omega
    have e3 : rd a (j : Int) = a[j] := by unfold rd; rw [Int.toNat_natCast]; simp [List.getD, hj8]
    have hx := hin a[j] (List.getElem_mem hj8)
    have yes : (b = true ∨ a[j] = -2) → Ev (fun k => changeforgelaw7_VotesNewRevisionKeepsVetoes.j3 k b a c (j : Int) 0 true) true := by
      intro hb
      refine Ev.succ ?_
      simp only [changeforgelaw7_VotesNewRevisionKeepsVetoes.j3]
      refine Ev.pos (by trivial) (Ev.pos (by omega) (Ev.pos (by omega) (Ev.pos (by omega) (Ev.pos ?_ ?_))))
      · rw [e3, hc]
        unfold rd
        rw [Int.toNat_natCast]
        by_cases hbt : b = true
        · rw [if_pos hbt]
          simp [List.getD, hj8]
        · rw [if_neg hbt]
          have hm := hb.resolve_left hbt
          rw [show (List.map dimV a).getD j 0 = dimV a[j] by simp [List.getD, hj8], dimV_in a[j] hx, if_pos hm, hm]
      · rw [wsucc (by omega)]
        exact ihn
    by_cases hbt : b = true
    · exact Ev.pos hbt (yes (.inl hbt))
    · refine Ev.neg hbt (Ev.pos (by omega) (Ev.pos (by omega) ?_))
      rw [e3]
      by_cases hm : a[j] = -2
      · have e4 : (a[j] == -2) = true := beq_iff_eq.mpr hm
        rw [e4]
        exact yes (.inr hm)
      · have e4 : (a[j] == -2) = false := beq_eq_false_iff_ne.mpr hm
        rw [e4]
        refine Ev.succ ?_
        simp only [changeforgelaw7_VotesNewRevisionKeepsVetoes.j3]
        refine Ev.neg (by simp) (Ev.pos (by omega) (Ev.pos (by omega) (Ev.pos ?_ ?_)))
        · rw [hc, if_neg hbt]
          unfold rd
          rw [Int.toNat_natCast]
          simp [List.getD, hj8, dimV_in a[j] hx, hm]
        · rw [wsucc (by omega)]
          exact ihn
theorem VotesNewRevisionKeepsVetoes : changeforgelaw7_VotesNewRevisionKeepsVetoes.Pure := by
  intro l tr b hl htr
  refine Ev.rounds ?_
  unfold changeforgelaw7_VotesNewRevisionKeepsVetoes.f
  refine Ev.bind (Current_ev l tr _) (Ev.pos (by have := htr.1; simp only [List.length_nil]; omega) (Ev.bind (Ev.now _) (Ev.pos (by have := htr.1; simp only [List.nil_append]; omega) (Ev.bind (Current_ev l _ _) (Ev.bind votesExample_ev (Ev.pos rfl ?_))))))
  rw [List.nil_append]
  have htrue : Ev (fun k => changeforgelaw7_VotesNewRevisionKeepsVetoes.j0 k b (curV l tr (wrap64 ((tr.length : Int) - 1))).1 (curV l (tr ++ [b]) (wrap64 (wrap64 ((tr.length : Int) - 1) + 1))).1 true) true := by
    refine Ev.succ ?_
    simp only [changeforgelaw7_VotesNewRevisionKeepsVetoes.j0]
    exact Ev.pos (by trivial) (Ev.now _)
  by_cases c1 : (curV l tr (wrap64 ((tr.length : Int) - 1))).2.1 = 0
  · refine Ev.pos c1 ?_
    by_cases c2 : (curV l (tr ++ [b]) (wrap64 (wrap64 ((tr.length : Int) - 1) + 1))).2.1 = 0
    · have e2 : ((curV l (tr ++ [b]) (wrap64 (wrap64 ((tr.length : Int) - 1) + 1))).2.1 != 0) = false := by rw [c2]; rfl
      rw [e2]
      refine Ev.succ ?_
      simp only [changeforgelaw7_VotesNewRevisionKeepsVetoes.j0]
      refine Ev.neg (by simp) ?_
      obtain ⟨ok1, a0, a1, q1⟩ := curV_ok c1
      obtain ⟨ok2, b0, b1, q2⟩ := curV_ok c2
      have htr1 := ok1.2.1
      have htr2 := ok1.2.2.1
      have ew : wrap64 ((tr.length : Int) - 1) = ((tr.length - 1 : Nat) : Int) := by rw [w64 (by omega) (by omega)]; omega
      rw [ew] at q1 q2 ⊢
      rw [wsucc (by omega)] at q2 ⊢
      rw [Int.toNat_natCast] at q1 q2
      rw [q1, q2]
      have e1 : tr.length - 1 + 1 = tr.length := by omega
      rw [e1]
      exact rev_loop b _ _ (run8 tr _ 0 l) (run_in tr tr.length _ 0 l z8 z8 ok1.2.2.2.2 (by intro x hx; simp [z8] at hx; omega)) (run_rev tr b tr.length 0 l z8 z8 ok1.2.2.2.2 (by omega)) 8 0 rfl
    · have e2 : ((curV l (tr ++ [b]) (wrap64 (wrap64 ((tr.length : Int) - 1) + 1))).2.1 != 0) = true := by simpa using c2
      rw [e2]
      exact htrue
  · exact Ev.neg c1 htrue
end Go.Proofs.Ytbkdaofddnkaaaa.Pure
