/- The last vote counts: the law VotesLastOneCounts returns true, for every list of votes. -/
import Derived.Test.YtbkdaofddnkaaaaOkVotesLastOneCounts
import Derived.Test.YtbkdaofddnkaaaaPureVotes
namespace Go.Proofs.Ytbkdaofddnkaaaa.Pure
open Go.RowKit Go.Proofs.YtbkdaofddnkaaaaW.PrintWords Go.Proofs.YtbkdaofddnkaaaaW.PrintLast Go.Proofs.Ytbkdaofddnkaaaa.PVo Go.Proofs.Ytbkdaofddnkaaaa.Pu
set_option linter.unusedVariables false
set_option linter.unusedSimpArgs false

theorem run_snoc (tr : List Bool) (N : Int) (v : Vt) : ∀ (n r : Nat) (l : List Vt) (la co : List Int), okL N (r : Int) l → (r : Int) + n + 1 = N → v.f1 = (r : Int) + n →
    (runV tr (n + 1) r (l ++ [v]) la co).2 = (runV tr (n + 1) r l la co).2.set v.f0.toNat v.f2 := by
  intro n
  induction n with
  | zero =>
    intro r l la co h hN hv
    have hall : ∀ x ∈ l, x.f1 = (r : Int) := fun x hx => by
      obtain ⟨h1, h2⟩ := okL_mem h x hx
      unfold badV at h2
      omega
    rw [runV_succ, runV_succ]
    rw [(take_append (r : Int) l [v] la _ hall).1]
    simp only [runV, takeV]
    rw [if_pos (by omega)]
  | succ n ih =>
    intro r l la co h hN hv
    rw [runV_succ, runV_succ tr (n + 1) r l]
    rw [take_append_ne (r : Int) [v] (fun x hx => by rw [List.mem_singleton.1 hx]; omega) l la _]
    exact ih (r + 1) _ _ _ (by have := take_rest N (r : Int) l la (if rdOf false tr (r : Int) = true then co else co.map dimV) h; simpa using this) (by omega) (by omega)
theorem last_loop (x2 x3 : Int) (a b : List Int) (ha : a.length = 8) (hb : b = a.set x2.toNat x3) (h2 : 0 ≤ x2) : ∀ (d j : Nat), j + d = 8 → Ev (fun k => changeforgelaw7_VotesLastOneCounts.l0 k x2 x3 a b (j : Int)) true := by
  have hbl : b.length = 8 := by rw [hb, List.length_set, ha]
  intro d
  induction d with
  | zero =>
    intro j hj
    refine Ev.succ ?_
    simp only [changeforgelaw7_VotesLastOneCounts.l0]
    exact Ev.neg (by omega) (Ev.now _)
  | succ d ih =>
    intro j hj
    refine Ev.succ ?_
    simp only [changeforgelaw7_VotesLastOneCounts.l0]
    refine Ev.pos (by omega) (Ev.neg (by omega) (Ev.neg (by omega) ?_))
    rw [wsucc (by omega)]
    by_cases c : (j : Int) = x2
    · refine Ev.pos c (Ev.pos (by omega) (Ev.pos (by omega) (Ev.pos ?_ (ih (j + 1) (by omega)))))
      rw [hb, ← c]
      unfold rd
      rw [Int.toNat_natCast]
      simp [List.getD, show j < a.length by omega]
    · refine Ev.neg c (Ev.pos (by omega) (Ev.pos (by omega) (Ev.pos (by omega) (Ev.pos ?_ (ih (j + 1) (by omega))))))
      rw [hb]
      unfold rd
      rw [Int.toNat_natCast]
      simp [List.getD, List.getElem?_set, show ¬ x2.toNat = j by omega]
theorem VotesLastOneCounts : changeforgelaw7_VotesLastOneCounts.Pure := by
  intro l tr x2 x3 hl htr h2 h3
  refine Ev.rounds ?_
  unfold changeforgelaw7_VotesLastOneCounts.f
  refine Ev.bind (Current_ev l tr _) (Ev.pos (by have := hl.1; simp only [List.length_nil]; omega) (Ev.bind (Ev.now _) (Ev.pos (by have := hl.1; simp only [List.nil_append]; omega) (Ev.bind (Current_ev _ tr _) (Ev.bind votesExample_ev (Ev.pos rfl ?_))))))
  have htrue : Ev (fun k => changeforgelaw7_VotesLastOneCounts.j0 k x2 x3 (curV l tr (wrap64 ((tr.length : Int) - 1))).1 (curV (([] ++ l) ++ [(⟨x2, wrap64 ((tr.length : Int) - 1), x3⟩ : Vt)]) tr (wrap64 ((tr.length : Int) - 1))).1 true) true := by
    refine Ev.succ ?_
    simp only [changeforgelaw7_VotesLastOneCounts.j0]
    exact Ev.pos (by trivial) (Ev.now _)
  by_cases c1 : (curV l tr (wrap64 ((tr.length : Int) - 1))).2.1 = 0
  · refine Ev.pos c1 ?_
    by_cases c2 : (curV (([] ++ l) ++ [(⟨x2, wrap64 ((tr.length : Int) - 1), x3⟩ : Vt)]) tr (wrap64 ((tr.length : Int) - 1))).2.1 = 0
    · have e2 : ((curV (([] ++ l) ++ [(⟨x2, wrap64 ((tr.length : Int) - 1), x3⟩ : Vt)]) tr (wrap64 ((tr.length : Int) - 1))).2.1 != 0) = false := by rw [c2]; rfl
      rw [e2]
      refine Ev.succ ?_
      simp only [changeforgelaw7_VotesLastOneCounts.j0]
      refine Ev.neg (by simp) ?_
      obtain ⟨ok1, a0, a1, q1⟩ := curV_ok c1
      obtain ⟨ok2, b0, b1, q2⟩ := curV_ok c2
      have htr1 := ok1.2.1
      have htr2 := ok1.2.2.1
      have ew : wrap64 ((tr.length : Int) - 1) = ((tr.length - 1 : Nat) : Int) := by rw [w64 (by omega) (by omega)]; omega
      rw [ew] at q1 q2 ok2 ⊢
      rw [Int.toNat_natCast] at q1 q2
      rw [q1, q2]
      have hv := (okL_mem ok2.2.2.2.2 ⟨x2, ((tr.length - 1 : Nat) : Int), x3⟩ (by simp)).2
      unfold badV at hv
      dsimp only at hv
      refine last_loop x2 x3 _ _ (run8 tr _ 0 l) ?_ (by omega) 8 0 rfl
      have hs := run_snoc tr tr.length ⟨x2, ((tr.length - 1 : Nat) : Int), x3⟩ (tr.length - 1) 0 l z8 z8 ok1.2.2.2.2 (by omega) (by simp)
      rw [List.nil_append]
      exact hs
    · have e2 : ((curV (([] ++ l) ++ [(⟨x2, wrap64 ((tr.length : Int) - 1), x3⟩ : Vt)]) tr (wrap64 ((tr.length : Int) - 1))).2.1 != 0) = true := by simpa using c2
      rw [e2]
      exact htrue
  · exact Ev.neg c1 htrue
end Go.Proofs.Ytbkdaofddnkaaaa.Pure
