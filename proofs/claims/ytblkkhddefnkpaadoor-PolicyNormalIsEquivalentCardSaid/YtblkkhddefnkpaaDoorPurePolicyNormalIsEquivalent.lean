/- The normal form of a policy has the same value for all facts, its negations stand directly above leaves, and it is its own normal form: the law PolicyNormalIsEquivalent returns true, for every policy and facts (within the form's own reach). -/
import Derived.Test.YtblkkhddefnkpaaDoorOkPolicyNormalIsEquivalent
import Derived.Test.YtblkkhddefnkpaaDoorPurePolN
set_option linter.unusedVariables false
namespace Go.Proofs.YtblkkhddefnkpaaDoor.Pure
open Go.RowKit Go.Proofs.YtblkkhddefnkpaaDoorW.PrintWords Go.Proofs.YtblkkhddefnkpaaDoorW.PrintLast Go.Proofs.YtblkkhddefnkpaaDoorW.PrintMore Go.Proofs.YtblkkhddefnkpaaDoor.PPo

/-- The fixed example of the document. -/
theorem policyExample_ev : Ev (fun k => changeforgelaw7_policyExample.f k) true :=
  Ev.of changeforgelaw7_policyExample.mono (k := 64) (by decide +kernel)
def negOk (ns : List S47) (i : Int) : Prop := (rd_T47 ns i).f0 = 5 → 0 ≤ (rd_T47 ns i).f2 ∧ (rd_T47 ns i).f2 < i ∧ (rd_T47 ns (rd_T47 ns i).f2).f0 < 5
theorem nn_negs : ∀ (t : T), t.ok → t.nn → ∀ (pre post : List S47) (i : Int), (pre.length : Int) ≤ i → i < (pre.length : Int) + t.size → negOk (pre ++ lay pre.length t ++ post) i := by
  intro t
  induction t with
  | leaf k n =>
    intro h _ pre post i h0 h1
    have hr := rd_at pre [] post (.leaf k n) i (by simp only [T.size] at *; omega)
    have hk := h.2.1
    unfold negOk
    rw [hr]
    dsimp only [T.root]
    intro e
    omega
  | neg t ih =>
    intro h hn pre post i h0 h1
    cases t with
    | neg t => exact hn.elim
    | bin k l r => exact hn.elim
    | leaf k n =>
      have hk : k < 5 := by have := h.2.1; omega
      simp only [T.size] at h1
      have ra := rd_at pre [] ([⟨5, 0, (pre.length : Int) + (T.leaf k n).size - 1, 0⟩] ++ post) (.leaf k n) (pre.length : Int) (by simp only [T.size]; omega)
      have e : pre ++ lay pre.length (.leaf k n) ++ ([(⟨5, 0, (pre.length : Int) + (T.leaf k n).size - 1, 0⟩ : S47)] ++ post) = pre ++ lay pre.length (T.neg (.leaf k n)) ++ post := by simp only [lay, List.append_assoc]
      rw [e] at ra
      unfold negOk
      rcases (show i = (pre.length : Int) ∨ i = (pre.length : Int) + 1 by omega) with rfl | rfl
      · rw [ra]
        dsimp only [T.root]
        intro e; omega
      · have rb := rd_at pre [] post (.neg (.leaf k n)) ((pre.length : Int) + 1) (by simp only [T.size]; omega)
        rw [rb]
        dsimp only [T.root]
        intro _
        have e2 : (pre.length : Int) + (T.leaf k n).size - 1 = (pre.length : Int) := by simp only [T.size]; omega
        rw [e2, ra]
        dsimp only [T.root]
        exact ⟨by omega, by omega, hk⟩
  | bin k a b iha ihb =>
    intro h hn pre post i h0 h1
    have hk := h.1
    have e1 : pre ++ lay pre.length a ++ (lay (pre.length + a.size) b ++ [(⟨k, 0, (pre.length : Int) + a.size - 1, (pre.length : Int) + a.size + b.size - 1⟩ : S47)] ++ post) = pre ++ lay pre.length (T.bin k a b) ++ post := by simp only [lay, List.append_assoc]
    have e2 : pre ++ lay pre.length a ++ lay (pre ++ lay pre.length a).length b ++ ([(⟨k, 0, (pre.length : Int) + a.size - 1, (pre.length : Int) + a.size + b.size - 1⟩ : S47)] ++ post) = pre ++ lay pre.length (T.bin k a b) ++ post := by
      rw [List.length_append, lay_length]
      simp only [lay, List.append_assoc]
    simp only [T.size] at h1
    by_cases ca : i < (pre.length : Int) + a.size
    · have := iha h.2.1 hn.1 pre (lay (pre.length + a.size) b ++ [(⟨k, 0, (pre.length : Int) + a.size - 1, (pre.length : Int) + a.size + b.size - 1⟩ : S47)] ++ post) i h0 ca
      rwa [e1] at this
    by_cases cb : i < (pre.length : Int) + a.size + b.size
    · have := ihb h.2.2 hn.2 (pre ++ lay pre.length a) ([(⟨k, 0, (pre.length : Int) + a.size - 1, (pre.length : Int) + a.size + b.size - 1⟩ : S47)] ++ post) i (by rw [List.length_append, lay_length]; omega) (by rw [List.length_append, lay_length]; omega)
      rwa [e2] at this
    · have hr := rd_at pre [] post (.bin k a b) i (by simp only [T.size]; omega)
      unfold negOk
      rw [hr]
      dsimp only [T.root]
      intro e; omega
theorem l0_ev (xs : List S47) (hx : xs.length ≤ 1000) (x y : Bool) (a0 a1 b0 b1 c1 : Int) (h : ∀ i : Int, 0 ≤ i → i < (xs.length : Int) → negOk xs i) (hf : a0 = 0 → b0 = 0 ∧ (x == y) = true) :
    ∀ (m : Nat) (i : Int), 0 ≤ i → i + m = (xs.length : Int) → Ev (fun k => changeforgelaw7_PolicyNormalIsEquivalent.l0 k x y i xs a0 a1 b0 b1 xs 0 c1) true := by
  intro m
  induction m with
  | zero =>
    intro i h0 h1
    refine Ev.succ ?_
    unfold changeforgelaw7_PolicyNormalIsEquivalent.l0
    refine Ev.neg (by omega) (Ev.pos rfl (Ev.bind (eqP_self xs (by omega)) (Ev.pos rfl ?_)))
    by_cases c : a0 = 0
    · refine Ev.pos c (Ev.pos (hf c).1 ?_)
      rw [(hf c).2]
      exact Ev.now _
    · exact Ev.neg c (Ev.now _)
  | succ m ih =>
    intro i h0 h1
    have hi := h i h0 (by omega)
    have hn := ih (i + 1) (by omega) (by omega)
    refine Ev.succ ?_
    unfold changeforgelaw7_PolicyNormalIsEquivalent.l0
    rw [w64 (by omega) (by omega)]
    refine Ev.pos (by omega) (Ev.pos h0 ?_)
    by_cases c : (rd_T47 xs i).f0 = 5
    · obtain ⟨g0, g1, g2⟩ := hi c
      exact Ev.pos c (Ev.neg (by omega) (Ev.neg (by omega) (Ev.pos g0 (Ev.pos (by omega) (Ev.neg (by omega) hn)))))
    · exact Ev.neg c hn
theorem polV_nil : polV [] ≠ (0, 0) := by decide
theorem PolicyNormalIsEquivalent : changeforgelaw7_PolicyNormalIsEquivalent.Pure := by
  intro x0 x1 o0 o1
  refine Ev.rounds ?_
  unfold changeforgelaw7_PolicyNormalIsEquivalent.f
  by_cases hv : polV x0.f0 = (0, 0)
  · obtain ⟨t, ht, e, hs, _⟩ := polV_tree hv
    rw [e] at hv ⊢
    refine Ev.bind (Normal_ev t ht hv) ?_
    unfold polN
    by_cases hu : polV (lay 0 (nnf t false)) = (0, 0)
    · rw [if_pos hu]
      dsimp only
      have hok := nnf_ok t false ht
      have hnn := nnf_nn t false
      have hself : polN (nnf t false) = (lay 0 (nnf t false), 0, 0) := by
        unfold polN
        rw [nnf_self _ hnn, if_pos hu]
      have hN := Normal_ev _ hok hu
      rw [hself] at hN
      refine Ev.bind (Eval_ev _ _ _ _ _) (Ev.bind (Eval_ev _ _ _ _ _) (Ev.bind hN (Ev.bind policyExample_ev (Ev.pos rfl (Ev.pos rfl ?_)))))
      have hl := (polV_ok hu).2.1
      refine l0_ev _ (by omega) _ _ _ _ _ _ _ ?_ ?_ (lay 0 (nnf t false)).length 0 (by omega) (by omega)
      · intro i h0 h1
        have := nn_negs _ hok hnn [] [] i (by simpa using h0) (by rw [lay_length] at h1; simpa using h1)
        simpa using this
      · unfold polE
        rw [if_pos hv, if_pos hu]
        by_cases hb : badF x1.f0 x1.f3
        · rw [if_pos hb, if_pos hb]
          intro c; exact absurd c (by decide)
        · rw [if_neg hb, if_neg hb]
          intro _
          refine ⟨rfl, ?_⟩
          dsimp only
          rw [polVal_lay _ _ _ _ _ ht, polVal_lay _ _ _ _ _ hok, nnf_ev _ _ _ _ _ ht, Bool.xor_false, beq_self_eq_true]
    · rw [if_neg hu]
      exact Ev.bind (Eval_ev _ _ _ _ _) (Ev.bind (Eval_ev _ _ _ _ _) (Ev.bind (Normal_bad _ polV_nil) (Ev.bind policyExample_ev (Ev.pos rfl (Ev.neg (by decide) (Ev.now _))))))
  · exact Ev.bind (Normal_bad _ hv) (Ev.bind (Eval_ev _ _ _ _ _) (Ev.bind (Eval_ev _ _ _ _ _) (Ev.bind (Normal_bad _ polV_nil) (Ev.bind policyExample_ev (Ev.pos rfl (Ev.neg (fun e => hv (polV_zero e)) (Ev.now _)))))))
end Go.Proofs.YtblkkhddefnkpaaDoor.Pure
