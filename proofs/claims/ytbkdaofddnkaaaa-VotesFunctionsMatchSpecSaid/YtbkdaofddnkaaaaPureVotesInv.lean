/- The state of the count, user by user (toward VotesFunctionsMatchSpec). -/
import Derived.Test.YtbkdaofddnkaaaaPureVotesSpec
namespace Go.Proofs.Ytbkdaofddnkaaaa.Pu
open Go.RowKit Go.Proofs.YtbkdaofddnkaaaaW.PrintWords Go.Proofs.YtbkdaofddnkaaaaW.PrintLast Go.Proofs.Ytbkdaofddnkaaaa.PVo
set_option linter.unusedVariables false
set_option linter.unusedSimpArgs false

theorem dimV_two (x : Int) (h : -2 ≤ x ∧ x ≤ 2) : dimV x = if x = -2 then -2 else 0 := by
  have : x = -2 ∨ x = -1 ∨ x = 0 ∨ x = 1 ∨ x = 2 := by omega
  rcases this with rfl | rfl | rfl | rfl | rfl <;> decide +kernel
theorem lastF_mem (u a : Int) : ∀ (l : List Vt) (x : Vt), lastF u a x l = x ∨ lastF u a x l ∈ l := by
  intro l
  induction l with
  | nil => intro x; exact .inl rfl
  | cons v t ih =>
    intro x
    simp only [lastF]
    rcases ih (if v.f0 = u ∧ v.f1 ≤ a then v else x) with h | h
    · by_cases c : v.f0 = u ∧ v.f1 ≤ a
      · rw [if_pos c] at h ⊢
        rw [h]
        exact .inr List.mem_cons_self
      · rw [if_neg c] at h ⊢
        exact .inl h
    · exact .inr (List.mem_cons_of_mem _ h)
theorem lastF_skip (u a : Int) : ∀ (m : List Vt), (∀ v ∈ m, a < v.f1) → ∀ (x : Vt), lastF u a x m = x := by
  intro m
  induction m with
  | nil => intro _ x; rfl
  | cons v t ih =>
    intro h x
    simp only [lastF]
    rw [if_neg (fun c => by have := h v List.mem_cons_self; omega)]
    exact ih (fun w hw => h w (List.mem_cons_of_mem _ hw)) x
theorem lastF_append (u a : Int) (m : List Vt) : ∀ (l : List Vt) (x : Vt), lastF u a x (l ++ m) = lastF u a (lastF u a x l) m := by
  intro l
  induction l with
  | nil => intro x; rfl
  | cons v t ih => intro x; exact ih _
/-- the value of a last vote on the eve of revision r -/
def valV (tr : List Bool) (r : Nat) (x : Vt) : Int := if x.f2 = -2 ∨ allT tr (x.f1 + 1).toNat ((r : Int) - 1 - x.f1).toNat = true then x.f2 else 0
theorem valV_step (tr : List Bool) (r : Nat) (x : Vt) (h2 : -2 ≤ x.f2 ∧ x.f2 ≤ 2) (h1 : 0 ≤ x.f1) (h3 : x.f1 < (r : Int) ∨ x.f2 = 0) : (if rdOf false tr (r : Int) = true then valV tr r x else dimV (valV tr r x)) = valV tr (r + 1) x := by
  by_cases z : x.f2 = 0
  · have e : ∀ q, valV tr q x = 0 := fun q => by unfold valV; rw [z]; split <;> rfl
    rw [e, e, dimV_two 0 (by omega)]
    split <;> rfl
  · have h3' : x.f1 < (r : Int) := h3.resolve_right z
    have ea : allT tr (x.f1 + 1).toNat (((r + 1 : Nat) : Int) - 1 - x.f1).toNat = (allT tr (x.f1 + 1).toNat ((r : Int) - 1 - x.f1).toNat && rdOf false tr (r : Int)) := by
      have en : (((r + 1 : Nat) : Int) - 1 - x.f1).toNat = ((r : Int) - 1 - x.f1).toNat + 1 := by omega
      rw [en, allT_snoc]
      congr 2
      omega
    unfold valV
    rw [ea]
    by_cases m : x.f2 = -2
    · simp only [m, true_or, if_true]
      rw [dimV_two (-2) (by omega)]
      split <;> rfl
    · by_cases t : allT tr (x.f1 + 1).toNat ((r : Int) - 1 - x.f1).toNat = true
      · by_cases q : rdOf false tr (r : Int) = true
        · simp [m, t, q]
        · have q' : rdOf false tr (r : Int) = false := by simpa using q
          simp only [m, t, q', false_or, if_true, Bool.and_false, Bool.false_eq_true, if_false]
          rw [dimV_two x.f2 h2, if_neg m]
      · have t' : allT tr (x.f1 + 1).toNat ((r : Int) - 1 - x.f1).toNat = false := by simpa using t
        simp only [m, t', false_or, Bool.false_and, Bool.false_eq_true, if_false]
        rw [dimV_two 0 (by omega)]
        split <;> rfl
def Inv (tr : List Bool) (a : Int) (r : Nat) (pre : List Vt) (la co : List Int) : Prop :=
  la.length = 8 ∧ co.length = 8 ∧ ∀ u : Nat, u < 8 → la.getD u 0 = (lastF u a ⟨u, a, 0⟩ pre).f2 ∧ co.getD u 0 = valV tr r (lastF u a ⟨u, a, 0⟩ pre)
theorem getD_set (l : List Int) (i u : Nat) (x : Int) (hi : i < l.length) : (l.set i x).getD u 0 = if i = u then x else l.getD u 0 := by
  simp only [List.getD, List.getElem?_set]
  split
  · subst_vars
    simp [hi]
  · rfl
theorem take_inv (tr : List Bool) (N a : Int) (r : Nat) (hr : (r : Int) ≤ a) : ∀ (l : List Vt) (pre : List Vt) (la co : List Int), okL N (r : Int) l → (∀ v ∈ pre, ¬ badV N v ∧ v.f1 < ((r + 1 : Nat) : Int)) → Inv tr a (r + 1) pre la co →
    ∃ pre2, pre ++ l = pre2 ++ (takeV (r : Int) l la co).1 ∧ (∀ v ∈ pre2, ¬ badV N v ∧ v.f1 < ((r + 1 : Nat) : Int)) ∧ Inv tr a (r + 1) pre2 (takeV (r : Int) l la co).2.1 (takeV (r : Int) l la co).2.2 := by
  intro l
  induction l with
  | nil => intro pre la co _ hp hi; exact ⟨pre, rfl, hp, hi⟩
  | cons v t ih =>
    intro pre la co ho hp hi
    obtain ⟨h1, h2, h3⟩ := ho
    simp only [takeV]
    by_cases c : v.f1 = (r : Int)
    · rw [if_pos c]
      obtain ⟨l1, l2, hu⟩ := hi
      have hb := h1
      unfold badV at hb
      have := ih (pre ++ [v]) (la.set v.f0.toNat v.f2) (co.set v.f0.toNat v.f2) (c ▸ h3) (by
        intro w hw
        rcases List.mem_append.1 hw with hw | hw
        · exact hp w hw
        · rw [List.mem_singleton.1 hw]
          exact ⟨h1, by omega⟩) ⟨by rw [List.length_set, l1], by rw [List.length_set, l2], by
        intro u hu8
        rw [getD_set _ _ _ _ (by omega), getD_set _ _ _ _ (by omega), lastF_snoc]
        by_cases cu : v.f0.toNat = u
        · rw [if_pos cu, if_pos cu, if_pos ⟨by omega, by omega⟩]
          refine ⟨rfl, ?_⟩
          unfold valV
          rw [show (((r + 1 : Nat) : Int) - 1 - v.f1).toNat = 0 by omega]
          simp [allT]
        · rw [if_neg cu, if_neg cu, if_neg (fun h => cu (by omega))]
          exact hu u hu8⟩
      rw [List.append_assoc] at this
      exact this
    · rw [if_neg c]
      exact ⟨pre, rfl, hp, hi⟩
theorem run_inv (tr : List Bool) (a : Int) (L : List Vt) : ∀ (n r : Nat) (l pre : List Vt) (la co : List Int), pre ++ l = L → okL tr.length (r : Int) l → (r : Int) + n = a + 1 → (∀ v ∈ pre, ¬ badV tr.length v ∧ v.f1 < (r : Int)) → Inv tr a r pre la co →
    ∃ preF m, preF ++ m = L ∧ (∀ v ∈ m, a < v.f1) ∧ Inv tr a (r + n) preF (runV tr n r l la co).1 (runV tr n r l la co).2 := by
  intro n
  induction n with
  | zero =>
    intro r l pre la co hL ho hr hp hi
    exact ⟨pre, l, hL, fun v hv => by have := (okL_mem ho v hv).1; omega, hi⟩
  | succ n ih =>
    intro r l pre la co hL ho hr hp hi
    obtain ⟨l1, l2, hu⟩ := hi
    have hi2 : Inv tr a (r + 1) pre la (if rdOf false tr (r : Int) = true then co else co.map dimV) := by
      refine ⟨l1, by split <;> simp [l2], fun u hu8 => ⟨(hu u hu8).1, ?_⟩⟩
      have hx : (-2 ≤ (lastF u a ⟨u, a, 0⟩ pre).f2 ∧ (lastF u a ⟨u, a, 0⟩ pre).f2 ≤ 2) ∧ 0 ≤ (lastF u a ⟨u, a, 0⟩ pre).f1 ∧ ((lastF u a ⟨u, a, 0⟩ pre).f1 < (r : Int) ∨ (lastF u a ⟨u, a, 0⟩ pre).f2 = 0) := by
        rcases lastF_mem u a pre ⟨u, a, 0⟩ with h | h
        · rw [h]
          dsimp only
          omega
        · obtain ⟨b1, b2⟩ := hp _ h
          unfold badV at b1
          omega
      rw [← valV_step tr r _ hx.1 hx.2.1 hx.2.2, ← (hu u hu8).2]
      split
      · rfl
      · have hul : u < co.length := by omega
        simp [List.getD, hul]
    obtain ⟨pre2, e, hp2, hi3⟩ := take_inv tr tr.length a r (by omega) l pre la _ ho (fun v hv => ⟨(hp v hv).1, by have := (hp v hv).2; omega⟩) hi2
    rw [runV_succ]
    have := ih (r + 1) _ pre2 _ _ (by rw [← e]; exact hL) (by have := take_rest tr.length (r : Int) l la (if rdOf false tr (r : Int) = true then co else co.map dimV) ho; simpa using this) (by omega) hp2 hi3
    rw [show r + 1 + n = r + (n + 1) by omega] at this
    exact this
/-- the count, user by user, as the reference tells it -/
theorem count_users {l : List Vt} {tr : List Bool} {a : Int} (ok : okV l tr) (a0 : 0 ≤ a) (a1 : a < (tr.length : Int)) (u : Nat) (hu : u < 8) :
    (runV tr (a.toNat + 1) 0 l z8 z8).1.getD u 0 = (lastF u a ⟨u, a, 0⟩ l).f2 ∧ (runV tr (a.toNat + 1) 0 l z8 z8).2.getD u 0 = if countsV (lastF u a ⟨u, a, 0⟩ l) tr a = true then (lastF u a ⟨u, a, 0⟩ l).f2 else 0 := by
  have hz : ∀ u : Nat, u < 8 → z8.getD u 0 = 0 := by decide
  obtain ⟨p, m, e, hm, _, _, hv⟩ := run_inv tr a l (a.toNat + 1) 0 l [] z8 z8 rfl ok.2.2.2.2 (by omega) (fun v hv => by cases hv) ⟨rfl, rfl, fun u hu => by
    rw [hz u hu]
    refine ⟨rfl, ?_⟩
    unfold valV
    simp [lastF]⟩
  have ex : lastF u a ⟨u, a, 0⟩ l = lastF u a ⟨u, a, 0⟩ p := by rw [← e, lastF_append, lastF_skip u a m hm]
  obtain ⟨h1, h2⟩ := hv u hu
  rw [ex]
  refine ⟨h1, ?_⟩
  rw [h2]
  unfold valV countsV
  rw [show (((0 + (a.toNat + 1) : Nat) : Int) - 1 - (lastF (↑u) a ⟨u, a, 0⟩ p).f1) = a - (lastF (↑u) a ⟨u, a, 0⟩ p).f1 by omega]
  simp only [Bool.or_eq_true, decide_eq_true_eq]
end Go.Proofs.Ytbkdaofddnkaaaa.Pu
