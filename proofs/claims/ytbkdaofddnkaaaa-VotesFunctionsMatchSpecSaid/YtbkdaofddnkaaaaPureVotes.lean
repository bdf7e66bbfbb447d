/- What the functions of votes compute, in plain words: by the template tmpl/PureVotes.lean of this repo. -/
import Derived.Test.YtbkdaofddnkaaaaEv
import Derived.Test.YtbkdaofddnkaaaaVg
import Derived.Test.YtbkdaofddnkaaaaPVox4
import Derived.Test.YtbkdaofddnkaaaaPVox9
import Derived.Test.YtbkdaofddnkaaaaPVox10
namespace Go.Proofs.Ytbkdaofddnkaaaa.Pu
open Go.RowKit Go.Proofs.YtbkdaofddnkaaaaW.PrintWords Go.Proofs.YtbkdaofddnkaaaaW.PrintLast Go.Proofs.Ytbkdaofddnkaaaa.PVo
set_option linter.unusedVariables false
set_option linter.unusedSimpArgs false

abbrev Vt := S35
def badV (n : Int) (v : Vt) : Prop := v.f0 < 0 ∨ v.f0 > 7 ∨ v.f1 < 0 ∨ v.f1 ≥ n ∨ v.f2 < -2 ∨ v.f2 > 2
instance (n : Int) (v : Vt) : Decidable (badV n v) := by unfold badV; infer_instance
def fromV (n : Int) : List Vt → Nat → Int → Int × Int
  | [], _, _ => (0, 0)
  | v :: r, i, p => if badV n v then (3, (i : Int)) else if 0 < i ∧ v.f1 < p then (5, (i : Int)) else fromV n r (i + 1) v.f1
def validV (l : List Vt) (tr : List Bool) : Int × Int := if (l.length : Int) > 40 then (2, -1) else if (tr.length : Int) < 1 ∨ (tr.length : Int) > 12 then (9, -2) else if rdOf false tr 0 = true then (5, -2) else fromV tr.length l 0 0
theorem rdT {l t : List Vt} {j : Nat} {v : Vt} (h : l.drop j = v :: t) : rd_T35 l (j : Int) = v := by
  unfold rd_T35
  rw [Int.toNat_natCast]
  exact (drop_cons h).2.1 _
theorem val_loop (l : List Vt) (tr : List Bool) (hl : l.length ≤ 40) : ∀ (t : List Vt) (j : Nat) (p : Int), l.drop j = t → (0 < j → p = (rd_T35 l ((j - 1 : Nat) : Int)).f1) →
    Ev (fun k => votes_Validate.l0 k l tr l (l.length : Int) (j : Int)) (fromV tr.length t j p) := by
  intro t
  induction t with
  | nil =>
    intro j p h hp
    have := drop_nil h
    refine Ev.succ ?_
    simp only [votes_Validate.l0]
    exact Ev.neg (by omega) (Ev.now _)
  | cons v r ih =>
    intro j p h hp
    obtain ⟨hj, hg, ht⟩ := drop_cons h
    have e := rdT h
    have hj2 : ∀ b : Bool, (b = true ↔ badV tr.length v) → Ev (fun k => votes_Validate.j2 k l tr (j : Int) l (l.length : Int) (j : Int) b v.f0 v.f1 v.f2) (fromV tr.length (v :: r) j p) := by
      intro b hb
      have ihn := ih (j + 1) v.f1 ht (fun _ => by rw [Nat.add_sub_cancel, e])
      refine Ev.succ ?_
      simp only [votes_Validate.j2]
      by_cases hb1 : b = true
      · simp only [fromV, if_pos (hb.1 hb1)]
        exact Ev.pos hb1 (Ev.now _)
      · have nb : ¬ badV tr.length v := fun h => hb1 (hb.2 h)
        simp only [fromV, if_neg nb]
        refine Ev.neg hb1 ?_
        by_cases hj0 : 0 < j
        · have ew : wrap64 ((j : Int) - 1) = ((j - 1 : Nat) : Int) := by rw [w64 (by omega) (by omega)]; omega
          rw [ew]
          refine Ev.pos (by omega) (Ev.pos (by omega) (Ev.pos (by omega) ?_))
          by_cases c : v.f1 < p
          · rw [if_pos ⟨hj0, c⟩]
            exact Ev.pos (by rw [← hp hj0]; exact c) (Ev.now _)
          · rw [if_neg (fun h => c h.2)]
            refine Ev.neg (by rw [← hp hj0]; exact c) ?_
            rw [wsucc (by omega)]
            exact ihn
        · rw [if_neg (fun h => hj0 h.1)]
          refine Ev.neg (by omega) ?_
          rw [wsucc (by omega)]
          exact ihn
    refine Ev.succ ?_
    simp only [votes_Validate.l0]
    refine Ev.pos (by omega) (Ev.pos (by omega) (Ev.pos (by omega) ?_))
    simp only [e]
    refine Ev.ite (fun c => hj2 true ⟨fun _ => .inl c, fun _ => rfl⟩) (fun c0 => ?_)
    refine Ev.ite (fun c => hj2 true ⟨fun _ => .inr (.inl c), fun _ => rfl⟩) (fun c1 => ?_)
    refine Ev.ite (fun c => hj2 true ⟨fun _ => .inr (.inr (.inl c)), fun _ => rfl⟩) (fun c2 => ?_)
    refine Ev.ite (fun c => hj2 true ⟨fun _ => .inr (.inr (.inr (.inl c))), fun _ => rfl⟩) (fun c3 => ?_)
    refine Ev.ite (fun c => hj2 true ⟨fun _ => .inr (.inr (.inr (.inr (.inl c)))), fun _ => rfl⟩) (fun c4 => ?_)
    exact hj2 _ ⟨fun c => .inr (.inr (.inr (.inr (.inr (of_decide_eq_true c))))), fun hb => decide_eq_true (by unfold badV at hb; omega)⟩
theorem Validate_ev (l : List Vt) (tr : List Bool) : Ev (fun k => votes_Validate.f k l tr) (validV l tr) := by
  unfold votes_Validate.f validV
  by_cases h0 : (l.length : Int) > 40
  · rw [if_pos h0]
    exact Ev.pos h0 (Ev.now _)
  · rw [if_neg h0]
    refine Ev.neg h0 ?_
    by_cases h1 : (tr.length : Int) < 1
    · rw [if_pos (.inl h1)]
      refine Ev.pos h1 (Ev.succ ?_)
      simp only [votes_Validate.j0]
      exact Ev.pos (by trivial) (Ev.now _)
    · refine Ev.neg h1 (Ev.succ ?_)
      simp only [votes_Validate.j0]
      by_cases h2 : (tr.length : Int) > 12
      · rw [if_pos (.inr h2)]
        exact Ev.pos (decide_eq_true h2) (Ev.now _)
      · rw [if_neg (fun h => h.elim h1 h2)]
        refine Ev.neg (by simp only [decide_eq_true_eq]; exact h2) (Ev.pos (by omega) ?_)
        by_cases h3 : rdOf false tr 0 = true
        · rw [if_pos h3]
          exact Ev.pos h3 (Ev.now _)
        · rw [if_neg h3]
          exact Ev.neg h3 (val_loop l tr (by omega) l 0 0 rfl (fun h => absurd h (by omega)))
def takeV (r : Int) : List Vt → List Int → List Int → List Vt × List Int × List Int
  | [], la, co => ([], la, co)
  | v :: t, la, co => if v.f1 = r then takeV r t (la.set v.f0.toNat v.f2) (co.set v.f0.toNat v.f2) else (v :: t, la, co)
def runV (tr : List Bool) : Nat → Nat → List Vt → List Int → List Int → List Int × List Int
  | 0, _, _, la, co => (la, co)
  | n + 1, r, l, la, co => runV tr n (r + 1) (takeV r l la (if rdOf false tr (r : Int) = true then co else co.map dimV)).1 (takeV r l la (if rdOf false tr (r : Int) = true then co else co.map dimV)).2.1 (takeV r l la (if rdOf false tr (r : Int) = true then co else co.map dimV)).2.2
theorem runV_succ (tr : List Bool) (n r : Nat) (l : List Vt) (la co : List Int) : runV tr (n + 1) r l la co = runV tr n (r + 1) (takeV r l la (if rdOf false tr (r : Int) = true then co else co.map dimV)).1 (takeV r l la (if rdOf false tr (r : Int) = true then co else co.map dimV)).2.1 (takeV r l la (if rdOf false tr (r : Int) = true then co else co.map dimV)).2.2 := rfl
theorem take_ev (l : List Vt) (tr : List Bool) (a : Int) (r : Int) (hl : l.length ≤ 40) (hu : ∀ v ∈ l, 0 ≤ v.f0 ∧ v.f0 < 8) (res : List Int × List Int × Int × Int) : ∀ (t : List Vt) (j : Nat) (la co : List Int), l.drop j = t → j ≤ l.length →
    (∀ j' : Nat, l.drop j' = (takeV r t la co).1 → j' ≤ l.length → Ev (fun k => votes_count.l0 k l tr a (wrap64 (r + 1)) (j' : Int) (takeV r t la co).2.1 (takeV r t la co).2.2) res) →
    Ev (fun k => votes_count.l2 k l tr a r (j : Int) la co) res := by
  intro t
  induction t with
  | nil =>
    intro j la co h hj H
    have := drop_nil h
    refine Ev.succ ?_
    simp only [votes_count.l2]
    exact Ev.neg (by omega) (H j h hj)
  | cons v t ih =>
    intro j la co h hj H
    obtain ⟨hjl, hg, ht⟩ := drop_cons h
    have e := rdT h
    refine Ev.succ ?_
    simp only [votes_count.l2]
    refine Ev.pos (by omega) (Ev.pos (by omega) ?_)
    simp only [e]
    by_cases c : v.f1 = r
    · simp only [takeV, if_pos c] at H
      refine Ev.pos c (Ev.pos (hu v (mem_drop h)) ?_)
      rw [wsucc (by omega)]
      exact ih (j + 1) _ _ ht (by omega) H
    · simp only [takeV, if_neg c] at H
      exact Ev.neg c (H j h hj)
theorem run_ev (l : List Vt) (tr : List Bool) (a : Int) (hl : l.length ≤ 40) (htr : tr.length ≤ 12) (ha : a < (tr.length : Int)) (hu : ∀ v ∈ l, 0 ≤ v.f0 ∧ v.f0 < 8) : ∀ (n r : Nat) (t : List Vt) (j : Nat) (la co : List Int), l.drop j = t → j ≤ l.length → ((r : Int) + n = a + 1) →
    Ev (fun k => votes_count.l0 k l tr a (r : Int) (j : Int) la co) ((runV tr n r t la co).1, (runV tr n r t la co).2, 0, 0) := by
  intro n
  induction n with
  | zero =>
    intro r t j la co h hj hr
    refine Ev.succ ?_
    simp only [votes_count.l0]
    exact Ev.neg (by omega) (Ev.now _)
  | succ n ih =>
    intro r t j la co h hj hr
    refine Ev.succ ?_
    simp only [votes_count.l0]
    refine Ev.pos (by omega) (Ev.pos (by omega) (Ev.pos (by omega) ?_))
    by_cases c : rdOf false tr (r : Int) = true
    · simp only [runV, if_pos c]
      refine take_ev l tr a r hl hu _ t j la co h hj (fun j' h' hj' => ?_)
      rw [wsucc (by omega)]
      exact ih (r + 1) _ j' _ _ h' hj' (by omega)
    · simp only [runV, if_neg c]
      refine take_ev l tr a r hl hu _ t j la _ h hj (fun j' h' hj' => ?_)
      rw [wsucc (by omega)]
      exact ih (r + 1) _ j' _ _ h' hj' (by omega)
/-- votes that keep to the rules: each in its bounds, their revisions in order from p on -/
def okL (n : Int) : Int → List Vt → Prop
  | _, [] => True
  | p, v :: r => ¬ badV n v ∧ p ≤ v.f1 ∧ okL n v.f1 r
theorem fromV_ok (n : Int) : ∀ (l : List Vt) (i : Nat) (p : Int), (i = 0 → p = 0) → (fromV n l i p).1 = 0 → okL n p l ∧ fromV n l i p = (0, 0) := by
  intro l
  induction l with
  | nil => intro i p hi h; exact ⟨trivial, rfl⟩
  | cons v r ih =>
    intro i p hi h
    simp only [fromV] at h ⊢
    by_cases b : badV n v
    · rw [if_pos b] at h
      exact absurd h (by simp)
    · rw [if_neg b] at h ⊢
      by_cases c : 0 < i ∧ v.f1 < p
      · rw [if_pos c] at h
        exact absurd h (by simp)
      · rw [if_neg c] at h ⊢
        obtain ⟨h1, h2⟩ := ih (i + 1) v.f1 (fun h => absurd h (by omega)) h
        refine ⟨⟨b, ?_, h1⟩, h2⟩
        unfold badV at b
        by_cases hi0 : i = 0
        · rw [hi hi0]; omega
        · omega
theorem ok_fromV (n : Int) : ∀ (l : List Vt) (i : Nat) (p : Int), okL n p l → fromV n l i p = (0, 0) := by
  intro l
  induction l with
  | nil => intro i p h; rfl
  | cons v r ih =>
    intro i p h
    obtain ⟨h1, h2, h3⟩ := h
    simp only [fromV]
    rw [if_neg h1, if_neg (by omega)]
    exact ih _ _ h3
def okV (l : List Vt) (tr : List Bool) : Prop := l.length ≤ 40 ∧ 1 ≤ tr.length ∧ tr.length ≤ 12 ∧ rdOf false tr 0 = false ∧ okL tr.length 0 l
theorem validV_ok {l : List Vt} {tr : List Bool} (h : (validV l tr).1 = 0) : okV l tr ∧ validV l tr = (0, 0) := by
  unfold validV at h ⊢
  by_cases h0 : (l.length : Int) > 40
  · rw [if_pos h0] at h
    exact absurd h (by decide)
  · rw [if_neg h0] at h ⊢
    by_cases h1 : (tr.length : Int) < 1 ∨ (tr.length : Int) > 12
    · rw [if_pos h1] at h
      exact absurd h (by decide)
    · rw [if_neg h1] at h ⊢
      by_cases h3 : rdOf false tr 0 = true
      · rw [if_pos h3] at h
        exact absurd h (by decide)
      · rw [if_neg h3] at h ⊢
        obtain ⟨a, b⟩ := fromV_ok _ l 0 0 (fun _ => rfl) h
        exact ⟨⟨by omega, by omega, by omega, by simpa using h3, a⟩, b⟩
theorem ok_validV {l : List Vt} {tr : List Bool} (h : okV l tr) : validV l tr = (0, 0) := by
  obtain ⟨h0, h1, h2, h3, h4⟩ := h
  unfold validV
  rw [if_neg (by omega), if_neg (by omega), if_neg (by simp [h3])]
  exact ok_fromV _ l 0 0 h4
theorem okL_mem {n : Int} : ∀ {l : List Vt} {p : Int}, okL n p l → ∀ v ∈ l, p ≤ v.f1 ∧ ¬ badV n v := by
  intro l
  induction l with
  | nil => intro p _ v hv; cases hv
  | cons a r ih =>
    intro p h v hv
    obtain ⟨h1, h2, h3⟩ := h
    rcases List.mem_cons.1 hv with rfl | hv
    · exact ⟨h2, h1⟩
    · obtain ⟨a1, a2⟩ := ih h3 v hv
      exact ⟨by omega, a2⟩
def countV (l : List Vt) (tr : List Bool) (a : Int) : List Int × List Int × Int × Int :=
  if (validV l tr).1 = 0 then (if a < 0 ∨ a ≥ (tr.length : Int) then (z8, z8, 3, -3) else ((runV tr (a.toNat + 1) 0 l z8 z8).1, (runV tr (a.toNat + 1) 0 l z8 z8).2, 0, 0)) else (z8, z8, (validV l tr).1, (validV l tr).2)
theorem count_ev (l : List Vt) (tr : List Bool) (a : Int) : Ev (fun k => votes_count.f k l tr a) (countV l tr a) := by
  unfold votes_count.f
  refine Ev.bind (Validate_ev l tr) ?_
  unfold countV
  by_cases h : (validV l tr).1 = 0
  · obtain ⟨ok, e⟩ := validV_ok h
    rw [if_pos h]
    obtain ⟨h0, h1, h2, h3, h4⟩ := ok
    refine Ev.pos (by rw [e]; rfl) ?_
    by_cases a0 : a < 0
    · rw [if_pos (.inl a0)]
      exact Ev.pos a0 (Ev.now _)
    · refine Ev.neg a0 ?_
      by_cases a1 : a ≥ (tr.length : Int)
      · rw [if_pos (.inr a1)]
        exact Ev.pos a1 (Ev.now _)
      · rw [if_neg (fun h => h.elim a0 a1)]
        refine Ev.neg a1 ?_
        exact run_ev l tr a h0 h2 (by omega) (fun v hv => by have := (okL_mem h4 v hv).2; unfold badV at this; omega) (a.toNat + 1) 0 l 0 z8 z8 rfl (by omega) (by omega)
  · rw [if_neg h]
    refine Ev.neg (by simp [h]) (Ev.now _)
/-- the answer of Current -/
def curV (l : List Vt) (tr : List Bool) (a : Int) : List Int × Int × Int :=
  if ((countV l tr a).2.2.1 == 0 && ((countV l tr a).2.2.2 == 0)) = true then ((countV l tr a).2.1, (countV l tr a).2.2.1, (countV l tr a).2.2.2) else ([], (countV l tr a).2.2.1, (countV l tr a).2.2.2)
theorem Current_ev (l : List Vt) (tr : List Bool) (a : Int) : Ev (fun k => votes_Current.f k l tr a) (curV l tr a) := by
  unfold votes_Current.f
  refine Ev.bind (count_ev l tr a) ?_
  unfold curV
  split
  · exact Ev.now _
  · exact Ev.now _
def lapV (l : List Vt) (tr : List Bool) (a : Int) : List Int × Int × Int := (lapF (countV l tr a).1 (countV l tr a).2.1 8 0 [], (countV l tr a).2.2.1, (countV l tr a).2.2.2)
theorem Lapsed_ev (l : List Vt) (tr : List Bool) (a : Int) : Ev (fun k => votes_Lapsed.f k l tr a) (lapV l tr a) := by
  unfold votes_Lapsed.f
  exact Ev.bind (count_ev l tr a) (Ev.now _)
theorem countV_ok {l : List Vt} {tr : List Bool} {a : Int} (h : (countV l tr a).2.2.1 = 0) : okV l tr ∧ 0 ≤ a ∧ a < (tr.length : Int) ∧ countV l tr a = ((runV tr (a.toNat + 1) 0 l z8 z8).1, (runV tr (a.toNat + 1) 0 l z8 z8).2, 0, 0) := by
  unfold countV at h ⊢
  by_cases h0 : (validV l tr).1 = 0
  · rw [if_pos h0] at h ⊢
    by_cases h1 : a < 0 ∨ a ≥ (tr.length : Int)
    · rw [if_pos h1] at h
      exact absurd h (by decide)
    · rw [if_neg h1]
      exact ⟨(validV_ok h0).1, by omega, by omega, rfl⟩
  · rw [if_neg h0] at h
    exact absurd h h0
theorem ok_countV {l : List Vt} {tr : List Bool} {a : Int} (h : okV l tr) (h0 : 0 ≤ a) (h1 : a < (tr.length : Int)) : countV l tr a = ((runV tr (a.toNat + 1) 0 l z8 z8).1, (runV tr (a.toNat + 1) 0 l z8 z8).2, 0, 0) := by
  unfold countV
  rw [ok_validV h]
  rw [if_pos rfl, if_neg (by omega)]
theorem curV_ok {l : List Vt} {tr : List Bool} {a : Int} (h : (curV l tr a).2.1 = 0) : okV l tr ∧ 0 ≤ a ∧ a < (tr.length : Int) ∧ (curV l tr a) = ((runV tr (a.toNat + 1) 0 l z8 z8).2, 0, 0) := by
  have e : (curV l tr a).2.1 = (countV l tr a).2.2.1 := by unfold curV; split <;> rfl
  obtain ⟨h1, h2, h3, h4⟩ := countV_ok (e ▸ h)
  refine ⟨h1, h2, h3, ?_⟩
  unfold curV
  rw [h4]
  rfl
theorem ok_curV {l : List Vt} {tr : List Bool} {a : Int} (h : okV l tr) (h0 : 0 ≤ a) (h1 : a < (tr.length : Int)) : curV l tr a = ((runV tr (a.toNat + 1) 0 l z8 z8).2, 0, 0) := by
  unfold curV
  rw [ok_countV h h0 h1]
  rfl
theorem take_append (r : Int) : ∀ (l m : List Vt) (la co : List Int), (∀ x ∈ l, x.f1 = r) → takeV r (l ++ m) la co = takeV r m (takeV r l la co).2.1 (takeV r l la co).2.2 ∧ (takeV r l la co).1 = [] := by
  intro l
  induction l with
  | nil => intro m la co _; exact ⟨rfl, rfl⟩
  | cons v t ih =>
    intro m la co h
    have c := h v List.mem_cons_self
    simp only [List.cons_append, takeV, if_pos c]
    exact ih m _ _ (fun x hx => h x (List.mem_cons_of_mem _ hx))
theorem take_append_ne (r : Int) (m : List Vt) (hm : ∀ x ∈ m, x.f1 ≠ r) : ∀ (l : List Vt) (la co : List Int), takeV r (l ++ m) la co = ((takeV r l la co).1 ++ m, (takeV r l la co).2) := by
  intro l
  induction l with
  | nil =>
    intro la co
    cases m with
    | nil => rfl
    | cons v t =>
      simp only [List.nil_append, takeV]
      rw [if_neg (hm v List.mem_cons_self)]
  | cons v t ih =>
    intro la co
    simp only [List.cons_append, takeV]
    by_cases c : v.f1 = r
    · rw [if_pos c, if_pos c]
      exact ih _ _
    · rw [if_neg c, if_neg c]
      rfl
theorem take_rest (n : Int) (r : Int) : ∀ (l : List Vt) (la co : List Int), okL n r l → okL n (r + 1) (takeV r l la co).1 := by
  intro l
  induction l with
  | nil => intro la co _; exact trivial
  | cons v t ih =>
    intro la co h
    obtain ⟨h1, h2, h3⟩ := h
    simp only [takeV]
    by_cases c : v.f1 = r
    · rw [if_pos c]
      exact ih _ _ (c ▸ h3)
    · rw [if_neg c]
      exact ⟨h1, by omega, h3⟩
theorem take_len (r : Int) : ∀ (l : List Vt) (la co : List Int), (takeV r l la co).2.1.length = la.length ∧ (takeV r l la co).2.2.length = co.length := by
  intro l
  induction l with
  | nil => intro la co; exact ⟨rfl, rfl⟩
  | cons v t ih =>
    intro la co
    simp only [takeV]
    by_cases c : v.f1 = r
    · rw [if_pos c]
      obtain ⟨a, b⟩ := ih (la.set v.f0.toNat v.f2) (co.set v.f0.toNat v.f2)
      exact ⟨by rw [a, List.length_set], by rw [b, List.length_set]⟩
    · rw [if_neg c]
      exact ⟨rfl, rfl⟩
theorem run_len (tr : List Bool) : ∀ (n r : Nat) (l : List Vt) (la co : List Int), (runV tr n r l la co).1.length = la.length ∧ (runV tr n r l la co).2.length = co.length := by
  intro n
  induction n with
  | zero => intro r l la co; exact ⟨rfl, rfl⟩
  | succ n ih =>
    intro r l la co
    simp only [runV]
    obtain ⟨a, b⟩ := ih (r + 1) (takeV r l la (if rdOf false tr (r : Int) = true then co else co.map dimV)).1 (takeV r l la (if rdOf false tr (r : Int) = true then co else co.map dimV)).2.1 (takeV r l la (if rdOf false tr (r : Int) = true then co else co.map dimV)).2.2
    obtain ⟨c, d⟩ := take_len r l la (if rdOf false tr (r : Int) = true then co else co.map dimV)
    refine ⟨by rw [a, c], ?_⟩
    rw [b, d]
    split <;> simp
theorem run8 (tr : List Bool) (n r : Nat) (l : List Vt) : (runV tr n r l z8 z8).2.length = 8 := (run_len tr n r l z8 z8).2
theorem sameInts_loop (a : List Int) : ∀ (d j : Nat), j + d = a.length → a.length < 1000 → Ev (fun k => changeforgelaw7_sameInts.l0 k a a (j : Int)) true := by
  intro d
  induction d with
  | zero =>
    intro j h hl
    refine Ev.succ ?_
    simp only [changeforgelaw7_sameInts.l0]
    exact Ev.neg (by omega) (Ev.now _)
  | succ d ih =>
    intro j h hl
    refine Ev.succ ?_
    simp only [changeforgelaw7_sameInts.l0]
    refine Ev.pos (by omega) (Ev.pos (by omega) (Ev.pos (by omega) (Ev.pos (by trivial) ?_)))
    rw [wsucc (by omega)]
    exact ih (j + 1) (by omega) hl
theorem sameInts_ev (a : List Int) (h : a.length < 1000) : Ev (fun k => changeforgelaw7_sameInts.f k a a) true := by
  unfold changeforgelaw7_sameInts.f
  exact Ev.pos rfl (sameInts_loop a a.length 0 (by omega) h)
theorem votesExample_ev : Ev (fun k => changeforgelaw7_votesExample.f k) true := Ev.of (changeforgelaw7_votesExample.mono) (k := 40) (by decide +kernel)
end Go.Proofs.Ytbkdaofddnkaaaa.Pu
