/- POLICY: the plain law of Normal, and equal policies -/
import Derived.Test.YtblkkhddefnkpaaDoorPurePolT
import Derived.Test.YtblkkhddefnkpaaDoorPPoz61
import Derived.Test.YtblkkhddefnkpaaDoorPm
namespace Go.Proofs.YtblkkhddefnkpaaDoor.Pure
open Go.RowKit Go.Proofs.YtblkkhddefnkpaaDoorW.PrintWords Go.Proofs.YtblkkhddefnkpaaDoorW.PrintLast Go.Proofs.YtblkkhddefnkpaaDoorW.PrintMore Go.Proofs.YtblkkhddefnkpaaDoor.PPo
set_option linter.unusedVariables false
/-! ### equal policies -/
theorem eqP_l0 (xs : List S47) (hx : xs.length ≤ 9223372036854775806) : ∀ (rest pre : List S47), pre ++ rest = xs → Ev (fun k => changeforgeref7_EqualPolicies.l0 k (pre.length : Int) xs xs) true := by
  intro rest
  induction rest with
  | nil =>
    intro pre h
    rw [List.append_nil] at h
    subst h
    refine Ev.succ ?_
    unfold changeforgeref7_EqualPolicies.l0
    exact Ev.neg (by omega) (Ev.now _)
  | cons n t ih =>
    intro pre h
    have hl : xs.length = pre.length + (t.length + 1) := by rw [← h, List.length_append, List.length_cons]
    refine Ev.succ ?_
    unfold changeforgeref7_EqualPolicies.l0
    have e1 : wrap64 ((pre.length : Int) + 1) = ((pre ++ [n]).length : Int) := by rw [w64 (by omega) (by omega), List.length_append, List.length_singleton]; omega
    rw [e1]
    refine Ev.pos (by omega) (Ev.pos (by omega) (Ev.pos (by omega) (Ev.pos (by simp) (ih (pre ++ [n]) ?_))))
    rw [List.append_assoc, List.singleton_append, h]
theorem eqP_self (xs : List S47) (hx : xs.length ≤ 9223372036854775806) : Ev (fun k => changeforgeref7_EqualPolicies.f k xs xs) true := by
  unfold changeforgeref7_EqualPolicies.f
  exact Ev.pos rfl (eqP_l0 xs hx xs [] rfl)
/-! ### negation normal form -/
def nnf : T → Bool → T
  | .leaf k n, b => if b = true then .neg (.leaf k n) else .leaf k n
  | .neg t, b => nnf t (!b)
  | .bin k l r, b => .bin (if b = true then 13 - k else k) (nnf l b) (nnf r b)
theorem nnf_ok : ∀ (t : T) (b : Bool), t.ok → (nnf t b).ok := by
  intro t
  induction t with
  | leaf k n => intro b h; unfold nnf; split <;> exact h
  | neg t ih => intro b h; exact ih _ h
  | bin k l r ihl ihr =>
    intro b h
    refine ⟨?_, ihl _ h.2.1, ihr _ h.2.2⟩
    have := h.1
    split <;> omega
theorem nnf_size : ∀ (t : T) (b : Bool), (nnf t b).size + 1 ≤ 2 * t.size + 1 := by
  intro t
  induction t with
  | leaf k n => intro b; unfold nnf; split <;> simp only [T.size] <;> omega
  | neg t ih => intro b; have := ih (!b); simp only [nnf, T.size]; omega
  | bin k l r ihl ihr => intro b; have := ihl b; have := ihr b; simp only [nnf, T.size]; omega
/-- Negations stand above leaves alone. -/
def T.nn : T → Prop
  | .leaf _ _ => True
  | .neg (.leaf _ _) => True
  | .neg _ => False
  | .bin _ l r => l.nn ∧ r.nn
theorem nnf_nn : ∀ (t : T) (b : Bool), (nnf t b).nn := by
  intro t
  induction t with
  | leaf k n => intro b; unfold nnf; split <;> trivial
  | neg t ih => intro b; exact ih _
  | bin k l r ihl ihr => intro b; exact ⟨ihl _, ihr _⟩
theorem nnf_self : ∀ t : T, t.nn → nnf t false = t := by
  intro t
  induction t with
  | leaf k n => intro _; rfl
  | neg t ih =>
    intro h
    cases t with
    | leaf k n => rfl
    | neg t => exact h.elim
    | bin k l r => exact h.elim
  | bin k l r ihl ihr =>
    intro h
    simp only [nnf, ihl h.1, ihr h.2, if_neg Bool.false_ne_true]
theorem rd_at (pre xs post : List S47) (t : T) (i : Int) (hi : i = (pre.length : Int) + t.size - 1) : rd_T47 (pre ++ lay pre.length t ++ post) i = T.root pre.length t := by
  obtain ⟨p, e, hp⟩ := lay_root t pre.length
  have := t.size_pos
  unfold rd_T47
  rw [show i.toNat = pre.length + t.size - 1 by omega, e, List.getD_eq_getElem?_getD, List.append_assoc, List.getElem?_append_right (by omega), List.append_assoc, List.getElem?_append_right (by omega)]
  rw [show pre.length + t.size - 1 - pre.length - p.length = 0 by omega]
  rfl
theorem nAdd_eq (n : S47) (ns : List S47) (h : ns.length < 1000000) : nAdd n ns = some ((ns.length : Int), ns ++ [n]) := by unfold nAdd; rw [if_pos h]
theorem norm_lay : ∀ (t : T), t.ok → ∀ (neg : Bool) (out pre post : List S47) (i : Int), i = (pre.length : Int) + t.size - 1 → out.length + (nnf t neg).size ≤ 1000000 →
    Ev (fun k => normM (pre ++ lay pre.length t ++ post) k i neg out) ((out.length : Int) + (nnf t neg).size - 1, out ++ lay out.length (nnf t neg)) := by
  intro t
  induction t with
  | leaf k n =>
    intro h neg out pre post i hi hs
    have hr := rd_at pre [] post (.leaf k n) i hi
    have hl : (pre ++ lay pre.length (T.leaf k n) ++ post).length = pre.length + 1 + post.length := by rw [List.length_append, List.length_append, lay_length]; rfl
    have hk := h.2.1
    have h1 : (T.leaf k n).size = 1 := rfl
    rw [h1] at hi
    refine Ev.succ ?_
    unfold normM
    rw [hr]
    dsimp only [T.root]
    refine Ev.pos ⟨by omega, by omega⟩ (Ev.neg (by omega) (Ev.pos (by omega) ?_))
    cases neg with
    | false =>
      have e : nnf (.leaf k n) false = .leaf k n := rfl
      rw [e] at hs ⊢
      rw [h1] at hs ⊢
      rw [if_neg Bool.false_ne_true, nAdd_eq _ _ (by omega)]
      have e2 : (out.length : Int) + (1 : Nat) - 1 = (out.length : Int) := by omega
      rw [e2]
      exact Ev.now _
    | true =>
      have e : nnf (.leaf k n) true = .neg (.leaf k n) := rfl
      have h2 : (T.neg (.leaf k n)).size = 2 := rfl
      rw [e] at hs ⊢
      rw [h2] at hs ⊢
      have e3 : (out ++ [(⟨k, n, 0, 0⟩ : S47)]).length = out.length + 1 := by rw [List.length_append]; rfl
      rw [if_pos rfl, nAdd_eq _ _ (by omega), Option.bind_some, nAdd_eq _ _ (by rw [e3]; omega)]
      have e2 : (((out ++ [(⟨k, n, 0, 0⟩ : S47)]).length : Nat) : Int) = (out.length : Int) + (2 : Nat) - 1 := by rw [e3]; omega
      have e4 : out ++ [(⟨k, n, 0, 0⟩ : S47)] ++ [⟨5, 0, (out.length : Int), 0⟩] = out ++ lay out.length (.neg (.leaf k n)) := by
        simp only [lay, T.size, List.append_assoc]
        have : (out.length : Int) + (1 : Nat) - 1 = (out.length : Int) := by omega
        rw [this]
      rw [e2, e4]
      exact Ev.now _
  | neg t ih =>
    intro h neg out pre post i hi hs
    have hr := rd_at pre [] post (.neg t) i hi
    have hl : (pre ++ lay pre.length (T.neg t) ++ post).length = pre.length + (t.size + 1) + post.length := by rw [List.length_append, List.length_append, lay_length]; rfl
    have h1 : (T.neg t).size = t.size + 1 := rfl
    have hp := t.size_pos
    rw [h1] at hi
    refine Ev.succ ?_
    unfold normM
    rw [hr]
    dsimp only [T.root]
    refine Ev.pos ⟨by omega, by omega⟩ (Ev.pos rfl ?_)
    have := ih h (!neg) out pre ([⟨5, 0, (pre.length : Int) + t.size - 1, 0⟩] ++ post) ((pre.length : Int) + t.size - 1) rfl hs
    have e : pre ++ lay pre.length t ++ ([(⟨5, 0, (pre.length : Int) + t.size - 1, 0⟩ : S47)] ++ post) = pre ++ lay pre.length (T.neg t) ++ post := by simp only [lay, List.append_assoc]
    rw [e] at this
    exact this
  | bin k a b iha ihb =>
    intro h neg out pre post i hi hs
    have hr := rd_at pre [] post (.bin k a b) i hi
    have hl : (pre ++ lay pre.length (T.bin k a b) ++ post).length = pre.length + (a.size + b.size + 1) + post.length := by rw [List.length_append, List.length_append, lay_length]; rfl
    have h1 : (T.bin k a b).size = a.size + b.size + 1 := rfl
    have hk := h.1
    have hp := a.size_pos
    have hq := b.size_pos
    have hsz : (nnf (.bin k a b) neg).size = (nnf a neg).size + (nnf b neg).size + 1 := rfl
    rw [hsz] at hs ⊢
    rw [h1] at hi
    refine Ev.succ ?_
    unfold normM
    rw [hr]
    dsimp only [T.root]
    refine Ev.pos ⟨by omega, by omega⟩ (Ev.neg (by omega) (Ev.neg (by omega) ?_))
    have ea := iha h.2.1 neg out pre (lay (pre.length + a.size) b ++ [⟨k, 0, (pre.length : Int) + a.size - 1, (pre.length : Int) + a.size + b.size - 1⟩] ++ post) ((pre.length : Int) + a.size - 1) rfl (by omega)
    have eb := ihb h.2.2 neg (out ++ lay out.length (nnf a neg)) (pre ++ lay pre.length a) ([⟨k, 0, (pre.length : Int) + a.size - 1, (pre.length : Int) + a.size + b.size - 1⟩] ++ post) ((pre.length : Int) + a.size + b.size - 1) (by rw [List.length_append, lay_length]; omega) (by rw [List.length_append, lay_length]; omega)
    have e1 : pre ++ lay pre.length a ++ (lay (pre.length + a.size) b ++ [(⟨k, 0, (pre.length : Int) + a.size - 1, (pre.length : Int) + a.size + b.size - 1⟩ : S47)] ++ post) = pre ++ lay pre.length (T.bin k a b) ++ post := by simp only [lay, List.append_assoc]
    have e2 : pre ++ lay pre.length a ++ lay (pre ++ lay pre.length a).length b ++ ([(⟨k, 0, (pre.length : Int) + a.size - 1, (pre.length : Int) + a.size + b.size - 1⟩ : S47)] ++ post) = pre ++ lay pre.length (T.bin k a b) ++ post := by
      rw [List.length_append, lay_length]
      simp only [lay, List.append_assoc]
    rw [e1] at ea
    rw [e2] at eb
    refine Ev.bind ea ?_
    refine Ev.bind eb ?_
    dsimp only
    have hw : wrap64 (13 - k) = 13 - k := w64 (by omega) (by omega)
    have hol : (out ++ lay out.length (nnf a neg) ++ lay (out ++ lay out.length (nnf a neg)).length (nnf b neg)).length = out.length + (nnf a neg).size + (nnf b neg).size := by
      rw [List.length_append, lay_length, List.length_append, lay_length]
    rw [hw, nAdd_eq _ _ (by rw [hol]; omega), hol]
    have ef : (((out.length + (nnf a neg).size + (nnf b neg).size : Nat) : Int)) = (out.length : Int) + (((nnf a neg).size + (nnf b neg).size + 1 : Nat) : Int) - 1 := by omega
    have eg : out ++ lay out.length (nnf a neg) ++ lay (out ++ lay out.length (nnf a neg)).length (nnf b neg) ++ [(⟨if neg = true then 13 - k else k, 0, (out.length : Int) + (nnf a neg).size - 1, ((out ++ lay out.length (nnf a neg)).length : Int) + (nnf b neg).size - 1⟩ : S47)] = out ++ lay out.length (nnf (T.bin k a b) neg) := by
      rw [List.length_append, lay_length]
      simp only [nnf, lay, List.append_assoc]
      rw [show ((out.length + (nnf a neg).size : Nat) : Int) = (out.length : Int) + (nnf a neg).size by omega]
    rw [eg, ef]
    exact Ev.now _
def polN (t : T) : List S47 × Int × Int := if polV (lay 0 (nnf t false)) = (0, 0) then (lay 0 (nnf t false), 0, 0) else ([], 10, -1)
theorem pair_zero {p : Int × Int} : (p.1 = 0 ∧ p.2 = 0) ↔ p = (0, 0) := ⟨fun h => Prod.ext h.1 h.2, fun h => by rw [h]; exact ⟨rfl, rfl⟩⟩
theorem Normal_ev (t : T) (h : t.ok) (hv : polV (lay 0 t) = (0, 0)) : Ev (fun k => policy_Normal.f k (lay 0 t)) (polN t) := by
  have h1 := t.size_pos
  have h2 : t.size ≤ 24 := by
    have := (polV_ok hv).2.1
    rwa [lay_length] at this
  have hs := nnf_size t false
  unfold policy_Normal.f polN
  refine Ev.bind (Validate_ev _) (Ev.pos (pair_zero.mpr hv) ?_)
  have := norm_lay t h false [] [] [] ((t.size : Int) - 1) (by simp) (by simp only [List.length_nil]; omega)
  simp only [List.nil_append, List.append_nil] at this
  have ew : wrap64 (((lay 0 t).length : Int) - 1) = (t.size : Int) - 1 := by rw [lay_length, w64 (by omega) (by omega)]
  rw [ew]
  refine Ev.bind this (Ev.pos ?_ ?_)
  · dsimp only; rw [lay_length]; omega
  · refine Ev.bind (Validate_ev _) ?_
    dsimp only
    rw [show ([] : List S47).length = 0 from rfl]
    by_cases hn : polV (lay 0 (nnf t false)) = (0, 0)
    · rw [if_pos hn]
      exact Ev.pos (pair_zero.mpr hn) (Ev.now _)
    · rw [if_neg hn]
      exact Ev.neg (fun e => hn (pair_zero.mp e)) (Ev.now _)
theorem Normal_bad (ns : List S47) (hv : polV ns ≠ (0, 0)) : Ev (fun k => policy_Normal.f k ns) ([], (polV ns).1, (polV ns).2) := by
  unfold policy_Normal.f
  exact Ev.bind (Validate_ev _) (Ev.neg (fun e => hv (pair_zero.mp e)) (Ev.now _))
/-! ### values -/
def evT (a0 : Int) (a1 a2 : Bool) (a3 : Int) : T → Bool := cata (fun k n => if k = 1 then decide (a0 ≥ n) else if k = 2 then a1 else if k = 3 then a2 else bitB a3 n) (fun x => !x) (fun k x y => if k = 6 then (x && y) else (x || y))
theorem evL_fold (a0 : Int) (a1 a2 : Bool) (a3 : Int) : ∀ (ns : List S47) (v : List Bool), evL a0 a1 a2 a3 v ns = fold (fun v n => evN v n a0 a1 a2 a3) v ns := by
  intro ns
  induction ns with
  | nil => intro v; rfl
  | cons n t ih => intro v; simp only [evL, fold, ih]
theorem polVal_lay (a0 : Int) (a1 a2 : Bool) (a3 : Int) (t : T) (h : t.ok) : polVal (lay 0 t) a0 a1 a2 a3 = evT a0 a1 a2 a3 t := by
  have h1 := t.size_pos
  have key := fold_lay (fun v n => evN v n a0 a1 a2 a3) (fun k n => if k = 1 then decide (a0 ≥ n) else if k = 2 then a1 else if k = 3 then a2 else bitB a3 n) (fun x => !x) (fun k x y => if k = 6 then (x && y) else (x || y)) false ?_ ?_ ?_ t h []
  · unfold polVal
    rw [evL_fold, lay_length]
    rw [show lay 0 t = lay ([] : List Bool).length t from rfl, key]
    unfold rdOf
    rw [show (((t.size : Nat) : Int) - 1).toNat = ([] : List Bool).length + t.size - 1 by simp]
    have := outs_at (fun k n => if k = 1 then decide (a0 ≥ n) else if k = 2 then a1 else if k = 3 then a2 else bitB a3 n) (fun x => !x) (fun k x y => if k = 6 then (x && y) else (x || y)) false [] [] t
    rw [List.append_nil] at this
    exact this
  · intro l k n k1 k4
    unfold evN
    dsimp only
    split
    · rfl
    split
    · rfl
    split
    · rfl
    rw [if_pos (by omega)]
  · intro l i
    unfold evN rdOf
    rw [if_neg (by dsimp only; omega), if_neg (by dsimp only; omega), if_neg (by dsimp only; omega), if_neg (by dsimp only; omega), if_pos rfl]
    rfl
  · intro l k i j hk
    unfold evN rdOf
    rw [if_neg (by dsimp only; omega), if_neg (by dsimp only; omega), if_neg (by dsimp only; omega), if_neg (by dsimp only; omega), if_neg (by dsimp only; omega)]
    rfl
theorem nnf_ev (a0 : Int) (a1 a2 : Bool) (a3 : Int) : ∀ (t : T), t.ok → ∀ b : Bool, evT a0 a1 a2 a3 (nnf t b) = (evT a0 a1 a2 a3 t ^^ b) := by
  intro t
  induction t with
  | leaf k n =>
    intro h b
    cases b with
    | false => rw [Bool.xor_false]; rfl
    | true => rw [Bool.xor_true]; rfl
  | neg t ih =>
    intro h b
    have := ih h (!b)
    show evT a0 a1 a2 a3 (nnf t (!b)) = _
    rw [this]
    show _ = ((!evT a0 a1 a2 a3 t) ^^ b)
    cases evT a0 a1 a2 a3 t <;> cases b <;> rfl
  | bin k l r ihl ihr =>
    intro h b
    have e1 := ihl h.2.1 b
    have e2 := ihr h.2.2 b
    show (if (if b = true then 13 - k else k) = 6 then (evT a0 a1 a2 a3 (nnf l b) && evT a0 a1 a2 a3 (nnf r b)) else (evT a0 a1 a2 a3 (nnf l b) || evT a0 a1 a2 a3 (nnf r b))) = ((if k = 6 then (evT a0 a1 a2 a3 l && evT a0 a1 a2 a3 r) else (evT a0 a1 a2 a3 l || evT a0 a1 a2 a3 r)) ^^ b)
    rw [e1, e2]
    rcases h.1 with rfl | rfl <;> cases b <;> cases evT a0 a1 a2 a3 l <;> cases evT a0 a1 a2 a3 r <;> rfl
end Go.Proofs.YtblkkhddefnkpaaDoor.Pure
