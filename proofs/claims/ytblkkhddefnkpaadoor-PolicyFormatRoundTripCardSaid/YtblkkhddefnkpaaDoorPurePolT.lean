/- POLICY: valid lists are trees in postorder -/
import Derived.Test.YtblkkhddefnkpaaDoorPurePolV
namespace Go.Proofs.YtblkkhddefnkpaaDoor.Pure
open Go.RowKit Go.Proofs.YtblkkhddefnkpaaDoorW.PrintWords Go.Proofs.YtblkkhddefnkpaaDoorW.PrintLast Go.Proofs.YtblkkhddefnkpaaDoorW.PrintMore Go.Proofs.YtblkkhddefnkpaaDoor.PPo
set_option linter.unusedVariables false
inductive T where
  | leaf (k n : Int) : T
  | neg (t : T) : T
  | bin (k : Int) (l r : T) : T
def T.size : T → Nat
  | .leaf _ _ => 1
  | .neg t => t.size + 1
  | .bin _ l r => l.size + r.size + 1
def T.depth : T → Nat
  | .leaf _ _ => 1
  | .neg t => t.depth + 1
  | .bin _ l r => max l.depth r.depth + 1
def T.ok : T → Prop
  | .leaf k n => 1 ≤ k ∧ k ≤ 4 ∧ 0 ≤ n ∧ n ≤ hi k
  | .neg t => t.ok
  | .bin k l r => (k = 6 ∨ k = 7) ∧ l.ok ∧ r.ok
def T.kind : T → Int
  | .leaf k _ => k
  | .neg _ => 5
  | .bin k _ _ => k
/-- The last node of t's list, where the list starts at b. -/
def T.root (b : Nat) : T → S47
  | .leaf k n => ⟨k, n, 0, 0⟩
  | .neg t => ⟨5, 0, (b : Int) + t.size - 1, 0⟩
  | .bin k l r => ⟨k, 0, (b : Int) + l.size - 1, (b : Int) + l.size + r.size - 1⟩
def lay : Nat → T → List S47
  | b, .leaf k n => [⟨k, n, 0, 0⟩]
  | b, .neg t => lay b t ++ [⟨5, 0, (b : Int) + t.size - 1, 0⟩]
  | b, .bin k l r => lay b l ++ lay (b + l.size) r ++ [⟨k, 0, (b : Int) + l.size - 1, (b : Int) + l.size + r.size - 1⟩]
theorem T.size_pos : ∀ t : T, 1 ≤ t.size := by intro t; cases t <;> simp only [T.size] <;> omega
theorem T.depth_pos : ∀ t : T, 1 ≤ t.depth := by intro t; cases t <;> simp only [T.depth] <;> omega
theorem T.depth_size : ∀ t : T, t.depth ≤ t.size := by intro t; induction t <;> simp only [T.depth, T.size] <;> omega
theorem lay_length : ∀ (t : T) (b : Nat), (lay b t).length = t.size := by
  intro t
  induction t with
  | leaf k n => intro b; rfl
  | neg t ih => intro b; simp only [lay, T.size, List.length_append, List.length_singleton, ih]
  | bin k l r ihl ihr => intro b; simp only [lay, T.size, List.length_append, List.length_singleton, ihl, ihr]
theorem lay_root (t : T) (b : Nat) : ∃ p, lay b t = p ++ [T.root b t] ∧ p.length = t.size - 1 := by
  cases t with
  | leaf k n => exact ⟨[], rfl, rfl⟩
  | neg t => exact ⟨lay b t, rfl, by rw [lay_length]; simp only [T.size]; omega⟩
  | bin k l r => exact ⟨lay b l ++ lay (b + l.size) r, rfl, by rw [List.length_append, lay_length, lay_length]; simp only [T.size]; omega⟩
/-! ### folds over the nodes -/
section
variable {α : Type} (f : List α → S47 → α)
def fold : List α → List S47 → List α
  | l, [] => l
  | l, n :: t => fold (l ++ [f l n]) t
theorem fold_append : ∀ (xs ys : List S47) (l : List α), fold f l (xs ++ ys) = fold f (fold f l xs) ys := by
  intro xs
  induction xs with
  | nil => intro ys l; rfl
  | cons x t ih => intro ys l; simp only [List.cons_append, fold, ih]
variable (lf : Int → Int → α) (ng : α → α) (bn : Int → α → α → α)
def cata : T → α
  | .leaf k n => lf k n
  | .neg t => ng (cata t)
  | .bin k l r => bn k (cata l) (cata r)
def outs : T → List α
  | .leaf k n => [lf k n]
  | .neg t => outs t ++ [ng (cata lf ng bn t)]
  | .bin k l r => outs l ++ outs r ++ [bn k (cata lf ng bn l) (cata lf ng bn r)]
theorem outs_length : ∀ t : T, (outs lf ng bn t).length = t.size := by
  intro t
  induction t with
  | leaf k n => rfl
  | neg t ih => simp only [outs, T.size, List.length_append, List.length_singleton, ih]
  | bin k l r ihl ihr => simp only [outs, T.size, List.length_append, List.length_singleton, ihl, ihr]
theorem outs_last : ∀ t : T, ∃ p, outs lf ng bn t = p ++ [cata lf ng bn t] ∧ p.length = t.size - 1 := by
  intro t
  cases t with
  | leaf k n => exact ⟨[], rfl, rfl⟩
  | neg t => exact ⟨outs lf ng bn t, rfl, by rw [outs_length]; simp only [T.size]; omega⟩
  | bin k l r => exact ⟨outs lf ng bn l ++ outs lf ng bn r, rfl, by rw [List.length_append, outs_length, outs_length]; simp only [T.size]; omega⟩
theorem outs_at (d : α) (l m : List α) (t : T) : (l ++ outs lf ng bn t ++ m).getD (l.length + t.size - 1) d = cata lf ng bn t := by
  obtain ⟨p, e, hp⟩ := outs_last lf ng bn t
  have := t.size_pos
  rw [e, List.getD_eq_getElem?_getD, List.append_assoc, List.getElem?_append_right (by omega), List.append_assoc, List.getElem?_append_right (by omega)]
  rw [show l.length + t.size - 1 - l.length - p.length = 0 by omega]
  rfl
variable (d : α) (H0 : ∀ l k n, 1 ≤ k → k ≤ 4 → f l ⟨k, n, 0, 0⟩ = lf k n) (H5 : ∀ l (i : Nat), f l ⟨5, 0, (i : Int), 0⟩ = ng (l.getD i d))
  (H6 : ∀ l k (i j : Nat), k = 6 ∨ k = 7 → f l ⟨k, 0, (i : Int), (j : Int)⟩ = bn k (l.getD i d) (l.getD j d))
include H0 H5 H6
theorem fold_lay : ∀ (t : T), t.ok → ∀ (l : List α), fold f l (lay l.length t) = l ++ outs lf ng bn t := by
  intro t
  induction t with
  | leaf k n => intro h l; simp only [lay, fold, outs, H0 l k n h.1 h.2.1]
  | neg t ih =>
    intro h l
    have h1 := t.size_pos
    simp only [lay, fold_append, ih h, fold, outs]
    have e : (l.length : Int) + t.size - 1 = ((l.length + t.size - 1 : Nat) : Int) := by omega
    rw [e, H5]
    have := outs_at lf ng bn d l [] t
    rw [List.append_nil] at this
    rw [this, List.append_assoc]
  | bin k a b iha ihb =>
    intro h l
    have h1 := a.size_pos
    have h2 := b.size_pos
    have := ihb h.2.2 (l ++ outs lf ng bn a)
    rw [List.length_append, outs_length] at this
    simp only [lay, fold_append, iha h.2.1, this, fold, outs]
    have e : (l.length : Int) + a.size - 1 = ((l.length + a.size - 1 : Nat) : Int) := by omega
    have e2 : (l.length : Int) + a.size + b.size - 1 = ((l.length + a.size + b.size - 1 : Nat) : Int) := by omega
    rw [e, e2, H6 _ _ _ _ h.1]
    have g := outs_at lf ng bn d l (outs lf ng bn b) a
    have g2 := outs_at lf ng bn d (l ++ outs lf ng bn a) [] b
    rw [List.append_nil, List.length_append, outs_length] at g2
    rw [g, g2]
    simp only [List.append_assoc]
end
/-! ### shapes -/
def shc : T → S62 := cata (fun _ _ => ⟨1, 1⟩) (fun s => ⟨1 + s.f0, 1 + s.f1⟩) (fun _ s r => ⟨1 + s.f0 + r.f0, mx (1 + s.f1) (1 + r.f1)⟩)
def sho : T → List S62 := outs (fun _ _ => ⟨1, 1⟩) (fun s => ⟨1 + s.f0, 1 + s.f1⟩) (fun _ s r => ⟨1 + s.f0 + r.f0, mx (1 + s.f1) (1 + r.f1)⟩)
theorem shc_eq : ∀ t : T, shc t = ⟨(t.size : Int), (t.depth : Int)⟩ := by
  intro t
  induction t with
  | leaf k n => rfl
  | neg t ih =>
    show (⟨1 + (shc t).f0, 1 + (shc t).f1⟩ : S62) = _
    rw [ih]
    simp only [T.size, T.depth, S62.mk.injEq]
    omega
  | bin k l r ihl ihr =>
    show (⟨1 + (shc l).f0 + (shc r).f0, mx (1 + (shc l).f1) (1 + (shc r).f1)⟩ : S62) = _
    rw [ihl, ihr]
    simp only [T.size, T.depth, S62.mk.injEq]
    unfold mx
    split <;> omega
theorem sho_length (t : T) : (sho t).length = t.size := outs_length _ _ _ t
theorem sho_at (l m : List S62) (t : T) : (l ++ sho t ++ m).getD (l.length + t.size - 1) z62 = ⟨(t.size : Int), (t.depth : Int)⟩ := by
  rw [← shc_eq]
  exact outs_at _ _ _ z62 l m t
theorem sho_rd (l m : List S62) (t : T) (i : Int) (hi : i = (l.length : Int) + t.size - 1) : rd_T62 (l ++ sho t ++ m) i = ⟨(t.size : Int), (t.depth : Int)⟩ := by
  have := t.size_pos
  unfold rd_T62
  rw [show i.toNat = l.length + t.size - 1 by omega]
  exact sho_at l m t
/-! ### a tree's list is in order -/
theorem val_lay (N : Nat) : ∀ (t : T), t.ok → ∀ (l : List S62) (rest : List S47), valL N l (lay l.length t ++ rest) = valL N (l ++ sho t) rest := by
  intro t
  induction t with
  | leaf k n =>
    intro h l rest
    have hc : ncode l ⟨k, n, 0, 0⟩ = 0 := by
      unfold ncode
      have := h
      simp only [T.ok] at this
      rw [if_neg (by dsimp only; omega), if_neg (by dsimp only; omega), if_neg (by dsimp only; omega), if_neg (by dsimp only; omega), if_neg (by dsimp only; omega)]
    have hs : shp l ⟨k, n, 0, 0⟩ = ⟨1, 1⟩ := by
      unfold shp
      have := h.2.1
      rw [if_pos (by dsimp only; omega)]
    simp only [lay, List.cons_append, List.nil_append, valL, if_pos hc, hs]
    rfl
  | neg t ih =>
    intro h l rest
    have h1 := t.size_pos
    have e := sho_rd l [] t ((l.length : Int) + t.size - 1) rfl
    rw [List.append_nil] at e
    have hc : ncode (l ++ sho t) ⟨5, 0, (l.length : Int) + t.size - 1, 0⟩ = 0 := by
      unfold ncode
      have : hi 5 = 0 := rfl
      rw [List.length_append, sho_length]
      rw [if_neg (by dsimp only; omega), if_neg (by dsimp only; omega), if_neg (by dsimp only; omega), if_neg (by dsimp only; omega), if_neg (by dsimp only; omega)]
    have hs : shp (l ++ sho t) ⟨5, 0, (l.length : Int) + t.size - 1, 0⟩ = shc (.neg t) := by
      unfold shp
      rw [if_neg (by dsimp only; omega), if_pos rfl]
      dsimp only
      rw [e, ← shc_eq]
      rfl
    simp only [lay, List.append_assoc, List.cons_append, List.nil_append]
    rw [ih h, valL, if_pos hc, hs, List.append_assoc]
    rfl
  | bin k a b iha ihb =>
    intro h l rest
    have h1 := a.size_pos
    have h2 := b.size_pos
    have ea := sho_rd l (sho b) a ((l.length : Int) + a.size - 1) rfl
    have eb := sho_rd (l ++ sho a) [] b ((l.length : Int) + a.size + b.size - 1) (by rw [List.length_append, sho_length]; omega)
    rw [List.append_nil] at eb
    have hl : ((l ++ sho a ++ sho b).length : Int) = (l.length : Int) + a.size + b.size := by rw [List.length_append, List.length_append, sho_length, sho_length]; omega
    have hc : ncode (l ++ sho a ++ sho b) ⟨k, 0, (l.length : Int) + a.size - 1, (l.length : Int) + a.size + b.size - 1⟩ = 0 := by
      unfold ncode
      have hk := h.1
      have : hi k = 0 := by rcases hk with rfl | rfl <;> rfl
      rw [hl, eb]
      rw [if_neg (by dsimp only; omega), if_neg (by dsimp only; omega), if_neg (by dsimp only; omega), if_neg (by dsimp only; omega), if_neg (by dsimp only; omega)]
    have hs : shp (l ++ sho a ++ sho b) ⟨k, 0, (l.length : Int) + a.size - 1, (l.length : Int) + a.size + b.size - 1⟩ = shc (.bin k a b) := by
      unfold shp
      have hk := h.1
      rw [if_neg (by dsimp only; omega), if_neg (by dsimp only; omega)]
      dsimp only
      rw [ea, eb, ← shc_eq, ← shc_eq]
      rfl
    have ih2 := ihb h.2.2 (l ++ sho a)
    rw [List.length_append, sho_length] at ih2
    simp only [lay, List.append_assoc, List.cons_append, List.nil_append]
    rw [iha h.2.1, ih2, valL, if_pos hc, hs, show sho (.bin k a b) = sho a ++ sho b ++ [shc (.bin k a b)] from rfl]
    simp only [List.append_assoc]
theorem polV_lay (t : T) (h : t.ok) : polV (lay 0 t) = if t.size > 24 then (2, -1) else if t.depth > 12 then (10, -1) else (0, 0) := by
  have h1 := t.size_pos
  unfold polV
  rw [lay_length, if_neg (by omega)]
  by_cases h2 : t.size > 24
  · rw [if_pos (by omega), if_pos h2]
  rw [if_neg (by omega), if_neg h2]
  have := val_lay t.size t h [] []
  rw [List.append_nil] at this
  rw [show (lay 0 t) = lay ([] : List S62).length t from rfl, this, List.nil_append]
  have e := sho_rd [] [] t ((sho t).length - 1 : Int) (by rw [sho_length]; simp)
  rw [List.append_nil, List.nil_append] at e
  rw [valL, e]
  dsimp only
  rw [if_pos rfl]
  by_cases h3 : t.depth > 12
  · rw [if_pos (by omega), if_pos h3]
  · rw [if_neg (by omega), if_neg h3]
/-! ### a list that is in order is a stack of trees -/
def sizeS : List T → Nat
  | [] => 0
  | t :: s => sizeS s + t.size
def layS : List T → List S47
  | [] => []
  | t :: s => layS s ++ lay (sizeS s) t
def shS : List T → List S62
  | [] => []
  | t :: s => shS s ++ sho t
theorem layS_length : ∀ s, (layS s).length = sizeS s := by
  intro s
  induction s with
  | nil => rfl
  | cons t s ih => simp only [layS, sizeS, List.length_append, lay_length, ih]
theorem shS_length : ∀ s, (shS s).length = sizeS s := by
  intro s
  induction s with
  | nil => rfl
  | cons t s ih => simp only [shS, sizeS, List.length_append, sho_length, ih]
theorem dec (N : Nat) : ∀ (rest : List S47) (s : List T), (∀ t ∈ s, t.ok) → okL (shS s) rest → ∃ s', (∀ t ∈ s', t.ok) ∧ layS s ++ rest = layS s' ∧ valL N (shS s) rest = valL N (shS s') [] := by
  intro rest
  induction rest with
  | nil => intro s h _; exact ⟨s, h, by rw [List.append_nil], rfl⟩
  | cons n rest ih =>
    intro s h hok
    obtain ⟨hc, hok⟩ := hok
    have hk := code_ok hc
    have step : ∃ s1, (∀ t ∈ s1, t.ok) ∧ layS s ++ [n] = layS s1 ∧ shS s ++ [shp (shS s) n] = shS s1 := by
      obtain ⟨k, m, i, j⟩ := n
      dsimp only at hk
      rw [shS_length] at hk
      by_cases k5 : k < 5
      · obtain ⟨rfl, rfl⟩ := hk.2.2.1 k5
        refine ⟨.leaf k m :: s, ?_, rfl, ?_⟩
        · intro t ht
          rcases List.mem_cons.mp ht with rfl | ht
          · exact ⟨hk.1.1, by omega, hk.2.1.1, hk.2.1.2⟩
          · exact h t ht
        · unfold shp
          rw [if_pos k5]
          rfl
      by_cases e5 : k = 5
      · subst e5
        obtain ⟨rfl, h0, e⟩ := hk.2.2.2.1 rfl
        cases s with
        | nil => exact absurd rfl h0
        | cons t s =>
          have e0 : hi 5 = 0 := rfl
          obtain rfl : m = 0 := by omega
          simp only [sizeS] at e
          obtain rfl : i = (sizeS s : Int) + t.size - 1 := by omega
          have er := sho_rd (shS s) [] t ((sizeS s : Int) + t.size - 1) (by rw [shS_length])
          rw [List.append_nil] at er
          refine ⟨.neg t :: s, ?_, ?_, ?_⟩
          · intro u hu
            rcases List.mem_cons.mp hu with rfl | hu
            · exact h t (List.mem_cons_self ..)
            · exact h u (List.mem_cons_of_mem _ hu)
          · simp only [layS, lay, List.append_assoc]
          · simp only [shS]
            unfold shp
            rw [if_neg (by dsimp only; omega), if_pos rfl]
            dsimp only
            rw [er, List.append_assoc]
            show shS s ++ (sho t ++ [_]) = shS s ++ (sho t ++ [_])
            have := shc_eq t
            unfold shc at this
            rw [this]
      · obtain ⟨h0, e1, e2, e3⟩ := hk.2.2.2.2 (by omega)
        cases s with
        | nil => exact absurd rfl h0
        | cons b s =>
          have eb := sho_rd (shS s) [] b ((sizeS s : Int) + b.size - 1) (by rw [shS_length])
          rw [List.append_nil] at eb
          have e0 : hi k = 0 := by unfold hi; rw [if_neg (by omega), if_neg (by omega)]
          obtain rfl : m = 0 := by omega
          simp only [sizeS, shS] at e1 e2
          have ew : ((sizeS s + b.size : Nat) : Int) - 1 = (sizeS s : Int) + b.size - 1 := by omega
          rw [ew] at e1 e2
          rw [eb] at e2
          dsimp only at e2
          cases s with
          | nil => simp only [sizeS] at e2; omega
          | cons a s =>
            simp only [sizeS] at e1 e2
            obtain rfl : j = (sizeS s : Int) + a.size + b.size - 1 := by omega
            obtain rfl : i = (sizeS s : Int) + a.size - 1 := by omega
            have ea := sho_rd (shS s) (sho b) a ((sizeS s : Int) + a.size - 1) (by rw [shS_length])
            simp only [sizeS, shS] at eb
            rw [show ((sizeS s + a.size : Nat) : Int) + b.size - 1 = (sizeS s : Int) + a.size + b.size - 1 by omega] at eb
            refine ⟨.bin k a b :: s, ?_, ?_, ?_⟩
            · intro u hu
              rcases List.mem_cons.mp hu with rfl | hu
              · exact ⟨by omega, h a (List.mem_cons_of_mem _ (List.mem_cons_self ..)), h b (List.mem_cons_self ..)⟩
              · exact h u (List.mem_cons_of_mem _ (List.mem_cons_of_mem _ hu))
            · simp only [layS, lay, sizeS, List.append_assoc]
            · simp only [shS]
              unfold shp
              rw [if_neg (by dsimp only; omega), if_neg (by dsimp only; omega)]
              dsimp only
              rw [ea, eb]
              show shS s ++ sho a ++ sho b ++ [_] = shS s ++ (sho a ++ sho b ++ [_])
              have ha := shc_eq a
              have hb := shc_eq b
              unfold shc at ha hb
              rw [ha, hb]
              simp only [List.append_assoc]
    obtain ⟨s1, o1, l1, v1⟩ := step
    rw [v1] at hok
    obtain ⟨s2, o2, l2, v2⟩ := ih s1 o1 hok
    refine ⟨s2, o2, ?_, ?_⟩
    · rw [← l2, ← l1, List.append_assoc]
      rfl
    · rw [← v2, ← v1, valL, if_pos hc]
theorem polV_tree {ns : List S47} (h : polV ns = (0, 0)) : ∃ t : T, t.ok ∧ ns = lay 0 t ∧ t.size ≤ 24 ∧ t.depth ≤ 12 := by
  obtain ⟨h0, h1, hok, hv⟩ := polV_ok h
  obtain ⟨s, o, l, v⟩ := dec ns.length ns [] (fun _ ht => by cases ht) hok
  rw [show shS [] = [] from rfl, hv] at v
  rw [show layS [] = [] from rfl, List.nil_append] at l
  cases s with
  | nil => rw [l] at h0; exact absurd h0 (by decide)
  | cons t s =>
    have hl : ns.length = sizeS s + t.size := by rw [l, layS_length]; rfl
    have er := sho_rd (shS s) [] t ((shS (t :: s)).length - 1 : Int) (by rw [shS_length, shS_length]; simp only [sizeS]; omega)
    rw [List.append_nil] at er
    rw [valL, show shS (t :: s) = shS s ++ sho t from rfl] at v
    rw [show shS (t :: s) = shS s ++ sho t from rfl] at er
    rw [er] at v
    dsimp only at v
    split at v
    · rename_i e
      cases s with
      | nil =>
        split at v
        · exact absurd (congrArg Prod.fst v) (by decide)
        · rename_i hd
          have hz : sizeS [] = 0 := rfl
          refine ⟨t, o t (List.mem_cons_self ..), ?_, ?_, ?_⟩
          · rw [l]; rfl
          · omega
          · omega
      | cons a s =>
        have := a.size_pos
        simp only [sizeS] at hl
        omega
    · exact absurd (congrArg Prod.fst v) (by decide)
end Go.Proofs.YtblkkhddefnkpaaDoor.Pure
