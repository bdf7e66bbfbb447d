/- POLICY: the plain law of Format -/
import Derived.Test.YtblkkhddefnkpaaDoorPurePolT
import Derived.Test.YtblkkhddefnkpaaDoorPf
import Derived.Test.YtblkkhddefnkpaaDoorPurePolN
namespace Go.Proofs.YtblkkhddefnkpaaDoor.Pure
open Go.RowKit Go.Proofs.YtblkkhddefnkpaaDoorW.PrintWords Go.Proofs.YtblkkhddefnkpaaDoorW.PrintLast Go.Proofs.YtblkkhddefnkpaaDoorW.PrintMore Go.Proofs.YtblkkhddefnkpaaDoor.PPo
set_option linter.unusedVariables false
/-! ### texts -/
def B (l : List UInt8) : ByteArray := ⟨l.toArray⟩
theorem B_app (a b : List UInt8) : B a ++ B b = B (a ++ b) := by
  apply ByteArray.ext
  rw [ByteArray.data_append]
  exact List.append_toArray ..
theorem B_size (a : List UInt8) : (B a).size = a.length := rfl
theorem B_toList (a : List UInt8) : (B a).toList = a := by rw [ByteArray.toList_eq]; rfl
def dg (n : Int) : List UInt8 := Lib.decDigits n.toNat
theorem dg_small {n : Int} (h0 : 0 ≤ n) (h1 : n ≤ 8) : dg n = [UInt8.ofNat (48 + n.toNat)] := by
  unfold dg
  rw [Lib.decDigits, dif_pos (by omega)]
def par (c : Prop) [Decidable c] (x : List UInt8) : List UInt8 := if c then 40 :: (x ++ [41]) else x
def opT (k : Int) : List UInt8 := if k = 6 then [97, 110, 100] else [111, 114]
def txl : T → List UInt8
  | .leaf k n => if k = 1 then [115, 99, 111, 114, 101] ++ ([32] ++ dg n) else if k = 2 then [111, 119, 110, 101, 114, 115] else if k = 3 then [116, 101, 115, 116, 115] else [117, 115, 101, 114] ++ ([32] ++ dg n)
  | .neg t => [110, 111, 116] ++ ([32] ++ par (t.kind > 5) (txl t))
  | .bin k l r => par (l.kind > k) (txl l) ++ ([32] ++ (opT k ++ ([32] ++ par (r.kind > k - 1) (txl r))))
theorem hi_le (k : Int) : hi k ≤ 8 := by unfold hi; repeat' split <;> omega
theorem par_length (c : Prop) [Decidable c] (x : List UInt8) : (par c x).length ≤ x.length + 2 := by
  unfold par
  split
  · simp
  · omega
theorem txl_length : ∀ t : T, t.ok → (txl t).length ≤ 9 * t.size := by
  intro t
  induction t with
  | leaf k n =>
    intro h
    have h1 := hi_le k
    have h2 := h.2.2.2
    unfold txl
    rw [dg_small h.2.2.1 (by omega)]
    repeat' split
    all_goals simp [T.size]
  | neg t ih =>
    intro h
    have := ih h
    have := par_length (t.kind > 5) (txl t)
    simp only [txl, T.size, List.length_append, List.length_cons, List.length_nil]
    omega
  | bin k l r ihl ihr =>
    intro h
    have := ihl h.2.1
    have := ihr h.2.2
    have := par_length (l.kind > k) (txl l)
    have := par_length (r.kind > k - 1) (txl r)
    have h3 : (opT k).length ≤ 3 := by unfold opT; split <;> simp
    simp only [txl, T.size, List.length_append, List.length_cons, List.length_nil]
    omega
/-- The texts of all nodes. -/
def txts : T → List ByteArray
  | .leaf k n => [B (txl (.leaf k n))]
  | .neg t => txts t ++ [B (txl (.neg t))]
  | .bin k l r => txts l ++ (txts r ++ [B (txl (.bin k l r))])
theorem txts_length : ∀ t : T, (txts t).length = t.size := by
  intro t
  induction t with
  | leaf k n => rfl
  | neg t ih => simp only [txts, T.size, List.length_append, List.length_singleton, ih]
  | bin k l r ihl ihr => simp only [txts, T.size, List.length_append, List.length_singleton, ihl, ihr]; omega
theorem txts_last (t : T) : ∃ p, txts t = p ++ [B (txl t)] ∧ p.length = t.size - 1 := by
  cases t with
  | leaf k n => exact ⟨[], rfl, rfl⟩
  | neg t => exact ⟨txts t, rfl, by rw [txts_length]; simp only [T.size]; omega⟩
  | bin k l r => exact ⟨txts l ++ txts r, by simp only [txts, List.append_assoc], by rw [List.length_append, txts_length, txts_length]; simp only [T.size]; omega⟩
theorem txts_at (d : ByteArray) (l m : List ByteArray) (t : T) : (l ++ txts t ++ m).getD (l.length + t.size - 1) d = B (txl t) := by
  obtain ⟨p, e, hp⟩ := txts_last t
  have := t.size_pos
  rw [e, List.getD_eq_getElem?_getD, List.append_assoc, List.getElem?_append_right (by omega), List.append_assoc, List.getElem?_append_right (by omega)]
  rw [show l.length + t.size - 1 - l.length - p.length = 0 by omega]
  rfl
theorem root_kind (b : Nat) (t : T) : (T.root b t).f0 = t.kind := by cases t <;> rfl
theorem op_at (t : T) (h : t.ok) (hs : t.size ≤ 1000) (pre post : List S47) (tl tm : List ByteArray) (ht : tl.length = pre.length) (i lo : Int) (hi : i = (pre.length : Int) + t.size - 1) :
    opM (pre ++ lay pre.length t ++ post) (tl ++ txts t ++ tm) i lo = some (B (par (t.kind > lo) (txl t))) := by
  have hp := t.size_pos
  have hl := txl_length t h
  have hr := rd_at pre [] post t i hi
  have hg : (tl ++ txts t ++ tm).getD i.toNat ⟨#[]⟩ = B (txl t) := by
    rw [show i.toNat = tl.length + t.size - 1 by omega]
    exact txts_at _ _ _ _
  have h1 : (pre ++ lay pre.length t ++ post).length = pre.length + t.size + post.length := by rw [List.length_append, List.length_append, lay_length]
  have h2 : (tl ++ txts t ++ tm).length = tl.length + t.size + tm.length := by rw [List.length_append, List.length_append, txts_length]
  unfold opM
  rw [hg, if_pos ⟨by omega, by omega, by omega, by rw [B_size]; omega⟩, hr, root_kind]
  unfold par
  by_cases c : t.kind > lo
  · rw [if_pos c, if_pos c]
    show some (B [40] ++ B (txl t) ++ B [41]) = _
    rw [B_app, B_app]
    rfl
  · rw [if_neg c, if_neg c]
theorem it_small {n : Int} (h0 : 0 ≤ n) (h1 : n ≤ 8) : itM n = some (B (dg n)) := by
  unfold itM
  have e : (⟨(Lib.decDigits n.toNat).toArray⟩ : ByteArray).size ≤ 1000 := by
    show (dg n).length ≤ 1000
    rw [dg_small h0 h1]
    exact Nat.le_of_ble_eq_true rfl
  rw [if_pos ⟨h0, by omega, e⟩]
  rfl
theorem fmt_lay : ∀ (t : T), t.ok → t.size ≤ 1000 → ∀ (pre post rest : List S47) (ts : List ByteArray), ts.length = pre.length →
    fmtL (pre ++ lay pre.length t ++ post) (lay pre.length t ++ rest) ts = fmtL (pre ++ lay pre.length t ++ post) rest (ts ++ txts t) := by
  intro t
  induction t with
  | leaf k n =>
    intro h hs pre post rest ts ht
    have h1 := hi_le k
    have h2 := h.2.2.2
    show (nodeText (pre ++ lay pre.length (.leaf k n) ++ post) ⟨k, n, 0, 0⟩ ts).bind (fun s => fmtL (pre ++ lay pre.length (.leaf k n) ++ post) rest (ts ++ [s])) = _
    have e : nodeText (pre ++ lay pre.length (.leaf k n) ++ post) ⟨k, n, 0, 0⟩ ts = some (B (txl (.leaf k n))) := by
      unfold nodeText txl
      dsimp only
      rw [it_small h.2.2.1 (by omega)]
      by_cases k1 : k = 1
      · rw [if_pos k1, if_pos k1, Option.bind_some]
        show some (B [115, 99, 111, 114, 101, 32] ++ B (dg n)) = _
        rw [B_app]
        rfl
      rw [if_neg k1, if_neg k1]
      by_cases k2 : k = 2
      · rw [if_pos k2, if_pos k2]; rfl
      rw [if_neg k2, if_neg k2]
      by_cases k3 : k = 3
      · rw [if_pos k3, if_pos k3]; rfl
      rw [if_neg k3, if_neg k3]
      have := h.1
      have := h.2.1
      rw [if_pos (show k = 4 by omega), Option.bind_some]
      show some (B [117, 115, 101, 114, 32] ++ B (dg n)) = _
      rw [B_app]
      rfl
    rw [e]
    rfl
  | neg t ih =>
    intro h hs pre post rest ts ht
    have hs1 : (T.neg t).size = t.size + 1 := rfl
    have hs2 : t.size ≤ 1000 := by omega
    have := ih h hs2 pre ([⟨5, 0, (pre.length : Int) + t.size - 1, 0⟩] ++ post) ([⟨5, 0, (pre.length : Int) + t.size - 1, 0⟩] ++ rest) ts ht
    have e1 : pre ++ lay pre.length t ++ ([(⟨5, 0, (pre.length : Int) + t.size - 1, 0⟩ : S47)] ++ post) = pre ++ lay pre.length (T.neg t) ++ post := by simp only [lay, List.append_assoc]
    have e2 : lay pre.length t ++ ([(⟨5, 0, (pre.length : Int) + t.size - 1, 0⟩ : S47)] ++ rest) = lay pre.length (T.neg t) ++ rest := by simp only [lay, List.append_assoc]
    rw [e1, e2] at this
    rw [this]
    have ho := op_at t h hs2 pre ([⟨5, 0, (pre.length : Int) + t.size - 1, 0⟩] ++ post) ts [] ht _ 5 rfl
    rw [e1, List.append_nil] at ho
    show (nodeText (pre ++ lay pre.length (.neg t) ++ post) ⟨5, 0, (pre.length : Int) + t.size - 1, 0⟩ (ts ++ txts t)).bind (fun s => fmtL (pre ++ lay pre.length (.neg t) ++ post) rest (ts ++ txts t ++ [s])) = _
    have e : nodeText (pre ++ lay pre.length (.neg t) ++ post) ⟨5, 0, (pre.length : Int) + t.size - 1, 0⟩ (ts ++ txts t) = some (B (txl (.neg t))) := by
      unfold nodeText
      dsimp only
      rw [if_neg (by decide), if_neg (by decide), if_neg (by decide), if_neg (by decide), if_pos rfl, ho, Option.bind_some]
      show some (B [110, 111, 116, 32] ++ B _) = _
      rw [B_app]
      rfl
    rw [e]
    show fmtL _ _ (ts ++ txts t ++ [_]) = fmtL _ _ (ts ++ (txts t ++ [_]))
    rw [List.append_assoc ts (txts t)]
  | bin k a b iha ihb =>
    intro h hs pre post rest ts ht
    have hs1 : (T.bin k a b).size = a.size + b.size + 1 := rfl
    have hsa : a.size ≤ 1000 := by omega
    have hsb : b.size ≤ 1000 := by omega
    have hA := iha h.2.1 hsa pre (lay (pre.length + a.size) b ++ [⟨k, 0, (pre.length : Int) + a.size - 1, (pre.length : Int) + a.size + b.size - 1⟩] ++ post) (lay (pre.length + a.size) b ++ [⟨k, 0, (pre.length : Int) + a.size - 1, (pre.length : Int) + a.size + b.size - 1⟩] ++ rest) ts ht
    have hB := ihb h.2.2 hsb (pre ++ lay pre.length a) ([⟨k, 0, (pre.length : Int) + a.size - 1, (pre.length : Int) + a.size + b.size - 1⟩] ++ post) ([⟨k, 0, (pre.length : Int) + a.size - 1, (pre.length : Int) + a.size + b.size - 1⟩] ++ rest) (ts ++ txts a) (by rw [List.length_append, List.length_append, txts_length, lay_length, ht])
    have e1 : pre ++ lay pre.length a ++ (lay (pre.length + a.size) b ++ [(⟨k, 0, (pre.length : Int) + a.size - 1, (pre.length : Int) + a.size + b.size - 1⟩ : S47)] ++ post) = pre ++ lay pre.length (T.bin k a b) ++ post := by simp only [lay, List.append_assoc]
    have e2 : pre ++ lay pre.length a ++ lay (pre ++ lay pre.length a).length b ++ ([(⟨k, 0, (pre.length : Int) + a.size - 1, (pre.length : Int) + a.size + b.size - 1⟩ : S47)] ++ post) = pre ++ lay pre.length (T.bin k a b) ++ post := by
      rw [List.length_append, lay_length]
      simp only [lay, List.append_assoc]
    have e3 : lay pre.length a ++ (lay (pre.length + a.size) b ++ [(⟨k, 0, (pre.length : Int) + a.size - 1, (pre.length : Int) + a.size + b.size - 1⟩ : S47)] ++ rest) = lay pre.length (T.bin k a b) ++ rest := by simp only [lay, List.append_assoc]
    have e4 : lay (pre ++ lay pre.length a).length b ++ ([(⟨k, 0, (pre.length : Int) + a.size - 1, (pre.length : Int) + a.size + b.size - 1⟩ : S47)] ++ rest) = lay (pre.length + a.size) b ++ [(⟨k, 0, (pre.length : Int) + a.size - 1, (pre.length : Int) + a.size + b.size - 1⟩ : S47)] ++ rest := by
      rw [List.length_append, lay_length]
      simp only [List.append_assoc]
    rw [e1, e3] at hA
    rw [e2, e4] at hB
    rw [hA, hB]
    have oA := fun lo => op_at a h.2.1 hsa pre (lay (pre.length + a.size) b ++ [⟨k, 0, (pre.length : Int) + a.size - 1, (pre.length : Int) + a.size + b.size - 1⟩] ++ post) ts (txts b) ht _ lo rfl
    have oB := fun lo => op_at b h.2.2 hsb (pre ++ lay pre.length a) ([⟨k, 0, (pre.length : Int) + a.size - 1, (pre.length : Int) + a.size + b.size - 1⟩] ++ post) (ts ++ txts a) [] (by rw [List.length_append, List.length_append, txts_length, lay_length, ht]) ((pre.length : Int) + a.size + b.size - 1) lo (by rw [List.length_append, lay_length]; omega)
    rw [e1] at oA
    rw [e2, List.append_nil] at oB
    show (nodeText (pre ++ lay pre.length (.bin k a b) ++ post) ⟨k, 0, (pre.length : Int) + a.size - 1, (pre.length : Int) + a.size + b.size - 1⟩ (ts ++ txts a ++ txts b)).bind (fun s => fmtL (pre ++ lay pre.length (.bin k a b) ++ post) rest (ts ++ txts a ++ txts b ++ [s])) = _
    have e : nodeText (pre ++ lay pre.length (.bin k a b) ++ post) ⟨k, 0, (pre.length : Int) + a.size - 1, (pre.length : Int) + a.size + b.size - 1⟩ (ts ++ txts a ++ txts b) = some (B (txl (.bin k a b))) := by
      unfold nodeText
      dsimp only
      rcases h.1 with rfl | rfl
      · rw [if_neg (by decide), if_neg (by decide), if_neg (by decide), if_neg (by decide), if_neg (by decide), if_pos rfl, oA, Option.bind_some, oB, Option.bind_some]
        show some (B _ ++ B [32, 97, 110, 100, 32] ++ B _) = _
        rw [B_app, B_app]
        simp [txl, opT]
      · rw [if_neg (by decide), if_neg (by decide), if_neg (by decide), if_neg (by decide), if_neg (by decide), if_neg (by decide), oA, Option.bind_some, oB, Option.bind_some]
        show some (B _ ++ B [32, 111, 114, 32] ++ B _) = _
        rw [B_app, B_app]
        simp [txl, opT]
    rw [e]
    show fmtL _ _ (ts ++ txts a ++ txts b ++ [_]) = fmtL _ _ (ts ++ (txts a ++ (txts b ++ [_])))
    simp only [List.append_assoc]
def polF (t : T) : ByteArray × Int × Int := if (txl t).length > 200 then (B [], 10, -1) else (B (txl t), 0, 0)
theorem Format_ev (t : T) (h : t.ok) (hv : polV (lay 0 t) = (0, 0)) : Ev (fun k => policy_Format.f k (lay 0 t)) (polF t) := by
  have h1 := t.size_pos
  have h2 : t.size ≤ 24 := by
    have := (polV_ok hv).2.1
    rwa [lay_length] at this
  unfold policy_Format.f polF
  have hf := fmt_lay t h (by omega) [] [] [] [] rfl
  simp only [List.nil_append, List.append_nil, List.length_nil] at hf
  refine Ev.bind (Validate_ev _) (Ev.pos (pair_zero.mpr hv) (Ev.pos (by rw [lay_length]; omega) ?_))
  rw [hf]
  show Ev (fun k => (some (txts t)).bind _) _
  simp only [Option.bind_some]
  have hl := txts_length t
  have hg : (txts t).getD ((txts t).length - 1) ⟨#[]⟩ = B (txl t) := by
    have := txts_at ⟨#[]⟩ [] [] t
    rw [List.append_nil, List.nil_append, List.length_nil, Nat.zero_add] at this
    rw [hl]
    exact this
  refine Ev.pos (by omega) ?_
  rw [hg, B_size]
  by_cases c : (txl t).length > 200
  · rw [if_pos c]
    exact Ev.pos (by omega) (Ev.now _)
  · rw [if_neg c]
    exact Ev.neg (by omega) (Ev.now _)
theorem Format_bad (ns : List S47) (hv : polV ns ≠ (0, 0)) : Ev (fun k => policy_Format.f k ns) (B [], (polV ns).1, (polV ns).2) := by
  unfold policy_Format.f
  exact Ev.bind (Validate_ev _) (Ev.neg (fun e => hv (pair_zero.mp e)) (Ev.now _))
end Go.Proofs.YtblkkhddefnkpaaDoor.Pure
