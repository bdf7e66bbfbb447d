/- Validate, Format, Eval and Normal of policies agree with the document: the law PolicyFunctionsMatchSpec returns true, for every policy and facts (within the form's own reach). -/
import Derived.Test.YtblkkhddefnkpaaDoorPurePolN
import Derived.Test.YtblkkhddefnkpaaDoorPf
import Derived.Test.YtblkkhddefnkpaaDoorPPov7
import Derived.Test.YtblkkhddefnkpaaDoorPPov67
import Derived.Test.YtblkkhddefnkpaaDoorPPov68
import Derived.Test.YtblkkhddefnkpaaDoorPPov69
import Derived.Test.YtblkkhddefnkpaaDoorOkPolicyFunctionsMatchSpec
/- POLICY: the plain law of Format -/
namespace Go.Proofs.YtblkkhddefnkpaaDoor.Pure
open Go.RowKit Go.Proofs.YtblkkhddefnkpaaDoorW.PrintWords Go.Proofs.YtblkkhddefnkpaaDoorW.PrintLast Go.Proofs.YtblkkhddefnkpaaDoorW.PrintMore Go.Proofs.YtblkkhddefnkpaaDoor.PPo
set_option linter.unusedVariables false
/-! ### texts -/
def B (l : List UInt8) : ByteArray := ⟨l.toArray⟩
theorem B_app (a b : List UInt8) : B a ++ B b = B (a ++ b) := by
  apply ByteArray.ext
  rw [ByteArray.data_append]
  exact List.append_toArray ..
theorem B_size (a : List UInt8) : (B a).size = a.length := rfl
theorem B_toList (a : List UInt8) : (B a).toList = a := by rw [ByteArray.toList_eq]; rfl
def dg (n : Int) : List UInt8 := Lib.decDigits n.toNat
theorem dg_small {n : Int} (h0 : 0 ≤ n) (h1 : n ≤ 8) : dg n = [UInt8.ofNat (48 + n.toNat)] := by
  unfold dg
  rw [Lib.decDigits, dif_pos (by omega)]
def par (c : Prop) [Decidable c] (x : List UInt8) : List UInt8 := if c then 40 :: (x ++ [41]) else x
def opT (k : Int) : List UInt8 := if k = 6 then [97, 110, 100] else [111, 114]
def txl : T → List UInt8
  | .leaf k n => if k = 1 then [115, 99, 111, 114, 101] ++ ([32] ++ dg n) else if k = 2 then [111, 119, 110, 101, 114, 115] else if k = 3 then [116, 101, 115, 116, 115] else [117, 115, 101, 114] ++ ([32] ++ dg n)
  | .neg t => [110, 111, 116] ++ ([32] ++ par (t.kind > 5) (txl t))
  | .bin k l r => par (l.kind > k) (txl l) ++ ([32] ++ (opT k ++ ([32] ++ par (r.kind > k - 1) (txl r))))
theorem hi_le (k : Int) : hi k ≤ 8 := by unfold hi; repeat' split <;> omega
theorem par_length (c : Prop) [Decidable c] (x : List UInt8) : (par c x).length ≤ x.length + 2 := by
  unfold par
  split
  · simp
  · omega
theorem txl_length : ∀ t : T, t.ok → (txl t).length ≤ 9 * t.size := by
  intro t
  induction t with
  | leaf k n =>
    intro h
    have h1 := hi_le k
    have h2 := h.2.2.2
    unfold txl
    rw [dg_small h.2.2.1 (by omega)]
    repeat' split
    all_goals simp [T.size]
  | neg t ih =>
    intro h
    have := ih h
    have := par_length (t.kind > 5) (txl t)
    simp only [txl, T.size, List.length_append, List.length_cons, List.length_nil]
    omega
  | bin k l r ihl ihr =>
    intro h
    have := ihl h.2.1
    have := ihr h.2.2
    have := par_length (l.kind > k) (txl l)
    have := par_length (r.kind > k - 1) (txl r)
    have h3 : (opT k).length ≤ 3 := by unfold opT; split <;> simp
    simp only [txl, T.size, List.length_append, List.length_cons, List.length_nil]
    omega
/-- The texts of all nodes. -/
def txts : T → List ByteArray
  | .leaf k n => [B (txl (.leaf k n))]
  | .neg t => txts t ++ [B (txl (.neg t))]
  | .bin k l r => txts l ++ (txts r ++ [B (txl (.bin k l r))])
theorem txts_length : ∀ t : T, (txts t).length = t.size := by
  intro t
  induction t with
  | leaf k n => rfl
  | neg t ih => simp only [txts, T.size, List.length_append, List.length_singleton, ih]
  | bin k l r ihl ihr => simp only [txts, T.size, List.length_append, List.length_singleton, ihl, ihr]; omega
theorem txts_last (t : T) : ∃ p, txts t = p ++ [B (txl t)] ∧ p.length = t.size - 1 := by
  cases t with
  | leaf k n => exact ⟨[], rfl, rfl⟩
  | neg t => exact ⟨txts t, rfl, by rw [txts_length]; simp only [T.size]; omega⟩
  | bin k l r => exact ⟨txts l ++ txts r, by simp only [txts, List.append_assoc], by rw [List.length_append, txts_length, txts_length]; simp only [T.size]; omega⟩
theorem txts_at (d : ByteArray) (l m : List ByteArray) (t : T) : (l ++ txts t ++ m).getD (l.length + t.size - 1) d = B (txl t) := by
  obtain ⟨p, e, hp⟩ := txts_last t
  have := t.size_pos
  rw [e, List.getD_eq_getElem?_getD, List.append_assoc, List.getElem?_append_right (by omega), List.append_assoc, List.getElem?_append_right (by omega)]
  rw [show l.length + t.size - 1 - l.length - p.length = 0 by omega]
  rfl
theorem root_kind (b : Nat) (t : T) : (T.root b t).f0 = t.kind := by cases t <;> rfl
theorem op_at (t : T) (h : t.ok) (hs : t.size ≤ 1000) (pre post : List S47) (tl tm : List ByteArray) (ht : tl.length = pre.length) (i lo : Int) (hi : i = (pre.length : Int) + t.size - 1) :
    opM (pre ++ lay pre.length t ++ post) (tl ++ txts t ++ tm) i lo = some (B (par (t.kind > lo) (txl t))) := by
  have hp := t.size_pos
  have hl := txl_length t h
  have hr := rd_at pre [] post t i hi
  have hg : (tl ++ txts t ++ tm).getD i.toNat ⟨#[]⟩ = B (txl t) := by
    rw [show i.toNat = tl.length + t.size - 1 by omega]
    exact txts_at _ _ _ _
  have h1 : (pre ++ lay pre.length t ++ post).length = pre.length + t.size + post.length := by rw [List.length_append, List.length_append, lay_length]
  have h2 : (tl ++ txts t ++ tm).length = tl.length + t.size + tm.length := by rw [List.length_append, List.length_append, txts_length]
  unfold opM
  rw [hg, if_pos ⟨by omega, by omega, by omega, by rw [B_size]; omega⟩, hr, root_kind]
  unfold par
  by_cases c : t.kind > lo
  · rw [if_pos c, if_pos c]
    show some (B [40] ++ B (txl t) ++ B [41]) = _
    rw [B_app, B_app]
    rfl
  · rw [if_neg c, if_neg c]
theorem it_small {n : Int} (h0 : 0 ≤ n) (h1 : n ≤ 8) : itM n = some (B (dg n)) := by
  unfold itM
  have e : (⟨(Lib.decDigits n.toNat).toArray⟩ : ByteArray).size ≤ 1000 := by
    show (dg n).length ≤ 1000
    rw [dg_small h0 h1]
    exact Nat.le_of_ble_eq_true rfl
  rw [if_pos ⟨h0, by omega, e⟩]
  rfl
theorem fmt_lay : ∀ (t : T), t.ok → t.size ≤ 1000 → ∀ (pre post rest : List S47) (ts : List ByteArray), ts.length = pre.length →
    fmtL (pre ++ lay pre.length t ++ post) (lay pre.length t ++ rest) ts = fmtL (pre ++ lay pre.length t ++ post) rest (ts ++ txts t) := by
  intro t
  induction t with
  | leaf k n =>
    intro h hs pre post rest ts ht
    have h1 := hi_le k
    have h2 := h.2.2.2
    show (nodeText (pre ++ lay pre.length (.leaf k n) ++ post) ⟨k, n, 0, 0⟩ ts).bind (fun s => fmtL (pre ++ lay pre.length (.leaf k n) ++ post) rest (ts ++ [s])) = _
    have e : nodeText (pre ++ lay pre.length (.leaf k n) ++ post) ⟨k, n, 0, 0⟩ ts = some (B (txl (.leaf k n))) := by
      unfold nodeText txl
      dsimp only
      rw [it_small h.2.2.1 (by omega)]
      by_cases k1 : k = 1
      · rw [if_pos k1, if_pos k1, Option.bind_some]
        show some (B [115, 99, 111, 114, 101, 32] ++ B (dg n)) = _
        rw [B_app]
        rfl
      rw [if_neg k1, if_neg k1]
      by_cases k2 : k = 2
      · rw [if_pos k2, if_pos k2]; rfl
      rw [if_neg k2, if_neg k2]
      by_cases k3 : k = 3
      · rw [if_pos k3, if_pos k3]; rfl
      rw [if_neg k3, if_neg k3]
      have := h.1
      have := h.2.1
      rw [if_pos (show k = 4 by omega), Option.bind_some]
      show some (B [117, 115, 101, 114, 32] ++ B (dg n)) = _
      rw [B_app]
      rfl
    rw [e]
    rfl
  | neg t ih =>
    intro h hs pre post rest ts ht
    have hs1 : (T.neg t).size = t.size + 1 := rfl
    have hs2 : t.size ≤ 1000 := by omega
    have := ih h hs2 pre ([⟨5, 0, (pre.length : Int) + t.size - 1, 0⟩] ++ post) ([⟨5, 0, (pre.length : Int) + t.size - 1, 0⟩] ++ rest) ts ht
    have e1 : pre ++ lay pre.length t ++ ([(⟨5, 0, (pre.length : Int) + t.size - 1, 0⟩ : S47)] ++ post) = pre ++ lay pre.length (T.neg t) ++ post := by simp only [lay, List.append_assoc]
    have e2 : lay pre.length t ++ ([(⟨5, 0, (pre.length : Int) + t.size - 1, 0⟩ : S47)] ++ rest) = lay pre.length (T.neg t) ++ rest := by simp only [lay, List.append_assoc]
    rw [e1, e2] at this
    rw [this]
    have ho := op_at t h hs2 pre ([⟨5, 0, (pre.length : Int) + t.size - 1, 0⟩] ++ post) ts [] ht _ 5 rfl
    rw [e1, List.append_nil] at ho
    show (nodeText (pre ++ lay pre.length (.neg t) ++ post) ⟨5, 0, (pre.length : Int) + t.size - 1, 0⟩ (ts ++ txts t)).bind (fun s => fmtL (pre ++ lay pre.length (.neg t) ++ post) rest (ts ++ txts t ++ [s])) = _
    have e : nodeText (pre ++ lay pre.length (.neg t) ++ post) ⟨5, 0, (pre.length : Int) + t.size - 1, 0⟩ (ts ++ txts t) = some (B (txl (.neg t))) := by
      unfold nodeText
      dsimp only
      rw [if_neg (by decide), if_neg (by decide), if_neg (by decide), if_neg (by decide), if_pos rfl, ho, Option.bind_some]
      show some (B [110, 111, 116, 32] ++ B _) = _
      rw [B_app]
      rfl
    rw [e]
    show fmtL _ _ (ts ++ txts t ++ [_]) = fmtL _ _ (ts ++ (txts t ++ [_]))
    rw [List.append_assoc ts (txts t)]
  | bin k a b iha ihb =>
    intro h hs pre post rest ts ht
    have hs1 : (T.bin k a b).size = a.size + b.size + 1 := rfl
    have hsa : a.size ≤ 1000 := by omega
    have hsb : b.size ≤ 1000 := by omega
    have hA := iha h.2.1 hsa pre (lay (pre.length + a.size) b ++ [⟨k, 0, (pre.length : Int) + a.size - 1, (pre.length : Int) + a.size + b.size - 1⟩] ++ post) (lay (pre.length + a.size) b ++ [⟨k, 0, (pre.length : Int) + a.size - 1, (pre.length : Int) + a.size + b.size - 1⟩] ++ rest) ts ht
    have hB := ihb h.2.2 hsb (pre ++ lay pre.length a) ([⟨k, 0, (pre.length : Int) + a.size - 1, (pre.length : Int) + a.size + b.size - 1⟩] ++ post) ([⟨k, 0, (pre.length : Int) + a.size - 1, (pre.length : Int) + a.size + b.size - 1⟩] ++ rest) (ts ++ txts a) (by rw [List.length_append, List.length_append, txts_length, lay_length, ht])
    have e1 : pre ++ lay pre.length a ++ (lay (pre.length + a.size) b ++ [(⟨k, 0, (pre.length : Int) + a.size - 1, (pre.length : Int) + a.size + b.size - 1⟩ : S47)] ++ post) = pre ++ lay pre.length (T.bin k a b) ++ post := by simp only [lay, List.append_assoc]
    have e2 : pre ++ lay pre.length a ++ lay (pre ++ lay pre.length a).length b ++ ([(⟨k, 0, (pre.length : Int) + a.size - 1, (pre.length : Int) + a.size + b.size - 1⟩ : S47)] ++ post) = pre ++ lay pre.length (T.bin k a b) ++ post := by
      rw [List.length_append, lay_length]
      simp only [lay, List.append_assoc]
    have e3 : lay pre.length a ++ (lay (pre.length + a.size) b ++ [(⟨k, 0, (pre.length : Int) + a.size - 1, (pre.length : Int) + a.size + b.size - 1⟩ : S47)] ++ rest) = lay pre.length (T.bin k a b) ++ rest := by simp only [lay, List.append_assoc]
    have e4 : lay (pre ++ lay pre.length a).length b ++ ([(⟨k, 0, (pre.length : Int) + a.size - 1, (pre.length : Int) + a.size + b.size - 1⟩ : S47)] ++ rest) = lay (pre.length + a.size) b ++ [(⟨k, 0, (pre.length : Int) + a.size - 1, (pre.length : Int) + a.size + b.size - 1⟩ : S47)] ++ rest := by
      rw [List.length_append, lay_length]
      simp only [List.append_assoc]
    rw [e1, e3] at hA
    rw [e2, e4] at hB
    rw [hA, hB]
    have oA := fun lo => op_at a h.2.1 hsa pre (lay (pre.length + a.size) b ++ [⟨k, 0, (pre.length : Int) + a.size - 1, (pre.length : Int) + a.size + b.size - 1⟩] ++ post) ts (txts b) ht _ lo rfl
    have oB := fun lo => op_at b h.2.2 hsb (pre ++ lay pre.length a) ([⟨k, 0, (pre.length : Int) + a.size - 1, (pre.length : Int) + a.size + b.size - 1⟩] ++ post) (ts ++ txts a) [] (by rw [List.length_append, List.length_append, txts_length, lay_length, ht]) ((pre.length : Int) + a.size + b.size - 1) lo (by rw [List.length_append, lay_length]; omega)
    rw [e1] at oA
    rw [e2, List.append_nil] at oB
    show (nodeText (pre ++ lay pre.length (.bin k a b) ++ post) ⟨k, 0, (pre.length : Int) + a.size - 1, (pre.length : Int) + a.size + b.size - 1⟩ (ts ++ txts a ++ txts b)).bind (fun s => fmtL (pre ++ lay pre.length (.bin k a b) ++ post) rest (ts ++ txts a ++ txts b ++ [s])) = _
    have e : nodeText (pre ++ lay pre.length (.bin k a b) ++ post) ⟨k, 0, (pre.length : Int) + a.size - 1, (pre.length : Int) + a.size + b.size - 1⟩ (ts ++ txts a ++ txts b) = some (B (txl (.bin k a b))) := by
      unfold nodeText
      dsimp only
      rcases h.1 with rfl | rfl
      · rw [if_neg (by decide), if_neg (by decide), if_neg (by decide), if_neg (by decide), if_neg (by decide), if_pos rfl, oA, Option.bind_some, oB, Option.bind_some]
        show some (B _ ++ B [32, 97, 110, 100, 32] ++ B _) = _
        rw [B_app, B_app]
        simp [txl, opT]
      · rw [if_neg (by decide), if_neg (by decide), if_neg (by decide), if_neg (by decide), if_neg (by decide), if_neg (by decide), oA, Option.bind_some, oB, Option.bind_some]
        show some (B _ ++ B [32, 111, 114, 32] ++ B _) = _
        rw [B_app, B_app]
        simp [txl, opT]
    rw [e]
    show fmtL _ _ (ts ++ txts a ++ txts b ++ [_]) = fmtL _ _ (ts ++ (txts a ++ (txts b ++ [_])))
    simp only [List.append_assoc]
def polF (t : T) : ByteArray × Int × Int := if (txl t).length > 200 then (B [], 10, -1) else (B (txl t), 0, 0)
theorem Format_ev (t : T) (h : t.ok) (hv : polV (lay 0 t) = (0, 0)) : Ev (fun k => policy_Format.f k (lay 0 t)) (polF t) := by
  have h1 := t.size_pos
  have h2 : t.size ≤ 24 := by
    have := (polV_ok hv).2.1
    rwa [lay_length] at this
  unfold policy_Format.f polF
  have hf := fmt_lay t h (by omega) [] [] [] [] rfl
  simp only [List.nil_append, List.append_nil, List.length_nil] at hf
  refine Ev.bind (Validate_ev _) (Ev.pos (pair_zero.mpr hv) (Ev.pos (by rw [lay_length]; omega) ?_))
  rw [hf]
  show Ev (fun k => (some (txts t)).bind _) _
  simp only [Option.bind_some]
  have hl := txts_length t
  have hg : (txts t).getD ((txts t).length - 1) ⟨#[]⟩ = B (txl t) := by
    have := txts_at ⟨#[]⟩ [] [] t
    rw [List.append_nil, List.nil_append, List.length_nil, Nat.zero_add] at this
    rw [hl]
    exact this
  refine Ev.pos (by omega) ?_
  rw [hg, B_size]
  by_cases c : (txl t).length > 200
  · rw [if_pos c]
    exact Ev.pos (by omega) (Ev.now _)
  · rw [if_neg c]
    exact Ev.neg (by omega) (Ev.now _)
theorem Format_bad (ns : List S47) (hv : polV ns ≠ (0, 0)) : Ev (fun k => policy_Format.f k ns) (B [], (polV ns).1, (polV ns).2) := by
  unfold policy_Format.f
  exact Ev.bind (Validate_ev _) (Ev.neg (fun e => hv (pair_zero.mp e)) (Ev.now _))
end Go.Proofs.YtblkkhddefnkpaaDoor.Pure
/- POLICY: the document's own functions: PolicyFault -/
namespace Go.Proofs.YtblkkhddefnkpaaDoor.Pure
open Go.RowKit Go.Proofs.YtblkkhddefnkpaaDoorW.PrintWords Go.Proofs.YtblkkhddefnkpaaDoorW.PrintLast Go.Proofs.YtblkkhddefnkpaaDoorW.PrintMore Go.Proofs.YtblkkhddefnkpaaDoor.PPo
set_option linter.unusedVariables false
theorem most_eq (a : Int) : changeforgeref7_most.f a = some (hi a) := by
  unfold changeforgeref7_most.f hi
  split
  · rfl
  · split <;> rfl
theorem Fault_eq (a b : Int) : qF_.f a b = some (a, b) := rfl
/-- What the list l of shapes says of the nodes of ns so far. -/
def SZ (ns : List S47) (l : List S62) : Prop := ∀ i : Int, 0 ≤ i → i < (l.length : Int) → Ev (fun k => qt_.f k ns i) (rd_T62 l i).f0 ∧ Ev (fun k => changeforgeref7_Depth.f k ns i) (rd_T62 l i).f1
theorem rd62_push {l : List S62} {s : S62} {i : Int} (h0 : 0 ≤ i) (h1 : i < (l.length : Int)) : rd_T62 (l ++ [s]) i = rd_T62 l i := by
  unfold rd_T62
  simp only [List.getD_eq_getElem?_getD]
  rw [List.getElem?_append_left (by omega)]
theorem rd62_last {l : List S62} {s : S62} : rd_T62 (l ++ [s]) (l.length : Int) = s := by
  unfold rd_T62
  simp only [List.getD_eq_getElem?_getD]
  rw [List.getElem?_append_right (by omega), Int.toNat_natCast, Nat.sub_self]
  rfl
theorem SZ.push {ns : List S47} {l : List S62} (h : SZ ns l) (hv : Inv l) (hl : l.length ≤ 24) (hn : (l.length : Int) < (ns.length : Int)) {n : S47} (he : qj_ ns (l.length : Int) = n) (hc : ncode l n = 0) : SZ ns (l ++ [shp l n]) := by
  intro i h0 h1
  rw [List.length_append, List.length_singleton] at h1
  by_cases hi : i < (l.length : Int)
  · rw [rd62_push h0 hi]
    exact h i h0 hi
  · have e : i = (l.length : Int) := by omega
    subst e
    rw [rd62_last]
    have hk := code_ok hc
    have hw : wrap64 ((l.length : Int) - 1) = (l.length : Int) - 1 := w64 (by omega) (by omega)
    by_cases c5 : n.f0 < 5
    · have es : shp l n = ⟨1, 1⟩ := by unfold shp; rw [if_pos c5]
      rw [es]
      constructor
      · refine Ev.succ ?_
        simp only [qt_.f, he]
        exact Ev.neg (by omega) (Ev.pos (by omega) (Ev.pos (by omega) (Ev.pos c5 (Ev.now _))))
      · refine Ev.succ ?_
        simp only [changeforgeref7_Depth.f, he]
        exact Ev.pos (by omega) (Ev.pos (by omega) (Ev.pos c5 (Ev.now _)))
    · have hkid := kids hv hc (by omega)
      by_cases e5 : n.f0 = 5
      · have es : shp l n = ⟨1 + (rd_T62 l n.f2).f0, 1 + (rd_T62 l n.f2).f1⟩ := by unfold shp; rw [if_neg c5, if_pos e5]
        obtain ⟨_, a, b⟩ := hk.2.2.2.1 e5
        have hs := h ((l.length : Int) - 1) (by omega) (by omega)
        have hr := hv.rd (i := (l.length : Int) - 1) (by omega) (by omega)
        rw [es, b]
        dsimp only
        constructor
        · refine Ev.succ ?_
          simp only [qt_.f, he, hw]
          refine Ev.neg (by omega) (Ev.pos (by omega) (Ev.pos (by omega) (Ev.neg c5 (Ev.bind hs.1 (Ev.neg (by omega) ?_)))))
          refine Ev.succ ?_
          simp only [qt_.j0]
          refine Ev.pos (by rw [e5]; rfl) ?_
          rw [w64 (by omega) (by omega), Int.add_comm]
          exact Ev.now _
        · refine Ev.succ ?_
          simp only [changeforgeref7_Depth.f, he, b]
          refine Ev.pos (by omega) (Ev.pos (by omega) (Ev.neg c5 (Ev.bind hs.2 (Ev.neg (by omega) ?_))))
          rw [w64 (by omega) (by omega), Int.add_comm]
          exact Ev.now _
      · have es : shp l n = ⟨1 + (rd_T62 l n.f2).f0 + (rd_T62 l n.f3).f0, mx (1 + (rd_T62 l n.f2).f1) (1 + (rd_T62 l n.f3).f1)⟩ := by unfold shp; rw [if_neg c5, if_neg e5]
        obtain ⟨a, b, c, d⟩ := hk.2.2.2.2 (by omega)
        have hs := h ((l.length : Int) - 1) (by omega) (by omega)
        have hr := hv.rd (i := (l.length : Int) - 1) (by omega) (by omega)
        have hs2 := h n.f2 (by omega) (by omega)
        have hr2 := hv.rd (i := n.f2) (by omega) (by omega)
        rw [es, b]
        dsimp only
        constructor
        · refine Ev.succ ?_
          simp only [qt_.f, he, hw]
          refine Ev.neg (by omega) (Ev.pos (by omega) (Ev.pos (by omega) (Ev.neg c5 (Ev.bind hs.1 (Ev.neg (by omega) ?_)))))
          refine Ev.succ ?_
          simp only [qt_.j0]
          refine Ev.neg (by rw [beq_iff_eq]; exact e5) ?_
          rw [hw, w64 (by omega) (by omega), ← c]
          refine Ev.bind hs2.1 (Ev.neg (by omega) ?_)
          rw [w64 (x := 1 + _) (by omega) (by omega), w64 (by omega) (by omega)]
          exact Ev.now _
        · refine Ev.succ ?_
          simp only [changeforgeref7_Depth.f, he, b]
          refine Ev.pos (by omega) (Ev.pos (by omega) (Ev.neg c5 (Ev.bind hs2.2 (Ev.pos (by omega) (Ev.bind hs.2 ?_)))))
          have : wrap64 (mx (rd_T62 l n.f2).f1 (rd_T62 l ((l.length : Int) - 1)).f1 + 1) = mx (1 + (rd_T62 l n.f2).f1) (1 + (rd_T62 l ((l.length : Int) - 1)).f1) := by
            unfold mx
            split <;> split <;> rw [w64 (by omega) (by omega)] <;> omega
          rw [this]
          exact Ev.now _
theorem refCode_ev {ns : List S47} {l : List S62} (h : SZ ns l) (hv : Inv l) (hl : l.length ≤ 24) (hn : (l.length : Int) < (ns.length : Int)) {n : S47} (he : qj_ ns (l.length : Int) = n) : Ev (fun k => qo_.f k ns (l.length : Int)) (ncode l n) := by
  have hw : wrap64 ((l.length : Int) - 1) = (l.length : Int) - 1 := w64 (by omega) (by omega)
  unfold qo_.f
  rw [he]
  refine Ev.pos (by omega) (Ev.pos hn ?_)
  by_cases k1 : n.f0 < 1 ∨ n.f0 > 7
  · rw [show ncode l n = 4 from by unfold ncode; rw [if_pos k1]]
    by_cases k0 : n.f0 < 1
    · refine Ev.pos k0 (Ev.succ ?_)
      simp only [qo_.j0]
      exact Ev.pos (by simp) (Ev.now _)
    · refine Ev.neg k0 (Ev.succ ?_)
      simp only [qo_.j0]
      exact Ev.pos (by rw [decide_eq_true_iff]; omega) (Ev.now _)
  refine Ev.neg (by omega) (Ev.succ ?_)
  simp only [qo_.j0, most_eq, Option.bind_some]
  refine Ev.neg (by rw [decide_eq_true_iff]; omega) ?_
  by_cases k2 : n.f1 < 0 ∨ n.f1 > hi n.f0
  · rw [show ncode l n = 3 from by unfold ncode; rw [if_neg k1, if_pos k2]]
    by_cases k0 : n.f1 < 0
    · refine Ev.pos k0 (Ev.succ ?_)
      simp only [qo_.j1]
      exact Ev.pos (by simp) (Ev.now _)
    · refine Ev.neg k0 (Ev.succ ?_)
      simp only [qo_.j1]
      exact Ev.pos (by rw [decide_eq_true_iff]; omega) (Ev.now _)
  refine Ev.neg (by omega) (Ev.succ ?_)
  simp only [qo_.j1]
  refine Ev.neg (by rw [decide_eq_true_iff]; omega) ?_
  by_cases k5 : n.f0 < 5
  · refine Ev.pos k5 ?_
    by_cases a : n.f2 = 0
    · refine Ev.pos a ?_
      by_cases b : n.f3 = 0
      · rw [show ncode l n = 0 from by unfold ncode; rw [if_neg k1, if_neg k2, if_neg (by omega), if_neg (by omega), if_neg (by omega)]]
        exact Ev.pos b (Ev.now _)
      · rw [show ncode l n = 5 from by unfold ncode; rw [if_neg k1, if_neg k2, if_pos (by omega)]]
        exact Ev.neg b (Ev.now _)
    · rw [show ncode l n = 5 from by unfold ncode; rw [if_neg k1, if_neg k2, if_pos (by omega)]]
      exact Ev.neg a (Ev.now _)
  refine Ev.neg k5 ?_
  by_cases kz : (l.length : Int) = 0
  · refine Ev.pos kz ?_
    by_cases e5 : n.f0 = 5
    · by_cases b : n.f3 = 0
      · rw [show ncode l n = 5 from by unfold ncode; rw [if_neg k1, if_neg k2, if_neg (by omega), if_pos (by omega)]]; exact Ev.now _
      · rw [show ncode l n = 5 from by unfold ncode; rw [if_neg k1, if_neg k2, if_pos (by omega)]]; exact Ev.now _
    · rw [show ncode l n = 5 from by unfold ncode; rw [if_neg k1, if_neg k2, if_neg (by omega), if_neg (by omega), if_pos (by omega)]]; exact Ev.now _
  refine Ev.neg kz ?_
  by_cases e5 : n.f0 = 5
  · refine Ev.pos e5 ?_
    rw [hw]
    by_cases a : n.f2 = (l.length : Int) - 1
    · refine Ev.pos a (Ev.succ ?_)
      simp only [qo_.j2]
      by_cases b : n.f3 = 0
      · rw [show ncode l n = 0 from by unfold ncode; rw [if_neg k1, if_neg k2, if_neg (by omega), if_neg (by omega), if_neg (by omega)]]
        exact Ev.neg (by rw [b]; decide) (Ev.now _)
      · rw [show ncode l n = 5 from by unfold ncode; rw [if_neg k1, if_neg k2, if_pos (by omega)]]
        exact Ev.pos (bne_iff_ne.mpr b) (Ev.now _)
    · refine Ev.neg a (Ev.succ ?_)
      simp only [qo_.j2]
      by_cases b : n.f3 = 0
      · rw [show ncode l n = 5 from by unfold ncode; rw [if_neg k1, if_neg k2, if_neg (by omega), if_pos (by omega)]]
        exact Ev.pos (by simp) (Ev.now _)
      · rw [show ncode l n = 5 from by unfold ncode; rw [if_neg k1, if_neg k2, if_pos (by omega)]]
        exact Ev.pos (by simp) (Ev.now _)
  · refine Ev.neg e5 ?_
    rw [hw]
    have hs := h ((l.length : Int) - 1) (by omega) (by omega)
    have hr := hv.rd (i := (l.length : Int) - 1) (by omega) (by omega)
    refine Ev.bind hs.1 ?_
    rw [w64 (by omega) (by omega)]
    by_cases a : n.f3 = (l.length : Int) - 1
    · refine Ev.pos a ?_
      by_cases b : (l.length : Int) - 1 - (rd_T62 l ((l.length : Int) - 1)).f0 < 0
      · rw [show ncode l n = 5 from by unfold ncode; rw [if_neg k1, if_neg k2, if_neg (by omega), if_neg (by omega), if_pos (by omega)]]
        exact Ev.pos b (Ev.now _)
      · refine Ev.neg b ?_
        by_cases c : n.f2 = (l.length : Int) - 1 - (rd_T62 l ((l.length : Int) - 1)).f0
        · rw [show ncode l n = 0 from by unfold ncode; rw [if_neg k1, if_neg k2, if_neg (by omega), if_neg (by omega), if_neg (by omega)]]
          exact Ev.pos c (Ev.now _)
        · rw [show ncode l n = 5 from by unfold ncode; rw [if_neg k1, if_neg k2, if_neg (by omega), if_neg (by omega), if_pos (by omega)]]
          exact Ev.neg c (Ev.now _)
    · rw [show ncode l n = 5 from by unfold ncode; rw [if_neg k1, if_neg k2, if_neg (by omega), if_neg (by omega), if_pos (by omega)]]
      exact Ev.neg a (Ev.now _)
theorem fault_l0_ev : ∀ (rest pre : List S47) (l : List S62), pre.length = l.length → (pre ++ rest).length ≤ 24 → (pre ++ rest).length ≠ 0 → Inv l → SZ (pre ++ rest) l →
    Ev (fun k => qr_.l0 k ((pre ++ rest).length : Int) (l.length : Int) (pre ++ rest)) (valL (pre ++ rest).length l rest) := by
  intro rest
  induction rest with
  | nil =>
    intro pre l hp hn h0 hv hz
    rw [List.append_nil] at *
    refine Ev.succ ?_
    unfold qr_.l0 valL
    have e1 : wrap64 ((pre.length : Int) - 1) = (l.length : Int) - 1 := by rw [w64 (by omega) (by omega)]; omega
    have hs := hz ((l.length : Int) - 1) (by omega) (by omega)
    rw [e1]
    refine Ev.neg (by omega) (Ev.bind hs.1 ?_)
    by_cases h1 : (rd_T62 l ((l.length : Int) - 1)).f0 = (pre.length : Int)
    · rw [if_pos h1]
      refine Ev.pos h1 (Ev.bind hs.2 ?_)
      by_cases h2 : (rd_T62 l ((l.length : Int) - 1)).f1 > 12
      · rw [if_pos h2, if_pos h2]; exact Ev.now _
      · rw [if_neg h2, if_neg h2]; exact Ev.now _
    · rw [if_neg h1]; exact Ev.neg h1 (Ev.now _)
  | cons n t ih =>
    intro pre l hp hn h0 hv hz
    have hlen : (pre ++ n :: t).length = pre.length + (t.length + 1) := by rw [List.length_append, List.length_cons]
    have hl : l.length ≤ 24 := by omega
    have er : qj_ (pre ++ n :: t) (l.length : Int) = n := by rw [← hp]; exact rd_mid
    have e1 : wrap64 ((l.length : Int) + 1) = ((l ++ [shp l n]).length : Int) := by rw [w64 (by omega) (by omega), List.length_append, List.length_singleton]; omega
    have hc := refCode_ev hz hv hl (by omega) er
    refine Ev.succ ?_
    unfold qr_.l0 valL
    rw [e1]
    refine Ev.pos (by omega) (Ev.bind hc ?_)
    by_cases h1 : ncode l n = 0
    · rw [if_pos h1]
      refine Ev.pos h1 ?_
      have := ih (pre ++ [n]) (l ++ [shp l n]) (by simp [hp]) (by simpa using hn) (by simp) (hv.push (shp_inv hv h1).1 (shp_inv hv h1).2) (by rw [List.append_assoc, List.singleton_append]; exact hz.push hv hl (by omega) er h1)
      rw [List.append_assoc, List.singleton_append] at this
      exact this
    · rw [if_neg h1]
      exact Ev.neg h1 (Ev.bind hc (Ev.now _))
theorem PolicyFault_ev (ns : List S47) : Ev (fun k => qr_.f k ns) (polV ns) := by
  unfold qr_.f polV
  by_cases h0 : (ns.length : Int) = 0
  · rw [if_pos h0]; exact Ev.pos h0 (Ev.now _)
  rw [if_neg h0]
  refine Ev.neg h0 ?_
  by_cases h1 : (ns.length : Int) > 24
  · rw [if_pos h1]; exact Ev.pos h1 (Ev.now _)
  rw [if_neg h1]
  refine Ev.neg h1 ?_
  exact fault_l0_ev ns [] [] rfl (by simpa using (by omega : ns.length ≤ 24)) (by rw [List.nil_append]; omega) (fun j hj => absurd hj (by simp)) (fun i h0 h1 => absurd h1 (by simp only [List.length_nil]; omega))
end Go.Proofs.YtblkkhddefnkpaaDoor.Pure
/- POLICY: the document's own functions on trees: Written, True, Negated -/
namespace Go.Proofs.YtblkkhddefnkpaaDoor.Pure
open Go.RowKit Go.Proofs.YtblkkhddefnkpaaDoorW.PrintWords Go.Proofs.YtblkkhddefnkpaaDoorW.PrintLast Go.Proofs.YtblkkhddefnkpaaDoorW.PrintMore Go.Proofs.YtblkkhddefnkpaaDoor.PPo
set_option linter.unusedVariables false
/-! ### Written -/
def dgs : ByteArray := ⟨#[48, 49, 50, 51, 52, 53, 54, 55, 56]⟩
theorem dgs_ext {n : Int} (h0 : 0 ≤ n) (h1 : n ≤ 8) : dgs.extract n.toNat (wrap64 (n + 1)).toNat = B (dg n) := by
  rw [w64 (by omega) (by omega)]
  have : n = 0 ∨ n = 1 ∨ n = 2 ∨ n = 3 ∨ n = 4 ∨ n = 5 ∨ n = 6 ∨ n = 7 ∨ n = 8 := by omega
  rw [dg_small h0 h1]
  rcases this with rfl | rfl | rfl | rfl | rfl | rfl | rfl | rfl | rfl <;> rfl
variable {ns : List S47} {lo kd n1 n2 n3 : Int} {r : ByteArray} {x : ByteArray}
theorem w5 (s : List UInt8) (hs : s.length ≤ 100000) (h : kd ≠ 7) : Ev (fun k => qi_.j5 k lo (B s) ns kd n1 n2 n3) (B (par (kd > lo) s)) := by
  refine Ev.succ ?_
  simp only [qi_.j5]
  refine Ev.neg h ?_
  have e7 : (⟨#[40]⟩ : ByteArray).size = 1 := rfl
  by_cases c : kd > lo
  · rw [show par (kd > lo) s = 40 :: (s ++ [41]) from by unfold par; rw [if_pos c]]
    have e : ((⟨#[40]⟩ : ByteArray) ++ B s) ++ (⟨#[41]⟩ : ByteArray) = B (40 :: (s ++ [41])) := by
      show B [40] ++ B s ++ B [41] = _
      rw [B_app, B_app]
      rfl
    rw [e]
    exact Ev.pos c (Ev.pos (by rw [B_size]; omega) (Ev.pos (by rw [ByteArray.size_append, B_size]; omega) (Ev.now _)))
  · rw [show par (kd > lo) s = s from by unfold par; rw [if_neg c]]
    exact Ev.neg c (Ev.now _)
theorem w4 (h : kd ≠ 6) (hr : Ev (fun k => qi_.j5 k lo x ns kd n1 n2 n3) r) : Ev (fun k => qi_.j4 k lo x ns kd n1 n2 n3) r := by
  refine Ev.succ ?_
  simp only [qi_.j4]
  exact Ev.neg h hr
theorem w3 (h : kd ≠ 5) (hr : Ev (fun k => qi_.j4 k lo x ns kd n1 n2 n3) r) : Ev (fun k => qi_.j3 k lo x ns kd n1 n2 n3) r := by
  refine Ev.succ ?_
  simp only [qi_.j3]
  exact Ev.neg h hr
theorem w2 (h : kd ≠ 4) (hr : Ev (fun k => qi_.j3 k lo x ns kd n1 n2 n3) r) : Ev (fun k => qi_.j2 k lo dgs x ns kd n1 n2 n3) r := by
  refine Ev.succ ?_
  simp only [qi_.j2]
  exact Ev.neg h hr
theorem w1 (h : kd ≠ 3) (hr : Ev (fun k => qi_.j2 k lo dgs x ns kd n1 n2 n3) r) : Ev (fun k => qi_.j1 k lo dgs x ns kd n1 n2 n3) r := by
  refine Ev.succ ?_
  simp only [qi_.j1]
  exact Ev.neg h hr
theorem w0 (h : kd ≠ 2) (hr : Ev (fun k => qi_.j1 k lo dgs x ns kd n1 n2 n3) r) : Ev (fun k => qi_.j0 k lo dgs x ns kd n1 n2 n3) r := by
  refine Ev.succ ?_
  simp only [qi_.j0]
  exact Ev.neg h hr
theorem wf {i : Int} (h0 : 0 ≤ i) (h1 : i < (ns.length : Int)) (h : (qj_ ns i).f0 ≠ 1) (hr : Ev (fun k => qi_.j0 k lo dgs (B []) ns (qj_ ns i).f0 (qj_ ns i).f1 (qj_ ns i).f2 (qj_ ns i).f3) r) : Ev (fun k => qi_.f k ns i lo) r := by
  refine Ev.succ ?_
  simp only [qi_.f]
  exact Ev.pos h0 (Ev.pos h1 (Ev.neg h hr))
theorem Written_ev : ∀ (t : T), t.ok → t.size ≤ 1000 → ∀ (lo : Int) (pre post : List S47) (i : Int), i = (pre.length : Int) + t.size - 1 → Ev (fun k => qi_.f k (pre ++ lay pre.length t ++ post) i lo) (B (par (t.kind > lo) (txl t))) := by
  intro t
  induction t with
  | leaf k n =>
    intro h hs lo pre post i hi
    have hl := txl_length _ h
    have hr := rd_at pre [] post (.leaf k n) i hi
    have hsz : (T.leaf k n).size = 1 := rfl
    have hL : (pre ++ lay pre.length (T.leaf k n) ++ post).length = pre.length + 1 + post.length := by rw [List.length_append, List.length_append, lay_length]; rfl
    have h1 := hi_le k
    have h2 := h.2.2.2
    have hd := dgs_ext h.2.2.1 (show n ≤ 8 by omega)
    have hg := dg_small h.2.2.1 (show n ≤ 8 by omega)
    have hgl : (dg n).length = 1 := by rw [hg]; rfl
    generalize hns : pre ++ lay pre.length (T.leaf k n) ++ post = ns at *
    dsimp only [T.root] at hr
    show Ev _ (B (Pure.par (k > lo) _))
    by_cases k1 : k = 1
    · subst k1
      have e : txl (.leaf 1 n) = [115, 99, 111, 114, 101] ++ ([32] ++ dg n) := by unfold txl; rw [if_pos rfl]
      rw [e]
      refine Ev.succ ?_
      simp only [qi_.f, hr]
      have hw : wrap64 (n + 1) = n + 1 := w64 (by have := h.2.2.1; omega) (by omega)
      refine Ev.pos (by omega) (Ev.pos (by omega) (Ev.pos trivial (Ev.pos h.2.2.1 (Ev.pos (by omega) (Ev.pos (by omega) ?_)))))
      show Ev (fun k => if 6 + (dgs.extract n.toNat (wrap64 (n + 1)).toNat).size ≤ 9223372036854775807 then qi_.j0 k lo dgs (B [115, 99, 111, 114, 101, 32] ++ dgs.extract n.toNat (wrap64 (n + 1)).toNat) ns 1 n 0 0 else none) _
      rw [hd, B_app]
      refine Ev.pos (by rw [B_size]; omega) ?_
      exact w0 (by decide) (w1 (by decide) (w2 (by decide) (w3 (by decide) (w4 (by decide) (w5 _ (by simp [hgl]) (by decide))))))
    have hk := h.1
    have hk4 := h.2.1
    refine wf (by omega) (by omega) (by rw [hr]; exact k1) ?_
    rw [hr]
    dsimp only
    by_cases k2 : k = 2
    · subst k2
      refine Ev.succ ?_
      simp only [qi_.j0]
      refine Ev.pos trivial ?_
      exact w1 (by decide) (w2 (by decide) (w3 (by decide) (w4 (by decide) (w5 [111, 119, 110, 101, 114, 115] (by decide) (by decide)))))
    refine w0 k2 ?_
    by_cases k3 : k = 3
    · subst k3
      refine Ev.succ ?_
      simp only [qi_.j1]
      refine Ev.pos trivial ?_
      exact w2 (by decide) (w3 (by decide) (w4 (by decide) (w5 [116, 101, 115, 116, 115] (by decide) (by decide))))
    refine w1 k3 ?_
    have k4 : k = 4 := by omega
    subst k4
    have e : txl (.leaf 4 n) = [117, 115, 101, 114] ++ ([32] ++ dg n) := by unfold txl; rw [if_neg (by decide), if_neg (by decide), if_neg (by decide)]
    rw [e]
    refine Ev.succ ?_
    simp only [qi_.j2]
    have hw : wrap64 (n + 1) = n + 1 := w64 (by have := h.2.2.1; omega) (by omega)
    have hds : (dgs.size : Int) = 9 := rfl
    refine Ev.pos trivial (Ev.pos h.2.2.1 (Ev.pos (by omega) (Ev.pos (by omega) ?_)))
    show Ev (fun k => if 5 + (dgs.extract n.toNat (wrap64 (n + 1)).toNat).size ≤ 9223372036854775807 then qi_.j3 k lo (B [117, 115, 101, 114, 32] ++ dgs.extract n.toNat (wrap64 (n + 1)).toNat) ns 4 n 0 0 else none) _
    rw [hd, B_app]
    refine Ev.pos (by rw [B_size]; omega) ?_
    exact w3 (by decide) (w4 (by decide) (w5 _ (by simp [hgl]) (by decide)))
  | neg t ih =>
    intro h hs lo pre post i hi
    have hsz : (T.neg t).size = t.size + 1 := rfl
    have hp := t.size_pos
    have hl := txl_length t h
    have hpl := par_length (t.kind > 5) (txl t)
    have hr := rd_at pre [] post (.neg t) i hi
    have hL : (pre ++ lay pre.length (T.neg t) ++ post).length = pre.length + (t.size + 1) + post.length := by rw [List.length_append, List.length_append, lay_length]; rfl
    have hA := ih h (by omega) 5 pre ([⟨5, 0, (pre.length : Int) + t.size - 1, 0⟩] ++ post) _ rfl
    have e1 : pre ++ lay pre.length t ++ ([(⟨5, 0, (pre.length : Int) + t.size - 1, 0⟩ : S47)] ++ post) = pre ++ lay pre.length (T.neg t) ++ post := by simp only [lay, List.append_assoc]
    rw [e1] at hA
    dsimp only [T.root] at hr
    refine wf (by omega) (by omega) (by rw [hr]; dsimp only; decide) ?_
    rw [hr]
    dsimp only
    refine w0 (by decide) (w1 (by decide) (w2 (by decide) ?_))
    refine Ev.succ ?_
    simp only [qi_.j3]
    refine Ev.pos trivial (Ev.bind hA ?_)
    refine Ev.pos (by rw [B_size]; omega) ?_
    show Ev (fun k => qi_.j4 k lo (B [110, 111, 116, 32] ++ B _) _ 5 _ _ _) _
    rw [B_app]
    exact w4 (by decide) (w5 _ (by simp only [List.length_append, List.length_cons, List.length_nil]; omega) (by decide))
  | bin k a b iha ihb =>
    intro h hs lo pre post i hi
    have hsz : (T.bin k a b).size = a.size + b.size + 1 := rfl
    have hpa := a.size_pos
    have hpb := b.size_pos
    have hla := txl_length a h.2.1
    have hlb := txl_length b h.2.2
    have hr := rd_at pre [] post (.bin k a b) i hi
    have hL : (pre ++ lay pre.length (T.bin k a b) ++ post).length = pre.length + (a.size + b.size + 1) + post.length := by rw [List.length_append, List.length_append, lay_length]; rfl
    have hA := fun lo => iha h.2.1 (by omega) lo pre (lay (pre.length + a.size) b ++ [⟨k, 0, (pre.length : Int) + a.size - 1, (pre.length : Int) + a.size + b.size - 1⟩] ++ post) _ rfl
    have hB := fun lo => ihb h.2.2 (by omega) lo (pre ++ lay pre.length a) ([⟨k, 0, (pre.length : Int) + a.size - 1, (pre.length : Int) + a.size + b.size - 1⟩] ++ post) ((pre.length : Int) + a.size + b.size - 1) (by rw [List.length_append, lay_length]; omega)
    have e1 : pre ++ lay pre.length a ++ (lay (pre.length + a.size) b ++ [(⟨k, 0, (pre.length : Int) + a.size - 1, (pre.length : Int) + a.size + b.size - 1⟩ : S47)] ++ post) = pre ++ lay pre.length (T.bin k a b) ++ post := by simp only [lay, List.append_assoc]
    have e2 : pre ++ lay pre.length a ++ lay (pre ++ lay pre.length a).length b ++ ([(⟨k, 0, (pre.length : Int) + a.size - 1, (pre.length : Int) + a.size + b.size - 1⟩ : S47)] ++ post) = pre ++ lay pre.length (T.bin k a b) ++ post := by
      rw [List.length_append, lay_length]
      simp only [lay, List.append_assoc]
    rw [e1] at hA
    rw [e2] at hB
    dsimp only [T.root] at hr
    rcases h.1 with rfl | rfl
    · have p1 := par_length (a.kind > 6) (txl a)
      have p2 := par_length (b.kind > 5) (txl b)
      refine wf (by omega) (by omega) (by rw [hr]; dsimp only; decide) ?_
      rw [hr]
      dsimp only
      refine w0 (by decide) (w1 (by decide) (w2 (by decide) (w3 (by decide) ?_)))
      refine Ev.succ ?_
      simp only [qi_.j4]
      refine Ev.pos trivial (Ev.bind (hA 6) (Ev.pos (by rw [B_size]; omega) (Ev.bind (hB 5) ?_)))
      show Ev (fun k => if (B _ ++ B [32, 97, 110, 100, 32]).size + (B _).size ≤ 9223372036854775807 then qi_.j5 k lo (B _ ++ B [32, 97, 110, 100, 32] ++ B _) _ 6 _ _ _ else none) _
      rw [B_app, B_app]
      refine Ev.pos (by rw [B_size, B_size, List.length_append]; simp only [List.length_cons, List.length_nil]; omega) ?_
      have := w5 (ns := pre ++ lay pre.length (T.bin 6 a b) ++ post) (lo := lo) (kd := 6) (n1 := 0) (n2 := (pre.length : Int) + a.size - 1) (n3 := (pre.length : Int) + a.size + b.size - 1) (par (a.kind > 6) (txl a) ++ [32, 97, 110, 100, 32] ++ par (b.kind > 5) (txl b)) (by simp only [List.length_append, List.length_cons, List.length_nil]; omega) (by decide)
      have et : txl (.bin 6 a b) = par (a.kind > 6) (txl a) ++ [32, 97, 110, 100, 32] ++ par (b.kind > 5) (txl b) := by simp [txl, opT]
      rw [et]
      exact this
    · have p1 := par_length (a.kind > 7) (txl a)
      have p2 := par_length (b.kind > 6) (txl b)
      refine wf (by omega) (by omega) (by rw [hr]; dsimp only; decide) ?_
      rw [hr]
      dsimp only
      refine w0 (by decide) (w1 (by decide) (w2 (by decide) (w3 (by decide) (w4 (by decide) ?_))))
      refine Ev.succ ?_
      simp only [qi_.j5]
      refine Ev.pos trivial (Ev.bind (hA 7) (Ev.pos (by rw [B_size]; omega) (Ev.bind (hB 6) ?_)))
      have et : txl (.bin 7 a b) = par (a.kind > 7) (txl a) ++ [32, 111, 114, 32] ++ par (b.kind > 6) (txl b) := by simp [txl, opT]
      have e3 : B (par (a.kind > 7) (txl a)) ++ (⟨#[32, 111, 114, 32]⟩ : ByteArray) ++ B (par (b.kind > 6) (txl b)) = B (txl (.bin 7 a b)) := by
        show B _ ++ B [32, 111, 114, 32] ++ B _ = _
        rw [B_app, B_app, et]
      have e4 : ((⟨#[40]⟩ : ByteArray) ++ B (txl (.bin 7 a b))) ++ (⟨#[41]⟩ : ByteArray) = B (40 :: (txl (.bin 7 a b) ++ [41])) := by
        show B [40] ++ B _ ++ B [41] = _
        rw [B_app, B_app]
        rfl
      have e5 : (txl (.bin 7 a b)).length ≤ 100000 := by have := txl_length (.bin 7 a b) h; omega
      have e6 : (⟨#[32, 111, 114, 32]⟩ : ByteArray).size = 4 := rfl
      have e7 : (⟨#[40]⟩ : ByteArray).size = 1 := rfl
      rw [e3, e4]
      refine Ev.pos (by rw [ByteArray.size_append, B_size, B_size]; omega) ?_
      show Ev _ (B (Pure.par ((7 : Int) > lo) _))
      by_cases c : (7 : Int) > lo
      · rw [show Pure.par ((7 : Int) > lo) (txl (.bin 7 a b)) = 40 :: (txl (.bin 7 a b) ++ [41]) from by unfold Pure.par; rw [if_pos c]]
        exact Ev.pos c (Ev.pos (by rw [B_size]; omega) (Ev.pos (by rw [ByteArray.size_append, B_size]; omega) (Ev.now _)))
      · rw [show Pure.par ((7 : Int) > lo) (txl (.bin 7 a b)) = txl (.bin 7 a b) from by unfold Pure.par; rw [if_neg c]]
        exact Ev.neg c (Ev.now _)
end Go.Proofs.YtblkkhddefnkpaaDoor.Pure
/- POLICY: the document's own functions on trees: True, Negated -/
namespace Go.Proofs.YtblkkhddefnkpaaDoor.Pure
open Go.RowKit Go.Proofs.YtblkkhddefnkpaaDoorW.PrintWords Go.Proofs.YtblkkhddefnkpaaDoorW.PrintLast Go.Proofs.YtblkkhddefnkpaaDoorW.PrintMore Go.Proofs.YtblkkhddefnkpaaDoor.PPo
set_option linter.unusedVariables false
theorem bit_nat (u j : Nat) (hu : u < 2 ^ 63) (hj : j ≤ 64) : bitB (u : Int) (j : Int) = u.testBit j := by
  have e1 : shr .i64 (u : Int) (j : Int) = ((u / 2 ^ j : Nat) : Int) := by
    unfold shr
    rw [Int.toNat_natCast, Nat.min_eq_left (by simpa [IntKind.bits] using hj)]
    simp
  have hlt : u / 2 ^ j < 2 ^ 63 := Nat.lt_of_le_of_lt (Nat.div_le_self _ _) hu
  unfold bitB
  rw [e1, show (1 : Int) = ((1 : Nat) : Int) from rfl, (bits_nat .i64 63 (by decide) (fun n h0 h1 => by rw [IntKind.wrap_i64]; omega) _ 1 hlt (by decide)).1, Nat.and_one_is_mod]
  rw [Nat.testBit_eq_decide_div_mod_eq]
  rw [Bool.eq_iff_iff, beq_iff_eq, decide_eq_true_iff]
  omega
theorem true_l0 {kd n1 n2 n3 : Int} (hn : n1 ≤ 100) : ∀ (m u : Nat) (j : Int), u < 9223372036854775807 → 0 ≤ j → j + m = n1 → Ev (fun k => qx_.l0 k (u : Int) j kd n1 n2 n3) (u.testBit m) := by
  intro m
  induction m with
  | zero =>
    intro u j hu h0 h1
    refine Ev.succ ?_
    simp only [qx_.l0]
    refine Ev.neg (by omega) ?_
    have e : (Int.tmod (u : Int) 2 == 1) = u.testBit 0 := by
      rw [Nat.testBit_zero, Bool.eq_iff_iff, beq_iff_eq, decide_eq_true_iff, Int.tmod_eq_emod_of_nonneg (by omega)]
      omega
    rw [e]
    exact Ev.now _
  | succ m ih =>
    intro u j hu h0 h1
    refine Ev.succ ?_
    simp only [qx_.l0]
    refine Ev.pos (by omega) ?_
    have e : wrap64 (Int.tdiv (u : Int) 2) = ((u / 2 : Nat) : Int) := by
      rw [Int.tdiv_eq_ediv_of_nonneg (by omega), w64 (by omega) (by omega)]
      omega
    rw [e, w64 (by omega) (by omega), Nat.testBit_succ]
    exact ih (u / 2) (j + 1) (by omega) (by omega) (by omega)
theorem True_ev (a0 : Int) (a1 a2 : Bool) (a3 : Int) (h0 : 0 ≤ a3) (h1 : a3 < 256) : ∀ (t : T), t.ok → t.size ≤ 1000 → ∀ (pre post : List S47) (i : Int), i = (pre.length : Int) + t.size - 1 → Ev (fun k => qx_.f k (pre ++ lay pre.length t ++ post) i a0 a1 a2 a3) (evT a0 a1 a2 a3 t) := by
  intro t
  induction t with
  | leaf k n =>
    intro h hs pre post i hi
    have hr := rd_at pre [] post (.leaf k n) i hi
    have hsz : (T.leaf k n).size = 1 := rfl
    have hL : (pre ++ lay pre.length (T.leaf k n) ++ post).length = pre.length + 1 + post.length := by rw [List.length_append, List.length_append, lay_length]; rfl
    have hk := h.1
    have hk4 := h.2.1
    dsimp only [T.root] at hr
    refine Ev.succ ?_
    simp only [qx_.f, hr]
    refine Ev.pos (by omega) (Ev.pos (by omega) ?_)
    show Ev _ (if k = 1 then decide (a0 ≥ n) else if k = 2 then a1 else if k = 3 then a2 else bitB a3 n)
    by_cases k1 : k = 1
    · subst k1
      exact Ev.now _
    by_cases k2 : k = 2
    · subst k2
      exact Ev.now _
    by_cases k3 : k = 3
    · subst k3
      exact Ev.now _
    have k4 : k = 4 := by omega
    subst k4
    obtain ⟨u, rfl⟩ := Int.eq_ofNat_of_zero_le h0
    obtain ⟨m, rfl⟩ := Int.eq_ofNat_of_zero_le h.2.2.1
    have h2 := h.2.2.2
    have hh : Pure.hi 4 = 7 := rfl
    show Ev (fun k => qx_.l0 k (u : Int) 0 4 (m : Int) 0 0) (bitB (u : Int) (m : Int))
    rw [bit_nat u m (by omega) (by omega)]
    exact true_l0 (by omega) m u 0 (by omega) (by omega) (by omega)
  | neg t ih =>
    intro h hs pre post i hi
    have hsz : (T.neg t).size = t.size + 1 := rfl
    have hp := t.size_pos
    have hr := rd_at pre [] post (.neg t) i hi
    have hL : (pre ++ lay pre.length (T.neg t) ++ post).length = pre.length + (t.size + 1) + post.length := by rw [List.length_append, List.length_append, lay_length]; rfl
    have hA := ih h (by omega) pre ([⟨5, 0, (pre.length : Int) + t.size - 1, 0⟩] ++ post) _ rfl
    have e1 : pre ++ lay pre.length t ++ ([(⟨5, 0, (pre.length : Int) + t.size - 1, 0⟩ : S47)] ++ post) = pre ++ lay pre.length (T.neg t) ++ post := by simp only [lay, List.append_assoc]
    rw [e1] at hA
    dsimp only [T.root] at hr
    refine Ev.succ ?_
    simp only [qx_.f, hr]
    refine Ev.pos (by omega) (Ev.pos (by omega) (Ev.neg (by decide) (Ev.neg (by decide) (Ev.neg (by decide) (Ev.neg (by decide) (Ev.bind hA (Ev.pos trivial (Ev.now _))))))))
  | bin k a b iha ihb =>
    intro h hs pre post i hi
    have hsz : (T.bin k a b).size = a.size + b.size + 1 := rfl
    have hpa := a.size_pos
    have hpb := b.size_pos
    have hr := rd_at pre [] post (.bin k a b) i hi
    have hL : (pre ++ lay pre.length (T.bin k a b) ++ post).length = pre.length + (a.size + b.size + 1) + post.length := by rw [List.length_append, List.length_append, lay_length]; rfl
    have hA := iha h.2.1 (by omega) pre (lay (pre.length + a.size) b ++ [⟨k, 0, (pre.length : Int) + a.size - 1, (pre.length : Int) + a.size + b.size - 1⟩] ++ post) _ rfl
    have hB := ihb h.2.2 (by omega) (pre ++ lay pre.length a) ([⟨k, 0, (pre.length : Int) + a.size - 1, (pre.length : Int) + a.size + b.size - 1⟩] ++ post) ((pre.length : Int) + a.size + b.size - 1) (by rw [List.length_append, lay_length]; omega)
    have e1 : pre ++ lay pre.length a ++ (lay (pre.length + a.size) b ++ [(⟨k, 0, (pre.length : Int) + a.size - 1, (pre.length : Int) + a.size + b.size - 1⟩ : S47)] ++ post) = pre ++ lay pre.length (T.bin k a b) ++ post := by simp only [lay, List.append_assoc]
    have e2 : pre ++ lay pre.length a ++ lay (pre ++ lay pre.length a).length b ++ ([(⟨k, 0, (pre.length : Int) + a.size - 1, (pre.length : Int) + a.size + b.size - 1⟩ : S47)] ++ post) = pre ++ lay pre.length (T.bin k a b) ++ post := by
      rw [List.length_append, lay_length]
      simp only [lay, List.append_assoc]
    rw [e1] at hA
    rw [e2] at hB
    dsimp only [T.root] at hr
    refine Ev.succ ?_
    simp only [qx_.f, hr]
    have hk := h.1
    refine Ev.pos (by omega) (Ev.pos (by omega) (Ev.neg (by omega) (Ev.neg (by omega) (Ev.neg (by omega) (Ev.neg (by omega) (Ev.bind hA (Ev.neg (by omega) (Ev.bind hB ?_))))))))
    show Ev _ (if k = 6 then (evT a0 a1 a2 a3 a && evT a0 a1 a2 a3 b) else (evT a0 a1 a2 a3 a || evT a0 a1 a2 a3 b))
    cases evT a0 a1 a2 a3 a <;> cases evT a0 a1 a2 a3 b <;> rcases hk with rfl | rfl <;> exact Ev.now _
theorem Negated_ev : ∀ (t : T), t.ok → ∀ (neg : Bool) (out pre post : List S47) (i : Int), i = (pre.length : Int) + t.size - 1 → out.length + (nnf t neg).size ≤ 1000000 → pre.length + t.size ≤ 1000000 →
    Ev (fun k => qz_.f k (pre ++ lay pre.length t ++ post) i neg out) (out ++ lay out.length (nnf t neg)) := by
  intro t
  induction t with
  | leaf k n =>
    intro h neg out pre post i hi hs hs2
    have hr := rd_at pre [] post (.leaf k n) i hi
    have hl : (pre ++ lay pre.length (T.leaf k n) ++ post).length = pre.length + 1 + post.length := by rw [List.length_append, List.length_append, lay_length]; rfl
    have hk := h.2.1
    have h1 : (T.leaf k n).size = 1 := rfl
    rw [h1] at hi
    refine Ev.succ ?_
    unfold qz_.f
    rw [hr]
    dsimp only [T.root]
    refine Ev.pos (by omega) (Ev.pos (by omega) (Ev.neg (by omega) (Ev.pos (by omega) ?_)))
    cases neg with
    | false =>
      have e : nnf (.leaf k n) false = .leaf k n := rfl
      rw [e] at hs ⊢
      rw [h1] at hs
      exact Ev.pos (by omega) (Ev.now _)
    | true =>
      have e : nnf (.leaf k n) true = .neg (.leaf k n) := rfl
      have h2 : (T.neg (.leaf k n)).size = 2 := rfl
      rw [e] at hs ⊢
      rw [h2] at hs
      have e3 : (out ++ [(⟨k, n, 0, 0⟩ : S47)]).length = out.length + 1 := by rw [List.length_append]; rfl
      refine Ev.pos (by omega) ?_
      simp only [Option.bind_some]
      refine Ev.pos trivial (Ev.pos (by rw [e3]; omega) ?_)
      have ew : wrap64 (((out ++ [(⟨k, n, 0, 0⟩ : S47)]).length : Int) - 1) = (out.length : Int) := by rw [e3, w64 (by omega) (by omega)]; omega
      rw [ew]
      have e4 : out ++ [(⟨k, n, 0, 0⟩ : S47)] ++ [⟨5, 0, (out.length : Int), 0⟩] = out ++ lay out.length (.neg (.leaf k n)) := by
        simp only [lay, T.size, List.append_assoc]
        have : (out.length : Int) + (1 : Nat) - 1 = (out.length : Int) := by omega
        rw [this]
      rw [e4]
      exact Ev.now _
  | neg t ih =>
    intro h neg out pre post i hi hs hs2
    have hr := rd_at pre [] post (.neg t) i hi
    have hl : (pre ++ lay pre.length (T.neg t) ++ post).length = pre.length + (t.size + 1) + post.length := by rw [List.length_append, List.length_append, lay_length]; rfl
    have h1 : (T.neg t).size = t.size + 1 := rfl
    have hp := t.size_pos
    rw [h1] at hi hs2
    refine Ev.succ ?_
    unfold qz_.f
    rw [hr]
    dsimp only [T.root]
    refine Ev.pos (by omega) (Ev.pos (by omega) (Ev.pos rfl ?_))
    have := ih h (!neg) out pre ([⟨5, 0, (pre.length : Int) + t.size - 1, 0⟩] ++ post) ((pre.length : Int) + t.size - 1) rfl hs (by omega)
    have e : pre ++ lay pre.length t ++ ([(⟨5, 0, (pre.length : Int) + t.size - 1, 0⟩ : S47)] ++ post) = pre ++ lay pre.length (T.neg t) ++ post := by simp only [lay, List.append_assoc]
    rw [e] at this
    exact Ev.bind this (Ev.now _)
  | bin k a b iha ihb =>
    intro h neg out pre post i hi hs hs2
    have hr := rd_at pre [] post (.bin k a b) i hi
    have hl : (pre ++ lay pre.length (T.bin k a b) ++ post).length = pre.length + (a.size + b.size + 1) + post.length := by rw [List.length_append, List.length_append, lay_length]; rfl
    have h1 : (T.bin k a b).size = a.size + b.size + 1 := rfl
    have hk := h.1
    have hp := a.size_pos
    have hq := b.size_pos
    have hsz : (nnf (.bin k a b) neg).size = (nnf a neg).size + (nnf b neg).size + 1 := rfl
    have hpa := (nnf a neg).size_pos
    have hpb := (nnf b neg).size_pos
    rw [hsz] at hs
    rw [h1] at hi hs2
    refine Ev.succ ?_
    unfold qz_.f
    rw [hr]
    dsimp only [T.root]
    refine Ev.pos (by omega) (Ev.pos (by omega) (Ev.neg (by omega) (Ev.neg (by omega) ?_)))
    have ea := iha h.2.1 neg out pre (lay (pre.length + a.size) b ++ [⟨k, 0, (pre.length : Int) + a.size - 1, (pre.length : Int) + a.size + b.size - 1⟩] ++ post) ((pre.length : Int) + a.size - 1) rfl (by omega) (by omega)
    have eb := ihb h.2.2 neg (out ++ lay out.length (nnf a neg)) (pre ++ lay pre.length a) ([⟨k, 0, (pre.length : Int) + a.size - 1, (pre.length : Int) + a.size + b.size - 1⟩] ++ post) ((pre.length : Int) + a.size + b.size - 1) (by rw [List.length_append, lay_length]; omega) (by rw [List.length_append, lay_length]; omega) (by rw [List.length_append, lay_length]; omega)
    have e1 : pre ++ lay pre.length a ++ (lay (pre.length + a.size) b ++ [(⟨k, 0, (pre.length : Int) + a.size - 1, (pre.length : Int) + a.size + b.size - 1⟩ : S47)] ++ post) = pre ++ lay pre.length (T.bin k a b) ++ post := by simp only [lay, List.append_assoc]
    have e2 : pre ++ lay pre.length a ++ lay (pre ++ lay pre.length a).length b ++ ([(⟨k, 0, (pre.length : Int) + a.size - 1, (pre.length : Int) + a.size + b.size - 1⟩ : S47)] ++ post) = pre ++ lay pre.length (T.bin k a b) ++ post := by
      rw [List.length_append, lay_length]
      simp only [lay, List.append_assoc]
    rw [e1] at ea
    rw [e2] at eb
    refine Ev.bind ea (Ev.bind eb ?_)
    have hw : wrap64 (13 - k) = 13 - k := w64 (by omega) (by omega)
    have hol1 : (out ++ lay out.length (nnf a neg)).length = out.length + (nnf a neg).size := by rw [List.length_append, lay_length]
    have hol : (out ++ lay out.length (nnf a neg) ++ lay (out ++ lay out.length (nnf a neg)).length (nnf b neg)).length = out.length + (nnf a neg).size + (nnf b neg).size := by
      rw [List.length_append, lay_length, List.length_append, lay_length]
    have hw1 : wrap64 (((out ++ lay out.length (nnf a neg)).length : Int) - 1) = (out.length : Int) + (nnf a neg).size - 1 := by rw [hol1, w64 (by omega) (by omega)]; omega
    have hw2 : wrap64 (((out ++ lay out.length (nnf a neg) ++ lay (out ++ lay out.length (nnf a neg)).length (nnf b neg)).length : Int) - 1) = (out.length : Int) + (nnf a neg).size + (nnf b neg).size - 1 := by rw [hol, w64 (by omega) (by omega)]; omega
    rw [hw1, hw2, hw]
    have eg : ∀ c : Int, c = (if neg = true then 13 - k else k) → out ++ lay out.length (nnf a neg) ++ lay (out ++ lay out.length (nnf a neg)).length (nnf b neg) ++ [(⟨c, 0, (out.length : Int) + (nnf a neg).size - 1, (out.length : Int) + (nnf a neg).size + (nnf b neg).size - 1⟩ : S47)] = out ++ lay out.length (nnf (T.bin k a b) neg) := by
      intro c hc
      rw [hol1, hc]
      simp only [nnf, lay, List.append_assoc]
    cases neg with
    | true =>
      refine Ev.pos rfl (Ev.pos (by rw [hol]; omega) ?_)
      rw [eg (13 - k) rfl]
      exact Ev.now _
    | false =>
      refine Ev.neg (by simp) (Ev.pos (by rw [hol]; omega) ?_)
      rw [eg k rfl]
      exact Ev.now _
end Go.Proofs.YtblkkhddefnkpaaDoor.Pure
set_option linter.unusedVariables false
namespace Go.Proofs.YtblkkhddefnkpaaDoor.Pure
open Go.RowKit Go.Proofs.YtblkkhddefnkpaaDoorW.PrintWords Go.Proofs.YtblkkhddefnkpaaDoorW.PrintLast Go.Proofs.YtblkkhddefnkpaaDoorW.PrintMore Go.Proofs.YtblkkhddefnkpaaDoor.PPo

/-- The fixed example of the document. -/
theorem policyExample_ev : Ev (fun k => qD_.f k) true :=
  Ev.of qD_.mono (k := 64) (by decide +kernel)
theorem kind_le : ∀ t : T, t.ok → t.kind ≤ 7 := by
  intro t h
  cases t with
  | leaf k n => have := h.2.1; show k ≤ 7; omega
  | neg t => show (5 : Int) ≤ 7; decide
  | bin k l r => have := h.1; show k ≤ 7; omega
theorem j3_ev (t : T) (ht : t.ok) (hs : t.size ≤ 24) : Ev (fun k => qe_.j3 k ((t.size : Int) - 1) (lay 0 t) (polN t).1 (polN t).2.1 (polN t).2.2) true := by
  have hsz := nnf_size t false
  have hN := Negated_ev t ht false [] [] [] ((t.size : Int) - 1) (by simp) (by simp only [List.length_nil]; omega) (by simp only [List.length_nil]; omega)
  simp only [List.nil_append, List.append_nil, List.length_nil] at hN
  refine Ev.succ ?_
  simp only [qe_.j3]
  refine Ev.bind hN (Ev.bind (PolicyFault_ev _) ?_)
  by_cases hu : polV (lay 0 (nnf t false)) = (0, 0)
  · rw [show polN t = (lay 0 (nnf t false), 0, 0) from by unfold polN; rw [if_pos hu]]
    refine Ev.pos (by rw [hu]) (Ev.pos rfl (Ev.bind (eqP_self _ ?_) (Ev.now _)))
    rw [lay_length]; omega
  · rw [show polN t = ([], 10, -1) from by unfold polN; rw [if_neg hu]]
    refine Ev.neg (fun e => hu (polV_zero e)) ?_
    simp only [Fault_eq, Option.bind_some]
    exact Ev.pos (by simp) (Ev.bind (eqP_self [] (by simp)) (Ev.now _))
theorem j1_ev (t : T) (ht : t.ok) (hs : t.size ≤ 24) (hv : polV (lay 0 t) = (0, 0)) (a0 : Int) (a1 a2 : Bool) (a3 : Int) :
    Ev (fun k => qe_.j1 k (polE (lay 0 t) a0 a1 a2 a3).1 ((t.size : Int) - 1) (lay 0 t) a0 a1 a2 a3 (polE (lay 0 t) a0 a1 a2 a3).2.1 (polE (lay 0 t) a0 a1 a2 a3).2.2 (polN t).1 (polN t).2.1 (polN t).2.2) true := by
  have h3 := j3_ev t ht hs
  by_cases hb : badF a0 a3
  · have e : polE (lay 0 t) a0 a1 a2 a3 = (false, 3, -2) := by unfold polE; rw [if_pos hv, if_pos hb]
    rw [e]
    have h2 : Ev (fun k => qe_.j2 k false ((t.size : Int) - 1) true (lay 0 t) a0 a1 a2 a3 3 (-2) (polN t).1 (polN t).2.1 (polN t).2.2) true := by
      refine Ev.succ ?_
      simp only [qe_.j2, Fault_eq, Option.bind_some]
      exact Ev.pos (by simp) (Ev.pos (by simp) (Ev.neg (by simp) h3))
    refine Ev.succ ?_
    simp only [qe_.j1]
    by_cases c1 : a0 < -1000000000
    · exact Ev.pos c1 h2
    refine Ev.neg c1 ?_
    by_cases c2 : a0 > 1000000000
    · exact Ev.pos c2 h2
    refine Ev.neg c2 ?_
    by_cases c3 : a3 < 0
    · exact Ev.pos c3 h2
    refine Ev.neg c3 ?_
    rw [show decide (a3 > 255) = true from decide_eq_true (by unfold badF at hb; omega)]
    exact h2
  · have e : polE (lay 0 t) a0 a1 a2 a3 = (polVal (lay 0 t) a0 a1 a2 a3, 0, 0) := by unfold polE; rw [if_pos hv, if_neg hb]
    have hb' := hb
    unfold badF at hb'
    have hT := True_ev a0 a1 a2 a3 (by omega) (by omega) t ht (by omega) [] [] ((t.size : Int) - 1) (by simp)
    simp only [List.nil_append, List.append_nil, List.length_nil] at hT
    rw [e, polVal_lay _ _ _ _ _ ht]
    refine Ev.succ ?_
    simp only [qe_.j1]
    refine Ev.neg (by omega) (Ev.neg (by omega) (Ev.neg (by omega) (Ev.succ ?_)))
    simp only [qe_.j2]
    refine Ev.neg (by rw [decide_eq_true_iff]; omega) (Ev.pos trivial (Ev.bind hT (Ev.neg (by simp) h3)))
theorem PolicyFunctionsMatchSpec : qe_.Pure := by
  intro x0 x1 o0 o1
  refine Ev.rounds ?_
  unfold qe_.f
  refine Ev.bind (PolicyFault_ev _) ?_
  by_cases hv : polV x0.f0 = (0, 0)
  · obtain ⟨t, ht, e, hs, _⟩ := polV_tree hv
    rw [e] at hv ⊢
    refine Ev.bind (Format_ev t ht hv) (Ev.bind (Eval_ev _ _ _ _ _) (Ev.bind (Normal_ev t ht hv) (Ev.bind policyExample_ev (Ev.pos rfl (Ev.bind (Validate_ev _) ?_)))))
    rw [hv]
    have h1 := j1_ev t ht hs hv x1.f0 x1.f1 x1.f2 x1.f3
    have hW := Written_ev t ht (by omega) 7 [] [] ((t.size : Int) - 1) (by simp)
    simp only [List.nil_append, List.append_nil, List.length_nil] at hW
    have hk := kind_le t ht
    rw [show par (t.kind > 7) (txl t) = txl t from by unfold par; rw [if_neg (by omega)]] at hW
    have hp := t.size_pos
    have hw : wrap64 (((lay 0 t).length : Int) - 1) = (t.size : Int) - 1 := by rw [lay_length, w64 (by omega) (by omega)]
    refine Ev.succ ?_
    simp only [qe_.j0, hw, Fault_eq, Option.bind_some]
    refine Ev.neg (by simp) (Ev.pos trivial (Ev.bind hW ?_))
    rw [B_size]
    by_cases c : (txl t).length > 200
    · rw [show polF t = (B [], 10, -1) from by unfold polF; rw [if_pos c]]
      exact Ev.pos (by omega) (Ev.pos (by simp) (Ev.pos (by rw [B_toList]) h1))
    · rw [show polF t = (B (txl t), 0, 0) from by unfold polF; rw [if_neg c]]
      exact Ev.neg (by omega) (Ev.pos rfl (Ev.pos rfl h1))
  · refine Ev.bind (Format_bad _ hv) (Ev.bind (Eval_ev _ _ _ _ _) (Ev.bind (Normal_bad _ hv) (Ev.bind policyExample_ev (Ev.pos rfl (Ev.bind (Validate_ev _) ?_)))))
    rw [show polE x0.f0 x1.f0 x1.f1 x1.f2 x1.f3 = (false, (polV x0.f0).1, (polV x0.f0).2) from by unfold polE; rw [if_neg hv]]
    refine Ev.succ ?_
    simp only [qe_.j0]
    exact Ev.neg (by simp) (Ev.neg (fun e => hv (polV_zero e)) (Ev.pos (by simp) (Ev.pos (by simp) (Ev.pos (by simp) (Ev.pos (by rw [B_toList]) (Ev.neg (by simp) (Ev.bind (eqP_self [] (by simp)) (Ev.now _))))))))
end Go.Proofs.YtblkkhddefnkpaaDoor.Pure
