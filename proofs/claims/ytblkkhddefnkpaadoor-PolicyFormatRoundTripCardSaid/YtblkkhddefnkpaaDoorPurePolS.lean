/- POLICY: the words of a policy's text -/
import Derived.Test.YtblkkhddefnkpaaDoorPurePolF
import Derived.Test.YtblkkhddefnkpaaDoorPd
namespace Go.Proofs.YtblkkhddefnkpaaDoor.Pure
open Go.RowKit Go.Proofs.YtblkkhddefnkpaaDoorW.PrintWords Go.Proofs.YtblkkhddefnkpaaDoorW.PrintLast Go.Proofs.YtblkkhddefnkpaaDoorW.PrintMore Go.Proofs.YtblkkhddefnkpaaDoor.PPo
set_option linter.unusedVariables false
def wt (x : Wd) : List UInt8 := x.1.toList
def spec (c : UInt8) : Prop := c = 32 ∨ c = 40 ∨ c = 41
instance (c : UInt8) : Decidable (spec c) := by unfold spec; infer_instance
def Sc (S : ByteArray) (i j : Nat) (us : List Wd) : Prop := ∃ m, i + m ≤ j ∧ ∀ k acc, scL S (k + m) i acc = scL S k j (acc ++ us)
theorem Sc.nil (S : ByteArray) (i : Nat) : Sc S i i [] := ⟨0, Nat.le_refl _, fun k acc => by rw [List.append_nil]; rfl⟩
theorem Sc.trans {S : ByteArray} {i j l : Nat} {us vs : List Wd} (h : Sc S i j us) (h' : Sc S j l vs) : Sc S i l (us ++ vs) := by
  obtain ⟨m, hm, h⟩ := h
  obtain ⟨n, hn, h'⟩ := h'
  refine ⟨n + m, by omega, fun k acc => ?_⟩
  rw [← Nat.add_assoc, h, h', List.append_assoc]
theorem at_drop {S : ByteArray} {i : Nat} {c : UInt8} {r : List UInt8} (h : S.data.toList.drop i = c :: r) : i < S.size ∧ bt S (i : Int) = (c.toNat : Int) := by
  have hl : S.data.toList.length = S.size := by rw [Array.length_toList]; rfl
  have h1 : i < S.size := by
    have := congrArg List.length h
    rw [List.length_drop, List.length_cons] at this
    omega
  refine ⟨h1, ?_⟩
  unfold bt
  rw [Int.toNat_natCast, dif_pos h1]
  have h2 : S.data.toList[i]? = some c := by
    have := congrArg (fun l => l[0]?) h
    simpa using this
  have h3 : S[i] = c := by
    rw [List.getElem?_eq_getElem (by omega)] at h2
    exact Option.some.inj h2
  rw [h3]
theorem ext_list (S : ByteArray) (i j : Nat) : (S.extract i j).toList = (S.data.toList.drop i).take (j - i) := by
  rw [ByteArray.toList_eq, ByteArray.data_extract, Array.toList_extract]
theorem drop_add {S : ByteArray} {i : Nat} {a b : List UInt8} (h : S.data.toList.drop i = a ++ b) : S.data.toList.drop (i + a.length) = b := by
  rw [← List.drop_drop, h, List.drop_left]
theorem Sc.space {S : ByteArray} {i : Nat} {r : List UInt8} (h : S.data.toList.drop i = 32 :: r) : Sc S i (i + 1) [] := by
  obtain ⟨h1, h2⟩ := at_drop h
  refine ⟨1, Nat.le_refl _, fun k acc => ?_⟩
  rw [List.append_nil]
  show (if i < S.size then _ else _) = _
  rw [if_pos h1, h2, if_pos (by decide)]
theorem Sc.paren {S : ByteArray} {i : Nat} {c : UInt8} {r : List UInt8} (h : S.data.toList.drop i = c :: r) (hc : c = 40 ∨ c = 41) : ∃ us, us.map wt = [[c]] ∧ Sc S i (i + 1) us := by
  obtain ⟨h1, h2⟩ := at_drop h
  refine ⟨[(S.extract i (i + 1), (i : Int))], ?_, 1, Nat.le_refl _, fun k acc => ?_⟩
  · unfold wt
    simp only [List.map_cons, List.map_nil]
    rw [ext_list, h, show i + 1 - i = 1 by omega]
    rfl
  · show (if i < S.size then _ else _) = _
    rw [if_pos h1, h2]
    rcases hc with rfl | rfl
    · rw [if_neg (by decide), if_pos (by decide)]
    · rw [if_neg (by decide), if_pos (by decide)]
theorem contains_spec (c : UInt8) : [32, 40, 41].contains c = true ↔ spec c := by
  simp [spec]
theorem Sc.word {S : ByteArray} {i : Nat} {w r : List UInt8} (h : S.data.toList.drop i = w ++ r) (hw : w ≠ []) (hn : ∀ c ∈ w, ¬ spec c) (hr : r = [] ∨ ∃ c r', r = c :: r' ∧ spec c) : ∃ us, us.map wt = [w] ∧ Sc S i (i + w.length) us := by
  obtain ⟨c, w', rfl⟩ : ∃ c w', w = c :: w' := by cases w with | nil => exact absurd rfl hw | cons c w' => exact ⟨c, w', rfl⟩
  obtain ⟨h1, h2⟩ := at_drop h
  have hc := hn c (List.mem_cons_self ..)
  have hl : S.data.toList.length = S.size := by rw [Array.length_toList]; rfl
  have hlen : (c :: w').length + r.length = S.size - i := by
    have := congrArg List.length h
    rw [List.length_drop, List.length_append, hl] at this
    exact this.symm
  have hc1 : ¬ ((c.toNat : Int) = 32) := fun e => hc (.inl (UInt8.toNat_inj.mp (show c.toNat = 32 by omega)))
  have hc2 : ¬ ((c.toNat : Int) = 40 ∨ (c.toNat : Int) = 41) := fun e => hc (.inr (e.imp (fun e => UInt8.toNat_inj.mp (show c.toNat = 40 by omega)) (fun e => UInt8.toNat_inj.mp (show c.toNat = 41 by omega))))
  have hx : (S.extract i S.size).data.toList = (c :: w') ++ r := by
    rw [← ByteArray.toList_eq, ext_list, h, List.take_of_length_le (by rw [List.length_append]; omega)]
  refine ⟨[(S.extract i (i + (c :: w').length), (i : Int))], ?_, 1, by simp, fun k acc => ?_⟩
  · unfold wt
    simp only [List.map_cons, List.map_nil]
    rw [ext_list, h, show i + (c :: w').length - i = (c :: w').length by omega, List.take_left]
  · have hno : ∀ (j : Nat) b, j < (c :: w').length → ((c :: w') ++ r)[j]? = some b → [32, 40, 41].contains b = false := by
      intro j b hj hb
      rw [List.getElem?_append_left hj] at hb
      have := hn b (List.mem_of_getElem? hb)
      rw [Bool.eq_false_iff]
      exact fun e => this ((contains_spec b).mp e)
    show (if i < S.size then _ else _) = _
    rw [if_pos h1, h2, if_neg hc1, if_neg hc2, hx]
    rcases hr with rfl | ⟨d, r', rfl, hd⟩
    · have e : Lib.indexAny ((c :: w') ++ []) [32, 40, 41] = -1 := Lib.indexAny_none (fun j b hj hb => hno j b (by rw [List.append_nil] at hj; exact hj) hb)
      rw [e, if_pos (by decide)]
      have : S.size = i + (c :: w').length := by rw [List.length_nil] at hlen; omega
      rw [← this]
    · have e : Lib.indexAny ((c :: w') ++ d :: r') [32, 40, 41] = ((c :: w').length : Nat) := Lib.indexAny_hit (i := (c :: w').length) (x := d) hno (by rw [List.getElem?_append_right (Nat.le_refl _), Nat.sub_self]; rfl) ((contains_spec d).mpr hd)
      rw [e, if_neg (by omega), Int.toNat_natCast, if_pos (by omega)]
/-! ### the words of a tree -/
def parW (c : Prop) [Decidable c] (x : List (List UInt8)) : List (List UInt8) := if c then [40] :: (x ++ [[41]]) else x
def wds : T → List (List UInt8)
  | .leaf k n => if k = 1 then [[115, 99, 111, 114, 101], dg n] else if k = 2 then [[111, 119, 110, 101, 114, 115]] else if k = 3 then [[116, 101, 115, 116, 115]] else [[117, 115, 101, 114], dg n]
  | .neg t => [110, 111, 116] :: parW (t.kind > 5) (wds t)
  | .bin k l r => parW (l.kind > k) (wds l) ++ (opT k :: parW (r.kind > k - 1) (wds r))
def endS (r : List UInt8) : Prop := r = [] ∨ ∃ c r', r = c :: r' ∧ spec c
/-- A word, a space. -/
theorem Sc.wordSp {S : ByteArray} {i : Nat} {w r : List UInt8} (h : S.data.toList.drop i = w ++ ([32] ++ r)) (hw : w ≠ []) (hn : ∀ c ∈ w, ¬ spec c) : ∃ us, us.map wt = [w] ∧ Sc S i (i + (w.length + 1)) us ∧ S.data.toList.drop (i + (w.length + 1)) = r := by
  obtain ⟨us, h1, h2⟩ := Sc.word h hw hn (.inr ⟨32, r, rfl, .inl rfl⟩)
  have h3 := drop_add h
  refine ⟨us, h1, ?_, ?_⟩
  · have := h2.trans (Sc.space h3)
    rw [List.append_nil] at this
    exact this
  · have := drop_add h3
    rw [Nat.add_assoc] at this
    exact this
theorem dg_word {n : Int} (h0 : 0 ≤ n) (h1 : n ≤ 8) : dg n ≠ [] ∧ ∀ c ∈ dg n, ¬ spec c := by
  rw [dg_small h0 h1]
  refine ⟨by simp, fun c hc => ?_⟩
  rw [List.mem_singleton.mp hc]
  have : n = 0 ∨ n = 1 ∨ n = 2 ∨ n = 3 ∨ n = 4 ∨ n = 5 ∨ n = 6 ∨ n = 7 ∨ n = 8 := by omega
  rcases this with rfl | rfl | rfl | rfl | rfl | rfl | rfl | rfl | rfl <;> decide
def ScT (S : ByteArray) (x : List UInt8) (ws : List (List UInt8)) : Prop := ∀ (i : Nat) (r : List UInt8), S.data.toList.drop i = x ++ r → endS r → ∃ us, us.map wt = ws ∧ Sc S i (i + x.length) us
theorem ScT.par {S : ByteArray} {x : List UInt8} {ws : List (List UInt8)} (h : ScT S x ws) (c : Prop) [Decidable c] : ScT S (par c x) (parW c ws) := by
  intro i r hd hr
  unfold Pure.par parW at *
  by_cases hc : c
  · rw [if_pos hc] at hd ⊢
    rw [if_pos hc]
    have hd1 : S.data.toList.drop i = [40] ++ (x ++ ([41] ++ r)) := by rw [hd]; simp
    obtain ⟨us, e1, s1⟩ := Sc.paren (c := 40) (r := x ++ ([41] ++ r)) hd1 (.inl rfl)
    have hd2 := drop_add hd1
    obtain ⟨vs, e2, s2⟩ := h _ _ hd2 (.inr ⟨41, r, rfl, .inr (.inr rfl)⟩)
    have hd3 := drop_add hd2
    obtain ⟨zs, e3, s3⟩ := Sc.paren (c := 41) (r := r) hd3 (.inr rfl)
    refine ⟨us ++ vs ++ zs, ?_, ?_⟩
    · rw [List.map_append, List.map_append, e1, e2, e3]; simp
    · have := (s1.trans s2).trans s3
      have e : i + (40 :: (x ++ [41])).length = i + 1 + x.length + 1 := by simp; omega
      rw [e]
      exact this
  · rw [if_neg hc] at hd ⊢
    rw [if_neg hc]
    exact h i r hd hr
theorem opT_word (k : Int) : opT k ≠ [] ∧ ∀ c ∈ opT k, ¬ spec c := by
  unfold opT
  split <;> exact ⟨by simp, by decide⟩
theorem sc_tree (S : ByteArray) : ∀ t : T, t.ok → ScT S (txl t) (wds t) := by
  intro t
  induction t with
  | leaf k n =>
    intro h i r hd hr
    have h1 := hi_le k
    have h2 := h.2.2.2
    have hg := dg_word h.2.2.1 (show n ≤ 8 by omega)
    unfold txl wds at *
    by_cases k1 : k = 1
    · rw [if_pos k1] at hd ⊢
      rw [if_pos k1]
      rw [List.append_assoc, List.append_assoc] at hd
      obtain ⟨us, e1, s1, hd1⟩ := Sc.wordSp hd (by simp) (by decide)
      obtain ⟨vs, e2, s2⟩ := Sc.word hd1 hg.1 hg.2 hr
      refine ⟨us ++ vs, by rw [List.map_append, e1, e2]; rfl, ?_⟩
      have := s1.trans s2
      rw [List.length_append, List.length_append]
      rw [Nat.add_assoc, Nat.add_assoc] at this
      exact this
    rw [if_neg k1] at hd ⊢
    rw [if_neg k1]
    by_cases k2 : k = 2
    · rw [if_pos k2] at hd ⊢
      rw [if_pos k2]
      exact Sc.word hd (by simp) (by decide) hr
    rw [if_neg k2] at hd ⊢
    rw [if_neg k2]
    by_cases k3 : k = 3
    · rw [if_pos k3] at hd ⊢
      rw [if_pos k3]
      exact Sc.word hd (by simp) (by decide) hr
    rw [if_neg k3] at hd ⊢
    rw [if_neg k3]
    rw [List.append_assoc, List.append_assoc] at hd
    obtain ⟨us, e1, s1, hd1⟩ := Sc.wordSp hd (by simp) (by decide)
    obtain ⟨vs, e2, s2⟩ := Sc.word hd1 hg.1 hg.2 hr
    refine ⟨us ++ vs, by rw [List.map_append, e1, e2]; rfl, ?_⟩
    have := s1.trans s2
    rw [List.length_append, List.length_append]
    rw [Nat.add_assoc, Nat.add_assoc] at this
    exact this
  | neg t ih =>
    intro h i r hd hr
    simp only [txl, wds] at hd ⊢
    rw [List.append_assoc, List.append_assoc] at hd
    obtain ⟨us, e1, s1, hd1⟩ := Sc.wordSp hd (by simp) (by decide)
    obtain ⟨vs, e2, s2⟩ := (ih h).par (t.kind > 5) _ _ hd1 hr
    refine ⟨us ++ vs, by rw [List.map_append, e1, e2]; rfl, ?_⟩
    have := s1.trans s2
    rw [List.length_append, List.length_append]
    rw [Nat.add_assoc, Nat.add_assoc] at this
    exact this
  | bin k a b iha ihb =>
    intro h i r hd hr
    simp only [txl, wds] at hd ⊢
    simp only [List.append_assoc] at hd
    obtain ⟨us, e1, s1⟩ := (iha h.2.1).par (a.kind > k) _ _ hd (.inr ⟨32, _, rfl, .inl rfl⟩)
    have hd1 := drop_add hd
    have s2 := Sc.space hd1
    have hd2 := drop_add hd1
    obtain ⟨vs, e3, s3, hd3⟩ := Sc.wordSp hd2 (opT_word k).1 (opT_word k).2
    obtain ⟨zs, e4, s4⟩ := (ihb h.2.2).par (b.kind > k - 1) _ _ hd3 hr
    refine ⟨us ++ [] ++ vs ++ zs, by rw [List.map_append, List.map_append, List.map_append, e1, e3, e4]; simp, ?_⟩
    have := ((s1.trans s2).trans s3).trans s4
    have e : i + (Pure.par (a.kind > k) (txl a) ++ ([32] ++ (opT k ++ ([32] ++ Pure.par (b.kind > k - 1) (txl b))))).length = i + (Pure.par (a.kind > k) (txl a)).length + 1 + ((opT k).length + 1) + (Pure.par (b.kind > k - 1) (txl b)).length := by
      simp only [List.length_append, List.length_cons, List.length_nil]
      omega
    rw [e]
    exact this
/-! ### the whole text -/
theorem asc {l : List UInt8} {b : UInt8} (hb : b ∈ l) (h : ∀ b ∈ l, b.toNat < 128) : b.toNat < 128 := h b hb
theorem par_ascii (c : Prop) [Decidable c] (x : List UInt8) (h : ∀ b ∈ x, b.toNat < 128) : ∀ b ∈ Pure.par c x, b.toNat < 128 := by
  unfold Pure.par
  intro b hb
  split at hb
  · rcases List.mem_cons.mp hb with rfl | hb
    · decide
    rcases List.mem_append.mp hb with hb | hb
    · exact h b hb
    · rw [List.mem_singleton.mp hb]; decide
  · exact h b hb
theorem txl_ascii : ∀ t : T, t.ok → ∀ b ∈ txl t, b.toNat < 128 := by
  intro t
  induction t with
  | leaf k n =>
    intro h b hb
    have h1 := hi_le k
    have h2 := h.2.2.2
    have hd : ∀ b ∈ dg n, b.toNat < 128 := by
      rw [dg_small h.2.2.1 (by omega)]
      intro b hb
      rw [List.mem_singleton.mp hb]
      have := h.2.2.1
      have : n = 0 ∨ n = 1 ∨ n = 2 ∨ n = 3 ∨ n = 4 ∨ n = 5 ∨ n = 6 ∨ n = 7 ∨ n = 8 := by omega
      rcases this with rfl | rfl | rfl | rfl | rfl | rfl | rfl | rfl | rfl <;> decide
    unfold txl at hb
    split at hb
    · rcases List.mem_append.mp hb with hb | hb
      · exact asc hb (by decide)
      rcases List.mem_append.mp hb with hb | hb
      · exact asc hb (by decide)
      · exact hd b hb
    split at hb
    · exact asc hb (by decide)
    split at hb
    · exact asc hb (by decide)
    · rcases List.mem_append.mp hb with hb | hb
      · exact asc hb (by decide)
      rcases List.mem_append.mp hb with hb | hb
      · exact asc hb (by decide)
      · exact hd b hb
  | neg t ih =>
    intro h b hb
    simp only [txl] at hb
    rcases List.mem_append.mp hb with hb | hb
    · exact asc hb (by decide)
    rcases List.mem_append.mp hb with hb | hb
    · exact asc hb (by decide)
    · exact par_ascii _ _ (ih h) b hb
  | bin k l r ihl ihr =>
    intro h b hb
    simp only [txl] at hb
    rcases List.mem_append.mp hb with hb | hb
    · exact par_ascii _ _ (ihl h.2.1) b hb
    rcases List.mem_append.mp hb with hb | hb
    · exact asc hb (by decide)
    rcases List.mem_append.mp hb with hb | hb
    · have : ∀ b ∈ opT k, b.toNat < 128 := by unfold opT; split <;> decide
      exact this b hb
    rcases List.mem_append.mp hb with hb | hb
    · exact asc hb (by decide)
    · exact par_ascii _ _ (ihr h.2.2) b hb
theorem scan_tree (t : T) (h : t.ok) (hs : (txl t).length ≤ 200) : ∃ us, us.map wt = wds t ∧ scanM (B (txl t)) = some (us ++ [(⟨#[]⟩, ((txl t).length : Int))]) := by
  have hl : (B (txl t)).data.toList = txl t := rfl
  obtain ⟨us, e, m, hm, hsc⟩ := sc_tree (B (txl t)) t h 0 [] (by rw [hl, List.drop_zero, List.append_nil]) (.inl rfl)
  refine ⟨us, e, ?_⟩
  unfold scanM
  rw [if_pos ⟨by rw [B_size]; omega, by rw [hl]; exact txl_ascii t h⟩]
  have := hsc (1001 - m + 1) []
  rw [show 1001 - m + 1 + m = 1002 by omega, List.nil_append, Nat.zero_add] at this
  rw [this]
  show (if (txl t).length < (B (txl t)).size then _ else _) = _
  rw [if_neg (by rw [B_size]; omega)]
  rfl
end Go.Proofs.YtblkkhddefnkpaaDoor.Pure
