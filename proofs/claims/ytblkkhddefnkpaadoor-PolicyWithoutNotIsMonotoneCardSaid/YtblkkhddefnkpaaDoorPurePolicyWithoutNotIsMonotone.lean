/- A policy without negations that permits a change still permits it with a higher score and more approvals: the law PolicyWithoutNotIsMonotone returns true, for every policy and facts (within the form's own reach). -/
import Derived.Test.YtblkkhddefnkpaaDoorOkPolicyWithoutNotIsMonotone
import Derived.Test.YtblkkhddefnkpaaDoorPurePolV
set_option linter.unusedVariables false
namespace Go.Proofs.YtblkkhddefnkpaaDoor.Pure
open Go.RowKit Go.Proofs.YtblkkhddefnkpaaDoorW.PrintWords Go.Proofs.YtblkkhddefnkpaaDoorW.PrintLast Go.Proofs.YtblkkhddefnkpaaDoorW.PrintMore Go.Proofs.YtblkkhddefnkpaaDoor.PPo

/-- The fixed example of the document. -/
theorem policyExample_ev : Ev (fun k => changeforgelaw7_policyExample.f k) true :=
  Ev.of changeforgelaw7_policyExample.mono (k := 64) (by decide +kernel)

/-! ### bits -/
theorem bit_nat (u j : Nat) (hu : u < 2 ^ 63) (hj : j ≤ 64) : bitB (u : Int) (j : Int) = u.testBit j := by
  have e1 : shr .i64 (u : Int) (j : Int) = ((u / 2 ^ j : Nat) : Int) := by
    unfold shr
    rw [Int.toNat_natCast, Nat.min_eq_left (by simpa [IntKind.bits] using hj)]
    simp
  have hlt : u / 2 ^ j < 2 ^ 63 := Nat.lt_of_le_of_lt (Nat.div_le_self _ _) hu
  unfold bitB
  rw [e1, show (1 : Int) = ((1 : Nat) : Int) from rfl, (bits_nat .i64 63 (by decide) (fun n h0 h1 => by rw [IntKind.wrap_i64]; omega) _ 1 hlt (by decide)).1, Nat.and_one_is_mod]
  rw [Nat.testBit_eq_decide_div_mod_eq]
  rw [Bool.eq_iff_iff, beq_iff_eq, decide_eq_true_iff]
  omega
theorem or_nat (a b : Nat) (ha : a < 2 ^ 63) (hb : b < 2 ^ 63) : Go.bits .or .i64 (a : Int) (b : Int) = ((a ||| b : Nat) : Int) :=
  (bits_nat .i64 63 (by decide) (fun n h0 h1 => by rw [IntKind.wrap_i64]; omega) a b ha hb).2
theorem or_neg (a b : Int) (ha : 0 ≤ a) (ha1 : a < 256) (hb : b < 0) (hb1 : -9223372036854775808 ≤ b) : Go.bits .or .i64 a b < 0 := by
  simp only [Go.bits, BitVec.toNat_or]
  have h1 : 9223372036854775808 ≤ (BitVec.ofInt IntKind.i64.bits b).toNat := by
    rw [show IntKind.i64.bits = 64 from rfl, BitVec.toNat_ofInt]
    omega
  have h2 : (BitVec.ofInt IntKind.i64.bits b).toNat ≤ (BitVec.ofInt IntKind.i64.bits a).toNat ||| (BitVec.ofInt IntKind.i64.bits b).toNat := Nat.right_le_or
  have h3 : (BitVec.ofInt IntKind.i64.bits a).toNat ||| (BitVec.ofInt IntKind.i64.bits b).toNat < 2 ^ 64 := Nat.or_lt_two_pow (by have := (BitVec.ofInt IntKind.i64.bits a).isLt; simpa [IntKind.bits] using this) (by have := (BitVec.ofInt IntKind.i64.bits b).isLt; simpa [IntKind.bits] using this)
  rw [IntKind.wrap_i64]
  generalize (BitVec.ofInt IntKind.i64.bits a).toNat ||| (BitVec.ofInt IntKind.i64.bits b).toNat = m at h2 h3
  omega
/-! ### monotony -/
def leB (v v' : List Bool) : Prop := v.length = v'.length ∧ ∀ i, rdOf false v i = true → rdOf false v' i = true
theorem rdOf_push (v : List Bool) (b : Bool) (i : Int) : rdOf false (v ++ [b]) i = true ↔ (i.toNat < v.length ∧ rdOf false v i = true) ∨ (i.toNat = v.length ∧ b = true) := by
  unfold rdOf
  simp only [List.getD_eq_getElem?_getD]
  rcases Nat.lt_trichotomy i.toNat v.length with h | h | h
  · rw [List.getElem?_append_left h]
    constructor
    · intro e; exact .inl ⟨h, e⟩
    · rintro (⟨_, e⟩ | ⟨e, _⟩)
      · exact e
      · omega
  · rw [h, List.getElem?_append_right (Nat.le_refl _), Nat.sub_self]
    simp
  · rw [List.getElem?_append_right (by omega), List.getElem?_eq_none (by simp; omega)]
    simp
    omega
theorem leB.push {v v' : List Bool} (h : leB v v') {b b' : Bool} (hb : b = true → b' = true) : leB (v ++ [b]) (v' ++ [b']) := by
  refine ⟨by simp [h.1], fun i hi => ?_⟩
  rw [rdOf_push] at *
  rcases hi with ⟨h1, h2⟩ | ⟨h1, h2⟩
  · exact .inl ⟨by rw [← h.1]; exact h1, h.2 i h2⟩
  · exact .inr ⟨by rw [← h.1]; exact h1, hb h2⟩
theorem evL_mono {a0 b0 : Int} {a1 a2 b1 b2 : Bool} {a3 b3 : Int} (h0 : a0 ≤ b0) (h1 : a1 = true → b1 = true) (h2 : a2 = true → b2 = true) (h3 : ∀ j : Int, 0 ≤ j → j ≤ 7 → bitB a3 j = true → bitB b3 j = true) :
    ∀ (rest : List S47) (l : List S62) (v v' : List Bool), okL l rest → (∀ n ∈ rest, n.f0 ≠ 5) → leB v v' → leB (evL a0 a1 a2 a3 v rest) (evL b0 b1 b2 b3 v' rest) := by
  intro rest
  induction rest with
  | nil => intro l v v' _ _ h; exact h
  | cons n t ih =>
    intro l v v' hok hn h
    have hk := code_ok hok.1
    have h5 : n.f0 ≠ 5 := hn n (List.mem_cons_self ..)
    unfold evL
    refine ih _ _ _ hok.2 (fun m hm => hn m (List.mem_cons_of_mem _ hm)) (h.push ?_)
    unfold evN
    by_cases k1 : n.f0 = 1
    · rw [if_pos k1, if_pos k1, decide_eq_true_iff, decide_eq_true_iff]; omega
    rw [if_neg k1, if_neg k1]
    by_cases k2 : n.f0 = 2
    · rw [if_pos k2, if_pos k2]; exact h1
    rw [if_neg k2, if_neg k2]
    by_cases k3 : n.f0 = 3
    · rw [if_pos k3, if_pos k3]; exact h2
    rw [if_neg k3, if_neg k3]
    by_cases k4 : n.f0 = 4
    · rw [if_pos k4, if_pos k4]
      have e : hi n.f0 = 7 := by rw [k4]; rfl
      rw [e] at hk
      exact h3 _ hk.2.1.1 hk.2.1.2
    rw [if_neg k4, if_neg k4, if_neg h5, if_neg h5]
    by_cases k6 : n.f0 = 6
    · rw [if_pos k6, if_pos k6, Bool.and_eq_true, Bool.and_eq_true]
      exact fun e => ⟨h.2 _ e.1, h.2 _ e.2⟩
    · rw [if_neg k6, if_neg k6, Bool.or_eq_true, Bool.or_eq_true]
      exact fun e => e.imp (h.2 _) (h.2 _)
theorem mono_key (ns : List S47) (a0 : Int) (a1 a2 : Bool) (a3 x2 x3 : Int) (x4 x5 : Bool) (w3 : -9223372036854775808 ≤ x3 ∧ x3 ≤ 9223372036854775807) (hn : ∀ n ∈ ns, n.f0 ≠ 5) :
    (polE ns a0 a1 a2 a3).2.1 ≠ 0 ∨ (polE ns (mx a0 x2) (a1 || x4) (a2 || x5) (Go.bits .or .i64 a3 x3)).2.1 ≠ 0 ∨ (polE ns a0 a1 a2 a3).1 = false ∨ (polE ns (mx a0 x2) (a1 || x4) (a2 || x5) (Go.bits .or .i64 a3 x3)).1 = true := by
  unfold polE
  by_cases hv : polV ns = (0, 0)
  · rw [if_pos hv, if_pos hv]
    by_cases hb : badF a0 a3
    · rw [if_pos hb]; exact .inl (by decide)
    by_cases hb2 : badF (mx a0 x2) (Go.bits .or .i64 a3 x3)
    · rw [if_pos hb2]; exact .inr (.inl (by decide))
    rw [if_neg hb, if_neg hb2]
    obtain ⟨h0, h1, hok, _⟩ := polV_ok hv
    cases hx : polVal ns a0 a1 a2 a3 with
    | false => exact .inr (.inr (.inl rfl))
    | true =>
      refine .inr (.inr (.inr ?_))
      have h3 : ∀ j : Int, 0 ≤ j → j ≤ 7 → bitB a3 j = true → bitB (Go.bits .or .i64 a3 x3) j = true := by
        intro j j0 j1 hj
        unfold badF at hb hb2
        by_cases hneg : x3 < 0
        · exact absurd (or_neg a3 x3 (by omega) (by omega) hneg w3.1) (by omega)
        obtain ⟨a, rfl⟩ := Int.eq_ofNat_of_zero_le (show 0 ≤ a3 by omega)
        obtain ⟨b, rfl⟩ := Int.eq_ofNat_of_zero_le (show 0 ≤ x3 by omega)
        obtain ⟨i, rfl⟩ := Int.eq_ofNat_of_zero_le j0
        have ha : a < 2 ^ 63 := by omega
        have hb : b < 2 ^ 63 := by omega
        rw [or_nat a b ha hb, bit_nat _ _ (Nat.or_lt_two_pow ha hb) (by omega), Nat.testBit_or]
        rw [bit_nat _ _ ha (by omega)] at hj
        rw [hj, Bool.true_or]
      have := evL_mono (a0 := a0) (b0 := mx a0 x2) (a1 := a1) (a2 := a2) (b1 := a1 || x4) (b2 := a2 || x5) (by unfold mx; split <;> omega) (by simp; exact fun e => .inl e) (by simp; exact fun e => .inl e) h3 ns [] [] [] hok hn ⟨rfl, fun _ e => e⟩
      exact this.2 _ hx
  · rw [if_neg hv]
    exact .inl (fun e => hv (polV_zero e))
theorem PolicyWithoutNotIsMonotone : changeforgelaw7_PolicyWithoutNotIsMonotone.Pure := by
  intro x0 x1 x2 x3 x4 x5 o0 o1 o2 o3
  refine Ev.rounds ?_
  unfold changeforgelaw7_PolicyWithoutNotIsMonotone.f
  refine Ev.bind (Eval_ev _ _ _ _ _) (Ev.bind (Eval_ev _ _ _ _ _) (Ev.bind policyExample_ev (Ev.pos rfl (Ev.pos ?_ ?_))))
  · have := o0.1
    omega
  · by_cases hn : (x0.f0.any fun n => decide (n.f0 = 5)) = true
    · exact Ev.pos hn (Ev.now _)
    · refine Ev.neg hn (Ev.pos (mono_key _ _ _ _ _ _ _ _ _ ?_ ?_) (Ev.now _))
      · simpa [Lit.wf, IntKind.min, IntKind.max, IntKind.signed, IntKind.bits] using o3
      · intro n hm e
        exact hn (List.any_eq_true.mpr ⟨n, hm, decide_eq_true e⟩)
end Go.Proofs.YtblkkhddefnkpaaDoor.Pure
