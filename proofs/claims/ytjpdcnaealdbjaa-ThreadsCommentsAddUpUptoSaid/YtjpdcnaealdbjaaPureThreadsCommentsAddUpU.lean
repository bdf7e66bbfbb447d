/- Every opening and every reply is one comment, a reply makes its thread pending: the law ThreadsCommentsAddUp returns true where what it reads is of bulk at most 1048576. -/
import Derived.Test.YtjpdcnaealdbjaaOkThreadsCommentsAddUpU
import Derived.Test.YtjpdcnaealdbjaaPureThreadsPend
namespace Go.Proofs.Ytjpdcnaealdbjaa.Pure
open Go.RowKit Go.Proofs.YtjpdcnaealdbjaaW.PrintWords Go.Proofs.YtjpdcnaealdbjaaW.PrintLast Go.Proofs.Ytjpdcnaealdbjaa.PTh Go.Proofs.Ytjpdcnaealdbjaa.Pu
set_option linter.unusedVariables false
set_option linter.unusedSimpArgs false

def cnt : List S43 → Int
  | [] => 0
  | e :: es => (if e.f0 = 1 then 1 else (if e.f0 = 2 then 1 else 0)) + cnt es
theorem cnt_bd : ∀ es : List S43, 0 ≤ cnt es ∧ cnt es ≤ es.length
  | [] => ⟨Int.le_refl _, Int.le_refl _⟩
  | e :: es => by
    have := cnt_bd es
    unfold cnt
    rw [List.length_cons]
    split
    · omega
    · split <;> omega
def com : List S34 → Int
  | [] => 0
  | t :: ts => t.f2 + com ts
/-- No thread has fewer than no comments; together at most N. -/
def Bd (ths : List S34) (N : Int) : Prop := (∀ t ∈ ths, 0 ≤ t.f2) ∧ com ths ≤ N
theorem com_append : ∀ a b : List S34, com (a ++ b) = com a + com b
  | [], b => by simp [com]
  | t :: a, b => by simp only [List.cons_append, com, com_append a b]; omega
theorem com_nonneg : ∀ a : List S34, (∀ t ∈ a, 0 ≤ t.f2) → 0 ≤ com a
  | [], _ => Int.le_refl _
  | t :: a, h => by
    have := com_nonneg a (fun q hq => h q (List.mem_cons_of_mem _ hq))
    have := h t List.mem_cons_self
    unfold com
    omega
theorem com_get : ∀ (a : List S34), (∀ t ∈ a, 0 ≤ t.f2) → ∀ i, i < a.length → (a.getD i z34).f2 ≤ com a ∧ 0 ≤ (a.getD i z34).f2
  | [], _, i, hi => absurd hi (by simp)
  | t :: a, h, 0, hi => by
    have := com_nonneg a (fun q hq => h q (List.mem_cons_of_mem _ hq))
    have := h t List.mem_cons_self
    simp only [com, List.getD_cons_zero]
    omega
  | t :: a, h, i + 1, hi => by
    have := com_get a (fun q hq => h q (List.mem_cons_of_mem _ hq)) i (by rw [List.length_cons] at hi; omega)
    have := h t List.mem_cons_self
    simp only [com, List.getD_cons_succ]
    omega
theorem com_set : ∀ (a : List S34) (i : Nat) (x : S34), i < a.length → com (a.set i x) = com a - (a.getD i z34).f2 + x.f2
  | [], i, x, hi => absurd hi (by simp)
  | t :: a, 0, x, hi => by simp only [List.set_cons_zero, com, List.getD_cons_zero]; omega
  | t :: a, i + 1, x, hi => by
    have := com_set a i x (by rw [List.length_cons] at hi; omega)
    simp only [List.set_cons_succ, com, List.getD_cons_succ]
    omega
theorem mv_f2 (p : List S52) (t : S34) : (mv p t).f2 = t.f2 := by
  unfold mv
  repeat' first
    | rfl
    | split
theorem com_map (p : List S52) : ∀ a : List S34, com (a.map (mv p)) = com a
  | [] => rfl
  | t :: a => by simp only [List.map_cons, com, com_map p a, mv_f2]
/-- What a step that ends well adds. -/
theorem com_step {text : List ByteArray} {ths : List S34} {e : S43} {N : Int} (hb : Bd ths N) (h0 : 0 ≤ N) (hN : N ≤ 1000) (h : (stepV text ths e).2.2 = 0) :
    Bd (stepV text ths e).2.1 (N + 1) ∧ com (stepV text ths e).2.1 = com ths + (if e.f0 = 1 then 1 else (if e.f0 = 2 then 1 else 0)) := by
  have same : ∀ a : List S34, a = ths → Bd a (N + 1) := fun a ha => by rw [ha]; exact ⟨hb.1, by have := hb.2; omega⟩
  unfold stepV at h ⊢
  by_cases h1 : e.f0 < 1
  · rw [if_pos h1] at h; cases h
  rw [if_neg h1] at h ⊢
  by_cases h2 : 4 < e.f0
  · rw [if_pos h2] at h; cases h
  rw [if_neg h2] at h ⊢
  by_cases h3 : unusedV e = true
  · rw [if_pos h3] at h; cases h
  rw [if_neg h3] at h ⊢
  by_cases h4 : e.f1 < 0
  · rw [if_pos h4] at h; cases h
  rw [if_neg h4] at h ⊢
  by_cases h5 : 7 < e.f1
  · rw [if_pos h5] at h; cases h
  rw [if_neg h5] at h ⊢
  by_cases k1 : e.f0 = 1
  · rw [if_pos k1] at h ⊢
    rw [if_pos k1]
    unfold openV at h ⊢
    by_cases a0 : codeV e.f4 = 0
    · rw [if_pos a0] at h ⊢
      by_cases a1 : e.f3 < 0
      · rw [if_pos a1] at h; cases h
      rw [if_neg a1] at h ⊢
      by_cases a2 : (text.length : Int) ≤ e.f3
      · rw [if_pos a2] at h; cases h
      rw [if_neg a2] at h ⊢
      by_cases a3 : (12 : Int) ≤ (ths.length : Int)
      · rw [if_pos a3] at h; cases h
      rw [if_neg a3]
      have hc : com (ths ++ [(⟨e.f1, e.f3, 1, false, false⟩ : S34)]) = com ths + 1 := by rw [com_append]; rfl
      refine ⟨⟨fun t ht => ?_, ?_⟩, hc⟩
      · rcases List.mem_append.1 ht with q | q
        · exact hb.1 t q
        · rw [List.mem_singleton.1 q]; exact (by decide : (0 : Int) ≤ 1)
      · show com (ths ++ [_]) ≤ N + 1
        rw [hc]
        have := hb.2
        omega
    · rw [if_neg a0] at h
      exact absurd h a0
  rw [if_neg k1] at h ⊢
  rw [if_neg k1]
  by_cases k4 : e.f0 = 4
  · rw [if_pos k4] at h ⊢
    rw [if_neg (by omega)]
    unfold patchS at h ⊢
    by_cases a0 : (applyV e.f5.f0 text).2.1 = 0
    · rw [if_pos a0]
      refine ⟨⟨fun t ht => ?_, ?_⟩, by rw [com_map]; omega⟩
      · obtain ⟨s, hs, rfl⟩ := List.mem_map.1 ht
        rw [mv_f2]
        exact hb.1 s hs
      · show com (List.map _ _) ≤ _
        rw [com_map]
        have := hb.2
        omega
    · rw [if_neg a0] at h
      exact absurd h a0
  rw [if_neg k4] at h ⊢
  have touch : ∀ (hz : (rvTouch text ths e.f0 e.f1 e.f2).2.2 = 0), Bd (rvTouch text ths e.f0 e.f1 e.f2).2.1 (N + 1) ∧ com (rvTouch text ths e.f0 e.f1 e.f2).2.1 = com ths + (if e.f0 = 2 then 1 else 0) := by
    intro hz
    unfold rvTouch at hz ⊢
    by_cases b1 : e.f2 < 0
    · rw [if_pos b1] at hz; cases hz
    rw [if_neg b1] at hz ⊢
    by_cases b2 : (ths.length : Int) ≤ e.f2
    · rw [if_pos b2] at hz; cases hz
    rw [if_neg b2] at hz ⊢
    have hi : e.f2.toNat < ths.length := by omega
    obtain ⟨g1, g2⟩ := com_get ths hb.1 e.f2.toNat hi
    have hbd : ∀ x : S34, 0 ≤ x.f2 → x.f2 ≤ (ths.getD e.f2.toNat z34).f2 + 1 → Bd (ths.set e.f2.toNat x) (N + 1) := by
      intro x hx hx2
      refine ⟨fun t ht => ?_, by rw [com_set _ _ _ hi]; have := hb.2; omega⟩
      rcases List.mem_or_eq_of_mem_set ht with q | rfl
      · exact hb.1 t q
      · exact hx
    by_cases b3 : e.f0 = 2
    · rw [if_pos b3]
      rw [if_pos b3]
      have hw : wrap64 ((ths.getD e.f2.toNat z34).f2 + 1) = (ths.getD e.f2.toNat z34).f2 + 1 := by have := hb.2; exact w64 (by omega) (by omega)
      rw [hw]
      refine ⟨hbd _ (by show 0 ≤ (ths.getD e.f2.toNat z34).f2 + 1; omega) (Int.le_refl _), ?_⟩
      show com (ths.set _ _) = _
      rw [com_set _ _ _ hi]
      show com ths - _ + ((ths.getD e.f2.toNat z34).f2 + 1) = _
      omega
    · rw [if_neg b3] at hz ⊢
      rw [if_neg b3]
      by_cases b4 : (ths.getD e.f2.toNat z34).f4 = true
      · rw [if_pos b4] at hz; cases hz
      rw [if_neg b4] at hz ⊢
      by_cases b5 : (ths.getD e.f2.toNat z34).f0 = e.f1
      · rw [if_pos b5]
        refine ⟨hbd _ g2 (by show (ths.getD e.f2.toNat z34).f2 ≤ _; omega), ?_⟩
        show com (ths.set _ _) = _
        rw [com_set _ _ _ hi]
        show com ths - _ + (ths.getD e.f2.toNat z34).f2 = _
        omega
      · rw [if_neg b5] at hz; cases hz
  by_cases k2 : e.f0 = 2
  · rw [if_pos k2] at h ⊢
    by_cases a0 : codeV e.f4 = 0
    · rw [if_pos a0] at h ⊢
      exact touch h
    · rw [if_neg a0] at h
      exact absurd h a0
  · rw [if_neg k2] at h ⊢
    exact touch h
theorem com_run : ∀ (es : List S43) (i : Int) (text : List ByteArray) (ths : List S34) (N : Int), Bd ths N → 0 ≤ N → N + es.length ≤ 1000 → (runV es i text ths).2.2.1 = 0 →
    com (runV es i text ths).1 = com ths + cnt es ∧ (∀ t ∈ (runV es i text ths).1, 0 ≤ t.f2)
  | [], _, _, _, _, hb, _, _, _ => ⟨by simp [runV, cnt], hb.1⟩
  | e :: es, i, text, ths, N, hb, h0, hN, h => by
    rw [List.length_cons] at hN
    simp only [runV] at h ⊢
    by_cases c : (stepV text ths e).2.2 = 0
    · rw [if_pos c] at h ⊢
      obtain ⟨hb2, hc⟩ := com_step hb h0 (by omega) c
      obtain ⟨q1, q2⟩ := com_run es (i + 1) _ _ (N + 1) hb2 (by omega) (by omega) h
      refine ⟨?_, q2⟩
      rw [q1, hc]
      simp only [cnt]
      omega
    · rw [if_neg c] at h
      exact absurd h c
theorem rd43 {xs : List S43} {j : Nat} {t : S43} (hg : ∀ d, xs.getD j d = t) : rd_T43 xs (j : Int) = t := by
  unfold rd_T43
  rw [Int.toNat_natCast]
  exact hg _
/-- What the law answers behind its loops. -/
def fin (c1 c2 sum : Int) (found : Bool) : Option Bool := if c1 = 0 then (if sum = 0 then (if c2 = 0 then some found else some true) else none) else some true
theorem l2_ev (th : Int) (p : List Int) (hm : p.length ≤ 1000000) (sum c1 d1 c2 d2 : Int) (b : Bool) (hfin : fin c1 c2 sum b = some true) : ∀ (ps : List Int) (j : Nat) (fd : Bool), p.drop j = ps → j ≤ p.length → (fd = true ∨ th ∈ ps ∨ ∀ q, fin c1 c2 sum q = some true) →
    Ev (fun k => changeforgelaw7_ThreadsCommentsAddUp.l2 k th p sum fd (j : Int) c1 d1 c2 d2) true := by
  intro ps
  induction ps with
  | nil =>
    intro j fd h hj hor
    have := drop_nil h
    refine Ev.succ ?_
    simp only [changeforgelaw7_ThreadsCommentsAddUp.l2]
    refine Ev.neg (by omega) ?_
    have hf : fin c1 c2 sum fd = some true := by
      rcases hor with rfl | hor | hor
      · unfold fin at hfin ⊢
        by_cases q1 : c1 = 0
        · rw [if_pos q1] at hfin ⊢
          by_cases q2 : sum = 0
          · rw [if_pos q2]
            split <;> rfl
          · rw [if_neg q2] at hfin; cases hfin
        · rw [if_neg q1]
      · cases hor
      · exact hor fd
    unfold fin at hf
    exact Ev.const (fun k => hf)
  | cons a ps ih =>
    intro j fd h hj hor
    obtain ⟨hl, hg, hd⟩ := drop_cons h
    refine Ev.succ ?_
    simp only [changeforgelaw7_ThreadsCommentsAddUp.l2]
    refine Ev.pos (by omega) ?_
    rw [wsucc (by omega)]
    by_cases cf : fd = true
    · refine Ev.pos cf (ih (j + 1) true hd (by omega) (.inl rfl))
    · refine Ev.neg cf (Ev.pos (by omega) ?_)
      have er : rd p (j : Int) = a := by unfold rd; rw [Int.toNat_natCast]; exact hg 0
      rw [er]
      refine ih (j + 1) _ hd (by omega) ?_
      rcases hor with hor | hor | hor
      · exact absurd hor cf
      · rcases List.mem_cons.1 hor with q | q
        · left; rw [q]; exact beq_self_eq_true _
        · exact .inr (.inl q)
      · exact .inr (.inr hor)
theorem l1_ev (th : Int) (ths : List S34) (hm : ths.length ≤ 12) (p : List Int) (c1 d1 c2 d2 : Int) (hbd : ∀ t ∈ ths, 0 ≤ t.f2) (hcm : com ths ≤ 1000) : ∀ (ts : List S34) (j : Nat) (s : Int), ths.drop j = ts → j ≤ ths.length → com ts ≤ 1000 → (∀ t ∈ ts, 0 ≤ t.f2) → -1000000 ≤ s - com ts → s ≤ 100000000 →
    Ev (fun k => changeforgelaw7_ThreadsCommentsAddUp.l2 k th p (s - com ts) false 0 c1 d1 c2 d2) true → Ev (fun k => changeforgelaw7_ThreadsCommentsAddUp.l1 k th ths p s (j : Int) c1 d1 c2 d2) true := by
  intro ts
  induction ts with
  | nil =>
    intro j s h hj hc hn hb1 hb2 hnext
    have := drop_nil h
    refine Ev.succ ?_
    simp only [changeforgelaw7_ThreadsCommentsAddUp.l1]
    refine Ev.neg (by omega) ?_
    simpa [com] using hnext
  | cons t ts ih =>
    intro j s h hj hc hn hb1 hb2 hnext
    obtain ⟨hl, hg, hd⟩ := drop_cons h
    have ht := hn t List.mem_cons_self
    have hts := com_nonneg ts (fun q hq => hn q (List.mem_cons_of_mem _ hq))
    have hcc : com (t :: ts) = t.f2 + com ts := rfl
    refine Ev.succ ?_
    simp only [changeforgelaw7_ThreadsCommentsAddUp.l1]
    refine Ev.pos (by omega) (Ev.pos (by omega) ?_)
    rw [rd34 hg, wsucc (by omega), w64 (x := s - t.f2) (by omega) (by omega)]
    refine ih (j + 1) (s - t.f2) hd (by omega) (by omega) (fun q hq => hn q (List.mem_cons_of_mem _ hq)) (by omega) (by omega) ?_
    rw [show s - t.f2 - com ts = s - com (t :: ts) by rw [hcc]; omega]
    exact hnext
theorem l0_ev (th : Int) (es : List S43) (hm : es.length ≤ 1048576) (ths : List S34) (p : List Int) (c1 d1 c2 d2 : Int) : ∀ (ts : List S43) (j : Nat) (s : Int), es.drop j = ts → j ≤ es.length → 0 ≤ s → s ≤ j →
    Ev (fun k => changeforgelaw7_ThreadsCommentsAddUp.l1 k th ths p (s + cnt ts) 0 c1 d1 c2 d2) true → Ev (fun k => changeforgelaw7_ThreadsCommentsAddUp.l0 k es th ths p s (j : Int) c1 d1 c2 d2) true := by
  intro ts
  induction ts with
  | nil =>
    intro j s h hj hs hs2 hnext
    have := drop_nil h
    refine Ev.succ ?_
    simp only [changeforgelaw7_ThreadsCommentsAddUp.l0]
    refine Ev.neg (by omega) ?_
    simpa [cnt] using hnext
  | cons e ts ih =>
    intro j s h hj hs hs2 hnext
    obtain ⟨hl, hg, hd⟩ := drop_cons h
    refine Ev.succ ?_
    simp only [changeforgelaw7_ThreadsCommentsAddUp.l0]
    refine Ev.pos (by omega) (Ev.pos (by omega) ?_)
    rw [rd43 hg, wsucc (by omega)]
    simp only [cnt] at hnext
    by_cases k1 : e.f0 = 1
    · rw [if_pos k1] at hnext
      rw [w64 (x := s + 1) (by omega) (by omega)]
      refine Ev.pos k1 (ih (j + 1) (s + 1) hd (by omega) (by omega) (by omega) ?_)
      rw [show s + 1 + cnt ts = s + (1 + cnt ts) by omega]
      exact hnext
    · rw [if_neg k1] at hnext
      refine Ev.neg k1 ?_
      by_cases k2 : e.f0 = 2
      · rw [if_pos k2] at hnext
        rw [w64 (x := s + 1) (by omega) (by omega)]
        refine Ev.pos k2 (ih (j + 1) (s + 1) hd (by omega) (by omega) (by omega) ?_)
        rw [show s + 1 + cnt ts = s + (1 + cnt ts) by omega]
        exact hnext
      · rw [if_neg k2] at hnext
        refine Ev.neg k2 (ih (j + 1) s hd (by omega) (by omega) (by omega) ?_)
        rw [show s + cnt ts = s + (0 + cnt ts) by omega]
        exact hnext
theorem runV_err : ∀ (es : List S43) (i : Int) (text : List ByteArray) (ths : List S34), (runV es i text ths).2.2.1 ≠ 0 → (runV es i text ths).1 = []
  | [], _, _, _, h => absurd rfl h
  | e :: es, i, text, ths, h => by
    simp only [runV] at h ⊢
    by_cases c : (stepV text ths e).2.2 = 0
    · rw [if_pos c] at h ⊢
      exact runV_err es _ _ _ h
    · rw [if_neg c]
theorem RunV_err {l0 : List ByteArray} {l1 : List S43} (h : (RunV l0 l1).2.2.1 ≠ 0) : (RunV l0 l1).1 = [] := by
  unfold RunV at h ⊢
  by_cases h1 : (linesV l0).1 = 0
  · rw [if_pos h1] at h ⊢
    by_cases h2 : (30 : Int) < (l1.length : Int)
    · rw [if_pos h2]
    · rw [if_neg h2] at h ⊢
      exact runV_err _ _ _ _ h
  · rw [if_neg h1]
/-- A reply that goes through: its thread is there, and pending. -/
theorem reply_ok {text : List ByteArray} {ths : List S34} {us th : Int} {s : ByteArray} (h : (stepV text ths ⟨2, us, th, 0, s, (⟨[]⟩ : S41)⟩).2.2 = 0) :
    0 ≤ th ∧ th.toNat < (stepV text ths ⟨2, us, th, 0, s, (⟨[]⟩ : S41)⟩).2.1.length ∧ ((stepV text ths ⟨2, us, th, 0, s, (⟨[]⟩ : S41)⟩).2.1.getD th.toNat z34).f4 = false := by
  unfold stepV at h ⊢
  simp only [show ¬ ((2 : Int) < 1) by decide, show ¬ ((4 : Int) < 2) by decide, show ¬ ((2 : Int) = 1) by decide, show ¬ ((2 : Int) = 4) by decide, if_false, if_true] at h ⊢
  by_cases h0 : unusedV ⟨2, us, th, 0, s, (⟨[]⟩ : S41)⟩ = true
  · rw [if_pos h0] at h; cases h
  rw [if_neg h0] at h ⊢
  by_cases h1 : us < 0
  · rw [if_pos h1] at h; cases h
  rw [if_neg h1] at h ⊢
  by_cases h2 : 7 < us
  · rw [if_pos h2] at h; cases h
  rw [if_neg h2] at h ⊢
  by_cases h3 : codeV s = 0
  · rw [if_pos h3] at h ⊢
    unfold rvTouch at h ⊢
    by_cases b1 : th < 0
    · rw [if_pos b1] at h; cases h
    rw [if_neg b1] at h ⊢
    by_cases b2 : (ths.length : Int) ≤ th
    · rw [if_pos b2] at h; cases h
    rw [if_neg b2, if_pos rfl]
    have hi : th.toNat < ths.length := by omega
    refine ⟨by omega, by show th.toNat < (List.set _ _ _).length; rw [List.length_set]; exact hi, ?_⟩
    show ((List.set _ _ _).getD th.toNat z34).f4 = false
    rw [List.getD_eq_getElem?_getD, List.getElem?_set_self hi]
    rfl
  · rw [if_neg h3] at h
    exact absurd h h3
theorem ThreadsCommentsAddUpU : changeforgelaw7_ThreadsCommentsAddUp.PureU := by
  intro l0 l1 us th h0 h1 hus hth
  have lb : l1.length ≤ 1048576 := h1.1.2
  refine Ev.rounds ?_
  unfold changeforgelaw7_ThreadsCommentsAddUp.f
  refine Ev.bind (Run_ev l0 l1) ?_
  refine Ev.pos (by simp only [List.length_nil]; omega) ?_
  simp only [Option.bind_some, List.nil_append]
  refine Ev.pos (by omega) ?_
  refine Ev.bind (Pending_ev l0 _) (Ev.bind threadsExample_ev ?_)
  simp only [if_true]
  have hpl : (PendV l0 (l1 ++ [(⟨2, us, th, 0, (⟨#[119, 101, 108, 108]⟩ : ByteArray), (⟨[]⟩ : S41)⟩ : S43)])).1.length ≤ 1000000 := by
    have a := pend_len (RunV l0 (l1 ++ [(⟨2, us, th, 0, (⟨#[119, 101, 108, 108]⟩ : ByteArray), (⟨[]⟩ : S41)⟩ : S43)])).1 0
    have b := RunV_len l0 (l1 ++ [(⟨2, us, th, 0, (⟨#[119, 101, 108, 108]⟩ : ByteArray), (⟨[]⟩ : S41)⟩ : S43)])
    show (pendFrom _ 0).length ≤ 1000000
    omega
  have hcb := cnt_bd l1
  refine l0_ev th l1 lb _ _ _ _ _ _ l1 0 0 rfl (Nat.zero_le _) (Int.le_refl _) (Int.le_refl _) ?_
  rw [Int.zero_add]
  by_cases c1 : (RunV l0 l1).2.2.1 = 0
  · obtain ⟨k1, k2, k3⟩ := RunV_ok c1
    have c1' := c1
    rw [k3] at c1'
    obtain ⟨q1, q2⟩ := com_run l1 0 l0 [] 0 ⟨fun t ht => absurd ht (by simp), Int.le_refl _⟩ (Int.le_refl _) (by omega) c1'
    have hc0 : com ([] : List S34) = 0 := rfl
    rw [hc0, Int.zero_add] at q1
    rw [← k3] at q1 q2
    refine l1_ev th _ (RunV_len l0 l1) _ _ _ _ _ q2 (by omega) (RunV l0 l1).1 0 (cnt l1) rfl (Nat.zero_le _) (by omega) q2 (by omega) (by omega) ?_
    rw [q1, Int.sub_self]
    by_cases c2 : (PendV l0 (l1 ++ [(⟨2, us, th, 0, (⟨#[119, 101, 108, 108]⟩ : ByteArray), (⟨[]⟩ : S41)⟩ : S43)])).2.1 = 0
    · refine l2_ev th _ hpl 0 _ _ _ _ true (by unfold fin; rw [if_pos c1, if_pos rfl, if_pos c2]) _ 0 false rfl (Nat.zero_le _) (.inr (.inl ?_))
      have c2' : (RunV l0 (l1 ++ [(⟨2, us, th, 0, (⟨#[119, 101, 108, 108]⟩ : ByteArray), (⟨[]⟩ : S41)⟩ : S43)])).2.2.1 = 0 := c2
      obtain ⟨_, e2⟩ := RunV_append c2'
      rw [e2] at c2'
      simp only [runV] at c2' e2
      by_cases d : (stepV (RunV l0 l1).2.1 (RunV l0 l1).1 ⟨2, us, th, 0, (⟨#[119, 101, 108, 108]⟩ : ByteArray), (⟨[]⟩ : S41)⟩).2.2 = 0
      · rw [if_pos d] at e2
        obtain ⟨p1, p2, p3⟩ := reply_ok d
        have hm := pend_mem _ 0 _ p2 p3
        rw [Nat.zero_add, Int.toNat_of_nonneg p1] at hm
        show th ∈ pendFrom (RunV l0 _).1 0
        rw [e2]
        exact hm
      · rw [if_neg d] at c2'
        exact absurd c2' d
    · exact l2_ev th _ hpl 0 _ _ _ _ true (by unfold fin; rw [if_pos c1, if_pos rfl, if_neg c2]) _ 0 false rfl (Nat.zero_le _) (.inr (.inr (fun q => by unfold fin; rw [if_pos c1, if_pos rfl, if_neg c2])))
  · rw [RunV_err c1]
    refine l1_ev th [] (by decide) _ _ _ _ _ (fun t ht => absurd ht (by simp)) (by decide) [] 0 (cnt l1) rfl (Nat.zero_le _) (by decide) (fun t ht => absurd ht (by simp)) (by show -1000000 ≤ cnt l1 - 0; omega) (by omega) ?_
    exact l2_ev th _ hpl _ _ _ _ _ true (by unfold fin; rw [if_neg c1]) _ 0 false rfl (Nat.zero_le _) (.inr (.inr (fun q => by unfold fin; rw [if_neg c1])))
end Go.Proofs.Ytjpdcnaealdbjaa.Pure
