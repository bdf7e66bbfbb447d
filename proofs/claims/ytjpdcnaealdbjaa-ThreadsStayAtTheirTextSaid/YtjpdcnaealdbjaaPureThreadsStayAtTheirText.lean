/- A thread that is not outdated stands where its text stands: the law ThreadsStayAtTheirText returns true. -/
import Derived.Test.YtjpdcnaealdbjaaOkThreadsStayAtTheirText
import Derived.Test.YtjpdcnaealdbjaaPureThreadsEx
namespace Go.Proofs.Ytjpdcnaealdbjaa.Pure
open Go.RowKit Go.Proofs.YtjpdcnaealdbjaaW.PrintWords Go.Proofs.YtjpdcnaealdbjaaW.PrintLast Go.Proofs.Ytjpdcnaealdbjaa.PTh Go.Proofs.Ytjpdcnaealdbjaa.Pu
set_option linter.unusedVariables false
set_option linter.unusedSimpArgs false

/-- Thread q is there; if it is not outdated its line has the contents c. -/
def Has (q : Nat) (c : ByteArray) (text : List ByteArray) (ths : List S34) : Prop :=
  q < ths.length ∧ ((ths.getD q z34).f3 = false → 0 ≤ (ths.getD q z34).f1 ∧ text[(ths.getD q z34).f1.toNat]? = some c)
theorem has_set {q : Nat} {c : ByteArray} {text : List ByteArray} {ths : List S34} (h : Has q c text ths) (j : Nat) (x : S34) (h1 : x.f1 = (ths.getD j z34).f1) (h3 : x.f3 = (ths.getD j z34).f3) : Has q c text (ths.set j x) := by
  refine ⟨by rw [List.length_set]; exact h.1, ?_⟩
  by_cases e : q = j
  · subst e
    have e2 : (ths.set q x).getD q z34 = x := by simp only [List.getD_eq_getElem?_getD, List.getElem?_set_self h.1, Option.getD_some]
    rw [e2, h1, h3]
    exact h.2
  · have e2 : (ths.set j x).getD q z34 = ths.getD q z34 := by simp only [List.getD_eq_getElem?_getD, List.getElem?_set_ne (fun h => e h.symm)]
    rw [e2]
    exact h.2
theorem has_snoc {q : Nat} {c : ByteArray} {text : List ByteArray} {ths : List S34} (h : Has q c text ths) (x : S34) : Has q c text (ths ++ [x]) := by
  refine ⟨by have := h.1; rw [List.length_append]; omega, ?_⟩
  have e : (ths ++ [x]).getD q z34 = ths.getD q z34 := by simp only [List.getD_eq_getElem?_getD, List.getElem?_append_left h.1]
  rw [e]
  exact h.2
theorem has_touch {q : Nat} {c : ByteArray} {text : List ByteArray} {ths : List S34} (h : Has q c text ths) (e0 e1 e2 : Int) : Has q c text (rvTouch text ths e0 e1 e2).2.1 := by
  unfold rvTouch
  repeat' first
    | exact h
    | exact has_set h _ _ rfl rfl
    | split
theorem has_open {q : Nat} {c : ByteArray} {text : List ByteArray} {ths : List S34} (h : Has q c text ths) (us ln : Int) (tx : ByteArray) : Has q c text (openV text ths us ln tx).1 := by
  unfold openV
  repeat' first
    | exact h
    | exact has_snoc h _
    | split
theorem has_patch {q : Nat} {c : ByteArray} {text : List ByteArray} {ths : List S34} (h : Has q c text ths) (hf : Fit text ths) (p : List S52) : Has q c (patchS text ths p).1 (patchS text ths p).2.1 := by
  unfold patchS
  by_cases hz : (applyV p text).2.1 = 0
  · rw [if_pos hz]
    obtain ⟨h1, _, h3, h4, h5⟩ := applyV_ok hz
    obtain ⟨_, hm, hv⟩ := patchV_zero h1
    have e : (ths.map (mv p)).getD q z34 = mv p (ths.getD q z34) := by
      simp only [List.getD_eq_getElem?_getD, List.getElem?_map, List.getElem?_eq_getElem h.1, Option.map_some, Option.getD_some]
    refine ⟨by show q < (List.map _ _).length; rw [List.length_map]; exact h.1, ?_⟩
    show ((ths.map (mv p)).getD q z34).f3 = false → 0 ≤ ((ths.map (mv p)).getD q z34).f1 ∧ (outF text p 0)[((ths.map (mv p)).getD q z34).f1.toNat]? = some c
    rw [e]
    intro h0
    unfold mv at h0 ⊢
    by_cases d1 : (ths.getD q z34).f3 = true
    · rw [if_pos d1] at h0; rw [d1] at h0; cases h0
    rw [if_neg d1] at h0 ⊢
    by_cases d : (place p (ths.getD q z34).f1 0).2 = true
    · rw [if_pos d]
      obtain ⟨g1, g2⟩ := h.2 (by simpa using d1)
      obtain ⟨i, hi⟩ : ∃ i : Nat, (ths.getD q z34).f1 = (i : Int) := ⟨(ths.getD q z34).f1.toNat, by omega⟩
      rw [hi] at d g2 ⊢
      rw [Int.toNat_natCast] at g2
      have hlt : i < text.length := by
        rcases Nat.lt_or_ge i text.length with hl | hl
        · exact hl
        · rw [List.getElem?_eq_none hl] at g2; cases g2
      obtain ⟨r, hr, ht2⟩ := place_text text p 0 i 0 hv h5 (by omega) hlt d
      have er : (place p (i : Int) 0).1 = (r : Int) := by rw [hr]; omega
      show 0 ≤ (place p (i : Int) 0).1 ∧ (outF text p 0)[(place p (i : Int) 0).1.toNat]? = some c
      rw [er, Int.toNat_natCast, ht2, g2]
      exact ⟨by omega, rfl⟩
    · rw [if_neg d] at h0
      cases h0
  · rw [if_neg hz]
    exact h
theorem has_step {q : Nat} {c : ByteArray} {text : List ByteArray} {ths : List S34} (h : Has q c text ths) (hf : Fit text ths) (e : S43) : Has q c (stepV text ths e).1 (stepV text ths e).2.1 := by
  unfold stepV
  repeat' first
    | exact h
    | exact has_patch h hf _
    | exact has_open h _ _ _
    | (rw [touch_text]; exact has_touch h _ _ _)
    | split
theorem has_run {q : Nat} {c : ByteArray} : ∀ (es : List S43) (i : Int) (text : List ByteArray) (ths : List S34), Has q c text ths → Fit text ths → (runV es i text ths).2.2.1 = 0 → Has q c (runV es i text ths).2.1 (runV es i text ths).1
  | [], _, _, _, h, _, _ => h
  | e :: es, i, text, ths, h, hf, hz => by
    simp only [runV] at hz ⊢
    by_cases k : (stepV text ths e).2.2 = 0
    · rw [if_pos k] at hz ⊢
      exact has_run es _ _ _ (has_step h hf e) (fit_step e hf) hz
    · rw [if_neg k] at hz
      exact absurd hz k
/-- The number of openings. -/
def opn : List S43 → Nat
  | [] => 0
  | e :: es => (if e.f0 = 1 then 1 else 0) + opn es
theorem opn_append : ∀ a b : List S43, opn (a ++ b) = opn a + opn b
  | [], b => by simp [opn]
  | e :: a, b => by simp only [List.cons_append, opn, opn_append a b]; omega
theorem touch_len (text : List ByteArray) (ths : List S34) (e0 e1 e2 : Int) : (rvTouch text ths e0 e1 e2).2.1.length = ths.length := by
  unfold rvTouch
  repeat' first
    | rfl
    | (show (List.set _ _ _).length = _; rw [List.length_set])
    | split
/-- What an opening leaves that goes through. -/
theorem open_ok {text : List ByteArray} {ths : List S34} {e : S43} (he : e.f0 = 1) (h : (stepV text ths e).2.2 = 0) :
    0 ≤ e.f3 ∧ e.f3 < text.length ∧ stepV text ths e = (text, ths ++ [⟨e.f1, e.f3, 1, false, false⟩], 0) := by
  unfold stepV at h ⊢
  by_cases h1 : e.f0 < 1
  · omega
  rw [if_neg h1] at h ⊢
  by_cases h2 : 4 < e.f0
  · omega
  rw [if_neg h2] at h ⊢
  by_cases h3 : unusedV e = true
  · rw [if_pos h3] at h; cases h
  rw [if_neg h3] at h ⊢
  by_cases h4 : e.f1 < 0
  · rw [if_pos h4] at h; cases h
  rw [if_neg h4] at h ⊢
  by_cases h5 : 7 < e.f1
  · rw [if_pos h5] at h; cases h
  rw [if_neg h5] at h ⊢
  rw [if_pos he] at h ⊢
  unfold openV at h ⊢
  by_cases a0 : codeV e.f4 = 0
  · rw [if_pos a0] at h ⊢
    by_cases a1 : e.f3 < 0
    · rw [if_pos a1] at h; cases h
    rw [if_neg a1] at h ⊢
    by_cases a2 : (text.length : Int) ≤ e.f3
    · rw [if_pos a2] at h; cases h
    rw [if_neg a2] at h ⊢
    by_cases a3 : (12 : Int) ≤ (ths.length : Int)
    · rw [if_pos a3] at h; cases h
    rw [if_neg a3]
    exact ⟨by omega, by omega, rfl⟩
  · rw [if_neg a0] at h
    exact absurd h a0
theorem step_len {text : List ByteArray} {ths : List S34} {e : S43} (h : (stepV text ths e).2.2 = 0) : (stepV text ths e).2.1.length = ths.length + (if e.f0 = 1 then 1 else 0) := by
  by_cases he : e.f0 = 1
  · obtain ⟨_, _, e1⟩ := open_ok he h
    rw [e1, if_pos he]
    simp
  · rw [if_neg he]
    unfold stepV patchS
    rw [if_neg he]
    repeat' first
      | rfl
      | exact touch_len _ _ _ _ _
      | (show (List.map _ _).length = _; rw [List.length_map]; rfl)
      | split
theorem run_opn : ∀ (es : List S43) (i : Int) (text : List ByteArray) (ths : List S34), (runV es i text ths).2.2.1 = 0 → (runV es i text ths).1.length = ths.length + opn es
  | [], _, _, _, _ => rfl
  | e :: es, i, text, ths, hz => by
    simp only [runV] at hz ⊢
    by_cases k : (stepV text ths e).2.2 = 0
    · rw [if_pos k] at hz ⊢
      rw [run_opn es _ _ _ hz, step_len k]
      simp only [opn]
      omega
    · rw [if_neg k] at hz
      exact absurd hz k
theorem rd43 {xs : List S43} {j : Nat} {t : S43} (hg : ∀ d, xs.getD j d = t) : rd_T43 xs (j : Int) = t := by
  unfold rd_T43
  rw [Int.toNat_natCast]
  exact hg _
theorem getD_of {l : List ByteArray} {i : Nat} {c d : ByteArray} (h : l[i]? = some c) : l.getD i d = c := by rw [List.getD_eq_getElem?_getD, h]; rfl
theorem stay_loop (l0 : List ByteArray) (l1 : List S43) (hz : (RunV l0 l1).2.2.1 = 0) (d1 : Int) : ∀ (ts : List S43) (j : Nat), l1.drop j = ts → j ≤ l1.length →
    Ev (fun k => changeforgelaw7_ThreadsStayAtTheirText.l0 k l0 l1 (RunV l0 l1).1 (RunV l0 l1).2.1 ((opn (l1.take j) : Nat) : Int) (j : Int) (RunV l0 l1).2.2.1 d1) true := by
  obtain ⟨z1, z2, z3⟩ := RunV_ok hz
  have hz' := hz
  rw [z3] at hz'
  have hopn : (RunV l0 l1).1.length = opn l1 := by
    rw [z3, run_opn _ _ _ _ hz']
    simp
  intro ts
  induction ts with
  | nil =>
    intro j h hj
    have hle := drop_nil h
    refine Ev.succ ?_
    simp only [changeforgelaw7_ThreadsStayAtTheirText.l0]
    refine Ev.pos hz ?_
    rw [decide_eq_false (by omega)]
    refine Ev.succ ?_
    simp only [changeforgelaw7_ThreadsStayAtTheirText.j1]
    refine Ev.neg (by simp) (Ev.pos hz ?_)
    have e : (((opn (l1.take j) : Nat) : Int) == ((RunV l0 l1).1.length : Int)) = true := by
      rw [hopn, List.take_of_length_le (by omega)]
      exact beq_self_eq_true _
    rw [e]
    exact Ev.now _
  | cons e ts ih =>
    intro j h hj
    obtain ⟨hl, hg, hd⟩ := drop_cons h
    have htake : l1.take (j + 1) = l1.take j ++ [e] := by
      have e0 := hg z43
      rw [List.getD_eq_getElem?_getD, List.getElem?_eq_getElem hl, Option.getD_some] at e0
      rw [← e0, List.take_append_getElem hl]
    have hon : opn (l1.take (j + 1)) = opn (l1.take j) + (if e.f0 = 1 then 1 else 0) := by rw [htake, opn_append]; simp [opn]
    refine Ev.succ ?_
    simp only [changeforgelaw7_ThreadsStayAtTheirText.l0]
    refine Ev.pos hz ?_
    rw [decide_eq_true (by omega)]
    refine Ev.succ ?_
    simp only [changeforgelaw7_ThreadsStayAtTheirText.j1]
    refine Ev.pos (by trivial) (Ev.pos (by omega) (Ev.pos (by omega) ?_))
    rw [rd43 hg, wsucc (by omega)]
    by_cases he : e.f0 = 1
    · refine Ev.pos he (Ev.pos (by omega) ?_)
      rw [Int.toNat_natCast]
      refine Ev.bind (Run_ev l0 (l1.take j)) ?_
      have hsplit : l1.take j ++ (e :: ts) = l1 := by rw [← h]; exact List.take_append_drop _ _
      have hz2 := hz
      rw [← hsplit] at hz2
      obtain ⟨a, b⟩ := RunV_append hz2
      refine Ev.pos a ?_
      obtain ⟨w1, w2, w3⟩ := RunV_ok a
      have a' := a
      rw [w3] at a'
      have hjl : (RunV l0 (l1.take j)).1.length = opn (l1.take j) := by
        rw [w3, run_opn _ _ _ _ a']
        simp
      have hf : Fit (RunV l0 (l1.take j)).2.1 (RunV l0 (l1.take j)).1 := by
        rw [w3]
        exact run_fit _ _ _ _ (fit_nil w1) a'
      rw [hsplit] at b
      clear hz'
      have hstep : (stepV (RunV l0 (l1.take j)).2.1 (RunV l0 (l1.take j)).1 e).2.2 = 0 := by
        have h_ := hz
        rw [b] at h_
        simp only [runV] at h_
        by_cases k : (stepV (RunV l0 (l1.take j)).2.1 (RunV l0 (l1.take j)).1 e).2.2 = 0
        · exact k
        · rw [if_neg k] at h_
          exact absurd h_ k
      obtain ⟨o1, o2, o3⟩ := open_ok he hstep
      have hb2 : RunV l0 l1 = runV ts (((l1.take j).length : Int) + 1) (RunV l0 (l1.take j)).2.1 ((RunV l0 (l1.take j)).1 ++ [⟨e.f1, e.f3, 1, false, false⟩]) := by
        rw [b]
        simp only [runV]
        rw [o3, if_pos rfl]
      have htx : e.f3.toNat < (RunV l0 (l1.take j)).2.1.length := by omega
      have hhas : Has (opn (l1.take j)) ((RunV l0 (l1.take j)).2.1[e.f3.toNat]) (RunV l0 (l1.take j)).2.1 ((RunV l0 (l1.take j)).1 ++ [⟨e.f1, e.f3, 1, false, false⟩]) := by
        have eg : ((RunV l0 (l1.take j)).1 ++ [(⟨e.f1, e.f3, 1, false, false⟩ : S34)]).getD (opn (l1.take j)) z34 = ⟨e.f1, e.f3, 1, false, false⟩ := by
          rw [← hjl]
          simp [List.getD_eq_getElem?_getD]
        refine ⟨by rw [List.length_append, hjl]; simp, ?_⟩
        rw [eg]
        intro _
        exact ⟨o1, List.getElem?_eq_getElem htx⟩
      have hfit2 := fit_step e hf
      rw [o3] at hfit2
      have hz3 := hz
      rw [hb2] at hz3
      have hfin := has_run ts _ _ _ hhas hfit2 hz3
      rw [← hb2] at hfin
      obtain ⟨f1_, f2_⟩ := hfin
      refine Ev.neg (by omega) ?_
      rw [decide_eq_false (by omega)]
      refine Ev.succ ?_
      simp only [changeforgelaw7_ThreadsStayAtTheirText.j2]
      refine Ev.neg (by simp) (Ev.pos (by omega) (Ev.pos (by omega) ?_))
      have er : rd_T34 (RunV l0 l1).1 ((opn (l1.take j) : Nat) : Int) = (RunV l0 l1).1.getD (opn (l1.take j)) z34 := by unfold rd_T34; rw [Int.toNat_natCast]
      rw [er, rd43 hg, wsucc (j := opn (l1.take j)) (by have := RunV_len l0 l1; omega), wsucc (j := j) (by omega)]
      have hnext := ih (j + 1) hd (by omega)
      rw [hon, if_pos he] at hnext
      by_cases c : ((RunV l0 l1).1.getD (opn (l1.take j)) z34).f3 = true
      · exact Ev.pos c hnext
      · obtain ⟨g1, g2⟩ := f2_ (by simpa using c)
        have glt : ((RunV l0 l1).1.getD (opn (l1.take j)) z34).f1.toNat < (RunV l0 l1).2.1.length := by
          rcases Nat.lt_or_ge ((RunV l0 l1).1.getD (opn (l1.take j)) z34).f1.toNat (RunV l0 l1).2.1.length with hl2 | hl2
          · exact hl2
          · rw [List.getElem?_eq_none hl2] at g2; cases g2
        refine Ev.neg c (Ev.neg (by omega) (Ev.neg (by omega) (Ev.pos (by omega) (Ev.pos (by omega) (Ev.pos (by omega) (Ev.pos (by omega) (Ev.pos (by omega) (Ev.pos (by omega) (Ev.pos ?_ hnext))))))))) 
        rw [ba_eq]
        unfold rdOf
        rw [getD_of g2, getD_of (List.getElem?_eq_getElem htx)]
    · refine Ev.neg he ?_
      have hnext := ih (j + 1) hd (by omega)
      rw [hon, if_neg he, Nat.add_zero] at hnext
      exact hnext
theorem ThreadsStayAtTheirText : changeforgelaw7_ThreadsStayAtTheirText.Pure := by
  intro l0 l1 h0 h1
  refine Ev.rounds ?_
  unfold changeforgelaw7_ThreadsStayAtTheirText.f
  refine Ev.bind (Run_ev l0 l1) (Ev.bind threadsExample_ev ?_)
  simp only [if_true]
  by_cases hz : (RunV l0 l1).2.2.1 = 0
  · have := stay_loop l0 l1 hz (RunV l0 l1).2.2.2 l1 0 rfl (Nat.zero_le _)
    simpa [opn] using this
  · refine Ev.succ ?_
    simp only [changeforgelaw7_ThreadsStayAtTheirText.l0]
    refine Ev.neg hz (Ev.succ ?_)
    simp only [changeforgelaw7_ThreadsStayAtTheirText.j1]
    exact Ev.neg (by simp) (Ev.neg hz (Ev.now _))
end Go.Proofs.Ytjpdcnaealdbjaa.Pure
