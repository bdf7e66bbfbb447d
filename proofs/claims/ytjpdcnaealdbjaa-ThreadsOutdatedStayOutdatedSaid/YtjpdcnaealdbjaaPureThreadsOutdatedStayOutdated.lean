/- An outdated thread stays outdated where it is: the law ThreadsOutdatedStayOutdated returns true. -/
import Derived.Test.YtjpdcnaealdbjaaOkThreadsOutdatedStayOutdated
import Derived.Test.YtjpdcnaealdbjaaPureThreadsEx
namespace Go.Proofs.Ytjpdcnaealdbjaa.Pure
open Go.RowKit Go.Proofs.YtjpdcnaealdbjaaW.PrintWords Go.Proofs.YtjpdcnaealdbjaaW.PrintLast Go.Proofs.Ytjpdcnaealdbjaa.PTh Go.Proofs.Ytjpdcnaealdbjaa.Pu
set_option linter.unusedVariables false
set_option linter.unusedSimpArgs false

/-- b comes out of a: the same users; what is outdated stays so, where it is. -/
def Out (a b : List S34) : Prop := a.length ≤ b.length ∧ ∀ i : Nat, i < a.length → (a.getD i z34).f0 = (b.getD i z34).f0 ∧ ((a.getD i z34).f3 = true → (b.getD i z34).f3 = true ∧ (a.getD i z34).f1 = (b.getD i z34).f1)
theorem Out.refl (a : List S34) : Out a a := ⟨Nat.le_refl _, fun i hi => ⟨rfl, fun h => ⟨h, rfl⟩⟩⟩
theorem Out.trans {a b c : List S34} (h : Out a b) (k : Out b c) : Out a c :=
  ⟨Nat.le_trans h.1 k.1, fun i hi => by
    obtain ⟨h1, h2⟩ := h.2 i hi
    obtain ⟨k1, k2⟩ := k.2 i (by have := h.1; omega)
    refine ⟨h1.trans k1, fun q => ?_⟩
    obtain ⟨q1, q2⟩ := h2 q
    obtain ⟨q3, q4⟩ := k2 q1
    exact ⟨q3, q2.trans q4⟩⟩
theorem out_map (p : List S52) (a : List S34) : Out a (a.map (mv p)) := by
  refine ⟨by rw [List.length_map]; exact Nat.le_refl _, fun i hi => ?_⟩
  have e : (a.map (mv p)).getD i z34 = mv p (a.getD i z34) := by
    simp only [List.getD_eq_getElem?_getD, List.getElem?_map, List.getElem?_eq_getElem hi, Option.map_some, Option.getD_some]
  rw [e]
  unfold mv
  by_cases h : (a.getD i z34).f3 = true
  · rw [if_pos h]
    exact ⟨rfl, fun q => ⟨q, rfl⟩⟩
  · rw [if_neg h]
    refine ⟨?_, fun q => absurd q h⟩
    split <;> rfl
theorem out_snoc (a : List S34) (x : S34) : Out a (a ++ [x]) := by
  refine ⟨by rw [List.length_append]; omega, fun i hi => ?_⟩
  have e : (a ++ [x]).getD i z34 = a.getD i z34 := by
    simp only [List.getD_eq_getElem?_getD, List.getElem?_append_left hi]
  rw [e]
  exact ⟨rfl, fun q => ⟨q, rfl⟩⟩
theorem out_set (a : List S34) (j : Nat) (x : S34) (h0 : x.f0 = (a.getD j z34).f0) (h1 : x.f1 = (a.getD j z34).f1) (h3 : x.f3 = (a.getD j z34).f3) : Out a (a.set j x) := by
  refine ⟨by rw [List.length_set]; exact Nat.le_refl _, fun i hi => ?_⟩
  by_cases e : i = j
  · subst e
    have e2 : (a.set i x).getD i z34 = x := by
      simp only [List.getD_eq_getElem?_getD, List.getElem?_set_self hi, Option.getD_some]
    rw [e2, h0, h1, h3]
    exact ⟨rfl, fun q => ⟨q, rfl⟩⟩
  · have e2 : (a.set j x).getD i z34 = a.getD i z34 := by
      simp only [List.getD_eq_getElem?_getD, List.getElem?_set_ne (fun h => e h.symm)]
    rw [e2]
    exact ⟨rfl, fun q => ⟨q, rfl⟩⟩
theorem out_touch (text : List ByteArray) (ths : List S34) (e0 e1 e2 : Int) : Out ths (rvTouch text ths e0 e1 e2).2.1 := by
  unfold rvTouch
  repeat' first
    | exact Out.refl _
    | exact out_set _ _ _ rfl rfl rfl
    | split
theorem out_open (text : List ByteArray) (ths : List S34) (us ln : Int) (tx : ByteArray) : Out ths (openV text ths us ln tx).1 := by
  unfold openV
  repeat' first
    | exact Out.refl _
    | exact out_snoc _ _
    | split
theorem out_patch (text : List ByteArray) (ths : List S34) (p : List S52) : Out ths (patchS text ths p).2.1 := by
  unfold patchS
  repeat' first
    | exact Out.refl _
    | exact out_map _ _
    | split
theorem out_step (text : List ByteArray) (ths : List S34) (e : S43) : Out ths (stepV text ths e).2.1 := by
  unfold stepV
  repeat' first
    | exact Out.refl _
    | exact out_open _ _ _ _ _
    | exact out_patch _ _ _
    | exact out_touch _ _ _ _ _
    | split
theorem out_run : ∀ (es : List S43) (i : Int) (text : List ByteArray) (ths : List S34), (runV es i text ths).2.2.1 = 0 → Out ths (runV es i text ths).1
  | [], _, _, _, _ => Out.refl _
  | e :: es, i, text, ths, h => by
    simp only [runV] at h ⊢
    by_cases c : (stepV text ths e).2.2 = 0
    · rw [if_pos c] at h ⊢
      exact (out_step text ths e).trans (out_run es _ _ _ h)
    · rw [if_neg c] at h
      exact absurd h c
theorem out_loop (a b : List S34) (h : Out a b) (hm : b.length ≤ 12) : ∀ (d j : Nat), a.length - j = d → j ≤ a.length → Ev (fun k => changeforgelaw7_ThreadsOutdatedStayOutdated.l0 k a b (j : Int)) true := by
  have hl := h.1
  intro d
  induction d with
  | zero =>
    intro j hj hl2
    refine Ev.succ ?_
    simp only [changeforgelaw7_ThreadsOutdatedStayOutdated.l0]
    exact Ev.neg (by omega) (Ev.now _)
  | succ d ih =>
    intro j hj hl2
    refine Ev.succ ?_
    simp only [changeforgelaw7_ThreadsOutdatedStayOutdated.l0]
    have ea : rd_T34 a (j : Int) = a.getD j z34 := by unfold rd_T34; rw [Int.toNat_natCast]
    have eb : rd_T34 b (j : Int) = b.getD j z34 := by unfold rd_T34; rw [Int.toNat_natCast]
    obtain ⟨h1, h2⟩ := h.2 j (by omega)
    rw [ea, eb]
    refine Ev.pos (by omega) (Ev.neg (by omega) (Ev.pos (by omega) (Ev.pos (by omega) (Ev.pos h1 ?_))))
    rw [wsucc (by omega)]
    by_cases c : (a.getD j z34).f3 = true
    · obtain ⟨q1, q2⟩ := h2 c
      exact Ev.pos c (Ev.pos q1 (Ev.pos q2 (ih (j + 1) (by omega) (by omega))))
    · exact Ev.neg c (ih (j + 1) (by omega) (by omega))
theorem ThreadsOutdatedStayOutdated : changeforgelaw7_ThreadsOutdatedStayOutdated.Pure := by
  intro l0 l1 n h0 h1 hn
  refine Ev.rounds ?_
  unfold changeforgelaw7_ThreadsOutdatedStayOutdated.f
  refine Ev.bind threadsExample_ev ?_
  simp only [if_true]
  have htrue : Ev (fun k => changeforgelaw7_ThreadsOutdatedStayOutdated.j0 k l0 l1 n true) true := by
    refine Ev.succ ?_
    simp only [changeforgelaw7_ThreadsOutdatedStayOutdated.j0]
    exact Ev.pos (by trivial) (Ev.now _)
  by_cases c1 : n < 0
  · exact Ev.pos c1 htrue
  · refine Ev.neg c1 ?_
    by_cases c2 : n > (l1.length : Int)
    · rw [decide_eq_true c2]
      exact htrue
    · rw [decide_eq_false c2]
      refine Ev.succ ?_
      simp only [changeforgelaw7_ThreadsOutdatedStayOutdated.j0]
      refine Ev.neg (by simp) (Ev.pos (by omega) (Ev.pos (by omega) (Ev.bind (Run_ev l0 _) (Ev.bind (Run_ev l0 l1) ?_))))
      have hsplit : l1.take n.toNat ++ l1.drop n.toNat = l1 := List.take_append_drop _ _
      have happ : (RunV l0 l1).2.2.1 = 0 → (RunV l0 (l1.take n.toNat)).2.2.1 = 0 ∧ Out (RunV l0 (l1.take n.toNat)).1 (RunV l0 l1).1 := by
        intro hz
        rw [← hsplit] at hz
        obtain ⟨a, b⟩ := RunV_append hz
        refine ⟨a, ?_⟩
        rw [b] at hz
        have ho := out_run _ _ _ _ hz
        rw [← b, hsplit] at ho
        exact ho
      have jt : ∀ x7 x10 a b, a ≠ 0 → Ev (fun k => changeforgelaw7_ThreadsOutdatedStayOutdated.j1 k x7 x10 true a b) true := by
        intro x7 x10 a b ha
        refine Ev.succ ?_
        simp only [changeforgelaw7_ThreadsOutdatedStayOutdated.j1]
        have e : (a != 0) = true := by simpa using ha
        rw [e]
        exact Ev.pos (by trivial) (Ev.now _)
      by_cases d1 : (RunV l0 (l1.take n.toNat)).2.2.1 = 0
      · refine Ev.pos d1 ?_
        by_cases d2 : (RunV l0 l1).2.2.1 = 0
        · have e : ((RunV l0 l1).2.2.1 != 0) = false := by rw [d2]; rfl
          rw [e]
          refine Ev.succ ?_
          simp only [changeforgelaw7_ThreadsOutdatedStayOutdated.j1]
          exact Ev.neg (by simp) (out_loop _ _ (happ d2).2 (RunV_len l0 l1) _ 0 rfl (Nat.zero_le _))
        · have e : ((RunV l0 l1).2.2.1 != 0) = true := by simpa using d2
          rw [e]
          exact jt _ _ _ _ d2
      · exact Ev.neg d1 (jt _ _ _ _ (fun hz => d1 (happ hz).1))
end Go.Proofs.Ytjpdcnaealdbjaa.Pure
