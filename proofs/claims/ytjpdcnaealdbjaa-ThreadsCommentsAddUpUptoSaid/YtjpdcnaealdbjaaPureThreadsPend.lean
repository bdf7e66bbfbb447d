/- Pending, in plain words: by the template tmpl/PureThreadsPend.lean of this repo. -/
import Derived.Test.YtjpdcnaealdbjaaPureThreadsEx
import Derived.Test.YtjpdcnaealdbjaaPThx26
namespace Go.Proofs.Ytjpdcnaealdbjaa.Pu
open Go.RowKit Go.Proofs.YtjpdcnaealdbjaaW.PrintWords Go.Proofs.YtjpdcnaealdbjaaW.PrintLast Go.Proofs.Ytjpdcnaealdbjaa.PTh
set_option linter.unusedVariables false
set_option linter.unusedSimpArgs false

def pendFrom : List S34 → Nat → List Int
  | [], _ => []
  | t :: ts, j => if t.f4 = true then pendFrom ts (j + 1) else (j : Int) :: pendFrom ts (j + 1)
theorem pend_len : ∀ (ts : List S34) (j : Nat), (pendFrom ts j).length ≤ ts.length
  | [], _ => Nat.le_refl _
  | t :: ts, j => by
    unfold pendFrom
    have := pend_len ts (j + 1)
    split
    · rw [List.length_cons]; omega
    · rw [List.length_cons, List.length_cons]; omega
theorem rd34 {xs : List S34} {j : Nat} {t : S34} (hg : ∀ d, xs.getD j d = t) : rd_T34 xs (j : Int) = t := by
  unfold rd_T34
  rw [Int.toNat_natCast]
  exact hg _
theorem pend_loop (ths : List S34) (hm : ths.length ≤ 12) (c i : Int) : ∀ (ts : List S34) (j : Nat) (acc : List Int), ths.drop j = ts → j ≤ ths.length → acc.length ≤ j →
    Ev (fun k => threads_Pending.l0 k acc ths (ths.length : Int) (j : Int) c i) (acc ++ pendFrom ts j, c, i) := by
  intro ts
  induction ts with
  | nil =>
    intro j acc h hj ha
    have := drop_nil h
    refine Ev.succ ?_
    simp only [threads_Pending.l0, pendFrom, List.append_nil]
    exact Ev.neg (by omega) (Ev.now _)
  | cons t ts ih =>
    intro j acc h hj ha
    obtain ⟨hl, hg, hd⟩ := drop_cons h
    refine Ev.succ ?_
    simp only [threads_Pending.l0, pendFrom]
    rw [rd34 hg]
    refine Ev.pos (by omega) (Ev.pos (by omega) (Ev.pos (by omega) ?_))
    rw [wsucc (by omega)]
    by_cases c4 : t.f4 = true
    · rw [if_pos c4]
      exact Ev.pos c4 (ih (j + 1) acc hd (by omega) (by omega))
    · rw [if_neg c4]
      refine Ev.neg c4 (Ev.pos (by omega) ?_)
      have := ih (j + 1) (acc ++ [(j : Int)]) hd (by omega) (by rw [List.length_append, List.length_singleton]; omega)
      rw [List.append_assoc] at this
      exact this
def PendV (l0 : List ByteArray) (l1 : List S43) : List Int × Int × Int := (pendFrom (RunV l0 l1).1 0, (RunV l0 l1).2.2.1, (RunV l0 l1).2.2.2)
theorem Pending_ev (l0 : List ByteArray) (l1 : List S43) : Ev (fun k => threads_Pending.f k l0 l1) (PendV l0 l1) := by
  unfold threads_Pending.f PendV
  refine Ev.bind (Run_ev l0 l1) ?_
  have := pend_loop (RunV l0 l1).1 (RunV_len l0 l1) (RunV l0 l1).2.2.1 (RunV l0 l1).2.2.2 (RunV l0 l1).1 0 [] rfl (Nat.zero_le _) (Nat.zero_le _)
  simpa using this
theorem pend_mem : ∀ (ts : List S34) (j i : Nat), i < ts.length → (ts.getD i z34).f4 = false → ((j + i : Nat) : Int) ∈ pendFrom ts j
  | [], _, _, h, _ => absurd h (by simp)
  | t :: ts, j, 0, h, hf => by
    have hf' : t.f4 = false := by simpa using hf
    unfold pendFrom
    rw [if_neg (by rw [hf']; decide)]
    exact List.mem_cons_self
  | t :: ts, j, i + 1, h, hf => by
    have := pend_mem ts (j + 1) i (by rw [List.length_cons] at h; omega) (by simpa using hf)
    rw [show j + 1 + i = j + (i + 1) by omega] at this
    unfold pendFrom
    split
    · exact this
    · exact List.mem_cons_of_mem _ this
end Go.Proofs.Ytjpdcnaealdbjaa.Pu
