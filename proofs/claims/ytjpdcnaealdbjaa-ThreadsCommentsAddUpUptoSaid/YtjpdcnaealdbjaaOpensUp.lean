/- The second measure: what is read is of bulk at most the rows' own number. Written for every seat by the template tmpl/OpensUp.lean of this repo. -/
import Derived.Test.YtjpdcnaealdbjaaOpens
import Derived.Test.YtjpdcnaealdbjaaRows
namespace Go.Proofs.Ytjpdcnaealdbjaa.Opn
open Go.ChangeShapes Go.WideShapes Go.RowKit Go.Deep Go.Proofs.YtjpdcnaealdbjaaW.PrintWords
theorem bulkAll_mem {H : Type} : ∀ {l : List (DataW H)} {d : DataW H}, d ∈ l → Rows.uptoBulk d ≤ Rows.uptoBulkAll l
  | a :: r, d, h => by
    simp only [Rows.uptoBulkAll]
    rcases List.mem_cons.1 h with rfl | h
    · omega
    · have := bulkAll_mem h
      omega
theorem bulk_pos {H : Type} (d : DataW H) : 1 ≤ Rows.uptoBulk d := by
  cases d with
  | lit l => cases l <;> simp [Rows.uptoBulk]
  | _ => simp [Rows.uptoBulk]
theorem bulkAll_len {H : Type} : ∀ (l : List (DataW H)), l.length ≤ Rows.uptoBulkAll l
  | [] => by simp [Rows.uptoBulkAll]
  | a :: r => by
    have h1 := bulk_pos a
    have h2 := bulkAll_len r
    simp only [Rows.uptoBulkAll, List.length_cons]
    omega
/-- The reach, and the bulk. -/
def upto (P : Program) : Siz P where
  S := fun t d => (d.weights P t).all (· ≤ reachBytes) = true ∧ Rows.uptoBulk d ≤ 1048576
  len := fun n b => n * b ≤ 140737488351232 ∧ n ≤ 1048576
  str := fun n => n ≤ 1048576
  len0 := fun b => by simp
  slice := by
    intro H t e es sp ht h
    obtain ⟨h1, h2⟩ := (reach P).slice ht h.1
    have hb := h.2
    simp only [Rows.uptoBulk] at hb
    refine ⟨⟨h1, by have := bulkAll_len es; omega⟩, fun d hd => ⟨h2 d hd, by have := bulkAll_mem hd; omega⟩⟩
  agg := by
    intro H t fs parts ht h j f d hf hd
    have hb := h.2
    simp only [Rows.uptoBulk] at hb
    exact ⟨(reach P).agg ht h.1 j f d hf hd, by have := bulkAll_mem (List.mem_of_getElem? hd); omega⟩
  string := by
    intro H t bs h
    have hb := h.2
    simp only [Rows.uptoBulk] at hb
    omega
theorem upto_of {H : Type} {P : Program} {ts : List TypeId} {ds : List (DataW H)} (h : (DataW.weightsEach P ts ds).all (· ≤ reachBytes) = true) (hk : Rows.uptoSmall H ds = true) {j : Nat} {t : TypeId} {d : DataW H} (ht : ts[j]? = some t) (hd : ds[j]? = some d) : (upto P).S t d :=
  ⟨reach_of h ht hd, Nat.le_trans (bulkAll_mem (List.mem_of_getElem? hd)) (of_decide_eq_true hk)⟩
end Go.Proofs.Ytjpdcnaealdbjaa.Opn
