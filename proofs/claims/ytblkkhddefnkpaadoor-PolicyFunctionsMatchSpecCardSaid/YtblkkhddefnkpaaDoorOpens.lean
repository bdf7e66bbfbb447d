/- What a row reads as data, told as the printed kinds tell it: for ints, bools, strings, slices and structs of these, nested in any way. Written for every seat by the template tmpl/Opens.lean of this repo. -/
import Derived.Test.YtblkkhddefnkpaaDoorWWords
import Derived.SizedLaws
import Derived.ChangeSlices
import Derived.Deep.Slices
import Derived.ChangeArms
import Derived.WideShapes
namespace Go.Proofs.YtblkkhddefnkpaaDoor.Opn
open Go.ChangeShapes Go.WideShapes Go.RowKit Go.Deep Go.Proofs.YtblkkhddefnkpaaDoorW.PrintWords

/-- How large what is read is: a measure of a reading, that goes down into its parts. -/
structure Siz (P : Program) where
  S : ∀ {H : Type}, TypeId → DataW H → Prop
  len : Nat → Nat → Prop
  str : Nat → Prop
  len0 : ∀ b, len 0 b
  slice : ∀ {H : Type} {t e : TypeId} {es sp : List (DataW H)}, P.underlying t = some (.slice e) → S t (.slice es sp) → len es.length (P.bytesOf e) ∧ ∀ d ∈ es, S e d
  agg : ∀ {H : Type} {t : TypeId} {fs : Array Field} {parts : List (DataW H)}, P.underlying t = some (.struct fs) → S t (.agg parts) → ∀ (j : Nat) (f : Field) (d : DataW H), fs[j]? = some f → parts[j]? = some d → S f.type d
  string : ∀ {H : Type} {t : TypeId} {bs : List UInt8}, S (H := H) t (.lit (.string bs)) → str bs.length

/-- Cells of type t that read as data hold a value of kind d, and what 'ok' says of it holds. -/
def Opens (P : Program) (Z : Siz P) (t : TypeId) {α : Type} (d : Kd α) (ok : α → Prop) : Prop :=
  ∀ {H : Type} (enc : TypeId × Value → H) (w : World) (base : Nat) (spare : Nat → Bool) (held : Bool) (fuel : Nat) (cs : List Value) (x : DataW H × List MemPlace),
    DataW.trod enc P w base spare held fuel t cs = some x → Z.S t x.1 → ∃ y : α, d.K w y cs ∧ ok y

section
variable {P : Program} {Z : Siz P} {t e : TypeId} {α β : Type}
theorem Opens.int {k : IntKind} (ht : P.underlying t = some (.int k)) : Opens P Z t (Kd.int k) (fun n => (Lit.int k n).wf = true) := by
  intro H enc w base spare held fuel cs x h _
  obtain ⟨n, rfl, _, hw⟩ := DataW.trod_int ht h
  exact ⟨n, rfl, hw⟩
theorem Opens.bool (ht : P.underlying t = some .bool) : Opens P Z t Kd.bool (fun _ => True) := by
  intro H enc w base spare held fuel cs x h _
  obtain ⟨b, rfl, _⟩ := DataW.trod_bool ht h
  exact ⟨b, rfl, trivial⟩
theorem Opens.string (ht : P.underlying t = some .string) : Opens P Z t Kd.string (fun s => Z.str s.size) := by
  intro H enc w base spare held fuel cs x h hS
  obtain ⟨s, rfl, rfl, _⟩ := DataW.trod_string ht h
  refine ⟨s, rfl, ?_⟩
  have := Z.string hS
  rwa [Array.length_toList] at this
theorem choose_lt' {p : Nat → α → Prop} : ∀ (n : Nat), (∀ i, i < n → ∃ y, p i y) → ∃ ys : List α, ys.length = n ∧ ∀ (i : Nat) (y : α), ys[i]? = some y → p i y := by
  intro n
  induction n with
  | zero => exact fun _ => ⟨[], rfl, fun i y h => by simp at h⟩
  | succ n ih =>
    intro h
    obtain ⟨ys, hl, hp⟩ := ih fun i hi => h i (by omega)
    obtain ⟨y, hy⟩ := h n (by omega)
    refine ⟨ys ++ [y], by simp [hl], fun i z hz => ?_⟩
    rcases Nat.lt_or_ge i ys.length with hi | hi
    · rw [List.getElem?_append_left hi] at hz
      exact hp i z hz
    · rw [List.getElem?_append_right hi] at hz
      rcases Nat.eq_zero_or_pos (i - ys.length) with h0 | h0
      · rw [h0] at hz
        simp at hz
        subst hz
        have : i = n := by omega
        subst this
        exact hy
      · rw [List.getElem?_eq_none (by simp; omega)] at hz
        cases hz
theorem Opens.slice {d : Kd α} {ok : α → Prop} {B : Nat} (ht : P.underlying t = some (.slice e)) (hc : P.cellsOf e = d.sz) (hB : P.bytesOf e = B) (he : Opens P Z e d ok) :
    Opens P Z t (Kd.slice e d) (fun xs => Z.len xs.length B ∧ xs.length ≤ maxLen ∧ ∀ x ∈ xs, ok x) := by
  subst hB
  intro H enc w base spare held fuel cs x h hS
  rcases open_slice ht h with ⟨rfl, _⟩ | ⟨a, len, cap, m, n, D, Pl, rfl, _, hl, hm, hmm, rfl, hx⟩
  · refine ⟨[], ⟨none, 0, rfl, Nat.le_refl _, ?_⟩, Z.len0 _, by simp [maxLen], by simp⟩
    exact ⟨rfl, by simp, fun h => absurd h (Nat.lt_irrefl 0)⟩
  · obtain ⟨hS1, hS2⟩ := Z.slice ht hS
    have hlm : len ≤ m := by rw [hmm]; split <;> omega
    obtain ⟨ys, hyl, hy⟩ := choose_lt' (p := fun i y => ∃ cs' : List Value, w.cells? base (a.add (i * P.cellsOf e)) (P.cellsOf e) = some cs' ∧ d.K w y cs' ∧ ok y) len (fun i hi => by
      obtain ⟨cs', h1, h2⟩ := hx i (by omega)
      obtain ⟨y, hK, ho⟩ := he enc w base spare held n cs' _ h2 (hS2 _ (List.mem_map.2 ⟨i, List.mem_range.2 hi, rfl⟩))
      exact ⟨y, cs', h1, hK, ho⟩)
    refine ⟨ys, ⟨some a, cap, by rw [hyl], by omega, ?_⟩, by simpa [hyl] using hS1, by omega, fun y hmem => ?_⟩
    · refine ⟨rfl, by simp only [maxLen] at hm; omega, fun _ => ⟨a, rfl, fun j p hj => ?_⟩⟩
      obtain ⟨cs', h1, hK, _⟩ := hy j p hj
      refine ⟨cs', d.K_len hK, hK, fun i u hu => ?_⟩
      obtain ⟨_, hcl, hat⟩ := World.cells?_some h1
      have hi : i < cs'.length := (List.getElem?_eq_some_iff.1 hu).1
      have := hat i (by omega)
      rw [← hc, ← Go.Deep.add_add, this, hu]
    · obtain ⟨i, hi⟩ := List.getElem?_of_mem hmem
      obtain ⟨_, _, _, ho⟩ := hy i y hi
      exact ho

/-- Fields j and on of a struct, the first one at cell 'off', hold a value of kind d. -/
def OpensFs (P : Program) (Z : Siz P) (fs : List Field) (off : Nat) {α : Type} (d : Kd α) (ok : α → Prop) : Prop :=
  ∀ {H : Type} (enc : TypeId × Value → H) (w : World) (base : Nat) (spare : Nat → Bool) (held : Bool) (n : Nat) (cs : List Value) (xs : List (DataW H × List MemPlace)),
    xs.length = fs.length → off + d.sz ≤ cs.length →
    (∀ (i : Nat) (f : Field), fs[i]? = some f → DataW.trod enc P w base spare held n f.type ((cs.drop f.offset).take (P.cellsOf f.type)) = xs[i]?) →
    (∀ (i : Nat) (f : Field) (x : DataW H × List MemPlace), fs[i]? = some f → xs[i]? = some x → Z.S f.type x.1) → ∃ y : α, d.K w y ((cs.drop off).take d.sz) ∧ ok y
theorem OpensFs.last {f : Field} {d : Kd α} {ok : α → Prop} {off : Nat} (ho : f.offset = off) (hc : P.cellsOf f.type = d.sz) (h : Opens P Z f.type d ok) : OpensFs P Z [f] off d ok := by
  intro H enc w base spare held n cs xs hl _ hx hS
  have h1 := hx 0 f rfl
  obtain ⟨x, rfl⟩ : ∃ x, xs = [x] := by
    match xs, hl with
    | [x], _ => exact ⟨x, rfl⟩
  rw [ho, hc] at h1
  exact h enc w base spare held n _ x h1 (hS 0 f x rfl rfl)
theorem OpensFs.cons {f : Field} {fs : List Field} {d1 : Kd α} {d2 : Kd β} {ok1 : α → Prop} {ok2 : β → Prop} {off : Nat} (ho : f.offset = off) (hc : P.cellsOf f.type = d1.sz) (h1 : Opens P Z f.type d1 ok1)
    (h2 : OpensFs P Z fs (off + d1.sz) d2 ok2) : OpensFs P Z (f :: fs) off (Kd.pair d1 d2) (fun p => ok1 p.1 ∧ ok2 p.2) := by
  intro H enc w base spare held n cs xs hl hlen hx hS
  have hsz : (Kd.pair d1 d2).sz = d1.sz + d2.sz := rfl
  obtain ⟨x, xs', rfl⟩ : ∃ x xs', xs = x :: xs' := by
    match xs, hl with
    | x :: xs', _ => exact ⟨x, xs', rfl⟩
  have e1 := hx 0 f rfl
  rw [ho, hc] at e1
  obtain ⟨y1, hK1, o1⟩ := h1 enc w base spare held n _ x e1 (hS 0 f x rfl rfl)
  obtain ⟨y2, hK2, o2⟩ := h2 enc w base spare held n cs xs' (by simpa using hl) (by omega) (fun i g hg => hx (i + 1) g hg) (fun i g z hg hz => hS (i + 1) g z hg hz)
  refine ⟨(y1, y2), ⟨_, _, ?_, hK1, hK2⟩, o1, o2⟩
  rw [hsz, List.take_add, List.drop_drop]
theorem Opens.struct {fs : Array Field} {d : Kd α} {ok : α → Prop} (f : β → α) (mk : α → β) (hmk : ∀ p, f (mk p) = p) (ht : P.underlying t = some (.struct fs)) (hc : P.cellsOf t = d.sz) (h : OpensFs P Z fs.toList 0 d ok) :
    Opens P Z t (Kd.iso d f) (fun x => ok (f x)) := by
  intro H enc w base spare held fuel cs x hx hS
  obtain ⟨xs, n, _, rfl, hl, hsz, hg⟩ := DataW.trod_struct ht hx
  obtain ⟨y, hK, ho⟩ := h enc w base spare held n cs xs (by simpa using hsz) (by omega) (fun i g hg' => hg i g (by simpa using hg')) (fun i g z hg' hz => Z.agg ht hS i g z.1 (by simpa using hg') (by simp [hz]))
  refine ⟨mk y, ?_, by show ok (f (mk y)); rw [hmk]; exact ho⟩
  show d.K w (f (mk y)) cs
  rw [hmk]
  rwa [List.drop_zero, List.take_of_length_le (by omega)] at hK
theorem Opens.mono {d : Kd α} {ok ok' : α → Prop} (h : Opens P Z t d ok) (hok : ∀ y, ok y → ok' y) : Opens P Z t d ok' := by
  intro H enc w base spare held fuel cs x hx hS
  obtain ⟨y, hK, ho⟩ := h enc w base spare held fuel cs x hx hS
  exact ⟨y, hK, hok y ho⟩
end

section
variable {P : Program} {Z : Siz P} {t e : TypeId} {α : Type} {H : Type} {enc : TypeId × Value → H} {W : World} {base b2 : Nat} {r : Reach} {spare : Nat → Bool} {held : Bool} {v : Value} {dat : DataW H} {p : List MemPlace}
theorem arg_struct {d : Kd α} {ok : α → Prop} {fs : Array Field} (ho : Opens P Z t d ok) (hu : P.underlying t = some (.struct fs)) (hv : Value.okWide P W r b2 t v) (h : DataW.Trod enc P W base spare held t v dat p) (hS : Z.S t dat) :
    ∃ (x : α) (cs : Array Value), v = .agg cs ∧ d.K W x cs.toList ∧ ok x := by
  obtain ⟨cs, rfl, _⟩ := okWide_struct hu hv
  obtain ⟨fuel, hf⟩ := h
  obtain ⟨x, hK, hok⟩ := ho enc W base spare held fuel _ _ hf hS
  exact ⟨x, cs, rfl, by simpa [Value.cells] using hK, hok⟩
theorem arr_of {cs : Array Value} {l : List Value} (h : cs.toList = l) : cs = l.toArray := by rw [← h]
end

/-- The reach alone: each string and each slice by its weight. -/
def reach (P : Program) : Siz P where
  S := fun t d => (d.weights P t).all (· ≤ reachBytes) = true
  len := fun n b => n * b ≤ 140737488351232
  str := fun n => n ≤ 140737488351232
  len0 := fun b => by simp
  slice := by
    intro H t e es sp ht h
    simp only [DataW.weights, ht, List.all_cons, List.all_append, Bool.and_eq_true, decide_eq_true_eq] at h
    obtain ⟨h1, h2, _⟩ := h
    refine ⟨Nat.le_trans (Nat.mul_le_mul_right _ (by omega)) h1, fun d hd => ?_⟩
    clear h1
    induction es with
    | nil => simp at hd
    | cons a r ih =>
      simp only [DataW.weightsAll, List.all_append, Bool.and_eq_true] at h2
      rcases List.mem_cons.1 hd with rfl | hd
      · exact h2.1
      · exact ih h2.2 hd
  agg := by
    intro H t fs parts ht h j f d hf hd
    simp only [DataW.weights, ht] at h
    refine List.all_eq_true.2 fun n hn => ?_
    exact List.all_eq_true.1 h n (DataW.weights_mem_each (t := f.type) (j := j) (by simp [hf]) hd n hn)
  string := by
    intro H t bs h
    have h1 : bs.length ≤ reachBytes := by simpa [DataW.weights] using h
    exact h1
theorem reach_of {H : Type} {P : Program} {ts : List TypeId} {ds : List (DataW H)} (h : (DataW.weightsEach P ts ds).all (· ≤ reachBytes) = true) {j : Nat} {t : TypeId} {d : DataW H} (ht : ts[j]? = some t) (hd : ds[j]? = some d) : (reach P).S t d :=
  List.all_eq_true.2 fun n hn => List.all_eq_true.1 h n (DataW.weights_mem_each ht hd n hn)
end Go.Proofs.YtblkkhddefnkpaaDoor.Opn
