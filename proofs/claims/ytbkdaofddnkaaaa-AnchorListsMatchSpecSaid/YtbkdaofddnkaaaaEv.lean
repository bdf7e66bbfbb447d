/- Small words for the pure statements: rounds, lists from an index on. By the template tmpl/Ev.lean of this repo. -/
import Derived.Test.YtbkdaofddnkaaaaWMore
namespace Go.Proofs.Ytbkdaofddnkaaaa.Pu
open Go.RowKit Go.Proofs.YtbkdaofddnkaaaaW.PrintWords Go.Proofs.YtbkdaofddnkaaaaW.PrintLast

theorem Ev.succ {α : Type} {g : Nat → Option α} {r : α} (h : Ev (fun k => g (k + 1)) r) : Ev g r := by
  obtain ⟨K, h⟩ := h
  refine ⟨K + 1, fun k hk => ?_⟩
  obtain ⟨j, rfl⟩ : ∃ j, k = j + 1 := ⟨k - 1, by omega⟩
  exact h j (by omega)
theorem Ev.uniq {α : Type} {g : Nat → Option α} {r s : α} (h : Ev g r) (h' : Ev g s) : r = s := by
  obtain ⟨K, h⟩ := h
  obtain ⟨L, h'⟩ := h'
  have a := h (K + L) (by omega)
  have b := h' (K + L) (by omega)
  rw [a] at b
  exact Option.some.inj b
theorem Ev.const {α : Type} {g : Nat → Option α} {r : α} (h : ∀ k, g k = some r) : Ev g r := ⟨0, fun k _ => h k⟩
theorem Ev.ite {α : Type} {c : Prop} [Decidable c] {g f : Nat → Option α} {r : α} (h : c → Ev g r) (k : ¬ c → Ev f r) : Ev (fun n => if c then g n else f n) r := by
  by_cases hc : c
  · simp only [if_pos hc]
    exact h hc
  · simp only [if_neg hc]
    exact k hc
theorem Ev.pos {α : Type} {c : Prop} [Decidable c] {g f : Nat → Option α} {r : α} (hc : c) (h : Ev g r) : Ev (fun n => if c then g n else f n) r := by simpa only [if_pos hc] using h
theorem Ev.neg {α : Type} {c : Prop} [Decidable c] {g f : Nat → Option α} {r : α} (hc : ¬ c) (h : Ev f r) : Ev (fun n => if c then g n else f n) r := by simpa only [if_neg hc] using h
theorem Ev.ite' {α : Type} {c : Prop} [Decidable c] {g f : Nat → Option α} {r s : α} (h : c → Ev g r) (k : ¬ c → Ev f s) : Ev (fun n => if c then g n else f n) (if c then r else s) := by
  by_cases hc : c
  · simp only [if_pos hc]
    exact h hc
  · simp only [if_neg hc]
    exact k hc
theorem drop_nil_or {α : Type} (xs : List α) (j : Nat) : (xs.drop j = [] ∧ xs.length ≤ j) ∨ ∃ a, xs.drop j = a :: xs.drop (j + 1) ∧ j < xs.length ∧ ∀ d, xs.getD j d = a := by
  rcases Nat.lt_or_ge j xs.length with h | h
  · refine .inr ⟨xs[j], List.drop_eq_getElem_cons h, h, fun d => by simp [List.getD, List.getElem?_eq_getElem h]⟩
  · exact .inl ⟨List.drop_eq_nil_of_le h, h⟩
theorem drop_cons {α : Type} {xs t : List α} {j : Nat} {a : α} (h : xs.drop j = a :: t) : j < xs.length ∧ (∀ d, xs.getD j d = a) ∧ xs.drop (j + 1) = t := by
  rcases drop_nil_or xs j with ⟨h0, _⟩ | ⟨b, h1, hl, hg⟩
  · rw [h0] at h; cases h
  · rw [h1] at h
    injection h with e1 e2
    exact ⟨hl, fun d => by rw [hg, e1], e2⟩
theorem drop_nil {α : Type} {xs : List α} {j : Nat} (h : xs.drop j = []) : xs.length ≤ j := by simpa using h
theorem mem_drop {α : Type} {xs t : List α} {j : Nat} {a : α} (h : xs.drop j = a :: t) : a ∈ xs := List.mem_of_mem_drop (by rw [h]; simp)
theorem w64 {x : Int} (h0 : -9223372036854775808 ≤ x) (h1 : x ≤ 9223372036854775807) : wrap64 x = x := by unfold wrap64; omega
theorem wsucc {j : Nat} (h : j < 9223372036854775807) : wrap64 ((j : Int) + 1) = ((j + 1 : Nat) : Int) := by rw [w64 (by omega) (by omega)]; omega
theorem len_eq (b : ByteArray) : b.data.toList.length = b.size := Array.length_toList
theorem loop_eq (b : ByteArray) : ∀ (n i : Nat) (r : List UInt8), b.size - i = n → ByteArray.toList.loop b i r = r.reverse ++ b.data.toList.drop i := by
  intro n
  induction n with
  | zero =>
    intro i r h
    unfold ByteArray.toList.loop
    rw [if_neg (by omega), List.drop_eq_nil_of_le (by rw [len_eq]; omega)]
    simp
  | succ n ih =>
    intro i r h
    unfold ByteArray.toList.loop
    rw [if_pos (by omega), ih (i + 1) _ (by omega)]
    have hl : i < b.data.toList.length := by rw [len_eq]; omega
    rw [List.drop_eq_getElem_cons hl]
    have hi : i < b.data.size := by simpa using hl
    simp only [ByteArray.get!, List.reverse_cons, List.append_assoc, List.singleton_append, Array.getElem_toList]
    rw [getElem!_pos b.data i hi]
theorem toList_data (b : ByteArray) : b.toList = b.data.toList := by
  unfold ByteArray.toList
  rw [loop_eq b _ 0 [] rfl]
  simp
theorem ba_ext {a b : ByteArray} (h : a.data.toList = b.data.toList) : a = b := by
  cases a; cases b; simp_all
theorem ba_eq {a b : ByteArray} : a.toList = b.toList ↔ a = b := ⟨fun h => by
  rw [toList_data, toList_data] at h
  exact ba_ext h, fun h => by rw [h]⟩
end Go.Proofs.Ytbkdaofddnkaaaa.Pu
