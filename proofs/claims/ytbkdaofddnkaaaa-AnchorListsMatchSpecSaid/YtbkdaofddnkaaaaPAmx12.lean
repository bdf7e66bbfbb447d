-- printed by drv.py (a program of this repo, over the kit's printer)
import Derived.Test.YtbkdaofddnkaaaaPAmx0
namespace Go.Proofs.Ytbkdaofddnkaaaa.PAm
open Go.RowKit Go.Proofs.YtbkdaofddnkaaaaW.PrintWords Go.Proofs.YtbkdaofddnkaaaaW.PrintLast Go.Proofs.YtbkdaofddnkaaaaW.PrintMore
attribute [local go_sem] max2_int min2_int max_two min_two max_three min_three max_four min_four   -- for this text's walks alone
set_option linter.unusedVariables false
set_option linter.unusedSimpArgs false

/-! ### strings_ContainsRune: function 44 (by hand) -/
def strings_ContainsRune.f (a0 : ByteArray) (a1 : Int) : Option Bool := if 0 ≤ a1 ∧ a1 < 128 then some (decide (0 ≤ Lib.indexByte a0.data.toList a1.toNat.toUInt8)) else none
theorem strings_ContainsRune.calls (a0 : ByteArray) (a1 : Int) (r : Bool) (w : World) (h : strings_ContainsRune.f a0 a1 = some r) :
    Calls Try.prog 44 #[.string a0, .int .i32 a1] w fun e w' => e = .returned (.bool r) ∧ Drawn0 w w' := by
  unfold strings_ContainsRune.f at h
  by_cases hq : 0 ≤ a1 ∧ a1 < 128
  · rw [if_pos hq] at h
    obtain rfl := Option.some.inj h
    refine (Try.strings_ContainsRune_ascii a0 a1 w hq.1 hq.2).mono ?_
    rintro e w' ⟨rfl, rfl⟩
    exact ⟨rfl, Drawn0.refl _⟩
  · rw [if_neg hq] at h
    exact absurd h (by simp)


end Go.Proofs.Ytbkdaofddnkaaaa.PAm
