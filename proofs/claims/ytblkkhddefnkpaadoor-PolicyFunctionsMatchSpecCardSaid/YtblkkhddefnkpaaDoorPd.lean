/- The words of a text: scan; Parse. By hand. -/
import Derived.Test.YtblkkhddefnkpaaDoorPc
import Derived.Laws.CopyOwn
import Derived.Laws.DeepStrings4
namespace Go.Proofs.YtblkkhddefnkpaaDoor.PPo
open Go.RowKit Go.Proofs.YtblkkhddefnkpaaDoorW.PrintWords Go.Proofs.YtblkkhddefnkpaaDoorW.PrintLast Go.Proofs.YtblkkhddefnkpaaDoorW.PrintMore
attribute [local go_sem] max2_int min2_int max_two min_two max_three min_three max_four min_four
attribute [local go_sem] World.cell?_alloc_some
attribute [local go_sem high] eqA28
set_option linter.unusedVariables false
set_option linter.unusedSimpArgs false


def kw : Kd Wd := Kd.pair Kd.string (Kd.int .i64)
theorem kw_mkM (w : World) (base : Nat) (ok : Nat → Prop) (x : Wd) : kw.M w base ok x [.string x.1, .int .i64 x.2] := ⟨[.string x.1], [.int .i64 x.2], rfl, rfl, rfl⟩
theorem info67 : (Tryd.prog.info? 67).map (fun i => (i.zero, i.size, i.bytes)) = some (some (.agg #[.string ByteArray.empty, .int .i64 0]), 2, 24) := by kernel_rfl
/-- The words of a text, from byte i on. -/
def scL (text : ByteArray) : Nat → Nat → List Wd → Option (List Wd)
 | 0, _, _ => none
 | k + 1, i, acc => if i < text.size then
   (if bt text (i : Int) = 32 then scL text k (i + 1) acc
    else if bt text (i : Int) = 40 ∨ bt text (i : Int) = 41 then scL text k (i + 1) (acc ++ [(text.extract i (i + 1), (i : Int))])
    else if Lib.indexAny (text.extract i text.size).data.toList [32, 40, 41] < 0 then scL text k text.size (acc ++ [(text.extract i text.size, (i : Int))])
    else if i + (Lib.indexAny (text.extract i text.size).data.toList [32, 40, 41]).toNat ≤ text.size then scL text k (i + (Lib.indexAny (text.extract i text.size).data.toList [32, 40, 41]).toNat) (acc ++ [(text.extract i (i + (Lib.indexAny (text.extract i text.size).data.toList [32, 40, 41]).toNat), (i : Int))])
    else none)
  else some (acc ++ [(⟨#[]⟩, (text.size : Int))])
theorem sl_ (W : World) (s : ByteArray) (i j : Nat) (jj : Int) (hj : jj = (j : Int)) (h1 : i ≤ j) (h2 : j ≤ s.size) : (Instr.slice 9 (.string s) (some (.int .i64 (i : Int))) (some (.int .i64 jj)) none).run Tryd.prog W = .ok (.string (s.extract i j)) W := by
 subst hj
 rw [run_slice_string_if W 9 s .i64 .i64 (i : Int) (j : Int) Tryd.underlying9, if_pos (by omega), if_pos (by omega)]
 simp
theorem chars_ok : ∀ (j : Nat) (b : UInt8), (⟨#[32, 40, 41]⟩ : ByteArray).data.toList[j]? = some b → b.toNat < 128 := by
 intro j b hb
 have h := List.mem_of_getElem? hb
 simp at h
 rcases h with rfl | rfl | rfl <;> decide
theorem mem_extract {s : ByteArray} {i j : Nat} {b : UInt8} (h : b ∈ (s.extract i j).data.toList) : b ∈ s.data.toList := by
 rw [ByteArray.data_extract, Array.toList_extract] at h
 exact List.mem_of_mem_drop (List.mem_of_mem_take h)
def scanM (text : ByteArray) : Option (List Wd) := if text.size ≤ 1000 ∧ (∀ b ∈ text.data.toList, b.toNat < 128) then scL text 1002 0 [] else none
set_option maxHeartbeats 8000000 in
set_option maxRecDepth 100000 in
theorem scan.calls (text : ByteArray) (ws : List Wd) (w : World) (h : scanM text = some ws) :
  Calls Tryd.prog 30 #[.string text] w fun e w' => ∃ v, e = .returned v ∧ Kd.R kw 67 w' w.heap.size (fun _ => True) v ws ∧ Below w.heap.size w w' := by
 have hu67 := Tryd.underlying67
 unfold scanM at h
 by_cases q : text.size ≤ 1000 ∧ (∀ b ∈ text.data.toList, b.toNat < 128)
 ·rw [if_pos q] at h
  obtain ⟨hs, ha⟩ := q
  have HA := Aside0.mk ha
  have HS := Aside0.mk hs
  have HH := Aside0.mk h
  have HB := Aside0.mk (Below.refl w.heap.size w)
  clear h ha hs
  go_enter Tryd.func30, Tryd.ntmps30
  go_wp2_with fail
  go_loopg [3, 4] 1002 (fun kq v3 v4 w' => ∃ (acc : List Wd) (i : Nat) (u : Value), v3 = u ∧ v4 = .int .i64 (i : Int) ∧ Aside0 (scL text kq i acc = some ws) ∧ Aside0 (acc.length + kq ≤ 1002) ∧ Aside0 (i ≤ text.size) ∧ Aside0 (Kd.R kw 67 w' w.heap.size (fun _ => True) u acc) ∧ Aside0 (Below w.heap.size w w'))
  case atStart => exact ⟨[], 0, .slice none 0 0, rfl, rfl, HH, ⟨by decide⟩, ⟨Nat.zero_le _⟩, ⟨Kd.R_nil _ _ _ _ _⟩, HB⟩
  case round =>
   clear HH HB
   obtain ⟨acc, i, u, rfl, rfl, HL, HK, HI, HO, HB⟩ := hrel
   cases gk with
   | zero => exact absurd HL.out (by simp [scL])
   | succ kz =>
    have hl := HL.out
    unfold scL at hl
    have hs := HS.out
    have LEN : Aside0 ((acc.length + 1) * 24 ≤ 140737488355328) := ⟨by have := HK.out; omega⟩
    have hw1 : wrap64 ((i : Int) + 1) = ((i + 1 : Nat) : Int) := by unfold wrap64; have := HI.out; omega
    clear HL
    by_cases hi : i < text.size
    ·rw [if_pos hi] at hl
     have hx : decide ((i : Int) < (text.size : Int)) = true := decide_eq_true (by omega)
     have hxi : (i : Int) < (text.size : Int) := by omega
     have hx0 : (0 : Int) ≤ (i : Int) := by omega
     have e0 : bt text (i : Int) = ((text[i]'hi).toNat : Int) := (bt_at text (i : Int) hi).symm
     rw [e0] at hl
     by_cases c1 : ((text[i]'hi).toNat : Int) = 32
     ·rw [if_pos c1] at hl
      have HL := Aside0.mk hl
      have c1b : (((text[i]'hi).toNat : Int) == 32) = true := beq_iff_eq.mpr c1
      clear hl
      go_wp2_with fail
      go_roundg kz
      case measure => omega
      case rel => exact ⟨acc, i + 1, _, rfl, by first | rfl | exact congrArg _ hw1, HL, ⟨by have := HK.out; omega⟩, ⟨by omega⟩, HO, HB⟩
     ·rw [if_neg c1] at hl
      have c1b : (((text[i]'hi).toNat : Int) == 32) = false := beq_eq_false_iff_ne.mpr c1
      by_cases c2 : ((text[i]'hi).toNat : Int) = 40 ∨ ((text[i]'hi).toNat : Int) = 41
      ·rw [if_pos c2] at hl
       have HL := Aside0.mk hl
       have hsl : ∀ W, (Instr.slice 9 (.string text) (some (.int .i64 (i : Int))) (some (.int .i64 ((i : Int) + 1))) none).run Tryd.prog W = .ok (.string (text.extract i (i + 1))) W := fun W => sl_ W text i (i + 1) _ (by omega) (by omega) (by omega)
       have hw2 : wrap64 ((i : Int) + 1) = (i : Int) + 1 := by omega
       clear hl hw1
       rcases c2 with c2 | c2
       ·have c2b : (((text[i]'hi).toNat : Int) == 40) = true := beq_iff_eq.mpr c2
        clear c1 c2
        go_wp2_with (first | ((with_reducible refine gate_builtin (b := .append) (xs := #[.tmp 30, .tmp 39]) rfl ?_); at_builtin; refine Kd.R_append kw (w0 := w) w.heap.size rfl (.tmp 30) (.tmp 39) 54 67 (.agg #[.string ByteArray.empty, .int .i64 0]) 24 rfl Tryd.underlying54 info67 rfl (by decide) (by decide) _ _ ((text.extract i (i + 1)), (i : Int)) [.string (text.extract i (i + 1)), .int .i64 (i : Int)] (fun _ => True) (fun _ => False) rfl rfl (kw_mkM _ _ _ _) (fun _ hk => hk.elim) (fun _ _ => trivial) HO.out HB.out HB.out.size LEN.out ?_; intro v1 w11 ho hb hg hat; have n0_ := Aside0.mk hb; have n1_ := Aside0.mk ho; clear HB HO; have HB := n0_; have HO := n1_; clear n0_ n1_ ho hb hg hat) | fail)
        go_roundg kz
        case measure => omega
        case rel => exact ⟨acc ++ [(text.extract i (i + 1), (i : Int))], i + 1, _, rfl, by first | rfl | exact congrArg _ hw2, HL, ⟨by rw [List.length_append, List.length_singleton]; have := HK.out; omega⟩, ⟨by omega⟩, HO, HB⟩
       ·have c2b : (((text[i]'hi).toNat : Int) == 40) = false := beq_eq_false_iff_ne.mpr (by omega)
        have c2c : (((text[i]'hi).toNat : Int) == 41) = true := beq_iff_eq.mpr c2
        clear c1 c2
        go_wp2_with (first | ((with_reducible refine gate_builtin (b := .append) (xs := #[.tmp 30, .tmp 39]) rfl ?_); at_builtin; refine Kd.R_append kw (w0 := w) w.heap.size rfl (.tmp 30) (.tmp 39) 54 67 (.agg #[.string ByteArray.empty, .int .i64 0]) 24 rfl Tryd.underlying54 info67 rfl (by decide) (by decide) _ _ ((text.extract i (i + 1)), (i : Int)) [.string (text.extract i (i + 1)), .int .i64 (i : Int)] (fun _ => True) (fun _ => False) rfl rfl (kw_mkM _ _ _ _) (fun _ hk => hk.elim) (fun _ _ => trivial) HO.out HB.out HB.out.size LEN.out ?_; intro v1 w11 ho hb hg hat; have n0_ := Aside0.mk hb; have n1_ := Aside0.mk ho; clear HB HO; have HB := n0_; have HO := n1_; clear n0_ n1_ ho hb hg hat) | fail)
        go_roundg kz
        case measure => omega
        case rel => exact ⟨acc ++ [(text.extract i (i + 1), (i : Int))], i + 1, _, rfl, by first | rfl | exact congrArg _ hw2, HL, ⟨by rw [List.length_append, List.length_singleton]; have := HK.out; omega⟩, ⟨by omega⟩, HO, HB⟩
      ·rw [if_neg c2] at hl
       have c2b : (((text[i]'hi).toNat : Int) == 40) = false := beq_eq_false_iff_ne.mpr (fun e => c2 (.inl e))
       have c2c : (((text[i]'hi).toNat : Int) == 41) = false := beq_eq_false_iff_ne.mpr (fun e => c2 (.inr e))
       have hix := Tryd.strings_IndexAny_laid (text.extract i text.size) ⟨#[32, 40, 41]⟩
       obtain ⟨M, hM⟩ : ∃ M, Lib.indexAny (text.extract i text.size).data.toList [32, 40, 41] = M := ⟨_, rfl⟩
       have HIX : Aside0 (∀ W, Calls Tryd.prog 42 #[.string (text.extract i text.size), .string ⟨#[32, 40, 41]⟩] W fun e w' => e = .returned (.int .i64 M) ∧ Below W.heap.size W w') := ⟨fun W => by
        have := hix W (by rw [ByteArray.size_extract]; omega) (by decide) (fun j b hb => HA.out b (mem_extract (List.mem_of_getElem? hb))) chars_ok
        rw [← hM]
        exact this⟩
       rw [hM] at hl
       clear hix hM c1 c2
       have hsm : ∀ W, (Instr.slice 9 (.string text) (some (.int .i64 (i : Int))) none none).run Tryd.prog W = .ok (.string (text.extract i text.size)) W := fun W => by
        have := run_slice_string_l W 9 text Tryd.underlying9 .i64 (i : Int) hx0 (by omega)
        simpa using this
       by_cases c3 : M < 0
       ·rw [if_pos c3] at hl
        have HL := Aside0.mk hl
        have c3b : decide (M < 0) = true := decide_eq_true c3
        have hw2 : wrap64 ((text.size : Int) - (i : Int)) = (text.size : Int) - (i : Int) := by unfold wrap64; omega
        have hw3 : wrap64 ((i : Int) + ((text.size : Int) - (i : Int))) = (text.size : Int) := by unfold wrap64; omega
        have hsl : ∀ W, (Instr.slice 9 (.string text) (some (.int .i64 (i : Int))) (some (.int .i64 (text.size : Int))) none).run Tryd.prog W = .ok (.string (text.extract i text.size)) W := fun W => sl_ W text i text.size _ rfl (by omega) (by omega)
        clear hl hw1
        go_wp2_with (first | ((with_reducible refine qs_ (f := 42) rfl ?_); refine goesL_ (some 16) rfl rfl Tryd.func42 (by kernel_rfl) rfl #[.string (text.extract i text.size), .string ⟨#[32, 40, 41]⟩] rfl (by (try simp only [List.map_toArray, List.map_cons, List.map_nil]); first | done | rfl) ?_; refine (HIX.out _).mono ?_; rintro e w4 ⟨rfl, hb⟩; refine ⟨_, rfl, ?_⟩; have n0_ := Aside0.mk (below_low HB.out HB.out.size hb); have n1_ := Aside0.mk (Kd.R_below HO.out hb); clear HB HO; have HB := n0_; have HO := n1_; clear n0_ n1_ hb) | ((with_reducible refine gate_builtin (b := .append) (xs := #[.tmp 30, .tmp 39]) rfl ?_); at_builtin; refine Kd.R_append kw (w0 := w) w.heap.size rfl (.tmp 30) (.tmp 39) 54 67 (.agg #[.string ByteArray.empty, .int .i64 0]) 24 rfl Tryd.underlying54 info67 rfl (by decide) (by decide) _ _ ((text.extract i (i + (text.size - i))), (i : Int)) [.string (text.extract i (i + (text.size - i))), .int .i64 (i : Int)] (fun _ => True) (fun _ => False) rfl rfl (kw_mkM _ _ _ _) (fun _ hk => hk.elim) (fun _ _ => trivial) HO.out HB.out HB.out.size LEN.out ?_; intro v1 w11 ho hb hg hat; have n0_ := Aside0.mk hb; have n1_ := Aside0.mk ho; clear HB HO; have HB := n0_; have HO := n1_; clear n0_ n1_ ho hb hg hat) | fail)
        have hii : i + (text.size - i) = text.size := by omega
        rw [hii] at HO
        go_roundg kz
        case measure => omega
        case rel => exact ⟨acc ++ [(text.extract i text.size, (i : Int))], text.size, _, rfl, by first | rfl | exact congrArg _ hw3 | exact congrArg (Value.int .i64) (by omega), HL, ⟨by rw [List.length_append, List.length_singleton]; have := HK.out; omega⟩, ⟨Nat.le_refl _⟩, HO, HB⟩
       ·rw [if_neg c3] at hl
        obtain ⟨m, rfl⟩ := Int.eq_ofNat_of_zero_le (show 0 ≤ M by omega)
        rw [Int.toNat_natCast] at hl
        by_cases c4 : i + m ≤ text.size
        ·rw [if_pos c4] at hl
         have HL := Aside0.mk hl
         have c3b : decide ((m : Int) < 0) = false := decide_eq_false c3
         have hw3 : wrap64 ((i : Int) + (m : Int)) = (i : Int) + (m : Int) := by unfold wrap64; omega
         have hsl : ∀ W, (Instr.slice 9 (.string text) (some (.int .i64 (i : Int))) (some (.int .i64 ((i : Int) + (m : Int)))) none).run Tryd.prog W = .ok (.string (text.extract i (i + m))) W := fun W => sl_ W text i (i + m) _ (by omega) (by omega) c4
         clear hl hw1
         go_wp2_with (first | ((with_reducible refine qs_ (f := 42) rfl ?_); refine goesL_ (some 16) rfl rfl Tryd.func42 (by kernel_rfl) rfl #[.string (text.extract i text.size), .string ⟨#[32, 40, 41]⟩] rfl (by (try simp only [List.map_toArray, List.map_cons, List.map_nil]); first | done | rfl) ?_; refine (HIX.out _).mono ?_; rintro e w4 ⟨rfl, hb⟩; refine ⟨_, rfl, ?_⟩; have n0_ := Aside0.mk (below_low HB.out HB.out.size hb); have n1_ := Aside0.mk (Kd.R_below HO.out hb); clear HB HO; have HB := n0_; have HO := n1_; clear n0_ n1_ hb) | ((with_reducible refine gate_builtin (b := .append) (xs := #[.tmp 30, .tmp 39]) rfl ?_); at_builtin; refine Kd.R_append kw (w0 := w) w.heap.size rfl (.tmp 30) (.tmp 39) 54 67 (.agg #[.string ByteArray.empty, .int .i64 0]) 24 rfl Tryd.underlying54 info67 rfl (by decide) (by decide) _ _ ((text.extract i (i + m)), (i : Int)) [.string (text.extract i (i + m)), .int .i64 (i : Int)] (fun _ => True) (fun _ => False) rfl rfl (kw_mkM _ _ _ _) (fun _ hk => hk.elim) (fun _ _ => trivial) HO.out HB.out HB.out.size LEN.out ?_; intro v1 w11 ho hb hg hat; have n0_ := Aside0.mk hb; have n1_ := Aside0.mk ho; clear HB HO; have HB := n0_; have HO := n1_; clear n0_ n1_ ho hb hg hat) | fail)
         go_roundg kz
         case measure => omega
         case rel => exact ⟨acc ++ [(text.extract i (i + m), (i : Int))], i + m, _, rfl, by first | rfl | exact congrArg _ hw3, HL, ⟨by rw [List.length_append, List.length_singleton]; have := HK.out; omega⟩, ⟨c4⟩, HO, HB⟩
        ·rw [if_neg c4] at hl
         cases hl
    ·rw [if_neg hi] at hl
     obtain rfl := Option.some.inj hl
     have hx : decide ((i : Int) < (text.size : Int)) = false := decide_eq_false (by omega)
     have hxi : ¬ (i : Int) < (text.size : Int) := by omega
     go_wp2_with (first | ((with_reducible refine gate_builtin (b := .append) (xs := #[.tmp 44, .tmp 48]) rfl ?_); at_builtin; refine Kd.R_append kw (w0 := w) w.heap.size rfl (.tmp 44) (.tmp 48) 54 67 (.agg #[.string ByteArray.empty, .int .i64 0]) 24 rfl Tryd.underlying54 info67 rfl (by decide) (by decide) _ _ ((⟨#[]⟩ : ByteArray), (text.size : Int)) [.string (⟨#[]⟩ : ByteArray), .int .i64 (text.size : Int)] (fun _ => True) (fun _ => False) rfl rfl (kw_mkM _ _ _ _) (fun _ hk => hk.elim) (fun _ _ => trivial) HO.out HB.out HB.out.size LEN.out ?_; intro v1 w11 ho hb hg hat; have n0_ := Aside0.mk hb; have n1_ := Aside0.mk ho; clear HB HO; have HB := n0_; have HO := n1_; clear n0_ n1_ ho hb hg hat) | fail)
     go_ret
     exact ⟨_, rfl, HO.out, HB.out⟩
 ·rw [if_neg q] at h
  cases h
end Go.Proofs.YtblkkhddefnkpaaDoor.PPo
