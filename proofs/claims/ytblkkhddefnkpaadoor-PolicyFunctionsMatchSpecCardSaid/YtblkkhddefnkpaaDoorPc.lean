/- The parser's factor, and with it the whole of its recursion. By hand. -/
import Derived.Test.YtblkkhddefnkpaaDoorPb
import Derived.Laws.CopyOwn
namespace Go.Proofs.YtblkkhddefnkpaaDoor.PPo
open Go.RowKit Go.Proofs.YtblkkhddefnkpaaDoorW.PrintWords Go.Proofs.YtblkkhddefnkpaaDoorW.PrintLast Go.Proofs.YtblkkhddefnkpaaDoorW.PrintMore
attribute [local go_sem] max2_int min2_int max_two min_two max_three min_three max_four min_four
attribute [local go_sem] World.cell?_alloc_some
attribute [local go_sem high] eqA28
set_option linter.unusedVariables false
set_option linter.unusedSimpArgs false

set_option maxHeartbeats 8000000 in
set_option maxRecDepth 100000 in
theorem factorT.calls (B g gw : Nat) (CW : Array Value) (f e : PS → Option (Int × PS)) (hf : ∀ (w : World) (s s' : PS) (r : Int), Pst w B g gw CW s → f s = some (r, s') → Calls Tryd.prog 51 #[.pointer (some ⟨g, 0, none⟩)] w fun e w' => e = .returned (.int .i64 r) ∧ Pst w' B g gw CW s' ∧ Below B w w') (he : ∀ (w : World) (s s' : PS) (r : Int), Pst w B g gw CW s → e s = some (r, s') → Calls Tryd.prog 31 #[.pointer (some ⟨g, 0, none⟩)] w fun e w' => e = .returned (.int .i64 r) ∧ Pst w' B g gw CW s' ∧ Below B w w') (s s' : PS) (r : Int) (w : World) (hp : Pst w B g gw CW s) (h : facT f e s = some (r, s')) :
  Calls Tryd.prog 51 #[.pointer (some ⟨g, 0, none⟩)] w fun e w' => e = .returned (.int .i64 r) ∧ Pst w' B g gw CW s' ∧ Below B w w' := by
 have PV := Aside0.mk hp
 have HB := Aside0.mk (Below.refl B w)
 unfold facT at h
 clear hp
 obtain ⟨⟨b, s0⟩, h_, h⟩ := Option.bind_eq_some_iff.mp h
 have HA0 := Aside0.mk h_
 clear h_
 cases b with
 | true =>
  rw [if_pos rfl] at h
  obtain ⟨⟨l0, t0⟩, h_, h⟩ := Option.bind_eq_some_iff.mp h
  have HF := Aside0.mk h_
  clear h_
  have HD := Aside0.mk h
  clear h
  go_enter Tryd.func51, Tryd.ntmps51
  go_wp2_with (first | ((with_reducible refine qs_ (f := 50) rfl ?_); refine goesL_ (some 7) rfl rfl Tryd.func50 (by kernel_rfl) rfl #[.pointer (some ⟨g, 0, none⟩), .string ⟨#[110, 111, 116]⟩] rfl (by (try simp only [List.map_toArray, List.map_cons, List.map_nil]); first | done | rfl) ?_; refine (accept.calls B g gw CW (⟨#[110, 111, 116]⟩ : ByteArray) s s0 true _ PV.out HA0.out).mono ?_; rintro e w4 ⟨rfl, hp_, hb⟩; refine ⟨_, rfl, ?_⟩; have n0_ := Aside0.mk (HB.out.trans hb); have n1_ := Aside0.mk hp_; clear HB PV; have HB := n0_; have PV := n1_; clear n0_ n1_ hp_ hb) | ((with_reducible refine qs_ (f := 51) rfl ?_); refine goesL_ (some 9) rfl rfl Tryd.func51 (by kernel_rfl) rfl #[.pointer (some ⟨g, 0, none⟩)] rfl (by (try simp only [List.map_toArray, List.map_cons, List.map_nil]); first | done | rfl) ?_; refine (hf _ s0 t0 l0 PV.out HF.out).mono ?_; rintro e w4 ⟨rfl, hp_, hb⟩; refine ⟨_, rfl, ?_⟩; have n0_ := Aside0.mk (HB.out.trans hb); have n1_ := Aside0.mk hp_; clear HB PV; have HB := n0_; have PV := n1_; clear n0_ n1_ hp_ hb) | ((with_reducible refine qs_ (f := 40) rfl ?_); refine goesL_ (some 13) rfl rfl Tryd.func40 (by kernel_rfl) rfl #[.pointer (some ⟨g, 0, none⟩), .agg #[.int .i64 5, .int .i64 0, .int .i64 l0, .int .i64 0]] rfl (by (try simp only [List.map_toArray, List.map_cons, List.map_nil]); first | done | rfl) ?_; refine (add.calls B g gw CW ⟨5, 0, l0, 0⟩ t0 s' r _ PV.out HD.out).mono ?_; rintro e w4 ⟨rfl, hp_, hb⟩; refine ⟨_, rfl, ?_⟩; have n0_ := Aside0.mk (HB.out.trans hb); have n1_ := Aside0.mk hp_; clear HB PV; have HB := n0_; have PV := n1_; clear n0_ n1_ hp_ hb) | fail)
  go_ret
  exact ⟨rfl, PV.out, HB.out⟩
 | false =>
  rw [if_neg (show ¬ (false = true) by decide)] at h
  obtain ⟨⟨b, s1⟩, h_, h⟩ := Option.bind_eq_some_iff.mp h
  have HA1 := Aside0.mk h_
  clear h_
  cases b with
  | true =>
   rw [if_pos rfl] at h
   obtain ⟨⟨l0, t0⟩, h_, h⟩ := Option.bind_eq_some_iff.mp h
   have HF := Aside0.mk h_
   clear h_
   obtain ⟨⟨c, t1⟩, h_, h⟩ := Option.bind_eq_some_iff.mp h
   have HC := Aside0.mk h_
   clear h_
   cases c with
   | true =>
    rw [if_pos rfl] at h
    simp only [Option.some.injEq, Prod.mk.injEq] at h
    obtain ⟨rfl, rfl⟩ := h
    go_enter Tryd.func51, Tryd.ntmps51
    go_wp2_with (first | ((with_reducible refine qs_ (f := 50) rfl ?_); refine goesL_ (some 7) rfl rfl Tryd.func50 (by kernel_rfl) rfl #[.pointer (some ⟨g, 0, none⟩), .string ⟨#[110, 111, 116]⟩] rfl (by (try simp only [List.map_toArray, List.map_cons, List.map_nil]); first | done | rfl) ?_; refine (accept.calls B g gw CW (⟨#[110, 111, 116]⟩ : ByteArray) s s0 false _ PV.out HA0.out).mono ?_; rintro e w4 ⟨rfl, hp_, hb⟩; refine ⟨_, rfl, ?_⟩; have n0_ := Aside0.mk (HB.out.trans hb); have n1_ := Aside0.mk hp_; clear HB PV; have HB := n0_; have PV := n1_; clear n0_ n1_ hp_ hb) | ((with_reducible refine qs_ (f := 50) rfl ?_); refine goesL_ (some 16) rfl rfl Tryd.func50 (by kernel_rfl) rfl #[.pointer (some ⟨g, 0, none⟩), .string ⟨#[40]⟩] rfl (by (try simp only [List.map_toArray, List.map_cons, List.map_nil]); first | done | rfl) ?_; refine (accept.calls B g gw CW (⟨#[40]⟩ : ByteArray) s0 s1 true _ PV.out HA1.out).mono ?_; rintro e w4 ⟨rfl, hp_, hb⟩; refine ⟨_, rfl, ?_⟩; have n0_ := Aside0.mk (HB.out.trans hb); have n1_ := Aside0.mk hp_; clear HB PV; have HB := n0_; have PV := n1_; clear n0_ n1_ hp_ hb) | ((with_reducible refine qs_ (f := 31) rfl ?_); refine goesL_ (some 18) rfl rfl Tryd.func31 (by kernel_rfl) rfl #[.pointer (some ⟨g, 0, none⟩)] rfl (by (try simp only [List.map_toArray, List.map_cons, List.map_nil]); first | done | rfl) ?_; refine (he _ s1 t0 l0 PV.out HF.out).mono ?_; rintro e w4 ⟨rfl, hp_, hb⟩; refine ⟨_, rfl, ?_⟩; have n0_ := Aside0.mk (HB.out.trans hb); have n1_ := Aside0.mk hp_; clear HB PV; have HB := n0_; have PV := n1_; clear n0_ n1_ hp_ hb) | ((with_reducible refine qs_ (f := 50) rfl ?_); refine goesL_ (some 20) rfl rfl Tryd.func50 (by kernel_rfl) rfl #[.pointer (some ⟨g, 0, none⟩), .string ⟨#[41]⟩] rfl (by (try simp only [List.map_toArray, List.map_cons, List.map_nil]); first | done | rfl) ?_; refine (accept.calls B g gw CW (⟨#[41]⟩ : ByteArray) t0 t1 true _ PV.out HC.out).mono ?_; rintro e w4 ⟨rfl, hp_, hb⟩; refine ⟨_, rfl, ?_⟩; have n0_ := Aside0.mk (HB.out.trans hb); have n1_ := Aside0.mk hp_; clear HB PV; have HB := n0_; have PV := n1_; clear n0_ n1_ hp_ hb) | fail)
    go_ret
    exact ⟨rfl, PV.out, HB.out⟩
   | false =>
    rw [if_neg (show ¬ (false = true) by decide)] at h
    obtain ⟨t2, h_, h⟩ := Option.bind_eq_some_iff.mp h
    have HL := Aside0.mk h_
    clear h_
    simp only [Option.some.injEq, Prod.mk.injEq] at h
    obtain ⟨rfl, rfl⟩ := h
    go_enter Tryd.func51, Tryd.ntmps51
    go_wp2_with (first | ((with_reducible refine qs_ (f := 50) rfl ?_); refine goesL_ (some 7) rfl rfl Tryd.func50 (by kernel_rfl) rfl #[.pointer (some ⟨g, 0, none⟩), .string ⟨#[110, 111, 116]⟩] rfl (by (try simp only [List.map_toArray, List.map_cons, List.map_nil]); first | done | rfl) ?_; refine (accept.calls B g gw CW (⟨#[110, 111, 116]⟩ : ByteArray) s s0 false _ PV.out HA0.out).mono ?_; rintro e w4 ⟨rfl, hp_, hb⟩; refine ⟨_, rfl, ?_⟩; have n0_ := Aside0.mk (HB.out.trans hb); have n1_ := Aside0.mk hp_; clear HB PV; have HB := n0_; have PV := n1_; clear n0_ n1_ hp_ hb) | ((with_reducible refine qs_ (f := 50) rfl ?_); refine goesL_ (some 16) rfl rfl Tryd.func50 (by kernel_rfl) rfl #[.pointer (some ⟨g, 0, none⟩), .string ⟨#[40]⟩] rfl (by (try simp only [List.map_toArray, List.map_cons, List.map_nil]); first | done | rfl) ?_; refine (accept.calls B g gw CW (⟨#[40]⟩ : ByteArray) s0 s1 true _ PV.out HA1.out).mono ?_; rintro e w4 ⟨rfl, hp_, hb⟩; refine ⟨_, rfl, ?_⟩; have n0_ := Aside0.mk (HB.out.trans hb); have n1_ := Aside0.mk hp_; clear HB PV; have HB := n0_; have PV := n1_; clear n0_ n1_ hp_ hb) | ((with_reducible refine qs_ (f := 31) rfl ?_); refine goesL_ (some 18) rfl rfl Tryd.func31 (by kernel_rfl) rfl #[.pointer (some ⟨g, 0, none⟩)] rfl (by (try simp only [List.map_toArray, List.map_cons, List.map_nil]); first | done | rfl) ?_; refine (he _ s1 t0 l0 PV.out HF.out).mono ?_; rintro e w4 ⟨rfl, hp_, hb⟩; refine ⟨_, rfl, ?_⟩; have n0_ := Aside0.mk (HB.out.trans hb); have n1_ := Aside0.mk hp_; clear HB PV; have HB := n0_; have PV := n1_; clear n0_ n1_ hp_ hb) | ((with_reducible refine qs_ (f := 50) rfl ?_); refine goesL_ (some 20) rfl rfl Tryd.func50 (by kernel_rfl) rfl #[.pointer (some ⟨g, 0, none⟩), .string ⟨#[41]⟩] rfl (by (try simp only [List.map_toArray, List.map_cons, List.map_nil]); first | done | rfl) ?_; refine (accept.calls B g gw CW (⟨#[41]⟩ : ByteArray) t0 t1 false _ PV.out HC.out).mono ?_; rintro e w4 ⟨rfl, hp_, hb⟩; refine ⟨_, rfl, ?_⟩; have n0_ := Aside0.mk (HB.out.trans hb); have n1_ := Aside0.mk hp_; clear HB PV; have HB := n0_; have PV := n1_; clear n0_ n1_ hp_ hb) | ((with_reducible refine qs_ (f := 32) rfl ?_); refine goesL_ (some 23) rfl rfl Tryd.func32 (by kernel_rfl) rfl #[.pointer (some ⟨g, 0, none⟩), .int .i64 1] rfl (by (try simp only [List.map_toArray, List.map_cons, List.map_nil]); first | done | rfl) ?_; refine (fail.calls B g gw CW 1 t1 t2 _ PV.out HL.out).mono ?_; rintro e w4 ⟨rfl, hp_, hb⟩; refine ⟨_, rfl, ?_⟩; have n0_ := Aside0.mk (HB.out.trans hb); have n1_ := Aside0.mk hp_; clear HB PV; have HB := n0_; have PV := n1_; clear n0_ n1_ hp_ hb) | fail)
    go_ret
    exact ⟨rfl, PV.out, HB.out⟩
  | false =>
   rw [if_neg (show ¬ (false = true) by decide)] at h
   obtain ⟨⟨b, s2⟩, h_, h⟩ := Option.bind_eq_some_iff.mp h
   have HA2 := Aside0.mk h_
   clear h_
   cases b with
   | true =>
    rw [if_pos rfl] at h
    have HN := Aside0.mk h
    clear h
    go_enter Tryd.func51, Tryd.ntmps51
    go_wp2_with (first | ((with_reducible refine qs_ (f := 50) rfl ?_); refine goesL_ (some 7) rfl rfl Tryd.func50 (by kernel_rfl) rfl #[.pointer (some ⟨g, 0, none⟩), .string ⟨#[110, 111, 116]⟩] rfl (by (try simp only [List.map_toArray, List.map_cons, List.map_nil]); first | done | rfl) ?_; refine (accept.calls B g gw CW (⟨#[110, 111, 116]⟩ : ByteArray) s s0 false _ PV.out HA0.out).mono ?_; rintro e w4 ⟨rfl, hp_, hb⟩; refine ⟨_, rfl, ?_⟩; have n0_ := Aside0.mk (HB.out.trans hb); have n1_ := Aside0.mk hp_; clear HB PV; have HB := n0_; have PV := n1_; clear n0_ n1_ hp_ hb) | ((with_reducible refine qs_ (f := 50) rfl ?_); refine goesL_ (some 16) rfl rfl Tryd.func50 (by kernel_rfl) rfl #[.pointer (some ⟨g, 0, none⟩), .string ⟨#[40]⟩] rfl (by (try simp only [List.map_toArray, List.map_cons, List.map_nil]); first | done | rfl) ?_; refine (accept.calls B g gw CW (⟨#[40]⟩ : ByteArray) s0 s1 false _ PV.out HA1.out).mono ?_; rintro e w4 ⟨rfl, hp_, hb⟩; refine ⟨_, rfl, ?_⟩; have n0_ := Aside0.mk (HB.out.trans hb); have n1_ := Aside0.mk hp_; clear HB PV; have HB := n0_; have PV := n1_; clear n0_ n1_ hp_ hb) | ((with_reducible refine qs_ (f := 50) rfl ?_); refine goesL_ (some 27) rfl rfl Tryd.func50 (by kernel_rfl) rfl #[.pointer (some ⟨g, 0, none⟩), .string ⟨#[115, 99, 111, 114, 101]⟩] rfl (by (try simp only [List.map_toArray, List.map_cons, List.map_nil]); first | done | rfl) ?_; refine (accept.calls B g gw CW (⟨#[115, 99, 111, 114, 101]⟩ : ByteArray) s1 s2 true _ PV.out HA2.out).mono ?_; rintro e w4 ⟨rfl, hp_, hb⟩; refine ⟨_, rfl, ?_⟩; have n0_ := Aside0.mk (HB.out.trans hb); have n1_ := Aside0.mk hp_; clear HB PV; have HB := n0_; have PV := n1_; clear n0_ n1_ hp_ hb) | ((with_reducible refine qs_ (f := 60) rfl ?_); refine goesL_ (some 29) rfl rfl Tryd.func60 (by kernel_rfl) rfl #[.pointer (some ⟨g, 0, none⟩), .int .i64 1] rfl (by (try simp only [List.map_toArray, List.map_cons, List.map_nil]); first | done | rfl) ?_; refine (number.calls B g gw CW 1 s2 s' r _ PV.out HN.out).mono ?_; rintro e w4 ⟨rfl, hp_, hb⟩; refine ⟨_, rfl, ?_⟩; have n0_ := Aside0.mk (HB.out.trans hb); have n1_ := Aside0.mk hp_; clear HB PV; have HB := n0_; have PV := n1_; clear n0_ n1_ hp_ hb) | fail)
    go_ret
    exact ⟨rfl, PV.out, HB.out⟩
   | false =>
    rw [if_neg (show ¬ (false = true) by decide)] at h
    obtain ⟨⟨b, s3⟩, h_, h⟩ := Option.bind_eq_some_iff.mp h
    have HA3 := Aside0.mk h_
    clear h_
    cases b with
    | true =>
     rw [if_pos rfl] at h
     have HN := Aside0.mk h
     clear h
     go_enter Tryd.func51, Tryd.ntmps51
     go_wp2_with (first | ((with_reducible refine qs_ (f := 50) rfl ?_); refine goesL_ (some 7) rfl rfl Tryd.func50 (by kernel_rfl) rfl #[.pointer (some ⟨g, 0, none⟩), .string ⟨#[110, 111, 116]⟩] rfl (by (try simp only [List.map_toArray, List.map_cons, List.map_nil]); first | done | rfl) ?_; refine (accept.calls B g gw CW (⟨#[110, 111, 116]⟩ : ByteArray) s s0 false _ PV.out HA0.out).mono ?_; rintro e w4 ⟨rfl, hp_, hb⟩; refine ⟨_, rfl, ?_⟩; have n0_ := Aside0.mk (HB.out.trans hb); have n1_ := Aside0.mk hp_; clear HB PV; have HB := n0_; have PV := n1_; clear n0_ n1_ hp_ hb) | ((with_reducible refine qs_ (f := 50) rfl ?_); refine goesL_ (some 16) rfl rfl Tryd.func50 (by kernel_rfl) rfl #[.pointer (some ⟨g, 0, none⟩), .string ⟨#[40]⟩] rfl (by (try simp only [List.map_toArray, List.map_cons, List.map_nil]); first | done | rfl) ?_; refine (accept.calls B g gw CW (⟨#[40]⟩ : ByteArray) s0 s1 false _ PV.out HA1.out).mono ?_; rintro e w4 ⟨rfl, hp_, hb⟩; refine ⟨_, rfl, ?_⟩; have n0_ := Aside0.mk (HB.out.trans hb); have n1_ := Aside0.mk hp_; clear HB PV; have HB := n0_; have PV := n1_; clear n0_ n1_ hp_ hb) | ((with_reducible refine qs_ (f := 50) rfl ?_); refine goesL_ (some 27) rfl rfl Tryd.func50 (by kernel_rfl) rfl #[.pointer (some ⟨g, 0, none⟩), .string ⟨#[115, 99, 111, 114, 101]⟩] rfl (by (try simp only [List.map_toArray, List.map_cons, List.map_nil]); first | done | rfl) ?_; refine (accept.calls B g gw CW (⟨#[115, 99, 111, 114, 101]⟩ : ByteArray) s1 s2 false _ PV.out HA2.out).mono ?_; rintro e w4 ⟨rfl, hp_, hb⟩; refine ⟨_, rfl, ?_⟩; have n0_ := Aside0.mk (HB.out.trans hb); have n1_ := Aside0.mk hp_; clear HB PV; have HB := n0_; have PV := n1_; clear n0_ n1_ hp_ hb) | ((with_reducible refine qs_ (f := 50) rfl ?_); refine goesL_ (some 32) rfl rfl Tryd.func50 (by kernel_rfl) rfl #[.pointer (some ⟨g, 0, none⟩), .string ⟨#[117, 115, 101, 114]⟩] rfl (by (try simp only [List.map_toArray, List.map_cons, List.map_nil]); first | done | rfl) ?_; refine (accept.calls B g gw CW (⟨#[117, 115, 101, 114]⟩ : ByteArray) s2 s3 true _ PV.out HA3.out).mono ?_; rintro e w4 ⟨rfl, hp_, hb⟩; refine ⟨_, rfl, ?_⟩; have n0_ := Aside0.mk (HB.out.trans hb); have n1_ := Aside0.mk hp_; clear HB PV; have HB := n0_; have PV := n1_; clear n0_ n1_ hp_ hb) | ((with_reducible refine qs_ (f := 60) rfl ?_); refine goesL_ (some 34) rfl rfl Tryd.func60 (by kernel_rfl) rfl #[.pointer (some ⟨g, 0, none⟩), .int .i64 4] rfl (by (try simp only [List.map_toArray, List.map_cons, List.map_nil]); first | done | rfl) ?_; refine (number.calls B g gw CW 4 s3 s' r _ PV.out HN.out).mono ?_; rintro e w4 ⟨rfl, hp_, hb⟩; refine ⟨_, rfl, ?_⟩; have n0_ := Aside0.mk (HB.out.trans hb); have n1_ := Aside0.mk hp_; clear HB PV; have HB := n0_; have PV := n1_; clear n0_ n1_ hp_ hb) | fail)
     go_ret
     exact ⟨rfl, PV.out, HB.out⟩
    | false =>
     rw [if_neg (show ¬ (false = true) by decide)] at h
     obtain ⟨⟨b, s4⟩, h_, h⟩ := Option.bind_eq_some_iff.mp h
     have HA4 := Aside0.mk h_
     clear h_
     cases b with
     | true =>
      rw [if_pos rfl] at h
      have HD := Aside0.mk h
      clear h
      go_enter Tryd.func51, Tryd.ntmps51
      go_wp2_with (first | ((with_reducible refine qs_ (f := 50) rfl ?_); refine goesL_ (some 7) rfl rfl Tryd.func50 (by kernel_rfl) rfl #[.pointer (some ⟨g, 0, none⟩), .string ⟨#[110, 111, 116]⟩] rfl (by (try simp only [List.map_toArray, List.map_cons, List.map_nil]); first | done | rfl) ?_; refine (accept.calls B g gw CW (⟨#[110, 111, 116]⟩ : ByteArray) s s0 false _ PV.out HA0.out).mono ?_; rintro e w4 ⟨rfl, hp_, hb⟩; refine ⟨_, rfl, ?_⟩; have n0_ := Aside0.mk (HB.out.trans hb); have n1_ := Aside0.mk hp_; clear HB PV; have HB := n0_; have PV := n1_; clear n0_ n1_ hp_ hb) | ((with_reducible refine qs_ (f := 50) rfl ?_); refine goesL_ (some 16) rfl rfl Tryd.func50 (by kernel_rfl) rfl #[.pointer (some ⟨g, 0, none⟩), .string ⟨#[40]⟩] rfl (by (try simp only [List.map_toArray, List.map_cons, List.map_nil]); first | done | rfl) ?_; refine (accept.calls B g gw CW (⟨#[40]⟩ : ByteArray) s0 s1 false _ PV.out HA1.out).mono ?_; rintro e w4 ⟨rfl, hp_, hb⟩; refine ⟨_, rfl, ?_⟩; have n0_ := Aside0.mk (HB.out.trans hb); have n1_ := Aside0.mk hp_; clear HB PV; have HB := n0_; have PV := n1_; clear n0_ n1_ hp_ hb) | ((with_reducible refine qs_ (f := 50) rfl ?_); refine goesL_ (some 27) rfl rfl Tryd.func50 (by kernel_rfl) rfl #[.pointer (some ⟨g, 0, none⟩), .string ⟨#[115, 99, 111, 114, 101]⟩] rfl (by (try simp only [List.map_toArray, List.map_cons, List.map_nil]); first | done | rfl) ?_; refine (accept.calls B g gw CW (⟨#[115, 99, 111, 114, 101]⟩ : ByteArray) s1 s2 false _ PV.out HA2.out).mono ?_; rintro e w4 ⟨rfl, hp_, hb⟩; refine ⟨_, rfl, ?_⟩; have n0_ := Aside0.mk (HB.out.trans hb); have n1_ := Aside0.mk hp_; clear HB PV; have HB := n0_; have PV := n1_; clear n0_ n1_ hp_ hb) | ((with_reducible refine qs_ (f := 50) rfl ?_); refine goesL_ (some 32) rfl rfl Tryd.func50 (by kernel_rfl) rfl #[.pointer (some ⟨g, 0, none⟩), .string ⟨#[117, 115, 101, 114]⟩] rfl (by (try simp only [List.map_toArray, List.map_cons, List.map_nil]); first | done | rfl) ?_; refine (accept.calls B g gw CW (⟨#[117, 115, 101, 114]⟩ : ByteArray) s2 s3 false _ PV.out HA3.out).mono ?_; rintro e w4 ⟨rfl, hp_, hb⟩; refine ⟨_, rfl, ?_⟩; have n0_ := Aside0.mk (HB.out.trans hb); have n1_ := Aside0.mk hp_; clear HB PV; have HB := n0_; have PV := n1_; clear n0_ n1_ hp_ hb) | ((with_reducible refine qs_ (f := 50) rfl ?_); refine goesL_ (some 37) rfl rfl Tryd.func50 (by kernel_rfl) rfl #[.pointer (some ⟨g, 0, none⟩), .string ⟨#[111, 119, 110, 101, 114, 115]⟩] rfl (by (try simp only [List.map_toArray, List.map_cons, List.map_nil]); first | done | rfl) ?_; refine (accept.calls B g gw CW (⟨#[111, 119, 110, 101, 114, 115]⟩ : ByteArray) s3 s4 true _ PV.out HA4.out).mono ?_; rintro e w4 ⟨rfl, hp_, hb⟩; refine ⟨_, rfl, ?_⟩; have n0_ := Aside0.mk (HB.out.trans hb); have n1_ := Aside0.mk hp_; clear HB PV; have HB := n0_; have PV := n1_; clear n0_ n1_ hp_ hb) | ((with_reducible refine qs_ (f := 40) rfl ?_); refine goesL_ (some 40) rfl rfl Tryd.func40 (by kernel_rfl) rfl #[.pointer (some ⟨g, 0, none⟩), .agg #[.int .i64 2, .int .i64 0, .int .i64 0, .int .i64 0]] rfl (by (try simp only [List.map_toArray, List.map_cons, List.map_nil]); first | done | rfl) ?_; refine (add.calls B g gw CW ⟨2, 0, 0, 0⟩ s4 s' r _ PV.out HD.out).mono ?_; rintro e w4 ⟨rfl, hp_, hb⟩; refine ⟨_, rfl, ?_⟩; have n0_ := Aside0.mk (HB.out.trans hb); have n1_ := Aside0.mk hp_; clear HB PV; have HB := n0_; have PV := n1_; clear n0_ n1_ hp_ hb) | fail)
      go_ret
      exact ⟨rfl, PV.out, HB.out⟩
     | false =>
      rw [if_neg (show ¬ (false = true) by decide)] at h
      obtain ⟨⟨b, s5⟩, h_, h⟩ := Option.bind_eq_some_iff.mp h
      have HA5 := Aside0.mk h_
      clear h_
      cases b with
      | true =>
       rw [if_pos rfl] at h
       have HD := Aside0.mk h
       clear h
       go_enter Tryd.func51, Tryd.ntmps51
       go_wp2_with (first | ((with_reducible refine qs_ (f := 50) rfl ?_); refine goesL_ (some 7) rfl rfl Tryd.func50 (by kernel_rfl) rfl #[.pointer (some ⟨g, 0, none⟩), .string ⟨#[110, 111, 116]⟩] rfl (by (try simp only [List.map_toArray, List.map_cons, List.map_nil]); first | done | rfl) ?_; refine (accept.calls B g gw CW (⟨#[110, 111, 116]⟩ : ByteArray) s s0 false _ PV.out HA0.out).mono ?_; rintro e w4 ⟨rfl, hp_, hb⟩; refine ⟨_, rfl, ?_⟩; have n0_ := Aside0.mk (HB.out.trans hb); have n1_ := Aside0.mk hp_; clear HB PV; have HB := n0_; have PV := n1_; clear n0_ n1_ hp_ hb) | ((with_reducible refine qs_ (f := 50) rfl ?_); refine goesL_ (some 16) rfl rfl Tryd.func50 (by kernel_rfl) rfl #[.pointer (some ⟨g, 0, none⟩), .string ⟨#[40]⟩] rfl (by (try simp only [List.map_toArray, List.map_cons, List.map_nil]); first | done | rfl) ?_; refine (accept.calls B g gw CW (⟨#[40]⟩ : ByteArray) s0 s1 false _ PV.out HA1.out).mono ?_; rintro e w4 ⟨rfl, hp_, hb⟩; refine ⟨_, rfl, ?_⟩; have n0_ := Aside0.mk (HB.out.trans hb); have n1_ := Aside0.mk hp_; clear HB PV; have HB := n0_; have PV := n1_; clear n0_ n1_ hp_ hb) | ((with_reducible refine qs_ (f := 50) rfl ?_); refine goesL_ (some 27) rfl rfl Tryd.func50 (by kernel_rfl) rfl #[.pointer (some ⟨g, 0, none⟩), .string ⟨#[115, 99, 111, 114, 101]⟩] rfl (by (try simp only [List.map_toArray, List.map_cons, List.map_nil]); first | done | rfl) ?_; refine (accept.calls B g gw CW (⟨#[115, 99, 111, 114, 101]⟩ : ByteArray) s1 s2 false _ PV.out HA2.out).mono ?_; rintro e w4 ⟨rfl, hp_, hb⟩; refine ⟨_, rfl, ?_⟩; have n0_ := Aside0.mk (HB.out.trans hb); have n1_ := Aside0.mk hp_; clear HB PV; have HB := n0_; have PV := n1_; clear n0_ n1_ hp_ hb) | ((with_reducible refine qs_ (f := 50) rfl ?_); refine goesL_ (some 32) rfl rfl Tryd.func50 (by kernel_rfl) rfl #[.pointer (some ⟨g, 0, none⟩), .string ⟨#[117, 115, 101, 114]⟩] rfl (by (try simp only [List.map_toArray, List.map_cons, List.map_nil]); first | done | rfl) ?_; refine (accept.calls B g gw CW (⟨#[117, 115, 101, 114]⟩ : ByteArray) s2 s3 false _ PV.out HA3.out).mono ?_; rintro e w4 ⟨rfl, hp_, hb⟩; refine ⟨_, rfl, ?_⟩; have n0_ := Aside0.mk (HB.out.trans hb); have n1_ := Aside0.mk hp_; clear HB PV; have HB := n0_; have PV := n1_; clear n0_ n1_ hp_ hb) | ((with_reducible refine qs_ (f := 50) rfl ?_); refine goesL_ (some 37) rfl rfl Tryd.func50 (by kernel_rfl) rfl #[.pointer (some ⟨g, 0, none⟩), .string ⟨#[111, 119, 110, 101, 114, 115]⟩] rfl (by (try simp only [List.map_toArray, List.map_cons, List.map_nil]); first | done | rfl) ?_; refine (accept.calls B g gw CW (⟨#[111, 119, 110, 101, 114, 115]⟩ : ByteArray) s3 s4 false _ PV.out HA4.out).mono ?_; rintro e w4 ⟨rfl, hp_, hb⟩; refine ⟨_, rfl, ?_⟩; have n0_ := Aside0.mk (HB.out.trans hb); have n1_ := Aside0.mk hp_; clear HB PV; have HB := n0_; have PV := n1_; clear n0_ n1_ hp_ hb) | ((with_reducible refine qs_ (f := 50) rfl ?_); refine goesL_ (some 43) rfl rfl Tryd.func50 (by kernel_rfl) rfl #[.pointer (some ⟨g, 0, none⟩), .string ⟨#[116, 101, 115, 116, 115]⟩] rfl (by (try simp only [List.map_toArray, List.map_cons, List.map_nil]); first | done | rfl) ?_; refine (accept.calls B g gw CW (⟨#[116, 101, 115, 116, 115]⟩ : ByteArray) s4 s5 true _ PV.out HA5.out).mono ?_; rintro e w4 ⟨rfl, hp_, hb⟩; refine ⟨_, rfl, ?_⟩; have n0_ := Aside0.mk (HB.out.trans hb); have n1_ := Aside0.mk hp_; clear HB PV; have HB := n0_; have PV := n1_; clear n0_ n1_ hp_ hb) | ((with_reducible refine qs_ (f := 40) rfl ?_); refine goesL_ (some 46) rfl rfl Tryd.func40 (by kernel_rfl) rfl #[.pointer (some ⟨g, 0, none⟩), .agg #[.int .i64 3, .int .i64 0, .int .i64 0, .int .i64 0]] rfl (by (try simp only [List.map_toArray, List.map_cons, List.map_nil]); first | done | rfl) ?_; refine (add.calls B g gw CW ⟨3, 0, 0, 0⟩ s5 s' r _ PV.out HD.out).mono ?_; rintro e w4 ⟨rfl, hp_, hb⟩; refine ⟨_, rfl, ?_⟩; have n0_ := Aside0.mk (HB.out.trans hb); have n1_ := Aside0.mk hp_; clear HB PV; have HB := n0_; have PV := n1_; clear n0_ n1_ hp_ hb) | fail)
       go_ret
       exact ⟨rfl, PV.out, HB.out⟩
      | false =>
       rw [if_neg (show ¬ (false = true) by decide)] at h
       obtain ⟨t2, h_, h⟩ := Option.bind_eq_some_iff.mp h
       have HL := Aside0.mk h_
       clear h_
       simp only [Option.some.injEq, Prod.mk.injEq] at h
       obtain ⟨rfl, rfl⟩ := h
       go_enter Tryd.func51, Tryd.ntmps51
       go_wp2_with (first | ((with_reducible refine qs_ (f := 50) rfl ?_); refine goesL_ (some 7) rfl rfl Tryd.func50 (by kernel_rfl) rfl #[.pointer (some ⟨g, 0, none⟩), .string ⟨#[110, 111, 116]⟩] rfl (by (try simp only [List.map_toArray, List.map_cons, List.map_nil]); first | done | rfl) ?_; refine (accept.calls B g gw CW (⟨#[110, 111, 116]⟩ : ByteArray) s s0 false _ PV.out HA0.out).mono ?_; rintro e w4 ⟨rfl, hp_, hb⟩; refine ⟨_, rfl, ?_⟩; have n0_ := Aside0.mk (HB.out.trans hb); have n1_ := Aside0.mk hp_; clear HB PV; have HB := n0_; have PV := n1_; clear n0_ n1_ hp_ hb) | ((with_reducible refine qs_ (f := 50) rfl ?_); refine goesL_ (some 16) rfl rfl Tryd.func50 (by kernel_rfl) rfl #[.pointer (some ⟨g, 0, none⟩), .string ⟨#[40]⟩] rfl (by (try simp only [List.map_toArray, List.map_cons, List.map_nil]); first | done | rfl) ?_; refine (accept.calls B g gw CW (⟨#[40]⟩ : ByteArray) s0 s1 false _ PV.out HA1.out).mono ?_; rintro e w4 ⟨rfl, hp_, hb⟩; refine ⟨_, rfl, ?_⟩; have n0_ := Aside0.mk (HB.out.trans hb); have n1_ := Aside0.mk hp_; clear HB PV; have HB := n0_; have PV := n1_; clear n0_ n1_ hp_ hb) | ((with_reducible refine qs_ (f := 50) rfl ?_); refine goesL_ (some 27) rfl rfl Tryd.func50 (by kernel_rfl) rfl #[.pointer (some ⟨g, 0, none⟩), .string ⟨#[115, 99, 111, 114, 101]⟩] rfl (by (try simp only [List.map_toArray, List.map_cons, List.map_nil]); first | done | rfl) ?_; refine (accept.calls B g gw CW (⟨#[115, 99, 111, 114, 101]⟩ : ByteArray) s1 s2 false _ PV.out HA2.out).mono ?_; rintro e w4 ⟨rfl, hp_, hb⟩; refine ⟨_, rfl, ?_⟩; have n0_ := Aside0.mk (HB.out.trans hb); have n1_ := Aside0.mk hp_; clear HB PV; have HB := n0_; have PV := n1_; clear n0_ n1_ hp_ hb) | ((with_reducible refine qs_ (f := 50) rfl ?_); refine goesL_ (some 32) rfl rfl Tryd.func50 (by kernel_rfl) rfl #[.pointer (some ⟨g, 0, none⟩), .string ⟨#[117, 115, 101, 114]⟩] rfl (by (try simp only [List.map_toArray, List.map_cons, List.map_nil]); first | done | rfl) ?_; refine (accept.calls B g gw CW (⟨#[117, 115, 101, 114]⟩ : ByteArray) s2 s3 false _ PV.out HA3.out).mono ?_; rintro e w4 ⟨rfl, hp_, hb⟩; refine ⟨_, rfl, ?_⟩; have n0_ := Aside0.mk (HB.out.trans hb); have n1_ := Aside0.mk hp_; clear HB PV; have HB := n0_; have PV := n1_; clear n0_ n1_ hp_ hb) | ((with_reducible refine qs_ (f := 50) rfl ?_); refine goesL_ (some 37) rfl rfl Tryd.func50 (by kernel_rfl) rfl #[.pointer (some ⟨g, 0, none⟩), .string ⟨#[111, 119, 110, 101, 114, 115]⟩] rfl (by (try simp only [List.map_toArray, List.map_cons, List.map_nil]); first | done | rfl) ?_; refine (accept.calls B g gw CW (⟨#[111, 119, 110, 101, 114, 115]⟩ : ByteArray) s3 s4 false _ PV.out HA4.out).mono ?_; rintro e w4 ⟨rfl, hp_, hb⟩; refine ⟨_, rfl, ?_⟩; have n0_ := Aside0.mk (HB.out.trans hb); have n1_ := Aside0.mk hp_; clear HB PV; have HB := n0_; have PV := n1_; clear n0_ n1_ hp_ hb) | ((with_reducible refine qs_ (f := 50) rfl ?_); refine goesL_ (some 43) rfl rfl Tryd.func50 (by kernel_rfl) rfl #[.pointer (some ⟨g, 0, none⟩), .string ⟨#[116, 101, 115, 116, 115]⟩] rfl (by (try simp only [List.map_toArray, List.map_cons, List.map_nil]); first | done | rfl) ?_; refine (accept.calls B g gw CW (⟨#[116, 101, 115, 116, 115]⟩ : ByteArray) s4 s5 false _ PV.out HA5.out).mono ?_; rintro e w4 ⟨rfl, hp_, hb⟩; refine ⟨_, rfl, ?_⟩; have n0_ := Aside0.mk (HB.out.trans hb); have n1_ := Aside0.mk hp_; clear HB PV; have HB := n0_; have PV := n1_; clear n0_ n1_ hp_ hb) | ((with_reducible refine qs_ (f := 32) rfl ?_); refine goesL_ (some 48) rfl rfl Tryd.func32 (by kernel_rfl) rfl #[.pointer (some ⟨g, 0, none⟩), .int .i64 1] rfl (by (try simp only [List.map_toArray, List.map_cons, List.map_nil]); first | done | rfl) ?_; refine (fail.calls B g gw CW 1 s5 t2 _ PV.out HL.out).mono ?_; rintro e w4 ⟨rfl, hp_, hb⟩; refine ⟨_, rfl, ?_⟩; have n0_ := Aside0.mk (HB.out.trans hb); have n1_ := Aside0.mk hp_; clear HB PV; have HB := n0_; have PV := n1_; clear n0_ n1_ hp_ hb) | fail)
       go_ret
       exact ⟨rfl, PV.out, HB.out⟩
theorem factor.calls (B g gw : Nat) (CW : Array Value) : ∀ (k : Nat), ∀ (w : World) (s s' : PS) (r : Int), Pst w B g gw CW s → (fac k) s = some (r, s') → Calls Tryd.prog 51 #[.pointer (some ⟨g, 0, none⟩)] w fun e w' => e = .returned (.int .i64 r) ∧ Pst w' B g gw CW s' ∧ Below B w w'
 | 0, _, _, _, _, _, h => by cases h
 | k + 1, w, s, s', r, hp, h => factorT.calls B g gw CW (fac k) (eithM (fac k) k) (factor.calls B g gw CW k) (fun w s s' r hp h => either.calls B g gw CW (bothM (fac k) k) (fun w s s' r hp h => both.calls B g gw CW (fac k) (factor.calls B g gw CW k) k s s' r w hp h) k s s' r w hp h) s s' r w hp h
theorem eitherK.calls (B g gw : Nat) (CW : Array Value) (k : Nat) (w : World) (s s' : PS) (r : Int) (hp : Pst w B g gw CW s) (h : eithM (fac k) k s = some (r, s')) :
  Calls Tryd.prog 31 #[.pointer (some ⟨g, 0, none⟩)] w fun e w' => e = .returned (.int .i64 r) ∧ Pst w' B g gw CW s' ∧ Below B w w' :=
 either.calls B g gw CW (bothM (fac k) k) (fun w s s' r hp h => both.calls B g gw CW (fac k) (factor.calls B g gw CW k) k s s' r w hp h) k s s' r w hp h
end Go.Proofs.YtblkkhddefnkpaaDoor.PPo
