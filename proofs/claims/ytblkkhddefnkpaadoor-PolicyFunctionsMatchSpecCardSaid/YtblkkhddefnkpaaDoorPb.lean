/- The parser's number, row, both, either. By hand. -/
import Derived.Test.YtblkkhddefnkpaaDoorPa
import Derived.Test.YtblkkhddefnkpaaDoorPPox1
import Derived.Laws.CopyOwn
namespace Go.Proofs.YtblkkhddefnkpaaDoor.PPo
open Go.RowKit Go.Proofs.YtblkkhddefnkpaaDoorW.PrintWords Go.Proofs.YtblkkhddefnkpaaDoorW.PrintLast Go.Proofs.YtblkkhddefnkpaaDoorW.PrintMore
attribute [local go_sem] max2_int min2_int max_two min_two max_three min_three max_four min_four
attribute [local go_sem] World.cell?_alloc_some
attribute [local go_sem high] eqA28
set_option linter.unusedVariables false
set_option linter.unusedSimpArgs false

theorem Pst.size {w : World} {B g gw : Nat} {CW : Array Value} {s : PS} (h : Pst w B g gw CW s) : B ≤ w.heap.size := by
 obtain ⟨o, cw, vn, h⟩ := h
 exact h.size
theorem Pst.below {w w1 : World} {B g gw : Nat} {CW : Array Value} {s : PS} (h : Pst w B g gw CW s) (hb : Below w.heap.size w w1) : Pst w1 B g gw CW s := by
 obtain ⟨o, cw, vn, h⟩ := h
 exact ⟨o, cw, vn, h.below hb⟩

def hiM (kind : Int) : Int := if kind = 1 then 8 else if kind = 4 then 7 else 0
def dropW (s : PS) : Option PS := match s.ws with | [] => none | _ :: tl => (match tl with | [] => none | y :: tl' => some ⟨y :: tl', s.ns, s.fc, s.fi⟩)
/-- The number that a word spells; what is no number of 0 to 99 is not looked at. -/
def numM (kind : Int) (s : PS) : Option (Int × PS) := match s.ws with
 | [] => none
 | x :: _ => match Lib.atoiAll x.1.data.toList with
  | .ok v => if 0 ≤ v ∧ v < 100 ∧ x.1.size ≤ 1000 then
    (if Lib.decDigits v.toNat = x.1.toList then (if v > hiM kind then (pFail 3 s).bind fun s1 => pAdd ⟨kind, v, 0, 0⟩ s1 else (dropW s).bind fun s1 => pAdd ⟨kind, v, 0, 0⟩ s1)
     else (pFail 1 s).bind fun s1 => pAdd ⟨kind, v, 0, 0⟩ s1) else none
  | _ => none
def rowL (op : PS → Option (Int × PS)) (sign : ByteArray) (kind : Int) : Nat → Int → PS → Option (Int × PS)
 | 0, _, _ => none
 | k + 1, l, s => (pAcc sign s).bind fun a => if a.1 = true then (op a.2).bind fun b => (pAdd ⟨kind, 0, l, b.1⟩ b.2).bind fun c => rowL op sign kind k c.1 c.2 else some (l, a.2)
def rowM (op : PS → Option (Int × PS)) (sign : ByteArray) (kind : Int) (k : Nat) (s : PS) : Option (Int × PS) := (op s).bind fun a => rowL op sign kind k a.1 a.2
def bothM (f : PS → Option (Int × PS)) (k : Nat) (s : PS) : Option (Int × PS) := rowM f (⟨#[97, 110, 100]⟩ : ByteArray) 6 k s
def eithM (f : PS → Option (Int × PS)) (k : Nat) (s : PS) : Option (Int × PS) := rowM (bothM f k) (⟨#[111, 114]⟩ : ByteArray) 7 k s
def facT (f e : PS → Option (Int × PS)) (s : PS) : Option (Int × PS) :=
 (pAcc (⟨#[110, 111, 116]⟩ : ByteArray) s).bind fun a => if a.1 = true then (f a.2).bind fun b => pAdd ⟨5, 0, b.1, 0⟩ b.2 else
 (pAcc (⟨#[40]⟩ : ByteArray) a.2).bind fun a => if a.1 = true then (e a.2).bind fun b => (pAcc (⟨#[41]⟩ : ByteArray) b.2).bind fun c => if c.1 = true then some (b.1, c.2) else (pFail 1 c.2).bind fun d => some (b.1, d) else
 (pAcc (⟨#[115, 99, 111, 114, 101]⟩ : ByteArray) a.2).bind fun a => if a.1 = true then numM 1 a.2 else
 (pAcc (⟨#[117, 115, 101, 114]⟩ : ByteArray) a.2).bind fun a => if a.1 = true then numM 4 a.2 else
 (pAcc (⟨#[111, 119, 110, 101, 114, 115]⟩ : ByteArray) a.2).bind fun a => if a.1 = true then pAdd ⟨2, 0, 0, 0⟩ a.2 else
 (pAcc (⟨#[116, 101, 115, 116, 115]⟩ : ByteArray) a.2).bind fun a => if a.1 = true then pAdd ⟨3, 0, 0, 0⟩ a.2 else
 (pFail 1 a.2).bind fun d => some (0, d)
def fac : Nat → PS → Option (Int × PS)
 | 0, _ => none
 | k + 1, s => facT (fac k) (eithM (fac k) k) s
set_option maxHeartbeats 8000000 in
set_option maxRecDepth 100000 in
theorem rowAnd.calls (B g gw : Nat) (CW : Array Value) (op : PS → Option (Int × PS)) (hop : ∀ (w : World) (s s' : PS) (r : Int), Pst w B g gw CW s → op s = some (r, s') → Calls Tryd.prog 51 #[.pointer (some ⟨g, 0, none⟩)] w fun e w' => e = .returned (.int .i64 r) ∧ Pst w' B g gw CW s' ∧ Below B w w') (k : Nat) (s s' : PS) (r : Int) (w : World) (hp : Pst w B g gw CW s) (h : rowM op (⟨#[97, 110, 100]⟩ : ByteArray) 6 k s = some (r, s')) :
  Calls Tryd.prog 43 #[.pointer (some ⟨g, 0, none⟩), .string ⟨#[97, 110, 100]⟩, .int .i64 6, .func (.func 51) #[.pointer (some ⟨g, 0, none⟩)] #[]] w fun e w' => e = .returned (.int .i64 r) ∧ Pst w' B g gw CW s' ∧ Below B w w' := by
 have PV := Aside0.mk hp
 have HB := Aside0.mk (Below.refl B w)
 have HOP := Aside0.mk hop
 unfold rowM at h
 obtain ⟨⟨l0, s0⟩, ho, H⟩ := Option.bind_eq_some_iff.mp h
 have HO := Aside0.mk ho
 have H0 := Aside0.mk H
 clear h ho H hp hop
 go_enter Tryd.func43, Tryd.ntmps43
 go_wp2_with (first | (go_at_call 51; refine (HOP.out _ s s0 l0 PV.out HO.out).mono ?_; rintro e w4 ⟨rfl, hp_, hb⟩; have n0_ := Aside0.mk (HB.out.trans hb); have n1_ := Aside0.mk hp_; clear HB PV; have HB := n0_; have PV := n1_; clear n0_ n1_ hp_ hb) | fail)
 go_loopg [9] k (fun kq v9 w' => ∃ (l : Int) (s : PS), v9 = .int .i64 l ∧ Aside0 (rowL op (⟨#[97, 110, 100]⟩ : ByteArray) 6 kq l s = some (r, s')) ∧ Aside0 (Pst w' B g gw CW s) ∧ Aside0 (Below B w w'))
 case atStart => exact ⟨l0, s0, rfl, H0, PV, HB⟩
 case round =>
  clear H0 HO PV HB
  obtain ⟨l, s, rfl, HL, PV, HB⟩ := hrel
  cases gk with
  | zero => exact absurd HL.out (by simp [rowL])
  | succ kz =>
   have hl := HL.out
   unfold rowL at hl
   obtain ⟨⟨b, s1⟩, ha, hl⟩ := Option.bind_eq_some_iff.mp hl
   have HA := Aside0.mk ha
   clear ha HL
   cases b with
   | true =>
    rw [if_pos rfl] at hl
    obtain ⟨⟨r2, s2⟩, ho, hl⟩ := Option.bind_eq_some_iff.mp hl
    obtain ⟨⟨n3, s3⟩, hd, hl⟩ := Option.bind_eq_some_iff.mp hl
    have HO2 := Aside0.mk ho
    have HD := Aside0.mk hd
    have HL := Aside0.mk hl
    clear ho hd hl
    go_wp2_with (first | ((with_reducible refine qs_ (f := 50) rfl ?_); refine goesL_ (some 15) rfl rfl Tryd.func50 (by kernel_rfl) rfl #[.pointer (some ⟨g, 0, none⟩), .string ⟨#[97, 110, 100]⟩] rfl (by (try simp only [List.map_toArray, List.map_cons, List.map_nil]); first | done | rfl) ?_; refine (accept.calls B g gw CW (⟨#[97, 110, 100]⟩ : ByteArray) s s1 true _ PV.out HA.out).mono ?_; rintro e w4 ⟨rfl, hp_, hb⟩; refine ⟨_, rfl, ?_⟩; have n0_ := Aside0.mk (HB.out.trans hb); have n1_ := Aside0.mk hp_; clear HB PV; have HB := n0_; have PV := n1_; clear n0_ n1_ hp_ hb) | (go_at_call 51; refine (HOP.out _ s1 s2 r2 PV.out HO2.out).mono ?_; rintro e w4 ⟨rfl, hp_, hb⟩; have n0_ := Aside0.mk (HB.out.trans hb); have n1_ := Aside0.mk hp_; clear HB PV; have HB := n0_; have PV := n1_; clear n0_ n1_ hp_ hb) | ((with_reducible refine qs_ (f := 40) rfl ?_); refine goesL_ (some 23) rfl rfl Tryd.func40 (by kernel_rfl) rfl #[.pointer (some ⟨g, 0, none⟩), .agg #[.int .i64 6, .int .i64 0, .int .i64 l, .int .i64 r2]] rfl (by (try simp only [List.map_toArray, List.map_cons, List.map_nil]); first | done | rfl) ?_; refine (add.calls B g gw CW ⟨6, 0, l, r2⟩ s2 s3 n3 _ PV.out HD.out).mono ?_; rintro e w4 ⟨rfl, hp_, hb⟩; refine ⟨_, rfl, ?_⟩; have n0_ := Aside0.mk (HB.out.trans hb); have n1_ := Aside0.mk hp_; clear HB PV; have HB := n0_; have PV := n1_; clear n0_ n1_ hp_ hb) | fail)
    go_roundg kz
    case measure => omega
    case rel => exact ⟨n3, s3, rfl, HL, PV, HB⟩
   | false =>
    rw [if_neg (show ¬ (false = true) by decide)] at hl
    simp only [Option.some.injEq, Prod.mk.injEq] at hl
    obtain ⟨rfl, rfl⟩ := hl
    go_wp2_with (first | ((with_reducible refine qs_ (f := 50) rfl ?_); refine goesL_ (some 15) rfl rfl Tryd.func50 (by kernel_rfl) rfl #[.pointer (some ⟨g, 0, none⟩), .string ⟨#[97, 110, 100]⟩] rfl (by (try simp only [List.map_toArray, List.map_cons, List.map_nil]); first | done | rfl) ?_; refine (accept.calls B g gw CW (⟨#[97, 110, 100]⟩ : ByteArray) s s1 false _ PV.out HA.out).mono ?_; rintro e w4 ⟨rfl, hp_, hb⟩; refine ⟨_, rfl, ?_⟩; have n0_ := Aside0.mk (HB.out.trans hb); have n1_ := Aside0.mk hp_; clear HB PV; have HB := n0_; have PV := n1_; clear n0_ n1_ hp_ hb) | fail)
    go_ret
    exact ⟨rfl, PV.out, HB.out⟩
set_option maxHeartbeats 8000000 in
set_option maxRecDepth 100000 in
theorem rowOr.calls (B g gw : Nat) (CW : Array Value) (op : PS → Option (Int × PS)) (hop : ∀ (w : World) (s s' : PS) (r : Int), Pst w B g gw CW s → op s = some (r, s') → Calls Tryd.prog 44 #[.pointer (some ⟨g, 0, none⟩)] w fun e w' => e = .returned (.int .i64 r) ∧ Pst w' B g gw CW s' ∧ Below B w w') (k : Nat) (s s' : PS) (r : Int) (w : World) (hp : Pst w B g gw CW s) (h : rowM op (⟨#[111, 114]⟩ : ByteArray) 7 k s = some (r, s')) :
  Calls Tryd.prog 43 #[.pointer (some ⟨g, 0, none⟩), .string ⟨#[111, 114]⟩, .int .i64 7, .func (.func 44) #[.pointer (some ⟨g, 0, none⟩)] #[]] w fun e w' => e = .returned (.int .i64 r) ∧ Pst w' B g gw CW s' ∧ Below B w w' := by
 have PV := Aside0.mk hp
 have HB := Aside0.mk (Below.refl B w)
 have HOP := Aside0.mk hop
 unfold rowM at h
 obtain ⟨⟨l0, s0⟩, ho, H⟩ := Option.bind_eq_some_iff.mp h
 have HO := Aside0.mk ho
 have H0 := Aside0.mk H
 clear h ho H hp hop
 go_enter Tryd.func43, Tryd.ntmps43
 go_wp2_with (first | (go_at_call 44; refine (HOP.out _ s s0 l0 PV.out HO.out).mono ?_; rintro e w4 ⟨rfl, hp_, hb⟩; have n0_ := Aside0.mk (HB.out.trans hb); have n1_ := Aside0.mk hp_; clear HB PV; have HB := n0_; have PV := n1_; clear n0_ n1_ hp_ hb) | fail)
 go_loopg [9] k (fun kq v9 w' => ∃ (l : Int) (s : PS), v9 = .int .i64 l ∧ Aside0 (rowL op (⟨#[111, 114]⟩ : ByteArray) 7 kq l s = some (r, s')) ∧ Aside0 (Pst w' B g gw CW s) ∧ Aside0 (Below B w w'))
 case atStart => exact ⟨l0, s0, rfl, H0, PV, HB⟩
 case round =>
  clear H0 HO PV HB
  obtain ⟨l, s, rfl, HL, PV, HB⟩ := hrel
  cases gk with
  | zero => exact absurd HL.out (by simp [rowL])
  | succ kz =>
   have hl := HL.out
   unfold rowL at hl
   obtain ⟨⟨b, s1⟩, ha, hl⟩ := Option.bind_eq_some_iff.mp hl
   have HA := Aside0.mk ha
   clear ha HL
   cases b with
   | true =>
    rw [if_pos rfl] at hl
    obtain ⟨⟨r2, s2⟩, ho, hl⟩ := Option.bind_eq_some_iff.mp hl
    obtain ⟨⟨n3, s3⟩, hd, hl⟩ := Option.bind_eq_some_iff.mp hl
    have HO2 := Aside0.mk ho
    have HD := Aside0.mk hd
    have HL := Aside0.mk hl
    clear ho hd hl
    go_wp2_with (first | ((with_reducible refine qs_ (f := 50) rfl ?_); refine goesL_ (some 15) rfl rfl Tryd.func50 (by kernel_rfl) rfl #[.pointer (some ⟨g, 0, none⟩), .string ⟨#[111, 114]⟩] rfl (by (try simp only [List.map_toArray, List.map_cons, List.map_nil]); first | done | rfl) ?_; refine (accept.calls B g gw CW (⟨#[111, 114]⟩ : ByteArray) s s1 true _ PV.out HA.out).mono ?_; rintro e w4 ⟨rfl, hp_, hb⟩; refine ⟨_, rfl, ?_⟩; have n0_ := Aside0.mk (HB.out.trans hb); have n1_ := Aside0.mk hp_; clear HB PV; have HB := n0_; have PV := n1_; clear n0_ n1_ hp_ hb) | (go_at_call 44; refine (HOP.out _ s1 s2 r2 PV.out HO2.out).mono ?_; rintro e w4 ⟨rfl, hp_, hb⟩; have n0_ := Aside0.mk (HB.out.trans hb); have n1_ := Aside0.mk hp_; clear HB PV; have HB := n0_; have PV := n1_; clear n0_ n1_ hp_ hb) | ((with_reducible refine qs_ (f := 40) rfl ?_); refine goesL_ (some 23) rfl rfl Tryd.func40 (by kernel_rfl) rfl #[.pointer (some ⟨g, 0, none⟩), .agg #[.int .i64 7, .int .i64 0, .int .i64 l, .int .i64 r2]] rfl (by (try simp only [List.map_toArray, List.map_cons, List.map_nil]); first | done | rfl) ?_; refine (add.calls B g gw CW ⟨7, 0, l, r2⟩ s2 s3 n3 _ PV.out HD.out).mono ?_; rintro e w4 ⟨rfl, hp_, hb⟩; refine ⟨_, rfl, ?_⟩; have n0_ := Aside0.mk (HB.out.trans hb); have n1_ := Aside0.mk hp_; clear HB PV; have HB := n0_; have PV := n1_; clear n0_ n1_ hp_ hb) | fail)
    go_roundg kz
    case measure => omega
    case rel => exact ⟨n3, s3, rfl, HL, PV, HB⟩
   | false =>
    rw [if_neg (show ¬ (false = true) by decide)] at hl
    simp only [Option.some.injEq, Prod.mk.injEq] at hl
    obtain ⟨rfl, rfl⟩ := hl
    go_wp2_with (first | ((with_reducible refine qs_ (f := 50) rfl ?_); refine goesL_ (some 15) rfl rfl Tryd.func50 (by kernel_rfl) rfl #[.pointer (some ⟨g, 0, none⟩), .string ⟨#[111, 114]⟩] rfl (by (try simp only [List.map_toArray, List.map_cons, List.map_nil]); first | done | rfl) ?_; refine (accept.calls B g gw CW (⟨#[111, 114]⟩ : ByteArray) s s1 false _ PV.out HA.out).mono ?_; rintro e w4 ⟨rfl, hp_, hb⟩; refine ⟨_, rfl, ?_⟩; have n0_ := Aside0.mk (HB.out.trans hb); have n1_ := Aside0.mk hp_; clear HB PV; have HB := n0_; have PV := n1_; clear n0_ n1_ hp_ hb) | fail)
    go_ret
    exact ⟨rfl, PV.out, HB.out⟩
set_option maxHeartbeats 8000000 in
set_option maxRecDepth 100000 in
theorem both.calls (B g gw : Nat) (CW : Array Value) (f : PS → Option (Int × PS)) (hop : ∀ (w : World) (s s' : PS) (r : Int), Pst w B g gw CW s → f s = some (r, s') → Calls Tryd.prog 51 #[.pointer (some ⟨g, 0, none⟩)] w fun e w' => e = .returned (.int .i64 r) ∧ Pst w' B g gw CW s' ∧ Below B w w') (k : Nat) (s s' : PS) (r : Int) (w : World) (hp : Pst w B g gw CW s) (h : rowM f (⟨#[97, 110, 100]⟩ : ByteArray) 6 k s = some (r, s')) :
  Calls Tryd.prog 44 #[.pointer (some ⟨g, 0, none⟩)] w fun e w' => e = .returned (.int .i64 r) ∧ Pst w' B g gw CW s' ∧ Below B w w' := by
 have PV := Aside0.mk hp
 have HB := Aside0.mk (Below.refl B w)
 have HOP := Aside0.mk hop
 have HH := Aside0.mk h
 clear h hp hop
 go_enter Tryd.func44, Tryd.ntmps44
 go_wp2_with (first | ((with_reducible refine qs_ (f := 43) rfl ?_); refine goesL_ (some 6) rfl rfl Tryd.func43 (by kernel_rfl) rfl #[.pointer (some ⟨g, 0, none⟩), .string ⟨#[97, 110, 100]⟩, .int .i64 6, .func (.func 51) #[.pointer (some ⟨g, 0, none⟩)] #[]] rfl (by (try simp only [List.map_toArray, List.map_cons, List.map_nil]); first | done | rfl) ?_; refine (rowAnd.calls B g gw CW f HOP.out k s s' r _ PV.out HH.out).mono ?_; rintro e w4 ⟨rfl, hp_, hb⟩; refine ⟨_, rfl, ?_⟩; have n0_ := Aside0.mk (HB.out.trans hb); have n1_ := Aside0.mk hp_; clear HB PV; have HB := n0_; have PV := n1_; clear n0_ n1_ hp_ hb) | fail)
 go_ret
 exact ⟨rfl, PV.out, HB.out⟩
set_option maxHeartbeats 8000000 in
set_option maxRecDepth 100000 in
theorem either.calls (B g gw : Nat) (CW : Array Value) (f : PS → Option (Int × PS)) (hop : ∀ (w : World) (s s' : PS) (r : Int), Pst w B g gw CW s → f s = some (r, s') → Calls Tryd.prog 44 #[.pointer (some ⟨g, 0, none⟩)] w fun e w' => e = .returned (.int .i64 r) ∧ Pst w' B g gw CW s' ∧ Below B w w') (k : Nat) (s s' : PS) (r : Int) (w : World) (hp : Pst w B g gw CW s) (h : rowM f (⟨#[111, 114]⟩ : ByteArray) 7 k s = some (r, s')) :
  Calls Tryd.prog 31 #[.pointer (some ⟨g, 0, none⟩)] w fun e w' => e = .returned (.int .i64 r) ∧ Pst w' B g gw CW s' ∧ Below B w w' := by
 have PV := Aside0.mk hp
 have HB := Aside0.mk (Below.refl B w)
 have HOP := Aside0.mk hop
 have HH := Aside0.mk h
 clear h hp hop
 go_enter Tryd.func31, Tryd.ntmps31
 go_wp2_with (first | ((with_reducible refine qs_ (f := 43) rfl ?_); refine goesL_ (some 6) rfl rfl Tryd.func43 (by kernel_rfl) rfl #[.pointer (some ⟨g, 0, none⟩), .string ⟨#[111, 114]⟩, .int .i64 7, .func (.func 44) #[.pointer (some ⟨g, 0, none⟩)] #[]] rfl (by (try simp only [List.map_toArray, List.map_cons, List.map_nil]); first | done | rfl) ?_; refine (rowOr.calls B g gw CW f HOP.out k s s' r _ PV.out HH.out).mono ?_; rintro e w4 ⟨rfl, hp_, hb⟩; refine ⟨_, rfl, ?_⟩; have n0_ := Aside0.mk (HB.out.trans hb); have n1_ := Aside0.mk hp_; clear HB PV; have HB := n0_; have PV := n1_; clear n0_ n1_ hp_ hb) | fail)
 go_ret
 exact ⟨rfl, PV.out, HB.out⟩
theorem bytes_below {w w4 : World} (h : w4 = w ∨ ∃ t, w4 = Lib.bytesWorld w 5 t) : Below w.heap.size w w4 := by
 rcases h with rfl | ⟨t, rfl⟩
 ·exact Below.refl _ _
 ·exact Lib.bytesWorld_below _ _ _
theorem hi_eq (kind : Int) : policy_highest.f kind = some (hiM kind) := by
 unfold policy_highest.f hiM
 by_cases h1 : kind = 1
 ·simp [h1]
 ·by_cases h4 : kind = 4
  ·simp [h4]
  ·simp [h1, h4]
set_option maxHeartbeats 8000000 in
set_option maxRecDepth 100000 in
theorem number.calls (B g gw : Nat) (CW : Array Value) (kind : Int) (s s' : PS) (r : Int) (w : World) (hp : Pst w B g gw CW s) (h : numM kind s = some (r, s')) :
  Calls Tryd.prog 60 #[.pointer (some ⟨g, 0, none⟩), .int .i64 kind] w fun e w' => e = .returned (.int .i64 r) ∧ Pst w' B g gw CW s' ∧ Below B w w' := by
 have hu56 := Tryd.underlying56
 have hu67 := Tryd.underlying67
 have hu28 := Tryd.underlying28
 have hu47 := Tryd.underlying47
 obtain ⟨ws, ns, fc, fi⟩ := s
 obtain ⟨o, cw, vn, hpv⟩ := hp
 replace hpv : Pv w B g gw o cw CW vn ws ns fc fi := hpv
 obtain ⟨An, cn, rfl⟩ := hpv.nodes
 have RV := Aside0.mk hpv
 have HB := Aside0.mk (Below.refl B w)
 have xg0 := (qm_ hpv.blk 0).trans rfl
 have xg1 := (qm_ hpv.blk 1).trans rfl
 have xg2 := (qm_ hpv.blk 2).trans rfl
 have xg3 := (qm_ hpv.blk 3).trans rfl
 have zg0 := blk_frozen hpv.blk 0
 have zg1 := blk_frozen hpv.blk 1
 have zg2 := blk_frozen hpv.blk 2
 have zg3 := blk_frozen hpv.blk 3
 unfold numM at h
 dsimp only at h
 cases ws with
 | nil => cases h
 | cons x tl =>
   have yw0 : w.cell? ⟨gw, o, none⟩ = some (.string x.1) := (qm_ hpv.wb o).trans (hpv.wl 0 x rfl).1
   have yw1 : w.cell? ⟨gw, o + 1, none⟩ = some (.int .i64 x.2) := (qm_ hpv.wb (o + 1)).trans (hpv.wl 0 x rfl).2
   clear hpv
   dsimp only at h
   split at h
   case h_2 => cases h
   case h_1 v hv =>
    by_cases q : 0 ≤ v ∧ v < 100 ∧ x.1.size ≤ 1000
    ·rw [if_pos q] at h
     obtain ⟨q1, q2, q3⟩ := q
     have hl1 : (0 : Int) < ((tl.length + 1 : Nat) : Int) := by omega
     have hvn : ((v.toNat : Nat) : Int) = v := by omega
     have HIT := Aside0.mk (hvn ▸ (Tryd.strconv_Itoa_small v.toNat (by omega)))
     have HAT := Aside0.mk (Tryd.strconv_Atoi_ok x.1 (by omega) v hv)
     have PV : Aside0 (Pst w B g gw CW ⟨x :: tl, ns, fc, fi⟩) := ⟨⟨o, cw, _, RV.out⟩⟩
     have hvl : ¬ v < 0 := by omega
     have hvd : decide (v < 0) = false := decide_eq_false hvl
     clear hv hvn q2 q3
     by_cases q4 : Lib.decDigits v.toNat = x.1.toList
     ·rw [if_pos q4] at h
      have q4b : (Lib.decDigits v.toNat != x.1.toList) = false := bne_eq_false_iff_eq.mpr q4
      have q4c : (Lib.decDigits v.toNat == x.1.toList) = true := beq_iff_eq.mpr q4
      obtain ⟨H_, hH_⟩ : ∃ H_, hiM kind = H_ := ⟨_, rfl⟩
      have HHI : Aside0 (policy_highest.f kind = some H_) := ⟨by rw [hi_eq, hH_]⟩
      rw [hH_] at h
      clear hH_
      by_cases q5 : v > H_
      ·rw [if_pos q5] at h
       obtain ⟨s1, hf, hd⟩ := Option.bind_eq_some_iff.mp h
       have HF := Aside0.mk hf
       have HD := Aside0.mk hd
       have q5a : decide (v > H_) = true := decide_eq_true q5
       have q5b : decide (H_ < v) = true := decide_eq_true q5
       clear hf hd h
       go_enter Tryd.func60, Tryd.ntmps60
       go_wp2_with (first | ((with_reducible refine qs_ (f := 67) rfl ?_); refine goesL_ (some 17) rfl rfl Tryd.func67 (by kernel_rfl) rfl #[.string x.1] rfl (by (try simp only [List.map_toArray, List.map_cons, List.map_nil]); first | done | rfl) ?_; refine (HAT.out _).mono ?_; rintro e w4 ⟨rfl, hb_⟩; refine ⟨_, rfl, ?_⟩; have hb := bytes_below hb_; clear hb_; have n0_ := Aside0.mk (below_low HB.out (Pst.size PV.out) hb); have n1_ := Aside0.mk (Pst.below PV.out hb); clear HB PV; have HB := n0_; have PV := n1_; clear n0_ n1_ hb) | (go_at_call 25; refine (HIT.out _).mono ?_; rintro e w4 ⟨rfl, rfl⟩; skip) | (go_at_call 41; refine (policy_highest.calls kind _ _ HHI.out).mono ?_; rintro e w4 ⟨rfl, hd_⟩; have hb := hd_.below; clear hd_; have n0_ := Aside0.mk (below_low HB.out (Pst.size PV.out) hb); have n1_ := Aside0.mk (Pst.below PV.out hb); clear HB PV; have HB := n0_; have PV := n1_; clear n0_ n1_ hb) | ((with_reducible refine qs_ (f := 32) rfl ?_); refine goesL_ (some 49) rfl rfl Tryd.func32 (by kernel_rfl) rfl #[.pointer (some ⟨g, 0, none⟩), .int .i64 3] rfl (by (try simp only [List.map_toArray, List.map_cons, List.map_nil]); first | done | rfl) ?_; refine (fail.calls B g gw CW 3 _ s1 _ PV.out HF.out).mono ?_; rintro e w4 ⟨rfl, hp_, hb⟩; refine ⟨_, rfl, ?_⟩; have n0_ := Aside0.mk (HB.out.trans hb); have n1_ := Aside0.mk hp_; clear HB PV; have HB := n0_; have PV := n1_; clear n0_ n1_ hp_ hb) | ((with_reducible refine qs_ (f := 40) rfl ?_); refine goesL_ (some 54) rfl rfl Tryd.func40 (by kernel_rfl) rfl #[.pointer (some ⟨g, 0, none⟩), .agg #[.int .i64 kind, .int .i64 v, .int .i64 0, .int .i64 0]] rfl (by (try simp only [List.map_toArray, List.map_cons, List.map_nil]); first | done | rfl) ?_; refine (add.calls B g gw CW ⟨kind, v, 0, 0⟩ s1 s' r _ PV.out HD.out).mono ?_; rintro e w4 ⟨rfl, hp_, hb⟩; refine ⟨_, rfl, ?_⟩; have n0_ := Aside0.mk (HB.out.trans hb); have n1_ := Aside0.mk hp_; clear HB PV; have HB := n0_; have PV := n1_; clear n0_ n1_ hp_ hb) | fail)
       go_ret
       exact ⟨rfl, PV.out, HB.out⟩
      ·rw [if_neg q5] at h
       obtain ⟨s1, hf, hd⟩ := Option.bind_eq_some_iff.mp h
       have q5a : decide (v > H_) = false := decide_eq_false q5
       have q5b : decide (H_ < v) = false := decide_eq_false q5
       unfold dropW at hf
       dsimp only at hf
       cases tl with
       | nil => cases hf
       | cons y tl' =>
        obtain rfl := Option.some.inj hf
        have HD := Aside0.mk hd
        have hcw := RV.out.wc
        rw [List.length_cons, List.length_cons] at hcw
        have hc1 : ¬ cw = 1 := by omega
        have hc2 : ¬ (cw : Int) = 1 := by omega
        have hl2 : (1 : Int) ≤ ((tl'.length + 1 + 1 : Nat) : Int) := by omega
        clear hf hd h
        go_enter Tryd.func60, Tryd.ntmps60
        go_upto_region 3 with (first | ((with_reducible refine qs_ (f := 67) rfl ?_); refine goesL_ (some 17) rfl rfl Tryd.func67 (by kernel_rfl) rfl #[.string x.1] rfl (by (try simp only [List.map_toArray, List.map_cons, List.map_nil]); first | done | rfl) ?_; refine (HAT.out _).mono ?_; rintro e w4 ⟨rfl, hb_⟩; refine ⟨_, rfl, ?_⟩; have hb := bytes_below hb_; clear hb_; have n0_ := Aside0.mk (below_low HB.out (Pv.size RV.out) hb); have n1_ := Aside0.mk (Pv.below RV.out hb); clear HB RV; have HB := n0_; have RV := n1_; clear n0_ n1_ hb) | (go_at_call 25; refine (HIT.out _).mono ?_; rintro e w4 ⟨rfl, rfl⟩; skip) | (go_at_call 41; refine (policy_highest.calls kind _ _ HHI.out).mono ?_; rintro e w4 ⟨rfl, hd_⟩; have hb := hd_.below; clear hd_; have n0_ := Aside0.mk (below_low HB.out (Pv.size RV.out) hb); have n1_ := Aside0.mk (Pv.below RV.out hb); clear HB RV; have HB := n0_; have RV := n1_; clear n0_ n1_ hb) | fail)
        have xg0 := (qm_ RV.out.blk 0).trans rfl
        have zg0 := blk_frozen RV.out.blk 0
        go_wp2_with (first | ((with_reducible refine qs_ (f := 40) rfl ?_); refine goesL_ (some 54) rfl rfl Tryd.func40 (by kernel_rfl) rfl #[.pointer (some ⟨g, 0, none⟩), .agg #[.int .i64 kind, .int .i64 v, .int .i64 0, .int .i64 0]] rfl (by (try simp only [List.map_toArray, List.map_cons, List.map_nil]); first | done | rfl) ?_; refine (add.calls B g gw CW ⟨kind, v, 0, 0⟩ _ s' r _ (⟨o + 2, cw - 1, _, Pv.put_words RV.out⟩ : Pst _ B g gw CW ⟨y :: tl', ns, fc, fi⟩) HD.out).mono ?_; rintro e w4 ⟨rfl, hp_, hb⟩; refine ⟨_, rfl, ?_⟩; have n0_ := Aside0.mk ((below_put HB.out RV.out.ge 0 _).trans hb); have n1_ := Aside0.mk hp_; clear HB PV; have HB := n0_; have PV := n1_; clear n0_ n1_ hp_ hb) | fail)
        go_ret
        exact ⟨rfl, PV.out, HB.out⟩
     ·rw [if_neg q4] at h
      have q4b : (Lib.decDigits v.toNat != x.1.toList) = true := bne_iff_ne.mpr q4
      have q4c : (Lib.decDigits v.toNat == x.1.toList) = false := beq_eq_false_iff_ne.mpr q4
      obtain ⟨s1, hf, hd⟩ := Option.bind_eq_some_iff.mp h
      have HF := Aside0.mk hf
      have HD := Aside0.mk hd
      clear hf hd h
      go_enter Tryd.func60, Tryd.ntmps60
      go_wp2_with (first | ((with_reducible refine qs_ (f := 67) rfl ?_); refine goesL_ (some 17) rfl rfl Tryd.func67 (by kernel_rfl) rfl #[.string x.1] rfl (by (try simp only [List.map_toArray, List.map_cons, List.map_nil]); first | done | rfl) ?_; refine (HAT.out _).mono ?_; rintro e w4 ⟨rfl, hb_⟩; refine ⟨_, rfl, ?_⟩; have hb := bytes_below hb_; clear hb_; have n0_ := Aside0.mk (below_low HB.out (Pst.size PV.out) hb); have n1_ := Aside0.mk (Pst.below PV.out hb); clear HB PV; have HB := n0_; have PV := n1_; clear n0_ n1_ hb) | (go_at_call 25; refine (HIT.out _).mono ?_; rintro e w4 ⟨rfl, rfl⟩; skip) | ((with_reducible refine qs_ (f := 32) rfl ?_); refine goesL_ (some 38) rfl rfl Tryd.func32 (by kernel_rfl) rfl #[.pointer (some ⟨g, 0, none⟩), .int .i64 1] rfl (by (try simp only [List.map_toArray, List.map_cons, List.map_nil]); first | done | rfl) ?_; refine (fail.calls B g gw CW 1 _ s1 _ PV.out HF.out).mono ?_; rintro e w4 ⟨rfl, hp_, hb⟩; refine ⟨_, rfl, ?_⟩; have n0_ := Aside0.mk (HB.out.trans hb); have n1_ := Aside0.mk hp_; clear HB PV; have HB := n0_; have PV := n1_; clear n0_ n1_ hp_ hb) | ((with_reducible refine qs_ (f := 40) rfl ?_); refine goesL_ (some 54) rfl rfl Tryd.func40 (by kernel_rfl) rfl #[.pointer (some ⟨g, 0, none⟩), .agg #[.int .i64 kind, .int .i64 v, .int .i64 0, .int .i64 0]] rfl (by (try simp only [List.map_toArray, List.map_cons, List.map_nil]); first | done | rfl) ?_; refine (add.calls B g gw CW ⟨kind, v, 0, 0⟩ s1 s' r _ PV.out HD.out).mono ?_; rintro e w4 ⟨rfl, hp_, hb⟩; refine ⟨_, rfl, ?_⟩; have n0_ := Aside0.mk (HB.out.trans hb); have n1_ := Aside0.mk hp_; clear HB PV; have HB := n0_; have PV := n1_; clear n0_ n1_ hp_ hb) | fail)
      go_ret
      exact ⟨rfl, PV.out, HB.out⟩
    ·rw [if_neg q] at h
     cases h
end Go.Proofs.YtblkkhddefnkpaaDoor.PPo
