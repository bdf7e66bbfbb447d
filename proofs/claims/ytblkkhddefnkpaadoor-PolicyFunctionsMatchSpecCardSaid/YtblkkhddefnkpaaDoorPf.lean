/- Format. By hand. -/
import Derived.Test.YtblkkhddefnkpaaDoorPp
import Derived.Test.YtblkkhddefnkpaaDoorPPox5
import Derived.Laws.CopyOwn
namespace Go.Proofs.YtblkkhddefnkpaaDoor.PPo
open Go.RowKit Go.Proofs.YtblkkhddefnkpaaDoorW.PrintWords Go.Proofs.YtblkkhddefnkpaaDoorW.PrintLast Go.Proofs.YtblkkhddefnkpaaDoorW.PrintMore
attribute [local go_sem] max2_int min2_int max_two min_two max_three min_three max_four min_four
attribute [local go_sem] World.cell?_alloc_some
attribute [local go_sem high] eqA28
set_option linter.unusedVariables false
set_option linter.unusedSimpArgs false


theorem infoS : (Tryd.prog.info? 9).map (fun i => (i.zero, i.size, i.bytes)) = some (some (.string ByteArray.empty), 1, 16) := by kernel_rfl
/-- An operand's text, in parentheses if it binds less tightly than the operator. -/
def opM (l : List S47) (ts : List ByteArray) (i loosest : Int) : Option ByteArray := if 0 ≤ i ∧ i < (l.length : Int) ∧ i < (ts.length : Int) ∧ (ts.getD i.toNat ⟨#[]⟩).size ≤ 100000 then
  some (if (qj_ l i).f0 > loosest then (⟨#[40]⟩ : ByteArray) ++ ts.getD i.toNat ⟨#[]⟩ ++ ⟨#[41]⟩ else ts.getD i.toNat ⟨#[]⟩) else none
def itM (n : Int) : Option ByteArray := if 0 ≤ n ∧ n < 100 ∧ (⟨(Lib.decDigits n.toNat).toArray⟩ : ByteArray).size ≤ 1000 then some ⟨(Lib.decDigits n.toNat).toArray⟩ else none
def nodeText (l : List S47) (n : S47) (ts : List ByteArray) : Option ByteArray :=
 if n.f0 = 1 then (itM n.f1).bind fun s => some ((⟨#[115, 99, 111, 114, 101, 32]⟩ : ByteArray) ++ s)
 else if n.f0 = 2 then some (⟨#[111, 119, 110, 101, 114, 115]⟩ : ByteArray)
 else if n.f0 = 3 then some (⟨#[116, 101, 115, 116, 115]⟩ : ByteArray)
 else if n.f0 = 4 then (itM n.f1).bind fun s => some ((⟨#[117, 115, 101, 114, 32]⟩ : ByteArray) ++ s)
 else if n.f0 = 5 then (opM l ts n.f2 5).bind fun s => some ((⟨#[110, 111, 116, 32]⟩ : ByteArray) ++ s)
 else if n.f0 = 6 then (opM l ts n.f2 6).bind fun s => (opM l ts n.f3 5).bind fun t => some (s ++ (⟨#[32, 97, 110, 100, 32]⟩ : ByteArray) ++ t)
 else (opM l ts n.f2 7).bind fun s => (opM l ts n.f3 6).bind fun t => some (s ++ (⟨#[32, 111, 114, 32]⟩ : ByteArray) ++ t)
def fmtL (l : List S47) : List S47 → List ByteArray → Option (List ByteArray)
 | [], ts => some ts
 | n :: rest, ts => (nodeText l n ts).bind fun s => fmtL l rest (ts ++ [s])
def policy_Format.f (k : Nat) (l0_0 : List S47) : Option (ByteArray × Int × Int) := (qw_.f k l0_0).bind fun v => if v.1 = 0 ∧ v.2 = 0 then
  (if l0_0.length ≤ 1000 then (fmtL l0_0 l0_0 []).bind fun ts => (if 0 < ts.length then (if ((ts.getD (ts.length - 1) ⟨#[]⟩).size : Int) > 200 then some (⟨#[]⟩, 10, -1) else some (ts.getD (ts.length - 1) ⟨#[]⟩, 0, 0)) else none) else none)
 else some (⟨#[]⟩, v.1, v.2)
theorem policy_Format.mono : ∀ a0 k, LeO (policy_Format.f k a0) (policy_Format.f (k + 1) a0) := by
 intro a0 k
 unfold policy_Format.f
 exact LeO.bind (qw_.mono _ _) (fun _ => LeO.refl _)
theorem cat_ (a b : ByteArray) (h : a.size + b.size ≤ 9223372036854775807) : ∀ W, (Op.stringOp .add a b).run Tryd.prog W = .ok (.string (a ++ b)) W := fun W => run_string_add_sum W a b h
theorem opM_size {l : List S47} {ts : List ByteArray} {i lo : Int} {r : ByteArray} (h : opM l ts i lo = some r) : r.size ≤ 100100 := by
 unfold opM at h
 by_cases q : 0 ≤ i ∧ i < (l.length : Int) ∧ i < (ts.length : Int) ∧ (ts.getD i.toNat ⟨#[]⟩).size ≤ 100000
 ·rw [if_pos q] at h
  obtain rfl := Option.some.inj h
  by_cases c : (qj_ l i).f0 > lo
  ·rw [if_pos c, ByteArray.size_append, ByteArray.size_append]
   have h1 : (⟨#[40]⟩ : ByteArray).size = 1 := rfl
   have h2 : (⟨#[41]⟩ : ByteArray).size = 1 := rfl
   omega
  ·rw [if_neg c]
   omega
 ·rw [if_neg q] at h
  cases h
set_option maxHeartbeats 8000000 in
set_option maxRecDepth 100000 in
theorem op24.calls (B : Nat) (g1 g5 : Nat) (A : Option Addr) (c : Nat) (l : List S47) (vt : Value) (ts : List ByteArray) (i loosest : Int) (r : ByteArray) (w : World) (h1 : w.heap[g1]? = some (.cells #[.slice A l.length c] 24 (0, 0))) (hl : Kd.C k47 w A l.length l) (h5 : w.heap[g5]? = some (.cells #[vt] 50 (0, 0))) (ht : Kd.R Kd.string 9 w B (fun _ => True) vt ts) (h : opM l ts i loosest = some r) :
  Calls Tryd.prog 24 #[.int .i64 i, .int .i64 loosest, .pointer (some ⟨g1, 0, none⟩), .pointer (some ⟨g5, 0, none⟩)] w fun e w' => e = .returned (.string r) ∧ w' = w := by
 have hu24 := Tryd.underlying24
 have hu47 := Tryd.underlying47
 unfold opM at h
 by_cases q : 0 ≤ i ∧ i < (l.length : Int) ∧ i < (ts.length : Int) ∧ (ts.getD i.toNat ⟨#[]⟩).size ≤ 100000
 ·rw [if_pos q] at h
  obtain ⟨q0, q1, q2, q3⟩ := q
  have h := Option.some.inj h
  obtain ⟨ad, hA, y0, _, _, _⟩ := at_T47 hl i q0 q1
  subst hA
  obtain ⟨At, ct, rfl⟩ := Kd.R_slice ht
  obtain ⟨_, hct, hC⟩ := Kd.R_reads' ht
  obtain ⟨ae, c_, hA2, _, hK_, hc_⟩ := Kd.C_get hC ⟨#[]⟩ i q0 q2
  subst hA2
  have hK2 : c_ = [Value.string (ts.getD i.toNat ⟨#[]⟩)] := hK_
  subst hK2
  have y4 : w.cell? (ae.add i.toNat) = some (.string (ts.getD i.toNat ⟨#[]⟩)) := by
   have h_ := hc_ 0 _ rfl
   have e_ : i.toNat * Kd.string.sz + 0 = i.toNat := Nat.mul_one _
   rw [e_] at h_
   exact h_
  obtain ⟨t, ht_⟩ : ∃ t, ts.getD i.toNat ⟨#[]⟩ = t := ⟨_, rfl⟩
  rw [ht_] at h y4 q3
  have x1_0 := (qm_ h1 0).trans rfl
  have x5_0 := (qm_ h5 0).trans rfl
  have hi1 : i.toNat < l.length := by omega
  have hi2 : i.toNat < ts.length := by omega
  clear hc_ hK_ hC ht hl
  by_cases c1 : (qj_ l i).f0 > loosest
  ·rw [if_pos c1] at h
   subst h
   have c1b : decide ((qj_ l i).f0 > loosest) = true := decide_eq_true c1
   have c1c : decide (loosest < (qj_ l i).f0) = true := decide_eq_true c1
   have hcat1 := cat_ (⟨#[40]⟩ : ByteArray) t (Nat.le_trans (Nat.add_le_add (show (⟨#[40]⟩ : ByteArray).size ≤ 100 by decide) q3) (by decide))
   have hcat2 := cat_ ((⟨#[40]⟩ : ByteArray) ++ t) (⟨#[41]⟩ : ByteArray) (Nat.le_trans (Nat.add_le_add (show ((⟨#[40]⟩ : ByteArray) ++ t).size ≤ 200000 from by rw [ByteArray.size_append]; exact Nat.le_trans (Nat.add_le_add (show (⟨#[40]⟩ : ByteArray).size ≤ 100 by decide) q3) (by decide)) (show (⟨#[41]⟩ : ByteArray).size ≤ 100 by decide)) (by decide))
   go_enter Tryd.func24, Tryd.ntmps24
   go_wp2_with fail
   go_ret
   exact ⟨by first | rfl | simp, rfl⟩
  ·rw [if_neg c1] at h
   subst h
   have c1b : decide ((qj_ l i).f0 > loosest) = false := decide_eq_false c1
   have c1c : decide (loosest < (qj_ l i).f0) = false := decide_eq_false c1
   go_enter Tryd.func24, Tryd.ntmps24
   go_wp2_with fail
   go_ret
   exact ⟨by first | rfl | simp, rfl⟩
 ·rw [if_neg q] at h
  cases h
theorem at_mid47 (done : List S47) (e : S47) (es : List S47) : qj_ (done ++ e :: es) (done.length : Int) = e := by simp [qj_, List.getD_eq_getElem?_getD]
theorem heap47f : Kd.Heap k47 := Kd.heap_iso _ (Kd.heap_pair (Kd.heap_int _) (Kd.heap_pair (Kd.heap_int _) (Kd.heap_pair (Kd.heap_int _) (Kd.heap_int _))))
theorem results_tc {P : Program} {fn : Func} {p u : Tmp} {ty : TypeId} (h : fn.results = #[.tmp u, .cell p ty]) (tmps : Array Value) (w : World) (g : Nat) (t : TypeId) (cs : Array Value) (fr : Nat × Nat) (d : TypeDesc)
  (hp : tmps.getD p undef = .pointer (some ⟨g, 0, none⟩)) (hg : w.heap[g]? = some (.cells cs t fr))
  (hu : P.underlying ty = some d) (hd : (match d with | .struct _ | .array _ _ => true | _ => false) = true) (hi : (P.info? ty).map (·.size) = some cs.size) :
  (results fn tmps).run P w = .ok (.tuple #[tmps.getD u undef, .agg cs]) w := by
 have h1 : tmps[p]?.getD undef = .pointer (some ⟨g, 0, none⟩) := by simpa using hp
 simp [results, h, h1, asAddr, run_loadVar_row w g t ty cs fr d hg hu hd hi]
set_option maxHeartbeats 8000000 in
set_option maxRecDepth 100000 in
theorem policy_Format.calls (k : Nat) (A0_0 : Option Addr) (c0_0 : Nat) (l0_0 : List (S47)) (r1 : ByteArray) (r2 : Int) (r3 : Int) (w : World) (hr0_0 : Kd.C k47 w A0_0 l0_0.length l0_0) (hc0_0 : l0_0.length ≤ c0_0) (h : policy_Format.f k l0_0 = some (r1, r2, r3)) :
  Calls Tryd.prog 9 #[.agg #[.slice A0_0 l0_0.length c0_0]] w fun e w' => e = .returned (.tuple #[.string r1, .agg #[.int .i64 r2, .int .i64 r3]]) ∧ Below w.heap.size w w' := by
 have hu24 := Tryd.underlying24
 have hu28 := Tryd.underlying28
 have hu47 := Tryd.underlying47
 have HB := Aside0.mk (Below.refl w.heap.size w)
 have HR0 := Aside0.mk hr0_0
 have HC0 := Aside0.mk hc0_0
 clear hr0_0 hc0_0
 unfold policy_Format.f at h
 replace h := Option.bind_eq_some_iff.mp h
 obtain ⟨⟨v1, v2⟩, hv, h⟩ := h
 have HV := Aside0.mk hv
 clear hv
 by_cases c2 : v1 = 0 ∧ v2 = 0
 ·rw [if_pos c2] at h
  obtain ⟨c3, c4⟩ := c2
  subst c3
  subst c4
  by_cases cl : l0_0.length ≤ 1000
  ·rw [if_pos cl] at h
   have HLE := Aside0.mk cl
   replace h := Option.bind_eq_some_iff.mp h
   obtain ⟨tf, hf, h⟩ := h
   have HF := Aside0.mk hf
   have HFIN := Aside0.mk h
   clear hf h cl
   go_enter Tryd.func9, Tryd.ntmps9
   go_wp2_with (first | ((with_reducible refine gate_dst (N := 1) rfl ?_); refine qE_ ?hg (N := 1) ?hd (cs := #[.slice A0_0 l0_0.length c0_0]) (t := 24) ?hr ?_; (case hd => rfl); (case hg => rfl); (case hr => first | kernel_rfl | (go_simp; done) | (go_simp; rfl)); intro g1 hg wn1 hbox hb; have GE1 : Aside0 (w.heap.size ≤ g1) := Aside0.mk (by rw [hg]; exact HB.out.size); have n0_ := Aside0.mk (qq_ HB.out hb); have BK1 := Aside0.mk hbox; clear HB; have HB := n0_; clear n0_ hbox hb hg; (try clear x1_0); have x1_0 := (qm_ BK1.out 0).trans rfl) | ((with_reducible refine gate_dst (N := 3) rfl ?_); refine qE_ ?hg (N := 3) ?hd (cs := #[.int .i64 0, .int .i64 0]) (t := 28) ?hr ?_; (case hd => rfl); (case hg => rfl); (case hr => first | kernel_rfl | (go_simp; done) | (go_simp; rfl)); intro g3 hg wn3 hbox hb; have GE3 : Aside0 (w.heap.size ≤ g3) := Aside0.mk (by rw [hg]; exact HB.out.size); have NE3_1 : Aside0 (g3 ≠ g1) := Aside0.mk (by rw [hg]; exact Nat.ne_of_gt (qB_ BK1.out)); have n1_ := Aside0.mk (qy_ BK1.out hb); have n0_ := Aside0.mk (qq_ HB.out hb); have BK3 := Aside0.mk hbox; clear BK1; have BK1 := n1_; clear n1_; clear HB; have HB := n0_; clear n0_ hbox hb hg; (try clear x1_0); have x1_0 := (qm_ BK1.out 0).trans rfl) | ((with_reducible refine qs_ (f := 13) rfl ?_); refine goesL_ (some 12) rfl rfl Tryd.func13 (by kernel_rfl) rfl #[.agg #[.slice A0_0 l0_0.length c0_0]] rfl (by (try simp only [List.map_toArray, List.map_cons, List.map_nil]); first | done | rfl) ?_; refine (qw_.calls k A0_0 c0_0 l0_0 _ _ _ (Kd.C_below HR0.out HB.out) HC0.out HV.out).mono ?_; rintro e w4 ⟨rfl, hb⟩; refine ⟨_, rfl, ?_⟩; have n1_ := Aside0.mk (qy_ BK1.out hb); have n3_ := Aside0.mk (qy_ BK3.out hb); have n0_ := Aside0.mk (qq_ HB.out hb); clear BK1; have BK1 := n1_; clear n1_; clear BK3; have BK3 := n3_; clear n3_; clear HB; have HB := n0_; clear n0_ hb; (try clear x1_0); have x1_0 := (qm_ BK1.out 0).trans rfl; (try clear x3_0); have x3_0 := (qm_ BK3.out 0).trans rfl; (try clear x3_1); have x3_1 := (qm_ BK3.out 1).trans rfl) | ((with_reducible refine gate_dst (N := 4) rfl ?_); refine qE_ ?hg (N := 4) ?hd (cs := #[.int .i64 0, .int .i64 0]) (t := 28) ?hr ?_; (case hd => rfl); (case hg => rfl); (case hr => first | kernel_rfl | (go_simp; done) | (go_simp; rfl)); intro g4 hg wn4 hbox hb; have GE4 : Aside0 (w.heap.size ≤ g4) := Aside0.mk (by rw [hg]; exact HB.out.size); have NE4_1 : Aside0 (g4 ≠ g1) := Aside0.mk (by rw [hg]; exact Nat.ne_of_gt (qB_ BK1.out)); have NE4_3 : Aside0 (g4 ≠ g3) := Aside0.mk (by rw [hg]; exact Nat.ne_of_gt (qB_ BK3.out)); have n1_ := Aside0.mk (qy_ BK1.out hb); have n3_ := Aside0.mk (qy_ BK3.out hb); have n0_ := Aside0.mk (qq_ HB.out hb); have BK4 := Aside0.mk hbox; clear BK1; have BK1 := n1_; clear n1_; clear BK3; have BK3 := n3_; clear n3_; clear HB; have HB := n0_; clear n0_ hbox hb hg) | ((with_reducible refine gate_storeV (ty := 28) (x := .tmp 4) (y := .tmp 12) rfl ?_); refine store_eventV rfl 28 (.tmp 4) (.tmp 12) rfl g4 _ rfl rfl 28 _ BK4.out (by kernel_rfl) rfl (by simp [Value.oneCell']) ?_; intro ws4_12 hn ho hb; have n1_ := Aside0.mk ((ho _ (Ne.symm NE4_1.out)).trans BK1.out); have n3_ := Aside0.mk ((ho _ (Ne.symm NE4_3.out)).trans BK3.out); have n0_ := Aside0.mk (hb _ _ GE4.out HB.out); have nn_ := Aside0.mk hn; clear BK1; have BK1 := n1_; clear n1_; clear BK3; have BK3 := n3_; clear n3_; clear HB BK4; have HB := n0_; have BK4 := nn_; clear n0_ nn_ hn ho hb; (try clear x1_0); have x1_0 := (qm_ BK1.out 0).trans rfl; (try clear x3_0); have x3_0 := (qm_ BK3.out 0).trans rfl; (try clear x3_1); have x3_1 := (qm_ BK3.out 1).trans rfl; (try clear x4_0); have x4_0 := (qm_ BK4.out 0).trans rfl; (try clear x4_1); have x4_1 := (qm_ BK4.out 1).trans rfl) | ((with_reducible refine gate_dst (N := 5) rfl ?_); refine qE_ ?hg (N := 5) ?hd (cs := #[.slice none 0 0]) (t := 50) ?hr ?_; (case hd => rfl); (case hg => rfl); (case hr => first | kernel_rfl | (go_simp; done) | (go_simp; rfl)); intro g5 hg wn5 hbox hb; have GE5 : Aside0 (w.heap.size ≤ g5) := Aside0.mk (by rw [hg]; exact HB.out.size); have NE5_1 : Aside0 (g5 ≠ g1) := Aside0.mk (by rw [hg]; exact Nat.ne_of_gt (qB_ BK1.out)); have NE5_3 : Aside0 (g5 ≠ g3) := Aside0.mk (by rw [hg]; exact Nat.ne_of_gt (qB_ BK3.out)); have n1_ := Aside0.mk (qy_ BK1.out hb); have n3_ := Aside0.mk (qy_ BK3.out hb); have n0_ := Aside0.mk (qq_ HB.out hb); have BK5 := Aside0.mk hbox; clear BK1; have BK1 := n1_; clear n1_; clear BK3; have BK3 := n3_; clear n3_; clear HB; have HB := n0_; clear n0_ hbox hb hg; (try clear x1_0); have x1_0 := (qm_ BK1.out 0).trans rfl) | fail)
   go_loopg [20] l0_0.length (fun kq v20 w' => ∃ (ts : List ByteArray) (done rest : List S47) (At : Option Addr) (ct : Nat), v20 = .int .i64 (ts.length : Int) ∧ Aside0 (rest.length = kq) ∧ Aside0 (l0_0 = done ++ rest) ∧ Aside0 (ts.length = done.length) ∧ Aside0 (fmtL l0_0 rest ts = some tf) ∧ Aside0 (Kd.R Kd.string 9 w' w.heap.size (fun _ => True) (.slice At ts.length ct) ts) ∧ Aside0 (w'.heap[g1]? = some (.cells #[.slice A0_0 l0_0.length c0_0] 24 (0, 0))) ∧ Aside0 (w'.heap[g3]? = some (.cells #[.int .i64 0, .int .i64 0] 28 (0, 0))) ∧ Aside0 (w'.heap[g5]? = some (.cells #[.slice At ts.length ct] 50 (0, 0))) ∧ Aside0 (Below w.heap.size w w'))
   case atStart => exact ⟨[], [], l0_0, none, 0, rfl, ⟨rfl⟩, ⟨rfl⟩, ⟨rfl⟩, HF, ⟨Kd.R_nil _ _ _ _ _⟩, BK1, BK3, BK5, HB⟩
   case round =>
    clear HF BK1 BK3 BK4 BK5 HB x1_0
    obtain ⟨ts, done, rest, At, ct, rfl, HK, HL, HD, HF, RT, BK1, BK3, BK5, HB⟩ := hrel
    have x1_0 := (qm_ BK1.out 0).trans rfl
    cases rest with
    | nil =>
     have hx : decide ((ts.length : Int) < (l0_0.length : Int)) = false := decide_eq_false (by rw [HL.out, HD.out]; simp)
     have hxn : ¬ ts.length < l0_0.length := by rw [HL.out, HD.out]; simp
     have e_ : ts = tf := by have h_ := HF.out; simpa [fmtL] using h_
     subst e_
     have x5_0 := (qm_ BK5.out 0).trans rfl
     have x3_0 := (qm_ BK3.out 0).trans rfl
     have x3_1 := (qm_ BK3.out 1).trans rfl
     have hfin := HFIN.out
     by_cases c6 : 0 < ts.length
     ·rw [if_pos c6] at hfin
      obtain ⟨_, hct, hC⟩ := Kd.R_reads' RT.out
      obtain ⟨ae, c_, hA2, _, hK_, hc_⟩ := Kd.C_get hC ⟨#[]⟩ ((ts.length : Int) - 1) (by omega) (by omega)
      have ht1 : ((ts.length : Int) - 1).toNat = ts.length - 1 := by omega
      rw [ht1] at hK_ hc_
      subst hA2
      have hK2 : c_ = [Value.string (ts.getD (ts.length - 1) ⟨#[]⟩)] := hK_
      subst hK2
      have y4 : wr.cell? (ae.add (ts.length - 1)) = some (.string (ts.getD (ts.length - 1) ⟨#[]⟩)) := by
       have h_ := hc_ 0 _ rfl
       have e_ : (ts.length - 1) * Kd.string.sz + 0 = ts.length - 1 := Nat.mul_one _
       rw [e_] at h_
       exact h_
      obtain ⟨t, ht_⟩ : ∃ t, ts.getD (ts.length - 1) ⟨#[]⟩ = t := ⟨_, rfl⟩
      rw [ht_] at hfin y4
      have hw2 : wrap64 ((ts.length : Int) - 1) = (ts.length : Int) - 1 := by have := HLE.out; have := HD.out; have h9 : done.length ≤ l0_0.length := by { rw [HL.out]; simp }; unfold wrap64; omega
      have hb1 : (0 : Int) ≤ (ts.length : Int) - 1 := by omega
      have hb2 : (ts.length : Int) - 1 < (ts.length : Int) := by omega
      clear hc_ hK_ hC HF HK
      by_cases c7 : (t.size : Int) > 200
      ·rw [if_pos c7] at hfin
       simp only [Option.some.injEq, Prod.mk.injEq] at hfin
       obtain ⟨rfl, rfl, rfl⟩ := hfin
       have c7b : decide ((t.size : Int) > 200) = true := decide_eq_true c7
       have c7c : decide ((200 : Int) < (t.size : Int)) = true := decide_eq_true c7
       go_wp2_with (first | ((with_reducible refine gate_storeV (ty := 28) (x := .tmp 3) (y := .tmp 86) rfl ?_); refine store_eventV rfl 28 (.tmp 3) (.tmp 86) rfl g3 _ rfl rfl 28 _ BK3.out (by kernel_rfl) rfl (by simp [Value.oneCell']) ?_; intro ws3_86 hn ho hb; have n1_ := Aside0.mk ((ho _ (Ne.symm NE3_1.out)).trans BK1.out); have n5_ := Aside0.mk ((ho _ (NE5_3.out)).trans BK5.out); have n0_ := Aside0.mk (hb _ _ GE3.out HB.out); have nn_ := Aside0.mk hn; clear BK1; have BK1 := n1_; clear n1_; clear BK5; have BK5 := n5_; clear n5_; clear HB BK3; have HB := n0_; have BK3 := nn_; clear n0_ nn_ hn ho hb; (try clear x1_0); have x1_0 := (qm_ BK1.out 0).trans rfl; (try clear x3_0); have x3_0 := (qm_ BK3.out 0).trans rfl; (try clear x3_1); have x3_1 := (qm_ BK3.out 1).trans rfl; (try clear x5_0); have x5_0 := (qm_ BK5.out 0).trans rfl) | fail)
       refine bodyPost_ret (results_tc rfl _ _ g3 28 _ (0, 0) _ rfl BK3.out Tryd.underlying28 rfl (by kernel_rfl)) rfl ?_
       exact ⟨rfl, HB.out⟩
      ·rw [if_neg c7] at hfin
       simp only [Option.some.injEq, Prod.mk.injEq] at hfin
       obtain ⟨rfl, rfl, rfl⟩ := hfin
       have c7b : decide ((t.size : Int) > 200) = false := decide_eq_false c7
       have c7c : decide ((200 : Int) < (t.size : Int)) = false := decide_eq_false c7
       go_wp2_with (first | ((with_reducible refine gate_storeV (ty := 28) (x := .tmp 3) (y := .tmp 88) rfl ?_); refine store_eventV rfl 28 (.tmp 3) (.tmp 88) rfl g3 _ rfl rfl 28 _ BK3.out (by kernel_rfl) rfl (by simp [Value.oneCell']) ?_; intro ws3_88 hn ho hb; have n1_ := Aside0.mk ((ho _ (Ne.symm NE3_1.out)).trans BK1.out); have n5_ := Aside0.mk ((ho _ (NE5_3.out)).trans BK5.out); have n0_ := Aside0.mk (hb _ _ GE3.out HB.out); have nn_ := Aside0.mk hn; clear BK1; have BK1 := n1_; clear n1_; clear BK5; have BK5 := n5_; clear n5_; clear HB BK3; have HB := n0_; have BK3 := nn_; clear n0_ nn_ hn ho hb; (try clear x1_0); have x1_0 := (qm_ BK1.out 0).trans rfl; (try clear x3_0); have x3_0 := (qm_ BK3.out 0).trans rfl; (try clear x3_1); have x3_1 := (qm_ BK3.out 1).trans rfl; (try clear x5_0); have x5_0 := (qm_ BK5.out 0).trans rfl) | fail)
       refine bodyPost_ret (results_tc rfl _ _ g3 28 _ (0, 0) _ rfl BK3.out Tryd.underlying28 rfl (by kernel_rfl)) rfl ?_
       exact ⟨rfl, HB.out⟩
     ·rw [if_neg c6] at hfin
      cases hfin
    | cons n t =>
     have hjl : done.length + (t.length + 1) = l0_0.length := by rw [HL.out, List.length_append, List.length_cons]
     have hd_ := HD.out
     have hx : decide ((ts.length : Int) < (l0_0.length : Int)) = true := decide_eq_true (by omega)
     have hxn : ts.length < l0_0.length := by omega
     have hxp : (ts.length : Int) < (l0_0.length : Int) := by omega
     have hx0 : (0 : Int) ≤ (ts.length : Int) := by omega
     have LEN : Aside0 ((ts.length + 1) * 16 ≤ 140737488355328) := ⟨by have := HLE.out; omega⟩
     obtain ⟨kz, hkz⟩ : ∃ kz, gk = kz + 1 := ⟨t.length, by have := HK.out; rw [List.length_cons] at this; omega⟩
     have HK1 : Aside0 (t.length = kz) := ⟨by have := HK.out; rw [List.length_cons] at this; omega⟩
     have hw1 : Aside0 (wrap64 ((ts.length : Int) + 1) = (((ts.length + 1 : Nat)) : Int)) := ⟨by have := HLE.out; unfold wrap64; omega⟩
     have hw2 := hw1.out
     obtain ⟨ad, hA, y0, y1, y2, y3⟩ := at_T47 (Kd.C_below HR0.out HB.out) (ts.length : Int) hx0 hxp
     have he : qj_ l0_0 (ts.length : Int) = n := by rw [hd_, HL.out]; exact at_mid47 _ _ _
     rw [he] at y0 y1 y2 y3
     rw [Int.toNat_natCast] at y0 y1 y2 y3
     have hf := HF.out
     unfold fmtL at hf
     replace hf := Option.bind_eq_some_iff.mp hf
     obtain ⟨sv_, hN, hf⟩ := hf
     have HF2 := Aside0.mk hf
     clear hf he hjl hd_ HF
     subst hA
     unfold nodeText at hN
     by_cases k1 : n.f0 = 1
     ·rw [if_pos k1] at hN
      have k1b : (n.f0 == 1) = true := beq_iff_eq.mpr k1
      replace hN := Option.bind_eq_some_iff.mp hN
      obtain ⟨s1, hs, hN⟩ := hN
      obtain rfl := Option.some.inj hN
      clear hN
      clear k1
      unfold itM at hs
      by_cases hn : 0 ≤ n.f1 ∧ n.f1 < 100 ∧ (⟨(Lib.decDigits n.f1.toNat).toArray⟩ : ByteArray).size ≤ 1000
      ·rw [if_pos hn] at hs
       obtain rfl := Option.some.inj hs
       have hvn : ((n.f1.toNat : Nat) : Int) = n.f1 := by omega
       have HIT := Aside0.mk (hvn ▸ (Tryd.strconv_Itoa_small n.f1.toNat (by omega)))
       have hcat := cat_ (⟨#[115, 99, 111, 114, 101, 32]⟩ : ByteArray) (⟨(Lib.decDigits n.f1.toNat).toArray⟩ : ByteArray) (Nat.le_trans (Nat.add_le_add (show ((⟨#[115, 99, 111, 114, 101, 32]⟩ : ByteArray)).size ≤ 100 by decide) hn.2.2) (by decide))
       clear hs hvn hn
       go_wp2_with (first | ((with_reducible refine gate_dst (N := 7) rfl ?_); refine qE_ ?hg (N := 7) ?hd (cs := #[.int .i64 0, .int .i64 0, .int .i64 0, .int .i64 0]) (t := 47) ?hr ?_; (case hd => rfl); (case hg => rfl); (case hr => first | kernel_rfl | (go_simp; done) | (go_simp; rfl)); intro g7 hg wn7 hbox hb; have GE7 : Aside0 (w.heap.size ≤ g7) := Aside0.mk (by rw [hg]; exact HB.out.size); have NE7_1 : Aside0 (g7 ≠ g1) := Aside0.mk (by rw [hg]; exact Nat.ne_of_gt (qB_ BK1.out)); have NE7_3 : Aside0 (g7 ≠ g3) := Aside0.mk (by rw [hg]; exact Nat.ne_of_gt (qB_ BK3.out)); have NE7_5 : Aside0 (g7 ≠ g5) := Aside0.mk (by rw [hg]; exact Nat.ne_of_gt (qB_ BK5.out)); have nr_ := Aside0.mk (Kd.R_below RT.out hb); clear RT; have RT := nr_; clear nr_; have n1_ := Aside0.mk (qy_ BK1.out hb); have n3_ := Aside0.mk (qy_ BK3.out hb); have n5_ := Aside0.mk (qy_ BK5.out hb); have n0_ := Aside0.mk (qq_ HB.out hb); have BK7 := Aside0.mk hbox; clear BK1; have BK1 := n1_; clear n1_; clear BK3; have BK3 := n3_; clear n3_; clear BK5; have BK5 := n5_; clear n5_; clear HB; have HB := n0_; clear n0_ hbox hb hg) | ((with_reducible refine gate_storeV (ty := 47) (x := .tmp 7) (y := .tmp 23) rfl ?_); refine store_eventV rfl 47 (.tmp 7) (.tmp 23) rfl g7 _ rfl rfl 47 _ BK7.out (by kernel_rfl) rfl (by simp [Value.oneCell']) ?_; intro ws7_23 hn ho hb; have nr_ := Aside0.mk (Kd.R_mono (Kd.R_move (Kd.R_types RT.out BK7.out (by decide)) (fun k hk => ho k hk.2)) (fun _ _ => trivial)); clear RT; have RT := nr_; clear nr_; have n1_ := Aside0.mk ((ho _ (Ne.symm NE7_1.out)).trans BK1.out); have n3_ := Aside0.mk ((ho _ (Ne.symm NE7_3.out)).trans BK3.out); have n5_ := Aside0.mk ((ho _ (Ne.symm NE7_5.out)).trans BK5.out); have n0_ := Aside0.mk (hb _ _ GE7.out HB.out); have nn_ := Aside0.mk hn; clear BK1; have BK1 := n1_; clear n1_; clear BK3; have BK3 := n3_; clear n3_; clear BK5; have BK5 := n5_; clear n5_; clear HB BK7; have HB := n0_; have BK7 := nn_; clear n0_ nn_ hn ho hb; (try clear x1_0); have x1_0 := (qm_ BK1.out 0).trans rfl; (try clear x3_0); have x3_0 := (qm_ BK3.out 0).trans rfl; (try clear x3_1); have x3_1 := (qm_ BK3.out 1).trans rfl; (try clear x5_0); have x5_0 := (qm_ BK5.out 0).trans rfl; (try clear x7_0); have x7_0 := (qm_ BK7.out 0).trans rfl; (try clear x7_1); have x7_1 := (qm_ BK7.out 1).trans rfl; (try clear x7_2); have x7_2 := (qm_ BK7.out 2).trans rfl; (try clear x7_3); have x7_3 := (qm_ BK7.out 3).trans rfl) | ((with_reducible refine qs_ (f := 25) rfl ?_); refine goesL_ (some 41) rfl rfl Tryd.func25 (by kernel_rfl) rfl #[.int .i64 n.f1] rfl (by (try simp only [List.map_toArray, List.map_cons, List.map_nil]); first | done | rfl) ?_; refine (HIT.out _).mono ?_; rintro e w4 ⟨rfl, rfl⟩; refine ⟨_, rfl, ?_⟩; skip) | ((with_reducible refine gate_builtin (b := .append) (xs := #[.tmp 72, .tmp 74]) rfl ?_); at_builtin; refine Kd.R_append Kd.string (w0 := w) w.heap.size rfl (.tmp 72) (.tmp 74) 50 9 (.string ByteArray.empty) 16 rfl Tryd.underlying50 infoS rfl (by decide) (by decide) _ _ ((⟨#[115, 99, 111, 114, 101, 32]⟩ : ByteArray) ++ (⟨(Lib.decDigits n.f1.toNat).toArray⟩ : ByteArray)) [.string ((⟨#[115, 99, 111, 114, 101, 32]⟩ : ByteArray) ++ (⟨(Lib.decDigits n.f1.toNat).toArray⟩ : ByteArray))] (fun _ => True) (fun _ => False) rfl rfl rfl (fun _ hk => hk.elim) (fun _ _ => trivial) RT.out HB.out HB.out.size LEN.out ?_; intro v1 w11 ho hb hg hat; obtain ⟨Av, cv, ev_⟩ := Kd.R_slice ho; rw [List.length_append, List.length_singleton] at ev_; subst ev_; have n1_ := Aside0.mk (blk_grown BK1.out hg (Kd.R_ne RT.out BK1.out (by decide))); have n3_ := Aside0.mk (blk_grown BK3.out hg (Kd.R_ne RT.out BK3.out (by decide))); have n5_ := Aside0.mk (blk_grown BK5.out hg (Kd.R_ne RT.out BK5.out (by decide))); have n0_ := Aside0.mk hb; have nr_ := Aside0.mk ho; clear HB RT BK1 BK3 BK5 BK7; have HB := n0_; have RT := nr_; have BK1 := n1_; have BK3 := n3_; have BK5 := n5_; clear n0_ nr_ n1_ n3_ n5_ ho hb hg hat; (try clear x5_0); have x5_0 := (qm_ BK5.out 0).trans rfl; have z5 := qd_ BK5 0) | fail)
       go_roundg kz
       case measure => omega
       case rel => exact ⟨ts ++ [(⟨#[115, 99, 111, 114, 101, 32]⟩ : ByteArray) ++ (⟨(Lib.decDigits n.f1.toNat).toArray⟩ : ByteArray)], done ++ [n], t, Av, cv, by first | exact congrArg _ hw1.out | (rw [List.length_append, List.length_singleton]; exact congrArg _ hw1.out) | (rw [List.length_append, List.length_singleton]; rfl), HK1, ⟨by rw [HL.out, List.append_assoc]; rfl⟩, ⟨by rw [List.length_append, List.length_append, List.length_singleton, List.length_singleton, HD.out]⟩, HF2, ⟨by rw [List.length_append, List.length_singleton]; exact Kd.R_set RT.out BK5.out (by decide) _ _⟩, ⟨qn_ (p := ⟨g5, 0, none⟩) BK1.out (Ne.symm NE5_1.out) _⟩, ⟨qn_ (p := ⟨g5, 0, none⟩) BK3.out (Ne.symm NE5_3.out) _⟩, ⟨by rw [List.length_append, List.length_singleton]; exact qA_ BK5.out 0 _ rfl⟩, ⟨below_put HB.out GE5.out 0 _⟩⟩
      ·rw [if_neg hn] at hs
       cases hs
     ·rw [if_neg k1] at hN
      have k1b : (n.f0 == 1) = false := beq_eq_false_iff_ne.mpr k1
      clear k1
      by_cases k2 : n.f0 = 2
      ·rw [if_pos k2] at hN
       have k2b : (n.f0 == 2) = true := beq_iff_eq.mpr k2
       obtain rfl := Option.some.inj hN
       clear hN
       clear k2
       go_wp2_with (first | ((with_reducible refine gate_dst (N := 7) rfl ?_); refine qE_ ?hg (N := 7) ?hd (cs := #[.int .i64 0, .int .i64 0, .int .i64 0, .int .i64 0]) (t := 47) ?hr ?_; (case hd => rfl); (case hg => rfl); (case hr => first | kernel_rfl | (go_simp; done) | (go_simp; rfl)); intro g7 hg wn7 hbox hb; have GE7 : Aside0 (w.heap.size ≤ g7) := Aside0.mk (by rw [hg]; exact HB.out.size); have NE7_1 : Aside0 (g7 ≠ g1) := Aside0.mk (by rw [hg]; exact Nat.ne_of_gt (qB_ BK1.out)); have NE7_3 : Aside0 (g7 ≠ g3) := Aside0.mk (by rw [hg]; exact Nat.ne_of_gt (qB_ BK3.out)); have NE7_5 : Aside0 (g7 ≠ g5) := Aside0.mk (by rw [hg]; exact Nat.ne_of_gt (qB_ BK5.out)); have nr_ := Aside0.mk (Kd.R_below RT.out hb); clear RT; have RT := nr_; clear nr_; have n1_ := Aside0.mk (qy_ BK1.out hb); have n3_ := Aside0.mk (qy_ BK3.out hb); have n5_ := Aside0.mk (qy_ BK5.out hb); have n0_ := Aside0.mk (qq_ HB.out hb); have BK7 := Aside0.mk hbox; clear BK1; have BK1 := n1_; clear n1_; clear BK3; have BK3 := n3_; clear n3_; clear BK5; have BK5 := n5_; clear n5_; clear HB; have HB := n0_; clear n0_ hbox hb hg) | ((with_reducible refine gate_storeV (ty := 47) (x := .tmp 7) (y := .tmp 23) rfl ?_); refine store_eventV rfl 47 (.tmp 7) (.tmp 23) rfl g7 _ rfl rfl 47 _ BK7.out (by kernel_rfl) rfl (by simp [Value.oneCell']) ?_; intro ws7_23 hn ho hb; have nr_ := Aside0.mk (Kd.R_mono (Kd.R_move (Kd.R_types RT.out BK7.out (by decide)) (fun k hk => ho k hk.2)) (fun _ _ => trivial)); clear RT; have RT := nr_; clear nr_; have n1_ := Aside0.mk ((ho _ (Ne.symm NE7_1.out)).trans BK1.out); have n3_ := Aside0.mk ((ho _ (Ne.symm NE7_3.out)).trans BK3.out); have n5_ := Aside0.mk ((ho _ (Ne.symm NE7_5.out)).trans BK5.out); have n0_ := Aside0.mk (hb _ _ GE7.out HB.out); have nn_ := Aside0.mk hn; clear BK1; have BK1 := n1_; clear n1_; clear BK3; have BK3 := n3_; clear n3_; clear BK5; have BK5 := n5_; clear n5_; clear HB BK7; have HB := n0_; have BK7 := nn_; clear n0_ nn_ hn ho hb; (try clear x1_0); have x1_0 := (qm_ BK1.out 0).trans rfl; (try clear x3_0); have x3_0 := (qm_ BK3.out 0).trans rfl; (try clear x3_1); have x3_1 := (qm_ BK3.out 1).trans rfl; (try clear x5_0); have x5_0 := (qm_ BK5.out 0).trans rfl; (try clear x7_0); have x7_0 := (qm_ BK7.out 0).trans rfl; (try clear x7_1); have x7_1 := (qm_ BK7.out 1).trans rfl; (try clear x7_2); have x7_2 := (qm_ BK7.out 2).trans rfl; (try clear x7_3); have x7_3 := (qm_ BK7.out 3).trans rfl) | ((with_reducible refine gate_builtin (b := .append) (xs := #[.tmp 72, .tmp 74]) rfl ?_); at_builtin; refine Kd.R_append Kd.string (w0 := w) w.heap.size rfl (.tmp 72) (.tmp 74) 50 9 (.string ByteArray.empty) 16 rfl Tryd.underlying50 infoS rfl (by decide) (by decide) _ _ ((⟨#[111, 119, 110, 101, 114, 115]⟩ : ByteArray)) [.string ((⟨#[111, 119, 110, 101, 114, 115]⟩ : ByteArray))] (fun _ => True) (fun _ => False) rfl rfl rfl (fun _ hk => hk.elim) (fun _ _ => trivial) RT.out HB.out HB.out.size LEN.out ?_; intro v1 w11 ho hb hg hat; obtain ⟨Av, cv, ev_⟩ := Kd.R_slice ho; rw [List.length_append, List.length_singleton] at ev_; subst ev_; have n1_ := Aside0.mk (blk_grown BK1.out hg (Kd.R_ne RT.out BK1.out (by decide))); have n3_ := Aside0.mk (blk_grown BK3.out hg (Kd.R_ne RT.out BK3.out (by decide))); have n5_ := Aside0.mk (blk_grown BK5.out hg (Kd.R_ne RT.out BK5.out (by decide))); have n0_ := Aside0.mk hb; have nr_ := Aside0.mk ho; clear HB RT BK1 BK3 BK5 BK7; have HB := n0_; have RT := nr_; have BK1 := n1_; have BK3 := n3_; have BK5 := n5_; clear n0_ nr_ n1_ n3_ n5_ ho hb hg hat; (try clear x5_0); have x5_0 := (qm_ BK5.out 0).trans rfl; have z5 := qd_ BK5 0) | fail)
       go_roundg kz
       case measure => omega
       case rel => exact ⟨ts ++ [(⟨#[111, 119, 110, 101, 114, 115]⟩ : ByteArray)], done ++ [n], t, Av, cv, by first | exact congrArg _ hw1.out | (rw [List.length_append, List.length_singleton]; exact congrArg _ hw1.out) | (rw [List.length_append, List.length_singleton]; rfl), HK1, ⟨by rw [HL.out, List.append_assoc]; rfl⟩, ⟨by rw [List.length_append, List.length_append, List.length_singleton, List.length_singleton, HD.out]⟩, HF2, ⟨by rw [List.length_append, List.length_singleton]; exact Kd.R_set RT.out BK5.out (by decide) _ _⟩, ⟨qn_ (p := ⟨g5, 0, none⟩) BK1.out (Ne.symm NE5_1.out) _⟩, ⟨qn_ (p := ⟨g5, 0, none⟩) BK3.out (Ne.symm NE5_3.out) _⟩, ⟨by rw [List.length_append, List.length_singleton]; exact qA_ BK5.out 0 _ rfl⟩, ⟨below_put HB.out GE5.out 0 _⟩⟩
      ·rw [if_neg k2] at hN
       have k2b : (n.f0 == 2) = false := beq_eq_false_iff_ne.mpr k2
       clear k2
       by_cases k3 : n.f0 = 3
       ·rw [if_pos k3] at hN
        have k3b : (n.f0 == 3) = true := beq_iff_eq.mpr k3
        obtain rfl := Option.some.inj hN
        clear hN
        clear k3
        go_wp2_with (first | ((with_reducible refine gate_dst (N := 7) rfl ?_); refine qE_ ?hg (N := 7) ?hd (cs := #[.int .i64 0, .int .i64 0, .int .i64 0, .int .i64 0]) (t := 47) ?hr ?_; (case hd => rfl); (case hg => rfl); (case hr => first | kernel_rfl | (go_simp; done) | (go_simp; rfl)); intro g7 hg wn7 hbox hb; have GE7 : Aside0 (w.heap.size ≤ g7) := Aside0.mk (by rw [hg]; exact HB.out.size); have NE7_1 : Aside0 (g7 ≠ g1) := Aside0.mk (by rw [hg]; exact Nat.ne_of_gt (qB_ BK1.out)); have NE7_3 : Aside0 (g7 ≠ g3) := Aside0.mk (by rw [hg]; exact Nat.ne_of_gt (qB_ BK3.out)); have NE7_5 : Aside0 (g7 ≠ g5) := Aside0.mk (by rw [hg]; exact Nat.ne_of_gt (qB_ BK5.out)); have nr_ := Aside0.mk (Kd.R_below RT.out hb); clear RT; have RT := nr_; clear nr_; have n1_ := Aside0.mk (qy_ BK1.out hb); have n3_ := Aside0.mk (qy_ BK3.out hb); have n5_ := Aside0.mk (qy_ BK5.out hb); have n0_ := Aside0.mk (qq_ HB.out hb); have BK7 := Aside0.mk hbox; clear BK1; have BK1 := n1_; clear n1_; clear BK3; have BK3 := n3_; clear n3_; clear BK5; have BK5 := n5_; clear n5_; clear HB; have HB := n0_; clear n0_ hbox hb hg) | ((with_reducible refine gate_storeV (ty := 47) (x := .tmp 7) (y := .tmp 23) rfl ?_); refine store_eventV rfl 47 (.tmp 7) (.tmp 23) rfl g7 _ rfl rfl 47 _ BK7.out (by kernel_rfl) rfl (by simp [Value.oneCell']) ?_; intro ws7_23 hn ho hb; have nr_ := Aside0.mk (Kd.R_mono (Kd.R_move (Kd.R_types RT.out BK7.out (by decide)) (fun k hk => ho k hk.2)) (fun _ _ => trivial)); clear RT; have RT := nr_; clear nr_; have n1_ := Aside0.mk ((ho _ (Ne.symm NE7_1.out)).trans BK1.out); have n3_ := Aside0.mk ((ho _ (Ne.symm NE7_3.out)).trans BK3.out); have n5_ := Aside0.mk ((ho _ (Ne.symm NE7_5.out)).trans BK5.out); have n0_ := Aside0.mk (hb _ _ GE7.out HB.out); have nn_ := Aside0.mk hn; clear BK1; have BK1 := n1_; clear n1_; clear BK3; have BK3 := n3_; clear n3_; clear BK5; have BK5 := n5_; clear n5_; clear HB BK7; have HB := n0_; have BK7 := nn_; clear n0_ nn_ hn ho hb; (try clear x1_0); have x1_0 := (qm_ BK1.out 0).trans rfl; (try clear x3_0); have x3_0 := (qm_ BK3.out 0).trans rfl; (try clear x3_1); have x3_1 := (qm_ BK3.out 1).trans rfl; (try clear x5_0); have x5_0 := (qm_ BK5.out 0).trans rfl; (try clear x7_0); have x7_0 := (qm_ BK7.out 0).trans rfl; (try clear x7_1); have x7_1 := (qm_ BK7.out 1).trans rfl; (try clear x7_2); have x7_2 := (qm_ BK7.out 2).trans rfl; (try clear x7_3); have x7_3 := (qm_ BK7.out 3).trans rfl) | ((with_reducible refine gate_builtin (b := .append) (xs := #[.tmp 72, .tmp 74]) rfl ?_); at_builtin; refine Kd.R_append Kd.string (w0 := w) w.heap.size rfl (.tmp 72) (.tmp 74) 50 9 (.string ByteArray.empty) 16 rfl Tryd.underlying50 infoS rfl (by decide) (by decide) _ _ ((⟨#[116, 101, 115, 116, 115]⟩ : ByteArray)) [.string ((⟨#[116, 101, 115, 116, 115]⟩ : ByteArray))] (fun _ => True) (fun _ => False) rfl rfl rfl (fun _ hk => hk.elim) (fun _ _ => trivial) RT.out HB.out HB.out.size LEN.out ?_; intro v1 w11 ho hb hg hat; obtain ⟨Av, cv, ev_⟩ := Kd.R_slice ho; rw [List.length_append, List.length_singleton] at ev_; subst ev_; have n1_ := Aside0.mk (blk_grown BK1.out hg (Kd.R_ne RT.out BK1.out (by decide))); have n3_ := Aside0.mk (blk_grown BK3.out hg (Kd.R_ne RT.out BK3.out (by decide))); have n5_ := Aside0.mk (blk_grown BK5.out hg (Kd.R_ne RT.out BK5.out (by decide))); have n0_ := Aside0.mk hb; have nr_ := Aside0.mk ho; clear HB RT BK1 BK3 BK5 BK7; have HB := n0_; have RT := nr_; have BK1 := n1_; have BK3 := n3_; have BK5 := n5_; clear n0_ nr_ n1_ n3_ n5_ ho hb hg hat; (try clear x5_0); have x5_0 := (qm_ BK5.out 0).trans rfl; have z5 := qd_ BK5 0) | fail)
        go_roundg kz
        case measure => omega
        case rel => exact ⟨ts ++ [(⟨#[116, 101, 115, 116, 115]⟩ : ByteArray)], done ++ [n], t, Av, cv, by first | exact congrArg _ hw1.out | (rw [List.length_append, List.length_singleton]; exact congrArg _ hw1.out) | (rw [List.length_append, List.length_singleton]; rfl), HK1, ⟨by rw [HL.out, List.append_assoc]; rfl⟩, ⟨by rw [List.length_append, List.length_append, List.length_singleton, List.length_singleton, HD.out]⟩, HF2, ⟨by rw [List.length_append, List.length_singleton]; exact Kd.R_set RT.out BK5.out (by decide) _ _⟩, ⟨qn_ (p := ⟨g5, 0, none⟩) BK1.out (Ne.symm NE5_1.out) _⟩, ⟨qn_ (p := ⟨g5, 0, none⟩) BK3.out (Ne.symm NE5_3.out) _⟩, ⟨by rw [List.length_append, List.length_singleton]; exact qA_ BK5.out 0 _ rfl⟩, ⟨below_put HB.out GE5.out 0 _⟩⟩
       ·rw [if_neg k3] at hN
        have k3b : (n.f0 == 3) = false := beq_eq_false_iff_ne.mpr k3
        clear k3
        by_cases k4 : n.f0 = 4
        ·rw [if_pos k4] at hN
         have k4b : (n.f0 == 4) = true := beq_iff_eq.mpr k4
         replace hN := Option.bind_eq_some_iff.mp hN
         obtain ⟨s1, hs, hN⟩ := hN
         obtain rfl := Option.some.inj hN
         clear hN
         clear k4
         unfold itM at hs
         by_cases hn : 0 ≤ n.f1 ∧ n.f1 < 100 ∧ (⟨(Lib.decDigits n.f1.toNat).toArray⟩ : ByteArray).size ≤ 1000
         ·rw [if_pos hn] at hs
          obtain rfl := Option.some.inj hs
          have hvn : ((n.f1.toNat : Nat) : Int) = n.f1 := by omega
          have HIT := Aside0.mk (hvn ▸ (Tryd.strconv_Itoa_small n.f1.toNat (by omega)))
          have hcat := cat_ (⟨#[117, 115, 101, 114, 32]⟩ : ByteArray) (⟨(Lib.decDigits n.f1.toNat).toArray⟩ : ByteArray) (Nat.le_trans (Nat.add_le_add (show ((⟨#[117, 115, 101, 114, 32]⟩ : ByteArray)).size ≤ 100 by decide) hn.2.2) (by decide))
          clear hs hvn hn
          go_wp2_with (first | ((with_reducible refine gate_dst (N := 7) rfl ?_); refine qE_ ?hg (N := 7) ?hd (cs := #[.int .i64 0, .int .i64 0, .int .i64 0, .int .i64 0]) (t := 47) ?hr ?_; (case hd => rfl); (case hg => rfl); (case hr => first | kernel_rfl | (go_simp; done) | (go_simp; rfl)); intro g7 hg wn7 hbox hb; have GE7 : Aside0 (w.heap.size ≤ g7) := Aside0.mk (by rw [hg]; exact HB.out.size); have NE7_1 : Aside0 (g7 ≠ g1) := Aside0.mk (by rw [hg]; exact Nat.ne_of_gt (qB_ BK1.out)); have NE7_3 : Aside0 (g7 ≠ g3) := Aside0.mk (by rw [hg]; exact Nat.ne_of_gt (qB_ BK3.out)); have NE7_5 : Aside0 (g7 ≠ g5) := Aside0.mk (by rw [hg]; exact Nat.ne_of_gt (qB_ BK5.out)); have nr_ := Aside0.mk (Kd.R_below RT.out hb); clear RT; have RT := nr_; clear nr_; have n1_ := Aside0.mk (qy_ BK1.out hb); have n3_ := Aside0.mk (qy_ BK3.out hb); have n5_ := Aside0.mk (qy_ BK5.out hb); have n0_ := Aside0.mk (qq_ HB.out hb); have BK7 := Aside0.mk hbox; clear BK1; have BK1 := n1_; clear n1_; clear BK3; have BK3 := n3_; clear n3_; clear BK5; have BK5 := n5_; clear n5_; clear HB; have HB := n0_; clear n0_ hbox hb hg) | ((with_reducible refine gate_storeV (ty := 47) (x := .tmp 7) (y := .tmp 23) rfl ?_); refine store_eventV rfl 47 (.tmp 7) (.tmp 23) rfl g7 _ rfl rfl 47 _ BK7.out (by kernel_rfl) rfl (by simp [Value.oneCell']) ?_; intro ws7_23 hn ho hb; have nr_ := Aside0.mk (Kd.R_mono (Kd.R_move (Kd.R_types RT.out BK7.out (by decide)) (fun k hk => ho k hk.2)) (fun _ _ => trivial)); clear RT; have RT := nr_; clear nr_; have n1_ := Aside0.mk ((ho _ (Ne.symm NE7_1.out)).trans BK1.out); have n3_ := Aside0.mk ((ho _ (Ne.symm NE7_3.out)).trans BK3.out); have n5_ := Aside0.mk ((ho _ (Ne.symm NE7_5.out)).trans BK5.out); have n0_ := Aside0.mk (hb _ _ GE7.out HB.out); have nn_ := Aside0.mk hn; clear BK1; have BK1 := n1_; clear n1_; clear BK3; have BK3 := n3_; clear n3_; clear BK5; have BK5 := n5_; clear n5_; clear HB BK7; have HB := n0_; have BK7 := nn_; clear n0_ nn_ hn ho hb; (try clear x1_0); have x1_0 := (qm_ BK1.out 0).trans rfl; (try clear x3_0); have x3_0 := (qm_ BK3.out 0).trans rfl; (try clear x3_1); have x3_1 := (qm_ BK3.out 1).trans rfl; (try clear x5_0); have x5_0 := (qm_ BK5.out 0).trans rfl; (try clear x7_0); have x7_0 := (qm_ BK7.out 0).trans rfl; (try clear x7_1); have x7_1 := (qm_ BK7.out 1).trans rfl; (try clear x7_2); have x7_2 := (qm_ BK7.out 2).trans rfl; (try clear x7_3); have x7_3 := (qm_ BK7.out 3).trans rfl) | ((with_reducible refine qs_ (f := 25) rfl ?_); refine goesL_ (some 51) rfl rfl Tryd.func25 (by kernel_rfl) rfl #[.int .i64 n.f1] rfl (by (try simp only [List.map_toArray, List.map_cons, List.map_nil]); first | done | rfl) ?_; refine (HIT.out _).mono ?_; rintro e w4 ⟨rfl, rfl⟩; refine ⟨_, rfl, ?_⟩; skip) | ((with_reducible refine gate_builtin (b := .append) (xs := #[.tmp 72, .tmp 74]) rfl ?_); at_builtin; refine Kd.R_append Kd.string (w0 := w) w.heap.size rfl (.tmp 72) (.tmp 74) 50 9 (.string ByteArray.empty) 16 rfl Tryd.underlying50 infoS rfl (by decide) (by decide) _ _ ((⟨#[117, 115, 101, 114, 32]⟩ : ByteArray) ++ (⟨(Lib.decDigits n.f1.toNat).toArray⟩ : ByteArray)) [.string ((⟨#[117, 115, 101, 114, 32]⟩ : ByteArray) ++ (⟨(Lib.decDigits n.f1.toNat).toArray⟩ : ByteArray))] (fun _ => True) (fun _ => False) rfl rfl rfl (fun _ hk => hk.elim) (fun _ _ => trivial) RT.out HB.out HB.out.size LEN.out ?_; intro v1 w11 ho hb hg hat; obtain ⟨Av, cv, ev_⟩ := Kd.R_slice ho; rw [List.length_append, List.length_singleton] at ev_; subst ev_; have n1_ := Aside0.mk (blk_grown BK1.out hg (Kd.R_ne RT.out BK1.out (by decide))); have n3_ := Aside0.mk (blk_grown BK3.out hg (Kd.R_ne RT.out BK3.out (by decide))); have n5_ := Aside0.mk (blk_grown BK5.out hg (Kd.R_ne RT.out BK5.out (by decide))); have n0_ := Aside0.mk hb; have nr_ := Aside0.mk ho; clear HB RT BK1 BK3 BK5 BK7; have HB := n0_; have RT := nr_; have BK1 := n1_; have BK3 := n3_; have BK5 := n5_; clear n0_ nr_ n1_ n3_ n5_ ho hb hg hat; (try clear x5_0); have x5_0 := (qm_ BK5.out 0).trans rfl; have z5 := qd_ BK5 0) | fail)
          go_roundg kz
          case measure => omega
          case rel => exact ⟨ts ++ [(⟨#[117, 115, 101, 114, 32]⟩ : ByteArray) ++ (⟨(Lib.decDigits n.f1.toNat).toArray⟩ : ByteArray)], done ++ [n], t, Av, cv, by first | exact congrArg _ hw1.out | (rw [List.length_append, List.length_singleton]; exact congrArg _ hw1.out) | (rw [List.length_append, List.length_singleton]; rfl), HK1, ⟨by rw [HL.out, List.append_assoc]; rfl⟩, ⟨by rw [List.length_append, List.length_append, List.length_singleton, List.length_singleton, HD.out]⟩, HF2, ⟨by rw [List.length_append, List.length_singleton]; exact Kd.R_set RT.out BK5.out (by decide) _ _⟩, ⟨qn_ (p := ⟨g5, 0, none⟩) BK1.out (Ne.symm NE5_1.out) _⟩, ⟨qn_ (p := ⟨g5, 0, none⟩) BK3.out (Ne.symm NE5_3.out) _⟩, ⟨by rw [List.length_append, List.length_singleton]; exact qA_ BK5.out 0 _ rfl⟩, ⟨below_put HB.out GE5.out 0 _⟩⟩
         ·rw [if_neg hn] at hs
          cases hs
        ·rw [if_neg k4] at hN
         have k4b : (n.f0 == 4) = false := beq_eq_false_iff_ne.mpr k4
         clear k4
         by_cases k5 : n.f0 = 5
         ·rw [if_pos k5] at hN
          have k5b : (n.f0 == 5) = true := beq_iff_eq.mpr k5
          replace hN := Option.bind_eq_some_iff.mp hN
          obtain ⟨s1, hs, hN⟩ := hN
          obtain rfl := Option.some.inj hN
          clear hN
          clear k5
          have H1 := Aside0.mk hs
          have hcat := cat_ (⟨#[110, 111, 116, 32]⟩ : ByteArray) s1 (Nat.le_trans (Nat.add_le_add (show ((⟨#[110, 111, 116, 32]⟩ : ByteArray)).size ≤ 100 by decide) (opM_size hs)) (by decide))
          clear hs
          go_wp2_with (first | ((with_reducible refine gate_dst (N := 7) rfl ?_); refine qE_ ?hg (N := 7) ?hd (cs := #[.int .i64 0, .int .i64 0, .int .i64 0, .int .i64 0]) (t := 47) ?hr ?_; (case hd => rfl); (case hg => rfl); (case hr => first | kernel_rfl | (go_simp; done) | (go_simp; rfl)); intro g7 hg wn7 hbox hb; have GE7 : Aside0 (w.heap.size ≤ g7) := Aside0.mk (by rw [hg]; exact HB.out.size); have NE7_1 : Aside0 (g7 ≠ g1) := Aside0.mk (by rw [hg]; exact Nat.ne_of_gt (qB_ BK1.out)); have NE7_3 : Aside0 (g7 ≠ g3) := Aside0.mk (by rw [hg]; exact Nat.ne_of_gt (qB_ BK3.out)); have NE7_5 : Aside0 (g7 ≠ g5) := Aside0.mk (by rw [hg]; exact Nat.ne_of_gt (qB_ BK5.out)); have nr_ := Aside0.mk (Kd.R_below RT.out hb); clear RT; have RT := nr_; clear nr_; have n1_ := Aside0.mk (qy_ BK1.out hb); have n3_ := Aside0.mk (qy_ BK3.out hb); have n5_ := Aside0.mk (qy_ BK5.out hb); have n0_ := Aside0.mk (qq_ HB.out hb); have BK7 := Aside0.mk hbox; clear BK1; have BK1 := n1_; clear n1_; clear BK3; have BK3 := n3_; clear n3_; clear BK5; have BK5 := n5_; clear n5_; clear HB; have HB := n0_; clear n0_ hbox hb hg) | ((with_reducible refine gate_storeV (ty := 47) (x := .tmp 7) (y := .tmp 23) rfl ?_); refine store_eventV rfl 47 (.tmp 7) (.tmp 23) rfl g7 _ rfl rfl 47 _ BK7.out (by kernel_rfl) rfl (by simp [Value.oneCell']) ?_; intro ws7_23 hn ho hb; have nr_ := Aside0.mk (Kd.R_mono (Kd.R_move (Kd.R_types RT.out BK7.out (by decide)) (fun k hk => ho k hk.2)) (fun _ _ => trivial)); clear RT; have RT := nr_; clear nr_; have n1_ := Aside0.mk ((ho _ (Ne.symm NE7_1.out)).trans BK1.out); have n3_ := Aside0.mk ((ho _ (Ne.symm NE7_3.out)).trans BK3.out); have n5_ := Aside0.mk ((ho _ (Ne.symm NE7_5.out)).trans BK5.out); have n0_ := Aside0.mk (hb _ _ GE7.out HB.out); have nn_ := Aside0.mk hn; clear BK1; have BK1 := n1_; clear n1_; clear BK3; have BK3 := n3_; clear n3_; clear BK5; have BK5 := n5_; clear n5_; clear HB BK7; have HB := n0_; have BK7 := nn_; clear n0_ nn_ hn ho hb; (try clear x1_0); have x1_0 := (qm_ BK1.out 0).trans rfl; (try clear x3_0); have x3_0 := (qm_ BK3.out 0).trans rfl; (try clear x3_1); have x3_1 := (qm_ BK3.out 1).trans rfl; (try clear x5_0); have x5_0 := (qm_ BK5.out 0).trans rfl; (try clear x7_0); have x7_0 := (qm_ BK7.out 0).trans rfl; (try clear x7_1); have x7_1 := (qm_ BK7.out 1).trans rfl; (try clear x7_2); have x7_2 := (qm_ BK7.out 2).trans rfl; (try clear x7_3); have x7_3 := (qm_ BK7.out 3).trans rfl) | (go_at_call 24; refine (op24.calls w.heap.size g1 g5 (some ad) c0_0 l0_0 (.slice At ts.length ct) ts n.f2 5 s1 _ BK1.out (Kd.C_below HR0.out HB.out) BK5.out RT.out H1.out).mono ?_; rintro e w4 ⟨rfl, rfl⟩) | ((with_reducible refine gate_builtin (b := .append) (xs := #[.tmp 72, .tmp 74]) rfl ?_); at_builtin; refine Kd.R_append Kd.string (w0 := w) w.heap.size rfl (.tmp 72) (.tmp 74) 50 9 (.string ByteArray.empty) 16 rfl Tryd.underlying50 infoS rfl (by decide) (by decide) _ _ ((⟨#[110, 111, 116, 32]⟩ : ByteArray) ++ s1) [.string ((⟨#[110, 111, 116, 32]⟩ : ByteArray) ++ s1)] (fun _ => True) (fun _ => False) rfl rfl rfl (fun _ hk => hk.elim) (fun _ _ => trivial) RT.out HB.out HB.out.size LEN.out ?_; intro v1 w11 ho hb hg hat; obtain ⟨Av, cv, ev_⟩ := Kd.R_slice ho; rw [List.length_append, List.length_singleton] at ev_; subst ev_; have n1_ := Aside0.mk (blk_grown BK1.out hg (Kd.R_ne RT.out BK1.out (by decide))); have n3_ := Aside0.mk (blk_grown BK3.out hg (Kd.R_ne RT.out BK3.out (by decide))); have n5_ := Aside0.mk (blk_grown BK5.out hg (Kd.R_ne RT.out BK5.out (by decide))); have n0_ := Aside0.mk hb; have nr_ := Aside0.mk ho; clear HB RT BK1 BK3 BK5 BK7; have HB := n0_; have RT := nr_; have BK1 := n1_; have BK3 := n3_; have BK5 := n5_; clear n0_ nr_ n1_ n3_ n5_ ho hb hg hat; (try clear x5_0); have x5_0 := (qm_ BK5.out 0).trans rfl; have z5 := qd_ BK5 0) | fail)
          go_roundg kz
          case measure => omega
          case rel => exact ⟨ts ++ [(⟨#[110, 111, 116, 32]⟩ : ByteArray) ++ s1], done ++ [n], t, Av, cv, by first | exact congrArg _ hw1.out | (rw [List.length_append, List.length_singleton]; exact congrArg _ hw1.out) | (rw [List.length_append, List.length_singleton]; rfl), HK1, ⟨by rw [HL.out, List.append_assoc]; rfl⟩, ⟨by rw [List.length_append, List.length_append, List.length_singleton, List.length_singleton, HD.out]⟩, HF2, ⟨by rw [List.length_append, List.length_singleton]; exact Kd.R_set RT.out BK5.out (by decide) _ _⟩, ⟨qn_ (p := ⟨g5, 0, none⟩) BK1.out (Ne.symm NE5_1.out) _⟩, ⟨qn_ (p := ⟨g5, 0, none⟩) BK3.out (Ne.symm NE5_3.out) _⟩, ⟨by rw [List.length_append, List.length_singleton]; exact qA_ BK5.out 0 _ rfl⟩, ⟨below_put HB.out GE5.out 0 _⟩⟩
         ·rw [if_neg k5] at hN
          have k5b : (n.f0 == 5) = false := beq_eq_false_iff_ne.mpr k5
          clear k5
          by_cases k6 : n.f0 = 6
          ·rw [if_pos k6] at hN
           have k6b : (n.f0 == 6) = true := beq_iff_eq.mpr k6
           replace hN := Option.bind_eq_some_iff.mp hN
           obtain ⟨s1, hs, hN⟩ := hN
           replace hN := Option.bind_eq_some_iff.mp hN
           obtain ⟨s2, hs2, hN⟩ := hN
           obtain rfl := Option.some.inj hN
           have H2 := Aside0.mk hs2
           clear hs2 hN
           clear k6
           have H1 := Aside0.mk hs
           have hcat1 := cat_ s1 (⟨#[32, 97, 110, 100, 32]⟩ : ByteArray) (Nat.le_trans (Nat.add_le_add (opM_size hs) (show ((⟨#[32, 97, 110, 100, 32]⟩ : ByteArray)).size ≤ 100 by decide)) (by decide))
           have hcat2 := cat_ (s1 ++ (⟨#[32, 97, 110, 100, 32]⟩ : ByteArray)) s2 (Nat.le_trans (Nat.add_le_add (show (s1 ++ (⟨#[32, 97, 110, 100, 32]⟩ : ByteArray)).size ≤ 200000 from by rw [ByteArray.size_append]; exact Nat.le_trans (Nat.add_le_add (opM_size hs) (show ((⟨#[32, 97, 110, 100, 32]⟩ : ByteArray)).size ≤ 100 by decide)) (by decide)) (opM_size H2.out)) (by decide))
           clear hs
           go_wp2_with (first | ((with_reducible refine gate_dst (N := 7) rfl ?_); refine qE_ ?hg (N := 7) ?hd (cs := #[.int .i64 0, .int .i64 0, .int .i64 0, .int .i64 0]) (t := 47) ?hr ?_; (case hd => rfl); (case hg => rfl); (case hr => first | kernel_rfl | (go_simp; done) | (go_simp; rfl)); intro g7 hg wn7 hbox hb; have GE7 : Aside0 (w.heap.size ≤ g7) := Aside0.mk (by rw [hg]; exact HB.out.size); have NE7_1 : Aside0 (g7 ≠ g1) := Aside0.mk (by rw [hg]; exact Nat.ne_of_gt (qB_ BK1.out)); have NE7_3 : Aside0 (g7 ≠ g3) := Aside0.mk (by rw [hg]; exact Nat.ne_of_gt (qB_ BK3.out)); have NE7_5 : Aside0 (g7 ≠ g5) := Aside0.mk (by rw [hg]; exact Nat.ne_of_gt (qB_ BK5.out)); have nr_ := Aside0.mk (Kd.R_below RT.out hb); clear RT; have RT := nr_; clear nr_; have n1_ := Aside0.mk (qy_ BK1.out hb); have n3_ := Aside0.mk (qy_ BK3.out hb); have n5_ := Aside0.mk (qy_ BK5.out hb); have n0_ := Aside0.mk (qq_ HB.out hb); have BK7 := Aside0.mk hbox; clear BK1; have BK1 := n1_; clear n1_; clear BK3; have BK3 := n3_; clear n3_; clear BK5; have BK5 := n5_; clear n5_; clear HB; have HB := n0_; clear n0_ hbox hb hg) | ((with_reducible refine gate_storeV (ty := 47) (x := .tmp 7) (y := .tmp 23) rfl ?_); refine store_eventV rfl 47 (.tmp 7) (.tmp 23) rfl g7 _ rfl rfl 47 _ BK7.out (by kernel_rfl) rfl (by simp [Value.oneCell']) ?_; intro ws7_23 hn ho hb; have nr_ := Aside0.mk (Kd.R_mono (Kd.R_move (Kd.R_types RT.out BK7.out (by decide)) (fun k hk => ho k hk.2)) (fun _ _ => trivial)); clear RT; have RT := nr_; clear nr_; have n1_ := Aside0.mk ((ho _ (Ne.symm NE7_1.out)).trans BK1.out); have n3_ := Aside0.mk ((ho _ (Ne.symm NE7_3.out)).trans BK3.out); have n5_ := Aside0.mk ((ho _ (Ne.symm NE7_5.out)).trans BK5.out); have n0_ := Aside0.mk (hb _ _ GE7.out HB.out); have nn_ := Aside0.mk hn; clear BK1; have BK1 := n1_; clear n1_; clear BK3; have BK3 := n3_; clear n3_; clear BK5; have BK5 := n5_; clear n5_; clear HB BK7; have HB := n0_; have BK7 := nn_; clear n0_ nn_ hn ho hb; (try clear x1_0); have x1_0 := (qm_ BK1.out 0).trans rfl; (try clear x3_0); have x3_0 := (qm_ BK3.out 0).trans rfl; (try clear x3_1); have x3_1 := (qm_ BK3.out 1).trans rfl; (try clear x5_0); have x5_0 := (qm_ BK5.out 0).trans rfl; (try clear x7_0); have x7_0 := (qm_ BK7.out 0).trans rfl; (try clear x7_1); have x7_1 := (qm_ BK7.out 1).trans rfl; (try clear x7_2); have x7_2 := (qm_ BK7.out 2).trans rfl; (try clear x7_3); have x7_3 := (qm_ BK7.out 3).trans rfl) | fail)
           go_quiet (first | (go_at_call_of 24 (Value.int .i64 n.f2); exact Calls.quiet_of_same (op24.calls w.heap.size g1 g5 (some ad) c0_0 l0_0 (.slice At ts.length ct) ts n.f2 6 s1 _ (qa_ BK1.out _) (Kd.C_below HR0.out (qc_ HB.out _)) (qa_ BK5.out _) (Kd.R_drewN RT.out _) H1.out)) | (go_at_call_of 24 (Value.int .i64 n.f3); exact Calls.quiet_of_same (op24.calls w.heap.size g1 g5 (some ad) c0_0 l0_0 (.slice At ts.length ct) ts n.f3 5 s2 _ (qa_ BK1.out _) (Kd.C_below HR0.out (qc_ HB.out _)) (qa_ BK5.out _) (Kd.R_drewN RT.out _) H2.out)) | fail)
           have mr_ := Aside0.mk (Kd.R_drewN RT.out nq)
           have mb_ := Aside0.mk (qc_ HB.out nq)
           have m1_ := Aside0.mk (qa_ BK1.out nq)
           have m3_ := Aside0.mk (qa_ BK3.out nq)
           have m5_ := Aside0.mk (qa_ BK5.out nq)
           have m7_ := Aside0.mk (qa_ BK7.out nq)
           clear RT HB BK1 BK3 BK5 BK7 x1_0 x3_0 x3_1 x5_0 x7_0 x7_1 x7_2 x7_3
           generalize ws7_23.drewN nq = wz at mr_ mb_ m1_ m3_ m5_ m7_ ⊢
           have RT := mr_
           have HB := mb_
           have BK1 := m1_
           have BK3 := m3_
           have BK5 := m5_
           have BK7 := m7_
           have x5_0 := (qm_ BK5.out 0).trans rfl
           clear mr_ mb_ m1_ m3_ m5_ m7_
           go_wp2_with (first | ((with_reducible refine gate_builtin (b := .append) (xs := #[.tmp 72, .tmp 74]) rfl ?_); at_builtin; refine Kd.R_append Kd.string (w0 := w) w.heap.size rfl (.tmp 72) (.tmp 74) 50 9 (.string ByteArray.empty) 16 rfl Tryd.underlying50 infoS rfl (by decide) (by decide) _ _ (s1 ++ (⟨#[32, 97, 110, 100, 32]⟩ : ByteArray) ++ s2) [.string (s1 ++ (⟨#[32, 97, 110, 100, 32]⟩ : ByteArray) ++ s2)] (fun _ => True) (fun _ => False) rfl rfl rfl (fun _ hk => hk.elim) (fun _ _ => trivial) RT.out HB.out HB.out.size LEN.out ?_; intro v1 w11 ho hb hg hat; obtain ⟨Av, cv, ev_⟩ := Kd.R_slice ho; rw [List.length_append, List.length_singleton] at ev_; subst ev_; have n1_ := Aside0.mk (blk_grown BK1.out hg (Kd.R_ne RT.out BK1.out (by decide))); have n3_ := Aside0.mk (blk_grown BK3.out hg (Kd.R_ne RT.out BK3.out (by decide))); have n5_ := Aside0.mk (blk_grown BK5.out hg (Kd.R_ne RT.out BK5.out (by decide))); have n0_ := Aside0.mk hb; have nr_ := Aside0.mk ho; clear HB RT BK1 BK3 BK5 BK7; have HB := n0_; have RT := nr_; have BK1 := n1_; have BK3 := n3_; have BK5 := n5_; clear n0_ nr_ n1_ n3_ n5_ ho hb hg hat; (try clear x5_0); have x5_0 := (qm_ BK5.out 0).trans rfl; have z5 := qd_ BK5 0) | fail)
           go_roundg kz
           case measure => omega
           case rel => exact ⟨ts ++ [s1 ++ (⟨#[32, 97, 110, 100, 32]⟩ : ByteArray) ++ s2], done ++ [n], t, Av, cv, by first | exact congrArg _ hw1.out | (rw [List.length_append, List.length_singleton]; exact congrArg _ hw1.out) | (rw [List.length_append, List.length_singleton]; rfl), HK1, ⟨by rw [HL.out, List.append_assoc]; rfl⟩, ⟨by rw [List.length_append, List.length_append, List.length_singleton, List.length_singleton, HD.out]⟩, HF2, ⟨by rw [List.length_append, List.length_singleton]; exact Kd.R_set RT.out BK5.out (by decide) _ _⟩, ⟨qn_ (p := ⟨g5, 0, none⟩) BK1.out (Ne.symm NE5_1.out) _⟩, ⟨qn_ (p := ⟨g5, 0, none⟩) BK3.out (Ne.symm NE5_3.out) _⟩, ⟨by rw [List.length_append, List.length_singleton]; exact qA_ BK5.out 0 _ rfl⟩, ⟨below_put HB.out GE5.out 0 _⟩⟩
          ·rw [if_neg k6] at hN
           have k6b : (n.f0 == 6) = false := beq_eq_false_iff_ne.mpr k6
           clear k6
           replace hN := Option.bind_eq_some_iff.mp hN
           obtain ⟨s1, hs, hN⟩ := hN
           replace hN := Option.bind_eq_some_iff.mp hN
           obtain ⟨s2, hs2, hN⟩ := hN
           obtain rfl := Option.some.inj hN
           have H2 := Aside0.mk hs2
           clear hs2 hN
           have H1 := Aside0.mk hs
           have hcat1 := cat_ s1 (⟨#[32, 111, 114, 32]⟩ : ByteArray) (Nat.le_trans (Nat.add_le_add (opM_size hs) (show ((⟨#[32, 111, 114, 32]⟩ : ByteArray)).size ≤ 100 by decide)) (by decide))
           have hcat2 := cat_ (s1 ++ (⟨#[32, 111, 114, 32]⟩ : ByteArray)) s2 (Nat.le_trans (Nat.add_le_add (show (s1 ++ (⟨#[32, 111, 114, 32]⟩ : ByteArray)).size ≤ 200000 from by rw [ByteArray.size_append]; exact Nat.le_trans (Nat.add_le_add (opM_size hs) (show ((⟨#[32, 111, 114, 32]⟩ : ByteArray)).size ≤ 100 by decide)) (by decide)) (opM_size H2.out)) (by decide))
           clear hs
           go_wp2_with (first | ((with_reducible refine gate_dst (N := 7) rfl ?_); refine qE_ ?hg (N := 7) ?hd (cs := #[.int .i64 0, .int .i64 0, .int .i64 0, .int .i64 0]) (t := 47) ?hr ?_; (case hd => rfl); (case hg => rfl); (case hr => first | kernel_rfl | (go_simp; done) | (go_simp; rfl)); intro g7 hg wn7 hbox hb; have GE7 : Aside0 (w.heap.size ≤ g7) := Aside0.mk (by rw [hg]; exact HB.out.size); have NE7_1 : Aside0 (g7 ≠ g1) := Aside0.mk (by rw [hg]; exact Nat.ne_of_gt (qB_ BK1.out)); have NE7_3 : Aside0 (g7 ≠ g3) := Aside0.mk (by rw [hg]; exact Nat.ne_of_gt (qB_ BK3.out)); have NE7_5 : Aside0 (g7 ≠ g5) := Aside0.mk (by rw [hg]; exact Nat.ne_of_gt (qB_ BK5.out)); have nr_ := Aside0.mk (Kd.R_below RT.out hb); clear RT; have RT := nr_; clear nr_; have n1_ := Aside0.mk (qy_ BK1.out hb); have n3_ := Aside0.mk (qy_ BK3.out hb); have n5_ := Aside0.mk (qy_ BK5.out hb); have n0_ := Aside0.mk (qq_ HB.out hb); have BK7 := Aside0.mk hbox; clear BK1; have BK1 := n1_; clear n1_; clear BK3; have BK3 := n3_; clear n3_; clear BK5; have BK5 := n5_; clear n5_; clear HB; have HB := n0_; clear n0_ hbox hb hg) | ((with_reducible refine gate_storeV (ty := 47) (x := .tmp 7) (y := .tmp 23) rfl ?_); refine store_eventV rfl 47 (.tmp 7) (.tmp 23) rfl g7 _ rfl rfl 47 _ BK7.out (by kernel_rfl) rfl (by simp [Value.oneCell']) ?_; intro ws7_23 hn ho hb; have nr_ := Aside0.mk (Kd.R_mono (Kd.R_move (Kd.R_types RT.out BK7.out (by decide)) (fun k hk => ho k hk.2)) (fun _ _ => trivial)); clear RT; have RT := nr_; clear nr_; have n1_ := Aside0.mk ((ho _ (Ne.symm NE7_1.out)).trans BK1.out); have n3_ := Aside0.mk ((ho _ (Ne.symm NE7_3.out)).trans BK3.out); have n5_ := Aside0.mk ((ho _ (Ne.symm NE7_5.out)).trans BK5.out); have n0_ := Aside0.mk (hb _ _ GE7.out HB.out); have nn_ := Aside0.mk hn; clear BK1; have BK1 := n1_; clear n1_; clear BK3; have BK3 := n3_; clear n3_; clear BK5; have BK5 := n5_; clear n5_; clear HB BK7; have HB := n0_; have BK7 := nn_; clear n0_ nn_ hn ho hb; (try clear x1_0); have x1_0 := (qm_ BK1.out 0).trans rfl; (try clear x3_0); have x3_0 := (qm_ BK3.out 0).trans rfl; (try clear x3_1); have x3_1 := (qm_ BK3.out 1).trans rfl; (try clear x5_0); have x5_0 := (qm_ BK5.out 0).trans rfl; (try clear x7_0); have x7_0 := (qm_ BK7.out 0).trans rfl; (try clear x7_1); have x7_1 := (qm_ BK7.out 1).trans rfl; (try clear x7_2); have x7_2 := (qm_ BK7.out 2).trans rfl; (try clear x7_3); have x7_3 := (qm_ BK7.out 3).trans rfl) | fail)
           go_quiet (first | (go_at_call_of 24 (Value.int .i64 n.f2); exact Calls.quiet_of_same (op24.calls w.heap.size g1 g5 (some ad) c0_0 l0_0 (.slice At ts.length ct) ts n.f2 7 s1 _ (qa_ BK1.out _) (Kd.C_below HR0.out (qc_ HB.out _)) (qa_ BK5.out _) (Kd.R_drewN RT.out _) H1.out)) | (go_at_call_of 24 (Value.int .i64 n.f3); exact Calls.quiet_of_same (op24.calls w.heap.size g1 g5 (some ad) c0_0 l0_0 (.slice At ts.length ct) ts n.f3 6 s2 _ (qa_ BK1.out _) (Kd.C_below HR0.out (qc_ HB.out _)) (qa_ BK5.out _) (Kd.R_drewN RT.out _) H2.out)) | fail)
           have mr_ := Aside0.mk (Kd.R_drewN RT.out nq)
           have mb_ := Aside0.mk (qc_ HB.out nq)
           have m1_ := Aside0.mk (qa_ BK1.out nq)
           have m3_ := Aside0.mk (qa_ BK3.out nq)
           have m5_ := Aside0.mk (qa_ BK5.out nq)
           have m7_ := Aside0.mk (qa_ BK7.out nq)
           clear RT HB BK1 BK3 BK5 BK7 x1_0 x3_0 x3_1 x5_0 x7_0 x7_1 x7_2 x7_3
           generalize ws7_23.drewN nq = wz at mr_ mb_ m1_ m3_ m5_ m7_ ⊢
           have RT := mr_
           have HB := mb_
           have BK1 := m1_
           have BK3 := m3_
           have BK5 := m5_
           have BK7 := m7_
           have x5_0 := (qm_ BK5.out 0).trans rfl
           clear mr_ mb_ m1_ m3_ m5_ m7_
           go_wp2_with (first | ((with_reducible refine gate_builtin (b := .append) (xs := #[.tmp 72, .tmp 74]) rfl ?_); at_builtin; refine Kd.R_append Kd.string (w0 := w) w.heap.size rfl (.tmp 72) (.tmp 74) 50 9 (.string ByteArray.empty) 16 rfl Tryd.underlying50 infoS rfl (by decide) (by decide) _ _ (s1 ++ (⟨#[32, 111, 114, 32]⟩ : ByteArray) ++ s2) [.string (s1 ++ (⟨#[32, 111, 114, 32]⟩ : ByteArray) ++ s2)] (fun _ => True) (fun _ => False) rfl rfl rfl (fun _ hk => hk.elim) (fun _ _ => trivial) RT.out HB.out HB.out.size LEN.out ?_; intro v1 w11 ho hb hg hat; obtain ⟨Av, cv, ev_⟩ := Kd.R_slice ho; rw [List.length_append, List.length_singleton] at ev_; subst ev_; have n1_ := Aside0.mk (blk_grown BK1.out hg (Kd.R_ne RT.out BK1.out (by decide))); have n3_ := Aside0.mk (blk_grown BK3.out hg (Kd.R_ne RT.out BK3.out (by decide))); have n5_ := Aside0.mk (blk_grown BK5.out hg (Kd.R_ne RT.out BK5.out (by decide))); have n0_ := Aside0.mk hb; have nr_ := Aside0.mk ho; clear HB RT BK1 BK3 BK5 BK7; have HB := n0_; have RT := nr_; have BK1 := n1_; have BK3 := n3_; have BK5 := n5_; clear n0_ nr_ n1_ n3_ n5_ ho hb hg hat; (try clear x5_0); have x5_0 := (qm_ BK5.out 0).trans rfl; have z5 := qd_ BK5 0) | fail)
           go_roundg kz
           case measure => omega
           case rel => exact ⟨ts ++ [s1 ++ (⟨#[32, 111, 114, 32]⟩ : ByteArray) ++ s2], done ++ [n], t, Av, cv, by first | exact congrArg _ hw1.out | (rw [List.length_append, List.length_singleton]; exact congrArg _ hw1.out) | (rw [List.length_append, List.length_singleton]; rfl), HK1, ⟨by rw [HL.out, List.append_assoc]; rfl⟩, ⟨by rw [List.length_append, List.length_append, List.length_singleton, List.length_singleton, HD.out]⟩, HF2, ⟨by rw [List.length_append, List.length_singleton]; exact Kd.R_set RT.out BK5.out (by decide) _ _⟩, ⟨qn_ (p := ⟨g5, 0, none⟩) BK1.out (Ne.symm NE5_1.out) _⟩, ⟨qn_ (p := ⟨g5, 0, none⟩) BK3.out (Ne.symm NE5_3.out) _⟩, ⟨by rw [List.length_append, List.length_singleton]; exact qA_ BK5.out 0 _ rfl⟩, ⟨below_put HB.out GE5.out 0 _⟩⟩
  ·rw [if_neg cl] at h
   cases h
 ·rw [if_neg c2] at h
  simp only [Option.some.injEq, Prod.mk.injEq] at h
  obtain ⟨rfl, rfl, rfl⟩ := h
  have c3 : (v1 == 0 && (v2 == 0)) = false := by
   rw [Bool.and_eq_false_iff]
   by_cases d1 : v1 = 0
   ·exact .inr (beq_eq_false_iff_ne.mpr fun d2 => c2 ⟨d1, d2⟩)
   ·exact .inl (beq_eq_false_iff_ne.mpr d1)
  clear c2
  go_enter Tryd.func9, Tryd.ntmps9
  go_wp2_with (first | ((with_reducible refine gate_dst (N := 1) rfl ?_); refine qE_ ?hg (N := 1) ?hd (cs := #[.slice A0_0 l0_0.length c0_0]) (t := 24) ?hr ?_; (case hd => rfl); (case hg => rfl); (case hr => first | kernel_rfl | (go_simp; done) | (go_simp; rfl)); intro g1 hg wn1 hbox hb; have GE1 : Aside0 (w.heap.size ≤ g1) := Aside0.mk (by rw [hg]; exact HB.out.size); have n0_ := Aside0.mk (qq_ HB.out hb); have BK1 := Aside0.mk hbox; clear HB; have HB := n0_; clear n0_ hbox hb hg; (try clear x1_0); have x1_0 := (qm_ BK1.out 0).trans rfl) | ((with_reducible refine gate_dst (N := 3) rfl ?_); refine qE_ ?hg (N := 3) ?hd (cs := #[.int .i64 0, .int .i64 0]) (t := 28) ?hr ?_; (case hd => rfl); (case hg => rfl); (case hr => first | kernel_rfl | (go_simp; done) | (go_simp; rfl)); intro g3 hg wn3 hbox hb; have GE3 : Aside0 (w.heap.size ≤ g3) := Aside0.mk (by rw [hg]; exact HB.out.size); have NE3_1 : Aside0 (g3 ≠ g1) := Aside0.mk (by rw [hg]; exact Nat.ne_of_gt (qB_ BK1.out)); have n1_ := Aside0.mk (qy_ BK1.out hb); have n0_ := Aside0.mk (qq_ HB.out hb); have BK3 := Aside0.mk hbox; clear BK1; have BK1 := n1_; clear n1_; clear HB; have HB := n0_; clear n0_ hbox hb hg; (try clear x1_0); have x1_0 := (qm_ BK1.out 0).trans rfl) | ((with_reducible refine qs_ (f := 13) rfl ?_); refine goesL_ (some 12) rfl rfl Tryd.func13 (by kernel_rfl) rfl #[.agg #[.slice A0_0 l0_0.length c0_0]] rfl (by (try simp only [List.map_toArray, List.map_cons, List.map_nil]); first | done | rfl) ?_; refine (qw_.calls k A0_0 c0_0 l0_0 _ _ _ (Kd.C_below HR0.out HB.out) HC0.out HV.out).mono ?_; rintro e w4 ⟨rfl, hb⟩; refine ⟨_, rfl, ?_⟩; have n1_ := Aside0.mk (qy_ BK1.out hb); have n3_ := Aside0.mk (qy_ BK3.out hb); have n0_ := Aside0.mk (qq_ HB.out hb); clear BK1; have BK1 := n1_; clear n1_; clear BK3; have BK3 := n3_; clear n3_; clear HB; have HB := n0_; clear n0_ hb; (try clear x1_0); have x1_0 := (qm_ BK1.out 0).trans rfl; (try clear x3_0); have x3_0 := (qm_ BK3.out 0).trans rfl; (try clear x3_1); have x3_1 := (qm_ BK3.out 1).trans rfl) | ((with_reducible refine gate_dst (N := 4) rfl ?_); refine qE_ ?hg (N := 4) ?hd (cs := #[.int .i64 0, .int .i64 0]) (t := 28) ?hr ?_; (case hd => rfl); (case hg => rfl); (case hr => first | kernel_rfl | (go_simp; done) | (go_simp; rfl)); intro g4 hg wn4 hbox hb; have GE4 : Aside0 (w.heap.size ≤ g4) := Aside0.mk (by rw [hg]; exact HB.out.size); have NE4_1 : Aside0 (g4 ≠ g1) := Aside0.mk (by rw [hg]; exact Nat.ne_of_gt (qB_ BK1.out)); have NE4_3 : Aside0 (g4 ≠ g3) := Aside0.mk (by rw [hg]; exact Nat.ne_of_gt (qB_ BK3.out)); have n1_ := Aside0.mk (qy_ BK1.out hb); have n3_ := Aside0.mk (qy_ BK3.out hb); have n0_ := Aside0.mk (qq_ HB.out hb); have BK4 := Aside0.mk hbox; clear BK1; have BK1 := n1_; clear n1_; clear BK3; have BK3 := n3_; clear n3_; clear HB; have HB := n0_; clear n0_ hbox hb hg) | ((with_reducible refine gate_storeV (ty := 28) (x := .tmp 4) (y := .tmp 12) rfl ?_); refine store_eventV rfl 28 (.tmp 4) (.tmp 12) rfl g4 _ rfl rfl 28 _ BK4.out (by kernel_rfl) rfl (by simp [Value.oneCell']) ?_; intro ws4_12 hn ho hb; have n1_ := Aside0.mk ((ho _ (Ne.symm NE4_1.out)).trans BK1.out); have n3_ := Aside0.mk ((ho _ (Ne.symm NE4_3.out)).trans BK3.out); have n0_ := Aside0.mk (hb _ _ GE4.out HB.out); have nn_ := Aside0.mk hn; clear BK1; have BK1 := n1_; clear n1_; clear BK3; have BK3 := n3_; clear n3_; clear HB BK4; have HB := n0_; have BK4 := nn_; clear n0_ nn_ hn ho hb; (try clear x1_0); have x1_0 := (qm_ BK1.out 0).trans rfl; (try clear x3_0); have x3_0 := (qm_ BK3.out 0).trans rfl; (try clear x3_1); have x3_1 := (qm_ BK3.out 1).trans rfl; (try clear x4_0); have x4_0 := (qm_ BK4.out 0).trans rfl; (try clear x4_1); have x4_1 := (qm_ BK4.out 1).trans rfl) | fail)
  have B4_ := BK4.out
  refine start_ (n := 3) (S := fun W => W.heap[g4]? = some (.cells #[.int .i64 v1, .int .i64 v2] 28 (0, 0))) (ds := []) #[false, false, false] (by kernel_rfl) rfl rfl (qb_ B4_) (fun hHeld => ?_)
  have B3 := qb_ BK3.out
  have HBd := qf_ HB.out
  generalize ws4_12.drew = wd at hHeld B3 HBd ⊢
  refine take_ (i := 0) (N := some 16) (v := ?_) (a' := ?_) #[true, false, false] rfl rfl (by kernel_rfl) (fun _ _ _ h => h) (Or.inl ⟨by rfl, ?_⟩) hHeld ?_ ?_
  rotate_left
  ·rintro w' s0
   have s2 := (qm_ s0 0).trans rfl
   have s3 := (qm_ s0 1).trans rfl
   clear s0
   go_simp
   with_reducible rfl
  rotate_left
  ·simp only [Act.put, List.setIfInBounds_toArray, List.set_cons_zero, List.set_cons_succ]
   rfl
  refine pure_ (i := 1) (N := some 2) (v := ?_) (a' := ?_) #[true, true, false] rfl rfl (by kernel_rfl) (fun _ _ _ h => h) (Or.inl ⟨by rfl, ?_⟩) ?_ ?_
  rotate_left
  ·intro w'
   go_simp
   with_reducible rfl
  rotate_left
  ·simp only [Act.put, List.setIfInBounds_toArray, List.set_cons_zero, List.set_cons_succ]
   rfl
  refine one_ (i := 2) (N := none) #[true, true, true] rfl rfl (by kernel_rfl) (by decide) (fun K hK => ?_)
  rw [if_pos (by rfl)]
  refine wp_store_row 28 (.tmp 3) (.tmp 16) rfl g3 #[.int .i64 v1, .int .i64 v2] rfl rfl 28 #[.int .i64 0, .int .i64 0] B3 (by kernel_rfl) rfl (by simp [Value.oneCell']) ?_
  refine hK.out _ _ ((setRow_other _ g3 g4 _ (NE4_3.out)).trans hHeld) (fun hHeld3 => ?_)
  clear hK K
  refine done_ (by kernel_rfl) ?_
  try go_wp2
  refine bodyPost_ret (results_tc rfl _ _ g3 28 #[.int .i64 v1, .int .i64 v2] (0, 0) _ rfl (setRow_heap _ g3 #[.int .i64 0, .int .i64 0] #[.int .i64 v1, .int .i64 v2] 28 (0, 0) B3) Tryd.underlying28 rfl (by kernel_rfl)) rfl ?_
  exact ⟨rfl, below_setRow HBd GE3.out _⟩
end Go.Proofs.YtblkkhddefnkpaaDoor.PPo
