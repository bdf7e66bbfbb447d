/- Parse. By hand. -/
import Derived.Test.YtblkkhddefnkpaaDoorPd
import Derived.Test.YtblkkhddefnkpaaDoorPPox5
import Derived.Laws.CopyOwn
namespace Go.Proofs.YtblkkhddefnkpaaDoor.PPo
open Go.RowKit Go.Proofs.YtblkkhddefnkpaaDoorW.PrintWords Go.Proofs.YtblkkhddefnkpaaDoorW.PrintLast Go.Proofs.YtblkkhddefnkpaaDoorW.PrintMore
attribute [local go_sem] max2_int min2_int max_two min_two max_three min_three max_four min_four
attribute [local go_sem] World.cell?_alloc_some
attribute [local go_sem high] eqA28
set_option linter.unusedVariables false
set_option linter.unusedSimpArgs false


def pEnd (s : PS) : Option PS := match s.ws with | [] => none | x :: _ => if x.1.toList = ([] : List UInt8) then some s else pFail 1 s
def policy_Parse.f (k : Nat) (a0 : ByteArray) : Option (List S47 × Int × Int) := if (a0.size : Int) > 200 then some ([], 2, -1) else (scanM a0).bind fun ws => (eithM (fac k) k ⟨ws, [], 0, 0⟩).bind fun a => (pEnd a.2).bind fun s =>
 if s.fc = 0 ∧ s.fi = 0 then (qw_.f k s.ns).bind fun v => (if v.1 = 0 ∧ v.2 = 0 then some (s.ns, 0, 0) else some ([], 10, -1)) else some ([], s.fc, s.fi)
theorem rowL.mono {op op' : PS → Option (Int × PS)} (hop : ∀ s, LeO (op s) (op' s)) (sign : ByteArray) (kind : Int) : ∀ (k : Nat) (l : Int) (s : PS), LeO (rowL op sign kind k l s) (rowL op' sign kind (k + 1) l s)
 | 0, _, _ => LeO.none _
 | k + 1, l, s => LeO.bind (LeO.refl _) (fun _ => LeO.ite (LeO.bind (hop _) (fun _ => LeO.bind (LeO.refl _) (fun _ => rowL.mono hop sign kind k _ _))) (LeO.refl _))
theorem rowM.mono {op op' : PS → Option (Int × PS)} (hop : ∀ s, LeO (op s) (op' s)) (sign : ByteArray) (kind : Int) (k : Nat) (s : PS) : LeO (rowM op sign kind k s) (rowM op' sign kind (k + 1) s) := LeO.bind (hop _) (fun _ => rowL.mono hop sign kind k _ _)
theorem facT.mono {f f' e e' : PS → Option (Int × PS)} (hf : ∀ s, LeO (f s) (f' s)) (he : ∀ s, LeO (e s) (e' s)) (s : PS) : LeO (facT f e s) (facT f' e' s) := by
 unfold facT
 repeat' first | exact LeO.refl _ | exact hf _ | exact LeO.bind (he _) (fun _ => LeO.refl _) | refine LeO.ite ?_ ?_ | exact LeO.bind (hf _) (fun _ => LeO.refl _) | refine LeO.bind (LeO.refl _) (fun _ => ?_)
theorem eithM.mono {f f' : PS → Option (Int × PS)} (hf : ∀ s, LeO (f s) (f' s)) (k : Nat) (s : PS) : LeO (eithM f k s) (eithM f' (k + 1) s) := rowM.mono (fun s => rowM.mono hf _ _ k s) _ _ k s
theorem fac.mono : ∀ (k : Nat) (s : PS), LeO (fac k s) (fac (k + 1) s)
 | 0, _ => LeO.none _
 | k + 1, s => facT.mono (fac.mono k) (eithM.mono (fac.mono k) k) s
theorem policy_Parse.mono : ∀ a0 k, LeO (policy_Parse.f k a0) (policy_Parse.f (k + 1) a0) := by
 intro a0 k
 unfold policy_Parse.f
 refine LeO.ite (LeO.refl _) (LeO.bind (LeO.refl _) (fun _ => LeO.bind (eithM.mono (fac.mono k) k _) (fun _ => LeO.bind (LeO.refl _) (fun _ => LeO.ite (LeO.bind (qw_.mono _ _) (fun _ => LeO.refl _)) (LeO.refl _)))))
theorem add_ (g n : Nat) : Addr.add ⟨g, 0, none⟩ n = ⟨g, n, none⟩ := by
 unfold Addr.add
 split <;> simp_all
theorem words_of_R {w : World} {base : Nat} {v : Value} {ws : List Wd} (h : Kd.R kw 67 w base (fun _ => True) v ws) (hp : 0 < ws.length) : ∃ gw cap CW, v = .slice (some ⟨gw, 0, none⟩) ws.length cap ∧ w.heap[gw]? = some (.cells CW 67 (0, 0)) ∧ ws.length ≤ cap ∧ ∀ (j : Nat) (x : Wd), ws[j]? = some x → CW[0 + 2 * j]? = some (.string x.1) ∧ CW[0 + (2 * j + 1)]? = some (.int .i64 x.2) := by
 obtain ⟨gw, cap, rfl, _, _, CW, hc⟩ := Kd.R_form h hp
 obtain ⟨_, hcap, hC⟩ := Kd.R_reads' h
 refine ⟨gw, cap, CW, rfl, hc, hcap, fun j x hj => ?_⟩
 have hjl : j < ws.length := (List.getElem?_eq_some_iff.1 hj).1
 obtain ⟨ad, c, he, _, hK, hcc⟩ := Kd.C_get hC (⟨#[]⟩, 0) (j : Int) (by omega) (by omega)
 injection he with he
 subst he
 rw [Int.toNat_natCast, List.getD_eq_getElem?_getD, hj] at hK
 obtain ⟨c1, c2, rfl, h1, h2⟩ := hK
 have h1' : c1 = [.string x.1] := h1
 have h2' : c2 = [.int .i64 x.2] := h2
 subst h1'
 subst h2'
 have e0 := hcc 0 _ rfl
 have e1 := hcc 1 _ rfl
 rw [Int.toNat_natCast] at e0 e1
 rw [add_ gw (j * kw.sz + 0), qm_ hc] at e0
 rw [add_ gw (j * kw.sz + 1), qm_ hc] at e1
 rw [show 0 + 2 * j = j * kw.sz + 0 from (by show 0 + 2 * j = j * 2 + 0; omega), show 0 + (2 * j + 1) = j * kw.sz + 1 from (by show 0 + (2 * j + 1) = j * 2 + 1; omega)]
 exact ⟨e0, e1⟩
theorem scL_ne (text : ByteArray) : ∀ (k i : Nat) (acc ws : List Wd), scL text k i acc = some ws → 0 < ws.length
 | 0, _, _, _, h => by cases h
 | k + 1, i, acc, ws, h => by
  unfold scL at h
  by_cases h1 : i < text.size
  ·rw [if_pos h1] at h
   by_cases h2 : bt text (i : Int) = 32
   ·rw [if_pos h2] at h
    exact scL_ne text k _ _ _ h
   ·rw [if_neg h2] at h
    by_cases h3 : bt text (i : Int) = 40 ∨ bt text (i : Int) = 41
    ·rw [if_pos h3] at h
     exact scL_ne text k _ _ _ h
    ·rw [if_neg h3] at h
     by_cases h4 : Lib.indexAny (text.extract i text.size).data.toList [32, 40, 41] < 0
     ·rw [if_pos h4] at h
      exact scL_ne text k _ _ _ h
     ·rw [if_neg h4] at h
      by_cases h5 : i + (Lib.indexAny (text.extract i text.size).data.toList [32, 40, 41]).toNat ≤ text.size
      ·rw [if_pos h5] at h
       exact scL_ne text k _ _ _ h
      ·rw [if_neg h5] at h
       cases h
  ·rw [if_neg h1] at h
   obtain rfl := Option.some.inj h
   simp
theorem scan_ne {text : ByteArray} {ws : List Wd} (h : scanM text = some ws) : 0 < ws.length := by
 unfold scanM at h
 by_cases q : text.size ≤ 1000 ∧ (∀ b ∈ text.data.toList, b.toNat < 128)
 ·rw [if_pos q] at h
  exact scL_ne _ _ _ _ _ h
 ·rw [if_neg q] at h
  cases h
theorem gate_storeV {P : Program} {ops : Array Oper} {rest : List Oper} {o : Oper} {a : Act} {W : World} {Q : Exit → Act → World → Prop} {ty : TypeId} {x y : Operand} (_ho : o.op = .store ty x y) (h : wpList P ops Q (o :: rest) a W) : wpList P ops Q (o :: rest) a W := h
theorem store_eventV {P : Program} {ops : Array Oper} {rest : List Oper} {o : Oper} {a : Act} {w : World} {Q : Exit → Act → World → Prop} (hgd : o.guard = none) (ty : TypeId) (x y : Operand) (ho : o.op = .store ty x y)
  (g : Nat) (cells : Array Value) (hx : a.eval x = .pointer (some ⟨g, 0, none⟩)) (hy : a.eval y = .agg cells)
  (t : TypeId) (old : Array Value) (hg : w.heap[g]? = some (.cells old t (0, 0))) (hi : (P.info? ty).map (·.size) = some cells.size)
  (hold : old.size = cells.size) (h1 : cells.all (·.oneCell') = true)
  (h : ∀ w' : World, w'.heap[g]? = some (.cells cells t (0, 0)) → (∀ k, k ≠ g → w'.heap[k]? = w.heap[k]?) → (∀ (B : Nat) (w0 : World), B ≤ g → Below B w0 w → Below B w0 w') → wpList P ops Q rest (a.put o.dst undef) w') : wpList P ops Q (o :: rest) a w :=
 wpList_store_row hgd ty x y ho g cells hx hy t old hg hi hold h1 (h _ (setRow_heap w g old cells t (0, 0) hg) (fun k hk => setRow_other w g k cells hk) (fun B w0 hB hb => below_setRow hb hB cells))
set_option maxHeartbeats 8000000 in
set_option maxRecDepth 100000 in
theorem policy_Parse.calls (k : Nat) (a0 : ByteArray) (r1 : List S47) (r2 r3 : Int) (w : World) (h : policy_Parse.f k a0 = some (r1, r2, r3)) :
  Calls Tryd.prog 19 #[.string a0] w fun e w' => ∃ v0_ : Value, e = .returned (.tuple #[.agg #[v0_], .agg #[.int .i64 r2, .int .i64 r3]]) ∧ Kd.R k47 47 w' w.heap.size (fun _ => True) v0_ r1 ∧ Below w.heap.size w w' := by
 have hu24 := Tryd.underlying24
 have hu28 := Tryd.underlying28
 have hu56 := Tryd.underlying56
 have hu67 := Tryd.underlying67
 have HB := Aside0.mk (Below.refl w.heap.size w)
 unfold policy_Parse.f at h
 by_cases q : (a0.size : Int) > 200
 ·rw [if_pos q] at h
  simp only [Option.some.injEq, Prod.mk.injEq] at h
  obtain ⟨rfl, rfl, rfl⟩ := h
  have qa : decide ((a0.size : Int) > 200) = true := decide_eq_true q
  have qb : decide ((200 : Int) < (a0.size : Int)) = true := decide_eq_true q
  go_enter Tryd.func19, Tryd.ntmps19
  go_wp2_with (first | ((with_reducible refine gate_dst (N := 2) rfl ?_); refine qE_ ?hg (N := 2) ?hd (cs := #[.slice none 0 0]) (t := 24) ?hr ?_; (case hd => rfl); (case hg => rfl); (case hr => first | kernel_rfl | (go_simp; done) | (go_simp; rfl)); intro g2 hg wn2 hbox hb; have GE2 : Aside0 (w.heap.size ≤ g2) := Aside0.mk (by rw [hg]; exact HB.out.size); have n0_ := Aside0.mk (qq_ HB.out hb); have BK2 := Aside0.mk hbox; clear HB; have HB := n0_; clear n0_ hbox hb hg) | ((with_reducible refine gate_dst (N := 3) rfl ?_); refine qE_ ?hg (N := 3) ?hd (cs := #[.int .i64 0, .int .i64 0]) (t := 28) ?hr ?_; (case hd => rfl); (case hg => rfl); (case hr => first | kernel_rfl | (go_simp; done) | (go_simp; rfl)); intro g3 hg wn3 hbox hb; have GE3 : Aside0 (w.heap.size ≤ g3) := Aside0.mk (by rw [hg]; exact HB.out.size); have NE3_2 : Aside0 (g3 ≠ g2) := Aside0.mk (by rw [hg]; exact Nat.ne_of_gt (qB_ BK2.out)); have n2_ := Aside0.mk (qy_ BK2.out hb); have n0_ := Aside0.mk (qq_ HB.out hb); have BK3 := Aside0.mk hbox; clear BK2; have BK2 := n2_; clear n2_; clear HB; have HB := n0_; clear n0_ hbox hb hg) | ((with_reducible refine gate_storeV (ty := 24) (x := .tmp 2) (y := .tmp 9) rfl ?_); refine store_eventV rfl 24 (.tmp 2) (.tmp 9) rfl g2 _ rfl rfl 24 _ BK2.out (by kernel_rfl) rfl (by simp [Value.oneCell']) ?_; intro ws2_9 hn ho hb; have n3_ := Aside0.mk ((ho _ (NE3_2.out)).trans BK3.out); have n0_ := Aside0.mk (hb _ _ GE2.out HB.out); have nn_ := Aside0.mk hn; clear BK3; have BK3 := n3_; clear n3_; clear HB BK2; have HB := n0_; have BK2 := nn_; clear n0_ nn_ hn ho hb; (try clear x2_0); have x2_0 := (qm_ BK2.out 0).trans rfl; (try clear x3_0); have x3_0 := (qm_ BK3.out 0).trans rfl; (try clear x3_1); have x3_1 := (qm_ BK3.out 1).trans rfl) | ((with_reducible refine gate_storeV (ty := 28) (x := .tmp 3) (y := .tmp 10) rfl ?_); refine store_eventV rfl 28 (.tmp 3) (.tmp 10) rfl g3 _ rfl rfl 28 _ BK3.out (by kernel_rfl) rfl (by simp [Value.oneCell']) ?_; intro ws3_10 hn ho hb; have n2_ := Aside0.mk ((ho _ (Ne.symm NE3_2.out)).trans BK2.out); have n0_ := Aside0.mk (hb _ _ GE3.out HB.out); have nn_ := Aside0.mk hn; clear BK2; have BK2 := n2_; clear n2_; clear HB BK3; have HB := n0_; have BK3 := nn_; clear n0_ nn_ hn ho hb; (try clear x2_0); have x2_0 := (qm_ BK2.out 0).trans rfl; (try clear x3_0); have x3_0 := (qm_ BK3.out 0).trans rfl; (try clear x3_1); have x3_1 := (qm_ BK3.out 1).trans rfl) | fail)
  refine bodyPost_ret (results_cc rfl _ _ g2 g3 24 28 _ _ (0, 0) (0, 0) _ _ rfl BK2.out Tryd.underlying24 rfl (by kernel_rfl) rfl BK3.out Tryd.underlying28 rfl (by kernel_rfl)) rfl ?_
  exact ⟨_, rfl, Kd.R_nil _ _ _ _ _, HB.out⟩
 ·rw [if_neg q] at h
  have qa : decide ((a0.size : Int) > 200) = false := decide_eq_false q
  have qb : decide ((200 : Int) < (a0.size : Int)) = false := decide_eq_false q
  replace h := Option.bind_eq_some_iff.mp h
  obtain ⟨ws, hsc, h⟩ := h
  replace h := Option.bind_eq_some_iff.mp h
  obtain ⟨⟨r0, ws1, ns1, fc1, fi1⟩, he, h⟩ := h
  replace h := Option.bind_eq_some_iff.mp h
  obtain ⟨s2, hpe, h⟩ := h
  have HSC := Aside0.mk hsc
  have HNE := Aside0.mk (scan_ne hsc)
  have HE := Aside0.mk he
  clear hsc he q
  unfold pEnd at hpe
  dsimp only at hpe
  cases ws1 with
  | nil => cases hpe
  | cons x tl =>
   dsimp only at hpe
   have hl1 : (0 : Int) < ((tl.length + 1 : Nat) : Int) := by omega
   by_cases c1 : x.1.toList = ([] : List UInt8)
   ·rw [if_pos c1] at hpe
    obtain rfl := Option.some.inj hpe
    have c1b : (x.1.toList == ([] : List UInt8)) = true := beq_iff_eq.mpr c1
    clear hpe
    dsimp only at h
    by_cases c2 : fc1 = 0 ∧ fi1 = 0
    ·rw [if_pos c2] at h
     replace h := Option.bind_eq_some_iff.mp h
     obtain ⟨⟨v1, v2⟩, hv, h⟩ := h
     have HV := Aside0.mk hv
     obtain ⟨c3, c4⟩ := c2
     subst c3
     subst c4
     clear hv
     by_cases c5 : v1 = 0 ∧ v2 = 0
     ·rw [if_pos c5] at h
      simp only [Option.some.injEq, Prod.mk.injEq] at h
      obtain ⟨rfl, rfl, rfl⟩ := h
      obtain ⟨c6, c7⟩ := c5
      subst c6
      subst c7
      go_enter Tryd.func19, Tryd.ntmps19
      go_wp2_with (first | ((with_reducible refine gate_dst (N := 2) rfl ?_); refine qE_ ?hg (N := 2) ?hd (cs := #[.slice none 0 0]) (t := 24) ?hr ?_; (case hd => rfl); (case hg => rfl); (case hr => first | kernel_rfl | (go_simp; done) | (go_simp; rfl)); intro g2 hg wn2 hbox hb; have GE2 : Aside0 (w.heap.size ≤ g2) := Aside0.mk (by rw [hg]; exact HB.out.size); have n0_ := Aside0.mk (qq_ HB.out hb); have BK2 := Aside0.mk hbox; clear HB; have HB := n0_; clear n0_ hbox hb hg) | ((with_reducible refine gate_dst (N := 3) rfl ?_); refine qE_ ?hg (N := 3) ?hd (cs := #[.int .i64 0, .int .i64 0]) (t := 28) ?hr ?_; (case hd => rfl); (case hg => rfl); (case hr => first | kernel_rfl | (go_simp; done) | (go_simp; rfl)); intro g3 hg wn3 hbox hb; have GE3 : Aside0 (w.heap.size ≤ g3) := Aside0.mk (by rw [hg]; exact HB.out.size); have NE3_2 : Aside0 (g3 ≠ g2) := Aside0.mk (by rw [hg]; exact Nat.ne_of_gt (qB_ BK2.out)); have n2_ := Aside0.mk (qy_ BK2.out hb); have n0_ := Aside0.mk (qq_ HB.out hb); have BK3 := Aside0.mk hbox; clear BK2; have BK2 := n2_; clear n2_; clear HB; have HB := n0_; clear n0_ hbox hb hg) | ((with_reducible refine qs_ (f := 30) rfl ?_); refine goesL_ (some 12) rfl rfl Tryd.func30 (by kernel_rfl) rfl #[.string a0] rfl (by (try simp only [List.map_toArray, List.map_cons, List.map_nil]); first | done | rfl) ?_; refine (scan.calls a0 ws _ HSC.out).mono ?_; rintro e w4 ⟨v0_, rfl, ho_, hb⟩; obtain ⟨gw, cap, CW, rfl, hcw, hcap, hwl⟩ := words_of_R ho_ HNE.out; refine ⟨_, rfl, ?_⟩; have n0_ := Aside0.mk (qq_ HB.out hb); have n2_ := Aside0.mk (qy_ BK2.out hb); have n3_ := Aside0.mk (qy_ BK3.out hb); have WB := Aside0.mk hcw; have WC := Aside0.mk hcap; have WL := Aside0.mk hwl; clear HB BK2 BK3; have HB := n0_; have BK2 := n2_; have BK3 := n3_; clear n0_ n2_ n3_ ho_ hb hcw hcap hwl) | ((with_reducible refine gate_dst (N := 4) rfl ?_); refine qE_ ?hg (N := 4) ?hd (cs := #[.slice none 0 0, .slice none 0 0, .int .i64 0, .int .i64 0]) (t := 56) ?hr ?_; (case hd => rfl); (case hg => rfl); (case hr => first | kernel_rfl | (go_simp; done) | (go_simp; rfl)); intro g4 hg wn4 hbox hb; have LT2 : Aside0 (g2 < g4) := Aside0.mk (by rw [hg]; exact qB_ BK2.out); have LT3 : Aside0 (g3 < g4) := Aside0.mk (by rw [hg]; exact qB_ BK3.out); have GE4 : Aside0 (w.heap.size ≤ g4) := Aside0.mk (by rw [hg]; exact HB.out.size); have NE4_2 : Aside0 (g4 ≠ g2) := Aside0.mk (by rw [hg]; exact Nat.ne_of_gt (qB_ BK2.out)); have NE4_3 : Aside0 (g4 ≠ g3) := Aside0.mk (by rw [hg]; exact Nat.ne_of_gt (qB_ BK3.out)); have nw_ := Aside0.mk (qy_ WB.out hb); clear WB; have WB := nw_; clear nw_; have n2_ := Aside0.mk (qy_ BK2.out hb); have n3_ := Aside0.mk (qy_ BK3.out hb); have n0_ := Aside0.mk (qq_ HB.out hb); have BK4 := Aside0.mk hbox; clear BK2; have BK2 := n2_; clear n2_; clear BK3; have BK3 := n3_; clear n3_; clear HB; have HB := n0_; clear n0_ hbox hb hg) | ((with_reducible refine gate_storeV (ty := 56) (x := .tmp 4) (y := .tmp 13) rfl ?_); refine store_eventV rfl 56 (.tmp 4) (.tmp 13) rfl g4 _ rfl rfl 56 _ BK4.out (by kernel_rfl) rfl (by simp [Value.oneCell']) ?_; intro ws4_13 hn ho hb; have nw_ := Aside0.mk ((ho _ (blk_ne WB.out BK4.out (by decide))).trans WB.out); clear WB; have WB := nw_; clear nw_; have n2_ := Aside0.mk ((ho _ (Ne.symm NE4_2.out)).trans BK2.out); have n3_ := Aside0.mk ((ho _ (Ne.symm NE4_3.out)).trans BK3.out); have n0_ := Aside0.mk (hb _ _ GE4.out HB.out); have nn_ := Aside0.mk hn; clear BK2; have BK2 := n2_; clear n2_; clear BK3; have BK3 := n3_; clear n3_; clear HB BK4; have HB := n0_; have BK4 := nn_; clear n0_ nn_ hn ho hb; have PV : Aside0 (Pst ws4_13 g4 g4 gw CW ⟨ws, [], 0, 0⟩) := ⟨⟨0, cap, .slice none 0 0, ⟨BK4.out, Nat.le_refl _, WB.out, WL.out, Kd.R_nil _ _ _ _ _, WC.out⟩⟩⟩) | ((with_reducible refine qs_ (f := 31) rfl ?_); refine goesL_ (some 14) rfl rfl Tryd.func31 (by kernel_rfl) rfl #[.pointer (some ⟨g4, 0, none⟩)] rfl (by (try simp only [List.map_toArray, List.map_cons, List.map_nil]); first | done | rfl) ?_; refine (eitherK.calls g4 g4 gw CW k _ ⟨ws, [], 0, 0⟩ ⟨x :: tl, ns1, 0, 0⟩ r0 PV.out HE.out).mono ?_; rintro e w4 ⟨rfl, hp_, hb⟩; refine ⟨_, rfl, ?_⟩; obtain ⟨o1, cw1, vn1, hpv⟩ := hp_; replace hpv : Pv w4 g4 g4 gw o1 cw1 CW vn1 (x :: tl) ns1 0 0 := hpv; obtain ⟨An, cn, rfl⟩ := hpv.nodes; have RV := Aside0.mk hpv; have n0_ := Aside0.mk (HB.out.trans (hb.mono GE4.out)); have n2_ := Aside0.mk ((hb.block g2 LT2.out).trans BK2.out); have n3_ := Aside0.mk ((hb.block g3 LT3.out).trans BK3.out); have BK4 := Aside0.mk hpv.blk; (try clear yw0); have yw0 : w4.cell? ⟨gw, o1, none⟩ = some (.string x.1) := (qm_ hpv.wb o1).trans (hpv.wl 0 x rfl).1; clear HB BK2 BK3 PV; have HB := n0_; have BK2 := n2_; have BK3 := n3_; have PV : Aside0 (Pst w4 g4 g4 gw CW ⟨(x :: tl), ns1, 0, 0⟩) := ⟨⟨o1, cw1, _, RV.out⟩⟩; clear n0_ n2_ n3_ hb hpv; (try clear x4_0); have x4_0 := (qm_ BK4.out 0).trans rfl; (try clear x4_1); have x4_1 := (qm_ BK4.out 1).trans rfl; (try clear x4_2); have x4_2 := (qm_ BK4.out 2).trans rfl; (try clear x4_3); have x4_3 := (qm_ BK4.out 3).trans rfl; have ND := Aside0.mk RV.out.nd) | ((with_reducible refine gate_dst (N := 5) rfl ?_); refine qE_ ?hg (N := 5) ?hd (cs := #[.slice none 0 0]) (t := 24) ?hr ?_; (case hd => rfl); (case hg => rfl); (case hr => first | kernel_rfl | (go_simp; done) | (go_simp; rfl)); intro g5 hg wn5 hbox hb; have GE5 : Aside0 (w.heap.size ≤ g5) := Aside0.mk (by rw [hg]; exact HB.out.size); have NE5_2 : Aside0 (g5 ≠ g2) := Aside0.mk (by rw [hg]; exact Nat.ne_of_gt (qB_ BK2.out)); have NE5_3 : Aside0 (g5 ≠ g3) := Aside0.mk (by rw [hg]; exact Nat.ne_of_gt (qB_ BK3.out)); have nd_ := Aside0.mk (Kd.R_below ND.out hb); clear ND; have ND := nd_; clear nd_; have n2_ := Aside0.mk (qy_ BK2.out hb); have n3_ := Aside0.mk (qy_ BK3.out hb); have n0_ := Aside0.mk (qq_ HB.out hb); have BK5 := Aside0.mk hbox; clear BK2; have BK2 := n2_; clear n2_; clear BK3; have BK3 := n3_; clear n3_; clear HB; have HB := n0_; clear n0_ hbox hb hg) | ((with_reducible refine gate_storeV (ty := 24) (x := .tmp 5) (y := .tmp 31) rfl ?_); refine store_eventV rfl 24 (.tmp 5) (.tmp 31) rfl g5 _ rfl rfl 24 _ BK5.out (by kernel_rfl) rfl (by simp [Value.oneCell']) ?_; intro ws5_31 hn ho hb; have nd_ := Aside0.mk (Kd.R_mono (Kd.R_move (Kd.R_types ND.out BK5.out (by decide)) (fun k hk => ho k hk.2)) (fun _ _ => trivial)); clear ND; have ND := nd_; clear nd_; have n2_ := Aside0.mk ((ho _ (Ne.symm NE5_2.out)).trans BK2.out); have n3_ := Aside0.mk ((ho _ (Ne.symm NE5_3.out)).trans BK3.out); have n0_ := Aside0.mk (hb _ _ GE5.out HB.out); have nn_ := Aside0.mk hn; clear BK2; have BK2 := n2_; clear n2_; clear BK3; have BK3 := n3_; clear n3_; clear HB BK5; have HB := n0_; have BK5 := nn_; clear n0_ nn_ hn ho hb; (try clear x2_0); have x2_0 := (qm_ BK2.out 0).trans rfl; (try clear x3_0); have x3_0 := (qm_ BK3.out 0).trans rfl; (try clear x3_1); have x3_1 := (qm_ BK3.out 1).trans rfl; (try clear x5_0); have x5_0 := (qm_ BK5.out 0).trans rfl) | ((with_reducible refine qs_ (f := 13) rfl ?_); refine goesL_ (some 33) rfl rfl Tryd.func13 (by kernel_rfl) rfl #[.agg #[.slice An ns1.length cn]] rfl (by (try simp only [List.map_toArray, List.map_cons, List.map_nil]); first | done | rfl) ?_; refine (qw_.calls k An cn ns1 _ _ _ (Kd.R_reads' ND.out).2.2 (Kd.R_reads' ND.out).2.1 HV.out).mono ?_; rintro e w4 ⟨rfl, hb⟩; refine ⟨_, rfl, ?_⟩; have n0_ := Aside0.mk (qq_ HB.out hb); have n2_ := Aside0.mk (qy_ BK2.out hb); have n3_ := Aside0.mk (qy_ BK3.out hb); have n5_ := Aside0.mk (qy_ BK5.out hb); have nd_ := Aside0.mk (Kd.R_below ND.out hb); clear HB BK2 BK3 BK5 ND; have HB := n0_; have BK2 := n2_; have BK3 := n3_; have BK5 := n5_; have ND := nd_; clear n0_ n2_ n3_ n5_ nd_ hb; (try clear x5_0); have x5_0 := (qm_ BK5.out 0).trans rfl) | ((with_reducible refine gate_storeV (ty := 24) (x := .tmp 2) (y := .tmp 38) rfl ?_); refine store_eventV rfl 24 (.tmp 2) (.tmp 38) rfl g2 _ rfl rfl 24 _ BK2.out (by kernel_rfl) rfl (by simp [Value.oneCell']) ?_; intro ws2_38 hn ho hb; have nd_ := Aside0.mk (Kd.R_mono (Kd.R_move (Kd.R_types ND.out BK2.out (by decide)) (fun k hk => ho k hk.2)) (fun _ _ => trivial)); clear ND; have ND := nd_; clear nd_; have n3_ := Aside0.mk ((ho _ (NE3_2.out)).trans BK3.out); have n5_ := Aside0.mk ((ho _ (NE5_2.out)).trans BK5.out); have n0_ := Aside0.mk (hb _ _ GE2.out HB.out); have nn_ := Aside0.mk hn; clear BK3; have BK3 := n3_; clear n3_; clear BK5; have BK5 := n5_; clear n5_; clear HB BK2; have HB := n0_; have BK2 := nn_; clear n0_ nn_ hn ho hb; (try clear x2_0); have x2_0 := (qm_ BK2.out 0).trans rfl; (try clear x3_0); have x3_0 := (qm_ BK3.out 0).trans rfl; (try clear x3_1); have x3_1 := (qm_ BK3.out 1).trans rfl; (try clear x5_0); have x5_0 := (qm_ BK5.out 0).trans rfl) | ((with_reducible refine gate_storeV (ty := 28) (x := .tmp 3) (y := .tmp 39) rfl ?_); refine store_eventV rfl 28 (.tmp 3) (.tmp 39) rfl g3 _ rfl rfl 28 _ BK3.out (by kernel_rfl) rfl (by simp [Value.oneCell']) ?_; intro ws3_39 hn ho hb; have nd_ := Aside0.mk (Kd.R_mono (Kd.R_move (Kd.R_types ND.out BK3.out (by decide)) (fun k hk => ho k hk.2)) (fun _ _ => trivial)); clear ND; have ND := nd_; clear nd_; have n2_ := Aside0.mk ((ho _ (Ne.symm NE3_2.out)).trans BK2.out); have n5_ := Aside0.mk ((ho _ (NE5_3.out)).trans BK5.out); have n0_ := Aside0.mk (hb _ _ GE3.out HB.out); have nn_ := Aside0.mk hn; clear BK2; have BK2 := n2_; clear n2_; clear BK5; have BK5 := n5_; clear n5_; clear HB BK3; have HB := n0_; have BK3 := nn_; clear n0_ nn_ hn ho hb; (try clear x2_0); have x2_0 := (qm_ BK2.out 0).trans rfl; (try clear x3_0); have x3_0 := (qm_ BK3.out 0).trans rfl; (try clear x3_1); have x3_1 := (qm_ BK3.out 1).trans rfl; (try clear x5_0); have x5_0 := (qm_ BK5.out 0).trans rfl) | fail)
      refine bodyPost_ret (results_cc rfl _ _ g2 g3 24 28 _ _ (0, 0) (0, 0) _ _ rfl BK2.out Tryd.underlying24 rfl (by kernel_rfl) rfl BK3.out Tryd.underlying28 rfl (by kernel_rfl)) rfl ?_
      exact ⟨_, rfl, Kd.R_lower ND.out GE4.out, HB.out⟩
     ·rw [if_neg c5] at h
      simp only [Option.some.injEq, Prod.mk.injEq] at h
      obtain ⟨rfl, rfl, rfl⟩ := h
      have c6 : (v1 == 0 && (v2 == 0)) = false := by
       rw [Bool.and_eq_false_iff]
       by_cases d1 : v1 = 0
       ·exact .inr (beq_eq_false_iff_ne.mpr fun d2 => c5 ⟨d1, d2⟩)
       ·exact .inl (beq_eq_false_iff_ne.mpr d1)
      clear c5
      go_enter Tryd.func19, Tryd.ntmps19
      go_wp2_with (first | ((with_reducible refine gate_dst (N := 2) rfl ?_); refine qE_ ?hg (N := 2) ?hd (cs := #[.slice none 0 0]) (t := 24) ?hr ?_; (case hd => rfl); (case hg => rfl); (case hr => first | kernel_rfl | (go_simp; done) | (go_simp; rfl)); intro g2 hg wn2 hbox hb; have GE2 : Aside0 (w.heap.size ≤ g2) := Aside0.mk (by rw [hg]; exact HB.out.size); have n0_ := Aside0.mk (qq_ HB.out hb); have BK2 := Aside0.mk hbox; clear HB; have HB := n0_; clear n0_ hbox hb hg) | ((with_reducible refine gate_dst (N := 3) rfl ?_); refine qE_ ?hg (N := 3) ?hd (cs := #[.int .i64 0, .int .i64 0]) (t := 28) ?hr ?_; (case hd => rfl); (case hg => rfl); (case hr => first | kernel_rfl | (go_simp; done) | (go_simp; rfl)); intro g3 hg wn3 hbox hb; have GE3 : Aside0 (w.heap.size ≤ g3) := Aside0.mk (by rw [hg]; exact HB.out.size); have NE3_2 : Aside0 (g3 ≠ g2) := Aside0.mk (by rw [hg]; exact Nat.ne_of_gt (qB_ BK2.out)); have n2_ := Aside0.mk (qy_ BK2.out hb); have n0_ := Aside0.mk (qq_ HB.out hb); have BK3 := Aside0.mk hbox; clear BK2; have BK2 := n2_; clear n2_; clear HB; have HB := n0_; clear n0_ hbox hb hg) | ((with_reducible refine qs_ (f := 30) rfl ?_); refine goesL_ (some 12) rfl rfl Tryd.func30 (by kernel_rfl) rfl #[.string a0] rfl (by (try simp only [List.map_toArray, List.map_cons, List.map_nil]); first | done | rfl) ?_; refine (scan.calls a0 ws _ HSC.out).mono ?_; rintro e w4 ⟨v0_, rfl, ho_, hb⟩; obtain ⟨gw, cap, CW, rfl, hcw, hcap, hwl⟩ := words_of_R ho_ HNE.out; refine ⟨_, rfl, ?_⟩; have n0_ := Aside0.mk (qq_ HB.out hb); have n2_ := Aside0.mk (qy_ BK2.out hb); have n3_ := Aside0.mk (qy_ BK3.out hb); have WB := Aside0.mk hcw; have WC := Aside0.mk hcap; have WL := Aside0.mk hwl; clear HB BK2 BK3; have HB := n0_; have BK2 := n2_; have BK3 := n3_; clear n0_ n2_ n3_ ho_ hb hcw hcap hwl) | ((with_reducible refine gate_dst (N := 4) rfl ?_); refine qE_ ?hg (N := 4) ?hd (cs := #[.slice none 0 0, .slice none 0 0, .int .i64 0, .int .i64 0]) (t := 56) ?hr ?_; (case hd => rfl); (case hg => rfl); (case hr => first | kernel_rfl | (go_simp; done) | (go_simp; rfl)); intro g4 hg wn4 hbox hb; have LT2 : Aside0 (g2 < g4) := Aside0.mk (by rw [hg]; exact qB_ BK2.out); have LT3 : Aside0 (g3 < g4) := Aside0.mk (by rw [hg]; exact qB_ BK3.out); have GE4 : Aside0 (w.heap.size ≤ g4) := Aside0.mk (by rw [hg]; exact HB.out.size); have NE4_2 : Aside0 (g4 ≠ g2) := Aside0.mk (by rw [hg]; exact Nat.ne_of_gt (qB_ BK2.out)); have NE4_3 : Aside0 (g4 ≠ g3) := Aside0.mk (by rw [hg]; exact Nat.ne_of_gt (qB_ BK3.out)); have nw_ := Aside0.mk (qy_ WB.out hb); clear WB; have WB := nw_; clear nw_; have n2_ := Aside0.mk (qy_ BK2.out hb); have n3_ := Aside0.mk (qy_ BK3.out hb); have n0_ := Aside0.mk (qq_ HB.out hb); have BK4 := Aside0.mk hbox; clear BK2; have BK2 := n2_; clear n2_; clear BK3; have BK3 := n3_; clear n3_; clear HB; have HB := n0_; clear n0_ hbox hb hg) | ((with_reducible refine gate_storeV (ty := 56) (x := .tmp 4) (y := .tmp 13) rfl ?_); refine store_eventV rfl 56 (.tmp 4) (.tmp 13) rfl g4 _ rfl rfl 56 _ BK4.out (by kernel_rfl) rfl (by simp [Value.oneCell']) ?_; intro ws4_13 hn ho hb; have nw_ := Aside0.mk ((ho _ (blk_ne WB.out BK4.out (by decide))).trans WB.out); clear WB; have WB := nw_; clear nw_; have n2_ := Aside0.mk ((ho _ (Ne.symm NE4_2.out)).trans BK2.out); have n3_ := Aside0.mk ((ho _ (Ne.symm NE4_3.out)).trans BK3.out); have n0_ := Aside0.mk (hb _ _ GE4.out HB.out); have nn_ := Aside0.mk hn; clear BK2; have BK2 := n2_; clear n2_; clear BK3; have BK3 := n3_; clear n3_; clear HB BK4; have HB := n0_; have BK4 := nn_; clear n0_ nn_ hn ho hb; have PV : Aside0 (Pst ws4_13 g4 g4 gw CW ⟨ws, [], 0, 0⟩) := ⟨⟨0, cap, .slice none 0 0, ⟨BK4.out, Nat.le_refl _, WB.out, WL.out, Kd.R_nil _ _ _ _ _, WC.out⟩⟩⟩) | ((with_reducible refine qs_ (f := 31) rfl ?_); refine goesL_ (some 14) rfl rfl Tryd.func31 (by kernel_rfl) rfl #[.pointer (some ⟨g4, 0, none⟩)] rfl (by (try simp only [List.map_toArray, List.map_cons, List.map_nil]); first | done | rfl) ?_; refine (eitherK.calls g4 g4 gw CW k _ ⟨ws, [], 0, 0⟩ ⟨x :: tl, ns1, 0, 0⟩ r0 PV.out HE.out).mono ?_; rintro e w4 ⟨rfl, hp_, hb⟩; refine ⟨_, rfl, ?_⟩; obtain ⟨o1, cw1, vn1, hpv⟩ := hp_; replace hpv : Pv w4 g4 g4 gw o1 cw1 CW vn1 (x :: tl) ns1 0 0 := hpv; obtain ⟨An, cn, rfl⟩ := hpv.nodes; have RV := Aside0.mk hpv; have n0_ := Aside0.mk (HB.out.trans (hb.mono GE4.out)); have n2_ := Aside0.mk ((hb.block g2 LT2.out).trans BK2.out); have n3_ := Aside0.mk ((hb.block g3 LT3.out).trans BK3.out); have BK4 := Aside0.mk hpv.blk; (try clear yw0); have yw0 : w4.cell? ⟨gw, o1, none⟩ = some (.string x.1) := (qm_ hpv.wb o1).trans (hpv.wl 0 x rfl).1; clear HB BK2 BK3 PV; have HB := n0_; have BK2 := n2_; have BK3 := n3_; have PV : Aside0 (Pst w4 g4 g4 gw CW ⟨(x :: tl), ns1, 0, 0⟩) := ⟨⟨o1, cw1, _, RV.out⟩⟩; clear n0_ n2_ n3_ hb hpv; (try clear x4_0); have x4_0 := (qm_ BK4.out 0).trans rfl; (try clear x4_1); have x4_1 := (qm_ BK4.out 1).trans rfl; (try clear x4_2); have x4_2 := (qm_ BK4.out 2).trans rfl; (try clear x4_3); have x4_3 := (qm_ BK4.out 3).trans rfl; have ND := Aside0.mk RV.out.nd) | ((with_reducible refine gate_dst (N := 5) rfl ?_); refine qE_ ?hg (N := 5) ?hd (cs := #[.slice none 0 0]) (t := 24) ?hr ?_; (case hd => rfl); (case hg => rfl); (case hr => first | kernel_rfl | (go_simp; done) | (go_simp; rfl)); intro g5 hg wn5 hbox hb; have GE5 : Aside0 (w.heap.size ≤ g5) := Aside0.mk (by rw [hg]; exact HB.out.size); have NE5_2 : Aside0 (g5 ≠ g2) := Aside0.mk (by rw [hg]; exact Nat.ne_of_gt (qB_ BK2.out)); have NE5_3 : Aside0 (g5 ≠ g3) := Aside0.mk (by rw [hg]; exact Nat.ne_of_gt (qB_ BK3.out)); have nd_ := Aside0.mk (Kd.R_below ND.out hb); clear ND; have ND := nd_; clear nd_; have n2_ := Aside0.mk (qy_ BK2.out hb); have n3_ := Aside0.mk (qy_ BK3.out hb); have n0_ := Aside0.mk (qq_ HB.out hb); have BK5 := Aside0.mk hbox; clear BK2; have BK2 := n2_; clear n2_; clear BK3; have BK3 := n3_; clear n3_; clear HB; have HB := n0_; clear n0_ hbox hb hg) | ((with_reducible refine gate_storeV (ty := 24) (x := .tmp 5) (y := .tmp 31) rfl ?_); refine store_eventV rfl 24 (.tmp 5) (.tmp 31) rfl g5 _ rfl rfl 24 _ BK5.out (by kernel_rfl) rfl (by simp [Value.oneCell']) ?_; intro ws5_31 hn ho hb; have nd_ := Aside0.mk (Kd.R_mono (Kd.R_move (Kd.R_types ND.out BK5.out (by decide)) (fun k hk => ho k hk.2)) (fun _ _ => trivial)); clear ND; have ND := nd_; clear nd_; have n2_ := Aside0.mk ((ho _ (Ne.symm NE5_2.out)).trans BK2.out); have n3_ := Aside0.mk ((ho _ (Ne.symm NE5_3.out)).trans BK3.out); have n0_ := Aside0.mk (hb _ _ GE5.out HB.out); have nn_ := Aside0.mk hn; clear BK2; have BK2 := n2_; clear n2_; clear BK3; have BK3 := n3_; clear n3_; clear HB BK5; have HB := n0_; have BK5 := nn_; clear n0_ nn_ hn ho hb; (try clear x2_0); have x2_0 := (qm_ BK2.out 0).trans rfl; (try clear x3_0); have x3_0 := (qm_ BK3.out 0).trans rfl; (try clear x3_1); have x3_1 := (qm_ BK3.out 1).trans rfl; (try clear x5_0); have x5_0 := (qm_ BK5.out 0).trans rfl) | ((with_reducible refine qs_ (f := 13) rfl ?_); refine goesL_ (some 33) rfl rfl Tryd.func13 (by kernel_rfl) rfl #[.agg #[.slice An ns1.length cn]] rfl (by (try simp only [List.map_toArray, List.map_cons, List.map_nil]); first | done | rfl) ?_; refine (qw_.calls k An cn ns1 _ _ _ (Kd.R_reads' ND.out).2.2 (Kd.R_reads' ND.out).2.1 HV.out).mono ?_; rintro e w4 ⟨rfl, hb⟩; refine ⟨_, rfl, ?_⟩; have n0_ := Aside0.mk (qq_ HB.out hb); have n2_ := Aside0.mk (qy_ BK2.out hb); have n3_ := Aside0.mk (qy_ BK3.out hb); have n5_ := Aside0.mk (qy_ BK5.out hb); have nd_ := Aside0.mk (Kd.R_below ND.out hb); clear HB BK2 BK3 BK5 ND; have HB := n0_; have BK2 := n2_; have BK3 := n3_; have BK5 := n5_; have ND := nd_; clear n0_ n2_ n3_ n5_ nd_ hb; (try clear x5_0); have x5_0 := (qm_ BK5.out 0).trans rfl) | ((with_reducible refine gate_storeV (ty := 24) (x := .tmp 2) (y := .tmp 36) rfl ?_); refine store_eventV rfl 24 (.tmp 2) (.tmp 36) rfl g2 _ rfl rfl 24 _ BK2.out (by kernel_rfl) rfl (by simp [Value.oneCell']) ?_; intro ws2_36 hn ho hb; have nd_ := Aside0.mk (Kd.R_mono (Kd.R_move (Kd.R_types ND.out BK2.out (by decide)) (fun k hk => ho k hk.2)) (fun _ _ => trivial)); clear ND; have ND := nd_; clear nd_; have n3_ := Aside0.mk ((ho _ (NE3_2.out)).trans BK3.out); have n5_ := Aside0.mk ((ho _ (NE5_2.out)).trans BK5.out); have n0_ := Aside0.mk (hb _ _ GE2.out HB.out); have nn_ := Aside0.mk hn; clear BK3; have BK3 := n3_; clear n3_; clear BK5; have BK5 := n5_; clear n5_; clear HB BK2; have HB := n0_; have BK2 := nn_; clear n0_ nn_ hn ho hb; (try clear x2_0); have x2_0 := (qm_ BK2.out 0).trans rfl; (try clear x3_0); have x3_0 := (qm_ BK3.out 0).trans rfl; (try clear x3_1); have x3_1 := (qm_ BK3.out 1).trans rfl; (try clear x5_0); have x5_0 := (qm_ BK5.out 0).trans rfl) | ((with_reducible refine gate_storeV (ty := 28) (x := .tmp 3) (y := .tmp 37) rfl ?_); refine store_eventV rfl 28 (.tmp 3) (.tmp 37) rfl g3 _ rfl rfl 28 _ BK3.out (by kernel_rfl) rfl (by simp [Value.oneCell']) ?_; intro ws3_37 hn ho hb; have nd_ := Aside0.mk (Kd.R_mono (Kd.R_move (Kd.R_types ND.out BK3.out (by decide)) (fun k hk => ho k hk.2)) (fun _ _ => trivial)); clear ND; have ND := nd_; clear nd_; have n2_ := Aside0.mk ((ho _ (Ne.symm NE3_2.out)).trans BK2.out); have n5_ := Aside0.mk ((ho _ (NE5_3.out)).trans BK5.out); have n0_ := Aside0.mk (hb _ _ GE3.out HB.out); have nn_ := Aside0.mk hn; clear BK2; have BK2 := n2_; clear n2_; clear BK5; have BK5 := n5_; clear n5_; clear HB BK3; have HB := n0_; have BK3 := nn_; clear n0_ nn_ hn ho hb; (try clear x2_0); have x2_0 := (qm_ BK2.out 0).trans rfl; (try clear x3_0); have x3_0 := (qm_ BK3.out 0).trans rfl; (try clear x3_1); have x3_1 := (qm_ BK3.out 1).trans rfl; (try clear x5_0); have x5_0 := (qm_ BK5.out 0).trans rfl) | fail)
      refine bodyPost_ret (results_cc rfl _ _ g2 g3 24 28 _ _ (0, 0) (0, 0) _ _ rfl BK2.out Tryd.underlying24 rfl (by kernel_rfl) rfl BK3.out Tryd.underlying28 rfl (by kernel_rfl)) rfl ?_
      exact ⟨_, rfl, Kd.R_nil _ _ _ _ _, HB.out⟩
    ·rw [if_neg c2] at h
     simp only [Option.some.injEq, Prod.mk.injEq] at h
     obtain ⟨rfl, rfl, rfl⟩ := h
     have c3 : (fc1 == 0 && (fi1 == 0)) = false := by
      rw [Bool.and_eq_false_iff]
      by_cases d1 : fc1 = 0
      ·exact .inr (beq_eq_false_iff_ne.mpr fun d2 => c2 ⟨d1, d2⟩)
      ·exact .inl (beq_eq_false_iff_ne.mpr d1)
     clear c2
     go_enter Tryd.func19, Tryd.ntmps19
     go_wp2_with (first | ((with_reducible refine gate_dst (N := 2) rfl ?_); refine qE_ ?hg (N := 2) ?hd (cs := #[.slice none 0 0]) (t := 24) ?hr ?_; (case hd => rfl); (case hg => rfl); (case hr => first | kernel_rfl | (go_simp; done) | (go_simp; rfl)); intro g2 hg wn2 hbox hb; have GE2 : Aside0 (w.heap.size ≤ g2) := Aside0.mk (by rw [hg]; exact HB.out.size); have n0_ := Aside0.mk (qq_ HB.out hb); have BK2 := Aside0.mk hbox; clear HB; have HB := n0_; clear n0_ hbox hb hg) | ((with_reducible refine gate_dst (N := 3) rfl ?_); refine qE_ ?hg (N := 3) ?hd (cs := #[.int .i64 0, .int .i64 0]) (t := 28) ?hr ?_; (case hd => rfl); (case hg => rfl); (case hr => first | kernel_rfl | (go_simp; done) | (go_simp; rfl)); intro g3 hg wn3 hbox hb; have GE3 : Aside0 (w.heap.size ≤ g3) := Aside0.mk (by rw [hg]; exact HB.out.size); have NE3_2 : Aside0 (g3 ≠ g2) := Aside0.mk (by rw [hg]; exact Nat.ne_of_gt (qB_ BK2.out)); have n2_ := Aside0.mk (qy_ BK2.out hb); have n0_ := Aside0.mk (qq_ HB.out hb); have BK3 := Aside0.mk hbox; clear BK2; have BK2 := n2_; clear n2_; clear HB; have HB := n0_; clear n0_ hbox hb hg) | ((with_reducible refine qs_ (f := 30) rfl ?_); refine goesL_ (some 12) rfl rfl Tryd.func30 (by kernel_rfl) rfl #[.string a0] rfl (by (try simp only [List.map_toArray, List.map_cons, List.map_nil]); first | done | rfl) ?_; refine (scan.calls a0 ws _ HSC.out).mono ?_; rintro e w4 ⟨v0_, rfl, ho_, hb⟩; obtain ⟨gw, cap, CW, rfl, hcw, hcap, hwl⟩ := words_of_R ho_ HNE.out; refine ⟨_, rfl, ?_⟩; have n0_ := Aside0.mk (qq_ HB.out hb); have n2_ := Aside0.mk (qy_ BK2.out hb); have n3_ := Aside0.mk (qy_ BK3.out hb); have WB := Aside0.mk hcw; have WC := Aside0.mk hcap; have WL := Aside0.mk hwl; clear HB BK2 BK3; have HB := n0_; have BK2 := n2_; have BK3 := n3_; clear n0_ n2_ n3_ ho_ hb hcw hcap hwl) | ((with_reducible refine gate_dst (N := 4) rfl ?_); refine qE_ ?hg (N := 4) ?hd (cs := #[.slice none 0 0, .slice none 0 0, .int .i64 0, .int .i64 0]) (t := 56) ?hr ?_; (case hd => rfl); (case hg => rfl); (case hr => first | kernel_rfl | (go_simp; done) | (go_simp; rfl)); intro g4 hg wn4 hbox hb; have LT2 : Aside0 (g2 < g4) := Aside0.mk (by rw [hg]; exact qB_ BK2.out); have LT3 : Aside0 (g3 < g4) := Aside0.mk (by rw [hg]; exact qB_ BK3.out); have GE4 : Aside0 (w.heap.size ≤ g4) := Aside0.mk (by rw [hg]; exact HB.out.size); have NE4_2 : Aside0 (g4 ≠ g2) := Aside0.mk (by rw [hg]; exact Nat.ne_of_gt (qB_ BK2.out)); have NE4_3 : Aside0 (g4 ≠ g3) := Aside0.mk (by rw [hg]; exact Nat.ne_of_gt (qB_ BK3.out)); have nw_ := Aside0.mk (qy_ WB.out hb); clear WB; have WB := nw_; clear nw_; have n2_ := Aside0.mk (qy_ BK2.out hb); have n3_ := Aside0.mk (qy_ BK3.out hb); have n0_ := Aside0.mk (qq_ HB.out hb); have BK4 := Aside0.mk hbox; clear BK2; have BK2 := n2_; clear n2_; clear BK3; have BK3 := n3_; clear n3_; clear HB; have HB := n0_; clear n0_ hbox hb hg) | ((with_reducible refine gate_storeV (ty := 56) (x := .tmp 4) (y := .tmp 13) rfl ?_); refine store_eventV rfl 56 (.tmp 4) (.tmp 13) rfl g4 _ rfl rfl 56 _ BK4.out (by kernel_rfl) rfl (by simp [Value.oneCell']) ?_; intro ws4_13 hn ho hb; have nw_ := Aside0.mk ((ho _ (blk_ne WB.out BK4.out (by decide))).trans WB.out); clear WB; have WB := nw_; clear nw_; have n2_ := Aside0.mk ((ho _ (Ne.symm NE4_2.out)).trans BK2.out); have n3_ := Aside0.mk ((ho _ (Ne.symm NE4_3.out)).trans BK3.out); have n0_ := Aside0.mk (hb _ _ GE4.out HB.out); have nn_ := Aside0.mk hn; clear BK2; have BK2 := n2_; clear n2_; clear BK3; have BK3 := n3_; clear n3_; clear HB BK4; have HB := n0_; have BK4 := nn_; clear n0_ nn_ hn ho hb; have PV : Aside0 (Pst ws4_13 g4 g4 gw CW ⟨ws, [], 0, 0⟩) := ⟨⟨0, cap, .slice none 0 0, ⟨BK4.out, Nat.le_refl _, WB.out, WL.out, Kd.R_nil _ _ _ _ _, WC.out⟩⟩⟩) | ((with_reducible refine qs_ (f := 31) rfl ?_); refine goesL_ (some 14) rfl rfl Tryd.func31 (by kernel_rfl) rfl #[.pointer (some ⟨g4, 0, none⟩)] rfl (by (try simp only [List.map_toArray, List.map_cons, List.map_nil]); first | done | rfl) ?_; refine (eitherK.calls g4 g4 gw CW k _ ⟨ws, [], 0, 0⟩ ⟨x :: tl, ns1, fc1, fi1⟩ r0 PV.out HE.out).mono ?_; rintro e w4 ⟨rfl, hp_, hb⟩; refine ⟨_, rfl, ?_⟩; obtain ⟨o1, cw1, vn1, hpv⟩ := hp_; replace hpv : Pv w4 g4 g4 gw o1 cw1 CW vn1 (x :: tl) ns1 fc1 fi1 := hpv; obtain ⟨An, cn, rfl⟩ := hpv.nodes; have RV := Aside0.mk hpv; have n0_ := Aside0.mk (HB.out.trans (hb.mono GE4.out)); have n2_ := Aside0.mk ((hb.block g2 LT2.out).trans BK2.out); have n3_ := Aside0.mk ((hb.block g3 LT3.out).trans BK3.out); have BK4 := Aside0.mk hpv.blk; (try clear yw0); have yw0 : w4.cell? ⟨gw, o1, none⟩ = some (.string x.1) := (qm_ hpv.wb o1).trans (hpv.wl 0 x rfl).1; clear HB BK2 BK3 PV; have HB := n0_; have BK2 := n2_; have BK3 := n3_; have PV : Aside0 (Pst w4 g4 g4 gw CW ⟨(x :: tl), ns1, fc1, fi1⟩) := ⟨⟨o1, cw1, _, RV.out⟩⟩; clear n0_ n2_ n3_ hb hpv; (try clear x4_0); have x4_0 := (qm_ BK4.out 0).trans rfl; (try clear x4_1); have x4_1 := (qm_ BK4.out 1).trans rfl; (try clear x4_2); have x4_2 := (qm_ BK4.out 2).trans rfl; (try clear x4_3); have x4_3 := (qm_ BK4.out 3).trans rfl) | fail)
     have B4_ := BK4.out
     refine start_ (n := 5) (S := fun W => W.heap[g4]? = some (.cells #[.slice (some ⟨gw, o1, none⟩) (x :: tl).length cw1, .slice An ns1.length cn, .int .i64 fc1, .int .i64 fi1] 56 (0, 0))) (ds := []) #[false, false, false, false, false] (by kernel_rfl) rfl rfl (qb_ B4_) (fun hHeld => ?_)
     have B2 := qb_ BK2.out
     have B3 := qb_ BK3.out
     have HBd := qf_ HB.out
     generalize w4.drew = wd at hHeld B2 B3 HBd ⊢
     refine pure_ (i := 0) (N := some 26) (v := ?_) (a' := ?_) #[true, false, false, false, false] rfl rfl (by kernel_rfl) (fun _ _ _ h => h) (Or.inl ⟨by rfl, ?_⟩) ?_ ?_
     rotate_left
     ·intro w'
      go_simp
      with_reducible rfl
     rotate_left
     ·simp only [Act.put, List.setIfInBounds_toArray, List.set_cons_zero, List.set_cons_succ]
      rfl
     refine pure_ (i := 1) (N := some 27) (v := ?_) (a' := ?_) #[true, true, false, false, false] rfl rfl (by kernel_rfl) (fun _ _ _ h => h) (Or.inl ⟨by rfl, ?_⟩) ?_ ?_
     rotate_left
     ·intro w'
      go_simp
      with_reducible rfl
     rotate_left
     ·simp only [Act.put, List.setIfInBounds_toArray, List.set_cons_zero, List.set_cons_succ]
      rfl
     refine take_ (i := 2) (N := some 28) (v := ?_) (a' := ?_) #[true, true, true, false, false] rfl rfl (by kernel_rfl) (fun _ _ _ h => h) (Or.inl ⟨by rfl, ?_⟩) hHeld ?_ ?_
     rotate_left
     ·rintro w' s0
      have s2 := (qm_ s0 2).trans rfl
      have s3 := (qm_ s0 3).trans rfl
      clear s0
      go_simp
      with_reducible rfl
     rotate_left
     ·simp only [Act.put, List.setIfInBounds_toArray, List.set_cons_zero, List.set_cons_succ]
      rfl
     refine one_ (i := 3) (N := none) #[true, true, true, true, false] rfl rfl (by kernel_rfl) (by decide) (fun K hK => ?_)
     rw [if_pos (by rfl)]
     refine wp_store_row 24 (.tmp 2) (.tmp 26) rfl g2 #[.slice none 0 0] rfl rfl 24 #[.slice none 0 0] B2 (by kernel_rfl) rfl (by simp [Value.oneCell']) ?_
     refine hK.out _ _ ((setRow_other wd g2 g4 _ (NE4_2.out)).trans hHeld) (fun hHeld2 => ?_)
     clear hK K
     refine one_ (i := 4) (N := none) #[true, true, true, true, true] rfl rfl (by kernel_rfl) (by decide) (fun K hK => ?_)
     rw [if_pos (by rfl)]
     refine wp_store_row 28 (.tmp 3) (.tmp 28) rfl g3 #[.int .i64 fc1, .int .i64 fi1] rfl rfl 28 #[.int .i64 0, .int .i64 0] ((setRow_other wd g2 g3 _ NE3_2.out).trans B3) (by kernel_rfl) rfl (by simp [Value.oneCell']) ?_
     refine hK.out _ _ ((setRow_other _ g3 g4 _ (NE4_3.out)).trans hHeld2) (fun hHeld3 => ?_)
     clear hK K
     refine done_ (by kernel_rfl) ?_
     try go_wp2
     refine bodyPost_ret (results_cc rfl _ _ g2 g3 24 28 #[.slice none 0 0] #[.int .i64 fc1, .int .i64 fi1] (0, 0) (0, 0) _ _ rfl ((setRow_other _ g3 g2 _ (Ne.symm NE3_2.out)).trans (setRow_heap wd g2 #[.slice none 0 0] #[.slice none 0 0] 24 (0, 0) B2)) Tryd.underlying24 rfl (by kernel_rfl) rfl (setRow_heap _ g3 #[.int .i64 0, .int .i64 0] #[.int .i64 fc1, .int .i64 fi1] 28 (0, 0) ((setRow_other wd g2 g3 _ NE3_2.out).trans B3)) Tryd.underlying28 rfl (by kernel_rfl)) rfl ?_
     exact ⟨_, rfl, Kd.R_nil _ _ _ _ _, below_setRow (below_setRow HBd GE2.out _) GE3.out _⟩
   ·rw [if_neg c1] at hpe
    have c1b : (x.1.toList == ([] : List UInt8)) = false := beq_eq_false_iff_ne.mpr c1
    have hpe2 := hpe
    unfold pFail at hpe2
    dsimp only at hpe2
    have hs2 := (Option.some.inj hpe2).symm
    obtain ⟨fc2, fi2, rfl, hne⟩ : ∃ fc2 fi2, s2 = ⟨x :: tl, ns1, fc2, fi2⟩ ∧ ¬ (fc2 = 0 ∧ fi2 = 0) := by
     by_cases d : fc1 = 0 ∧ fi1 = 0
     ·rw [if_pos d] at hs2
      exact ⟨1, x.2, hs2, fun e => absurd e.1 (by decide)⟩
     ·rw [if_neg d] at hs2
      exact ⟨fc1, fi1, hs2, d⟩
    have HF := Aside0.mk hpe
    clear hpe hpe2 hs2
    dsimp only at h
    rw [if_neg hne] at h
    simp only [Option.some.injEq, Prod.mk.injEq] at h
    obtain ⟨rfl, rfl, rfl⟩ := h
    have c3 : (fc2 == 0 && (fi2 == 0)) = false := by
     rw [Bool.and_eq_false_iff]
     by_cases d1 : fc2 = 0
     ·exact .inr (beq_eq_false_iff_ne.mpr fun d2 => hne ⟨d1, d2⟩)
     ·exact .inl (beq_eq_false_iff_ne.mpr d1)
    clear hne
    go_enter Tryd.func19, Tryd.ntmps19
    go_wp2_with (first | ((with_reducible refine gate_dst (N := 2) rfl ?_); refine qE_ ?hg (N := 2) ?hd (cs := #[.slice none 0 0]) (t := 24) ?hr ?_; (case hd => rfl); (case hg => rfl); (case hr => first | kernel_rfl | (go_simp; done) | (go_simp; rfl)); intro g2 hg wn2 hbox hb; have GE2 : Aside0 (w.heap.size ≤ g2) := Aside0.mk (by rw [hg]; exact HB.out.size); have n0_ := Aside0.mk (qq_ HB.out hb); have BK2 := Aside0.mk hbox; clear HB; have HB := n0_; clear n0_ hbox hb hg) | ((with_reducible refine gate_dst (N := 3) rfl ?_); refine qE_ ?hg (N := 3) ?hd (cs := #[.int .i64 0, .int .i64 0]) (t := 28) ?hr ?_; (case hd => rfl); (case hg => rfl); (case hr => first | kernel_rfl | (go_simp; done) | (go_simp; rfl)); intro g3 hg wn3 hbox hb; have GE3 : Aside0 (w.heap.size ≤ g3) := Aside0.mk (by rw [hg]; exact HB.out.size); have NE3_2 : Aside0 (g3 ≠ g2) := Aside0.mk (by rw [hg]; exact Nat.ne_of_gt (qB_ BK2.out)); have n2_ := Aside0.mk (qy_ BK2.out hb); have n0_ := Aside0.mk (qq_ HB.out hb); have BK3 := Aside0.mk hbox; clear BK2; have BK2 := n2_; clear n2_; clear HB; have HB := n0_; clear n0_ hbox hb hg) | ((with_reducible refine qs_ (f := 30) rfl ?_); refine goesL_ (some 12) rfl rfl Tryd.func30 (by kernel_rfl) rfl #[.string a0] rfl (by (try simp only [List.map_toArray, List.map_cons, List.map_nil]); first | done | rfl) ?_; refine (scan.calls a0 ws _ HSC.out).mono ?_; rintro e w4 ⟨v0_, rfl, ho_, hb⟩; obtain ⟨gw, cap, CW, rfl, hcw, hcap, hwl⟩ := words_of_R ho_ HNE.out; refine ⟨_, rfl, ?_⟩; have n0_ := Aside0.mk (qq_ HB.out hb); have n2_ := Aside0.mk (qy_ BK2.out hb); have n3_ := Aside0.mk (qy_ BK3.out hb); have WB := Aside0.mk hcw; have WC := Aside0.mk hcap; have WL := Aside0.mk hwl; clear HB BK2 BK3; have HB := n0_; have BK2 := n2_; have BK3 := n3_; clear n0_ n2_ n3_ ho_ hb hcw hcap hwl) | ((with_reducible refine gate_dst (N := 4) rfl ?_); refine qE_ ?hg (N := 4) ?hd (cs := #[.slice none 0 0, .slice none 0 0, .int .i64 0, .int .i64 0]) (t := 56) ?hr ?_; (case hd => rfl); (case hg => rfl); (case hr => first | kernel_rfl | (go_simp; done) | (go_simp; rfl)); intro g4 hg wn4 hbox hb; have LT2 : Aside0 (g2 < g4) := Aside0.mk (by rw [hg]; exact qB_ BK2.out); have LT3 : Aside0 (g3 < g4) := Aside0.mk (by rw [hg]; exact qB_ BK3.out); have GE4 : Aside0 (w.heap.size ≤ g4) := Aside0.mk (by rw [hg]; exact HB.out.size); have NE4_2 : Aside0 (g4 ≠ g2) := Aside0.mk (by rw [hg]; exact Nat.ne_of_gt (qB_ BK2.out)); have NE4_3 : Aside0 (g4 ≠ g3) := Aside0.mk (by rw [hg]; exact Nat.ne_of_gt (qB_ BK3.out)); have nw_ := Aside0.mk (qy_ WB.out hb); clear WB; have WB := nw_; clear nw_; have n2_ := Aside0.mk (qy_ BK2.out hb); have n3_ := Aside0.mk (qy_ BK3.out hb); have n0_ := Aside0.mk (qq_ HB.out hb); have BK4 := Aside0.mk hbox; clear BK2; have BK2 := n2_; clear n2_; clear BK3; have BK3 := n3_; clear n3_; clear HB; have HB := n0_; clear n0_ hbox hb hg) | ((with_reducible refine gate_storeV (ty := 56) (x := .tmp 4) (y := .tmp 13) rfl ?_); refine store_eventV rfl 56 (.tmp 4) (.tmp 13) rfl g4 _ rfl rfl 56 _ BK4.out (by kernel_rfl) rfl (by simp [Value.oneCell']) ?_; intro ws4_13 hn ho hb; have nw_ := Aside0.mk ((ho _ (blk_ne WB.out BK4.out (by decide))).trans WB.out); clear WB; have WB := nw_; clear nw_; have n2_ := Aside0.mk ((ho _ (Ne.symm NE4_2.out)).trans BK2.out); have n3_ := Aside0.mk ((ho _ (Ne.symm NE4_3.out)).trans BK3.out); have n0_ := Aside0.mk (hb _ _ GE4.out HB.out); have nn_ := Aside0.mk hn; clear BK2; have BK2 := n2_; clear n2_; clear BK3; have BK3 := n3_; clear n3_; clear HB BK4; have HB := n0_; have BK4 := nn_; clear n0_ nn_ hn ho hb; have PV : Aside0 (Pst ws4_13 g4 g4 gw CW ⟨ws, [], 0, 0⟩) := ⟨⟨0, cap, .slice none 0 0, ⟨BK4.out, Nat.le_refl _, WB.out, WL.out, Kd.R_nil _ _ _ _ _, WC.out⟩⟩⟩) | ((with_reducible refine qs_ (f := 31) rfl ?_); refine goesL_ (some 14) rfl rfl Tryd.func31 (by kernel_rfl) rfl #[.pointer (some ⟨g4, 0, none⟩)] rfl (by (try simp only [List.map_toArray, List.map_cons, List.map_nil]); first | done | rfl) ?_; refine (eitherK.calls g4 g4 gw CW k _ ⟨ws, [], 0, 0⟩ ⟨x :: tl, ns1, fc1, fi1⟩ r0 PV.out HE.out).mono ?_; rintro e w4 ⟨rfl, hp_, hb⟩; refine ⟨_, rfl, ?_⟩; obtain ⟨o1, cw1, vn1, hpv⟩ := hp_; replace hpv : Pv w4 g4 g4 gw o1 cw1 CW vn1 (x :: tl) ns1 fc1 fi1 := hpv; obtain ⟨An, cn, rfl⟩ := hpv.nodes; have RV := Aside0.mk hpv; have n0_ := Aside0.mk (HB.out.trans (hb.mono GE4.out)); have n2_ := Aside0.mk ((hb.block g2 LT2.out).trans BK2.out); have n3_ := Aside0.mk ((hb.block g3 LT3.out).trans BK3.out); have BK4 := Aside0.mk hpv.blk; (try clear yw0); have yw0 : w4.cell? ⟨gw, o1, none⟩ = some (.string x.1) := (qm_ hpv.wb o1).trans (hpv.wl 0 x rfl).1; clear HB BK2 BK3 PV; have HB := n0_; have BK2 := n2_; have BK3 := n3_; have PV : Aside0 (Pst w4 g4 g4 gw CW ⟨(x :: tl), ns1, fc1, fi1⟩) := ⟨⟨o1, cw1, _, RV.out⟩⟩; clear n0_ n2_ n3_ hb hpv; (try clear x4_0); have x4_0 := (qm_ BK4.out 0).trans rfl; (try clear x4_1); have x4_1 := (qm_ BK4.out 1).trans rfl; (try clear x4_2); have x4_2 := (qm_ BK4.out 2).trans rfl; (try clear x4_3); have x4_3 := (qm_ BK4.out 3).trans rfl) | ((with_reducible refine qs_ (f := 32) rfl ?_); refine goesL_ (some 21) rfl rfl Tryd.func32 (by kernel_rfl) rfl #[.pointer (some ⟨g4, 0, none⟩), .int .i64 1] rfl (by (try simp only [List.map_toArray, List.map_cons, List.map_nil]); first | done | rfl) ?_; refine (fail.calls g4 g4 gw CW 1 ⟨x :: tl, ns1, fc1, fi1⟩ ⟨x :: tl, ns1, fc2, fi2⟩ _ PV.out HF.out).mono ?_; rintro e w4 ⟨rfl, hp_, hb⟩; refine ⟨_, rfl, ?_⟩; obtain ⟨o1, cw1, vn1, hpv⟩ := hp_; replace hpv : Pv w4 g4 g4 gw o1 cw1 CW vn1 (x :: tl) ns1 fc2 fi2 := hpv; obtain ⟨An, cn, rfl⟩ := hpv.nodes; have RV := Aside0.mk hpv; have n0_ := Aside0.mk (HB.out.trans (hb.mono GE4.out)); have n2_ := Aside0.mk ((hb.block g2 LT2.out).trans BK2.out); have n3_ := Aside0.mk ((hb.block g3 LT3.out).trans BK3.out); have BK4 := Aside0.mk hpv.blk; (try clear yw0); have yw0 : w4.cell? ⟨gw, o1, none⟩ = some (.string x.1) := (qm_ hpv.wb o1).trans (hpv.wl 0 x rfl).1; clear HB BK2 BK3 PV; have HB := n0_; have BK2 := n2_; have BK3 := n3_; have PV : Aside0 (Pst w4 g4 g4 gw CW ⟨(x :: tl), ns1, fc2, fi2⟩) := ⟨⟨o1, cw1, _, RV.out⟩⟩; clear n0_ n2_ n3_ hb hpv; (try clear x4_0); have x4_0 := (qm_ BK4.out 0).trans rfl; (try clear x4_1); have x4_1 := (qm_ BK4.out 1).trans rfl; (try clear x4_2); have x4_2 := (qm_ BK4.out 2).trans rfl; (try clear x4_3); have x4_3 := (qm_ BK4.out 3).trans rfl) | fail)
    have B4_ := BK4.out
    refine start_ (n := 5) (S := fun W => W.heap[g4]? = some (.cells #[.slice (some ⟨gw, o1, none⟩) (x :: tl).length cw1, .slice An ns1.length cn, .int .i64 fc2, .int .i64 fi2] 56 (0, 0))) (ds := []) #[false, false, false, false, false] (by kernel_rfl) rfl rfl (qb_ B4_) (fun hHeld => ?_)
    have B2 := qb_ BK2.out
    have B3 := qb_ BK3.out
    have HBd := qf_ HB.out
    generalize w4.drew = wd at hHeld B2 B3 HBd ⊢
    refine pure_ (i := 0) (N := some 26) (v := ?_) (a' := ?_) #[true, false, false, false, false] rfl rfl (by kernel_rfl) (fun _ _ _ h => h) (Or.inl ⟨by rfl, ?_⟩) ?_ ?_
    rotate_left
    ·intro w'
     go_simp
     with_reducible rfl
    rotate_left
    ·simp only [Act.put, List.setIfInBounds_toArray, List.set_cons_zero, List.set_cons_succ]
     rfl
    refine pure_ (i := 1) (N := some 27) (v := ?_) (a' := ?_) #[true, true, false, false, false] rfl rfl (by kernel_rfl) (fun _ _ _ h => h) (Or.inl ⟨by rfl, ?_⟩) ?_ ?_
    rotate_left
    ·intro w'
     go_simp
     with_reducible rfl
    rotate_left
    ·simp only [Act.put, List.setIfInBounds_toArray, List.set_cons_zero, List.set_cons_succ]
     rfl
    refine take_ (i := 2) (N := some 28) (v := ?_) (a' := ?_) #[true, true, true, false, false] rfl rfl (by kernel_rfl) (fun _ _ _ h => h) (Or.inl ⟨by rfl, ?_⟩) hHeld ?_ ?_
    rotate_left
    ·rintro w' s0
     have s2 := (qm_ s0 2).trans rfl
     have s3 := (qm_ s0 3).trans rfl
     clear s0
     go_simp
     with_reducible rfl
    rotate_left
    ·simp only [Act.put, List.setIfInBounds_toArray, List.set_cons_zero, List.set_cons_succ]
     rfl
    refine one_ (i := 3) (N := none) #[true, true, true, true, false] rfl rfl (by kernel_rfl) (by decide) (fun K hK => ?_)
    rw [if_pos (by rfl)]
    refine wp_store_row 24 (.tmp 2) (.tmp 26) rfl g2 #[.slice none 0 0] rfl rfl 24 #[.slice none 0 0] B2 (by kernel_rfl) rfl (by simp [Value.oneCell']) ?_
    refine hK.out _ _ ((setRow_other wd g2 g4 _ (NE4_2.out)).trans hHeld) (fun hHeld2 => ?_)
    clear hK K
    refine one_ (i := 4) (N := none) #[true, true, true, true, true] rfl rfl (by kernel_rfl) (by decide) (fun K hK => ?_)
    rw [if_pos (by rfl)]
    refine wp_store_row 28 (.tmp 3) (.tmp 28) rfl g3 #[.int .i64 fc2, .int .i64 fi2] rfl rfl 28 #[.int .i64 0, .int .i64 0] ((setRow_other wd g2 g3 _ NE3_2.out).trans B3) (by kernel_rfl) rfl (by simp [Value.oneCell']) ?_
    refine hK.out _ _ ((setRow_other _ g3 g4 _ (NE4_3.out)).trans hHeld2) (fun hHeld3 => ?_)
    clear hK K
    refine done_ (by kernel_rfl) ?_
    try go_wp2
    refine bodyPost_ret (results_cc rfl _ _ g2 g3 24 28 #[.slice none 0 0] #[.int .i64 fc2, .int .i64 fi2] (0, 0) (0, 0) _ _ rfl ((setRow_other _ g3 g2 _ (Ne.symm NE3_2.out)).trans (setRow_heap wd g2 #[.slice none 0 0] #[.slice none 0 0] 24 (0, 0) B2)) Tryd.underlying24 rfl (by kernel_rfl) rfl (setRow_heap _ g3 #[.int .i64 0, .int .i64 0] #[.int .i64 fc2, .int .i64 fi2] 28 (0, 0) ((setRow_other wd g2 g3 _ NE3_2.out).trans B3)) Tryd.underlying28 rfl (by kernel_rfl)) rfl ?_
    exact ⟨_, rfl, Kd.R_nil _ _ _ _ _, below_setRow (below_setRow HBd GE2.out _) GE3.out _⟩
end Go.Proofs.YtblkkhddefnkpaaDoor.PPo
