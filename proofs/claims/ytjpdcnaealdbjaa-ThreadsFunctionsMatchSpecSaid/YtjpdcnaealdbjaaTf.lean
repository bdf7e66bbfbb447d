/- Texts of this repo, joined: Te, Tf. -/
import Derived.Test.YtjpdcnaealdbjaaTd
import Derived.Laws.CopyOwn
namespace Go.Proofs.Ytjpdcnaealdbjaa.PTh
open Go.RowKit Go.Proofs.YtjpdcnaealdbjaaW.PrintWords Go.Proofs.YtjpdcnaealdbjaaW.PrintLast Go.Proofs.YtjpdcnaealdbjaaW.PrintMore
attribute [local go_sem] max2_int min2_int max_two min_two max_three min_three max_four min_four
attribute [local go_sem] World.cell?_alloc_some
set_option linter.unusedVariables false
set_option linter.unusedSimpArgs false


def up : Nat → Int → List (Int × Bool)
 | 0, _ => []
 | c + 1, n => (n, true) :: up c (n + 1)
def trL : List S52 → Nat → Int → List (Int × Bool)
 | [], o, n => up (130 - o) n
 | h :: t, o, n => up (h.f0.toNat - o) n ++ (List.replicate h.f1.length (n + ((h.f0.toNat - o : Nat) : Int), false) ++ trL t (h.f0.toNat + h.f1.length) (n + ((h.f0.toNat - o : Nat) : Int) + (h.f2.length : Int)))
def trOk : Nat → List S52 → Bool
 | o, [] => decide (o ≤ 130)
 | o, h :: t => decide ((o : Int) ≤ h.f0 ∧ h.f0 + (h.f1.length : Int) ≤ 130 ∧ h.f2.length ≤ 1000) && trOk (h.f0.toNat + h.f1.length) t
def pc (D : List (Int × Bool)) : Array Value := (D.map (fun x => Value.int .i64 x.1) ++ List.replicate (130 - D.length) (Value.int .i64 0)).toArray
def kc (D : List (Int × Bool)) : Array Value := (D.map (fun x => Value.bool x.2) ++ List.replicate (130 - D.length) (Value.bool false)).toArray
theorem pc_size {D : List (Int × Bool)} (h : D.length ≤ 130) : (pc D).size = 130 := by simp [pc]; omega
theorem kc_size {D : List (Int × Bool)} (h : D.length ≤ 130) : (kc D).size = 130 := by simp [kc]; omega
theorem pc_get {D : List (Int × Bool)} (h : D.length < 130) : (pc D)[D.length]? = some (.int .i64 0) := by
 have e : 130 - D.length = (129 - D.length) + 1 := by omega
 simp [pc, e, List.getElem?_append_right]
theorem kc_get {D : List (Int × Bool)} (h : D.length < 130) : (kc D)[D.length]? = some (.bool false) := by
 have e : 130 - D.length = (129 - D.length) + 1 := by omega
 simp [kc, e, List.getElem?_append_right]
theorem set_app {α : Type} (a : List α) (x y : α) (b : List α) : (a ++ x :: b).set a.length y = (a ++ [y]) ++ b := by simp [List.set_append_right]
theorem pc_set {D : List (Int × Bool)} (h : D.length < 130) (n : Int) (b : Bool) : (pc D).setIfInBounds D.length (.int .i64 n) = pc (D ++ [(n, b)]) := by
 have e : 130 - D.length = (129 - D.length) + 1 := by omega
 have e2 : 130 - (D ++ [(n, b)]).length = 129 - D.length := by rw [List.length_append, List.length_singleton]; omega
 unfold pc
 rw [e2, e, List.replicate_succ, List.setIfInBounds_toArray, List.map_append]
 have := set_app (D.map (fun x => Value.int .i64 x.1)) (.int .i64 0) (.int .i64 n) (List.replicate (129 - D.length) (Value.int .i64 0))
 rw [List.length_map] at this
 rw [this]
 rfl
theorem kc_set {D : List (Int × Bool)} (h : D.length < 130) (n : Int) (b : Bool) : (kc D).setIfInBounds D.length (.bool b) = kc (D ++ [(n, b)]) := by
 have e : 130 - D.length = (129 - D.length) + 1 := by omega
 have e2 : 130 - (D ++ [(n, b)]).length = 129 - D.length := by rw [List.length_append, List.length_singleton]; omega
 unfold kc
 rw [e2, e, List.replicate_succ, List.setIfInBounds_toArray, List.map_append]
 have := set_app (D.map (fun x => Value.bool x.2)) (.bool false) (.bool b) (List.replicate (129 - D.length) (Value.bool false))
 rw [List.length_map] at this
 rw [this]
 rfl
theorem kc_false {D : List (Int × Bool)} (h : D.length < 130) (n : Int) : kc (D ++ [(n, false)]) = kc D := by
 have e : 130 - D.length = (129 - D.length) + 1 := by omega
 have e2 : 130 - (D ++ [(n, false)]).length = 129 - D.length := by rw [List.length_append, List.length_singleton]; omega
 unfold kc
 rw [e2, e, List.replicate_succ, List.map_append, List.append_assoc]
 rfl
theorem pc_one (D : List (Int × Bool)) : (pc D).all (·.oneCell') = true := by
 have h : ∀ x ∈ (D.map (fun x => Value.int .i64 x.1) ++ List.replicate (130 - D.length) (Value.int .i64 0)), x.oneCell' = true := by
  intro x hx
  rcases List.mem_append.1 hx with h | h
  ·obtain ⟨y, _, rfl⟩ := List.mem_map.1 h; rfl
  ·rw [(List.mem_replicate.1 h).2]; rfl
 unfold pc
 rw [List.all_toArray]
 exact List.all_eq_true.2 h
theorem kc_one (D : List (Int × Bool)) : (kc D).all (·.oneCell') = true := by
 have h : ∀ x ∈ (D.map (fun x => Value.bool x.2) ++ List.replicate (130 - D.length) (Value.bool false)), x.oneCell' = true := by
  intro x hx
  rcases List.mem_append.1 hx with h | h
  ·obtain ⟨y, _, rfl⟩ := List.mem_map.1 h; rfl
  ·rw [(List.mem_replicate.1 h).2]; rfl
 unfold kc
 rw [List.all_toArray]
 exact List.all_eq_true.2 h
theorem yieldsIf_load_row {P : Program} {ops : Array Oper} {S : World → Prop} {op : Oper} {a : Act} (hw : Region.wanted op (yielded ops a.tmps) = true) (ty : TypeId) (x : Operand) (ho : op.op = .load ty x)
  (g : Nat) (hx : a.eval x = .pointer (some ⟨g, 0, none⟩)) (cs : Array Value) (t : TypeId) (d : TypeDesc) (hS : ∀ w, S w → w.heap[g]? = some (.cells cs t (0, 0))) (hu : P.underlying ty = some d) (hd : (match d with | .struct _ | .array _ _ => true | _ => false) = true) (hi : (P.info? ty).map (·.size) = some cs.size) : YieldsIf P ops S op (.agg cs) a :=
 .inl ⟨hw, fun w hw' => by
  unfold execOp
  simp only [ho, hx, Instr.loadAt, Instr.sureAddr, Sem.run_bind, Sem.run_pure, Result.andThen_ok, run_loadVar_row w g t ty cs (0, 0) d (hS w hw') hu hd hi]⟩
theorem w1_ {n : Int} (h0 : 0 ≤ n) (h1 : n ≤ 1000000000) : wrap64 (n + 1) = n + 1 := by unfold wrap64; omega
theorem wa_ {n : Int} {m : Nat} (h0 : 0 ≤ n) (h1 : n ≤ 1000000000) (h2 : m ≤ 1000000) : wrap64 (n + (m : Int)) = n + (m : Int) := by unfold wrap64; omega
theorem nb_ {n : Int} {a d : Nat} (h : n ≤ 130 + 2000 * (a : Int) + (d : Int)) (ha : a ≤ 1000) (hd : d < 130) : n ≤ 1000000000 := by omega
theorem nc_ {n : Int} {d : Nat} (h : n ≤ 10000000 + (d : Int)) (hd : d < 130) : n ≤ 1000000000 := by omega
theorem nd_ {n : Int} {a d : Nat} (h : n ≤ 130 + 2000 * (a : Int) + (d : Int)) (hd : d ≤ 130) : n ≤ 260 + 2000 * (a : Int) := by omega
theorem ne_ {n : Int} {a : Nat} (h : n ≤ 260 + 2000 * (a : Int)) (ha : a ≤ 1000) : n ≤ 1000000000 := by omega
theorem nf_ {n : Int} {a b m : Nat} (h0 : 0 ≤ n) (h : n ≤ 260 + 2000 * (a : Int)) (hm : m ≤ 1000) (hb : b = a + 1) : 0 ≤ n + (m : Int) ∧ n + (m : Int) ≤ 130 + 2000 * (b : Int) := by omega
theorem wn_ {m : Nat} (h : m ≤ 1000) : wrap64 ((m : Int) + 1) = (m : Int) + 1 := by unfold wrap64; omega
theorem ng_ {n : Int} {a d : Nat} (h0 : 0 ≤ n) (h : n ≤ 130 + 2000 * (a : Int) + (d : Int)) : 0 ≤ n + 1 ∧ n + 1 ≤ 130 + 2000 * (a : Int) + ((d + 1 : Nat) : Int) := by omega
theorem nh_ {n : Int} {d : Nat} (h0 : 0 ≤ n) (h : n ≤ 10000000 + (d : Int)) : 0 ≤ n + 1 ∧ n + 1 ≤ 10000000 + ((d + 1 : Nat) : Int) := by omega
theorem at_mid52 (done : List S52) (e : S52) (es : List S52) : rd_T52 (done ++ e :: es) (done.length : Int) = e := by simp [rd_T52, List.getD_eq_getElem?_getD]
set_option maxHeartbeats 8000000 in
set_option maxRecDepth 100000 in
theorem changeforgeref7_Trace.calls (A0 : Option Addr) (c0 : Nat) (hs : List S52) (w : World) (hr0 : Kd.C k52 w A0 hs.length hs) (hc0 : hs.length ≤ c0) (hok : trOk 0 hs = true) (hlen : hs.length ≤ 1000) :
  Calls Try.prog 34 #[.agg #[.slice A0 hs.length c0]] w fun e w' => e = .returned (.tuple #[.agg (pc (trL hs 0 0)), .agg (kc (trL hs 0 0))]) ∧ Below w.heap.size w w' := by
 have hu41 := Try.underlying41
 have hu68 := Try.underlying68
 have hu69 := Try.underlying69
 have HR0 := qi_.mk hr0
 have HC0 := qi_.mk hc0
 have HLEN := qi_.mk hlen
 have HOK0 := qi_.mk hok
 clear hr0 hc0 hok hlen
 obtain ⟨T, hT⟩ : ∃ T, T = trL hs 0 0 := ⟨_, rfl⟩
 rw [← hT]
 have HT0 := qi_.mk hT
 clear hT
 have HB := qi_.mk (Below.refl w.heap.size w)
 go_enter Try.func34, Try.ntmps34
 go_wp2_with (first | ((with_reducible refine gate_dst (N := 1) rfl ?_); refine q1_ ?hg (N := 1) ?hd (cs := #[.slice A0 hs.length c0]) (t := 41) ?hr ?_; (case hd => rfl); (case hg => rfl); (case hr => first | kernel_rfl | (go_simp; done) | (go_simp; rfl)); intro g1 hg wn1 hbox hb; have GE1 : qi_ (w.heap.size ≤ g1) := qi_.mk (by rw [hg]; exact HB.out.size); have n0_ := qi_.mk (qr_ HB.out hb); have BK1 := qi_.mk hbox; clear HB; have HB := n0_; clear n0_ hbox hb hg) | ((with_reducible refine gate_dst (N := 2) rfl ?_); refine q1_ ?hg (N := 2) ?hd (cs := pc []) (t := 68) ?hr ?_; (case hd => rfl); (case hg => rfl); (case hr => first | kernel_rfl | (go_simp; done) | (go_simp; rfl)); intro g2 hg wn2 hbox hb; have GE2 : qi_ (w.heap.size ≤ g2) := qi_.mk (by rw [hg]; exact HB.out.size); have NE2_1 : g2 ≠ g1 := (by rw [hg]; exact Nat.ne_of_gt (blk_lt BK1.out)); have n1_ := qi_.mk (qn_ BK1.out hb); have n0_ := qi_.mk (qr_ HB.out hb); have BK2 := qi_.mk hbox; clear BK1; have BK1 := n1_; clear n1_; clear HB; have HB := n0_; clear n0_ hbox hb hg) | ((with_reducible refine gate_dst (N := 3) rfl ?_); refine q1_ ?hg (N := 3) ?hd (cs := kc []) (t := 69) ?hr ?_; (case hd => rfl); (case hg => rfl); (case hr => first | kernel_rfl | (go_simp; done) | (go_simp; rfl)); intro g3 hg wn3 hbox hb; have GE3 : qi_ (w.heap.size ≤ g3) := qi_.mk (by rw [hg]; exact HB.out.size); have NE3_1 : g3 ≠ g1 := (by rw [hg]; exact Nat.ne_of_gt (blk_lt BK1.out)); have NE3_2 : g3 ≠ g2 := (by rw [hg]; exact Nat.ne_of_gt (blk_lt BK2.out)); have n1_ := qi_.mk (qn_ BK1.out hb); have n2_ := qi_.mk (qn_ BK2.out hb); have n0_ := qi_.mk (qr_ HB.out hb); have BK3 := qi_.mk hbox; clear BK1; have BK1 := n1_; clear n1_; clear BK2; have BK2 := n2_; clear n2_; clear HB; have HB := n0_; clear n0_ hbox hb hg) | ((with_reducible refine gate_dst (N := 4) rfl ?_); refine q1_ ?hg (N := 4) ?hd (cs := pc []) (t := 68) ?hr ?_; (case hd => rfl); (case hg => rfl); (case hr => first | kernel_rfl | (go_simp; done) | (go_simp; rfl)); intro g4 hg wn4 hbox hb; have GE4 : qi_ (w.heap.size ≤ g4) := qi_.mk (by rw [hg]; exact HB.out.size); have NE4_1 : g4 ≠ g1 := (by rw [hg]; exact Nat.ne_of_gt (blk_lt BK1.out)); have NE4_2 : g4 ≠ g2 := (by rw [hg]; exact Nat.ne_of_gt (blk_lt BK2.out)); have NE4_3 : g4 ≠ g3 := (by rw [hg]; exact Nat.ne_of_gt (blk_lt BK3.out)); have n1_ := qi_.mk (qn_ BK1.out hb); have n2_ := qi_.mk (qn_ BK2.out hb); have n3_ := qi_.mk (qn_ BK3.out hb); have n0_ := qi_.mk (qr_ HB.out hb); have BK4 := qi_.mk hbox; clear BK1; have BK1 := n1_; clear n1_; clear BK2; have BK2 := n2_; clear n2_; clear BK3; have BK3 := n3_; clear n3_; clear HB; have HB := n0_; clear n0_ hbox hb hg) | ((with_reducible refine gate_dst (N := 5) rfl ?_); refine q1_ ?hg (N := 5) ?hd (cs := kc []) (t := 69) ?hr ?_; (case hd => rfl); (case hg => rfl); (case hr => first | kernel_rfl | (go_simp; done) | (go_simp; rfl)); intro g5 hg wn5 hbox hb; have GE5 : qi_ (w.heap.size ≤ g5) := qi_.mk (by rw [hg]; exact HB.out.size); have NE5_1 : g5 ≠ g1 := (by rw [hg]; exact Nat.ne_of_gt (blk_lt BK1.out)); have NE5_2 : g5 ≠ g2 := (by rw [hg]; exact Nat.ne_of_gt (blk_lt BK2.out)); have NE5_3 : g5 ≠ g3 := (by rw [hg]; exact Nat.ne_of_gt (blk_lt BK3.out)); have NE5_4 : g5 ≠ g4 := (by rw [hg]; exact Nat.ne_of_gt (blk_lt BK4.out)); have n1_ := qi_.mk (qn_ BK1.out hb); have n2_ := qi_.mk (qn_ BK2.out hb); have n3_ := qi_.mk (qn_ BK3.out hb); have n4_ := qi_.mk (qn_ BK4.out hb); have n0_ := qi_.mk (qr_ HB.out hb); have BK5 := qi_.mk hbox; clear BK1; have BK1 := n1_; clear n1_; clear BK2; have BK2 := n2_; clear n2_; clear BK3; have BK3 := n3_; clear n3_; clear BK4; have BK4 := n4_; clear n4_; clear HB; have HB := n0_; clear n0_ hbox hb hg) | fail)
 have n_ := qi_.mk NE2_1
 clear NE2_1
 have NE2_1 := n_
 clear n_
 have n_ := qi_.mk NE3_1
 clear NE3_1
 have NE3_1 := n_
 clear n_
 have n_ := qi_.mk NE3_2
 clear NE3_2
 have NE3_2 := n_
 clear n_
 have n_ := qi_.mk NE4_1
 clear NE4_1
 have NE4_1 := n_
 clear n_
 have n_ := qi_.mk NE4_2
 clear NE4_2
 have NE4_2 := n_
 clear n_
 have n_ := qi_.mk NE4_3
 clear NE4_3
 have NE4_3 := n_
 clear n_
 have n_ := qi_.mk NE5_1
 clear NE5_1
 have NE5_1 := n_
 clear n_
 have n_ := qi_.mk NE5_2
 clear NE5_2
 have NE5_2 := n_
 clear n_
 have n_ := qi_.mk NE5_3
 clear NE5_3
 have NE5_3 := n_
 clear n_
 have n_ := qi_.mk NE5_4
 clear NE5_4
 have NE5_4 := n_
 clear n_
 have NX1_4 := qi_.mk (Ne.symm NE4_1.out)
 have NX2_4 := qi_.mk (Ne.symm NE4_2.out)
 have NX3_4 := qi_.mk (Ne.symm NE4_3.out)
 have NX5_4 := NE5_4
 have NX1_5 := qi_.mk (Ne.symm NE5_1.out)
 have NX2_5 := qi_.mk (Ne.symm NE5_2.out)
 have NX3_5 := qi_.mk (Ne.symm NE5_3.out)
 have NX4_5 := qi_.mk (Ne.symm NE5_4.out)
 go_loopg [6, 7, 8] hs.length (fun kq v6 v7 v8 w' => ∃ (D : List (Int × Bool)) (n : Int) (hd rest : List S52), v6 = .int .i64 (D.length : Int) ∧ v7 = .int .i64 n ∧ v8 = .int .i64 (hd.length : Int) ∧ qi_ (rest.length = kq) ∧ qi_ (hs = hd ++ rest) ∧ qi_ (trOk D.length rest = true) ∧ qi_ (D ++ trL rest D.length n = T) ∧ qi_ (0 ≤ n ∧ n ≤ 130 + 2000 * (hd.length : Int)) ∧ qi_ (w'.heap[g1]? = some (.cells #[.slice A0 hs.length c0] 41 (0, 0))) ∧ qi_ (w'.heap[g2]? = some (.cells (pc []) 68 (0, 0))) ∧ qi_ (w'.heap[g3]? = some (.cells (kc []) 69 (0, 0))) ∧ qi_ (w'.heap[g4]? = some (.cells (pc D) 68 (0, 0))) ∧ qi_ (w'.heap[g5]? = some (.cells (kc D) 69 (0, 0))) ∧ qi_ (Below w.heap.size w w'))
 case atStart => exact ⟨[], 0, [], hs, rfl, rfl, rfl, ⟨rfl⟩, ⟨rfl⟩, HOK0, ⟨by rw [HT0.out]; rfl⟩, ⟨by decide⟩, BK1, BK2, BK3, BK4, BK5, HB⟩
 case round =>
  clear HT0 HOK0 BK1 BK2 BK3 BK4 BK5 HB
  obtain ⟨D, n, hd, rest, rfl, rfl, rfl, HK, HS, HOK, HTT, HN, BK1, BK2, BK3, BK4, BK5, HB⟩ := hrel
  have x1 := (qb_ BK1.out 0).trans rfl
  cases rest with
  | nil =>
   have hx : decide ((hd.length : Int) < (hs.length : Int)) = false := decide_eq_false (by rw [HS.out]; simp)
   have hxn : ¬ hd.length < hs.length := by rw [HS.out]; simp
   have hoD : D.length ≤ 130 := by have h_ := HOK.out; simpa [trOk] using h_
   have hn2 : n ≤ 10000000 := by have := HN.out; have := HLEN.out; have h_ : hd.length ≤ hs.length := by { rw [HS.out]; simp }; omega
   have hn0 : 0 ≤ n := HN.out.1
   have HTU : qi_ (D ++ up (130 - D.length) n = T) := ⟨HTT.out⟩
   clear HTT HN HOK
   go_wp2_with fail
   go_loopg [6, 7] (130 - D.length) (fun kq v6 v7 w' => ∃ (D : List (Int × Bool)) (n : Int), v6 = .int .i64 (D.length : Int) ∧ v7 = .int .i64 n ∧ qi_ (D.length + kq = 130) ∧ qi_ (D ++ up kq n = T) ∧ qi_ (0 ≤ n ∧ n ≤ 10000000 + (D.length : Int)) ∧ qi_ (w'.heap[g1]? = some (.cells #[.slice A0 hs.length c0] 41 (0, 0))) ∧ qi_ (w'.heap[g2]? = some (.cells (pc []) 68 (0, 0))) ∧ qi_ (w'.heap[g3]? = some (.cells (kc []) 69 (0, 0))) ∧ qi_ (w'.heap[g4]? = some (.cells (pc D) 68 (0, 0))) ∧ qi_ (w'.heap[g5]? = some (.cells (kc D) 69 (0, 0))) ∧ qi_ (Below w.heap.size w w'))
   case atStart => exact ⟨D, n, rfl, rfl, ⟨by omega⟩, HTU, ⟨by omega⟩, BK1, BK2, BK3, BK4, BK5, HB⟩
   case round =>
    clear HTU BK1 BK2 BK3 BK4 BK5 HB x1 hoD hn2 hn0 HK HS
    obtain ⟨D, n, rfl, rfl, HK, HTT, HN, BK1, BK2, BK3, BK4, BK5, HB⟩ := hrel
    by_cases hD : D.length < 130
    ·obtain ⟨kz, hkz⟩ : ∃ kz, gk = kz + 1 := ⟨gk - 1, by have := HK.out; omega⟩
     have hb1 := HN.out
     have hxd : decide ((D.length : Int) < 130) = true := decide_eq_true (by omega)
     have x1 := (qb_ BK1.out 0).trans rfl
     have p4 := (qb_ BK4.out D.length).trans (pc_get hD)
     have p5 := (qb_ BK5.out D.length).trans (kc_get hD)
     have z4 := qg_ BK4.out D.length
     have z5 := qg_ BK5.out D.length
     have hDi : (D.length : Int) < 130 := by omega
     have hD0 : (0 : Int) ≤ (D.length : Int) := by omega
     have hDl : qi_ (((D.length : Int) + 1) = (((D ++ [(n, true)] : List (Int × Bool)).length : Nat) : Int)) := ⟨by rw [List.length_append, List.length_singleton]; rfl⟩
     have hDf : qi_ (((D.length : Int) + 1) = (((D ++ [(n, false)] : List (Int × Bool)).length : Nat) : Int)) := ⟨by rw [List.length_append, List.length_singleton]; rfl⟩
     have hwD : wrap64 ((D.length : Int) + 1) = (D.length : Int) + 1 := w1_ hD0 (Int.le_of_lt (Int.lt_trans hDi (by decide)))
     have hwn : wrap64 (n + 1) = n + 1 := w1_ hb1.1 (by first | exact nb_ hb1.2 hn3 hD | exact nc_ hb1.2 hD | exact Int.le_trans hb1.2 (by decide))
     have nv1 := NX5_4.out
     have nv2 := NX4_5.out
     go_wp2_with fail
     go_roundg kz
     case measure => (clear nv1 nv2; omega)
     case rel => (clear nv1 nv2; exact ⟨D ++ [(n, true)], n + 1, by first | exact congrArg _ hDl.out | (rw [hwD]; exact congrArg _ hDl.out), by first | rfl | (rw [hwn]), ⟨by have := HK.out; rw [List.length_append, List.length_singleton]; omega⟩, ⟨by have h_ := HTT.out; rw [hkz] at h_; rw [List.append_assoc]; exact h_⟩, ⟨by rw [List.length_append, List.length_singleton]; first | exact ng_ hb1.1 hb1.2 | exact nh_ hb1.1 hb1.2⟩, ⟨q7_ (q7_ BK1.out NX1_4.out _) NX1_5.out _⟩, ⟨q7_ (q7_ BK2.out NX2_4.out _) NX2_5.out _⟩, ⟨q7_ (q7_ BK3.out NX3_4.out _) NX3_5.out _⟩, ⟨q7_ (q6_ BK4.out D.length (.int .i64 n) (pc_set hD n true)) NX4_5.out _⟩, ⟨q6_ (q7_ BK5.out NX5_4.out _) D.length (.bool true) (kc_set hD n true)⟩, ⟨below_put (below_put HB.out GE4.out _ _) GE5.out _ _⟩⟩)
    ·have hxd : decide ((D.length : Int) < 130) = false := decide_eq_false (by omega)
     have hxi : ¬ (D.length : Int) < 130 := by omega
     obtain rfl : gk = 0 := by have := HK.out; omega
     have e_ : D = T := by have h_ := HTT.out; simpa [up] using h_
     clear HTT HN
     subst e_
     go_wp2_with fail
     have hTl : D.length = 130 := by have := HK.out; omega
     have hi4 : (Try.prog.info? 68).map (·.size) = some (pc D).size := by rw [pc_size (by omega)]; kernel_rfl
     have hi5 : (Try.prog.info? 69).map (·.size) = some (kc D).size := by rw [kc_size (by omega)]; kernel_rfl
     refine start_ (n := 4) (S := fun W => W.heap[g4]? = some (.cells (pc D) 68 (0, 0)) ∧ W.heap[g5]? = some (.cells (kc D) 69 (0, 0))) (ds := []) #[false, false, false, false] (by kernel_rfl) rfl rfl ⟨qh_ BK4.out, qh_ BK5.out⟩ (fun hHeld => ?_)
     have B2 := qh_ BK2.out
     have B3 := qh_ BK3.out
     have HBd := qc_ HB.out
     generalize wr.drew = wd at hHeld B2 B3 HBd ⊢
     refine take_ (i := 0) (N := some 70) (v := .agg (pc D)) (a' := ?_) #[true, false, false, false] rfl rfl (by kernel_rfl) (fun _ _ _ h => h) (yieldsIf_load_row rfl 68 (.tmp 4) rfl g4 rfl (pc D) 68 _ (fun _ h => h.1) Try.underlying68 rfl hi4) hHeld ?_ ?_
     rotate_left
     ·simp only [Act.put, List.setIfInBounds_toArray, List.set_cons_zero, List.set_cons_succ]
      rfl
     refine take_ (i := 1) (N := some 71) (v := .agg (kc D)) (a' := ?_) #[true, true, false, false] rfl rfl (by kernel_rfl) (fun _ _ _ h => h) (yieldsIf_load_row rfl 69 (.tmp 5) rfl g5 rfl (kc D) 69 _ (fun _ h => h.2) Try.underlying69 rfl hi5) hHeld ?_ ?_
     rotate_left
     ·simp only [Act.put, List.setIfInBounds_toArray, List.set_cons_zero, List.set_cons_succ]
      rfl
     refine one_ (i := 2) (N := none) #[true, true, true, false] rfl rfl (by kernel_rfl) (by decide) (fun K hK => ?_)
     rw [if_pos (by rfl)]
     refine wp_store_row 68 (.tmp 2) (.tmp 70) rfl g2 (pc D) rfl rfl 68 (pc []) B2 hi4 (by rw [pc_size (show ([] : List (Int × Bool)).length ≤ 130 from by decide), pc_size (by omega)]) (pc_one D) ?_
     refine hK.out _ _ ⟨(setRow_other wd g2 g4 _ NE4_2.out).trans hHeld.1, (setRow_other wd g2 g5 _ NE5_2.out).trans hHeld.2⟩ (fun hHeld2 => ?_)
     clear hK K
     refine one_ (i := 3) (N := none) #[true, true, true, true] rfl rfl (by kernel_rfl) (by decide) (fun K hK => ?_)
     rw [if_pos (by rfl)]
     refine wp_store_row 69 (.tmp 3) (.tmp 71) rfl g3 (kc D) rfl rfl 69 (kc []) ((setRow_other wd g2 g3 _ NE3_2.out).trans B3) hi5 (by rw [kc_size (show ([] : List (Int × Bool)).length ≤ 130 from by decide), kc_size (by omega)]) (kc_one D) ?_
     refine hK.out _ _ ⟨(setRow_other _ g3 g4 _ NE4_3.out).trans hHeld2.1, (setRow_other _ g3 g5 _ NE5_3.out).trans hHeld2.2⟩ (fun hHeld3 => ?_)
     clear hK K
     refine done_ (by kernel_rfl) ?_
     try go_wp2
     refine bodyPost_ret (results_cc rfl _ _ g2 g3 68 69 (pc D) (kc D) (0, 0) (0, 0) _ _ rfl ((setRow_other _ g3 g2 _ (Ne.symm NE3_2.out)).trans (setRow_heap wd g2 (pc []) (pc D) 68 (0, 0) B2)) Try.underlying68 rfl hi4 rfl (setRow_heap _ g3 (kc []) (kc D) 69 (0, 0) ((setRow_other wd g2 g3 _ NE3_2.out).trans B3)) Try.underlying69 rfl hi5) rfl ?_
     exact ⟨rfl, below_setRow (below_setRow HBd GE2.out _) GE3.out _⟩
  | cons h t =>
   have hjl : hd.length + (t.length + 1) = hs.length := by rw [HS.out, List.length_append, List.length_cons]
   have hx : decide ((hd.length : Int) < (hs.length : Int)) = true := decide_eq_true (by omega)
   have hxn : hd.length < hs.length := by omega
   have hxp : (hd.length : Int) < (hs.length : Int) := by omega
   have hx0 : (0 : Int) ≤ (hd.length : Int) := by omega
   have hok_ := HOK.out
   simp only [trOk, Bool.and_eq_true, decide_eq_true_eq] at hok_
   obtain ⟨⟨ok1, ok2, ok3⟩, ok4⟩ := hok_
   have HOK1 := qi_.mk ok4
   clear ok4 HOK
   obtain ⟨kz, hkz⟩ : ∃ kz, gk = kz + 1 := ⟨t.length, by have := HK.out; rw [List.length_cons] at this; omega⟩
   have HK1 : qi_ (t.length = kz) := ⟨by have := HK.out; rw [List.length_cons] at this; omega⟩
   obtain ⟨ad, A1, c1, A2, c2, hA, y0, y1, y2, hl1, hC1, hl2, hC2⟩ := at_T52 HR0.out (hd.length : Int) hx0 hxp
   have he : rd_T52 hs (hd.length : Int) = h := by rw [HS.out]; exact at_mid52 _ _ _
   rw [he] at y0 y1 y2 hl1 hl2
   rw [Int.toNat_natCast] at y0 y1 y2
   subst hA
   clear hC1 hC2
   have hXX : ∀ W, Below w.heap.size w W → W.cell? (ad.add (hd.length * 3)) = some (.int .i64 h.f0) ∧ W.cell? ⟨(ad.add (hd.length * 3)).block, (ad.add (hd.length * 3)).off + 1, none⟩ = some (.slice A1 h.f1.length c1) ∧ W.cell? ⟨(ad.add (hd.length * 3)).block, (ad.add (hd.length * 3)).off + 2, none⟩ = some (.slice A2 h.f2.length c2) := fun W hW => ⟨(Below.cell hW (World.block_lt_of_cell? w _ y0)).trans y0, (Below.cell hW (World.block_lt_of_cell? w _ y1)).trans y1, (Below.cell hW (World.block_lt_of_cell? w _ y2)).trans y2⟩
   have HX := qi_.mk hXX
   clear hXX y0 y1 y2 he
   obtain ⟨N1, hN1⟩ : ∃ N1 : Int, N1 = n + ((h.f0.toNat - D.length : Nat) : Int) := ⟨_, rfl⟩
   have HTU : qi_ (D ++ (up (h.f0.toNat - D.length) n ++ (List.replicate h.f1.length (N1, false) ++ trL t (h.f0.toNat + h.f1.length) (N1 + (h.f2.length : Int)))) = T) := ⟨by rw [hN1]; exact HTT.out⟩
   have hn1 : n ≤ 130 + 2000 * (hd.length : Int) := HN.out.2
   have hn0 : 0 ≤ n := HN.out.1
   have hn3 : hd.length ≤ 1000 := by have := HLEN.out; omega
   have ht130 : qi_ (h.f0.toNat ≤ 130) := ⟨by omega⟩
   have hf130 : qi_ (h.f1.length ≤ 1000) := ⟨by omega⟩
   have hjl_ := qi_.mk hjl
   clear hjl
   clear HTT HN
   have OKA := qi_.mk (And.intro ok1 (And.intro ok2 ok3))
   have HN3 := qi_.mk hn3
   have HKZ := qi_.mk hkz
   have HN1 := qi_.mk (And.intro hn0 hn1)
   have HNN := qi_.mk hN1
   clear ok1 ok2 ok3 hn3 hkz hn0 hn1 hN1
   go_wp2_with fail
   clear hxn
   go_loopg [6, 7] (h.f0.toNat - D.length) (fun kq v6 v7 w' => ∃ (D : List (Int × Bool)) (n : Int), v6 = .int .i64 (D.length : Int) ∧ v7 = .int .i64 n ∧ qi_ (D.length + kq = h.f0.toNat) ∧ qi_ (N1 = n + (kq : Int)) ∧ qi_ (D ++ (up kq n ++ (List.replicate h.f1.length (N1, false) ++ trL t (h.f0.toNat + h.f1.length) (N1 + (h.f2.length : Int)))) = T) ∧ qi_ (0 ≤ n ∧ n ≤ 130 + 2000 * (hd.length : Int) + (D.length : Int)) ∧ qi_ (w'.heap[g1]? = some (.cells #[.slice (some ad) hs.length c0] 41 (0, 0))) ∧ qi_ (w'.heap[g2]? = some (.cells (pc []) 68 (0, 0))) ∧ qi_ (w'.heap[g3]? = some (.cells (kc []) 69 (0, 0))) ∧ qi_ (w'.heap[g4]? = some (.cells (pc D) 68 (0, 0))) ∧ qi_ (w'.heap[g5]? = some (.cells (kc D) 69 (0, 0))) ∧ qi_ (Below w.heap.size w w'))
   case atStart => exact ⟨D, n, rfl, rfl, ⟨by have := OKA.out; omega⟩, HNN, HTU, ⟨by have := HN1.out; omega⟩, BK1, BK2, BK3, BK4, BK5, HB⟩
   case round =>
    clear HTU BK1 BK2 BK3 BK4 BK5 HB x1 HN1 HNN
    obtain ⟨D, n, rfl, rfl, HK, HM, HTT, HN, BK1, BK2, BK3, BK4, BK5, HB⟩ := hrel
    obtain ⟨y0, y1, y2⟩ := HX.out _ HB.out
    by_cases hlt : (D.length : Int) < h.f0
    ·obtain ⟨ky, hky⟩ : ∃ ky, gk = ky + 1 := ⟨gk - 1, by have := HK.out; omega⟩
     have hb1 := HN.out
     have hn3 := HN3.out
     have hD : D.length < 130 := by have := OKA.out; omega
     have hxd : decide ((D.length : Int) < h.f0) = true := decide_eq_true hlt
     have x1 := (qb_ BK1.out 0).trans rfl
     have p4 := (qb_ BK4.out D.length).trans (pc_get hD)
     have p5 := (qb_ BK5.out D.length).trans (kc_get hD)
     have z4 := qg_ BK4.out D.length
     have z5 := qg_ BK5.out D.length
     have hDi : (D.length : Int) < 130 := by omega
     have hD0 : (0 : Int) ≤ (D.length : Int) := by omega
     have hDl : qi_ (((D.length : Int) + 1) = (((D ++ [(n, true)] : List (Int × Bool)).length : Nat) : Int)) := ⟨by rw [List.length_append, List.length_singleton]; rfl⟩
     have hDf : qi_ (((D.length : Int) + 1) = (((D ++ [(n, false)] : List (Int × Bool)).length : Nat) : Int)) := ⟨by rw [List.length_append, List.length_singleton]; rfl⟩
     have hwD : wrap64 ((D.length : Int) + 1) = (D.length : Int) + 1 := w1_ hD0 (Int.le_of_lt (Int.lt_trans hDi (by decide)))
     have hwn : wrap64 (n + 1) = n + 1 := w1_ hb1.1 (by first | exact nb_ hb1.2 hn3 hD | exact nc_ hb1.2 hD | exact Int.le_trans hb1.2 (by decide))
     have nv1 := NX5_4.out
     have nv2 := NX4_5.out
     have HB1 := qi_.mk hb1
     have HKY := qi_.mk hky
     clear hb1 hn3 hky hlt
     go_wp2_with fail
     have hb1 := HB1.out
     have hky := HKY.out
     go_roundg ky
     case measure => (clear nv1 nv2; omega)
     case rel => (clear nv1 nv2; exact ⟨D ++ [(n, true)], n + 1, by first | exact congrArg _ hDl.out | (rw [hwD]; exact congrArg _ hDl.out), by first | rfl | (rw [hwn]), ⟨by have := HK.out; rw [List.length_append, List.length_singleton]; omega⟩, ⟨by have := HM.out; omega⟩, ⟨by have h_ := HTT.out; rw [hky] at h_; rw [List.append_assoc]; exact h_⟩, ⟨by rw [List.length_append, List.length_singleton]; first | exact ng_ hb1.1 hb1.2 | exact nh_ hb1.1 hb1.2⟩, ⟨q7_ (q7_ BK1.out NX1_4.out _) NX1_5.out _⟩, ⟨q7_ (q7_ BK2.out NX2_4.out _) NX2_5.out _⟩, ⟨q7_ (q7_ BK3.out NX3_4.out _) NX3_5.out _⟩, ⟨q7_ (q6_ BK4.out D.length (.int .i64 n) (pc_set hD n true)) NX4_5.out _⟩, ⟨q6_ (q7_ BK5.out NX5_4.out _) D.length (.bool true) (kc_set hD n true)⟩, ⟨below_put (below_put HB.out GE4.out _ _) GE5.out _ _⟩⟩)
    ·have hxd : decide ((D.length : Int) < h.f0) = false := decide_eq_false hlt
     obtain rfl : gk = 0 := by have := HK.out; have := OKA.out; omega
     have hnN : n = N1 := by have := HM.out; omega
     have hdl : qi_ (D.length = h.f0.toNat) := ⟨by have := HK.out; omega⟩
     have HTV : qi_ (D ++ (List.replicate h.f1.length (N1, false) ++ trL t (h.f0.toNat + h.f1.length) (N1 + (h.f2.length : Int))) = T) := ⟨HTT.out⟩
     have HNB := qi_.mk (nd_ HN.out.2 (Nat.le_trans (Nat.le_of_eq hdl.out) ht130.out))
     have HN0 := qi_.mk HN.out.1
     clear HTT HM HN HK
     subst hnN
     clear hlt
     have x1 := (qb_ BK1.out 0).trans rfl
     go_wp2_with fail
     go_loopg [6, 9] h.f1.length (fun kq v6 v9 w' => ∃ (D : List (Int × Bool)) (i : Nat), v6 = .int .i64 (D.length : Int) ∧ v9 = .int .i64 (i : Int) ∧ qi_ (i + kq = h.f1.length) ∧ qi_ (D.length + kq = h.f0.toNat + h.f1.length) ∧ qi_ (D ++ (List.replicate kq (n, false) ++ trL t (h.f0.toNat + h.f1.length) (n + (h.f2.length : Int))) = T) ∧ qi_ (w'.heap[g1]? = some (.cells #[.slice (some ad) hs.length c0] 41 (0, 0))) ∧ qi_ (w'.heap[g2]? = some (.cells (pc []) 68 (0, 0))) ∧ qi_ (w'.heap[g3]? = some (.cells (kc []) 69 (0, 0))) ∧ qi_ (w'.heap[g4]? = some (.cells (pc D) 68 (0, 0))) ∧ qi_ (w'.heap[g5]? = some (.cells (kc D) 69 (0, 0))) ∧ qi_ (Below w.heap.size w w'))
     case atStart => exact ⟨D, 0, rfl, rfl, ⟨Nat.zero_add _⟩, ⟨by rw [hdl.out]⟩, HTV, BK1, BK2, BK3, BK4, BK5, HB⟩
     case round =>
      clear HTV BK1 BK2 BK3 BK4 BK5 HB x1 y0 y1 y2 hdl hxd
      obtain ⟨D, i, rfl, rfl, HK, HD, HTT, BK1, BK2, BK3, BK4, BK5, HB⟩ := hrel
      obtain ⟨y0, y1, y2⟩ := HX.out _ HB.out
      by_cases hlt : i < h.f1.length
      ·obtain ⟨ky, hky⟩ : ∃ ky, gk = ky + 1 := ⟨gk - 1, by have := HK.out; omega⟩
       have hn3 := HN3.out
       have hD : D.length < 130 := by have := HD.out; have := HK.out; have := OKA.out; omega
       have hb1 : 0 ≤ n ∧ n ≤ 1000000000 := ⟨HN0.out, ne_ HNB.out hn3⟩
       have hxd : decide ((i : Int) < (h.f1.length : Int)) = true := decide_eq_true (by omega)
       have hwi : wrap64 ((i : Int) + 1) = (i : Int) + 1 := wn_ (Nat.le_trans (Nat.le_of_lt hlt) hf130.out)
       have x1 := (qb_ BK1.out 0).trans rfl
       have p4 := (qb_ BK4.out D.length).trans (pc_get hD)
       have p5 := (qb_ BK5.out D.length).trans (kc_get hD)
       have z4 := qg_ BK4.out D.length
       have z5 := qg_ BK5.out D.length
       have hDi : (D.length : Int) < 130 := by omega
       have hD0 : (0 : Int) ≤ (D.length : Int) := by omega
       have hDl : qi_ (((D.length : Int) + 1) = (((D ++ [(n, true)] : List (Int × Bool)).length : Nat) : Int)) := ⟨by rw [List.length_append, List.length_singleton]; rfl⟩
       have hDf : qi_ (((D.length : Int) + 1) = (((D ++ [(n, false)] : List (Int × Bool)).length : Nat) : Int)) := ⟨by rw [List.length_append, List.length_singleton]; rfl⟩
       have hwD : wrap64 ((D.length : Int) + 1) = (D.length : Int) + 1 := w1_ hD0 (Int.le_of_lt (Int.lt_trans hDi (by decide)))
       have hwn : wrap64 (n + 1) = n + 1 := w1_ hb1.1 (by first | exact nb_ hb1.2 hn3 hD | exact nc_ hb1.2 hD | exact Int.le_trans hb1.2 (by decide))
       have nv1 := NX5_4.out
       have nv2 := NX4_5.out
       have hxd2 : decide (i < h.f1.length) = true := decide_eq_true hlt
       have HKY := qi_.mk hky
       clear hb1 hn3 hky hlt
       go_wp2_with fail
       have hky := HKY.out
       go_roundg ky
       case measure => (clear nv1 nv2; omega)
       case rel => (clear nv1 nv2; exact ⟨D ++ [(n, false)], i + 1, by first | exact congrArg _ hDf.out | (rw [hwD]; exact congrArg _ hDf.out), by first | rfl | (rw [hwi]; rfl), ⟨by have := HK.out; omega⟩, ⟨by have := HD.out; rw [List.length_append, List.length_singleton]; omega⟩, ⟨by have h_ := HTT.out; rw [hky] at h_; rw [List.append_assoc]; exact h_⟩, ⟨q7_ BK1.out NX1_4.out _⟩, ⟨q7_ BK2.out NX2_4.out _⟩, ⟨q7_ BK3.out NX3_4.out _⟩, ⟨q6_ BK4.out D.length (.int .i64 n) (pc_set hD n false)⟩, ⟨by rw [kc_false hD]; exact q7_ BK5.out NX5_4.out _⟩, ⟨below_put HB.out GE4.out _ _⟩⟩)
      ·have hxd : decide ((i : Int) < (h.f1.length : Int)) = false := decide_eq_false (by omega)
       obtain rfl : gk = 0 := by have := HK.out; omega
       have hdl : qi_ (D.length = h.f0.toNat + h.f1.length) := ⟨by have := HD.out; omega⟩
       have HTV : qi_ (D ++ trL t (h.f0.toNat + h.f1.length) (n + (h.f2.length : Int)) = T) := ⟨HTT.out⟩
       clear HTT HD HK
       have x1 := (qb_ BK1.out 0).trans rfl
       have hwn2 : wrap64 (n + (h.f2.length : Int)) = n + (h.f2.length : Int) := wa_ HN0.out (ne_ HNB.out HN3.out) (Nat.le_trans OKA.out.2.2 (by decide))
       have hwj : wrap64 ((hd.length : Int) + 1) = (hd.length : Int) + 1 := wn_ HN3.out
       have hjj : qi_ (((hd.length : Int) + 1) = (((hd ++ [h] : List S52).length : Nat) : Int)) := ⟨by rw [List.length_append, List.length_singleton]; rfl⟩
       have hxd2 : decide (i < h.f1.length) = false := decide_eq_false hlt
       clear hlt
       go_wp2_with fail
       have hkz := HKZ.out
       go_roundg kz
       case measure => omega
       case rel => exact ⟨D, n + (h.f2.length : Int), hd ++ [h], t, rfl, by first | rfl | (rw [hwn2]), by first | exact congrArg _ hjj.out | (rw [hwj]; exact congrArg _ hjj.out), HK1, ⟨by rw [HS.out, List.append_assoc]; rfl⟩, ⟨by rw [hdl.out]; exact HOK1.out⟩, ⟨by rw [hdl.out]; exact HTV.out⟩, ⟨nf_ HN0.out HNB.out OKA.out.2.2 (by rw [List.length_append, List.length_singleton])⟩, BK1, BK2, BK3, BK4, BK5, HB⟩
end Go.Proofs.Ytjpdcnaealdbjaa.PTh
namespace Go.Proofs.Ytjpdcnaealdbjaa.PTh
open Go.RowKit Go.Proofs.YtjpdcnaealdbjaaW.PrintWords Go.Proofs.YtjpdcnaealdbjaaW.PrintLast Go.Proofs.YtjpdcnaealdbjaaW.PrintMore
attribute [local go_sem] max2_int min2_int max_two min_two max_three min_three max_four min_four
attribute [local go_sem] World.cell?_alloc_some
set_option linter.unusedVariables false
set_option linter.unusedSimpArgs false


def flw (T : List (Int × Bool)) (t : S34) : S34 := if t.f3 = true then ⟨t.f0, t.f1, t.f2, true, t.f4⟩ else (if (T.getD t.f1.toNat (0, false)).2 = true then ⟨t.f0, (T.getD t.f1.toNat (0, false)).1, t.f2, t.f3, t.f4⟩ else ⟨t.f0, t.f1, t.f2, true, t.f4⟩)
def flOk (l : List S34) : Bool := l.all fun t => t.f3 || decide (0 ≤ t.f1 ∧ t.f1 < 130)
def changeforgeref7_Follow.f (k : Nat) (l0 : List (S34)) (l1_0 : List (S52)) : Option ((List (S34))) :=
 if (trOk 0 l1_0 && decide (l1_0.length ≤ 1000) && flOk l0 && decide (l0.length ≤ 1000)) = true then some (l0.map (flw (trL l1_0 0 0))) else none
theorem changeforgeref7_Follow.mono : ∀ l0 l1_0 k, LeO (changeforgeref7_Follow.f k l0 l1_0) (changeforgeref7_Follow.f (k + 1) l0 l1_0) := fun _ _ _ => LeO.refl _
theorem up_len : ∀ (c : Nat) (n : Int), (up c n).length = c
 | 0, _ => rfl
 | c + 1, n => by simp only [up, List.length_cons, up_len c]
theorem trL_len : ∀ (hs : List S52) (o : Nat) (n : Int), trOk o hs = true → o + (trL hs o n).length = 130
 | [], o, n, h => by
  have h_ : o ≤ 130 := by simpa [trOk] using h
  simp only [trL, up_len]
  omega
 | h :: t, o, n, hk => by
  simp only [trOk, Bool.and_eq_true, decide_eq_true_eq] at hk
  obtain ⟨⟨a, b, c⟩, d⟩ := hk
  have ih := trL_len t (h.f0.toNat + h.f1.length) (n + ((h.f0.toNat - o : Nat) : Int) + (h.f2.length : Int)) d
  simp only [trL, List.length_append, up_len, List.length_replicate]
  omega
theorem pc_at {T : List (Int × Bool)} (hT : T.length = 130) {i : Nat} (h : i < 130) : (pc T)[i]? = some (.int .i64 (T.getD i (0, false)).1) := by
 have hi : i < T.length := by omega
 simp [pc, List.getElem?_append_left, hi, List.getD_eq_getElem?_getD]
theorem kc_at {T : List (Int × Bool)} (hT : T.length = 130) {i : Nat} (h : i < 130) : (kc T)[i]? = some (.bool (T.getD i (0, false)).2) := by
 have hi : i < T.length := by omega
 simp [kc, List.getElem?_append_left, hi, List.getD_eq_getElem?_getD]
theorem at_mid34 (done : List S34) (e : S34) (es : List S34) : rd_T34 (done ++ e :: es) (done.length : Int) = e := by simp [rd_T34, List.getD_eq_getElem?_getD]
set_option maxHeartbeats 8000000 in
set_option maxRecDepth 100000 in
theorem changeforgeref7_Follow.calls (k : Nat) (A0 : Option Addr) (c0 : Nat) (l0 : List (S34)) (A1_0 : Option Addr) (c1_0 : Nat) (l1_0 : List (S52)) (r : List (S34)) (w : World) (hr0 : Kd.C k34 w A0 l0.length l0) (hc0 : l0.length ≤ c0) (hr1_0 : Kd.C k52 w A1_0 l1_0.length l1_0) (hc1_0 : l1_0.length ≤ c1_0) (h : changeforgeref7_Follow.f k l0 l1_0 = some r) :
  Calls Try.prog 23 #[.slice A0 l0.length c0, .agg #[.slice A1_0 l1_0.length c1_0]] w fun e w' => ∃ v0_ : Value, e = .returned (v0_) ∧ Kd.R k34 34 w' w.heap.size (fun _ => True) v0_ r ∧ Below w.heap.size w w' := by
 have hu41 := Try.underlying41
 have hu34 := Try.underlying34
 have hu68 := Try.underlying68
 have hu69 := Try.underlying69
 have HR0 := qi_.mk hr0
 have HC0 := qi_.mk hc0
 have HR1 := qi_.mk hr1_0
 have HC1 := qi_.mk hc1_0
 clear hr0 hc0 hr1_0 hc1_0
 unfold changeforgeref7_Follow.f at h
 by_cases hq : (trOk 0 l1_0 && decide (l1_0.length ≤ 1000) && flOk l0 && decide (l0.length ≤ 1000)) = true
 ·rw [if_pos hq] at h
  have hr := Option.some.inj h
  clear h
  simp only [Bool.and_eq_true, decide_eq_true_eq] at hq
  obtain ⟨⟨⟨q1, q2⟩, q3⟩, q4⟩ := hq
  have OK1 := qi_.mk q1
  have OK2 := qi_.mk q2
  have OK3 := qi_.mk q3
  have OK4 := qi_.mk q4
  clear q1 q2 q3 q4
  obtain ⟨T, hT⟩ : ∃ T, trL l1_0 0 0 = T := ⟨_, rfl⟩
  have HTL : qi_ (T.length = 130) := ⟨by have h_ := trL_len l1_0 0 0 OK1.out; rw [hT, Nat.zero_add] at h_; exact h_⟩
  have HTLE : qi_ (T.length ≤ 130) := ⟨Nat.le_of_eq HTL.out⟩
  rw [hT] at hr
  have HT := qi_.mk hT
  have HRR := qi_.mk hr
  clear hT hr
  have HB := qi_.mk (Below.refl w.heap.size w)
  go_enter Try.func23, Try.ntmps23
  go_wp2_with (first | ((with_reducible refine gate_dst (N := 3) rfl ?_); refine q1_ ?hg (N := 3) ?hd (cs := #[.slice A1_0 l1_0.length c1_0]) (t := 41) ?hr ?_; (case hd => rfl); (case hg => rfl); (case hr => first | kernel_rfl | (go_simp; done) | (go_simp; rfl)); intro g3 hg wn3 hbox hb; have GE3 : qi_ (w.heap.size ≤ g3) := qi_.mk (by rw [hg]; exact HB.out.size); have n0_ := qi_.mk (qr_ HB.out hb); have BK3 := qi_.mk hbox; clear HB; have HB := n0_; clear n0_ hbox hb hg; have x30 := (qb_ BK3.out 0).trans rfl) | ((with_reducible refine q2_ (f := 34) rfl ?_); refine goesL_ (some 12) rfl rfl Try.func34 (by kernel_rfl) rfl #[.agg #[.slice A1_0 l1_0.length c1_0]] rfl (by simp only [List.map_toArray]; first | done | rfl) ?_; refine (changeforgeref7_Trace.calls A1_0 c1_0 l1_0 _ (Kd.C_below HR1.out HB.out) HC1.out OK1.out OK2.out).mono ?_; rintro e w4 ⟨rfl, hb⟩; refine ⟨_, rfl, ?_⟩; have n0_ := qi_.mk (qr_ HB.out hb); have n3_ := qi_.mk (qn_ BK3.out hb); clear HB BK3; have HB := n0_; have BK3 := n3_; clear n0_ n3_ hb; rw [HT.out]) | ((with_reducible refine gate_dst (N := 5) rfl ?_); refine q1_ ?hg (N := 5) ?hd (cs := pc []) (t := 68) ?hr ?_; (case hd => rfl); (case hg => rfl); (case hr => first | kernel_rfl | (go_simp; done) | (go_simp; rfl)); intro g5 hg wn5 hbox hb; have GE5 : qi_ (w.heap.size ≤ g5) := qi_.mk (by rw [hg]; exact HB.out.size); have n3_ := qi_.mk (qn_ BK3.out hb); have n0_ := qi_.mk (qr_ HB.out hb); have BK5 := qi_.mk hbox; clear BK3; have BK3 := n3_; clear n3_; clear HB; have HB := n0_; clear n0_ hbox hb hg) | ((with_reducible refine gate_dst (N := 6) rfl ?_); refine q1_ ?hg (N := 6) ?hd (cs := kc []) (t := 69) ?hr ?_; (case hd => rfl); (case hg => rfl); (case hr => first | kernel_rfl | (go_simp; done) | (go_simp; rfl)); intro g6 hg wn6 hbox hb; have GE6 : qi_ (w.heap.size ≤ g6) := qi_.mk (by rw [hg]; exact HB.out.size); have n3_ := qi_.mk (qn_ BK3.out hb); have n5_ := qi_.mk (qn_ BK5.out hb); have n0_ := qi_.mk (qr_ HB.out hb); have BK6 := qi_.mk hbox; clear BK3; have BK3 := n3_; clear n3_; clear BK5; have BK5 := n5_; clear n5_; clear HB; have HB := n0_; clear n0_ hbox hb hg) | ((with_reducible refine gate_storeV (ty := 68) (x := .tmp 5) (y := .tmp 13) rfl ?_); refine store_eventV rfl 68 (.tmp 5) (.tmp 13) rfl g5 (pc T) rfl rfl 68 (pc []) BK5.out (by rw [pc_size HTLE.out]; kernel_rfl) (by rw [pc_size (show ([] : List (Int × Bool)).length ≤ 130 from by decide), pc_size HTLE.out]) (pc_one T) ?_; intro ws5 hn ho hb; have n0_ := qi_.mk (hb _ _ GE5.out HB.out); have nn_ := qi_.mk hn; have n3_ := qi_.mk ((ho _ (blk_ne BK3.out BK5.out (by decide))).trans BK3.out); have n6_ := qi_.mk ((ho _ (blk_ne BK6.out BK5.out (by decide))).trans BK6.out); clear BK3; have BK3 := n3_; clear n3_; clear BK6; have BK6 := n6_; clear n6_; clear HB BK5; have HB := n0_; have BK5 := nn_; clear n0_ nn_ hn ho hb) | ((with_reducible refine gate_storeV (ty := 69) (x := .tmp 6) (y := .tmp 14) rfl ?_); refine store_eventV rfl 69 (.tmp 6) (.tmp 14) rfl g6 (kc T) rfl rfl 69 (kc []) BK6.out (by rw [kc_size HTLE.out]; kernel_rfl) (by rw [kc_size (show ([] : List (Int × Bool)).length ≤ 130 from by decide), kc_size HTLE.out]) (kc_one T) ?_; intro ws6 hn ho hb; have n0_ := qi_.mk (hb _ _ GE6.out HB.out); have nn_ := qi_.mk hn; have n3_ := qi_.mk ((ho _ (blk_ne BK3.out BK6.out (by decide))).trans BK3.out); have n5_ := qi_.mk ((ho _ (blk_ne BK5.out BK6.out (by decide))).trans BK5.out); clear BK3; have BK3 := n3_; clear n3_; clear BK5; have BK5 := n5_; clear n5_; clear HB BK6; have HB := n0_; have BK6 := nn_; clear n0_ nn_ hn ho hb) | fail)
  go_loopg [7, 8] l0.length (fun kq v7 v8 w' => ∃ (done rest : List S34) (u : Value), v7 = u ∧ v8 = .int .i64 (done.length : Int) ∧ qi_ (rest.length = kq) ∧ qi_ (l0 = done ++ rest) ∧ qi_ (done.map (flw T) ++ rest.map (flw T) = r) ∧ qi_ (Kd.R k34 34 w' w.heap.size (fun _ => True) u (done.map (flw T))) ∧ qi_ (w'.heap[g3]? = some (.cells #[.slice A1_0 l1_0.length c1_0] 41 (0, 0))) ∧ qi_ (w'.heap[g5]? = some (.cells (pc T) 68 (0, 0))) ∧ qi_ (w'.heap[g6]? = some (.cells (kc T) 69 (0, 0))) ∧ qi_ (Below w.heap.size w w'))
  case atStart => exact ⟨[], l0, .slice none 0 0, rfl, rfl, ⟨rfl⟩, ⟨rfl⟩, HRR, ⟨Kd.R_nil _ _ _ _ _⟩, BK3, BK5, BK6, HB⟩
  case round =>
   clear HRR BK3 BK5 BK6 HB
   obtain ⟨done, rest, u, rfl, rfl, HK, HL, HF, HO, BK3, BK5, BK6, HB⟩ := hrel
   cases rest with
   | nil =>
    have hx : decide ((done.length : Int) < (l0.length : Int)) = false := decide_eq_false (by rw [HL.out]; simp)
    have hxn : ¬ done.length < l0.length := by rw [HL.out]; simp
    have e_ : done.map (flw T) = r := by have h_ := HF.out; simpa using h_
    rw [e_] at HO
    clear HF e_
    go_wp2
    go_ret
    exact ⟨_, rfl, HO.out, HB.out⟩
   | cons t ts =>
    have hll : done.length + (ts.length + 1) = l0.length := by rw [HL.out, List.length_append, List.length_cons]
    have hx : decide ((done.length : Int) < (l0.length : Int)) = true := decide_eq_true (by omega)
    have hxn : done.length < l0.length := by omega
    have hxp : (done.length : Int) < (l0.length : Int) := by omega
    have hx0 : (0 : Int) ≤ (done.length : Int) := by omega
    have LEN : qi_ (((done.map (flw T)).length + 1) * 32 ≤ 140737488355328) := ⟨by rw [List.length_map]; have := OK4.out; omega⟩
    obtain ⟨kz, hkz⟩ : ∃ kz, gk = kz + 1 := ⟨ts.length, by have := HK.out; rw [List.length_cons] at this; omega⟩
    have HK1 : qi_ (ts.length = kz) := ⟨by have := HK.out; rw [List.length_cons] at this; omega⟩
    have hw1 : qi_ (wrap64 ((done.length : Int) + 1) = ((done ++ [t]).length : Int)) := ⟨by
     rw [List.length_append, List.length_singleton]
     have := OK4.out
     unfold wrap64
     omega⟩
    have HKZ := qi_.mk hkz
    clear hkz hll
    obtain ⟨ad, hA, y0, y1, y2, y3, y4⟩ := at_T34 HR0.out (done.length : Int) hx0 hxp
    have he : rd_T34 l0 (done.length : Int) = t := by rw [HL.out]; exact at_mid34 _ _ _
    rw [he] at y0 y1 y2 y3 y4
    rw [Int.toNat_natCast] at y0 y1 y2 y3 y4
    subst hA
    have xx0 := (Below.cell HB.out (World.block_lt_of_cell? w _ y0)).trans y0
    have xx1 := (Below.cell HB.out (World.block_lt_of_cell? w _ y1)).trans y1
    have xx2 := (Below.cell HB.out (World.block_lt_of_cell? w _ y2)).trans y2
    have xx3 := (Below.cell HB.out (World.block_lt_of_cell? w _ y3)).trans y3
    have xx4 := (Below.cell HB.out (World.block_lt_of_cell? w _ y4)).trans y4
    clear y0 y1 y2 y3 y4 he
    by_cases q5 : t.f3 = true
    ·have ef : flw T t = ⟨t.f0, t.f1, t.f2, true, t.f4⟩ := by unfold flw; rw [if_pos q5]
     have q5b : (!t.f3) = false := by rw [q5]; rfl
     go_upto_region 10 with (first | ((with_reducible refine gate_dst (N := 9) rfl ?_); refine q1_ ?hg (N := 9) ?hd (cs := #[.int .i64 0, .int .i64 0, .int .i64 0, .bool false, .bool false]) (t := 34) ?hr ?_; (case hd => rfl); (case hg => rfl); (case hr => first | kernel_rfl | (go_simp; done) | (go_simp; rfl)); intro g9 hg wn9 hbox hb; have GE9 : qi_ (w.heap.size ≤ g9) := qi_.mk (by rw [hg]; exact HB.out.size); have NU : qi_ (some g9 ≠ u7.ownBlock) := qi_.mk (fun e_ => by have h_ := Kd.R_lt HO.out g9 e_.symm; rw [hg] at h_; exact Nat.lt_irrefl _ h_); have no_ := qi_.mk (Kd.R_below HO.out hb); clear HO; have HO := no_; clear no_; have n3_ := qi_.mk (qn_ BK3.out hb); have n5_ := qi_.mk (qn_ BK5.out hb); have n6_ := qi_.mk (qn_ BK6.out hb); have n0_ := qi_.mk (qr_ HB.out hb); have BK9 := qi_.mk hbox; clear BK3; have BK3 := n3_; clear n3_; clear BK5; have BK5 := n5_; clear n5_; clear BK6; have BK6 := n6_; clear n6_; clear HB; have HB := n0_; clear n0_ hbox hb hg) | ((with_reducible refine gate_storeV (ty := 34) (x := .tmp 9) (y := .tmp 24) rfl ?_); refine store_eventV rfl 34 (.tmp 9) (.tmp 24) rfl g9 #[.int .i64 t.f0, .int .i64 t.f1, .int .i64 t.f2, .bool true, .bool t.f4] rfl rfl 34 #[.int .i64 0, .int .i64 0, .int .i64 0, .bool false, .bool false] BK9.out (by kernel_rfl) (rfl) (by simp [Value.oneCell']) ?_; intro ws9 hn ho hb; have no_ := qi_.mk (Kd.R_move (Kd.R_far1 HO.out rfl NU.out) (fun k hk => ho k hk.2)); clear HO; have HO := no_; clear no_; have n0_ := qi_.mk (hb _ _ GE9.out HB.out); have nn_ := qi_.mk hn; have n3_ := qi_.mk ((ho _ (blk_ne BK3.out BK9.out (by decide))).trans BK3.out); have n5_ := qi_.mk ((ho _ (blk_ne BK5.out BK9.out (by decide))).trans BK5.out); have n6_ := qi_.mk ((ho _ (blk_ne BK6.out BK9.out (by decide))).trans BK6.out); clear BK3; have BK3 := n3_; clear n3_; clear BK5; have BK5 := n5_; clear n5_; clear BK6; have BK6 := n6_; clear n6_; clear HB BK9; have HB := n0_; have BK9 := nn_; clear n0_ nn_ hn ho hb; have xc0 := (qb_ BK9.out 0).trans rfl; have xc1 := (qb_ BK9.out 1).trans rfl; have xc2 := (qb_ BK9.out 2).trans rfl; have xc3 := (qb_ BK9.out 3).trans rfl; have xc4 := (qb_ BK9.out 4).trans rfl; have xz1 := qg_ BK9.out 1; have xz3 := qg_ BK9.out 3; (try (have p5 := (qb_ BK5.out t.f1.toNat).trans (pc_at HTL.out hi130); rw [hx_] at p5)); (try (have p6 := (qb_ BK6.out t.f1.toNat).trans (kc_at HTL.out hi130); rw [hb_] at p6))) | fail)
     have m0_ := qi_.mk (Kd.R_mono (ok' := fun _ => True) (Kd.R_far (p := ⟨g9, 3, none⟩) HO.out (fun _ hk => hk.2) (.bool true)) (fun _ _ => trivial))
     have m1_ := qi_.mk (below_put HB.out GE9.out 3 (.bool true))
     have m3_ := qi_.mk (q7_ BK3.out (p := ⟨g9, 3, none⟩) (blk_ne BK3.out BK9.out (by decide)) (.bool true))
     have m5_ := qi_.mk (q7_ BK5.out (p := ⟨g9, 3, none⟩) (blk_ne BK5.out BK9.out (by decide)) (.bool true))
     have m6_ := qi_.mk (q7_ BK6.out (p := ⟨g9, 3, none⟩) (blk_ne BK6.out BK9.out (by decide)) (.bool true))
     have m9_ : qi_ ((ws9.setCell ⟨g9, 3, none⟩ (.bool true)).heap[g9]? = some (.cells #[.int .i64 t.f0, .int .i64 t.f1, .int .i64 t.f2, .bool true, .bool t.f4] 34 (0, 0))) := qi_.mk (q6_ BK9.out 3 (.bool true) rfl)
     clear HO HB BK3 BK5 BK6 BK9 xc0 xc1 xc2 xc3 xc4 xz1 xz3
     (try clear p5)
     (try clear p6)
     generalize (ws9.setCell ⟨g9, 3, none⟩ (.bool true)) = wz at m0_ m1_ m3_ m5_ m6_ m9_ ⊢
     have HO := m0_
     have HB := m1_
     have BK3 := m3_
     have BK5 := m5_
     have BK6 := m6_
     clear m0_ m1_ m3_ m5_ m6_
     have xc0 := (qb_ m9_.out 0).trans rfl
     have xc1 := (qb_ m9_.out 1).trans rfl
     have xc2 := (qb_ m9_.out 2).trans rfl
     have xc3 := (qb_ m9_.out 3).trans rfl
     have xc4 := (qb_ m9_.out 4).trans rfl
     go_wp2_with (first | ((with_reducible refine gate_builtin (b := .append) (xs := #[.tmp 40, .tmp 42]) rfl ?_); at_builtin; refine Kd.R_append k34 (w0 := w) w.heap.size rfl (.tmp 40) (.tmp 42) 24 34 (.agg #[.int .i64 0, .int .i64 0, .int .i64 0, .bool false, .bool false]) 32 rfl Try.underlying24 infoT34 rfl (by decide) (by decide) u7 _ (⟨t.f0, t.f1, t.f2, true, t.f4⟩ : S34) [.int .i64 t.f0, .int .i64 t.f1, .int .i64 t.f2, .bool true, .bool t.f4] (fun _ => True) (fun _ => False) rfl rfl (k34_mkM _ _ _ _) (fun _ hk => hk.elim) (fun _ _ => trivial) HO.out HB.out HB.out.size LEN.out ?_; intro v1 w11 ho hb hg hat; have n0_ := qi_.mk hb; have n1_ := qi_.mk ho; have n3_ := qi_.mk (blk_grown BK3.out hg (Kd.R_ne HO.out BK3.out (by decide))); have n5_ := qi_.mk (blk_grown BK5.out hg (Kd.R_ne HO.out BK5.out (by decide))); have n6_ := qi_.mk (blk_grown BK6.out hg (Kd.R_ne HO.out BK6.out (by decide))); clear HB HO; clear BK3; have BK3 := n3_; clear n3_; clear BK5; have BK5 := n5_; clear n5_; clear BK6; have BK6 := n6_; clear n6_; have HB := n0_; have HO := n1_; clear n0_ n1_ ho hb hg hat) | fail)
     have hkz := HKZ.out
     go_roundg kz
     case measure => omega
     case rel => exact ⟨done ++ [t], ts, v1, rfl, by first | exact congrArg _ hw1.out | (rw [List.length_append, List.length_singleton]; rfl), HK1, ⟨by rw [HL.out, List.append_assoc]; rfl⟩, ⟨by rw [List.map_append, List.append_assoc]; exact HF.out⟩, ⟨by rw [List.map_append, List.map_singleton, ef]; exact HO.out⟩, BK3, BK5, BK6, HB⟩
    ·have q5a : t.f3 = false := by simpa using q5
     have hrange : 0 ≤ t.f1 ∧ t.f1 < 130 := by
      have h_ := List.all_eq_true.1 OK3.out t (by rw [HL.out]; simp)
      rw [q5a] at h_
      simpa using h_
     obtain ⟨hr0_, hr1_⟩ := hrange
     have hi130 : t.f1.toNat < 130 := by omega
     obtain ⟨x, hx_⟩ : ∃ x, (T.getD t.f1.toNat (0, false)).1 = x := ⟨_, rfl⟩
     obtain ⟨b, hb_⟩ : ∃ b, (T.getD t.f1.toNat (0, false)).2 = b := ⟨_, rfl⟩
     cases b with
     | true =>
      have ef : flw T t = ⟨t.f0, x, t.f2, false, t.f4⟩ := by unfold flw; rw [if_neg q5, if_pos hb_, hx_, q5a]
      go_upto_region 10 with (first | ((with_reducible refine gate_dst (N := 9) rfl ?_); refine q1_ ?hg (N := 9) ?hd (cs := #[.int .i64 0, .int .i64 0, .int .i64 0, .bool false, .bool false]) (t := 34) ?hr ?_; (case hd => rfl); (case hg => rfl); (case hr => first | kernel_rfl | (go_simp; done) | (go_simp; rfl)); intro g9 hg wn9 hbox hb; have GE9 : qi_ (w.heap.size ≤ g9) := qi_.mk (by rw [hg]; exact HB.out.size); have NU : qi_ (some g9 ≠ u7.ownBlock) := qi_.mk (fun e_ => by have h_ := Kd.R_lt HO.out g9 e_.symm; rw [hg] at h_; exact Nat.lt_irrefl _ h_); have no_ := qi_.mk (Kd.R_below HO.out hb); clear HO; have HO := no_; clear no_; have n3_ := qi_.mk (qn_ BK3.out hb); have n5_ := qi_.mk (qn_ BK5.out hb); have n6_ := qi_.mk (qn_ BK6.out hb); have n0_ := qi_.mk (qr_ HB.out hb); have BK9 := qi_.mk hbox; clear BK3; have BK3 := n3_; clear n3_; clear BK5; have BK5 := n5_; clear n5_; clear BK6; have BK6 := n6_; clear n6_; clear HB; have HB := n0_; clear n0_ hbox hb hg) | ((with_reducible refine gate_storeV (ty := 34) (x := .tmp 9) (y := .tmp 24) rfl ?_); refine store_eventV rfl 34 (.tmp 9) (.tmp 24) rfl g9 #[.int .i64 t.f0, .int .i64 t.f1, .int .i64 t.f2, .bool false, .bool t.f4] rfl rfl 34 #[.int .i64 0, .int .i64 0, .int .i64 0, .bool false, .bool false] BK9.out (by kernel_rfl) (rfl) (by simp [Value.oneCell']) ?_; intro ws9 hn ho hb; have no_ := qi_.mk (Kd.R_move (Kd.R_far1 HO.out rfl NU.out) (fun k hk => ho k hk.2)); clear HO; have HO := no_; clear no_; have n0_ := qi_.mk (hb _ _ GE9.out HB.out); have nn_ := qi_.mk hn; have n3_ := qi_.mk ((ho _ (blk_ne BK3.out BK9.out (by decide))).trans BK3.out); have n5_ := qi_.mk ((ho _ (blk_ne BK5.out BK9.out (by decide))).trans BK5.out); have n6_ := qi_.mk ((ho _ (blk_ne BK6.out BK9.out (by decide))).trans BK6.out); clear BK3; have BK3 := n3_; clear n3_; clear BK5; have BK5 := n5_; clear n5_; clear BK6; have BK6 := n6_; clear n6_; clear HB BK9; have HB := n0_; have BK9 := nn_; clear n0_ nn_ hn ho hb; have xc0 := (qb_ BK9.out 0).trans rfl; have xc1 := (qb_ BK9.out 1).trans rfl; have xc2 := (qb_ BK9.out 2).trans rfl; have xc3 := (qb_ BK9.out 3).trans rfl; have xc4 := (qb_ BK9.out 4).trans rfl; have xz1 := qg_ BK9.out 1; have xz3 := qg_ BK9.out 3; (try (have p5 := (qb_ BK5.out t.f1.toNat).trans (pc_at HTL.out hi130); rw [hx_] at p5)); (try (have p6 := (qb_ BK6.out t.f1.toNat).trans (kc_at HTL.out hi130); rw [hb_] at p6))) | fail)
      have m0_ := qi_.mk (Kd.R_mono (ok' := fun _ => True) (Kd.R_far (p := ⟨g9, 1, none⟩) HO.out (fun _ hk => hk.2) (.int .i64 x)) (fun _ _ => trivial))
      have m1_ := qi_.mk (below_put HB.out GE9.out 1 (.int .i64 x))
      have m3_ := qi_.mk (q7_ BK3.out (p := ⟨g9, 1, none⟩) (blk_ne BK3.out BK9.out (by decide)) (.int .i64 x))
      have m5_ := qi_.mk (q7_ BK5.out (p := ⟨g9, 1, none⟩) (blk_ne BK5.out BK9.out (by decide)) (.int .i64 x))
      have m6_ := qi_.mk (q7_ BK6.out (p := ⟨g9, 1, none⟩) (blk_ne BK6.out BK9.out (by decide)) (.int .i64 x))
      have m9_ : qi_ ((ws9.setCell ⟨g9, 1, none⟩ (.int .i64 x)).heap[g9]? = some (.cells #[.int .i64 t.f0, .int .i64 x, .int .i64 t.f2, .bool false, .bool t.f4] 34 (0, 0))) := qi_.mk (q6_ BK9.out 1 (.int .i64 x) rfl)
      clear HO HB BK3 BK5 BK6 BK9 xc0 xc1 xc2 xc3 xc4 xz1 xz3
      (try clear p5)
      (try clear p6)
      generalize (ws9.setCell ⟨g9, 1, none⟩ (.int .i64 x)) = wz at m0_ m1_ m3_ m5_ m6_ m9_ ⊢
      have HO := m0_
      have HB := m1_
      have BK3 := m3_
      have BK5 := m5_
      have BK6 := m6_
      clear m0_ m1_ m3_ m5_ m6_
      have xc0 := (qb_ m9_.out 0).trans rfl
      have xc1 := (qb_ m9_.out 1).trans rfl
      have xc2 := (qb_ m9_.out 2).trans rfl
      have xc3 := (qb_ m9_.out 3).trans rfl
      have xc4 := (qb_ m9_.out 4).trans rfl
      go_wp2_with (first | ((with_reducible refine gate_builtin (b := .append) (xs := #[.tmp 40, .tmp 42]) rfl ?_); at_builtin; refine Kd.R_append k34 (w0 := w) w.heap.size rfl (.tmp 40) (.tmp 42) 24 34 (.agg #[.int .i64 0, .int .i64 0, .int .i64 0, .bool false, .bool false]) 32 rfl Try.underlying24 infoT34 rfl (by decide) (by decide) u7 _ (⟨t.f0, x, t.f2, false, t.f4⟩ : S34) [.int .i64 t.f0, .int .i64 x, .int .i64 t.f2, .bool false, .bool t.f4] (fun _ => True) (fun _ => False) rfl rfl (k34_mkM _ _ _ _) (fun _ hk => hk.elim) (fun _ _ => trivial) HO.out HB.out HB.out.size LEN.out ?_; intro v1 w11 ho hb hg hat; have n0_ := qi_.mk hb; have n1_ := qi_.mk ho; have n3_ := qi_.mk (blk_grown BK3.out hg (Kd.R_ne HO.out BK3.out (by decide))); have n5_ := qi_.mk (blk_grown BK5.out hg (Kd.R_ne HO.out BK5.out (by decide))); have n6_ := qi_.mk (blk_grown BK6.out hg (Kd.R_ne HO.out BK6.out (by decide))); clear HB HO; clear BK3; have BK3 := n3_; clear n3_; clear BK5; have BK5 := n5_; clear n5_; clear BK6; have BK6 := n6_; clear n6_; have HB := n0_; have HO := n1_; clear n0_ n1_ ho hb hg hat) | fail)
      have hkz := HKZ.out
      go_roundg kz
      case measure => omega
      case rel => exact ⟨done ++ [t], ts, v1, rfl, by first | exact congrArg _ hw1.out | (rw [List.length_append, List.length_singleton]; rfl), HK1, ⟨by rw [HL.out, List.append_assoc]; rfl⟩, ⟨by rw [List.map_append, List.append_assoc]; exact HF.out⟩, ⟨by rw [List.map_append, List.map_singleton, ef]; exact HO.out⟩, BK3, BK5, BK6, HB⟩
     | false =>
      have ef : flw T t = ⟨t.f0, t.f1, t.f2, true, t.f4⟩ := by unfold flw; rw [if_neg q5, if_neg (by rw [hb_]; decide)]
      go_upto_region 10 with (first | ((with_reducible refine gate_dst (N := 9) rfl ?_); refine q1_ ?hg (N := 9) ?hd (cs := #[.int .i64 0, .int .i64 0, .int .i64 0, .bool false, .bool false]) (t := 34) ?hr ?_; (case hd => rfl); (case hg => rfl); (case hr => first | kernel_rfl | (go_simp; done) | (go_simp; rfl)); intro g9 hg wn9 hbox hb; have GE9 : qi_ (w.heap.size ≤ g9) := qi_.mk (by rw [hg]; exact HB.out.size); have NU : qi_ (some g9 ≠ u7.ownBlock) := qi_.mk (fun e_ => by have h_ := Kd.R_lt HO.out g9 e_.symm; rw [hg] at h_; exact Nat.lt_irrefl _ h_); have no_ := qi_.mk (Kd.R_below HO.out hb); clear HO; have HO := no_; clear no_; have n3_ := qi_.mk (qn_ BK3.out hb); have n5_ := qi_.mk (qn_ BK5.out hb); have n6_ := qi_.mk (qn_ BK6.out hb); have n0_ := qi_.mk (qr_ HB.out hb); have BK9 := qi_.mk hbox; clear BK3; have BK3 := n3_; clear n3_; clear BK5; have BK5 := n5_; clear n5_; clear BK6; have BK6 := n6_; clear n6_; clear HB; have HB := n0_; clear n0_ hbox hb hg) | ((with_reducible refine gate_storeV (ty := 34) (x := .tmp 9) (y := .tmp 24) rfl ?_); refine store_eventV rfl 34 (.tmp 9) (.tmp 24) rfl g9 #[.int .i64 t.f0, .int .i64 t.f1, .int .i64 t.f2, .bool false, .bool t.f4] rfl rfl 34 #[.int .i64 0, .int .i64 0, .int .i64 0, .bool false, .bool false] BK9.out (by kernel_rfl) (rfl) (by simp [Value.oneCell']) ?_; intro ws9 hn ho hb; have no_ := qi_.mk (Kd.R_move (Kd.R_far1 HO.out rfl NU.out) (fun k hk => ho k hk.2)); clear HO; have HO := no_; clear no_; have n0_ := qi_.mk (hb _ _ GE9.out HB.out); have nn_ := qi_.mk hn; have n3_ := qi_.mk ((ho _ (blk_ne BK3.out BK9.out (by decide))).trans BK3.out); have n5_ := qi_.mk ((ho _ (blk_ne BK5.out BK9.out (by decide))).trans BK5.out); have n6_ := qi_.mk ((ho _ (blk_ne BK6.out BK9.out (by decide))).trans BK6.out); clear BK3; have BK3 := n3_; clear n3_; clear BK5; have BK5 := n5_; clear n5_; clear BK6; have BK6 := n6_; clear n6_; clear HB BK9; have HB := n0_; have BK9 := nn_; clear n0_ nn_ hn ho hb; have xc0 := (qb_ BK9.out 0).trans rfl; have xc1 := (qb_ BK9.out 1).trans rfl; have xc2 := (qb_ BK9.out 2).trans rfl; have xc3 := (qb_ BK9.out 3).trans rfl; have xc4 := (qb_ BK9.out 4).trans rfl; have xz1 := qg_ BK9.out 1; have xz3 := qg_ BK9.out 3; (try (have p5 := (qb_ BK5.out t.f1.toNat).trans (pc_at HTL.out hi130); rw [hx_] at p5)); (try (have p6 := (qb_ BK6.out t.f1.toNat).trans (kc_at HTL.out hi130); rw [hb_] at p6))) | fail)
      have m0_ := qi_.mk (Kd.R_mono (ok' := fun _ => True) (Kd.R_far (p := ⟨g9, 3, none⟩) HO.out (fun _ hk => hk.2) (.bool true)) (fun _ _ => trivial))
      have m1_ := qi_.mk (below_put HB.out GE9.out 3 (.bool true))
      have m3_ := qi_.mk (q7_ BK3.out (p := ⟨g9, 3, none⟩) (blk_ne BK3.out BK9.out (by decide)) (.bool true))
      have m5_ := qi_.mk (q7_ BK5.out (p := ⟨g9, 3, none⟩) (blk_ne BK5.out BK9.out (by decide)) (.bool true))
      have m6_ := qi_.mk (q7_ BK6.out (p := ⟨g9, 3, none⟩) (blk_ne BK6.out BK9.out (by decide)) (.bool true))
      have m9_ : qi_ ((ws9.setCell ⟨g9, 3, none⟩ (.bool true)).heap[g9]? = some (.cells #[.int .i64 t.f0, .int .i64 t.f1, .int .i64 t.f2, .bool true, .bool t.f4] 34 (0, 0))) := qi_.mk (q6_ BK9.out 3 (.bool true) rfl)
      clear HO HB BK3 BK5 BK6 BK9 xc0 xc1 xc2 xc3 xc4 xz1 xz3
      (try clear p5)
      (try clear p6)
      generalize (ws9.setCell ⟨g9, 3, none⟩ (.bool true)) = wz at m0_ m1_ m3_ m5_ m6_ m9_ ⊢
      have HO := m0_
      have HB := m1_
      have BK3 := m3_
      have BK5 := m5_
      have BK6 := m6_
      clear m0_ m1_ m3_ m5_ m6_
      have xc0 := (qb_ m9_.out 0).trans rfl
      have xc1 := (qb_ m9_.out 1).trans rfl
      have xc2 := (qb_ m9_.out 2).trans rfl
      have xc3 := (qb_ m9_.out 3).trans rfl
      have xc4 := (qb_ m9_.out 4).trans rfl
      go_wp2_with (first | ((with_reducible refine gate_builtin (b := .append) (xs := #[.tmp 40, .tmp 42]) rfl ?_); at_builtin; refine Kd.R_append k34 (w0 := w) w.heap.size rfl (.tmp 40) (.tmp 42) 24 34 (.agg #[.int .i64 0, .int .i64 0, .int .i64 0, .bool false, .bool false]) 32 rfl Try.underlying24 infoT34 rfl (by decide) (by decide) u7 _ (⟨t.f0, t.f1, t.f2, true, t.f4⟩ : S34) [.int .i64 t.f0, .int .i64 t.f1, .int .i64 t.f2, .bool true, .bool t.f4] (fun _ => True) (fun _ => False) rfl rfl (k34_mkM _ _ _ _) (fun _ hk => hk.elim) (fun _ _ => trivial) HO.out HB.out HB.out.size LEN.out ?_; intro v1 w11 ho hb hg hat; have n0_ := qi_.mk hb; have n1_ := qi_.mk ho; have n3_ := qi_.mk (blk_grown BK3.out hg (Kd.R_ne HO.out BK3.out (by decide))); have n5_ := qi_.mk (blk_grown BK5.out hg (Kd.R_ne HO.out BK5.out (by decide))); have n6_ := qi_.mk (blk_grown BK6.out hg (Kd.R_ne HO.out BK6.out (by decide))); clear HB HO; clear BK3; have BK3 := n3_; clear n3_; clear BK5; have BK5 := n5_; clear n5_; clear BK6; have BK6 := n6_; clear n6_; have HB := n0_; have HO := n1_; clear n0_ n1_ ho hb hg hat) | fail)
      have hkz := HKZ.out
      go_roundg kz
      case measure => omega
      case rel => exact ⟨done ++ [t], ts, v1, rfl, by first | exact congrArg _ hw1.out | (rw [List.length_append, List.length_singleton]; rfl), HK1, ⟨by rw [HL.out, List.append_assoc]; rfl⟩, ⟨by rw [List.map_append, List.append_assoc]; exact HF.out⟩, ⟨by rw [List.map_append, List.map_singleton, ef]; exact HO.out⟩, BK3, BK5, BK6, HB⟩
 ·rw [if_neg hq] at h
  cases h
end Go.Proofs.Ytjpdcnaealdbjaa.PTh
