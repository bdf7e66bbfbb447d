-- printed by drv.py (a program of this repo, over the kit's printer)
-- CUT TO THE WAYS THAT ANSWER TRUE (trunc.py of this repo): the mirror is none elsewhere
import Derived.Test.YtjpdcnaealdbjaaTd
import Derived.Test.YtjpdcnaealdbjaaPThx0
import Derived.Test.YtjpdcnaealdbjaaPThx26
import Derived.Test.YtjpdcnaealdbjaaPThx30
namespace Go.Proofs.Ytjpdcnaealdbjaa.PTh
open Go.RowKit Go.Proofs.YtjpdcnaealdbjaaW.PrintWords Go.Proofs.YtjpdcnaealdbjaaW.PrintLast Go.Proofs.YtjpdcnaealdbjaaW.PrintMore
attribute [local go_sem] max2_int min2_int max_two min_two max_three min_three max_four min_four   -- for this text's walks alone
set_option linter.unusedVariables false
set_option linter.unusedSimpArgs false

/-! ### changeforgelaw7_ThreadsCommentsAddUp: function 5 -/
mutual
def changeforgelaw7_ThreadsCommentsAddUp.l0 : Nat → List (S43) → Int → List (S34) → List Int → Int → Int → Int → Int → Int → Int → Option (Bool)
  | 0, _, _, _, _, _, _, _, _, _, _ => none
  | k + 1, x1, x3, x9, x13, x15, x16, x292000, x292001, x304000, x304001 => if x16 < (x1.length : Int) then (if 0 ≤ x16 then (if ((rd_T43 x1 x16).f0) = 1 then (changeforgelaw7_ThreadsCommentsAddUp.l0 k x1 x3 x9 x13 (wrap64 (x15 + 1)) (wrap64 (x16 + 1)) x292000 x292001 x304000 x304001) else (if ((rd_T43 x1 x16).f0) = 2 then (changeforgelaw7_ThreadsCommentsAddUp.l0 k x1 x3 x9 x13 (wrap64 (x15 + 1)) (wrap64 (x16 + 1)) x292000 x292001 x304000 x304001) else (changeforgelaw7_ThreadsCommentsAddUp.l0 k x1 x3 x9 x13 x15 (wrap64 (x16 + 1)) x292000 x292001 x304000 x304001))) else (none)) else (changeforgelaw7_ThreadsCommentsAddUp.l1 k x3 x9 x13 x15 0 x292000 x292001 x304000 x304001)
def changeforgelaw7_ThreadsCommentsAddUp.l1 : Nat → Int → List (S34) → List Int → Int → Int → Int → Int → Int → Int → Option (Bool)
  | 0, _, _, _, _, _, _, _, _, _ => none
  | k + 1, x3, x9, x13, x15, x17, x292000, x292001, x304000, x304001 => if x17 < (x9.length : Int) then (if 0 ≤ x17 then (changeforgelaw7_ThreadsCommentsAddUp.l1 k x3 x9 x13 (wrap64 (x15 - ((rd_T34 x9 x17).f2))) (wrap64 (x17 + 1)) x292000 x292001 x304000 x304001) else (none)) else (changeforgelaw7_ThreadsCommentsAddUp.l2 k x3 x13 x15 false 0 x292000 x292001 x304000 x304001)
def changeforgelaw7_ThreadsCommentsAddUp.l2 : Nat → Int → List Int → Int → Bool → Int → Int → Int → Int → Int → Option (Bool)
  | 0, _, _, _, _, _, _, _, _, _ => none
  | k + 1, x3, x13, x15, x18, x19, x292000, x292001, x304000, x304001 => if x19 < (x13.length : Int) then (if x18 = true then (changeforgelaw7_ThreadsCommentsAddUp.l2 k x3 x13 x15 true (wrap64 (x19 + 1)) x292000 x292001 x304000 x304001) else (if 0 ≤ x19 then (changeforgelaw7_ThreadsCommentsAddUp.l2 k x3 x13 x15 ((rd x13 x19) == x3) (wrap64 (x19 + 1)) x292000 x292001 x304000 x304001) else (none))) else (if x292000 = 0 then (if x15 = 0 then (if x304000 = 0 then (some x18) else (some true)) else (none)) else (some true))
end
def changeforgelaw7_ThreadsCommentsAddUp.f (k : Nat) (l0 : List ByteArray) (l1 : List (S43)) (a2 : Int) (a3 : Int) : Option (Bool) := (threads_Run.f k l0 l1).bind fun bt283 => (if ([] : List (S43)).length + l1.length < 1954687338268 then ((some (([] : List (S43)) ++ l1 : List (S43))).bind fun y292 => (if y292.length < 1954687338268 then ((threads_Pending.f k l0 (y292 ++ [(⟨2, a2, a3, 0, (⟨#[119, 101, 108, 108]⟩ : ByteArray), (⟨([] : List (S52))⟩ : S41)⟩ : S43)])).bind fun bt298 => ((changeforgelaw7_threadsExample.f k).bind fun t304 => (if t304 = true then (changeforgelaw7_ThreadsCommentsAddUp.l0 k l1 a3 bt283.1 bt298.1 0 0 bt283.2.2.1 bt283.2.2.2 bt298.2.1 bt298.2.2) else (none)))) else (none))) else (none))
theorem changeforgelaw7_ThreadsCommentsAddUp.mono_l : ∀ k, (∀ y0 y1 y2 y3 y4 y5 y6 y7 y8 y9, LeO (changeforgelaw7_ThreadsCommentsAddUp.l0 k y0 y1 y2 y3 y4 y5 y6 y7 y8 y9) (changeforgelaw7_ThreadsCommentsAddUp.l0 (k + 1) y0 y1 y2 y3 y4 y5 y6 y7 y8 y9)) ∧ (∀ y0 y1 y2 y3 y4 y5 y6 y7 y8, LeO (changeforgelaw7_ThreadsCommentsAddUp.l1 k y0 y1 y2 y3 y4 y5 y6 y7 y8) (changeforgelaw7_ThreadsCommentsAddUp.l1 (k + 1) y0 y1 y2 y3 y4 y5 y6 y7 y8)) ∧ (∀ y0 y1 y2 y3 y4 y5 y6 y7 y8, LeO (changeforgelaw7_ThreadsCommentsAddUp.l2 k y0 y1 y2 y3 y4 y5 y6 y7 y8) (changeforgelaw7_ThreadsCommentsAddUp.l2 (k + 1) y0 y1 y2 y3 y4 y5 y6 y7 y8))
  | 0 => ⟨fun _ _ _ _ _ _ _ _ _ _ r h => by simp [changeforgelaw7_ThreadsCommentsAddUp.l0] at h, fun _ _ _ _ _ _ _ _ _ r h => by simp [changeforgelaw7_ThreadsCommentsAddUp.l1] at h, fun _ _ _ _ _ _ _ _ _ r h => by simp [changeforgelaw7_ThreadsCommentsAddUp.l2] at h⟩
  | k + 1 => by
    obtain ⟨ih0, ih1, ih2⟩ := changeforgelaw7_ThreadsCommentsAddUp.mono_l k
    refine ⟨?_, ?_, ?_⟩
    · intro y0 y1 y2 y3 y4 y5 y6 y7 y8 y9
      unfold changeforgelaw7_ThreadsCommentsAddUp.l0
      repeat' first
      | (with_reducible exact ih0 _ _ _ _ _ _ _ _ _ _)
      | (with_reducible exact ih1 _ _ _ _ _ _ _ _ _)
      | (with_reducible exact ih2 _ _ _ _ _ _ _ _ _)
      | (with_reducible exact changeforgelaw7_threadsExample.mono _)
      | (with_reducible exact threads_Pending.mono _ _ _)
      | (with_reducible exact threads_Run.mono _ _ _)
      | (with_reducible exact LeO.refl _)
      | (with_reducible exact LeO.none _)
      | (with_reducible refine LeO.ite ?_ ?_)
      | (with_reducible refine LeO.bind ?_ (fun _ => ?_))
      | exact ih0 _ _ _ _ _ _ _ _ _ _
      | exact ih1 _ _ _ _ _ _ _ _ _
      | exact ih2 _ _ _ _ _ _ _ _ _
      | exact changeforgelaw7_threadsExample.mono _
      | exact threads_Pending.mono _ _ _
      | exact threads_Run.mono _ _ _
      | exact LeO.none _
      | refine LeO.ite ?_ ?_
      | refine LeO.bind ?_ (fun _ => ?_)
    · intro y0 y1 y2 y3 y4 y5 y6 y7 y8
      unfold changeforgelaw7_ThreadsCommentsAddUp.l1
      repeat' first
      | (with_reducible exact ih0 _ _ _ _ _ _ _ _ _ _)
      | (with_reducible exact ih1 _ _ _ _ _ _ _ _ _)
      | (with_reducible exact ih2 _ _ _ _ _ _ _ _ _)
      | (with_reducible exact changeforgelaw7_threadsExample.mono _)
      | (with_reducible exact threads_Pending.mono _ _ _)
      | (with_reducible exact threads_Run.mono _ _ _)
      | (with_reducible exact LeO.refl _)
      | (with_reducible exact LeO.none _)
      | (with_reducible refine LeO.ite ?_ ?_)
      | (with_reducible refine LeO.bind ?_ (fun _ => ?_))
      | exact ih0 _ _ _ _ _ _ _ _ _ _
      | exact ih1 _ _ _ _ _ _ _ _ _
      | exact ih2 _ _ _ _ _ _ _ _ _
      | exact changeforgelaw7_threadsExample.mono _
      | exact threads_Pending.mono _ _ _
      | exact threads_Run.mono _ _ _
      | exact LeO.none _
      | refine LeO.ite ?_ ?_
      | refine LeO.bind ?_ (fun _ => ?_)
    · intro y0 y1 y2 y3 y4 y5 y6 y7 y8
      unfold changeforgelaw7_ThreadsCommentsAddUp.l2
      repeat' first
      | (with_reducible exact ih0 _ _ _ _ _ _ _ _ _ _)
      | (with_reducible exact ih1 _ _ _ _ _ _ _ _ _)
      | (with_reducible exact ih2 _ _ _ _ _ _ _ _ _)
      | (with_reducible exact changeforgelaw7_threadsExample.mono _)
      | (with_reducible exact threads_Pending.mono _ _ _)
      | (with_reducible exact threads_Run.mono _ _ _)
      | (with_reducible exact LeO.refl _)
      | (with_reducible exact LeO.none _)
      | (with_reducible refine LeO.ite ?_ ?_)
      | (with_reducible refine LeO.bind ?_ (fun _ => ?_))
      | exact ih0 _ _ _ _ _ _ _ _ _ _
      | exact ih1 _ _ _ _ _ _ _ _ _
      | exact ih2 _ _ _ _ _ _ _ _ _
      | exact changeforgelaw7_threadsExample.mono _
      | exact threads_Pending.mono _ _ _
      | exact threads_Run.mono _ _ _
      | exact LeO.none _
      | refine LeO.ite ?_ ?_
      | refine LeO.bind ?_ (fun _ => ?_)
theorem changeforgelaw7_ThreadsCommentsAddUp.mono : ∀ a0 a1 a2 a3 k, LeO (changeforgelaw7_ThreadsCommentsAddUp.f k a0 a1 a2 a3) (changeforgelaw7_ThreadsCommentsAddUp.f (k + 1) a0 a1 a2 a3) := by
  intro a0 a1 a2 a3 k
  obtain ⟨ih0, ih1, ih2⟩ := changeforgelaw7_ThreadsCommentsAddUp.mono_l k
  unfold changeforgelaw7_ThreadsCommentsAddUp.f
  repeat' first
      | (with_reducible exact ih0 _ _ _ _ _ _ _ _ _ _)
      | (with_reducible exact ih1 _ _ _ _ _ _ _ _ _)
      | (with_reducible exact ih2 _ _ _ _ _ _ _ _ _)
      | (with_reducible exact changeforgelaw7_threadsExample.mono _)
      | (with_reducible exact threads_Pending.mono _ _ _)
      | (with_reducible exact threads_Run.mono _ _ _)
      | (with_reducible exact LeO.refl _)
      | (with_reducible exact LeO.none _)
      | (with_reducible refine LeO.ite ?_ ?_)
      | (with_reducible refine LeO.bind ?_ (fun _ => ?_))
      | exact ih0 _ _ _ _ _ _ _ _ _ _
      | exact ih1 _ _ _ _ _ _ _ _ _
      | exact ih2 _ _ _ _ _ _ _ _ _
      | exact changeforgelaw7_threadsExample.mono _
      | exact threads_Pending.mono _ _ _
      | exact threads_Run.mono _ _ _
      | exact LeO.none _
      | refine LeO.ite ?_ ?_
      | refine LeO.bind ?_ (fun _ => ?_)
set_option maxHeartbeats 8000000 in
set_option maxRecDepth 100000 in
theorem changeforgelaw7_ThreadsCommentsAddUp.calls (k : Nat) (A0 : Option Addr) (c0 : Nat) (l0 : List ByteArray) (P1_ : Nat → Prop) (A1 : Option Addr) (c1 : Nat) (l1 : List (S43)) (a2 : Int) (a3 : Int) (r : Bool) (w : World) (hr0 : Kd.C Kd.string w A0 l0.length l0) (hc0 : l0.length ≤ c0) (hs1 : Kd.V k43 43 w w.heap.size (fun k_ => P1_ k_) (.slice A1 l1.length c1) l1) (h : changeforgelaw7_ThreadsCommentsAddUp.f k l0 l1 a2 a3 = some r) :
    Calls Try.prog 5 #[.slice A0 l0.length c0, .slice A1 l1.length c1, .int .i64 a2, .int .i64 a3] w fun e w' => e = .returned (.bool r) ∧ Below w.heap.size w w' := by
  have hu26 := Try.underlying26
  have hu43 := Try.underlying43
  have HR0 := Aside0.mk hr0
  have HC0 := Aside0.mk hc0
  clear hr0 hc0
  have HO1 := Aside0.mk (show Kd.V k43 43 w w.heap.size (fun k_ => (P1_ k_ ∨ w.heap.size ≤ k_)) (.slice A1 l1.length c1) l1 from Kd.V_mono hs1 (fun k_ hk => .inl hk))
  have HB := Aside0.mk (Below.refl w.heap.size w)
  have H : ((threads_Run.f k l0 l1).bind fun bt283 => (if ([] : List (S43)).length + l1.length < 1954687338268 then ((some (([] : List (S43)) ++ l1 : List (S43))).bind fun y292 => (if y292.length < 1954687338268 then ((threads_Pending.f k l0 (y292 ++ [(⟨2, a2, a3, 0, (⟨#[119, 101, 108, 108]⟩ : ByteArray), (⟨([] : List (S52))⟩ : S41)⟩ : S43)])).bind fun bt298 => ((changeforgelaw7_threadsExample.f k).bind fun t304 => (if t304 = true then (changeforgelaw7_ThreadsCommentsAddUp.l0 k l1 a3 bt283.1 bt298.1 0 0 bt283.2.2.1 bt283.2.2.2 bt298.2.1 bt298.2.2) else (none)))) else (none))) else (none))) = some r := h
  clear h
  replace H := Option.bind_eq_some_iff.mp H
  obtain ⟨⟨t283, t286, t289, t290⟩, A50, H⟩ := H
  replace H : (if ([] : List (S43)).length + l1.length < 1954687338268 then ((some (([] : List (S43)) ++ l1 : List (S43))).bind fun y292 => (if y292.length < 1954687338268 then ((threads_Pending.f k l0 (y292 ++ [(⟨2, a2, a3, 0, (⟨#[119, 101, 108, 108]⟩ : ByteArray), (⟨([] : List (S52))⟩ : S41)⟩ : S43)])).bind fun bt298 => ((changeforgelaw7_threadsExample.f k).bind fun t304 => (if t304 = true then (changeforgelaw7_ThreadsCommentsAddUp.l0 k l1 a3 t283 bt298.1 0 0 t289 t290 bt298.2.1 bt298.2.2) else (none)))) else (none))) else (none)) = some r := H
  have A5 := Aside0.mk A50
  clear A50
  by_cases c6 : ([] : List (S43)).length + l1.length < 1954687338268
  · rw [if_pos c6] at H
    have LMc6 := Aside0.mk c6
    clear c6
    obtain ⟨y292, hy292⟩ : ∃ y_ : List (S43), y_ = (([] : List (S43)) ++ l1) := ⟨_, rfl⟩
    replace H : (if y292.length < 1954687338268 then ((threads_Pending.f k l0 (y292 ++ [(⟨2, a2, a3, 0, (⟨#[119, 101, 108, 108]⟩ : ByteArray), (⟨([] : List (S52))⟩ : S41)⟩ : S43)])).bind fun bt298 => ((changeforgelaw7_threadsExample.f k).bind fun t304 => (if t304 = true then (changeforgelaw7_ThreadsCommentsAddUp.l0 k l1 a3 t283 bt298.1 0 0 t289 t290 bt298.2.1 bt298.2.2) else (none)))) else (none)) = some r := by first | (rw [hy292]; with_reducible exact H) | (have H2_ := (Option.bind_some _ _).symm.trans H; rw [hy292]; with_reducible exact H2_) | (have H2_ := (Option.bind_some _ _).symm.trans H; with_reducible exact H2_) | with_reducible exact H | (rw [hy292]; exact H) | exact H
    have Ny292 := Aside0.mk hy292
    clear hy292
    by_cases c7 : y292.length < 1954687338268
    · rw [if_pos c7] at H
      have LMc7 := Aside0.mk c7
      clear c7
      obtain ⟨y295, hy295⟩ : ∃ y_ : List (S43), y_ = (y292 ++ [(⟨2, a2, a3, 0, (⟨#[119, 101, 108, 108]⟩ : ByteArray), (⟨([] : List (S52))⟩ : S41)⟩ : S43)]) := ⟨_, rfl⟩
      replace H : ((threads_Pending.f k l0 y295).bind fun bt298 => ((changeforgelaw7_threadsExample.f k).bind fun t304 => (if t304 = true then (changeforgelaw7_ThreadsCommentsAddUp.l0 k l1 a3 t283 bt298.1 0 0 t289 t290 bt298.2.1 bt298.2.2) else (none)))) = some r := by first | (rw [hy295]; with_reducible exact H) | (have H2_ := (Option.bind_some _ _).symm.trans H; rw [hy295]; with_reducible exact H2_) | (have H2_ := (Option.bind_some _ _).symm.trans H; with_reducible exact H2_) | with_reducible exact H | (rw [hy295]; exact H) | exact H
      have Ny295 := Aside0.mk hy295
      clear hy295
      replace H := Option.bind_eq_some_iff.mp H
      obtain ⟨⟨t298, t301, t302⟩, A80, H⟩ := H
      replace H : ((changeforgelaw7_threadsExample.f k).bind fun t304 => (if t304 = true then (changeforgelaw7_ThreadsCommentsAddUp.l0 k l1 a3 t283 t298 0 0 t289 t290 t301 t302) else (none))) = some r := H
      have A8 := Aside0.mk A80
      clear A80
      replace H := Option.bind_eq_some_iff.mp H
      obtain ⟨t304, A90, H⟩ := H
      replace H : (if t304 = true then (changeforgelaw7_ThreadsCommentsAddUp.l0 k l1 a3 t283 t298 0 0 t289 t290 t301 t302) else (none)) = some r := H
      have A9 := Aside0.mk A90
      clear A90
      by_cases c10 : t304 = true
      · subst c10
        have H1 : (changeforgelaw7_ThreadsCommentsAddUp.l0 k l1 a3 t283 t298 0 0 t289 t290 t301 t302) = some r := by rw [if_pos rfl] at H; exact H
        clear H
        have H := H1
        clear H1
        have H' := Aside0.mk H
        clear H
        go_enter Try.func5, Try.ntmps5
        go_wp2_with (first | ((with_reducible refine gate_callee (f := 8) rfl ?_); refine goesL_ (some 23) rfl rfl Try.func8 (by kernel_rfl) rfl #[.slice A0 l0.length c0, .slice A1 l1.length c1] rfl (by (try simp only [List.map_toArray, List.map_cons, List.map_nil]); first | done | rfl | (simp only [List.length_drop, List.length_take]; rfl)) ?_; (with_reducible refine (threads_Run.calls k _ _ l0 _ _ l1 t283 t286 t289 t290 _ ?side1 ?side2 ?side3 ?side4 A5.out).mono ?_); (case side1 => repeat (first | exact HR0.out | (with_reducible refine Kd.C_alloc ?_ _) | (with_reducible refine Kd.C_drewN ?_ _) | (with_reducible refine Kd.C_drew ?_))); (case side2 => exact HC0.out); (case side3 => repeat (first | exact (Kd.V_reads' HO1.out).2.2 | (with_reducible refine Kd.C_alloc ?_ _) | (with_reducible refine Kd.C_drewN ?_ _) | (with_reducible refine Kd.C_drew ?_))); (case side4 => exact (Kd.V_reads' HO1.out).2.1); rintro e w11 ⟨v284, v287, rfl, ho0, ho1, hb⟩; refine ⟨_, rfl, ?_⟩; have n0_ := Aside0.mk (Kd.V_mono (Kd.V_told (Kd.V_told (Kd.V_old (by (with_reducible repeat (first | apply Kd.V_alloc | apply Kd.V_drewN | apply Kd.V_drew)); exact HO1.out) hb) (Kd.R_base ho0)) (Kd.R_base ho1)) (fun _ h_ => h_.1)); have n1_ := Aside0.mk (Kd.R_lower (Kd.R_newM (M := fun k_ => (w.heap.size ≤ k_)) ho0 (below_size (by repeat (first | (with_reducible first | exact HB.out | apply below_alloc | apply pw_below_drewN | apply below_drew1) | exact HB.out))) (fun k_ h_ => h_)) (below_size (by repeat (first | (with_reducible first | exact HB.out | apply below_alloc | apply pw_below_drewN | apply below_drew1) | exact HB.out)))); have n2_ := Aside0.mk (Kd.R_lower (Kd.R_newM (M := fun k_ => (w.heap.size ≤ k_)) ho1 (below_size (by repeat (first | (with_reducible first | exact HB.out | apply below_alloc | apply pw_below_drewN | apply below_drew1) | exact HB.out))) (fun k_ h_ => h_)) (below_size (by repeat (first | (with_reducible first | exact HB.out | apply below_alloc | apply pw_below_drewN | apply below_drew1) | exact HB.out)))); have n3_ := Aside0.mk (below_step (by repeat (first | (with_reducible first | exact HB.out | apply below_alloc | apply pw_below_drewN | apply below_drew1) | exact HB.out)) hb); clear HO1; clear HB; have HO1 := n0_; have HO285 := n1_; have HO288 := n2_; have HB := n3_; clear n0_ n1_ n2_ n3_; (try clear hb); (try clear hb2); (try clear hk); (try clear hi); (try clear ho0); (try clear ho1)) | ((with_reducible refine gate_dst (N := 11) rfl ?_); refine box_event ?hg (N := 11) ?hd (cs := #[.int .i64 0, .int .i64 0]) (t := 26) ?hr ?_; (case hd => rfl); (case hg => rfl); (case hr => first | (go_simp; done) | (go_simp; rfl)); intro gb291 hg w12 hbox hb; have n0_ := Aside0.mk (Kd.V_below (Kd.V_elderB (by (with_reducible repeat (first | apply Kd.V_alloc | apply Kd.V_drewN | apply Kd.V_drew)); exact HO1.out) gb291 (Nat.le_of_eq hg.symm)) hb); have n1_ := Aside0.mk (Kd.R_below (by (with_reducible repeat (first | apply Kd.R_alloc | apply Kd.R_drewN | apply Kd.R_drew)); exact HO285.out) hb); have n2_ := Aside0.mk (Kd.R_below (by (with_reducible repeat (first | apply Kd.R_alloc | apply Kd.R_drewN | apply Kd.R_drew)); exact HO288.out) hb); have n3_ := Aside0.mk (below_step (by repeat (first | (with_reducible first | exact HB.out | apply below_alloc | apply pw_below_drewN | apply below_drew1) | exact HB.out)) hb); have n4_ := Aside0.mk (hbox); have n5_ := Aside0.mk ((by rw [hg]; exact (below_size (by repeat (first | (with_reducible first | exact HB.out | apply below_alloc | apply pw_below_drewN | apply below_drew1) | exact HB.out))) : w.heap.size ≤ gb291)); have n6_ := Aside0.mk ((by rw [hg]; exact (below_size (by repeat (first | (with_reducible first | exact HB.out | apply below_alloc | apply pw_below_drewN | apply below_drew1) | exact HB.out))) : w.heap.size ≤ gb291)); clear HO1; clear HO285; clear HO288; clear HB; have HO1 := n0_; have HO285 := n1_; have HO288 := n2_; have HB := n3_; have BK291 := n4_; have GW291 := n5_; have GE291 := n6_; clear n0_ n1_ n2_ n3_ n4_ n5_ n6_; clear hb hbox hg; have hcz13_0 : w12.cell? ⟨gb291, 0, none⟩ = some (.int .i64 0) := (blk_cell BK291.out 0).trans rfl; have hcz13_1 : w12.cell? ⟨gb291, 1, none⟩ = some (.int .i64 0) := (blk_cell BK291.out 1).trans rfl; have hfz13_0 := blk_frozen BK291.out 0; have hfz13_1 := blk_frozen BK291.out 1) | ((with_reducible refine gate_builtin (b := .append) (xs := #[.const (.slice none 0 0), .tmp 27]) rfl ?_); at_builtin; refine Kd.N_append_rows k43 (w0 := w) w.heap.size rfl (.const (.slice none 0 0)) (.tmp 27) 23 43 (.agg #[(.int .i64 0), (.int .i64 0), (.int .i64 0), (.int .i64 0), (.string ⟨#[]⟩), (.slice none 0 0)]) 72 rfl Try.underlying23 info43 rfl (by decide) (by omega) (.slice none 0 0) ([] : List (S43)) l1 _ _ _ (fun k_ => (P1_ k_ ∨ w.heap.size ≤ k_) ∧ some k_ ≠ (v284 : Value).ownBlock ∧ some k_ ≠ (v287 : Value).ownBlock ∧ k_ ≠ gb291) (fun k_ => ((fun k_ => (P1_ k_ ∨ w.heap.size ≤ k_) ∧ some k_ ≠ (v284 : Value).ownBlock ∧ some k_ ≠ (v287 : Value).ownBlock ∧ k_ ≠ gb291)) k_ ∧ some k_ ≠ (.slice none 0 0 : Value).ownBlock) rfl rfl ?aO ?aR (fun _ hk => hk) ?aF ?aB ?aS ?aL ?_; (case aR => exact (by skip; exact Kd.V_F (Kd.V_mono (ok' := (fun k_ => ((fun k_ => (P1_ k_ ∨ w.heap.size ≤ k_) ∧ some k_ ≠ (v284 : Value).ownBlock ∧ some k_ ≠ (v287 : Value).ownBlock ∧ k_ ≠ gb291)) k_ ∧ some k_ ≠ (.slice none 0 0 : Value).ownBlock)) ((Kd.V_far (p := ⟨gb291, 1, none⟩) (Kd.V_far (p := ⟨gb291, 0, none⟩) (Kd.V_mono HO1.out (fun k_ hk => (⟨hk, hk.2⟩ : _ ∧ k_ ≠ gb291))) (fun _ hk => hk.2) (.int .i64 t289)) (fun _ hk => hk.2) (.int .i64 t290))) (fun k_ hk => ⟨⟨hk.1.1.1.1, ⟨hk.1.1.1.2, ⟨hk.1.1.2, hk.1.2⟩⟩⟩, (by simp [Value.ownBlock])⟩)))); (case aB => exact (by repeat (first | (with_reducible first | exact HB.out | apply below_alloc | apply pw_below_drewN | apply below_drew1 | refine below_set ?_ GE291.out) | exact HB.out))); (case aF => exact (fun k_ hk => ⟨(.inr (Nat.le_trans (below_size (by repeat (first | (with_reducible first | exact HB.out | apply below_alloc | apply pw_below_drewN | apply below_drew1 | refine below_set ?_ GE291.out) | exact HB.out))) hk)), Kd.fresh' (Kd.R_lt (by (with_reducible repeat (first | apply Kd.R_alloc | apply Kd.R_drewN | apply Kd.R_drew)); exact (Kd.R_mono (Kd.R_far (p := ⟨gb291, 1, none⟩) (Kd.R_far (p := ⟨gb291, 0, none⟩) (Kd.R_types HO285.out BK291.out (by decide)) (fun _ hk => hk.2) (.int .i64 t289)) (fun _ hk => hk.2) (.int .i64 t290)) (fun _ h_ => h_.1)))) k_ hk, Kd.fresh' (Kd.R_lt (by (with_reducible repeat (first | apply Kd.R_alloc | apply Kd.R_drewN | apply Kd.R_drew)); exact (Kd.R_mono (Kd.R_far (p := ⟨gb291, 1, none⟩) (Kd.R_far (p := ⟨gb291, 0, none⟩) (Kd.R_types HO288.out BK291.out (by decide)) (fun _ hk => hk.2) (.int .i64 t289)) (fun _ hk => hk.2) (.int .i64 t290)) (fun _ h_ => h_.1)))) k_ hk, Kd.freshB (g := gb291) (o := .cells #[.int .i64 t289, .int .i64 t290] 26 (0, 0)) (by (with_reducible repeat (first | refine blk_drewN ?_ _ | refine blk_drew ?_ | refine blk_alloc ?_ _)); refine blk_put (cs := #[.int .i64 t289, .int .i64 0]) ?_ 1 _ rfl; (with_reducible repeat (first | refine blk_drewN ?_ _ | refine blk_drew ?_ | refine blk_alloc ?_ _)); refine blk_put (cs := #[.int .i64 0, .int .i64 0]) ?_ 0 _ rfl; (with_reducible repeat (first | refine blk_drewN ?_ _ | refine blk_drew ?_ | refine blk_alloc ?_ _)); exact BK291.out) k_ hk⟩)); (case aO => exact ((Kd.N_nil _ _ _ _ (fun k_ => (P1_ k_ ∨ w.heap.size ≤ k_) ∧ some k_ ≠ (v284 : Value).ownBlock ∧ some k_ ≠ (v287 : Value).ownBlock ∧ k_ ≠ gb291)))); (case aS => exact (below_size (by repeat (first | (with_reducible first | exact HB.out | apply below_alloc | apply pw_below_drewN | apply below_drew1 | refine below_set ?_ GE291.out) | exact HB.out)))); (case aL => have := LMc6.out; omega); intro v293 w14 ho hb hg hat; rw [← Ny292.out] at ho; have n0_ := Aside0.mk (Kd.V_afterv (Kd.V_apart_nil (by (with_reducible repeat (first | apply Kd.V_alloc | apply Kd.V_drewN | apply Kd.V_drew)); exact (Kd.V_mono (Kd.V_far (p := ⟨gb291, 1, none⟩) (Kd.V_far (p := ⟨gb291, 0, none⟩) (Kd.V_mono HO1.out (fun k_ hk => (⟨hk, hk.2⟩ : _ ∧ k_ ≠ gb291))) (fun _ hk => hk.2) (.int .i64 t289)) (fun _ hk => hk.2) (.int .i64 t290)) (fun _ h_ => h_.1)))) hg hat); have n1_ := Aside0.mk (Kd.R_grown (by (with_reducible repeat (first | apply Kd.R_alloc | apply Kd.R_drewN | apply Kd.R_drew)); exact (Kd.R_mono (Kd.R_far (p := ⟨gb291, 1, none⟩) (Kd.R_far (p := ⟨gb291, 0, none⟩) (Kd.R_types HO285.out BK291.out (by decide)) (fun _ hk => hk.2) (.int .i64 t289)) (fun _ hk => hk.2) (.int .i64 t290)) (fun _ h_ => h_.1))) hg (fun _ _ => by simp [Value.ownBlock])); have n2_ := Aside0.mk (Kd.R_grown (by (with_reducible repeat (first | apply Kd.R_alloc | apply Kd.R_drewN | apply Kd.R_drew)); exact (Kd.R_mono (Kd.R_far (p := ⟨gb291, 1, none⟩) (Kd.R_far (p := ⟨gb291, 0, none⟩) (Kd.R_types HO288.out BK291.out (by decide)) (fun _ hk => hk.2) (.int .i64 t289)) (fun _ hk => hk.2) (.int .i64 t290)) (fun _ h_ => h_.1))) hg (fun _ _ => by simp [Value.ownBlock])); have n3_ := Aside0.mk (blk_grown (g := gb291) (o := .cells #[.int .i64 t289, .int .i64 t290] 26 (0, 0)) (by (with_reducible repeat (first | refine blk_drewN ?_ _ | refine blk_drew ?_ | refine blk_alloc ?_ _)); refine blk_put (cs := #[.int .i64 t289, .int .i64 0]) ?_ 1 _ rfl; (with_reducible repeat (first | refine blk_drewN ?_ _ | refine blk_drew ?_ | refine blk_alloc ?_ _)); refine blk_put (cs := #[.int .i64 0, .int .i64 0]) ?_ 0 _ rfl; (with_reducible repeat (first | refine blk_drewN ?_ _ | refine blk_drew ?_ | refine blk_alloc ?_ _)); exact BK291.out) hg (by simp [Value.ownBlock])); have n4_ := Aside0.mk (hb); have n5_ := Aside0.mk (ho); clear HO1; clear HO285; clear HO288; clear BK291; clear HB; have HO1 := n0_; have HO285 := n1_; have HO288 := n2_; have BK291 := n3_; have HB := n4_; have HO294 := n5_; clear n0_ n1_ n2_ n3_ n4_ n5_; clear ho hb hg hat) | ((with_reducible refine gate_builtin (b := .append) (xs := #[.tmp 28, .tmp 32]) rfl ?_); at_builtin; refine Kd.N_append k43 (w0 := w) w.heap.size rfl (.tmp 28) (.tmp 32) 23 43 (.agg #[(.int .i64 0), (.int .i64 0), (.int .i64 0), (.int .i64 0), (.string ⟨#[]⟩), (.slice none 0 0)]) 72 rfl Try.underlying23 info43 rfl (by decide) (by omega) v293 y292 (⟨2, a2, a3, 0, (⟨#[119, 101, 108, 108]⟩ : ByteArray), (⟨([] : List (S52))⟩ : S41)⟩ : S43) [.int .i64 2, .int .i64 a2, .int .i64 a3, .int .i64 0, .string (⟨#[119, 101, 108, 108]⟩ : ByteArray), .slice none 0 0] (fun k_ => (P1_ k_ ∨ w.heap.size ≤ k_) ∧ some k_ ≠ (v284 : Value).ownBlock ∧ some k_ ≠ (v287 : Value).ownBlock ∧ k_ ≠ gb291) (fun k_ => ((fun k_ => (P1_ k_ ∨ w.heap.size ≤ k_) ∧ some k_ ≠ (v284 : Value).ownBlock ∧ some k_ ≠ (v287 : Value).ownBlock ∧ k_ ≠ gb291)) k_ ∧ some k_ ≠ (v293 : Value).ownBlock) rfl rfl ?aP (fun _ hk => hk) ?aF ?aO ?aB ?aS ?aL ?_; (case aP => exact (k43_mkF _ _ (⟨2, a2, a3, 0, (⟨#[119, 101, 108, 108]⟩ : ByteArray), (⟨([] : List (S52))⟩ : S41)⟩ : S43) (Nat.le_refl _) (Kd.F_nil _ _ _))); (case aB => exact (by repeat (first | (with_reducible first | exact HB.out | apply below_alloc | apply pw_below_drewN | apply below_drew1 | refine below_set ?_ GE291.out) | exact HB.out))); (case aF => exact (fun k_ hk => ⟨(.inr (Nat.le_trans (below_size (by repeat (first | (with_reducible first | exact HB.out | apply below_alloc | apply pw_below_drewN | apply below_drew1 | refine below_set ?_ GE291.out) | exact HB.out))) hk)), Kd.fresh' (Kd.R_lt (by (with_reducible repeat (first | apply Kd.R_alloc | apply Kd.R_drewN | apply Kd.R_drew)); exact HO285.out)) k_ hk, Kd.fresh' (Kd.R_lt (by (with_reducible repeat (first | apply Kd.R_alloc | apply Kd.R_drewN | apply Kd.R_drew)); exact HO288.out)) k_ hk, Kd.freshB (g := gb291) (o := .cells #[.int .i64 t289, .int .i64 t290] 26 (0, 0)) (by (with_reducible repeat (first | refine blk_drewN ?_ _ | refine blk_drew ?_ | refine blk_alloc ?_ _)); exact BK291.out) k_ hk⟩)); (case aO => exact (by (with_reducible repeat (first | apply Kd.N_alloc | apply Kd.N_drewN | apply Kd.N_drew)); exact HO294.out)); (case aS => exact (below_size (by repeat (first | (with_reducible first | exact HB.out | apply below_alloc | apply pw_below_drewN | apply below_drew1 | refine below_set ?_ GE291.out) | exact HB.out)))); (case aL => have := LMc7.out; omega); intro v296 w15 ho hb hg hat; rw [← Ny295.out] at ho; have n0_ := Aside0.mk (Kd.V_afterv (ok := (fun k_ => (P1_ k_ ∨ w.heap.size ≤ k_) ∧ some k_ ≠ (v284 : Value).ownBlock ∧ some k_ ≠ (v287 : Value).ownBlock ∧ k_ ≠ gb291)) (by (with_reducible repeat (first | apply Kd.V_alloc | apply Kd.V_drewN | apply Kd.V_drew)); exact Kd.V_mono HO1.out (fun _ hk => ⟨⟨hk.1.1.1.1, ⟨hk.1.1.1.2, ⟨hk.1.1.2, hk.1.2⟩⟩⟩, hk.2⟩)) hg hat); have n1_ := Aside0.mk (Kd.R_over' (by (with_reducible repeat (first | apply Kd.R_alloc | apply Kd.R_drewN | apply Kd.R_drew)); exact HO285.out) (Kd.N_typed (by (with_reducible repeat (first | apply Kd.N_alloc | apply Kd.N_drewN | apply Kd.N_drew)); exact HO294.out)) (by decide) hg); have n2_ := Aside0.mk (Kd.R_over' (by (with_reducible repeat (first | apply Kd.R_alloc | apply Kd.R_drewN | apply Kd.R_drew)); exact HO288.out) (Kd.N_typed (by (with_reducible repeat (first | apply Kd.N_alloc | apply Kd.N_drewN | apply Kd.N_drew)); exact HO294.out)) (by decide) hg); have n3_ := Aside0.mk (blk_grown (g := gb291) (o := .cells #[.int .i64 t289, .int .i64 t290] 26 (0, 0)) (by (with_reducible repeat (first | refine blk_drewN ?_ _ | refine blk_drew ?_ | refine blk_alloc ?_ _)); exact BK291.out) hg (Kd.N_ne HO294.out BK291.out (by decide))); have n4_ := Aside0.mk (hb); have n5_ := Aside0.mk (ho); clear HO1; clear HO285; clear HO288; clear BK291; clear HB; clear HO294; have HO1 := n0_; have HO285 := n1_; have HO288 := n2_; have BK291 := n3_; have HB := n4_; have HO297 := n5_; clear n0_ n1_ n2_ n3_ n4_ n5_; clear ho hb hg hat; obtain ⟨Ao16, co16, eo16⟩ := Kd.N_slice HO297.out; subst eo16) | ((with_reducible refine gate_callee (f := 9) rfl ?_); refine goesL_ (some 37) rfl rfl Try.func9 (by kernel_rfl) rfl #[.slice A0 l0.length c0, .slice Ao16 y295.length co16] rfl (by (try simp only [List.map_toArray, List.map_cons, List.map_nil]); first | done | rfl | (simp only [List.length_drop, List.length_take]; rfl)) ?_; (with_reducible refine (threads_Pending.calls k _ _ l0 _ _ y295 t298 t301 t302 _ ?side1 ?side2 ?side3 ?side4 A8.out).mono ?_); (case side1 => repeat (first | exact (Kd.C_below HR0.out HB.out) | (with_reducible refine Kd.C_alloc ?_ _) | (with_reducible refine Kd.C_drewN ?_ _) | (with_reducible refine Kd.C_drew ?_))); (case side2 => exact HC0.out); (case side3 => repeat (first | exact (Kd.N_reads' HO297.out).2.2 | (with_reducible refine Kd.C_alloc ?_ _) | (with_reducible refine Kd.C_drewN ?_ _) | (with_reducible refine Kd.C_drew ?_))); (case side4 => exact (Kd.N_reads' HO297.out).2.1); rintro e w17 ⟨v299, rfl, ho0, hb⟩; refine ⟨_, rfl, ?_⟩; have n0_ := Aside0.mk (Kd.V_elder' (by (with_reducible repeat (first | apply Kd.V_alloc | apply Kd.V_drewN | apply Kd.V_drew)); exact HO1.out) (Kd.R_base ho0) hb); have n1_ := Aside0.mk (Kd.R_below (by (with_reducible repeat (first | apply Kd.R_alloc | apply Kd.R_drewN | apply Kd.R_drew)); exact HO285.out) hb); have n2_ := Aside0.mk (Kd.R_below (by (with_reducible repeat (first | apply Kd.R_alloc | apply Kd.R_drewN | apply Kd.R_drew)); exact HO288.out) hb); have n3_ := Aside0.mk (Kd.N_elder' (by (with_reducible repeat (first | apply Kd.N_alloc | apply Kd.N_drewN | apply Kd.N_drew)); exact HO297.out) (Kd.R_base ho0) hb); have n4_ := Aside0.mk (Kd.R_lower (Kd.R_newM (M := fun k_ => (w.heap.size ≤ k_)) ho0 (below_size (by repeat (first | (with_reducible first | exact HB.out | apply below_alloc | apply pw_below_drewN | apply below_drew1 | refine below_set ?_ GE291.out) | exact HB.out))) (fun k_ h_ => h_)) (below_size (by repeat (first | (with_reducible first | exact HB.out | apply below_alloc | apply pw_below_drewN | apply below_drew1 | refine below_set ?_ GE291.out) | exact HB.out)))); have n5_ := Aside0.mk (blk_below (g := gb291) (o := .cells #[.int .i64 t289, .int .i64 t290] 26 (0, 0)) (by (with_reducible repeat (first | refine blk_drewN ?_ _ | refine blk_drew ?_ | refine blk_alloc ?_ _)); exact BK291.out) hb); have n6_ := Aside0.mk (below_step (by repeat (first | (with_reducible first | exact HB.out | apply below_alloc | apply pw_below_drewN | apply below_drew1 | refine below_set ?_ GE291.out) | exact HB.out)) hb); clear HO1; clear HO285; clear HO288; clear HO297; clear BK291; clear HB; have HO1 := n0_; have HO285 := n1_; have HO288 := n2_; have HO297 := n3_; have HO300 := n4_; have BK291 := n5_; have HB := n6_; clear n0_ n1_ n2_ n3_ n4_ n5_ n6_; (try clear hb); (try clear hb2); (try clear hk); (try clear hi); (try clear ho0)) | ((with_reducible refine gate_dst (N := 14) rfl ?_); refine box_event ?hg (N := 14) ?hd (cs := #[.int .i64 0, .int .i64 0]) (t := 26) ?hr ?_; (case hd => rfl); (case hg => rfl); (case hr => first | (go_simp; done) | (go_simp; rfl)); intro gb303 hg w18 hbox hb; have n0_ := Aside0.mk (Kd.V_below (Kd.V_elderB (by (with_reducible repeat (first | apply Kd.V_alloc | apply Kd.V_drewN | apply Kd.V_drew)); exact HO1.out) gb303 (Nat.le_of_eq hg.symm)) hb); have n1_ := Aside0.mk (Kd.R_below (by (with_reducible repeat (first | apply Kd.R_alloc | apply Kd.R_drewN | apply Kd.R_drew)); exact HO285.out) hb); have n2_ := Aside0.mk (Kd.R_below (by (with_reducible repeat (first | apply Kd.R_alloc | apply Kd.R_drewN | apply Kd.R_drew)); exact HO288.out) hb); have n3_ := Aside0.mk (Kd.N_below (Kd.N_elderB (by (with_reducible repeat (first | apply Kd.N_alloc | apply Kd.N_drewN | apply Kd.N_drew)); exact HO297.out) gb303 (Nat.le_of_eq hg.symm)) hb); have n4_ := Aside0.mk (Kd.R_below (by (with_reducible repeat (first | apply Kd.R_alloc | apply Kd.R_drewN | apply Kd.R_drew)); exact HO300.out) hb); have n5_ := Aside0.mk (blk_below (g := gb291) (o := .cells #[.int .i64 t289, .int .i64 t290] 26 (0, 0)) (by (with_reducible repeat (first | refine blk_drewN ?_ _ | refine blk_drew ?_ | refine blk_alloc ?_ _)); exact BK291.out) hb); have n6_ := Aside0.mk (below_step (by repeat (first | (with_reducible first | exact HB.out | apply below_alloc | apply pw_below_drewN | apply below_drew1 | refine below_set ?_ GE291.out) | exact HB.out)) hb); have n7_ := Aside0.mk (hbox); have n8_ := Aside0.mk ((by rw [hg]; exact (below_size (by repeat (first | (with_reducible first | exact HB.out | apply below_alloc | apply pw_below_drewN | apply below_drew1 | refine below_set ?_ GE291.out) | exact HB.out))) : w.heap.size ≤ gb303)); have n9_ := Aside0.mk ((by rw [hg]; exact (below_size (by repeat (first | (with_reducible first | exact HB.out | apply below_alloc | apply pw_below_drewN | apply below_drew1 | refine below_set ?_ GE291.out) | exact HB.out))) : w.heap.size ≤ gb303)); have n10_ := Aside0.mk ((by rw [hg]; exact Nat.ne_of_lt (blk_lt (g := gb291) (o := .cells #[.int .i64 t289, .int .i64 t290] 26 (0, 0)) (by (with_reducible repeat (first | refine blk_drewN ?_ _ | refine blk_drew ?_ | refine blk_alloc ?_ _)); exact BK291.out)) : gb291 ≠ gb303)); have n11_ := Aside0.mk ((by rw [hg]; exact Nat.ne_of_gt (blk_lt (g := gb291) (o := .cells #[.int .i64 t289, .int .i64 t290] 26 (0, 0)) (by (with_reducible repeat (first | refine blk_drewN ?_ _ | refine blk_drew ?_ | refine blk_alloc ?_ _)); exact BK291.out)) : gb303 ≠ gb291)); clear HO1; clear HO285; clear HO288; clear HO297; clear HO300; clear BK291; clear HB; have HO1 := n0_; have HO285 := n1_; have HO288 := n2_; have HO297 := n3_; have HO300 := n4_; have BK291 := n5_; have HB := n6_; have BK303 := n7_; have GW303 := n8_; have GE303 := n9_; have NB291_303 := n10_; have NB303_291 := n11_; clear n0_ n1_ n2_ n3_ n4_ n5_ n6_ n7_ n8_ n9_ n10_ n11_; clear hb hbox hg; have hnb19 := NB303_291.out; have hnc19 := NB291_303.out; have hcz20_0 : w18.cell? ⟨gb303, 0, none⟩ = some (.int .i64 0) := (blk_cell BK303.out 0).trans rfl; have hcz20_1 : w18.cell? ⟨gb303, 1, none⟩ = some (.int .i64 0) := (blk_cell BK303.out 1).trans rfl; have hfz20_0 := blk_frozen BK303.out 0; have hfz20_1 := blk_frozen BK303.out 1) | ((with_reducible refine gate_callee (f := 11) rfl ?_); refine goesL_ (some 40) rfl rfl Try.func11 (by kernel_rfl) rfl #[] rfl (by (try simp only [List.map_toArray, List.map_cons, List.map_nil]); first | done | rfl | (simp only [List.length_drop, List.length_take]; rfl)) ?_; (with_reducible refine (changeforgelaw7_threadsExample.calls k  true _ A9.out).mono ?_); rintro e w21 ⟨rfl, hb⟩; refine ⟨_, rfl, ?_⟩; have n0_ := Aside0.mk (Kd.V_below (by (with_reducible repeat (first | apply Kd.V_alloc | apply Kd.V_drewN | apply Kd.V_drew)); exact (Kd.V_mono (Kd.V_far (p := ⟨gb303, 1, none⟩) (Kd.V_far (p := ⟨gb303, 0, none⟩) (Kd.V_mono HO1.out (fun k_ hk => (⟨hk, hk.2⟩ : _ ∧ k_ ≠ gb303))) (fun _ hk => hk.2) (.int .i64 t301)) (fun _ hk => hk.2) (.int .i64 t302)) (fun _ h_ => h_.1))) hb); have n1_ := Aside0.mk (Kd.R_below (by (with_reducible repeat (first | apply Kd.R_alloc | apply Kd.R_drewN | apply Kd.R_drew)); exact (Kd.R_mono (Kd.R_far (p := ⟨gb303, 1, none⟩) (Kd.R_far (p := ⟨gb303, 0, none⟩) (Kd.R_types HO285.out BK303.out (by decide)) (fun _ hk => hk.2) (.int .i64 t301)) (fun _ hk => hk.2) (.int .i64 t302)) (fun _ h_ => h_.1))) hb); have n2_ := Aside0.mk (Kd.R_below (by (with_reducible repeat (first | apply Kd.R_alloc | apply Kd.R_drewN | apply Kd.R_drew)); exact (Kd.R_mono (Kd.R_far (p := ⟨gb303, 1, none⟩) (Kd.R_far (p := ⟨gb303, 0, none⟩) (Kd.R_types HO288.out BK303.out (by decide)) (fun _ hk => hk.2) (.int .i64 t301)) (fun _ hk => hk.2) (.int .i64 t302)) (fun _ h_ => h_.1))) hb); have n3_ := Aside0.mk (Kd.N_below (by (with_reducible repeat (first | apply Kd.N_alloc | apply Kd.N_drewN | apply Kd.N_drew)); exact (Kd.N_mono (Kd.N_far (p := ⟨gb303, 1, none⟩) (Kd.N_far (p := ⟨gb303, 0, none⟩) (Kd.N_mono HO297.out (fun k_ hk => (⟨hk, hk.2⟩ : _ ∧ k_ ≠ gb303))) (fun _ hk => hk.2) (.int .i64 t301)) (fun _ hk => hk.2) (.int .i64 t302)) (fun _ h_ => h_.1))) hb); have n4_ := Aside0.mk (Kd.R_below (by (with_reducible repeat (first | apply Kd.R_alloc | apply Kd.R_drewN | apply Kd.R_drew)); exact (Kd.R_mono (Kd.R_far (p := ⟨gb303, 1, none⟩) (Kd.R_far (p := ⟨gb303, 0, none⟩) (Kd.R_types HO300.out BK303.out (by decide)) (fun _ hk => hk.2) (.int .i64 t301)) (fun _ hk => hk.2) (.int .i64 t302)) (fun _ h_ => h_.1))) hb); have n5_ := Aside0.mk (blk_below (g := gb291) (o := .cells #[.int .i64 t289, .int .i64 t290] 26 (0, 0)) (by (with_reducible repeat (first | refine blk_drewN ?_ _ | refine blk_drew ?_ | refine blk_alloc ?_ _)); refine blk_far ?_ NB291_303.out _; (with_reducible repeat (first | refine blk_drewN ?_ _ | refine blk_drew ?_ | refine blk_alloc ?_ _)); refine blk_far ?_ NB291_303.out _; (with_reducible repeat (first | refine blk_drewN ?_ _ | refine blk_drew ?_ | refine blk_alloc ?_ _)); exact BK291.out) hb); have n6_ := Aside0.mk (blk_below (g := gb303) (o := .cells #[.int .i64 t301, .int .i64 t302] 26 (0, 0)) (by (with_reducible repeat (first | refine blk_drewN ?_ _ | refine blk_drew ?_ | refine blk_alloc ?_ _)); refine blk_put (cs := #[.int .i64 t301, .int .i64 0]) ?_ 1 _ rfl; (with_reducible repeat (first | refine blk_drewN ?_ _ | refine blk_drew ?_ | refine blk_alloc ?_ _)); refine blk_put (cs := #[.int .i64 0, .int .i64 0]) ?_ 0 _ rfl; (with_reducible repeat (first | refine blk_drewN ?_ _ | refine blk_drew ?_ | refine blk_alloc ?_ _)); exact BK303.out) hb); have n7_ := Aside0.mk (below_step (by repeat (first | (with_reducible first | exact HB.out | apply below_alloc | apply pw_below_drewN | apply below_drew1 | refine below_set ?_ GE291.out | refine below_set ?_ GE303.out) | exact HB.out)) hb); clear HO1; clear HO285; clear HO288; clear HO297; clear HO300; clear BK291; clear BK303; clear HB; have HO1 := n0_; have HO285 := n1_; have HO288 := n2_; have HO297 := n3_; have HO300 := n4_; have BK291 := n5_; have BK303 := n6_; have HB := n7_; clear n0_ n1_ n2_ n3_ n4_ n5_ n6_ n7_; (try clear hb); (try clear hb2); (try clear hk); (try clear hi)))
        go_loopg [15, 16] k (fun kq v15 v16 w' => ∃ (x15_1 : Int) (x16_1 : Int), v15 = .int .i64 x15_1 ∧ v16 = .int .i64 x16_1 ∧ Aside0 (changeforgelaw7_ThreadsCommentsAddUp.l0 kq l1 a3 t283 t298 x15_1 x16_1 t289 t290 t301 t302 = some r) ∧ Aside0 (kq ≤ k) ∧ Aside0 (Kd.V k43 43 w' w.heap.size (fun k_ => (P1_ k_ ∨ w.heap.size ≤ k_) ∧ some k_ ≠ (v284 : Value).ownBlock ∧ some k_ ≠ (v299 : Value).ownBlock ∧ k_ ≠ gb291 ∧ k_ ≠ gb303) (.slice A1 l1.length c1) l1) ∧ Aside0 (Kd.R k34 34 w' w.heap.size (fun k_ => (w.heap.size ≤ k_)) v284 t283) ∧ Aside0 (Kd.R (Kd.int .i64) 3 w' w.heap.size (fun k_ => (w.heap.size ≤ k_)) v299 t298) ∧ Aside0 (w'.heap[gb291]? = some (.cells #[.int .i64 t289, .int .i64 t290] 26 (0, 0))) ∧ Aside0 (w'.heap[gb303]? = some (.cells #[.int .i64 t301, .int .i64 t302] 26 (0, 0))) ∧ Aside0 (Below w.heap.size w w'))
        case atStart => exact ⟨(0), (0), (by first | rfl | (simp; done) | (simp [*]; done)), (by first | rfl | (simp; done) | (simp [*]; done)), H', ⟨Nat.le_refl _⟩, ⟨by (with_reducible repeat (first | apply Kd.V_alloc | apply Kd.V_drewN | apply Kd.V_drew)); exact Kd.V_mono HO1.out (fun _ hk => ⟨hk.1.1.1.1, ⟨hk.1.1.1.2.1, ⟨hk.1.2, ⟨hk.1.1.1.2.2.2, hk.2⟩⟩⟩⟩)⟩, ⟨by (with_reducible repeat (first | apply Kd.R_alloc | apply Kd.R_drewN | apply Kd.R_drew)); exact Kd.R_mono HO285.out (fun _ hk => hk.1)⟩, ⟨by (with_reducible repeat (first | apply Kd.R_alloc | apply Kd.R_drewN | apply Kd.R_drew)); exact Kd.R_mono HO300.out (fun _ hk => hk.1)⟩, ⟨by (with_reducible repeat (first | refine blk_drewN ?_ _ | refine blk_drew ?_ | refine blk_alloc ?_ _)); exact BK291.out⟩, ⟨by (with_reducible repeat (first | refine blk_drewN ?_ _ | refine blk_drew ?_ | refine blk_alloc ?_ _)); exact BK303.out⟩, ⟨by repeat (first | (with_reducible first | exact HB.out | apply below_alloc | apply pw_below_drewN | apply below_drew1 | refine below_set ?_ GE291.out | refine below_set ?_ GE303.out) | exact HB.out)⟩⟩
        case round =>
          clear H'
          try clear c1
          try clear p2
          try clear c5
          try clear c6
          try clear c7
          try clear c8
          try clear c9
          try clear c10
          try clear c11
          try clear c19
          try clear hcz13_0
          try clear hcz13_1
          try clear hcz20_0
          try clear hcz20_1
          try clear hfz13_0
          try clear hfz13_1
          try clear hfz20_0
          try clear hfz20_1
          obtain ⟨x15_1, x16_1, rfl, rfl, HA, HK1, HO_1, HO_9, HO_13, BK291, BK303, HB⟩ := hrel
          cases gk with
          | zero => exact absurd HA.out (by simp [changeforgelaw7_ThreadsCommentsAddUp.l0])
          | succ k1 =>
            have H := HA.out
            clear HA
            simp only [changeforgelaw7_ThreadsCommentsAddUp.l0] at H
            by_cases c22 : x16_1 < (l1.length : Int)
            · rw [if_pos c22] at H
              have c22b0 : decide (x16_1 < (l1.length : Int)) = true := decide_eq_true c22
              clear c22
              by_cases c23 : 0 ≤ x16_1
              · rw [if_pos c23] at H
                have c23b0 : decide (0 ≤ x16_1) = true := decide_eq_true c23
                clear c23
                by_cases c24 : ((rd_T43 l1 x16_1).f0) = 1
                · rw [if_pos c24] at H
                  have c24b0 : (((rd_T43 l1 x16_1).f0) == 1) = true := beq_iff_eq.mpr c24
                  have c24b1 : (((rd_T43 l1 x16_1).f0) != 1) = false := bne_eq_false_iff_eq.mpr c24
                  clear c24
                  have H' := Aside0.mk H
                  clear H
                  have p305 : 0 ≤ (x16_1 : Int) := of_decide_eq_true (by first | (with_reducible assumption) | assumption)
                  have q305 : x16_1 < (l1.length : Int) := of_decide_eq_true (by first | (with_reducible assumption) | assumption)
                  obtain ⟨ad305, A305_5, c305_5, e305, hx305_0, hx305_1, hx305_2, hx305_3, hx305_4, hx305_5, hl305_5, hi305_5⟩ := at_T43 (Kd.V_reads' HO_1.out).2.2 x16_1 p305 q305
                  cases e305
                  obtain ⟨ce305, hce305, hMe305, hcc305⟩ := Kd.V_get HO_1.out z43 x16_1 p305 (by first | exact q305 | exact of_decide_eq_true (by first | (with_reducible assumption) | assumption) | (have e_ := (Kd.V_reads' HO_1.out).1; omega))
                  obtain ⟨ua305_5, uc305_5, rfl, ul305_5, ge305_5⟩ := k43_openF hMe305
                  have hv305_5 := hcc305 5 _ rfl
                  rw [add_field _ _ 5 (by omega)] at hv305_5
                  replace hv305_5 := Option.some.inj (hv305_5.symm.trans hx305_5)
                  injection hv305_5 with hva_ hvn_ hvc_
                  rw [hva_] at ge305_5
                  rw [hvc_] at ul305_5
                  have HL305_5 := Aside0.mk (show Kd.V k52 52 _ w.heap.size _ _ ((rd_T43 l1 x16_1).f5.f0) from Kd.V_mk ul305_5 ge305_5)
                  clear hva_ hvn_ hvc_ ge305_5 ul305_5
                  clear hcc305 hce305
                  have HR305_5 := Aside0.mk hi305_5
                  have HC305_5 := Aside0.mk hl305_5
                  clear hi305_5 hl305_5
                  replace p305 := eq_true p305
                  replace q305 := eq_true q305
                  go_wp2
                  go_roundg k1
                  case measure => have := HK1.out; omega
                  case rel => exact ⟨(wrap64 (x15_1 + 1)), (wrap64 (x16_1 + 1)), (by first | rfl | (simp; done) | (simp [*]; done)), (by first | rfl | (simp; done) | (simp [*]; done)), H', ⟨by have := HK1.out; omega⟩, ⟨by (with_reducible repeat (first | apply Kd.V_alloc | apply Kd.V_drewN | apply Kd.V_drew)); exact HO_1.out⟩, ⟨by (with_reducible repeat (first | apply Kd.R_alloc | apply Kd.R_drewN | apply Kd.R_drew)); exact HO_9.out⟩, ⟨by (with_reducible repeat (first | apply Kd.R_alloc | apply Kd.R_drewN | apply Kd.R_drew)); exact HO_13.out⟩, ⟨by (with_reducible repeat (first | refine blk_drewN ?_ _ | refine blk_drew ?_ | refine blk_alloc ?_ _)); exact BK291.out⟩, ⟨by (with_reducible repeat (first | refine blk_drewN ?_ _ | refine blk_drew ?_ | refine blk_alloc ?_ _)); exact BK303.out⟩, ⟨by repeat (first | (with_reducible first | exact HB.out | apply below_alloc | apply pw_below_drewN | apply below_drew1 | refine below_set ?_ GE291.out | refine below_set ?_ GE303.out) | exact HB.out)⟩⟩
                · rw [if_neg c24] at H
                  have c24b0 : (((rd_T43 l1 x16_1).f0) == 1) = false := beq_eq_false_iff_ne.mpr c24
                  have c24b1 : (((rd_T43 l1 x16_1).f0) != 1) = true := bne_iff_ne.mpr c24
                  by_cases c25 : ((rd_T43 l1 x16_1).f0) = 2
                  · rw [if_pos c25] at H
                    have c25b0 : (((rd_T43 l1 x16_1).f0) == 2) = true := beq_iff_eq.mpr c25
                    have c25b1 : (((rd_T43 l1 x16_1).f0) != 2) = false := bne_eq_false_iff_eq.mpr c25
                    clear c25
                    have H' := Aside0.mk H
                    clear H
                    have p305 : 0 ≤ (x16_1 : Int) := of_decide_eq_true (by first | (with_reducible assumption) | assumption)
                    have q305 : x16_1 < (l1.length : Int) := of_decide_eq_true (by first | (with_reducible assumption) | assumption)
                    obtain ⟨ad305, A305_5, c305_5, e305, hx305_0, hx305_1, hx305_2, hx305_3, hx305_4, hx305_5, hl305_5, hi305_5⟩ := at_T43 (Kd.V_reads' HO_1.out).2.2 x16_1 p305 q305
                    cases e305
                    obtain ⟨ce305, hce305, hMe305, hcc305⟩ := Kd.V_get HO_1.out z43 x16_1 p305 (by first | exact q305 | exact of_decide_eq_true (by first | (with_reducible assumption) | assumption) | (have e_ := (Kd.V_reads' HO_1.out).1; omega))
                    obtain ⟨ua305_5, uc305_5, rfl, ul305_5, ge305_5⟩ := k43_openF hMe305
                    have hv305_5 := hcc305 5 _ rfl
                    rw [add_field _ _ 5 (by omega)] at hv305_5
                    replace hv305_5 := Option.some.inj (hv305_5.symm.trans hx305_5)
                    injection hv305_5 with hva_ hvn_ hvc_
                    rw [hva_] at ge305_5
                    rw [hvc_] at ul305_5
                    have HL305_5 := Aside0.mk (show Kd.V k52 52 _ w.heap.size _ _ ((rd_T43 l1 x16_1).f5.f0) from Kd.V_mk ul305_5 ge305_5)
                    clear hva_ hvn_ hvc_ ge305_5 ul305_5
                    clear hcc305 hce305
                    have HR305_5 := Aside0.mk hi305_5
                    have HC305_5 := Aside0.mk hl305_5
                    clear hi305_5 hl305_5
                    replace p305 := eq_true p305
                    replace q305 := eq_true q305
                    have p306 : 0 ≤ (x16_1 : Int) := of_decide_eq_true (by first | (with_reducible assumption) | assumption)
                    have q306 : x16_1 < (l1.length : Int) := of_decide_eq_true (by first | (with_reducible assumption) | assumption)
                    obtain ⟨ad306, A306_5, c306_5, e306, hx306_0, hx306_1, hx306_2, hx306_3, hx306_4, hx306_5, hl306_5, hi306_5⟩ := at_T43 (Kd.V_reads' HO_1.out).2.2 x16_1 p306 q306
                    obtain rfl : ad305 = ad306 := (by injection e306)
                    obtain ⟨ce306, hce306, hMe306, hcc306⟩ := Kd.V_get HO_1.out z43 x16_1 p306 (by first | exact q306 | exact of_decide_eq_true (by first | (with_reducible assumption) | assumption) | (have e_ := (Kd.V_reads' HO_1.out).1; omega))
                    obtain ⟨ua306_5, uc306_5, rfl, ul306_5, ge306_5⟩ := k43_openF hMe306
                    have hv306_5 := hcc306 5 _ rfl
                    rw [add_field _ _ 5 (by omega)] at hv306_5
                    replace hv306_5 := Option.some.inj (hv306_5.symm.trans hx306_5)
                    injection hv306_5 with hva_ hvn_ hvc_
                    rw [hva_] at ge306_5
                    rw [hvc_] at ul306_5
                    have HL306_5 := Aside0.mk (show Kd.V k52 52 _ w.heap.size _ _ ((rd_T43 l1 x16_1).f5.f0) from Kd.V_mk ul306_5 ge306_5)
                    clear hva_ hvn_ hvc_ ge306_5 ul306_5
                    clear hcc306 hce306
                    have HR306_5 := Aside0.mk hi306_5
                    have HC306_5 := Aside0.mk hl306_5
                    clear hi306_5 hl306_5
                    replace p306 := eq_true p306
                    replace q306 := eq_true q306
                    have ea_ := Option.some.inj (hx305_5.symm.trans hx306_5)
                    injection ea_ with ea_ en_ ec_
                    subst ea_
                    subst ec_
                    clear en_
                    go_wp2
                    go_roundg k1
                    case measure => have := HK1.out; omega
                    case rel => exact ⟨(wrap64 (x15_1 + 1)), (wrap64 (x16_1 + 1)), (by first | rfl | (simp; done) | (simp [*]; done)), (by first | rfl | (simp; done) | (simp [*]; done)), H', ⟨by have := HK1.out; omega⟩, ⟨by (with_reducible repeat (first | apply Kd.V_alloc | apply Kd.V_drewN | apply Kd.V_drew)); exact HO_1.out⟩, ⟨by (with_reducible repeat (first | apply Kd.R_alloc | apply Kd.R_drewN | apply Kd.R_drew)); exact HO_9.out⟩, ⟨by (with_reducible repeat (first | apply Kd.R_alloc | apply Kd.R_drewN | apply Kd.R_drew)); exact HO_13.out⟩, ⟨by (with_reducible repeat (first | refine blk_drewN ?_ _ | refine blk_drew ?_ | refine blk_alloc ?_ _)); exact BK291.out⟩, ⟨by (with_reducible repeat (first | refine blk_drewN ?_ _ | refine blk_drew ?_ | refine blk_alloc ?_ _)); exact BK303.out⟩, ⟨by repeat (first | (with_reducible first | exact HB.out | apply below_alloc | apply pw_below_drewN | apply below_drew1 | refine below_set ?_ GE291.out | refine below_set ?_ GE303.out) | exact HB.out)⟩⟩
                  · rw [if_neg c25] at H
                    have c25b0 : (((rd_T43 l1 x16_1).f0) == 2) = false := beq_eq_false_iff_ne.mpr c25
                    have c25b1 : (((rd_T43 l1 x16_1).f0) != 2) = true := bne_iff_ne.mpr c25
                    have H' := Aside0.mk H
                    clear H
                    have p305 : 0 ≤ (x16_1 : Int) := of_decide_eq_true (by first | (with_reducible assumption) | assumption)
                    have q305 : x16_1 < (l1.length : Int) := of_decide_eq_true (by first | (with_reducible assumption) | assumption)
                    obtain ⟨ad305, A305_5, c305_5, e305, hx305_0, hx305_1, hx305_2, hx305_3, hx305_4, hx305_5, hl305_5, hi305_5⟩ := at_T43 (Kd.V_reads' HO_1.out).2.2 x16_1 p305 q305
                    cases e305
                    obtain ⟨ce305, hce305, hMe305, hcc305⟩ := Kd.V_get HO_1.out z43 x16_1 p305 (by first | exact q305 | exact of_decide_eq_true (by first | (with_reducible assumption) | assumption) | (have e_ := (Kd.V_reads' HO_1.out).1; omega))
                    obtain ⟨ua305_5, uc305_5, rfl, ul305_5, ge305_5⟩ := k43_openF hMe305
                    have hv305_5 := hcc305 5 _ rfl
                    rw [add_field _ _ 5 (by omega)] at hv305_5
                    replace hv305_5 := Option.some.inj (hv305_5.symm.trans hx305_5)
                    injection hv305_5 with hva_ hvn_ hvc_
                    rw [hva_] at ge305_5
                    rw [hvc_] at ul305_5
                    have HL305_5 := Aside0.mk (show Kd.V k52 52 _ w.heap.size _ _ ((rd_T43 l1 x16_1).f5.f0) from Kd.V_mk ul305_5 ge305_5)
                    clear hva_ hvn_ hvc_ ge305_5 ul305_5
                    clear hcc305 hce305
                    have HR305_5 := Aside0.mk hi305_5
                    have HC305_5 := Aside0.mk hl305_5
                    clear hi305_5 hl305_5
                    replace p305 := eq_true p305
                    replace q305 := eq_true q305
                    have p306 : 0 ≤ (x16_1 : Int) := of_decide_eq_true (by first | (with_reducible assumption) | assumption)
                    have q306 : x16_1 < (l1.length : Int) := of_decide_eq_true (by first | (with_reducible assumption) | assumption)
                    obtain ⟨ad306, A306_5, c306_5, e306, hx306_0, hx306_1, hx306_2, hx306_3, hx306_4, hx306_5, hl306_5, hi306_5⟩ := at_T43 (Kd.V_reads' HO_1.out).2.2 x16_1 p306 q306
                    obtain rfl : ad305 = ad306 := (by injection e306)
                    obtain ⟨ce306, hce306, hMe306, hcc306⟩ := Kd.V_get HO_1.out z43 x16_1 p306 (by first | exact q306 | exact of_decide_eq_true (by first | (with_reducible assumption) | assumption) | (have e_ := (Kd.V_reads' HO_1.out).1; omega))
                    obtain ⟨ua306_5, uc306_5, rfl, ul306_5, ge306_5⟩ := k43_openF hMe306
                    have hv306_5 := hcc306 5 _ rfl
                    rw [add_field _ _ 5 (by omega)] at hv306_5
                    replace hv306_5 := Option.some.inj (hv306_5.symm.trans hx306_5)
                    injection hv306_5 with hva_ hvn_ hvc_
                    rw [hva_] at ge306_5
                    rw [hvc_] at ul306_5
                    have HL306_5 := Aside0.mk (show Kd.V k52 52 _ w.heap.size _ _ ((rd_T43 l1 x16_1).f5.f0) from Kd.V_mk ul306_5 ge306_5)
                    clear hva_ hvn_ hvc_ ge306_5 ul306_5
                    clear hcc306 hce306
                    have HR306_5 := Aside0.mk hi306_5
                    have HC306_5 := Aside0.mk hl306_5
                    clear hi306_5 hl306_5
                    replace p306 := eq_true p306
                    replace q306 := eq_true q306
                    have ea_ := Option.some.inj (hx305_5.symm.trans hx306_5)
                    injection ea_ with ea_ en_ ec_
                    subst ea_
                    subst ec_
                    clear en_
                    go_wp2
                    go_roundg k1
                    case measure => have := HK1.out; omega
                    case rel => exact ⟨(x15_1), (wrap64 (x16_1 + 1)), (by first | rfl | (simp; done) | (simp [*]; done)), (by first | rfl | (simp; done) | (simp [*]; done)), H', ⟨by have := HK1.out; omega⟩, ⟨by (with_reducible repeat (first | apply Kd.V_alloc | apply Kd.V_drewN | apply Kd.V_drew)); exact HO_1.out⟩, ⟨by (with_reducible repeat (first | apply Kd.R_alloc | apply Kd.R_drewN | apply Kd.R_drew)); exact HO_9.out⟩, ⟨by (with_reducible repeat (first | apply Kd.R_alloc | apply Kd.R_drewN | apply Kd.R_drew)); exact HO_13.out⟩, ⟨by (with_reducible repeat (first | refine blk_drewN ?_ _ | refine blk_drew ?_ | refine blk_alloc ?_ _)); exact BK291.out⟩, ⟨by (with_reducible repeat (first | refine blk_drewN ?_ _ | refine blk_drew ?_ | refine blk_alloc ?_ _)); exact BK303.out⟩, ⟨by repeat (first | (with_reducible first | exact HB.out | apply below_alloc | apply pw_below_drewN | apply below_drew1 | refine below_set ?_ GE291.out | refine below_set ?_ GE303.out) | exact HB.out)⟩⟩
              · rw [if_neg c23] at H
                exact absurd H (by simp)
            · rw [if_neg c22] at H
              have c22b0 : decide (x16_1 < (l1.length : Int)) = false := decide_eq_false c22
              clear c22
              have H' := Aside0.mk H
              clear H
              go_wp2
              go_loopg [15, 17] k1 (fun kq v15 v17 w' => ∃ (x15_2 : Int) (x17_2 : Int), v15 = .int .i64 x15_2 ∧ v17 = .int .i64 x17_2 ∧ Aside0 (changeforgelaw7_ThreadsCommentsAddUp.l1 kq a3 t283 t298 x15_2 x17_2 t289 t290 t301 t302 = some r) ∧ Aside0 (kq ≤ k1) ∧ Aside0 (Kd.R k34 34 w' w.heap.size (fun k_ => (w.heap.size ≤ k_)) v284 t283) ∧ Aside0 (Kd.R (Kd.int .i64) 3 w' w.heap.size (fun k_ => (w.heap.size ≤ k_)) v299 t298) ∧ Aside0 (w'.heap[gb291]? = some (.cells #[.int .i64 t289, .int .i64 t290] 26 (0, 0))) ∧ Aside0 (w'.heap[gb303]? = some (.cells #[.int .i64 t301, .int .i64 t302] 26 (0, 0))) ∧ Aside0 (Below w.heap.size w w'))
              case atStart => exact ⟨(x15_1), (0), (by first | rfl | (simp; done) | (simp [*]; done)), (by first | rfl | (simp; done) | (simp [*]; done)), H', ⟨Nat.le_refl _⟩, ⟨by (with_reducible repeat (first | apply Kd.R_alloc | apply Kd.R_drewN | apply Kd.R_drew)); exact HO_9.out⟩, ⟨by (with_reducible repeat (first | apply Kd.R_alloc | apply Kd.R_drewN | apply Kd.R_drew)); exact HO_13.out⟩, ⟨by (with_reducible repeat (first | refine blk_drewN ?_ _ | refine blk_drew ?_ | refine blk_alloc ?_ _)); exact BK291.out⟩, ⟨by (with_reducible repeat (first | refine blk_drewN ?_ _ | refine blk_drew ?_ | refine blk_alloc ?_ _)); exact BK303.out⟩, ⟨by repeat (first | (with_reducible first | exact HB.out | apply below_alloc | apply pw_below_drewN | apply below_drew1 | refine below_set ?_ GE291.out | refine below_set ?_ GE303.out) | exact HB.out)⟩⟩
              case round =>
                clear H'
                try clear c1
                try clear c2
                try clear p2
                try clear c3
                try clear p3
                try clear q3
                try clear hx3
                try clear c5
                try clear c6
                try clear p6
                try clear c7
                try clear c8
                try clear c9
                try clear c10
                try clear c11
                try clear c19
                try clear c22
                try clear c22b0
                try clear c23
                try clear c23b0
                try clear c24
                try clear c24b0
                try clear c24b1
                try clear c25
                try clear c25b0
                try clear c25b1
                try clear hcz13_0
                try clear hcz13_1
                try clear hcz20_0
                try clear hcz20_1
                try clear hfz13_0
                try clear hfz13_1
                try clear hfz20_0
                try clear hfz20_1
                try clear hx305_0
                try clear hx305_1
                try clear hx305_2
                try clear hx305_3
                try clear hx305_4
                try clear hx305_5
                try clear hx306_0
                try clear hx306_1
                try clear hx306_2
                try clear hx306_3
                try clear hx306_4
                try clear hx306_5
                try clear p2
                try clear p305
                try clear p306
                try clear q305
                try clear q306
                obtain ⟨x15_2, x17_2, rfl, rfl, HA, HK2, HO_9, HO_13, BK291, BK303, HB⟩ := hrel
                cases gk with
                | zero => exact absurd HA.out (by simp [changeforgelaw7_ThreadsCommentsAddUp.l1])
                | succ k2 =>
                  have H := HA.out
                  clear HA
                  simp only [changeforgelaw7_ThreadsCommentsAddUp.l1] at H
                  by_cases c26 : x17_2 < (t283.length : Int)
                  · rw [if_pos c26] at H
                    have c26b0 : decide (x17_2 < (t283.length : Int)) = true := decide_eq_true c26
                    clear c26
                    by_cases c27 : 0 ≤ x17_2
                    · rw [if_pos c27] at H
                      have c27b0 : decide (0 ≤ x17_2) = true := decide_eq_true c27
                      clear c27
                      have H' := Aside0.mk H
                      clear H
                      obtain ⟨Ao28, co28, eo28⟩ := Kd.R_slice HO_9.out
                      subst eo28
                      have p307 : 0 ≤ (x17_2 : Int) := of_decide_eq_true (by first | (with_reducible assumption) | assumption)
                      have q307 : x17_2 < (t283.length : Int) := of_decide_eq_true (by first | (with_reducible assumption) | assumption)
                      obtain ⟨ad307, e307, hx307_0, hx307_1, hx307_2, hx307_3, hx307_4⟩ := at_T34 (Kd.R_reads' HO_9.out).2.2 x17_2 p307 q307
                      cases e307
                      replace p307 := eq_true p307
                      replace q307 := eq_true q307
                      go_wp2
                      go_roundg k2
                      case measure => have := HK1.out; have := HK2.out; omega
                      case rel => exact ⟨(wrap64 (x15_2 - ((rd_T34 t283 x17_2).f2))), (wrap64 (x17_2 + 1)), (by first | rfl | (simp; done) | (simp [*]; done)), (by first | rfl | (simp; done) | (simp [*]; done)), H', ⟨by have := HK1.out; have := HK2.out; omega⟩, ⟨by (with_reducible repeat (first | apply Kd.R_alloc | apply Kd.R_drewN | apply Kd.R_drew)); exact HO_9.out⟩, ⟨by (with_reducible repeat (first | apply Kd.R_alloc | apply Kd.R_drewN | apply Kd.R_drew)); exact HO_13.out⟩, ⟨by (with_reducible repeat (first | refine blk_drewN ?_ _ | refine blk_drew ?_ | refine blk_alloc ?_ _)); exact BK291.out⟩, ⟨by (with_reducible repeat (first | refine blk_drewN ?_ _ | refine blk_drew ?_ | refine blk_alloc ?_ _)); exact BK303.out⟩, ⟨by repeat (first | (with_reducible first | exact HB.out | apply below_alloc | apply pw_below_drewN | apply below_drew1 | refine below_set ?_ GE291.out | refine below_set ?_ GE303.out) | exact HB.out)⟩⟩
                    · rw [if_neg c27] at H
                      exact absurd H (by simp)
                  · rw [if_neg c26] at H
                    have c26b0 : decide (x17_2 < (t283.length : Int)) = false := decide_eq_false c26
                    clear c26
                    have H' := Aside0.mk H
                    clear H
                    obtain ⟨Ao29, co29, eo29⟩ := Kd.R_slice HO_9.out
                    subst eo29
                    go_wp2
                    go_loopg [18, 19] k2 (fun kq v18 v19 w' => ∃ (x18_3 : Bool) (x19_3 : Int), v18 = .bool x18_3 ∧ v19 = .int .i64 x19_3 ∧ Aside0 (changeforgelaw7_ThreadsCommentsAddUp.l2 kq a3 t298 x15_2 x18_3 x19_3 t289 t290 t301 t302 = some r) ∧ Aside0 (kq ≤ k2) ∧ Aside0 (Kd.R (Kd.int .i64) 3 w' w.heap.size (fun k_ => (w.heap.size ≤ k_)) v299 t298) ∧ Aside0 (w'.heap[gb291]? = some (.cells #[.int .i64 t289, .int .i64 t290] 26 (0, 0))) ∧ Aside0 (w'.heap[gb303]? = some (.cells #[.int .i64 t301, .int .i64 t302] 26 (0, 0))) ∧ Aside0 (Below w.heap.size w w'))
                    case atStart => exact ⟨(false), (0), (by first | rfl | (simp; done) | (simp [*]; done)), (by first | rfl | (simp; done) | (simp [*]; done)), H', ⟨Nat.le_refl _⟩, ⟨by (with_reducible repeat (first | apply Kd.R_alloc | apply Kd.R_drewN | apply Kd.R_drew)); exact HO_13.out⟩, ⟨by (with_reducible repeat (first | refine blk_drewN ?_ _ | refine blk_drew ?_ | refine blk_alloc ?_ _)); exact BK291.out⟩, ⟨by (with_reducible repeat (first | refine blk_drewN ?_ _ | refine blk_drew ?_ | refine blk_alloc ?_ _)); exact BK303.out⟩, ⟨by repeat (first | (with_reducible first | exact HB.out | apply below_alloc | apply pw_below_drewN | apply below_drew1 | refine below_set ?_ GE291.out | refine below_set ?_ GE303.out) | exact HB.out)⟩⟩
                    case round =>
                      clear H'
                      try clear c1
                      try clear c2
                      try clear p2
                      try clear c3
                      try clear p3
                      try clear q3
                      try clear hx3
                      try clear c5
                      try clear c6
                      try clear p6
                      try clear c7
                      try clear c8
                      try clear c9
                      try clear c10
                      try clear c11
                      try clear c19
                      try clear c22
                      try clear c22b0
                      try clear c23
                      try clear c23b0
                      try clear c24
                      try clear c24b0
                      try clear c24b1
                      try clear c25
                      try clear c25b0
                      try clear c25b1
                      try clear c26
                      try clear c26b0
                      try clear c27
                      try clear c27b0
                      try clear hcz13_0
                      try clear hcz13_1
                      try clear hcz20_0
                      try clear hcz20_1
                      try clear hfz13_0
                      try clear hfz13_1
                      try clear hfz20_0
                      try clear hfz20_1
                      try clear hx305_0
                      try clear hx305_1
                      try clear hx305_2
                      try clear hx305_3
                      try clear hx305_4
                      try clear hx305_5
                      try clear hx306_0
                      try clear hx306_1
                      try clear hx306_2
                      try clear hx306_3
                      try clear hx306_4
                      try clear hx306_5
                      try clear hx307_0
                      try clear hx307_1
                      try clear hx307_2
                      try clear hx307_3
                      try clear hx307_4
                      try clear p2
                      try clear p3
                      try clear p305
                      try clear p306
                      try clear p307
                      try clear p6
                      try clear q3
                      try clear q305
                      try clear q306
                      try clear q307
                      obtain ⟨x18_3, x19_3, rfl, rfl, HA, HK3, HO_13, BK291, BK303, HB⟩ := hrel
                      cases gk with
                      | zero => exact absurd HA.out (by simp [changeforgelaw7_ThreadsCommentsAddUp.l2])
                      | succ k3 =>
                        have H := HA.out
                        clear HA
                        simp only [changeforgelaw7_ThreadsCommentsAddUp.l2] at H
                        by_cases c30 : x19_3 < (t298.length : Int)
                        · rw [if_pos c30] at H
                          have c30b0 : decide (x19_3 < (t298.length : Int)) = true := decide_eq_true c30
                          clear c30
                          by_cases c31 : x18_3 = true
                          · subst c31
                            have H1 : (changeforgelaw7_ThreadsCommentsAddUp.l2 k3 a3 t298 x15_2 true (wrap64 (x19_3 + 1)) t289 t290 t301 t302) = some r := by rw [if_pos rfl] at H; exact H
                            clear H
                            have H := H1
                            clear H1
                            have H' := Aside0.mk H
                            clear H
                            obtain ⟨Ao32, co32, eo32⟩ := Kd.R_slice HO_13.out
                            subst eo32
                            go_wp2
                            go_roundg k3
                            case measure => have := HK1.out; have := HK2.out; have := HK3.out; omega
                            case rel => exact ⟨(true), (wrap64 (x19_3 + 1)), (by first | rfl | (simp; done) | (simp [*]; done)), (by first | rfl | (simp; done) | (simp [*]; done)), H', ⟨by have := HK1.out; have := HK2.out; have := HK3.out; omega⟩, ⟨by (with_reducible repeat (first | apply Kd.R_alloc | apply Kd.R_drewN | apply Kd.R_drew)); exact HO_13.out⟩, ⟨by (with_reducible repeat (first | refine blk_drewN ?_ _ | refine blk_drew ?_ | refine blk_alloc ?_ _)); exact BK291.out⟩, ⟨by (with_reducible repeat (first | refine blk_drewN ?_ _ | refine blk_drew ?_ | refine blk_alloc ?_ _)); exact BK303.out⟩, ⟨by repeat (first | (with_reducible first | exact HB.out | apply below_alloc | apply pw_below_drewN | apply below_drew1 | refine below_set ?_ GE291.out | refine below_set ?_ GE303.out) | exact HB.out)⟩⟩
                          · replace c31 := Bool.eq_false_iff.mpr c31
                            subst c31
                            have H1 : (if 0 ≤ x19_3 then (changeforgelaw7_ThreadsCommentsAddUp.l2 k3 a3 t298 x15_2 ((rd t298 x19_3) == a3) (wrap64 (x19_3 + 1)) t289 t290 t301 t302) else (none)) = some r := by rw [if_neg (show ¬ (false = true) by decide)] at H; exact H
                            clear H
                            have H := H1
                            clear H1
                            by_cases c33 : 0 ≤ x19_3
                            · rw [if_pos c33] at H
                              have c33b0 : decide (0 ≤ x19_3) = true := decide_eq_true c33
                              clear c33
                              have H' := Aside0.mk H
                              clear H
                              obtain ⟨Ao34, co34, eo34⟩ := Kd.R_slice HO_13.out
                              subst eo34
                              have p308 : 0 ≤ (x19_3 : Int) := of_decide_eq_true (by first | (with_reducible assumption) | assumption)
                              have q308 : x19_3 < (t298.length : Int) := of_decide_eq_true (by first | (with_reducible assumption) | assumption)
                              obtain ⟨ad308, e308, hx308_0⟩ := Kd.at_int (Kd.R_reads' HO_13.out).2.2 x19_3 p308 q308
                              cases e308
                              replace p308 := eq_true p308
                              replace q308 := eq_true q308
                              go_wp2
                              go_roundg k3
                              case measure => have := HK1.out; have := HK2.out; have := HK3.out; omega
                              case rel => exact ⟨(((rd t298 x19_3) == a3)), (wrap64 (x19_3 + 1)), (by first | rfl | (simp; done) | (simp [*]; done)), (by first | rfl | (simp; done) | (simp [*]; done)), H', ⟨by have := HK1.out; have := HK2.out; have := HK3.out; omega⟩, ⟨by (with_reducible repeat (first | apply Kd.R_alloc | apply Kd.R_drewN | apply Kd.R_drew)); exact HO_13.out⟩, ⟨by (with_reducible repeat (first | refine blk_drewN ?_ _ | refine blk_drew ?_ | refine blk_alloc ?_ _)); exact BK291.out⟩, ⟨by (with_reducible repeat (first | refine blk_drewN ?_ _ | refine blk_drew ?_ | refine blk_alloc ?_ _)); exact BK303.out⟩, ⟨by repeat (first | (with_reducible first | exact HB.out | apply below_alloc | apply pw_below_drewN | apply below_drew1 | refine below_set ?_ GE291.out | refine below_set ?_ GE303.out) | exact HB.out)⟩⟩
                            · rw [if_neg c33] at H
                              exact absurd H (by simp)
                        · rw [if_neg c30] at H
                          have c30b0 : decide (x19_3 < (t298.length : Int)) = false := decide_eq_false c30
                          clear c30
                          by_cases c35 : t289 = 0
                          · rw [if_pos c35] at H
                            have c35b0 : (t289 == 0) = true := beq_iff_eq.mpr c35
                            have c35b1 : (t289 != 0) = false := bne_eq_false_iff_eq.mpr c35
                            clear c35
                            by_cases c36 : x15_2 = 0
                            · rw [if_pos c36] at H
                              have c36b0 : (x15_2 == 0) = true := beq_iff_eq.mpr c36
                              have c36b1 : (x15_2 != 0) = false := bne_eq_false_iff_eq.mpr c36
                              clear c36
                              by_cases c37 : t301 = 0
                              · rw [if_pos c37] at H
                                have c37b0 : (t301 == 0) = true := beq_iff_eq.mpr c37
                                have c37b1 : (t301 != 0) = false := bne_eq_false_iff_eq.mpr c37
                                clear c37
                                obtain rfl := Option.some.inj H
                                obtain ⟨Ao38, co38, eo38⟩ := Kd.R_slice HO_13.out
                                subst eo38
                                have hnb39 := NB291_303.out
                                have hnc39 := NB303_291.out
                                have hcz40_0 : wr.cell? ⟨gb291, 0, none⟩ = some (.int .i64 t289) := (blk_cell BK291.out 0).trans rfl
                                have hcz40_1 : wr.cell? ⟨gb291, 1, none⟩ = some (.int .i64 t290) := (blk_cell BK291.out 1).trans rfl
                                have hfz40_0 := blk_frozen BK291.out 0
                                have hfz40_1 := blk_frozen BK291.out 1
                                have hcz41_0 : wr.cell? ⟨gb303, 0, none⟩ = some (.int .i64 t301) := (blk_cell BK303.out 0).trans rfl
                                have hcz41_1 : wr.cell? ⟨gb303, 1, none⟩ = some (.int .i64 t302) := (blk_cell BK303.out 1).trans rfl
                                have hfz41_0 := blk_frozen BK303.out 0
                                have hfz41_1 := blk_frozen BK303.out 1
                                go_wp2
                                go_ret
                                exact ⟨by first | rfl | (simp [errW_none, errW_some] <;> rfl) | (simp [*, errW_none, errW_some] <;> rfl), by repeat (first | (with_reducible first | exact HB.out | apply below_alloc | apply pw_below_drewN | apply below_drew1 | refine below_set ?_ GE291.out | refine below_set ?_ GE303.out) | exact HB.out)⟩
                              · rw [if_neg c37] at H
                                have c37b0 : (t301 == 0) = false := beq_eq_false_iff_ne.mpr c37
                                have c37b1 : (t301 != 0) = true := bne_iff_ne.mpr c37
                                obtain rfl := Option.some.inj H
                                obtain ⟨Ao42, co42, eo42⟩ := Kd.R_slice HO_13.out
                                subst eo42
                                have hnb43 := NB291_303.out
                                have hnc43 := NB303_291.out
                                have hcz44_0 : wr.cell? ⟨gb291, 0, none⟩ = some (.int .i64 t289) := (blk_cell BK291.out 0).trans rfl
                                have hcz44_1 : wr.cell? ⟨gb291, 1, none⟩ = some (.int .i64 t290) := (blk_cell BK291.out 1).trans rfl
                                have hfz44_0 := blk_frozen BK291.out 0
                                have hfz44_1 := blk_frozen BK291.out 1
                                have hcz45_0 : wr.cell? ⟨gb303, 0, none⟩ = some (.int .i64 t301) := (blk_cell BK303.out 0).trans rfl
                                have hcz45_1 : wr.cell? ⟨gb303, 1, none⟩ = some (.int .i64 t302) := (blk_cell BK303.out 1).trans rfl
                                have hfz45_0 := blk_frozen BK303.out 0
                                have hfz45_1 := blk_frozen BK303.out 1
                                go_wp2
                                go_ret
                                exact ⟨by first | rfl | (simp [errW_none, errW_some] <;> rfl) | (simp [*, errW_none, errW_some] <;> rfl), by repeat (first | (with_reducible first | exact HB.out | apply below_alloc | apply pw_below_drewN | apply below_drew1 | refine below_set ?_ GE291.out | refine below_set ?_ GE303.out) | exact HB.out)⟩
                            · rw [if_neg c36] at H
                              have c36b0 : (x15_2 == 0) = false := beq_eq_false_iff_ne.mpr c36
                              have c36b1 : (x15_2 != 0) = true := bne_iff_ne.mpr c36
                              exact absurd H (by simp)
                          · rw [if_neg c35] at H
                            have c35b0 : (t289 == 0) = false := beq_eq_false_iff_ne.mpr c35
                            have c35b1 : (t289 != 0) = true := bne_iff_ne.mpr c35
                            obtain rfl := Option.some.inj H
                            obtain ⟨Ao49, co49, eo49⟩ := Kd.R_slice HO_13.out
                            subst eo49
                            have hnb50 := NB291_303.out
                            have hnc50 := NB303_291.out
                            have hcz51_0 : wr.cell? ⟨gb291, 0, none⟩ = some (.int .i64 t289) := (blk_cell BK291.out 0).trans rfl
                            have hcz51_1 : wr.cell? ⟨gb291, 1, none⟩ = some (.int .i64 t290) := (blk_cell BK291.out 1).trans rfl
                            have hfz51_0 := blk_frozen BK291.out 0
                            have hfz51_1 := blk_frozen BK291.out 1
                            go_wp2
                            go_ret
                            exact ⟨by first | rfl | (simp [errW_none, errW_some] <;> rfl) | (simp [*, errW_none, errW_some] <;> rfl), by repeat (first | (with_reducible first | exact HB.out | apply below_alloc | apply pw_below_drewN | apply below_drew1 | refine below_set ?_ GE291.out | refine below_set ?_ GE303.out) | exact HB.out)⟩
      · replace c10 := Bool.eq_false_iff.mpr c10
        subst c10
        have H1 : (none) = some r := by rw [if_neg (show ¬ (false = true) by decide)] at H; exact H
        clear H
        have H := H1
        clear H1
        exact absurd H (by simp)
    · rw [if_neg c7] at H
      exact absurd H (by simp)
  · rw [if_neg c6] at H
    exact absurd H (by simp)

end Go.Proofs.Ytjpdcnaealdbjaa.PTh
