-- a text of this work, without what this claim doesn't use (wip/shake.py)
import Derived.Test.YtccppdmangbdoaaPVPentry
import Derived.Test.YtccppdmangbdoaaPVPvergerref5
import Derived.Test.YtccppdmangbdoaaPVPentry1
import Derived.Test.YtccppdmangbdoaaPVPslices1
import Derived.Test.YtccppdmangbdoaaPVPslicesZ
section
namespace Go.Proofs.Ytccppdmangbdoaa.V
open Go.RowKit Go.Proofs.YtccppdmangbdoaaW.PrintWords Go.Proofs.YtccppdmangbdoaaW.PrintLast Go.Proofs.YtccppdmangbdoaaW.PrintMore
attribute [local go_sem] max2_int min2_int max_two min_two max_three min_three max_four min_four
set_option linter.unusedVariables false
set_option linter.unusedSimpArgs false
def vergerref5_Merge.f (k : Nat) (l0 : List (S31)) (l1 : List (S31)) : Option ((List (S31))) := (some (([] : List (S31)) : List (S31))).bind fun y101 => (if y101.length + l0.length < 8796093022208 then ((some (y101 ++ l0 : List (S31))).bind fun y104 => (if y104.length + l1.length < 8796093022208 then ((vergerref5_Sort.f k (y104 ++ l1)).bind fun t110 => (some t110)) else (none))) else (none))
set_option maxHeartbeats 8000000 in
set_option maxRecDepth 100000 in
theorem vergerref5_Merge.calls (k : Nat) (A0 : Option Addr) (c0 : Nat) (l0 : List (S31)) (A1 : Option Addr) (c1 : Nat) (l1 : List (S31)) (r : List (S31)) (w : World) (hr0 : Kd.C k31 w A0 l0.length l0) (hc0 : l0.length ≤ c0) (hr1 : Kd.C k31 w A1 l1.length l1) (hc1 : l1.length ≤ c1) (h : vergerref5_Merge.f k l0 l1 = some r) :
 Calls Try.prog 47 #[.slice A0 l0.length c0, .slice A1 l1.length c1] w fun e w' => ∃ v0_ : Value, e = .returned (v0_) ∧ Kd.R k31 31 w' w.heap.size (fun _ => True) v0_ r ∧ Below w.heap.size w w' := by
 have HR0 := Aside0.mk hr0; have HC0 := Aside0.mk hc0; clear hr0 hc0; have HR1 := Aside0.mk hr1; have HC1 := Aside0.mk hc1; clear hr1 hc1; have HB := Aside0.mk (Below.refl w.heap.size w); have H : ((some (([] : List (S31)) : List (S31))).bind fun y101 => (if y101.length + l0.length < 8796093022208 then ((some (y101 ++ l0 : List (S31))).bind fun y104 => (if y104.length + l1.length < 8796093022208 then ((vergerref5_Sort.f k (y104 ++ l1)).bind fun t110 => (some t110)) else (none))) else (none))) = some r := h; clear h; obtain ⟨y101, hy101⟩ : ∃ y_ : List (S31), y_ = (([] : List (S31))) := ⟨_, rfl⟩; (replace H : (if y101.length + l0.length < 8796093022208 then ((some (y101 ++ l0 : List (S31))).bind fun y104 => (if y104.length + l1.length < 8796093022208 then ((vergerref5_Sort.f k (y104 ++ l1)).bind fun t110 => (some t110)) else (none))) else (none)) = some r := by first | (rw [hy101]; with_reducible exact H) | (have H2_ := (uv _ _).symm.trans H; rw [hy101]; with_reducible exact H2_) | (have H2_ := (uv _ _).symm.trans H; with_reducible exact H2_) | with_reducible exact H | (rw [hy101]; exact H) | exact H); have Ny101 := Aside0.mk hy101; clear hy101
 by_cases c3 : y101.length + l0.length < 8796093022208
 · rw [if_pos c3] at H; have LMc3 := Aside0.mk c3; clear c3; obtain ⟨y104, hy104⟩ : ∃ y_ : List (S31), y_ = (y101 ++ l0) := ⟨_, rfl⟩; (replace H : (if y104.length + l1.length < 8796093022208 then ((vergerref5_Sort.f k (y104 ++ l1)).bind fun t110 => (some t110)) else (none)) = some r := by first | (rw [hy104]; with_reducible exact H) | (have H2_ := (uv _ _).symm.trans H; rw [hy104]; with_reducible exact H2_) | (have H2_ := (uv _ _).symm.trans H; with_reducible exact H2_) | with_reducible exact H | (rw [hy104]; exact H) | exact H); have Ny104 := Aside0.mk hy104; clear hy104
   by_cases c4 : y104.length + l1.length < 8796093022208
   · rw [if_pos c4] at H; have LMc4 := Aside0.mk c4; clear c4; obtain ⟨y107, hy107⟩ : ∃ y_ : List (S31), y_ = (y104 ++ l1) := ⟨_, rfl⟩; (replace H : ((vergerref5_Sort.f k y107).bind fun t110 => (some t110)) = some r := by first | (rw [hy107]; with_reducible exact H) | (have H2_ := (uv _ _).symm.trans H; rw [hy107]; with_reducible exact H2_) | (have H2_ := (uv _ _).symm.trans H; with_reducible exact H2_) | with_reducible exact H | (rw [hy107]; exact H) | exact H); have Ny107 := Aside0.mk hy107; clear hy107; replace H := Option.bind_eq_some_iff.mp H; obtain ⟨t110, A50, H⟩ := H; replace H : (some t110) = some r := H; have A5 := Aside0.mk A50; clear A50; obtain rfl := Option.some.inj H; go_enter Try.func47, Try.ntmps47
     go_wp2_with (first | ((with_reducible refine xm (N := 5) rfl ?_); refine Kd.R_lit k31 _ 31 ?hg (N := 5) ?hd (xs := ([] : List (S31))) (inner := []) (ok := fun _ => True) (okp := fun _ => True) ?hr ?hp (fun _ hk => hk) trivial (Below.refl _ _) (vu _) (by simp) ?_; (case hd => rfl); (case hg => rfl); (case hr => first | (go_simp; done) | (go_simp; rfl)); (case hp => exact (Reps.none _ _)); intro v102 w6 ho7 hb hg_ hnew_; clear hg_ hnew_; (first | rw [← Ny101.out] at ho7 | (simp only [Int.reduceToNat] at ho7; rw [← Ny101.out] at ho7)); have n0_ := Aside0.mk (xr ho7 (ur (by repeat (first | (with_reducible first | exact HB.out | apply uf | apply ud | apply ue) | exact HB.out)))); have n1_ := Aside0.mk (uz (by repeat (first | (with_reducible first | exact HB.out | apply uf | apply ud | apply ue) | exact HB.out)) hb); clear HB; have HO103 := n0_; have HB := n1_; clear n0_ n1_; clear hb ho7) | ((with_reducible refine gate_builtin (b := .append) (xs := #[.tmp 5, .tmp 6]) rfl ?_); at_builtin; refine Kd.R_append_rows k31 (w0 := w) w.heap.size rfl (.tmp 5) (.tmp 6) 22 31 (.agg #[(.int .u64 0), (.int .i64 0)]) 16 rfl Try.underlying22 info31 rfl (by decide) (by omega) v102 y101 l0 _ _ _ (fun _ => True) (fun _ => False) rfl rfl ?aO ?aR (fun _ _ h => h) (fun _ h => h.elim) ?aF ?aB ?aS ?aL ?_; (case aR => repeat (first | exact (Kd.C_below HR0.out HB.out) | (with_reducible refine vy ?_ _) | (with_reducible refine vx ?_ _) | (with_reducible refine xh ?_))); (case aB => exact (by repeat (first | (with_reducible first | exact HB.out | apply uf | apply ud | apply ue) | exact HB.out))); (case aF => exact (fun _ _ => trivial)); (case aO => exact (by (with_reducible repeat (first | apply uy | apply ux | apply vk)); exact HO103.out)); (case aS => exact (ur (by repeat (first | (with_reducible first | exact HB.out | apply uf | apply ud | apply ue) | exact HB.out)))); (case aL => have := LMc3.out; omega); intro v105 w8 ho hb hg hat; rw [← Ny104.out] at ho; have n0_ := Aside0.mk (hb); have n1_ := Aside0.mk (ho); clear HB; clear HO103; have HB := n0_; have HO106 := n1_; clear n0_ n1_; clear ho hb hg hat) | ((with_reducible refine gate_builtin (b := .append) (xs := #[.tmp 7, .tmp 8]) rfl ?_); at_builtin; refine Kd.R_append_rows k31 (w0 := w) w.heap.size rfl (.tmp 7) (.tmp 8) 22 31 (.agg #[(.int .u64 0), (.int .i64 0)]) 16 rfl Try.underlying22 info31 rfl (by decide) (by omega) v105 y104 l1 _ _ _ (fun _ => True) (fun _ => False) rfl rfl ?aO ?aR (fun _ _ h => h) (fun _ h => h.elim) ?aF ?aB ?aS ?aL ?_; (case aR => repeat (first | exact (Kd.C_below HR1.out HB.out) | (with_reducible refine vy ?_ _) | (with_reducible refine vx ?_ _) | (with_reducible refine xh ?_))); (case aB => exact (by repeat (first | (with_reducible first | exact HB.out | apply uf | apply ud | apply ue) | exact HB.out))); (case aF => exact (fun _ _ => trivial)); (case aO => exact (by (with_reducible repeat (first | apply uy | apply ux | apply vk)); exact HO106.out)); (case aS => exact (ur (by repeat (first | (with_reducible first | exact HB.out | apply uf | apply ud | apply ue) | exact HB.out)))); (case aL => have := LMc4.out; omega); intro v108 w9 ho hb hg hat; rw [← Ny107.out] at ho; have n0_ := Aside0.mk (hb); have n1_ := Aside0.mk (ho); clear HB; clear HO106; have HB := n0_; have HO109 := n1_; clear n0_ n1_; clear ho hb hg hat; obtain ⟨Ao10, co10, eo10⟩ := Kd.R_slice HO109.out; subst eo10) | ((with_reducible refine vl (f := 34) rfl ?_); refine xa (some 10) rfl rfl Try.func34 (by kernel_rfl) rfl #[.slice Ao10 y107.length co10] rfl (by (try simp only [uj, uo, uu]); first | done | rfl | (simp only [ui, uh]; rfl)) ?_; (with_reducible refine (vergerref5_Sort.calls k _ _ y107 t110 _ ?side1 ?side2 A5.out).mono ?_); (case side1 => repeat (first | exact (xj HO109.out).2.2 | (with_reducible refine vy ?_ _) | (with_reducible refine vx ?_ _) | (with_reducible refine xh ?_))); (case side2 => exact (xj HO109.out).2.1); rintro e w11 ⟨v111, rfl, ho0, hb⟩; refine ⟨_, rfl, ?_⟩; have n0_ := Aside0.mk (Kd.R_elder' (by (with_reducible repeat (first | apply uy | apply ux | apply vk)); exact HO109.out) (Kd.R_base ho0) hb); have n1_ := Aside0.mk (xr (Kd.R_new' ho0 (Kd.R_lt (by (with_reducible repeat (first | apply uy | apply ux | apply vk)); exact HO109.out))) (ur (by repeat (first | (with_reducible first | exact HB.out | apply uf | apply ud | apply ue) | exact HB.out)))); have n2_ := Aside0.mk (uz (by repeat (first | (with_reducible first | exact HB.out | apply uf | apply ud | apply ue) | exact HB.out)) hb); clear HO109; clear HB; have HO109 := n0_; have HO112 := n1_; have HB := n2_; clear n0_ n1_ n2_; (try clear hb); (try clear hb2); (try clear hk); (try clear hi); (try clear ho0)))
     go_ret
     exact ⟨_, by first | rfl | (simp [errW_none, errW_some] <;> rfl) | (simp [*, errW_none, errW_some] <;> rfl), by (with_reducible repeat (first | apply uy | apply ux | apply vk)); exact xe HO112.out (fun _ hk => trivial), by repeat (first | (with_reducible first | exact HB.out | apply uf | apply ud | apply ue) | exact HB.out)⟩
   · rw [if_neg c4] at H; exact absurd H (by simp)
 · rw [if_neg c3] at H; exact absurd H (by simp)
def vergerref5_All.l0 : Nat → List (S28) → List (S31) → Int → Option ((List (S31)))
  | 0, _, _, _ => none
  | k + 1, x0, x3, x4 => if x4 < (x0.length : Int) then (if 0 ≤ x4 then ((vergerref5_Merge.f k x3 ((rd_T28 x0 x4).f1)).bind fun t102 => (vergerref5_All.l0 k x0 t102 (wrap64 (x4 + 1)))) else (none)) else (some x3)
def vergerref5_All.f (k : Nat) (l0 : List (S28)) : Option ((List (S31))) := vergerref5_All.l0 k l0 ([] : List (S31)) 0
set_option maxHeartbeats 8000000 in
set_option maxRecDepth 100000 in
theorem vergerref5_All.calls (k : Nat) (A0 : Option Addr) (c0 : Nat) (l0 : List (S28)) (r : List (S31)) (w : World) (hr0 : Kd.C k28 w A0 l0.length l0) (hc0 : l0.length ≤ c0) (h : vergerref5_All.f k l0 = some r) :
 Calls Try.prog 39 #[.slice A0 l0.length c0] w fun e w' => ∃ v0_ : Value, e = .returned (v0_) ∧ Kd.R k31 31 w' w.heap.size (fun _ => True) v0_ r ∧ Below w.heap.size w w' := by
 have HR0 := Aside0.mk hr0; have HC0 := Aside0.mk hc0; clear hr0 hc0; have HB := Aside0.mk (Below.refl w.heap.size w); have H : (vergerref5_All.l0 k l0 ([] : List (S31)) 0) = some r := h; clear h; have H' := Aside0.mk H; clear H; go_enter Try.func39, Try.ntmps39
 go_wp2
 go_loopg [3, 4] k (fun kq v3 v4 w' => ∃ (x3_1 : List (S31)) (x4_1 : Int), v4 = .int .i64 x4_1 ∧ Aside0 (vergerref5_All.l0 kq l0 x3_1 x4_1 = some r) ∧ Aside0 (kq ≤ k) ∧ Aside0 (Kd.R k31 31 w' w.heap.size (fun _ => True) v3 x3_1) ∧ Aside0 (Below w.heap.size w w'))
 case atStart => exact ⟨(([] : List (S31))), (0), (by first | rfl | (simp; done) | (simp [*]; done)), H', ⟨vu _⟩, ⟨by first | exact Kd.R_nil _ _ _ _ _ | exact Kd.N_nil _ _ _ _ _ | exact Kd.V_nil _ _ _ _ _ | exact Kd.Q_nil _ _ _ _ _ | exact Kd.S_nil _ _ _ _ _⟩, ⟨by repeat (first | (with_reducible first | exact HB.out | apply uf | apply ud | apply ue) | exact HB.out)⟩⟩
 case round =>
  clear H'; obtain ⟨x3_1, x4_1, rfl, HA, HK1, HO_3, HB⟩ := hrel
  cases gk with
  | zero => exact absurd HA.out (by simp [vergerref5_All.l0])
  | succ k1 =>
   have H := HA.out; clear HA; simp only [vergerref5_All.l0] at H
   by_cases c2 : x4_1 < (l0.length : Int)
   · rw [if_pos c2] at H; have c2b0 : decide (x4_1 < (l0.length : Int)) = true := decide_eq_true c2; clear c2
     by_cases c3 : 0 ≤ x4_1
     · rw [if_pos c3] at H; have c3b0 : decide (0 ≤ x4_1) = true := decide_eq_true c3; clear c3; replace H := Option.bind_eq_some_iff.mp H; obtain ⟨t102, A40, H⟩ := H; replace H : (vergerref5_All.l0 k1 l0 t102 (wrap64 (x4_1 + 1))) = some r := H; have A4 := Aside0.mk A40; clear A40; have H' := Aside0.mk H; clear H; have p101 : 0 ≤ (x4_1 : Int) := ug (by first | (with_reducible assumption) | assumption); have q101 : x4_1 < (l0.length : Int) := ug (by first | (with_reducible assumption) | assumption); obtain ⟨ad101, A101_1, c101_1, e101, hx101_0, hx101_1, hl101_1, hi101_1⟩ := at_T28 HR0.out x4_1 p101 q101
       cases e101
       replace hx101_0 := (HB.out.cell (World.block_lt_of_cell? w _ hx101_0)).trans hx101_0; replace hx101_1 := (HB.out.cell (World.block_lt_of_cell? w _ hx101_1)).trans hx101_1; have HR101_1 := Aside0.mk hi101_1; have HC101_1 := Aside0.mk hl101_1; clear hi101_1 hl101_1; replace p101 := eq_true p101; replace q101 := eq_true q101; obtain ⟨Ao5, co5, eo5⟩ := Kd.R_slice HO_3.out; subst eo5
       go_wp2_with (first | ((with_reducible refine vl (f := 47) rfl ?_); refine xa (some 17) rfl rfl Try.func47 (by kernel_rfl) rfl #[.slice Ao5 x3_1.length co5, .slice A101_1 ((rd_T28 l0 x4_1).f1).length c101_1] rfl (by (try simp only [uj, uo, uu]); first | done | rfl | (simp only [ui, uh]; rfl)) ?_; (with_reducible refine (vergerref5_Merge.calls k1 _ _ x3_1 _ _ ((rd_T28 l0 x4_1).f1) t102 _ ?side1 ?side2 ?side3 ?side4 A4.out).mono ?_); (case side1 => repeat (first | exact (xj HO_3.out).2.2 | (with_reducible refine vy ?_ _) | (with_reducible refine vx ?_ _) | (with_reducible refine xh ?_))); (case side2 => exact (xj HO_3.out).2.1); (case side3 => repeat (first | exact (Kd.C_below HR101_1.out HB.out) | (with_reducible refine vy ?_ _) | (with_reducible refine vx ?_ _) | (with_reducible refine xh ?_))); (case side4 => exact HC101_1.out); rintro e w6 ⟨v103, rfl, ho0, hb⟩; refine ⟨_, rfl, ?_⟩; have n0_ := Aside0.mk (Kd.R_elder' (by (with_reducible repeat (first | apply uy | apply ux | apply vk)); exact HO_3.out) (Kd.R_base ho0) hb); have n1_ := Aside0.mk (xr (Kd.R_new' ho0 (Kd.R_lt (by (with_reducible repeat (first | apply uy | apply ux | apply vk)); exact HO_3.out))) (ur (by repeat (first | (with_reducible first | exact HB.out | apply uf | apply ud | apply ue) | exact HB.out)))); have n2_ := Aside0.mk (uz (by repeat (first | (with_reducible first | exact HB.out | apply uf | apply ud | apply ue) | exact HB.out)) hb); clear HO_3; clear HB; have HO_3 := n0_; have HO104 := n1_; have HB := n2_; clear n0_ n1_ n2_; (try clear hb); (try clear hb2); (try clear hk); (try clear hi); (try clear ho0)))
       go_roundg k1
       case measure => have := HK1.out; omega
       case rel => exact ⟨(t102), (wrap64 (x4_1 + 1)), (by first | rfl | (simp; done) | (simp [*]; done)), H', ⟨by have := HK1.out; omega⟩, ⟨by (with_reducible repeat (first | apply uy | apply ux | apply vk)); exact xe HO104.out (fun _ hk => trivial)⟩, ⟨by repeat (first | (with_reducible first | exact HB.out | apply uf | apply ud | apply ue) | exact HB.out)⟩⟩
     · rw [if_neg c3] at H; exact absurd H (by simp)
   · rw [if_neg c2] at H; have c2b0 : decide (x4_1 < (l0.length : Int)) = false := decide_eq_false c2; clear c2; obtain rfl := Option.some.inj H
     go_wp2
     go_ret
     exact ⟨_, by first | rfl | (simp [errW_none, errW_some] <;> rfl) | (simp [*, errW_none, errW_some] <;> rfl), by (with_reducible repeat (first | apply uy | apply ux | apply vk)); exact HO_3.out, by repeat (first | (with_reducible first | exact HB.out | apply uf | apply ud | apply ue) | exact HB.out)⟩
def vergerref5_Pivot.f (k : Nat) (l0 : List (S28)) (a1 : Int) : Option ((List (S31))) := (vergerref5_All.f k l0).bind fun t101 => (if 0 ≤ (mn (mx a1 0) (t101.length : Int)) then (if (mn (mx a1 0) (t101.length : Int)) ≤ (t101.length : Int) then (some (t101.take ((mn (mx a1 0) (t101.length : Int)) : Int).toNat)) else (none)) else (none))
set_option maxHeartbeats 8000000 in
set_option maxRecDepth 100000 in
theorem vergerref5_Pivot.calls (k : Nat) (A0 : Option Addr) (c0 : Nat) (l0 : List (S28)) (a1 : Int) (r : List (S31)) (w : World) (hr0 : Kd.C k28 w A0 l0.length l0) (hc0 : l0.length ≤ c0) (h : vergerref5_Pivot.f k l0 a1 = some r) :
 Calls Try.prog 22 #[.slice A0 l0.length c0, .int .i64 a1] w fun e w' => ∃ v0_ : Value, e = .returned (v0_) ∧ Kd.R k31 31 w' w.heap.size (fun _ => True) v0_ r ∧ Below w.heap.size w w' := by
 have HR0 := Aside0.mk hr0; have HC0 := Aside0.mk hc0; clear hr0 hc0; have HB := Aside0.mk (Below.refl w.heap.size w); have H : ((vergerref5_All.f k l0).bind fun t101 => (if 0 ≤ (mn (mx a1 0) (t101.length : Int)) then (if (mn (mx a1 0) (t101.length : Int)) ≤ (t101.length : Int) then (some (t101.take ((mn (mx a1 0) (t101.length : Int)) : Int).toNat)) else (none)) else (none))) = some r := h; clear h; replace H := Option.bind_eq_some_iff.mp H; obtain ⟨t101, A30, H⟩ := H; replace H : (if 0 ≤ (mn (mx a1 0) (t101.length : Int)) then (if (mn (mx a1 0) (t101.length : Int)) ≤ (t101.length : Int) then (some (t101.take ((mn (mx a1 0) (t101.length : Int)) : Int).toNat)) else (none)) else (none)) = some r := H; have A3 := Aside0.mk A30; clear A30; obtain ⟨ji4, hji4⟩ : ∃ j_ : Int, (mx a1 0) = j_ := ⟨_, rfl⟩; (replace H : (if 0 ≤ (mn (ji4) (t101.length : Int)) then (if (mn (ji4) (t101.length : Int)) ≤ (t101.length : Int) then (some (t101.take ((mn (ji4) (t101.length : Int)) : Int).toNat)) else (none)) else (none)) = some r := by first | (rw [hji4] at H; exact H) | (simp only [hji4] at H ⊢; exact H)); (try rw [hji4] at A3); (try (have hji4l : 0 ≤ ji4 := by (rw [← hji4]; unfold mx; (repeat' split) <;> omega))); (try (have hji4m : 0 ≤ ji4 := by omega)); have hji4_ : (if a1 < 0 then 0 else a1) = ji4 := hji4; obtain ⟨ji5, hji5⟩ : ∃ j_ : Int, (mn (ji4) (t101.length : Int)) = j_ := ⟨_, rfl⟩; (replace H : (if 0 ≤ (ji5) then (if (ji5) ≤ (t101.length : Int) then (some (t101.take ((ji5) : Int).toNat)) else (none)) else (none)) = some r := by first | (rw [hji5] at H; exact H) | (simp only [hji5] at H ⊢; exact H)); (try rw [hji5] at A3); have hji5_ : (if (t101.length : Int) < (ji4) then (t101.length : Int) else (ji4)) = ji5 := hji5
 by_cases c6 : 0 ≤ (ji5)
 · rw [if_pos c6] at H; have c6b0 := eq_true c6; have c6b1 : decide (0 ≤ (ji5)) = true := decide_eq_true c6; clear c6
   by_cases c7 : (ji5) ≤ (t101.length : Int)
   · rw [if_pos c7] at H; have c7b0 := eq_true c7; have c7b1 : decide ((ji5) ≤ (t101.length : Int)) = true := decide_eq_true c7; clear c7; obtain ⟨y104, hy104⟩ : ∃ y_ : List (S31), y_ = (t101.take ((ji5) : Int).toNat) := ⟨_, rfl⟩; (replace H : (some y104) = some r := by first | (rw [hy104]; with_reducible exact H) | (have H2_ := (uv _ _).symm.trans H; rw [hy104]; with_reducible exact H2_) | (have H2_ := (uv _ _).symm.trans H; with_reducible exact H2_) | with_reducible exact H | (rw [hy104]; exact H) | exact H); have Ny104 := Aside0.mk hy104; clear hy104; obtain rfl := Option.some.inj H; go_enter Try.func22, Try.ntmps22
     go_wp2_with (first | ((with_reducible refine vl (f := 39) rfl ?_); refine xa (some 7) rfl rfl Try.func39 (by kernel_rfl) rfl #[.slice A0 l0.length c0] rfl (by (try simp only [uj, uo, uu]); first | done | rfl | (simp only [ui, uh]; rfl)) ?_; (with_reducible refine (vergerref5_All.calls k _ _ l0 t101 _ ?side1 ?side2 A3.out).mono ?_); (case side1 => repeat (first | exact HR0.out | (with_reducible refine vy ?_ _) | (with_reducible refine vx ?_ _) | (with_reducible refine xh ?_))); (case side2 => exact HC0.out); rintro e w8 ⟨v102, rfl, ho0, hb⟩; refine ⟨_, rfl, ?_⟩; have n0_ := Aside0.mk (xr ho0 (ur (by repeat (first | (with_reducible first | exact HB.out | apply uf | apply ud | apply ue) | exact HB.out)))); have n1_ := Aside0.mk (uz (by repeat (first | (with_reducible first | exact HB.out | apply uf | apply ud | apply ue) | exact HB.out)) hb); clear HB; have HO103 := n0_; have HB := n1_; clear n0_ n1_; (try clear hb); (try clear hb2); (try clear hk); (try clear hi); (try clear ho0); obtain ⟨Ao9, co9, eo9⟩ := Kd.R_slice HO103.out; subst eo9; have q10 : ((ji5) : Int) ≤ ((t101.length : Int) : Int) := ug (by first | (with_reducible assumption) | assumption); obtain ⟨i010, hi010, _, hsz10, _⟩ := info_parts info31; have hcut10 := cut_to (P := Try.prog) 22 31 .i64 Try.underlying22 hi010 Ao9 t101.length co9 (ji5) (ug (by first | (with_reducible assumption) | assumption)) q10 (xj HO103.out).2.1; have hr10 := Kd.R_take (m := ((ji5) : Int).toNat) HO103.out (by omega); have hy10 : y104.length = ((ji5) : Int).toNat := (by rw [Ny104.out, uh]; omega); rw [← Ny104.out] at hr10; rw [← hy10] at hr10 hcut10; clear hy10 hi010 hsz10 HO103; have HO106 := Aside0.mk hr10; clear hr10; replace q10 := eq_true q10))
     go_ret
     exact ⟨_, by first | rfl | (simp [errW_none, errW_some] <;> rfl) | (simp only [← hji4, ← hji5]; first | rfl | (simp [errW_none, errW_some] <;> rfl)) | (simp [*, errW_none, errW_some] <;> rfl), by (with_reducible repeat (first | apply uy | apply ux | apply vk)); exact HO106.out, by repeat (first | (with_reducible first | exact HB.out | apply uf | apply ud | apply ue) | exact HB.out)⟩
   · rw [if_neg c7] at H; exact absurd H (by simp)
 · rw [if_neg c6] at H; exact absurd H (by simp)
end Go.Proofs.Ytccppdmangbdoaa.V
end
section
set_option linter.unusedVariables false
set_option linter.unusedSimpArgs false
namespace Go.Proofs.Ytccppdmangbdoaa.V
open Go.RowKit Go.Proofs.YtccppdmangbdoaaW.PrintWords
abbrev E := S31
theorem E.ext' {a b : E} (h0 : a.f0 = b.f0) (h1 : a.f1 = b.f1) : a = b := by cases a; cases b; simp_all
def ltE (a b : E) : Bool := decide (a.f0 < b.f0) || (decide (a.f0 = b.f0) && decide (a.f1 < b.f1))
def leE (a b : E) : Bool := !ltE b a
theorem ltE_iff (a b : E) : ltE a b = true ↔ a.f0 < b.f0 ∨ (a.f0 = b.f0 ∧ a.f1 < b.f1) := by simp [ltE]
theorem ltE_false (a b : E) : ltE a b = false ↔ b.f0 < a.f0 ∨ (a.f0 = b.f0 ∧ b.f1 ≤ a.f1) := by
 rw [← Bool.not_eq_true, ltE_iff]; omega
theorem leE_iff (a b : E) : leE a b = true ↔ a.f0 < b.f0 ∨ (a.f0 = b.f0 ∧ a.f1 ≤ b.f1) := by
 unfold leE; rw [Bool.not_eq_true', ltE_false]; omega
theorem ltE_asymm {a b : E} (h : ltE a b = true) : ltE b a = false := by rw [ltE_iff] at h; rw [ltE_false]; omega
theorem leE_trans (a b c : E) (h : leE a b = true) (k : leE b c = true) : leE a c = true := by rw [leE_iff] at *; omega
theorem leE_total (a b : E) : (leE a b || leE b a) = true := by
 rw [Bool.or_eq_true, leE_iff, leE_iff]; omega
theorem leE_refl (a : E) : leE a a = true := by rw [leE_iff]; omega
theorem leE_antisymm {a b : E} (h : leE a b = true) (k : leE b a = true) : a = b := by
 rw [leE_iff] at h k; exact E.ext' (by omega) (by omega)
theorem leE_of_ltE {a b : E} (h : ltE a b = true) : leE a b = true := by simp [leE, ltE_asymm h]
theorem ltE_of_lt_le {a b c : E} (h : ltE a b = true) (k : leE b c = true) : ltE a c = true := by rw [ltE_iff] at *; rw [leE_iff] at k; omega
theorem ltE_of_le_lt {a b c : E} (h : leE a b = true) (k : ltE b c = true) : ltE a c = true := by rw [ltE_iff] at *; rw [leE_iff] at h; omega
def SortedE (l : List E) : Prop := l.Pairwise fun a b => leE a b = true
def sortE (l : List E) : List E := l.mergeSort leE
theorem sortE_perm (l : List E) : (sortE l).Perm l := List.mergeSort_perm l leE
theorem sortE_sorted (l : List E) : SortedE (sortE l) := List.pairwise_mergeSort leE_trans leE_total l
theorem sorted_eq {l m : List E} (hl : SortedE l) (hm : SortedE m) (h : l.Perm m) : l = m := h.eq_of_pairwise (fun a b _ _ h1 h2 => leE_antisymm h1 h2) hl hm
theorem sortE_eq {l m : List E} (hm : SortedE m) (h : m.Perm l) : sortE l = m := sorted_eq (sortE_sorted l) hm ((sortE_perm l).trans h.symm)
theorem sortE_of_perm {l m : List E} (h : l.Perm m) : sortE l = sortE m := sorted_eq (sortE_sorted l) (sortE_sorted m) ((sortE_perm l).trans (h.trans (sortE_perm m).symm))
theorem sortE_of_sorted {l : List E} (h : SortedE l) : sortE l = l := sortE_eq h (List.Perm.refl _)
theorem sortE_length (l : List E) : (sortE l).length = l.length := (sortE_perm l).length_eq
theorem sortE_nil : sortE [] = [] := by simp [sortE]
theorem sortE_mem {l : List E} {x : E} : x ∈ sortE l ↔ x ∈ l := (sortE_perm l).mem_iff
theorem sorted_nil : SortedE [] := List.Pairwise.nil
theorem sorted_append {l m : List E} : SortedE (l ++ m) ↔ SortedE l ∧ SortedE m ∧ ∀ a ∈ l, ∀ b ∈ m, leE a b = true := List.pairwise_append
theorem sorted_cons {a : E} {l : List E} : SortedE (a :: l) ↔ (∀ b ∈ l, leE a b = true) ∧ SortedE l := List.pairwise_cons
theorem sorted_take {l : List E} (h : SortedE l) (n : Nat) : SortedE (l.take n) := h.sublist (List.take_sublist n l)
theorem sorted_get {l : List E} (h : SortedE l) {i j : Nat} (hij : i < j) {a b : E} (ha : l[i]? = some a) (hb : l[j]? = some b) : leE a b = true := by
 obtain ⟨hi, rfl⟩ := List.getElem?_eq_some_iff.1 ha
 obtain ⟨hj, rfl⟩ := List.getElem?_eq_some_iff.1 hb
 exact List.pairwise_iff_getElem.1 h i j hi hj hij
def putE (l : List E) (e : E) : List E := (l.takeWhile fun x => leE x e) ++ e :: (l.dropWhile fun x => leE x e)
theorem putE_perm (l : List E) (e : E) : (putE l e).Perm (e :: l) := by
 unfold putE
 refine List.perm_middle.trans (List.Perm.cons _ ?_)
 rw [List.takeWhile_append_dropWhile]
theorem takeWhile_mem (l : List E) (p : E → Bool) : ∀ a ∈ l.takeWhile p, p a = true := by
 induction l with
 | nil => simp
 | cons b l ih =>
  intro a ha
  rw [List.takeWhile_cons] at ha
  split at ha
  · rename_i hb
    rcases List.mem_cons.1 ha with rfl | ha
    · exact hb
    · exact ih a ha
  · simp at ha
theorem dropWhile_gt {l : List E} (h : SortedE l) (e : E) : ∀ x ∈ l.dropWhile (fun x => leE x e), ltE e x = true := by
 induction l with
 | nil => simp
 | cons a l ih =>
  obtain ⟨h1, h2⟩ := sorted_cons.1 h
  rw [List.dropWhile_cons]
  split
  · exact ih h2
  · rename_i hn
    have hl : ltE e a = true := by simpa [leE] using hn
    intro x hx
    rcases List.mem_cons.1 hx with rfl | hx
    · exact hl
    · exact ltE_of_lt_le hl (h1 x hx)
theorem putE_sorted {l : List E} (h : SortedE l) (e : E) : SortedE (putE l e) := by
 unfold putE
 have hsub : SortedE (l.takeWhile fun x => leE x e) := h.sublist (List.takeWhile_sublist _)
 have hd : SortedE (l.dropWhile fun x => leE x e) := h.sublist (List.dropWhile_sublist _)
 have hle : ∀ a ∈ l.takeWhile (fun x => leE x e), leE a e = true := takeWhile_mem l _
 have hgt := dropWhile_gt h e
 refine sorted_append.2 ⟨hsub, sorted_cons.2 ⟨fun b hb => leE_of_ltE (hgt b hb), hd⟩, fun a ha b hb => ?_⟩
 rcases List.mem_cons.1 hb with rfl | hb
 · exact hle a ha
 · exact leE_trans _ _ _ (hle a ha) (leE_of_ltE (hgt b hb))
theorem putE_sort (l : List E) (e : E) : putE (sortE l) e = sortE (e :: l) := by
 refine sorted_eq (putE_sorted (sortE_sorted l) e) (sortE_sorted _) ((putE_perm _ _).trans ?_)
 exact (List.Perm.cons e (sortE_perm l)).trans (sortE_perm _).symm
end Go.Proofs.Ytccppdmangbdoaa.V
end
section
set_option linter.unusedVariables false
set_option linter.unusedSimpArgs false
namespace Go.Proofs.Ytccppdmangbdoaa.V
open Go.RowKit Go.Proofs.YtccppdmangbdoaaW.PrintWords Go.Proofs.YtccppdmangbdoaaW.PrintLast Go.Proofs.YtccppdmangbdoaaW.PrintMore
theorem wrap_id {i : Int} (h0 : -9223372036854775808 ≤ i) (h1 : i ≤ 9223372036854775807) : wrap64 i = i := by unfold wrap64; omega
theorem wrap_nat {n : Nat} (h : n ≤ 4611686018427387904) : wrap64 ((n : Int) + 1) = ((n + 1 : Nat) : Int) := by rw [wrap_id (by omega) (by omega)]; omega
theorem rd_nat (l : List E) (i : Nat) : rd_T31 l (i : Int) = l.getD i z31 := by unfold rd_T31; rw [Int.toNat_natCast]
theorem rd_get {l : List E} {i : Nat} (h : i < l.length) : rd_T31 l (i : Int) = l[i] := by rw [rd_nat]; simp [List.getD_eq_getElem?_getD, List.getElem?_eq_getElem h]
theorem succ_of {k n : Nat} (h : n < k) : ∃ m, k = m + 1 ∧ n ≤ m := ⟨k - 1, by omega, by omega⟩
def cmpE (a b : E) : Int := if ltE a b = true then -1 else if ltE b a = true then 1 else 0
theorem cmpE_neg (a b : E) : cmpE a b < 0 ↔ ltE a b = true := by
 unfold cmpE
 split
 · simp_all
 · split <;> simp_all
theorem compare_u (a b : Int) : cmp_Compare_uint64.f a b = some (if a < b then -1 else if a > b then 1 else 0) := by
 simp only [cmp_Compare_uint64.f, cmp_isNaN_uint64.f, Option.bind_some, bne_self_eq_false, Bool.false_eq_true, if_false]
 by_cases h1 : a < b
 · simp [h1]
 · by_cases h2 : a > b <;> simp [h1, h2]
theorem compare_i (a b : Int) : cmp_Compare_int.f a b = some (if a < b then -1 else if a > b then 1 else 0) := by
 simp only [cmp_Compare_int.f, cmp_isNaN_int.f, Option.bind_some, bne_self_eq_false, Bool.false_eq_true, if_false]
 by_cases h1 : a < b
 · simp [h1]
 · by_cases h2 : a > b <;> simp [h1, h2]
theorem or_two (k : Nat) (hk : 3 ≤ k) (x y : Int) : cmp_Or_int.f k [x, y] = some (if x = 0 then y else x) := by
 obtain ⟨k, rfl⟩ : ∃ m, k = m + 3 := ⟨k - 3, by omega⟩
 unfold cmp_Or_int.f
 have e1 : wrap64 (0 + 1) = 1 := wrap_id (by omega) (by omega)
 have e2 : wrap64 (1 + 1) = 2 := wrap_id (by omega) (by omega)
 have r0 : rd [x, y] 0 = x := rfl
 have r1 : rd [x, y] 1 = y := rfl
 simp only [cmp_Or_int.l0, List.length_cons, List.length_nil]
 rw [if_pos (by decide), if_pos (by decide), if_pos (by decide), r0]
 by_cases hx : x = 0
 · rw [if_pos hx, e1, if_pos (by decide), if_pos (by decide), if_pos (by decide), r1]
   by_cases hy : y = 0
   · rw [if_pos hy, e2, if_neg (by decide), if_pos hx, hy]
   · rw [if_neg hy, if_pos hx]
 · rw [if_neg hx, if_neg hx]
theorem compare_told (k : Nat) (hk : 3 ≤ k) (a b c d : Int) : entry_compare.f k a b c d = some (cmpE ⟨a, b⟩ ⟨c, d⟩) := by
 unfold entry_compare.f
 rw [compare_u, compare_i]
 simp only [Option.bind_some]
 rw [or_two k hk]
 simp only [Option.bind_some]
 congr 1
 unfold cmpE
 simp only [ltE, Bool.or_eq_true, Bool.and_eq_true, decide_eq_true_eq]
 by_cases h1 : a < c
 · simp [h1]
 · by_cases h2 : a > c
   · have h3 : ¬ a = c := by omega
     have h4 : c < a := h2
     simp [h1, h2, h3, h4]
   · have h3 : a = c := by omega
     subst h3
     by_cases h5 : b < d
     · simp [h5]
     · by_cases h6 : b > d
       · have h7 : d < b := h6
         simp [h5, h6, h7]
       · have h7 : ¬ d < b := h6
         simp [h5, h6, h7]
theorem refless_told (a b c d : Int) : vergerref5_Less.f a b c d = some (ltE ⟨a, b⟩ ⟨c, d⟩) := by
 unfold vergerref5_Less.f ltE
 by_cases h1 : a < c
 · simp [h1]
 · rw [if_neg h1]
   by_cases h2 : a = c
   · simp [h2]
   · simp [h1, h2]
theorem putE_at {l : List E} {e : E} {i : Nat} (hi : i ≤ l.length) (hbefore : ∀ j a, j < i → l[j]? = some a → ltE e a = false) (hat : ∀ a, l[i]? = some a → ltE e a = true) : putE l e = l.take i ++ e :: l.drop i := by
 induction l generalizing i with
 | nil => simp at hi; subst hi; simp [putE]
 | cons b l ih =>
  cases i with
  | zero =>
   have := hat b rfl
   simp [putE, leE, this]
  | succ i =>
   have hb := hbefore 0 b (by omega) rfl
   have := ih (i := i) (by simpa using hi) (fun j a hj ha => hbefore (j + 1) a (by omega) ha) (fun a ha => hat a ha)
   unfold putE at this ⊢
   simp only [List.takeWhile_cons, List.dropWhile_cons, leE, hb, Bool.not_false, if_true, List.take_succ_cons, List.drop_succ_cons, List.cons_append]
   exact congrArg (b :: ·) this
theorem refput_loop (l : List E) (e0 e1 : Int) (hl : l.length < 1000000000) : ∀ (d k i : Nat), l.length - i = d → i ≤ l.length → d < k → (∀ j a, j < i → l[j]? = some a → ltE ⟨e0, e1⟩ a = false) →
 vergerref5_Put.l0 k l (i : Int) e0 e1 = some (putE l ⟨e0, e1⟩) := by
 intro d
 induction d with
 | zero =>
  intro k i hd hi hk hb
  obtain ⟨k, rfl, _⟩ := succ_of hk
  have : i = l.length := by omega
  subst this
  simp only [vergerref5_Put.l0]
  rw [if_neg (by omega)]
  simp only [Option.bind_some]
  rw [if_pos (by omega), if_pos (by omega)]
  rw [putE_at (Nat.le_refl _) hb (fun a ha => by simp at ha)]
  simp only [Int.toNat_natCast, Option.bind_some, List.length_nil, List.length_append, List.length_take, List.length_drop, List.length_cons, List.nil_append]
  rw [if_pos (by omega), if_pos (by omega), if_pos (by omega)]
  simp
 | succ d ih =>
  intro k i hd hi hk hb
  obtain ⟨k, rfl, hk'⟩ := succ_of hk
  have hlt : i < l.length := by omega
  simp only [vergerref5_Put.l0]
  rw [if_pos (by omega), if_pos (by omega), refless_told, rd_get hlt]
  simp only [Option.bind_some]
  cases hc : ltE ⟨e0, e1⟩ l[i] with
  | true =>
   rw [if_pos rfl, if_pos (by omega)]
   rw [putE_at hi hb (fun a ha => by rw [List.getElem?_eq_getElem hlt] at ha; injection ha with ha; rw [← ha]; exact hc)]
   simp only [Int.toNat_natCast, Option.bind_some, List.length_nil, List.length_append, List.length_take, List.length_drop, List.length_cons, List.nil_append]
   rw [if_pos (by omega), if_pos (by omega), if_pos (by omega)]
   simp
  | false =>
   rw [if_neg (by simp), wrap_nat (by omega)]
   exact ih k (i + 1) (by omega) (by omega) (by omega) (fun j a hj ha => by
    by_cases hji : j < i
    · exact hb j a hji ha
    · have : j = i := by omega
      subst this
      rw [List.getElem?_eq_getElem hlt] at ha
      injection ha with ha
      rw [← ha]; exact hc)
theorem refput_told (k : Nat) (l : List E) (e0 e1 : Int) (hl : l.length < 1000000000) (hk : l.length < k) : vergerref5_Put.f k l e0 e1 = some (putE l ⟨e0, e1⟩) := by
 unfold vergerref5_Put.f
 exact refput_loop l e0 e1 hl l.length k 0 (by omega) (by omega) hk (fun j a hj => by omega)
theorem refsort_loop (l : List E) (hl : l.length < 1000000000) : ∀ (d k i : Nat), l.length - i = d → i ≤ l.length → d + l.length < k → vergerref5_Sort.l0 k l (sortE (l.take i)) (i : Int) = some (sortE l) := by
 intro d
 induction d with
 | zero =>
  intro k i hd hi hk
  obtain ⟨k, rfl, _⟩ := succ_of hk
  simp only [vergerref5_Sort.l0]
  rw [if_neg (by omega), List.take_of_length_le (by omega)]
 | succ d ih =>
  intro k i hd hi hk
  obtain ⟨k, rfl, hk'⟩ := succ_of hk
  have hlt : i < l.length := by omega
  have hs : (sortE (l.take i)).length = i := by rw [sortE_length, List.length_take]; omega
  simp only [vergerref5_Sort.l0]
  rw [if_pos (by omega), if_pos (by omega), rd_get hlt, refput_told k _ _ _ (by omega) (by omega)]
  simp only [Option.bind_some]
  rw [wrap_nat (by omega)]
  have : putE (sortE (l.take i)) ⟨(l[i]).f0, (l[i]).f1⟩ = sortE (l.take (i + 1)) := by
   rw [putE_sort]
   refine sortE_of_perm ?_
   rw [List.take_succ_eq_append_getElem hlt]
   exact (List.perm_append_singleton _ _).symm
  rw [this]
  exact ih k (i + 1) (by omega) (by omega) (by omega)
theorem refsort_told (k : Nat) (l : List E) (hl : l.length < 1000000000) (hk : 2 * l.length < k) : vergerref5_Sort.f k l = some (sortE l) := by
 unfold vergerref5_Sort.f
 have := refsort_loop l hl l.length k 0 (by omega) (by omega) (by omega)
 rwa [List.take_zero, sortE_nil] at this
theorem refmerge_told (k : Nat) (l m : List E) (hl : l.length + m.length < 1000000000) (hk : 2 * (l.length + m.length) < k) : vergerref5_Merge.f k l m = some (sortE (l ++ m)) := by
 unfold vergerref5_Merge.f
 simp only [Option.bind_some, List.length_nil, List.nil_append]
 rw [if_pos (by omega), if_pos (by omega), refsort_told k _ (by rw [List.length_append]; omega) (by rw [List.length_append]; omega)]
 rfl
end Go.Proofs.Ytccppdmangbdoaa.V
end
section
set_option linter.unusedVariables false
set_option linter.unusedSimpArgs false
namespace Go.Proofs.Ytccppdmangbdoaa.V
open Go.RowKit Go.Proofs.YtccppdmangbdoaaW.PrintWords Go.Proofs.YtccppdmangbdoaaW.PrintLast Go.Proofs.YtccppdmangbdoaaW.PrintMore
theorem u64_wrap_id {i : Int} (h0 : 0 ≤ i) (h1 : i < 18446744073709551616) : IntKind.u64.wrap i = i := by
 simp [IntKind.wrap, IntKind.bits, IntKind.signed]; omega
theorem wadd {a b : Nat} (h : a + b < 4611686018427387904) : wrap64 ((a : Int) + (b : Int)) = ((a + b : Nat) : Int) := by rw [wrap_id (by omega) (by omega)]; omega
theorem wsub {a b : Nat} (h : b ≤ a) (h2 : a < 4611686018427387904) : wrap64 ((a : Int) - (b : Int)) = ((a - b : Nat) : Int) := by rw [wrap_id (by omega) (by omega)]; omega
theorem wsub1 {a : Nat} (h : 0 < a) (h2 : a < 4611686018427387904) : wrap64 ((a : Int) - 1) = ((a - 1 : Nat) : Int) := by rw [wrap_id (by omega) (by omega)]; omega
theorem whalf {a b : Nat} (h : a + b < 4611686018427387904) : wrap64 ((IntKind.u64.wrap (wrap64 ((a : Int) + (b : Int)))) / 2) = (((a + b) / 2 : Nat) : Int) := by
 rw [wadd h, u64_wrap_id (by omega) (by omega), wrap_id (by omega) (by omega)]; omega
theorem sortcmp_ev (x y : E) : Ev (fun k => entry_Sort_1.f k x.f0 x.f1 y.f0 y.f1) (cmpE x y) := ⟨3, fun k hk => by show entry_Sort_1.f k x.f0 x.f1 y.f0 y.f1 = _; unfold entry_Sort_1.f; rw [compare_told k hk]; rfl⟩
theorem rd_mid (A B : List E) (x : E) : rd_T31 (A ++ x :: B) (A.length : Int) = x := by rw [rd_nat]; simp [List.getD_eq_getElem?_getD]
theorem rd_at {l A B : List E} {x : E} {i : Nat} (hl : l = A ++ x :: B) (hi : i = A.length) : rd_T31 l (i : Int) = x := by subst hl; subst hi; exact rd_mid A B x
theorem set_mid (A B : List E) (x y : E) : (A ++ x :: B).set A.length y = A ++ y :: B := by simp
theorem swap_next (A B : List E) (x y : E) : ((A ++ x :: y :: B).set (A.length + 1) x).set A.length y = A ++ y :: x :: B := by
 simp [List.set_append]
theorem swap_next' (A B : List E) (x y : E) : ((A ++ x :: y :: B).set A.length y).set (A.length + 1) x = A ++ y :: x :: B := by
 simp [List.set_append]
theorem eta (x : E) : (⟨x.f0, x.f1⟩ : E) = x := rfl
theorem rev_ind {P : List E → Prop} (h0 : P []) (h1 : ∀ S s, P S → P (S ++ [s])) : ∀ S, P S := by
 intro S
 rw [← S.reverse_reverse]
 induction S.reverse with
 | nil => exact h0
 | cons s T ih => rw [List.reverse_cons]; exact h1 _ _ ih
theorem ins_inner (A : List E) (a b i : Nat) (ha : a = A.length) (r : List E) : ∀ (S : List E) (e : E) (T D : List E), SortedE S → (A ++ S ++ e :: T ++ D).length < 1000000000 → i < 1000000000 →
 (∀ s ∈ S, ∀ t ∈ T, leE s t = true) → (∀ t ∈ T, ltE e t = true) → SortedE T →
 Ev (fun k => api_Entry_53.l0 k (A ++ sortE (S ++ e :: T) ++ D) (a : Int) (b : Int) (wrap64 ((i : Int) + 1))) r →
 Ev (fun k => api_Entry_53.l1 k (A ++ S ++ e :: T ++ D) (a : Int) (b : Int) (i : Int) ((A ++ S).length : Int)) r := by
 intro S
 induction S using rev_ind with
 | h0 =>
  intro e T D hS hlen hi hST hT hTs hk
  refine Ev.step (fun k => by simp only [api_Entry_53.l1]; exact rfl) ?_
  have h0 : ¬ (((A ++ []).length : Nat) : Int) > (a : Int) := by simp; omega
  simp only [if_neg h0]
  have hs : sortE ([] ++ e :: T) = e :: T := sortE_of_sorted (sorted_cons.2 ⟨fun t ht => leE_of_ltE (hT t ht), hTs⟩)
  rw [hs] at hk
  simpa using hk
 | h1 S s ih =>
  intro e T D hS hlen hi hST hT hTs hk
  have hlen' := hlen
  simp only [List.length_append, List.length_cons, List.length_nil] at hlen'
  obtain ⟨hS1, _, hS2⟩ := sorted_append.1 hS
  refine Ev.step (fun k => by simp only [api_Entry_53.l1]; exact rfl) ?_
  have hj : (((A ++ (S ++ [s])).length : Nat) : Int) = ((A.length + S.length + 1 : Nat) : Int) := by simp; omega
  have hw : wrap64 ((((A.length + S.length + 1 : Nat) : Int)) - 1) = ((A.length + S.length : Nat) : Int) := by rw [wsub1 (by omega) (by omega)]; rfl
  have hlE : A ++ (S ++ [s]) ++ e :: T ++ D = (A ++ S) ++ s :: e :: (T ++ D) := by simp
  have r1 : rd_T31 (A ++ (S ++ [s]) ++ e :: T ++ D) ((A.length + S.length + 1 : Nat) : Int) = e := rd_at (A := A ++ S ++ [s]) (B := T ++ D) (by simp) (by simp; omega)
  have r2 : rd_T31 (A ++ (S ++ [s]) ++ e :: T ++ D) ((A.length + S.length : Nat) : Int) = s := rd_at (A := A ++ S) (B := e :: (T ++ D)) (by simp) (by simp)
  have c1 : ((A.length + S.length + 1 : Nat) : Int) > (a : Int) := by omega
  have c2 : (0 : Int) ≤ ((A.length + S.length + 1 : Nat) : Int) := by omega
  have c3 : ((A.length + S.length + 1 : Nat) : Int) < ((A ++ (S ++ [s]) ++ e :: T ++ D).length : Int) := by simp; omega
  have c4 : (0 : Int) ≤ ((A.length + S.length : Nat) : Int) := by omega
  have c5 : ((A.length + S.length : Nat) : Int) < ((A ++ (S ++ [s]) ++ e :: T ++ D).length : Int) := by simp; omega
  rw [hj]
  simp only [hw, if_pos c1, if_pos c2, if_pos c3, if_pos c4, if_pos c5, r1, r2, Int.toNat_natCast]
  refine Ev.bind (sortcmp_ev e s) ?_
  cases hlt : ltE e s with
  | true =>
   have hn : cmpE e s < 0 := (cmpE_neg e s).2 hlt
   simp only [if_pos hn, eta]
   have hsw : ((A ++ (S ++ [s]) ++ e :: T ++ D).set (A.length + S.length + 1) s).set (A.length + S.length) e = A ++ S ++ e :: (s :: T) ++ D := by
    rw [hlE]
    have := swap_next (A ++ S) (T ++ D) s e
    rw [List.length_append] at this
    rw [this]; simp
   rw [hsw]
   have hlen2 : (A ++ S ++ e :: (s :: T) ++ D).length < 1000000000 := by simp; omega
   have hST' : ∀ x ∈ S, ∀ t ∈ s :: T, leE x t = true := fun x hx t ht => by
    rcases List.mem_cons.1 ht with rfl | ht
    · exact hS2 x hx _ (by simp)
    · exact hST x (by simp [hx]) t ht
   have hT' : ∀ t ∈ s :: T, ltE e t = true := fun t ht => by
    rcases List.mem_cons.1 ht with rfl | ht
    · exact hlt
    · exact hT t ht
   have hTs' : SortedE (s :: T) := sorted_cons.2 ⟨fun t ht => hST s (by simp) t ht, hTs⟩
   have hp : sortE (S ++ [s] ++ e :: T) = sortE (S ++ e :: (s :: T)) := sortE_of_perm (by
    rw [List.append_assoc]
    exact List.Perm.append_left S (List.Perm.swap e s T))
   rw [hp] at hk
   have := ih e (s :: T) D hS1 hlen2 hi hST' hT' hTs' hk
   rw [List.length_append] at this
   exact this
  | false =>
   have hn : ¬ cmpE e s < 0 := fun h => by rw [(cmpE_neg e s).1 h] at hlt; cases hlt
   simp only [if_neg hn]
   have hle : leE s e = true := by simp [leE, hlt]
   have hso : SortedE (S ++ [s] ++ e :: T) := by
    refine sorted_append.2 ⟨hS, sorted_cons.2 ⟨fun t ht => leE_of_ltE (hT t ht), hTs⟩, fun x hx t ht => ?_⟩
    rcases List.mem_cons.1 ht with rfl | ht
    · rcases List.mem_append.1 hx with hx | hx
      · exact leE_trans _ _ _ (hS2 x hx s (by simp)) hle
      · rw [List.mem_singleton.1 hx]; exact hle
    · exact hST x hx t ht
   rw [sortE_of_sorted hso] at hk
   simpa using hk
theorem ins_outer (A : List E) (a b : Nat) (ha : a = A.length) (D : List E) : ∀ (R S : List E), SortedE S → b = a + S.length + R.length → (A ++ S ++ R ++ D).length < 1000000000 →
 Ev (fun k => api_Entry_53.l0 k (A ++ S ++ R ++ D) (a : Int) (b : Int) ((a + S.length : Nat) : Int)) (A ++ sortE (S ++ R) ++ D) := by
 intro R
 induction R with
 | nil =>
  intro S hS hb hlen
  refine Ev.step (fun k => by simp only [api_Entry_53.l0]; exact rfl) ?_
  have h0 : ¬ ((a + S.length : Nat) : Int) < (b : Int) := by simp at hb; omega
  simp only [if_neg h0]
  rw [List.append_nil, List.append_nil, sortE_of_sorted hS]
  exact Ev.now _
 | cons e R ih =>
  intro S hS hb hlen
  have hlen' := hlen
  simp only [List.length_append, List.length_cons] at hlen' hb
  refine Ev.step (fun k => by simp only [api_Entry_53.l0]; exact rfl) ?_
  have h0 : ((a + S.length : Nat) : Int) < (b : Int) := by omega
  simp only [if_pos h0]
  have hin := ins_inner A a b (a + S.length) ha (A ++ sortE (S ++ e :: R) ++ D) S e [] (R ++ D) hS (by simp; omega) (by omega) (by simp) (by simp) sorted_nil (by
   rw [wrap_nat (by omega)]
   have hl := sortE_length (S ++ [e])
   have := ih (sortE (S ++ [e])) (sortE_sorted _) (by rw [hl]; simp; omega) (by simp [hl]; omega)
   rw [hl] at this
   have hp : sortE (sortE (S ++ [e]) ++ R) = sortE (S ++ e :: R) := sortE_of_perm (by
    have := List.Perm.append_right R (sortE_perm (S ++ [e]))
    rwa [List.append_assoc S [e] R] at this)
   rw [hp] at this
   have e1 : a + (S ++ [e]).length = a + S.length + 1 := by simp; omega
   rw [e1] at this
   have e2 : A ++ sortE (S ++ [e]) ++ R ++ D = A ++ sortE (S ++ [e]) ++ (R ++ D) := by simp
   rw [e2] at this
   exact this)
  have e3 : A ++ S ++ e :: [] ++ (R ++ D) = A ++ S ++ e :: R ++ D := by simp
  rw [e3] at hin
  have e4 : (((A ++ S).length : Nat) : Int) = ((a + S.length : Nat) : Int) := by rw [List.length_append, ha]
  rw [e4] at hin
  exact hin
theorem ins_told (A X D : List E) (hlen : (A ++ X ++ D).length < 1000000000) : Ev (fun k => api_Entry_53.f k (A ++ X ++ D) (A.length : Int) ((A.length + X.length : Nat) : Int)) (A ++ sortE X ++ D) := by
 have hlen' := hlen
 simp only [List.length_append] at hlen'
 unfold api_Entry_53.f
 cases X with
 | nil =>
  refine Ev.step (fun k => by simp only [api_Entry_53.l0]; exact rfl) ?_
  have h0 : ¬ wrap64 ((A.length : Int) + 1) < ((A.length + ([] : List E).length : Nat) : Int) := by rw [wrap_nat (by omega)]; simp; omega
  simp only [if_neg h0, sortE_nil]
  exact Ev.now _
 | cons e R =>
  rw [wrap_nat (by omega)]
  have := ins_outer A A.length (A.length + (e :: R).length) rfl D R [e] (List.pairwise_singleton _ _) (by simp; omega) (by simp at hlen' ⊢; omega)
  have e1 : A ++ [e] ++ R ++ D = A ++ e :: R ++ D := by simp
  rw [e1] at this
  exact this
end Go.Proofs.Ytccppdmangbdoaa.V
end
section
set_option linter.unusedVariables false
set_option linter.unusedSimpArgs false
namespace Go.Proofs.Ytccppdmangbdoaa.V
open Go.RowKit Go.Proofs.YtccppdmangbdoaaW.PrintWords Go.Proofs.YtccppdmangbdoaaW.PrintLast Go.Proofs.YtccppdmangbdoaaW.PrintMore
theorem swap_far (P Q R : List E) (x y : E) : ((P ++ x :: Q ++ y :: R).set P.length y).set (P.length + 1 + Q.length) x = P ++ y :: Q ++ x :: R := by
 have e1 : (P ++ x :: Q ++ y :: R).set P.length y = P ++ y :: Q ++ y :: R := by
  rw [List.append_assoc, List.cons_append, set_mid, List.append_assoc, List.cons_append]
 rw [e1]
 have e2 : P.length + 1 + Q.length = (P ++ y :: Q).length := by simp; omega
 rw [e2, set_mid]
theorem swr_loop (A B C : List E) (a b n : Nat) : ∀ (X2 Y2 X1 Y1 : List E), X2.length = Y2.length → X1.length = Y1.length → a = A.length → b = A.length + X1.length + X2.length + B.length → n = X1.length + X2.length →
 (A ++ Y1 ++ X2 ++ B ++ X1 ++ Y2 ++ C).length < 1000000000 →
 Ev (fun k => api_Entry_58.l0 k (A ++ Y1 ++ X2 ++ B ++ X1 ++ Y2 ++ C) (a : Int) (b : Int) (n : Int) ((X1.length : Nat) : Int)) (A ++ (Y1 ++ Y2) ++ B ++ (X1 ++ X2) ++ C) := by
 intro X2
 induction X2 with
 | nil =>
  intro Y2 X1 Y1 h1 h2 ha hb hn hlen
  have : Y2 = [] := List.eq_nil_of_length_eq_zero h1.symm
  subst this
  refine Ev.step (fun k => by simp only [api_Entry_58.l0]; exact rfl) ?_
  have h0 : ¬ ((X1.length : Nat) : Int) < (n : Int) := by simp at hn; omega
  simp only [if_neg h0]
  have e : A ++ Y1 ++ [] ++ B ++ X1 ++ [] ++ C = A ++ (Y1 ++ []) ++ B ++ (X1 ++ []) ++ C := by simp
  rw [e]
  exact Ev.now _
 | cons x X2 ih =>
  intro Y2 X1 Y1 h1 h2 ha hb hn hlen
  cases Y2 with
  | nil => simp at h1
  | cons y Y2 =>
   have hlen' := hlen
   simp only [List.length_append, List.length_cons] at hlen' h1 hb hn
   clear hlen
   refine Ev.step (fun k => by simp only [api_Entry_58.l0]; exact rfl) ?_
   have h0 : ((X1.length : Nat) : Int) < (n : Int) := by omega
   have b1 : b + X1.length < 4611686018427387904 := by omega
   have b2 : a + X1.length < 4611686018427387904 := by omega
   have hE : A ++ Y1 ++ x :: X2 ++ B ++ X1 ++ y :: Y2 ++ C = (A ++ Y1) ++ x :: (X2 ++ B ++ X1) ++ y :: (Y2 ++ C) := by simp
   have r1 : rd_T31 (A ++ Y1 ++ x :: X2 ++ B ++ X1 ++ y :: Y2 ++ C) ((b + X1.length : Nat) : Int) = y := rd_at (A := (A ++ Y1) ++ x :: (X2 ++ B ++ X1)) (B := Y2 ++ C) (by rw [hE]) (by simp; omega)
   have r2 : rd_T31 (A ++ Y1 ++ x :: X2 ++ B ++ X1 ++ y :: Y2 ++ C) ((a + X1.length : Nat) : Int) = x := rd_at (A := A ++ Y1) (B := (X2 ++ B ++ X1) ++ y :: (Y2 ++ C)) (by rw [hE]; simp) (by simp; omega)
   have c1 : (0 : Int) ≤ ((b + X1.length : Nat) : Int) := by omega
   have c2 : ((b + X1.length : Nat) : Int) < ((A ++ Y1 ++ x :: X2 ++ B ++ X1 ++ y :: Y2 ++ C).length : Int) := by simp; omega
   have c3 : (0 : Int) ≤ ((a + X1.length : Nat) : Int) := by omega
   have c4 : ((a + X1.length : Nat) : Int) < ((A ++ Y1 ++ x :: X2 ++ B ++ X1 ++ y :: Y2 ++ C).length : Int) := by simp; omega
   simp only [wadd b1, wadd b2, if_pos h0, if_pos c1, if_pos c2, if_pos c3, if_pos c4, r1, r2, Int.toNat_natCast, eta]
   have hsw : ((A ++ Y1 ++ x :: X2 ++ B ++ X1 ++ y :: Y2 ++ C).set (a + X1.length) y).set (b + X1.length) x = A ++ (Y1 ++ [y]) ++ X2 ++ B ++ (X1 ++ [x]) ++ Y2 ++ C := by
    rw [hE]
    have e1 : a + X1.length = (A ++ Y1).length := by simp; omega
    have e2 : b + X1.length = (A ++ Y1).length + 1 + (X2 ++ B ++ X1).length := by simp; omega
    rw [e2, e1, swap_far]; simp
   rw [hsw, wrap_nat (by omega)]
   have := ih Y2 (X1 ++ [x]) (Y1 ++ [y]) (by omega) (by simp; omega) ha (by simp; omega) (by simp; omega) (by simp; omega)
   have e3 : (X1 ++ [x]).length = X1.length + 1 := by simp
   rw [e3] at this
   have e4 : A ++ (Y1 ++ [y] ++ Y2) ++ B ++ (X1 ++ [x] ++ X2) ++ C = A ++ (Y1 ++ y :: Y2) ++ B ++ (X1 ++ x :: X2) ++ C := by simp
   rw [e4] at this
   exact this
theorem swr_told (A X B Y C : List E) (h : X.length = Y.length) (hlen : (A ++ X ++ B ++ Y ++ C).length < 1000000000) :
 Ev (fun k => api_Entry_58.f k (A ++ X ++ B ++ Y ++ C) ((A.length : Nat) : Int) ((A.length + X.length + B.length : Nat) : Int) ((X.length : Nat) : Int)) (A ++ Y ++ B ++ X ++ C) := by
 unfold api_Entry_58.f
 have := swr_loop A B C A.length (A.length + X.length + B.length) X.length X Y [] [] h rfl rfl (by simp) (by simp) (by simpa using hlen)
 simpa using this
theorem rot_loop : ∀ (n : Nat) (A U V C : List E), U.length + V.length = n → 0 < U.length → 0 < V.length → (A ++ U ++ V ++ C).length < 1000000000 →
 Ev (fun k => api_Entry_57.l0 k (A ++ U ++ V ++ C) ((A.length + U.length : Nat) : Int) ((U.length : Nat) : Int) ((V.length : Nat) : Int)) (A ++ V ++ U ++ C) := by
 intro n
 induction n using Nat.strongRecOn with
 | _ n ih =>
  intro A U V C hn hU hV hlen
  have hlen' := hlen
  simp only [List.length_append] at hlen'
  refine Ev.step (fun k => by simp only [api_Entry_57.l0]; exact rfl) ?_
  simp only [wsub (show U.length ≤ A.length + U.length by omega) (show A.length + U.length < 4611686018427387904 by omega), show A.length + U.length - U.length = A.length by omega]
  by_cases h1 : U.length = V.length
  · have c1 : ((U.length : Nat) : Int) = ((V.length : Nat) : Int) := by omega
    simp only [if_pos c1]
    have := swr_told A U [] V C h1 (by simpa using hlen)
    refine Ev.bind (a := A ++ V ++ U ++ C) ?_ (Ev.now _)
    simpa using this
  · have c1 : ¬ ((U.length : Nat) : Int) = ((V.length : Nat) : Int) := by omega
    simp only [if_neg c1]
    by_cases h2 : V.length < U.length
    · have c2 : ((U.length : Nat) : Int) > ((V.length : Nat) : Int) := by omega
      simp only [if_pos c2]
      obtain ⟨U1, U2, rfl, hU1⟩ : ∃ U1 U2, U = U1 ++ U2 ∧ U1.length = V.length := ⟨U.take V.length, U.drop V.length, (List.take_append_drop _ _).symm, by rw [List.length_take]; omega⟩
      simp only [List.length_append] at h2 hlen' hn hU
      have hs := swr_told A U1 U2 V C hU1 (by simp; omega)
      have e1 : ((A.length + U1.length + U2.length : Nat) : Int) = ((A.length + (U1 ++ U2).length : Nat) : Int) := by simp; omega
      rw [e1, hU1] at hs
      have e2 : A ++ U1 ++ U2 ++ V ++ C = A ++ (U1 ++ U2) ++ V ++ C := by simp
      rw [e2] at hs
      refine Ev.bind hs ?_
      simp only [wsub (show V.length ≤ (U1 ++ U2).length by simp; omega) (show (U1 ++ U2).length < 4611686018427387904 by simp; omega), show (U1 ++ U2).length - V.length = U2.length by simp; omega]
      have := ih (U2.length + U1.length) (by omega) (A ++ V) U2 U1 C rfl (by omega) (by omega) (by simp; omega)
      have e3 : (((A ++ V).length + U2.length : Nat) : Int) = ((A.length + (U1 ++ U2).length : Nat) : Int) := by simp; omega
      rw [e3, hU1] at this
      have e4 : A ++ V ++ U1 ++ U2 ++ C = A ++ V ++ (U1 ++ U2) ++ C := by simp
      rw [e4] at this
      exact this
    · have c2 : ¬ ((U.length : Nat) : Int) > ((V.length : Nat) : Int) := by omega
      simp only [if_neg c2]
      obtain ⟨V1, V2, rfl, hV2⟩ : ∃ V1 V2, V = V1 ++ V2 ∧ V2.length = U.length := ⟨V.take (V.length - U.length), V.drop (V.length - U.length), (List.take_append_drop _ _).symm, by rw [List.length_drop]; omega⟩
      simp only [List.length_append] at h1 h2 hlen' hn hV
      have hs := swr_told A U V1 V2 C hV2.symm (by simp; omega)
      simp only [wadd (show A.length + U.length + (V1 ++ V2).length < 4611686018427387904 by simp; omega), wsub (show U.length ≤ A.length + U.length + (V1 ++ V2).length by simp; omega) (show A.length + U.length + (V1 ++ V2).length < 4611686018427387904 by simp; omega), show A.length + U.length + (V1 ++ V2).length - U.length = A.length + U.length + V1.length by simp; omega]
      have e2 : A ++ U ++ V1 ++ V2 ++ C = A ++ U ++ (V1 ++ V2) ++ C := by simp
      rw [e2] at hs
      refine Ev.bind hs ?_
      simp only [wsub (show U.length ≤ (V1 ++ V2).length by simp; omega) (show (V1 ++ V2).length < 4611686018427387904 by simp; omega), show (V1 ++ V2).length - U.length = V1.length by simp; omega]
      have := ih (V2.length + V1.length) (by omega) A V2 V1 (U ++ C) rfl (by omega) (by omega) (by simp; omega)
      rw [hV2] at this
      have e3 : A ++ V2 ++ V1 ++ (U ++ C) = A ++ V2 ++ V1 ++ U ++ C := by simp
      have e4 : A ++ V1 ++ V2 ++ (U ++ C) = A ++ (V1 ++ V2) ++ U ++ C := by simp
      rw [e3, e4] at this
      exact this
theorem rot_told (A U V C : List E) (hU : 0 < U.length) (hV : 0 < V.length) (hlen : (A ++ U ++ V ++ C).length < 1000000000) :
 Ev (fun k => api_Entry_57.f k (A ++ U ++ V ++ C) ((A.length : Nat) : Int) ((A.length + U.length : Nat) : Int) ((A.length + U.length + V.length : Nat) : Int)) (A ++ V ++ U ++ C) := by
 have hlen' := hlen
 simp only [List.length_append] at hlen'
 unfold api_Entry_57.f
 simp only [wsub (show A.length ≤ A.length + U.length by omega) (show A.length + U.length < 4611686018427387904 by omega), show A.length + U.length - A.length = U.length by omega, wsub (show A.length + U.length ≤ A.length + U.length + V.length by omega) (show A.length + U.length + V.length < 4611686018427387904 by omega), show A.length + U.length + V.length - (A.length + U.length) = V.length by omega]
 exact rot_loop _ A U V C rfl hU hV hlen
theorem bub_right (A : List E) (x : E) (C : List E) (a i : Nat) : ∀ (Q P : List E), a = A.length + P.length → i = A.length + P.length + 1 + Q.length → (A ++ P ++ x :: Q ++ C).length < 1000000000 →
 Ev (fun k => api_Entry_54.l1 k (A ++ P ++ x :: Q ++ C) (i : Int) (a : Int)) (A ++ P ++ Q ++ x :: C) := by
 intro Q
 induction Q generalizing a with
 | nil =>
  intro P ha hi hlen
  have hlen' := hlen
  simp only [List.length_append, List.length_cons, List.length_nil] at hlen' hi
  refine Ev.step (fun k => by simp only [api_Entry_54.l1]; exact rfl) ?_
  have p0 : 0 < i := by omega
  have p1 : i < 4611686018427387904 := by omega
  have c : ¬ (a : Int) < ((i - 1 : Nat) : Int) := by omega
  simp only [wsub1 p0 p1, if_neg c]
  have e : A ++ P ++ x :: [] ++ C = A ++ P ++ [] ++ x :: C := by simp
  rw [e]
  exact Ev.now _
 | cons q Q ih =>
  intro P ha hi hlen
  have hlen' := hlen
  simp only [List.length_append, List.length_cons] at hlen' hi
  refine Ev.step (fun k => by simp only [api_Entry_54.l1]; exact rfl) ?_
  have p0 : 0 < i := by omega
  have p1 : i < 4611686018427387904 := by omega
  have p2 : a ≤ 4611686018427387904 := by omega
  have c : (a : Int) < ((i - 1 : Nat) : Int) := by omega
  have hE : A ++ P ++ x :: q :: Q ++ C = (A ++ P) ++ x :: q :: (Q ++ C) := by simp
  have r1 : rd_T31 (A ++ P ++ x :: q :: Q ++ C) ((a + 1 : Nat) : Int) = q := rd_at (A := A ++ P ++ [x]) (B := Q ++ C) (by simp) (by simp; omega)
  have r2 : rd_T31 (A ++ P ++ x :: q :: Q ++ C) (a : Int) = x := rd_at (A := A ++ P) (B := q :: (Q ++ C)) (by simp) (by simp; omega)
  have c1 : (0 : Int) ≤ ((a + 1 : Nat) : Int) := by omega
  have c2 : ((a + 1 : Nat) : Int) < ((A ++ P ++ x :: q :: Q ++ C).length : Int) := by simp; omega
  have c3 : (0 : Int) ≤ (a : Int) := by omega
  have c4 : (a : Int) < ((A ++ P ++ x :: q :: Q ++ C).length : Int) := by simp; omega
  simp only [wsub1 p0 p1, wrap_nat p2, if_pos c, if_pos c1, if_pos c2, if_pos c3, if_pos c4, r1, r2, Int.toNat_natCast, eta]
  have hsw : ((A ++ P ++ x :: q :: Q ++ C).set a q).set (a + 1) x = A ++ (P ++ [q]) ++ x :: Q ++ C := by
   rw [hE, show a = (A ++ P).length by simp; omega, swap_next']; simp
  rw [hsw]
  have := ih (a + 1) (P ++ [q]) (by simp; omega) (by simp; omega) (by simp; omega)
  have e : A ++ (P ++ [q]) ++ Q ++ x :: C = A ++ P ++ q :: Q ++ x :: C := by simp
  rw [e] at this
  exact this
theorem bub_left (A : List E) (y : E) (i : Nat) (hi : i = A.length) : ∀ (P C : List E) (m : Nat), m = A.length + P.length → (A ++ P ++ y :: C).length < 1000000000 →
 Ev (fun k => api_Entry_54.l3 k (A ++ P ++ y :: C) (i : Int) (m : Int)) (A ++ y :: (P ++ C)) := by
 intro P
 induction P using rev_ind with
 | h0 =>
  intro C m hm hlen
  refine Ev.step (fun k => by simp only [api_Entry_54.l3]; exact rfl) ?_
  have c : ¬ (m : Int) > (i : Int) := by simp at hm; omega
  simp only [if_neg c]
  have e : A ++ [] ++ y :: C = A ++ y :: ([] ++ C) := by simp
  rw [e]
  exact Ev.now _
 | h1 P p ih =>
  intro C m hm hlen
  have hlen' := hlen
  simp only [List.length_append, List.length_cons, List.length_nil] at hlen' hm
  refine Ev.step (fun k => by simp only [api_Entry_54.l3]; exact rfl) ?_
  have p0 : 0 < m := by omega
  have p1 : m < 4611686018427387904 := by omega
  have c : (m : Int) > (i : Int) := by omega
  have hE : A ++ (P ++ [p]) ++ y :: C = (A ++ P) ++ p :: y :: C := by simp
  have r1 : rd_T31 (A ++ (P ++ [p]) ++ y :: C) ((m - 1 : Nat) : Int) = p := rd_at (A := A ++ P) (B := y :: C) (by simp) (by simp; omega)
  have r2 : rd_T31 (A ++ (P ++ [p]) ++ y :: C) (m : Int) = y := rd_at (A := A ++ P ++ [p]) (B := C) (by simp) (by simp; omega)
  have c1 : (0 : Int) ≤ ((m - 1 : Nat) : Int) := by omega
  have c2 : ((m - 1 : Nat) : Int) < ((A ++ (P ++ [p]) ++ y :: C).length : Int) := by simp; omega
  have c3 : (0 : Int) ≤ (m : Int) := by omega
  have c4 : (m : Int) < ((A ++ (P ++ [p]) ++ y :: C).length : Int) := by simp; omega
  simp only [wsub1 p0 p1, if_pos c, if_pos c1, if_pos c2, if_pos c3, if_pos c4, r1, r2, Int.toNat_natCast, eta]
  have hsw : ((A ++ (P ++ [p]) ++ y :: C).set m p).set (m - 1) y = A ++ P ++ y :: (p :: C) := by
   rw [hE, show m = (A ++ P).length + 1 by simp; omega, show (A ++ P).length + 1 - 1 = (A ++ P).length by omega, swap_next]
  rw [hsw]
  have := ih (p :: C) (m - 1) (by omega) (by simp; omega)
  have e : A ++ y :: (P ++ p :: C) = A ++ y :: (P ++ [p] ++ C) := by simp
  rw [e] at this
  exact this
end Go.Proofs.Ytccppdmangbdoaa.V
end
