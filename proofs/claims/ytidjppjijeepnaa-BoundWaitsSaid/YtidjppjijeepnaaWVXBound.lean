-- a text of this work, without what this claim doesn't use (wip/shake.py)
import Derived.Test.YtidjppjijeepnaaWVPhistb
import Derived.Maps.OwnSet
import Derived.IntWalk
import Derived.Deep.DeepCutAuto
section
namespace Go.Proofs.Ytidjppjijeepnaa.V
open Go.RowKit Go.Proofs.YtidjppjijeepnaaW.PrintWords Go.Proofs.YtidjppjijeepnaaW.PrintLast Go.Proofs.YtidjppjijeepnaaW.PrintMore
attribute [local go_sem] max2_int min2_int max_two min_two max_three min_three max_four min_four
set_option linter.unusedVariables false
set_option linter.unusedSimpArgs false
def bound_Behind.l0 : Nat → List (S25) → Int → Int → Int → Option (Int)
  | 0, _, _, _, _ => none
  | k + 1, x0, x3, x7, x8 => if x8 < x7 then ((bound_is.f x0 x8 2).bind fun t101 => (if t101 = true then ((bound_next.f k x0 x8).bind fun t102 => ((bound_is.f x0 t102 3).bind fun t103 => (if t103 = true then (if 0 ≤ (wrap64 (x8 + 1)) then (if (wrap64 (x8 + 1)) ≤ t102 then (if t102 ≤ (x0.length : Int) then ((hist_Claims.f k ((x0.take (t102 : Int).toNat).drop ((wrap64 (x8 + 1)) : Int).toNat)).bind fun t108 => (bound_Behind.l0 k x0 (mx x3 (t108.length : Int)) x7 (wrap64 (x8 + 1)))) else (none)) else (none)) else (none)) else (bound_Behind.l0 k x0 x3 x7 (wrap64 (x8 + 1)))))) else (bound_Behind.l0 k x0 x3 x7 (wrap64 (x8 + 1))))) else (some x3)
def bound_Behind.f (k : Nat) (l0 : List (S25)) : Option (Int) := bound_Behind.l0 k l0 0 (l0.length : Int) 0
set_option maxHeartbeats 8000000 in
set_option maxRecDepth 100000 in
theorem bound_Behind.calls (k : Nat) (A0 : Option Addr) (c0 : Nat) (l0 : List (S25)) (r : Int) (w : World) (hr0 : Kd.C k25 w A0 l0.length l0) (hc0 : l0.length ≤ c0) (h : bound_Behind.f k l0 = some r) :
 Calls Try.prog 10 #[.slice A0 l0.length c0] w fun e w' => e = .returned (.int .i64 r) ∧ Below w.heap.size w w' := by
 have HR0 := Aside0.mk hr0; have HC0 := Aside0.mk hc0; clear hr0 hc0; have HB := Aside0.mk (Below.refl w.heap.size w); have H : (bound_Behind.l0 k l0 0 (l0.length : Int) 0) = some r := h; clear h; have H' := Aside0.mk H; clear H; go_enter Try.func10, Try.ntmps10
 go_wp2
 go_loopg [3, 8] k (fun kq v3 v8 w' => ∃ (x3_1 : Int) (x8_1 : Int), v3 = .int .i64 x3_1 ∧ v8 = .int .i64 x8_1 ∧ Aside0 (bound_Behind.l0 kq l0 x3_1 (l0.length : Int) x8_1 = some r) ∧ Aside0 (kq ≤ k) ∧ Aside0 (Below w.heap.size w w'))
 case atStart => exact ⟨(0), (0), (by first | rfl | (simp; done) | (simp [*]; done)), (by first | rfl | (simp; done) | (simp [*]; done)), H', ⟨Nat.le_refl _⟩, ⟨by repeat (first | (with_reducible first | exact HB.out | apply ub | apply ua | apply uc) | exact HB.out)⟩⟩
 case round =>
  clear H'
  try clear c1
  obtain ⟨x3_1, x8_1, rfl, rfl, HA, HK1, HB⟩ := hrel
  cases gk with
  | zero => exact absurd HA.out (by simp [bound_Behind.l0])
  | succ k1 =>
   have H := HA.out; clear HA; simp only [bound_Behind.l0] at H
   by_cases c2 : x8_1 < (l0.length : Int)
   · rw [if_pos c2] at H; have c2b0 : decide (x8_1 < (l0.length : Int)) = true := decide_eq_true c2; clear c2; replace H := Option.bind_eq_some_iff.mp H; obtain ⟨t101, A30, H⟩ := H; replace H : (if t101 = true then ((bound_next.f k1 l0 x8_1).bind fun t102 => ((bound_is.f l0 t102 3).bind fun t103 => (if t103 = true then (if 0 ≤ (wrap64 (x8_1 + 1)) then (if (wrap64 (x8_1 + 1)) ≤ t102 then (if t102 ≤ (l0.length : Int) then ((hist_Claims.f k1 ((l0.take (t102 : Int).toNat).drop ((wrap64 (x8_1 + 1)) : Int).toNat)).bind fun t108 => (bound_Behind.l0 k1 l0 (mx x3_1 (t108.length : Int)) (l0.length : Int) (wrap64 (x8_1 + 1)))) else (none)) else (none)) else (none)) else (bound_Behind.l0 k1 l0 x3_1 (l0.length : Int) (wrap64 (x8_1 + 1)))))) else (bound_Behind.l0 k1 l0 x3_1 (l0.length : Int) (wrap64 (x8_1 + 1)))) = some r := H; have A3 := Aside0.mk A30; clear A30
     by_cases c4 : t101 = true
     · subst c4; (have H1 : ((bound_next.f k1 l0 x8_1).bind fun t102 => ((bound_is.f l0 t102 3).bind fun t103 => (if t103 = true then (if 0 ≤ (wrap64 (x8_1 + 1)) then (if (wrap64 (x8_1 + 1)) ≤ t102 then (if t102 ≤ (l0.length : Int) then ((hist_Claims.f k1 ((l0.take (t102 : Int).toNat).drop ((wrap64 (x8_1 + 1)) : Int).toNat)).bind fun t108 => (bound_Behind.l0 k1 l0 (mx x3_1 (t108.length : Int)) (l0.length : Int) (wrap64 (x8_1 + 1)))) else (none)) else (none)) else (none)) else (bound_Behind.l0 k1 l0 x3_1 (l0.length : Int) (wrap64 (x8_1 + 1)))))) = some r := by rw [if_pos rfl] at H; exact H); clear H; have H := H1; clear H1; replace H := Option.bind_eq_some_iff.mp H; obtain ⟨t102, A50, H⟩ := H; replace H : ((bound_is.f l0 t102 3).bind fun t103 => (if t103 = true then (if 0 ≤ (wrap64 (x8_1 + 1)) then (if (wrap64 (x8_1 + 1)) ≤ t102 then (if t102 ≤ (l0.length : Int) then ((hist_Claims.f k1 ((l0.take (t102 : Int).toNat).drop ((wrap64 (x8_1 + 1)) : Int).toNat)).bind fun t108 => (bound_Behind.l0 k1 l0 (mx x3_1 (t108.length : Int)) (l0.length : Int) (wrap64 (x8_1 + 1)))) else (none)) else (none)) else (none)) else (bound_Behind.l0 k1 l0 x3_1 (l0.length : Int) (wrap64 (x8_1 + 1))))) = some r := H; have A5 := Aside0.mk A50; clear A50; replace H := Option.bind_eq_some_iff.mp H; obtain ⟨t103, A60, H⟩ := H; replace H : (if t103 = true then (if 0 ≤ (wrap64 (x8_1 + 1)) then (if (wrap64 (x8_1 + 1)) ≤ t102 then (if t102 ≤ (l0.length : Int) then ((hist_Claims.f k1 ((l0.take (t102 : Int).toNat).drop ((wrap64 (x8_1 + 1)) : Int).toNat)).bind fun t108 => (bound_Behind.l0 k1 l0 (mx x3_1 (t108.length : Int)) (l0.length : Int) (wrap64 (x8_1 + 1)))) else (none)) else (none)) else (none)) else (bound_Behind.l0 k1 l0 x3_1 (l0.length : Int) (wrap64 (x8_1 + 1)))) = some r := H; have A6 := Aside0.mk A60; clear A60
       by_cases c7 : t103 = true
       · subst c7; (have H1 : (if 0 ≤ (wrap64 (x8_1 + 1)) then (if (wrap64 (x8_1 + 1)) ≤ t102 then (if t102 ≤ (l0.length : Int) then ((hist_Claims.f k1 ((l0.take (t102 : Int).toNat).drop ((wrap64 (x8_1 + 1)) : Int).toNat)).bind fun t108 => (bound_Behind.l0 k1 l0 (mx x3_1 (t108.length : Int)) (l0.length : Int) (wrap64 (x8_1 + 1)))) else (none)) else (none)) else (none)) = some r := by rw [if_pos rfl] at H; exact H); clear H; have H := H1; clear H1; obtain ⟨ji8, hji8⟩ : ∃ j_ : Int, (wrap64 (x8_1 + 1)) = j_ := ⟨_, rfl⟩; (replace H : (if 0 ≤ (ji8) then (if (ji8) ≤ t102 then (if t102 ≤ (l0.length : Int) then ((hist_Claims.f k1 ((l0.take (t102 : Int).toNat).drop ((ji8) : Int).toNat)).bind fun t108 => (bound_Behind.l0 k1 l0 (mx x3_1 (t108.length : Int)) (l0.length : Int) ji8)) else (none)) else (none)) else (none)) = some r := by first | (rw [hji8] at H; exact H) | (simp only [hji8] at H ⊢; exact H)); (try rw [hji8] at A3); (try rw [hji8] at A5); (try rw [hji8] at A6); have hji8w : (IntKind.i64.wrap (x8_1 + 1)) = ji8 := (i64_w _).trans hji8
         by_cases c9 : 0 ≤ (ji8)
         · rw [if_pos c9] at H; have c9b0 := eq_true c9; have c9b1 : decide (0 ≤ (ji8)) = true := decide_eq_true c9; clear c9
           by_cases c10 : (ji8) ≤ t102
           · rw [if_pos c10] at H; have c10b0 := eq_true c10; have c10b1 : decide ((ji8) ≤ t102) = true := decide_eq_true c10; clear c10
             by_cases c11 : t102 ≤ (l0.length : Int)
             · rw [if_pos c11] at H; have c11b0 := eq_true c11; have c11b1 : decide (t102 ≤ (l0.length : Int)) = true := decide_eq_true c11; clear c11; obtain ⟨y104, hy104⟩ : ∃ y_ : List (S25), y_ = ((l0.take (t102 : Int).toNat).drop ((ji8) : Int).toNat) := ⟨_, rfl⟩; (replace H : ((hist_Claims.f k1 y104).bind fun t108 => (bound_Behind.l0 k1 l0 (mx x3_1 (t108.length : Int)) (l0.length : Int) ji8)) = some r := by first | (rw [hy104]; with_reducible exact H) | (have H2_ := (Option.bind_some _ _).symm.trans H; rw [hy104]; with_reducible exact H2_) | (have H2_ := (Option.bind_some _ _).symm.trans H; with_reducible exact H2_) | with_reducible exact H | (rw [hy104]; exact H) | exact H); have Ny104 := Aside0.mk hy104; clear hy104; replace H := Option.bind_eq_some_iff.mp H; obtain ⟨t108, A120, H⟩ := H; replace H : (bound_Behind.l0 k1 l0 (mx x3_1 (t108.length : Int)) (l0.length : Int) ji8) = some r := H; have A12 := Aside0.mk A120; clear A120; obtain ⟨ji13, hji13⟩ : ∃ j_ : Int, (mx x3_1 (t108.length : Int)) = j_ := ⟨_, rfl⟩; (replace H : (bound_Behind.l0 k1 l0 ji13 (l0.length : Int) ji8) = some r := by first | (rw [hji13] at H; exact H) | (simp only [hji13] at H ⊢; exact H)); (try rw [hji13] at A3); (try rw [hji13] at A5); (try rw [hji13] at A6); (try rw [hji13] at A12); have hji13_ : (if x3_1 < (t108.length : Int) then (t108.length : Int) else x3_1) = ji13 := hji13; have H' := Aside0.mk H; clear H
               go_wp2_with (first | ((with_reducible refine gate_callee (f := 13) rfl ?_); refine goesL_ (some 13) rfl rfl Try.func13 (by kernel_rfl) rfl #[.slice A0 l0.length c0, .int .i64 x8_1, .int .i64 2] rfl (by (try simp only [ui, um, un]); first | done | rfl | (simp only [ul, uk]; rfl)) ?_; (with_reducible refine (bound_is.calls _ _ l0 x8_1 2 true _ ?side1 ?side2 A3.out).mono ?_); (case side1 => repeat (first | exact (Kd.C_below HR0.out HB.out) | (with_reducible refine Kd.C_alloc ?_ _) | (with_reducible refine Kd.C_drewN ?_ _) | (with_reducible refine Kd.C_drew ?_))); (case side2 => exact HC0.out); rintro e w' ⟨rfl, ⟨nd, rfl⟩⟩; refine ⟨_, rfl, ?_⟩) | ((with_reducible refine gate_callee (f := 17) rfl ?_); refine goesL_ (some 17) rfl rfl Try.func17 (by kernel_rfl) rfl #[.slice A0 l0.length c0, .int .i64 x8_1] rfl (by (try simp only [ui, um, un]); first | done | rfl | (simp only [ul, uk]; rfl)) ?_; (with_reducible refine (bound_next.calls k1 _ _ l0 x8_1 t102 _ ?side1 ?side2 A5.out).mono ?_); (case side1 => repeat (first | exact (Kd.C_below HR0.out (by repeat (first | (with_reducible first | exact HB.out | apply ub | apply ua | apply uc) | exact HB.out))) | (with_reducible refine Kd.C_alloc ?_ _) | (with_reducible refine Kd.C_drewN ?_ _) | (with_reducible refine Kd.C_drew ?_))); (case side2 => exact HC0.out); rintro e w14 ⟨rfl, hb⟩; refine ⟨_, rfl, ?_⟩; have n0_ := Aside0.mk (uo (by repeat (first | (with_reducible first | exact HB.out | apply ub | apply ua | apply uc) | exact HB.out)) hb); clear HB; have HB := n0_; clear n0_; (try clear hb); (try clear hb2); (try clear hk); (try clear hi)) | ((with_reducible refine gate_callee (f := 13) rfl ?_); refine goesL_ (some 20) rfl rfl Try.func13 (by kernel_rfl) rfl #[.slice A0 l0.length c0, .int .i64 t102, .int .i64 3] rfl (by (try simp only [ui, um, un]); first | done | rfl | (simp only [ul, uk]; rfl)) ?_; (with_reducible refine (bound_is.calls _ _ l0 t102 3 true _ ?side1 ?side2 A6.out).mono ?_); (case side1 => repeat (first | exact (Kd.C_below HR0.out HB.out) | (with_reducible refine Kd.C_alloc ?_ _) | (with_reducible refine Kd.C_drewN ?_ _) | (with_reducible refine Kd.C_drew ?_))); (case side2 => exact HC0.out); rintro e w' ⟨rfl, ⟨nd, rfl⟩⟩; refine ⟨_, rfl, ?_⟩; have q15 : (t102 : Int) ≤ ((l0.length : Int) : Int) := uh (by first | (with_reducible assumption) | assumption); obtain ⟨i015, hi015, _, hsz15, _⟩ := info_parts info25; have hroom15 : l0.length ≤ c0 := HC0.out; have hC15 : Kd.C k25 _ A0 l0.length l0 := HR0.out; have ql15 : ((ji8) : Int) ≤ (t102 : Int) := uh (by first | (with_reducible assumption) | assumption); have q015 : (0 : Int) ≤ ((ji8) : Int) := uh (by first | (with_reducible assumption) | assumption); have hcut15 := cut_mid (P := Try.prog) 22 25 .i64 .i64 Try.underlying22 hi015 6 hsz15 A0 l0.length c0 (ji8) t102 q015 ql15 q15 hroom15; have hr15 := Kd.C_mid (lo := ((ji8) : Int).toNat) (hi := (t102 : Int).toNat) (c := c0) hC15 (by omega) (by omega) hroom15; obtain ⟨A15, hA15⟩ : ∃ A1, A1 = (if c0 = ((ji8) : Int).toNat then A0 else (A0 : Option Addr).map (·.add (((ji8) : Int).toNat * 6))) := ⟨_, rfl⟩; obtain ⟨c15, hc15⟩ : ∃ c1, c1 = c0 - ((ji8) : Int).toNat := ⟨_, rfl⟩; have hy15 : y104.length = (t102 : Int).toNat - ((ji8) : Int).toNat := (by rw [Ny104.out, ul, uk] <;> omega); rw [show ((l0).take (t102 : Int).toNat).drop ((ji8) : Int).toNat = y104 from Ny104.out.symm] at hr15; replace hr15 : Kd.C k25 _ A15 y104.length y104 := (by rw [hA15]; exact hr15); rw [← hy15, ← hA15, ← hc15] at hcut15; have HR107 := Aside0.mk hr15; have HC107 := Aside0.mk (show y104.length ≤ c15 from by rw [hy15, hc15]; exact Nat.sub_le_sub_right (Nat.le_trans (by omega) hroom15) _); clear hr15 hC15 hroom15 hi015 hsz15 hc15; have KY15 := Aside0.mk hy15; have KA15 := Aside0.mk hA15; clear hy15 hA15; replace q15 := eq_true q15) | ((with_reducible refine gate_callee (f := 19) rfl ?_); refine goesL_ (some 27) rfl rfl Try.func19 (by kernel_rfl) rfl #[.slice A15 y104.length c15] rfl (by (try simp only [ui, um, un]); first | done | rfl | (simp only [ul, uk]; rfl)) ?_; (with_reducible refine (hist_Claims.calls k1 _ _ y104 t108 _ ?side1 ?side2 A12.out).mono ?_); (case side1 => repeat (first | exact (Kd.C_below HR107.out (by repeat (first | (with_reducible first | exact HB.out | apply ub | apply ua | apply uc) | exact HB.out))) | (with_reducible refine Kd.C_alloc ?_ _) | (with_reducible refine Kd.C_drewN ?_ _) | (with_reducible refine Kd.C_drew ?_))); (case side2 => exact HC107.out); rintro e w16 ⟨v109, rfl, ho0, hb⟩; refine ⟨_, rfl, ?_⟩; have n0_ := Aside0.mk (Kd.V_lower (Kd.V_mono (ok' := fun k_ => True) ho0 (fun k_ hk_ => trivial)) (up (by repeat (first | (with_reducible first | exact HB.out | apply ub | apply ua | apply uc) | exact HB.out)))); have n1_ := Aside0.mk (uo (by repeat (first | (with_reducible first | exact HB.out | apply ub | apply ua | apply uc) | exact HB.out)) hb); clear HB; have HO110 := n0_; have HB := n1_; clear n0_ n1_; (try clear hb); (try clear hb2); (try clear hk); (try clear hi); (try clear ho0); obtain ⟨Ao17, co17, eo17⟩ := Kd.V_slice HO110.out; subst eo17))
               go_roundg k1
               case measure => have := HK1.out; omega
               case rel => exact ⟨(ji13), (ji8), (by first | rfl | (simp; done) | (simp only [← hji13] <;> (first | rfl | simp)) | (simp [*]; done)), (by first | rfl | (simp; done) | (simp only [← hji8] <;> (first | rfl | simp)) | (simp [*]; done)), H', ⟨by have := HK1.out; omega⟩, ⟨by repeat (first | (with_reducible first | exact HB.out | apply ub | apply ua | apply uc) | exact HB.out)⟩⟩
             · rw [if_neg c11] at H; exact absurd H (by simp)
           · rw [if_neg c10] at H; exact absurd H (by simp)
         · rw [if_neg c9] at H; exact absurd H (by simp)
       · replace c7 := Bool.eq_false_iff.mpr c7; subst c7; (have H1 : (bound_Behind.l0 k1 l0 x3_1 (l0.length : Int) (wrap64 (x8_1 + 1))) = some r := by rw [if_neg (show ¬ (false = true) by decide)] at H; exact H); clear H; have H := H1; clear H1; have H' := Aside0.mk H; clear H
         go_wp2_with (first | ((with_reducible refine gate_callee (f := 13) rfl ?_); refine goesL_ (some 13) rfl rfl Try.func13 (by kernel_rfl) rfl #[.slice A0 l0.length c0, .int .i64 x8_1, .int .i64 2] rfl (by (try simp only [ui, um, un]); first | done | rfl | (simp only [ul, uk]; rfl)) ?_; (with_reducible refine (bound_is.calls _ _ l0 x8_1 2 true _ ?side1 ?side2 A3.out).mono ?_); (case side1 => repeat (first | exact (Kd.C_below HR0.out HB.out) | (with_reducible refine Kd.C_alloc ?_ _) | (with_reducible refine Kd.C_drewN ?_ _) | (with_reducible refine Kd.C_drew ?_))); (case side2 => exact HC0.out); rintro e w' ⟨rfl, ⟨nd, rfl⟩⟩; refine ⟨_, rfl, ?_⟩) | ((with_reducible refine gate_callee (f := 17) rfl ?_); refine goesL_ (some 17) rfl rfl Try.func17 (by kernel_rfl) rfl #[.slice A0 l0.length c0, .int .i64 x8_1] rfl (by (try simp only [ui, um, un]); first | done | rfl | (simp only [ul, uk]; rfl)) ?_; (with_reducible refine (bound_next.calls k1 _ _ l0 x8_1 t102 _ ?side1 ?side2 A5.out).mono ?_); (case side1 => repeat (first | exact (Kd.C_below HR0.out (by repeat (first | (with_reducible first | exact HB.out | apply ub | apply ua | apply uc) | exact HB.out))) | (with_reducible refine Kd.C_alloc ?_ _) | (with_reducible refine Kd.C_drewN ?_ _) | (with_reducible refine Kd.C_drew ?_))); (case side2 => exact HC0.out); rintro e w18 ⟨rfl, hb⟩; refine ⟨_, rfl, ?_⟩; have n0_ := Aside0.mk (uo (by repeat (first | (with_reducible first | exact HB.out | apply ub | apply ua | apply uc) | exact HB.out)) hb); clear HB; have HB := n0_; clear n0_; (try clear hb); (try clear hb2); (try clear hk); (try clear hi)) | ((with_reducible refine gate_callee (f := 13) rfl ?_); refine goesL_ (some 20) rfl rfl Try.func13 (by kernel_rfl) rfl #[.slice A0 l0.length c0, .int .i64 t102, .int .i64 3] rfl (by (try simp only [ui, um, un]); first | done | rfl | (simp only [ul, uk]; rfl)) ?_; (with_reducible refine (bound_is.calls _ _ l0 t102 3 false _ ?side1 ?side2 A6.out).mono ?_); (case side1 => repeat (first | exact (Kd.C_below HR0.out HB.out) | (with_reducible refine Kd.C_alloc ?_ _) | (with_reducible refine Kd.C_drewN ?_ _) | (with_reducible refine Kd.C_drew ?_))); (case side2 => exact HC0.out); rintro e w' ⟨rfl, ⟨nd, rfl⟩⟩; refine ⟨_, rfl, ?_⟩))
         go_roundg k1
         case measure => have := HK1.out; omega
         case rel => exact ⟨(x3_1), (wrap64 (x8_1 + 1)), (by first | rfl | (simp; done) | (simp [*]; done)), (by first | rfl | (simp; done) | (simp [*]; done)), H', ⟨by have := HK1.out; omega⟩, ⟨by repeat (first | (with_reducible first | exact HB.out | apply ub | apply ua | apply uc) | exact HB.out)⟩⟩
     · replace c4 := Bool.eq_false_iff.mpr c4; subst c4; (have H1 : (bound_Behind.l0 k1 l0 x3_1 (l0.length : Int) (wrap64 (x8_1 + 1))) = some r := by rw [if_neg (show ¬ (false = true) by decide)] at H; exact H); clear H; have H := H1; clear H1; have H' := Aside0.mk H; clear H
       go_wp2_with (first | ((with_reducible refine gate_callee (f := 13) rfl ?_); refine goesL_ (some 13) rfl rfl Try.func13 (by kernel_rfl) rfl #[.slice A0 l0.length c0, .int .i64 x8_1, .int .i64 2] rfl (by (try simp only [ui, um, un]); first | done | rfl | (simp only [ul, uk]; rfl)) ?_; (with_reducible refine (bound_is.calls _ _ l0 x8_1 2 false _ ?side1 ?side2 A3.out).mono ?_); (case side1 => repeat (first | exact (Kd.C_below HR0.out HB.out) | (with_reducible refine Kd.C_alloc ?_ _) | (with_reducible refine Kd.C_drewN ?_ _) | (with_reducible refine Kd.C_drew ?_))); (case side2 => exact HC0.out); rintro e w' ⟨rfl, ⟨nd, rfl⟩⟩; refine ⟨_, rfl, ?_⟩))
       go_roundg k1
       case measure => have := HK1.out; omega
       case rel => exact ⟨(x3_1), (wrap64 (x8_1 + 1)), (by first | rfl | (simp; done) | (simp [*]; done)), (by first | rfl | (simp; done) | (simp [*]; done)), H', ⟨by have := HK1.out; omega⟩, ⟨by repeat (first | (with_reducible first | exact HB.out | apply ub | apply ua | apply uc) | exact HB.out)⟩⟩
   · rw [if_neg c2] at H; have c2b0 : decide (x8_1 < (l0.length : Int)) = false := decide_eq_false c2; clear c2; obtain rfl := Option.some.inj H
     go_wp2
     go_ret
     exact ⟨by first | rfl | (simp [errW_none, errW_some] <;> rfl) | (simp [*, errW_none, errW_some] <;> rfl), by repeat (first | (with_reducible first | exact HB.out | apply ub | apply ua | apply uc) | exact HB.out)⟩
end Go.Proofs.Ytidjppjijeepnaa.V
end
section
namespace Go.Proofs.Ytidjppjijeepnaa.V
open Go.RowKit Go.Proofs.YtidjppjijeepnaaW.PrintWords Go.Proofs.YtidjppjijeepnaaW.PrintLast Go.Proofs.YtidjppjijeepnaaW.PrintMore
attribute [local go_sem] max2_int min2_int max_two min_two max_three min_three max_four min_four
set_option linter.unusedVariables false
set_option linter.unusedSimpArgs false
def age_Slack.f (a0 : Int) : Option (Int) := some (IntKind.u64.wrap ((IntKind.u64.wrap (2 ^ (mn (mx a0 0) 7).toNat)) - 1))
set_option maxHeartbeats 8000000 in
set_option maxRecDepth 100000 in
theorem age_Slack.calls (a0 : Int) (r : Int) (w : World) (h : age_Slack.f a0 = some r) :
 Calls Try.prog 26 #[.int .i64 a0] w fun e w' => e = .returned (.int .u64 r) ∧ Below w.heap.size w w' := by
 have HB := Aside0.mk (Below.refl w.heap.size w); have H : (some (IntKind.u64.wrap ((IntKind.u64.wrap (2 ^ (mn (mx a0 0) 7).toNat)) - 1))) = some r := h; clear h; obtain ⟨ji2, hji2⟩ : ∃ j_ : Int, (mx a0 0) = j_ := ⟨_, rfl⟩; (replace H : (some (IntKind.u64.wrap ((IntKind.u64.wrap (2 ^ (mn (ji2) 7).toNat)) - 1))) = some r := by first | (rw [hji2] at H; exact H) | (simp only [hji2] at H ⊢; exact H)); (try (have hji2l : 0 ≤ ji2 := by (rw [← hji2]; unfold mx; (repeat' split) <;> omega))); (try (have hji2m : 0 ≤ ji2 := by omega)); have hji2_ : (if a0 < 0 then 0 else a0) = ji2 := hji2; obtain ⟨ji3, hji3⟩ : ∃ j_ : Int, (mn (ji2) 7) = j_ := ⟨_, rfl⟩; (replace H : (some (IntKind.u64.wrap ((IntKind.u64.wrap (2 ^ (ji3).toNat)) - 1))) = some r := by first | (rw [hji3] at H; exact H) | (simp only [hji3] at H ⊢; exact H)); have hji3_ : (if 7 < (ji2) then 7 else (ji2)) = ji3 := hji3; obtain rfl := Option.some.inj H; go_enter Try.func26, Try.ntmps26
 go_wp2
 go_ret
 exact ⟨by first | rfl | (simp [errW_none, errW_some] <;> rfl) | (simp only [← hji2, ← hji3]; first | rfl | (simp [errW_none, errW_some] <;> rfl)) | (simp [*, errW_none, errW_some] <;> rfl), by repeat (first | (with_reducible first | exact HB.out | apply ub | apply ua | apply uc) | exact HB.out)⟩
def age_within.f (a0 : Int) : Option (Int) := some (mn (mx a0 0) 1000)
set_option maxHeartbeats 8000000 in
set_option maxRecDepth 100000 in
theorem age_within.calls (a0 : Int) (r : Int) (w : World) (h : age_within.f a0 = some r) :
 Calls Try.prog 27 #[.int .i64 a0] w fun e w' => e = .returned (.int .i64 r) ∧ Below w.heap.size w w' := by
 have HB := Aside0.mk (Below.refl w.heap.size w); have H : (some (mn (mx a0 0) 1000)) = some r := h; clear h; obtain ⟨ji2, hji2⟩ : ∃ j_ : Int, (mx a0 0) = j_ := ⟨_, rfl⟩; (replace H : (some (mn (ji2) 1000)) = some r := by first | (rw [hji2] at H; exact H) | (simp only [hji2] at H ⊢; exact H)); (try (have hji2l : 0 ≤ ji2 := by (rw [← hji2]; unfold mx; (repeat' split) <;> omega))); (try (have hji2m : 0 ≤ ji2 := by omega)); have hji2_ : (if a0 < 0 then 0 else a0) = ji2 := hji2; obtain ⟨ji3, hji3⟩ : ∃ j_ : Int, (mn (ji2) 1000) = j_ := ⟨_, rfl⟩; (replace H : (some ji3) = some r := by first | (rw [hji3] at H; exact H) | (simp only [hji3] at H ⊢; exact H)); have hji3_ : (if 1000 < (ji2) then 1000 else (ji2)) = ji3 := hji3; obtain rfl := Option.some.inj H; go_enter Try.func27, Try.ntmps27
 go_wp2
 go_ret
 exact ⟨by first | rfl | (simp [errW_none, errW_some] <;> rfl) | (simp only [← hji2, ← hji3]; first | rfl | (simp [errW_none, errW_some] <;> rfl)) | (simp [*, errW_none, errW_some] <;> rfl), by repeat (first | (with_reducible first | exact HB.out | apply ub | apply ua | apply uc) | exact HB.out)⟩
def age_Beta.f (a0 : Int) (a1 : Int) (a2 : Int) : Option (Int) := (age_Slack.f a0).bind fun t101 => ((age_within.f a1).bind fun t102 => ((age_within.f a2).bind fun t103 => (some (wrap64 ((wrap64 ((wrap64 (t101)) + t102)) + (wrap64 (2 * t103)))))))
set_option maxHeartbeats 8000000 in
set_option maxRecDepth 100000 in
theorem age_Beta.calls (a0 : Int) (a1 : Int) (a2 : Int) (r : Int) (w : World) (h : age_Beta.f a0 a1 a2 = some r) :
 Calls Try.prog 20 #[.int .i64 a0, .int .i64 a1, .int .i64 a2] w fun e w' => e = .returned (.int .i64 r) ∧ Below w.heap.size w w' := by
 have HB := Aside0.mk (Below.refl w.heap.size w); have H : ((age_Slack.f a0).bind fun t101 => ((age_within.f a1).bind fun t102 => ((age_within.f a2).bind fun t103 => (some (wrap64 ((wrap64 ((wrap64 (t101)) + t102)) + (wrap64 (2 * t103)))))))) = some r := h; clear h; replace H := Option.bind_eq_some_iff.mp H; obtain ⟨t101, A40, H⟩ := H; replace H : ((age_within.f a1).bind fun t102 => ((age_within.f a2).bind fun t103 => (some (wrap64 ((wrap64 ((wrap64 (t101)) + t102)) + (wrap64 (2 * t103))))))) = some r := H; have A4 := Aside0.mk A40; clear A40; replace H := Option.bind_eq_some_iff.mp H; obtain ⟨t102, A50, H⟩ := H; replace H : ((age_within.f a2).bind fun t103 => (some (wrap64 ((wrap64 ((wrap64 (t101)) + t102)) + (wrap64 (2 * t103)))))) = some r := H; have A5 := Aside0.mk A50; clear A50; replace H := Option.bind_eq_some_iff.mp H; obtain ⟨t103, A60, H⟩ := H; replace H : (some (wrap64 ((wrap64 ((wrap64 (t101)) + t102)) + (wrap64 (2 * t103))))) = some r := H; have A6 := Aside0.mk A60; clear A60; obtain rfl := Option.some.inj H; go_enter Try.func20, Try.ntmps20
 go_wp2_with (first | ((with_reducible refine gate_callee (f := 26) rfl ?_); refine goesL_ (some 8) rfl rfl Try.func26 (by kernel_rfl) rfl #[.int .i64 a0] rfl (by (try simp only [ui, um, un]); first | done | rfl | (simp only [ul, uk]; rfl)) ?_; (with_reducible refine (age_Slack.calls a0 t101 _ A4.out).mono ?_); rintro e w7 ⟨rfl, hb⟩; refine ⟨_, rfl, ?_⟩; have n0_ := Aside0.mk (uo (by repeat (first | (with_reducible first | exact HB.out | apply ub | apply ua | apply uc) | exact HB.out)) hb); clear HB; have HB := n0_; clear n0_; (try clear hb); (try clear hb2); (try clear hk); (try clear hi)) | ((with_reducible refine gate_callee (f := 27) rfl ?_); refine goesL_ (some 11) rfl rfl Try.func27 (by kernel_rfl) rfl #[.int .i64 a1] rfl (by (try simp only [ui, um, un]); first | done | rfl | (simp only [ul, uk]; rfl)) ?_; (with_reducible refine (age_within.calls a1 t102 _ A5.out).mono ?_); rintro e w8 ⟨rfl, hb⟩; refine ⟨_, rfl, ?_⟩; have n0_ := Aside0.mk (uo (by repeat (first | (with_reducible first | exact HB.out | apply ub | apply ua | apply uc) | exact HB.out)) hb); clear HB; have HB := n0_; clear n0_; (try clear hb); (try clear hb2); (try clear hk); (try clear hi)) | ((with_reducible refine gate_callee (f := 27) rfl ?_); refine goesL_ (some 14) rfl rfl Try.func27 (by kernel_rfl) rfl #[.int .i64 a2] rfl (by (try simp only [ui, um, un]); first | done | rfl | (simp only [ul, uk]; rfl)) ?_; (with_reducible refine (age_within.calls a2 t103 _ A6.out).mono ?_); rintro e w9 ⟨rfl, hb⟩; refine ⟨_, rfl, ?_⟩; have n0_ := Aside0.mk (uo (by repeat (first | (with_reducible first | exact HB.out | apply ub | apply ua | apply uc) | exact HB.out)) hb); clear HB; have HB := n0_; clear n0_; (try clear hb); (try clear hb2); (try clear hk); (try clear hi)))
 go_ret
 exact ⟨by first | rfl | (simp [errW_none, errW_some] <;> rfl) | (simp [*, errW_none, errW_some] <;> rfl), by repeat (first | (with_reducible first | exact HB.out | apply ub | apply ua | apply uc) | exact HB.out)⟩
end Go.Proofs.Ytidjppjijeepnaa.V
end
section
set_option linter.unusedVariables false
set_option linter.unusedSimpArgs false
namespace Go.Proofs.Ytidjppjijeepnaa.V
open Go.RowKit Go.Proofs.YtidjppjijeepnaaW.PrintWords Go.Proofs.YtidjppjijeepnaaW.PrintLast Go.Proofs.YtidjppjijeepnaaW.PrintMore
abbrev Cd := Nat × Nat × Nat × Nat
def mkE (c : Cd) : S25 := ⟨(c.1 : Int), if c.1 = 1 then -1 else 0, (c.2.1 : Int), (c.2.2.1 : Int), (c.2.2.2 : Int), 0⟩
def nxt (id : Nat) : List Cd → Nat
  | [] => 0
  | x :: r => if x.2.1 == id then 0 else nxt id r + 1
def idAt (L : List Cd) (at_ : Nat) : Nat := match L[at_]? with | some x => x.2.1 | none => 0
def kdAt (L : List Cd) (at_ : Nat) : Nat := match L[at_]? with | some x => x.1 | none => 0
def nextN (L : List Cd) (at_ : Nat) : Nat := at_ + 1 + nxt (idAt L at_) (L.drop (at_ + 1))
def midN (L : List Cd) (at_ : Nat) : List Cd := (L.drop (at_ + 1)).take (nxt (idAt L at_) (L.drop (at_ + 1)))
def wsN : List Cd → List Nat → Nat → Nat
  | [], _, n => n
  | x :: r, S, n => if x.1 == 2 then wsN r (x.2.1 :: S) n else if x.1 == 3 && S.elem x.2.1 then wsN r S (n + 1) else wsN r S n
def waitN (L : List Cd) (at_ : Nat) : Int := if kdAt L at_ = 2 then ((wsN (midN L at_) [] 0 : Nat) : Int) else -1
def clN (L : List Cd) : List Cd := L.filter (fun x => x.1 == 3)
def bhN (L : List Cd) (at_ : Nat) : Nat := if kdAt L at_ = 2 ∧ kdAt L (nextN L at_) = 3 then (clN (midN L at_)).length else 0
def behN (L : List Cd) : Nat → Nat → Nat → Nat
  | 0, _, m => m
  | d + 1, at_, m => behN L d (at_ + 1) (max m (bhN L at_))
def FewK (L : List Cd) : Prop := (∀ x ∈ L, x.1 ≤ 3 ∧ x.2.1 ≤ 1000) ∧ L.length ≤ 1000
theorem nxt_le (id : Nat) (l : List Cd) : nxt id l ≤ l.length := by
 induction l with
 | nil => exact Nat.le_refl _
 | cons x r ih =>
  unfold nxt
  split
  · omega
  · rw [List.length_cons]; omega
theorem rdE (L : List Cd) (i : Nat) (c : Cd) (h : L[i]? = some c) : rd_T25 (L.map mkE) (i : Int) = mkE c := by
 unfold rd_T25
 rw [Int.toNat_natCast, List.getD_eq_getElem?_getD, List.getElem?_map, h]; rfl
theorem wrap_in {x : Int} (h0 : -4611686018427387904 ≤ x) (h1 : x < 4611686018427387904) : wrap64 x = x := by unfold wrap64; omega
theorem next_loop (L : List Cd) (hf : FewK L) (id : Nat) : ∀ (d k i : Nat), L.length - i = d → i ≤ L.length → d < k → bound_next.l0 k (L.map mkE) (i : Int) (id : Int) = some ((i + nxt id (L.drop i) : Nat) : Int) := by
 have hl := hf.2
 intro d
 induction d with
 | zero =>
  intro k i hd hi hk
  obtain ⟨k, rfl⟩ : ∃ j, k = j + 1 := ⟨k - 1, by omega⟩
  simp only [bound_next.l0, List.length_map]
  rw [if_neg (by omega), List.drop_of_length_le (by omega)]
  rfl
 | succ d ih =>
  intro k i hd hi hk
  obtain ⟨k, rfl⟩ : ∃ j, k = j + 1 := ⟨k - 1, by omega⟩
  have hlt : i < L.length := by omega
  obtain ⟨c, hc⟩ : ∃ c, L[i]? = some c := ⟨_, List.getElem?_eq_getElem hlt⟩
  have hk3 := (hf.1 c (List.mem_of_getElem? hc)).1
  have hdr : L.drop i = c :: L.drop (i + 1) := by
   rw [List.drop_eq_getElem_cons hlt]
   rw [List.getElem?_eq_getElem hlt] at hc
   injection hc with hc
   rw [hc]
  have hw : wrap64 ((i : Int) + 1) = ((i + 1 : Nat) : Int) := by rw [wrap_in (by omega) (by omega)]; push_cast; rfl
  have hih := ih k (i + 1) (by omega) (by omega) (by omega)
  simp only [bound_next.l0, List.length_map]
  rw [if_pos (by omega), if_pos (by omega), rdE L i c hc, hw, hdr]
  unfold nxt
  show (if (c.2.1 : Int) = (id : Int) then (if (c.1 : Int) = 10 then _ else if (c.1 : Int) = 8 then _ else if (c.1 : Int) = 9 then _ else _) else _) = _
  by_cases he : c.2.1 = id
  · rw [if_pos (by omega), if_neg (by omega), if_neg (by omega), if_neg (by omega), if_pos (by simpa using he)]
    rfl
  · rw [if_neg (by omega), if_neg (by simpa using he), hih]
    congr 2
    omega
theorem next_told (k : Nat) (L : List Cd) (hf : FewK L) (hk : L.length < k) (at_ : Nat) (h : at_ < L.length) : bound_next.f k (L.map mkE) (at_ : Int) = some ((nextN L at_ : Nat) : Int) := by
 obtain ⟨c, hc⟩ : ∃ c, L[at_]? = some c := ⟨_, List.getElem?_eq_getElem h⟩
 have hl := hf.2
 unfold bound_next.f
 rw [List.length_map, if_pos (by omega), if_pos (by omega), rdE L at_ c hc, wrap_in (by omega) (by omega)]
 have := next_loop L hf c.2.1 (L.length - (at_ + 1)) k (at_ + 1) rfl (by omega) (by omega)
 show bound_next.l0 k (L.map mkE) ((at_ : Int) + 1) (c.2.1 : Int) = _
 rw [show (at_ : Int) + 1 = ((at_ + 1 : Nat) : Int) by push_cast; rfl, this]
 unfold nextN idAt
 rw [hc]
theorem is_told (L : List Cd) (at_ q : Nat) : bound_is.f (L.map mkE) (at_ : Int) (q : Int) = some (decide (at_ < L.length) && (kdAt L at_ == q)) := by
 unfold bound_is.f
 rw [List.length_map, if_pos (by omega)]
 by_cases h : at_ < L.length
 · obtain ⟨c, hc⟩ : ∃ c, L[at_]? = some c := ⟨_, List.getElem?_eq_getElem h⟩
   rw [if_pos (by omega), if_pos (by omega), rdE L at_ c hc]
   unfold kdAt
   rw [hc, decide_eq_true h, Bool.true_and]
   congr 1
   show ((c.1 : Int) == (q : Int)) = (c.1 == q)
   rw [Bool.eq_iff_iff, beq_iff_eq, beq_iff_eq]
   omega
 · rw [if_neg (by omega), decide_eq_false h]; rfl
theorem nextN_bd (L : List Cd) (at_ : Nat) (h : at_ < L.length) : at_ + 1 ≤ nextN L at_ ∧ nextN L at_ ≤ L.length := by
 have := nxt_le (idAt L at_) (L.drop (at_ + 1))
 rw [List.length_drop] at this
 unfold nextN
 omega
theorem mid_eq (L : List Cd) (at_ : Nat) : ((L.map mkE).take (nextN L at_)).drop (at_ + 1) = (midN L at_).map mkE := by
 unfold nextN midN
 rw [List.map_take, List.map_drop, List.drop_take]
 congr 1
 omega
theorem midN_few {L : List Cd} (hf : FewK L) (at_ : Nat) : FewK (midN L at_) := by
 refine ⟨fun x hx => hf.1 x ?_, ?_⟩
 · unfold midN at hx
   exact List.mem_of_mem_drop (List.mem_of_mem_take hx)
 · unfold midN
   have := hf.2
   rw [List.length_take, List.length_drop]
   omega
def clE (c : Cd) : S39 := ⟨(c.2.2.1 : Int), (c.2.1 : Int)⟩
theorem claims_loop (L : List Cd) (hf : FewK L) : ∀ (d k i : Nat) (X : List S39), L.length - i = d → i ≤ L.length → d < k → X.length ≤ i → hist_Claims.l0 k X (L.map mkE) (L.length : Int) (i : Int) = some (X ++ (clN (L.drop i)).map clE) := by
 have hl := hf.2
 intro d
 induction d with
 | zero =>
  intro k i X hd hi hk hX
  obtain ⟨k, rfl⟩ : ∃ j, k = j + 1 := ⟨k - 1, by omega⟩
  simp only [hist_Claims.l0, List.length_map]
  rw [if_neg (by omega), List.drop_of_length_le (by omega)]
  show ((api_Entry.f X).bind fun t => some t) = some (X ++ [])
  rw [List.append_nil]
  unfold api_Entry.f
  simp
 | succ d ih =>
  intro k i X hd hi hk hX
  obtain ⟨k, rfl⟩ : ∃ j, k = j + 1 := ⟨k - 1, by omega⟩
  have hlt : i < L.length := by omega
  obtain ⟨c, hc⟩ : ∃ c, L[i]? = some c := ⟨_, List.getElem?_eq_getElem hlt⟩
  have hdr : L.drop i = c :: L.drop (i + 1) := by
   rw [List.drop_eq_getElem_cons hlt]
   rw [List.getElem?_eq_getElem hlt] at hc
   injection hc with hc
   rw [hc]
  have hw : wrap64 ((i : Int) + 1) = ((i + 1 : Nat) : Int) := by rw [wrap_in (by omega) (by omega)]; push_cast; rfl
  simp only [hist_Claims.l0, List.length_map]
  rw [if_pos (by omega), if_pos (by omega), if_pos (by omega), rdE L i c hc, hw, hdr]
  show ((hist_claimed.f (c.1 : Int)).bind _) = _
  unfold hist_claimed.f
  rw [Option.bind_some]
  by_cases h3 : c.1 = 3
  · have h3' : ((c.1 : Int) == 3) = true := by rw [beq_iff_eq]; omega
    rw [if_pos h3', if_pos (by omega), ih k (i + 1) _ (by omega) (by omega) (by omega) (by simp; omega)]
    unfold clN
    rw [List.filter_cons_of_pos (by simpa using h3), List.map_cons, List.append_assoc]
    rfl
  · have h3' : ¬ ((c.1 : Int) == 3) = true := by rw [beq_iff_eq]; omega
    rw [if_neg h3', ih k (i + 1) X (by omega) (by omega) (by omega) (by omega)]
    unfold clN
    rw [List.filter_cons_of_neg (by simpa using h3)]
theorem claims_told (k : Nat) (L : List Cd) (hf : FewK L) (hk : L.length < k) : hist_Claims.f k (L.map mkE) = some ((clN L).map clE) := by
 unfold hist_Claims.f
 have := claims_loop L hf L.length k 0 [] (by omega) (by omega) hk (Nat.le_refl _)
 rw [List.length_map]
 simpa using this
theorem behind_loop (L : List Cd) (hf : FewK L) : ∀ (d k i m : Nat), L.length - i = d → i ≤ L.length → d + L.length < k → bound_Behind.l0 k (L.map mkE) (m : Int) (L.length : Int) (i : Int) = some ((behN L d i m : Nat) : Int) := by
 have hl := hf.2
 intro d
 induction d with
 | zero =>
  intro k i m hd hi hk
  obtain ⟨k, rfl⟩ : ∃ j, k = j + 1 := ⟨k - 1, by omega⟩
  simp only [bound_Behind.l0]
  rw [if_neg (by omega)]
  rfl
 | succ d ih =>
  intro k i m hd hi hk
  obtain ⟨k, rfl⟩ : ∃ j, k = j + 1 := ⟨k - 1, by omega⟩
  have hlt : i < L.length := by omega
  have hw : wrap64 ((i : Int) + 1) = ((i + 1 : Nat) : Int) := by rw [wrap_in (by omega) (by omega)]; push_cast; rfl
  have hnb := nextN_bd L i hlt
  simp only [bound_Behind.l0]
  rw [if_pos (by omega)]
  have h2 := is_told L i 2
  rw [decide_eq_true hlt, Bool.true_and] at h2
  rw [show ((2 : Nat) : Int) = 2 from rfl] at h2
  rw [h2, Option.bind_some]
  show _ = some ((behN L d (i + 1) (max m (bhN L i)) : Nat) : Int)
  by_cases hk2 : kdAt L i = 2
  · rw [if_pos (by simpa using hk2), next_told k L hf (by omega) i hlt, Option.bind_some]
    have h3 := is_told L (nextN L i) 3
    rw [show ((3 : Nat) : Int) = 3 from rfl] at h3
    rw [h3, Option.bind_some]
    by_cases hk3 : kdAt L (nextN L i) = 3
    · have hn : nextN L i < L.length := by
       rcases Nat.lt_or_ge (nextN L i) L.length with h | h
       · exact h
       · unfold kdAt at hk3
         rw [List.getElem?_eq_none h] at hk3
         cases hk3
      rw [if_pos (by rw [decide_eq_true hn]; simpa using hk3), hw, if_pos (by omega), if_pos (by omega), if_pos (by rw [List.length_map]; omega)]
      rw [Int.toNat_natCast, Int.toNat_natCast, mid_eq, claims_told k _ (midN_few hf i) (by have := (midN_few hf i).2; have h5 : (midN L i).length ≤ L.length := by { unfold midN; rw [List.length_take, List.length_drop]; omega }; omega), Option.bind_some]
      have hm : mx (m : Int) ((((clN (midN L i)).map clE).length : Nat) : Int) = ((max m (bhN L i) : Nat) : Int) := by
       unfold bhN
       rw [if_pos ⟨hk2, hk3⟩, List.length_map]
       unfold mx
       omega
      rw [hm]
      exact ih k (i + 1) _ (by omega) (by omega) (by omega)
    · rw [if_neg (by simp [hk3]), hw]
      have hm : max m (bhN L i) = m := by
       unfold bhN
       rw [if_neg (fun h => hk3 h.2)]
       omega
      rw [hm]
      exact ih k (i + 1) _ (by omega) (by omega) (by omega)
  · rw [if_neg (by simpa using hk2), hw]
    have hm : max m (bhN L i) = m := by
     unfold bhN
     rw [if_neg (fun h => hk2 h.1)]
     omega
    rw [hm]
    exact ih k (i + 1) _ (by omega) (by omega) (by omega)
theorem behind_told (k : Nat) (L : List Cd) (hf : FewK L) (hk : 2 * L.length < k) : bound_Behind.f k (L.map mkE) = some ((behN L L.length 0 0 : Nat) : Int) := by
 unfold bound_Behind.f
 rw [List.length_map]
 exact behind_loop L hf L.length k 0 0 (by omega) (by omega) (by omega)
theorem age_told : age_Beta.f 0 1 1 = some 3 := by kernel_rfl
end Go.Proofs.Ytidjppjijeepnaa.V
end
section
set_option linter.unusedVariables false
set_option linter.unusedSimpArgs false
namespace Go.Proofs.Ytidjppjijeepnaa.V
open Go.RowKit Go.Proofs.YtidjppjijeepnaaW.PrintWords Go.Proofs.YtidjppjijeepnaaW.PrintLast Go.Proofs.YtidjppjijeepnaaW.PrintMore
open Go.Maps (Keyed IsMap)
def MapB (P : Program) (k e : TypeId) (w : World) (b n : Nat) (f : Int → Bool) : Prop :=
  ∃ D : DataW Unit, w.ownsMap P k (plainElem P e) b n D ∧ ∀ x, D.atKey (.int .i64 x) (.lit (.bool false)) = .lit (.bool (f x))
theorem MapB.made (P : Program) (k e : TypeId) (w : World) : MapB P k e (w.alloc (.map #[] 0)) w.heap.size 0 (fun _ => false) :=
 ⟨_, World.ownsMap_made _ _ _ _, fun x => rfl⟩
theorem MapB.kept {P : Program} {k e : TypeId} {w w' : World} {b n : Nat} {f : Int → Bool} {row : Option Nat} (h : MapB P k e w b n f) (hg : w.grownBy w' row) (hne : some b ≠ row) : MapB P k e w' b n f := by
 obtain ⟨D, h1, h2⟩ := h
 exact ⟨D, h1.kept hg hne, h2⟩
theorem plainElem_bool_inv {H : Type} {P : Program} {e : TypeId} (he : P.underlying e = some .bool) {v : Value} {z : DataW H × List MemPlace} (h : plainElem P e v = some z) : ∃ a, v = .bool a ∧ z = (.lit (.bool a), []) := by
 cases v <;> simp [plainElem, he] at h
 exact ⟨_, rfl, h.symm⟩
theorem MapB.look {P : Program} {k e t : TypeId} {w : World} {b n : Nat} {f : Int → Bool} (h : MapB P k e w b n f) (K : Keyed P k) (ht : P.underlying t = some (.map k e)) (he : P.underlying e = some .bool)
 (hz : (zeroValue e).run P w = .ok (.bool false) w) {x : Int} (hkey : keyOf P k (.int .i64 x) = some (.int .i64 x)) :
 (Instr.lookup t (.map (some b)) (.int .i64 x) false).run P w = .ok (.bool (f x)) w := by
 obtain ⟨D, h1, h2⟩ := h
 obtain ⟨v, ps, hrun, hv⟩ := h1.lookup K ht hz (plainElem_bool he false) hkey
 obtain ⟨a, rfl, ha⟩ := plainElem_bool_inv he hv
 simp only [Prod.mk.injEq] at ha
 rw [h2] at ha
 have e1 := ha.1
 simp only [DataW.lit.injEq, Lit.bool.injEq] at e1
 rw [e1]
 exact hrun
theorem MapB.store {P : Program} {k e t : TypeId} {w : World} {b n : Nat} {f : Int → Bool} (h : MapB P k e w b n f) (K : Keyed P k) (ht : P.underlying t = some (.map k e)) (he : P.underlying e = some .bool)
 (hn : n < maxLen) {x : Int} (hkey : keyOf P k (.int .i64 x) = some (.int .i64 x)) (v : Bool) :
 ∃ w', (Instr.mapUpdate t (.map (some b)) (.int .i64 x) (.bool v)).run P w = .ok () w' ∧ MapB P k e w' b (n + 1) (fun y => if y = x then v else f y) ∧ w.grownBy w' (some b) := by
 obtain ⟨D, h1, h2⟩ := h
 obtain ⟨w', hrun, h3, h4⟩ := h1.update K ht hn hkey (plainElem_bool he v)
 refine ⟨w', hrun, ⟨_, h3, fun y => ?_⟩, h4⟩
 by_cases hy : y = x
 · subst hy
   rw [Maps.atKey_put_same (h1.isMap) (by simp [WideAt.IsKeyLit])]
   simp
 · rw [Maps.atKey_put_other (by simpa using hy), h2]
   simp [hy]
end Go.Proofs.Ytidjppjijeepnaa.V
end
section
set_option linter.unusedVariables false
set_option linter.unusedSimpArgs false
namespace Go.Proofs.Ytidjppjijeepnaa.V
open Go.RowKit Go.Proofs.YtidjppjijeepnaaW.PrintWords Go.Proofs.YtidjppjijeepnaaW.PrintLast Go.Proofs.YtidjppjijeepnaaW.PrintMore
open Go.Maps (Keyed IsMap)
theorem lawI : Keyed Try.prog 3 := Go.Maps.int_keyed Try.underlying3
theorem wfI {n : Nat} (h : n ≤ 1000000) : (Lit.int .i64 (n : Int)).wf = true := by
 have h0 : IntKind.i64.min = -9223372036854775808 := by decide
 have h1 : IntKind.i64.max = 9223372036854775807 := by decide
 simp only [Lit.wf, decide_eq_true_eq, Bool.and_eq_true]
 rw [h0, h1]
 omega
theorem zeroB (w : World) : (zeroValue 4).run Try.prog w = .ok (.bool false) w := by
 obtain ⟨i0, hi, hz⟩ := Option.map_eq_some_iff.1 (show (Try.prog.info? 4).map (fun i => i.zero) = some (some (.bool false)) from by kernel_rfl)
 simp [zeroValue, typeInfo, hi, hz]
theorem MapB.move {P : Program} {k e : TypeId} {w w' : World} {b n : Nat} {f : Int → Bool} (h : MapB P k e w b n f) (hh : w'.heap[b]? = w.heap[b]?) : MapB P k e w' b n f := by
 obtain ⟨D, ⟨es, clock, h1, h2⟩, h3⟩ := h
 exact ⟨D, ⟨es, clock, hh.trans h1, h2⟩, h3⟩
theorem MapB.lt {P : Program} {k e : TypeId} {w : World} {b n : Nat} {f : Int → Bool} (h : MapB P k e w b n f) : b < w.heap.size := by
 obtain ⟨D, h1, h2⟩ := h
 exact h1.lt
def inS (S : List Nat) (x : Int) : Bool := S.any (fun s => (s : Int) == x)
structure WtSt (w wr : World) (b n : Nat) (S : List Nat) : Prop where
  mp : MapB Try.prog 3 4 wr b n (inS S)
  bel : Below w.heap.size w wr
  lo : w.heap.size ≤ b
theorem WtSt.below {w wr w1 : World} {b n : Nat} {S : List Nat} (h : WtSt w wr b n S) (hb : Below wr.heap.size wr w1) : WtSt w w1 b n S := ⟨h.mp.move (hb.block b h.mp.lt), below_step h.bel hb, h.lo⟩
theorem WtSt.store {w wr : World} {b n : Nat} {S : List Nat} (h : WtSt w wr b n S) (hn : n ≤ 1000) (id : Nat) (hid : id ≤ 1000) :
 ∃ w', (Instr.mapUpdate 43 (.map (some b)) (.int .i64 (id : Int)) (.bool true)).run Try.prog wr = .ok () w' ∧ WtSt w w' b (n + 1) (id :: S) := by
 obtain ⟨w', h1, h2, h3⟩ := h.mp.store (t := 43) lawI Try.underlying43 Try.underlying4 (show n < maxLen by unfold maxLen; omega) (Go.Maps.keyOf_int_mk Try.underlying3 (wfI (n := id) (by omega))) true
 refine ⟨w', h1, ⟨?_, pw_below_grown h.bel _ h.bel.size h3 (fun k hk => by injection hk with hk; rw [← hk]; exact h.lo), h.lo⟩⟩
 have he : (fun y => if y = (id : Int) then true else inS S y) = inS (id :: S) := by
  funext y
  unfold inS
  rw [List.any_cons]
  by_cases hy : y = (id : Int)
  · subst hy; simp
  · rw [if_neg hy, show ((id : Int) == y) = false by rw [beq_eq_false_iff_ne]; exact fun e => hy e.symm, Bool.false_or]
 rw [← he]
 exact h2
theorem WtSt.look {w wr : World} {b n : Nat} {S : List Nat} (h : WtSt w wr b n S) (id : Nat) (hid : id ≤ 1000) :
 (Instr.lookup 43 (.map (some b)) (.int .i64 (id : Int)) false).run Try.prog wr = .ok (.bool (inS S (id : Int))) wr :=
 h.mp.look (t := 43) lawI Try.underlying43 Try.underlying4 (zeroB wr) (Go.Maps.keyOf_int_mk Try.underlying3 (wfI (n := id) (by omega)))
theorem inS_elem (S : List Nat) (id : Nat) : inS S (id : Int) = S.elem id := by
 unfold inS
 induction S with
 | nil => rfl
 | cons s r ih =>
  rw [List.any_cons, ih, List.elem_cons]
  have : ((s : Int) == (id : Int)) = (id == s) := by rw [Bool.eq_iff_iff, beq_iff_eq, beq_iff_eq]; omega
  rw [this]
  cases (id == s) <;> rfl
theorem ev_at {w : World} {A : Option Addr} {L : List Cd} (h : Kd.C k25 w A (L.map mkE).length (L.map mkE)) {i : Nat} {x : Cd} (he : L[i]? = some x) :
 ∃ ad, A = some ad ∧ w.cell? (ad.add (i * 6)) = some (.int .i64 (x.1 : Int)) ∧ w.cell? ⟨(ad.add (i * 6)).block, (ad.add (i * 6)).off + 1, none⟩ = some (.int .i64 (mkE x).f1) ∧ w.cell? ⟨(ad.add (i * 6)).block, (ad.add (i * 6)).off + 2, none⟩ = some (.int .i64 (x.2.1 : Int)) ∧ w.cell? ⟨(ad.add (i * 6)).block, (ad.add (i * 6)).off + 3, none⟩ = some (.int .u64 (x.2.2.1 : Int)) ∧ w.cell? ⟨(ad.add (i * 6)).block, (ad.add (i * 6)).off + 4, none⟩ = some (.int .u64 (x.2.2.2 : Int)) ∧ w.cell? ⟨(ad.add (i * 6)).block, (ad.add (i * 6)).off + 5, none⟩ = some (.int .u64 0) := by
 have hlt := (List.getElem?_eq_some_iff.1 he).1
 obtain ⟨ad, e1, h0, h1, h2, h3, h4, h5⟩ := at_T25 h (i : Int) (by omega) (by rw [List.length_map]; omega)
 rw [rdE L i x he, Int.toNat_natCast] at h0 h1 h2 h3 h4 h5
 exact ⟨ad, e1, h0, h1, h2, h3, h4, h5⟩
set_option maxRecDepth 100000 in
set_option maxHeartbeats 4000000 in
theorem waited_walk (L : List Cd) (hf : FewK L) (A : Option Addr) (c : Nat) (w : World) (l : List S25) (hl : l = L.map mkE) (hr : Kd.C k25 w A l.length l) (hc : l.length ≤ c) (p : Nat) (hp : p ≤ 2000) :
 Calls Try.prog 8 #[.slice A l.length c, .int .i64 p] w fun e w' => e = .returned (.int .i64 (waitN L p)) ∧ Below w.heap.size w w' := by
 have HR := Aside0.mk hr
 have hlen : l.length = L.length := by rw [hl, List.length_map]
 have HF := Aside0.mk hf
 by_cases hk : kdAt L p = 2
 · have hlt : p < L.length := by
    rcases Nat.lt_or_ge p L.length with h | h
    · exact h
    · unfold kdAt at hk
      rw [List.getElem?_eq_none h] at hk
      cases hk
   obtain ⟨nx, hnx⟩ : ∃ nx, nextN L p = nx := ⟨_, rfl⟩
   have hnb := nextN_bd L p hlt
   rw [hnx] at hnb
   have HIS := Aside0.mk (show bound_is.f l (p : Int) 2 = some true by have := is_told L p 2; rw [← hl, hk, decide_eq_true hlt] at this; exact this)
   have HNX := Aside0.mk (show bound_next.f 2000 l (p : Int) = some (nx : Int) by rw [hl, ← hnx]; exact next_told 2000 L hf (by have := hf.2; omega) p hlt)
   obtain ⟨M, hM⟩ : ∃ M, midN L p = M := ⟨_, rfl⟩
   have HWN := Aside0.mk (show waitN L p = ((wsN M [] 0 : Nat) : Int) by unfold waitN; rw [if_pos hk, hM])
   have hme : (l.take nx).drop (p + 1) = M.map mkE := by rw [← hM, hl, ← hnx]; exact mid_eq L p
   have HMF := Aside0.mk (show FewK M by rw [← hM]; exact midN_few hf p)
   have hMl : nx - (p + 1) = M.length := by
    have := congrArg List.length hme
    rw [List.length_drop, List.length_take, List.length_map] at this
    omega
   obtain ⟨i0, hi0, _, hsz, _⟩ := info_parts info25
   obtain ⟨j, hj⟩ : ∃ j : Int, IntKind.i64.wrap ((p : Int) + 1) = j := ⟨_, rfl⟩
   have hj1 : j = (p : Int) + 1 := by rw [← hj]; exact IntWalk.i64_in _ (by omega)
   have hjn : j.toNat = p + 1 := by omega
   have hcut := cut_mid (P := Try.prog) 22 25 .i64 .i64 Try.underlying22 hi0 6 hsz A l.length c j (nx : Int) (by omega) (by omega) (by omega) hc
   have hmid := Kd.C_mid (lo := p + 1) (hi := nx) (c := c) hr (by omega) (by omega) hc
   rw [hme] at hmid
   rw [hjn, Int.toNat_natCast, hMl] at hcut
   obtain ⟨A5, hA5⟩ : ∃ A5, A5 = (if c = p + 1 then A else A.map (·.add ((p + 1) * 6))) := ⟨_, rfl⟩
   obtain ⟨c5, hc5⟩ : ∃ c5, c5 = c - (p + 1) := ⟨_, rfl⟩
   rw [← hA5, ← hc5] at hcut
   have HM := Aside0.mk (show Kd.C k25 w A5 (M.map mkE).length (M.map mkE) by rw [hA5]; exact hmid)
   have HC := Aside0.mk hc
   have hM2 : M.length ≤ 1000 := HMF.out.2
   clear hr hl hf hnb hnx hM hme hMl hi0 hsz hjn hmid hA5 hc5 hj1 hlt hk hlen hc
   go_enter Try.func8, Try.ntmps8
   go_wp2_with fail
   refine (bound_is.calls A c l (p : Int) 2 true w HR.out HC.out HIS.out).mono ?_
   rintro e w1 ⟨rfl, hb⟩
   have HB1 := Aside0.mk hb.below
   clear hb
   have hmk : ∀ W : World, (Instr.makeMap 43 none).run Try.prog W = .ok (.map (some W.heap.size)) (W.alloc (.map #[] 0)) := fun W => rfl
   go_upto_region 5 with fail
   obtain ⟨b, hb⟩ : ∃ b, b = w1.heap.size := ⟨_, rfl⟩
   obtain ⟨wz, hwz⟩ : ∃ wz, wz = w1.alloc (.map #[] 0) := ⟨_, rfl⟩
   have HST := Aside0.mk (show WtSt w wz b 0 [] from by rw [hwz, hb]; exact ⟨MapB.made _ _ _ _, below_step HB1.out (below_alloc (Below.refl _ _) _), HB1.out.size⟩)
   rw [← hwz, ← hb]
   clear hwz hb hmk
   go_wp2_with fail
   refine (bound_next.calls 2000 A c l (p : Int) (nx : Int) _ (Kd.C_below HR.out HST.out.bel) HC.out HNX.out).mono ?_
   rintro e w2 ⟨rfl, hb2⟩
   have HS2 := Aside0.mk (HST.out.below hb2)
   have HW0 := Aside0.mk (show wsN (M.drop 0) [] 0 = wsN M [] 0 from rfl)
   clear hb2
   go_wp2_with fail
   go_loopw [5, 22] (fun n i wr => ∃ (m : Nat) (S : List Nat) (cnt : Nat), m ≤ M.length ∧ i = .int .i64 (m : Int) ∧ n = .int .i64 (cnt : Int) ∧ cnt ≤ m ∧ Aside0 (wsN (M.drop m) S cnt = wsN M [] 0) ∧ Aside0 (∃ q, q ≤ m ∧ WtSt w wr b q S)) (fun _ i _ => M.length - (intOf i).toNat)
   case atStart => exact ⟨0, [], 0, Nat.zero_le _, rfl, rfl, Nat.le_refl _, HW0, ⟨0, Nat.le_refl _, HS2.out⟩⟩
   case round =>
    clear HW0 HS2 hcut
    obtain ⟨m, S, cnt, hm, rfl, rfl, hcm, HW, HSR⟩ := hrel
    obtain ⟨q, hq, hst⟩ := HSR.out
    have HS := Aside0.mk hst
    by_cases hlt : m < M.length
    · obtain ⟨x, hx⟩ : ∃ x, M[m]? = some x := ⟨_, List.getElem?_eq_getElem hlt⟩
      have hxf := HMF.out.1 x (List.mem_of_getElem? hx)
      obtain ⟨ad, rfl, u0, u1, u2, u3, u4, u5⟩ := ev_at (Kd.C_below HM.out hst.bel) hx
      have hw1 : IntKind.i64.wrap ((m : Int) + 1) = (m : Int) + 1 := IntWalk.i64_in _ (by omega)
      have hw2 : IntKind.i64.wrap ((cnt : Int) + 1) = (cnt : Int) + 1 := IntWalk.i64_in _ (by omega)
      have hdr : M.drop m = x :: M.drop (m + 1) := by
       rw [List.drop_eq_getElem_cons hlt]
       rw [List.getElem?_eq_getElem hlt] at hx
       injection hx with hx
       rw [hx]
      have HD := Aside0.mk hdr
      obtain ⟨kx, ix, yx, tx⟩ := x
      simp only at u0 u1 u2 u3 u4 u5 hxf
      obtain ⟨z, hz⟩ : ∃ z, (mkE (kx, ix, yx, tx)).f1 = z := ⟨_, rfl⟩
      rw [hz] at u1
      have HB3 := Aside0.mk (below_alloc (Below.refl wr.heap.size wr) (.cells #[.int .i64 (kx : Int), .int .i64 z, .int .i64 (ix : Int), .int .u64 (yx : Int), .int .u64 (tx : Int), .int .u64 0] 25))
      have HSB := Aside0.mk (HS.out.below HB3.out)
      clear hst hx hdr hz
      by_cases h2 : kx = 2
      · subst h2
        obtain ⟨w', hrun, hst'⟩ := HSB.out.store (by omega) ix hxf.2
        rw [show ((2 : Nat) : Int) = 2 from rfl] at hrun
        have HS' := Aside0.mk hst'
        have HW' := Aside0.mk (show wsN (M.drop (m + 1)) (ix :: S) cnt = wsN M [] 0 by rw [← HW.out, HD.out]; rfl)
        clear hst'
        go_wp2
        go_roundw
        case rel => exact ⟨m + 1, ix :: S, cnt, by omega, by go_num, rfl, by omega, HW', ⟨q + 1, by omega, HS'.out⟩⟩
        case measure => simp [intOf]; omega
      · have d2 : ((kx : Int) == 2) = false := by rw [beq_eq_false_iff_ne]; omega
        have e2 : ¬ (kx : Int) = 2 := by omega
        have e2n : ¬ kx = 2 := h2
        have b2 : (kx == 2) = false := by rw [beq_eq_false_iff_ne]; omega
        by_cases h3 : kx = 3
        · subst h3
          have hlook := HSB.out.look ix hxf.2
          rw [inS_elem] at hlook
          rw [show ((3 : Nat) : Int) = 3 from rfl] at hlook
          cases hin : S.elem ix with
          | true =>
           rw [hin] at hlook
           have HW' := Aside0.mk (show wsN (M.drop (m + 1)) S (cnt + 1) = wsN M [] 0 by rw [← HW.out, HD.out]; show _ = (if ((3 : Nat) == 2) = true then wsN (M.drop (m + 1)) (ix :: S) cnt else if ((3 : Nat) == 3 && S.elem ix) = true then wsN (M.drop (m + 1)) S (cnt + 1) else wsN (M.drop (m + 1)) S cnt); rw [if_neg (by decide), hin]; rfl)
           clear hin
           go_wp2
           go_roundw
           case rel => exact ⟨m + 1, S, cnt + 1, by omega, by go_num, by go_num, by omega, HW', ⟨q, by omega, HSB.out⟩⟩
           case measure => simp [intOf]; omega
          | false =>
           rw [hin] at hlook
           have HW' := Aside0.mk (show wsN (M.drop (m + 1)) S cnt = wsN M [] 0 by rw [← HW.out, HD.out]; show _ = (if ((3 : Nat) == 2) = true then wsN (M.drop (m + 1)) (ix :: S) cnt else if ((3 : Nat) == 3 && S.elem ix) = true then wsN (M.drop (m + 1)) S (cnt + 1) else wsN (M.drop (m + 1)) S cnt); rw [if_neg (by decide), hin]; rfl)
           clear hin
           go_wp2
           go_roundw
           case rel => exact ⟨m + 1, S, cnt, by omega, by go_num, rfl, by omega, HW', ⟨q, by omega, HSB.out⟩⟩
           case measure => simp [intOf]; omega
        · have d3 : ((kx : Int) == 3) = false := by rw [beq_eq_false_iff_ne]; omega
          have e3 : ¬ (kx : Int) = 3 := by omega
          have e3n : ¬ kx = 3 := h3
          have HW' := Aside0.mk (show wsN (M.drop (m + 1)) S cnt = wsN M [] 0 by rw [← HW.out, HD.out]; show _ = (if (kx == 2) = true then wsN (M.drop (m + 1)) (ix :: S) cnt else if (kx == 3 && S.elem ix) = true then wsN (M.drop (m + 1)) S (cnt + 1) else wsN (M.drop (m + 1)) S cnt); rw [b2, show (kx == 3) = false by rw [beq_eq_false_iff_ne]; omega]; rfl)
          go_wp2
          go_roundw
          case rel => exact ⟨m + 1, S, cnt, by omega, by go_num, rfl, by omega, HW', ⟨q, by omega, HSB.out⟩⟩
          case measure => simp [intOf]; omega
    · obtain rfl : m = M.length := by omega
      have HE := Aside0.mk (show cnt = wsN M [] 0 by have := HW.out; rw [List.drop_of_length_le (Nat.le_refl _)] at this; exact this)
      clear hst
      go_wp2
      go_ret
      exact ⟨by rw [HWN.out, ← HE.out]; rfl, HS.out.bel⟩
 · have HIS := Aside0.mk (show bound_is.f l (p : Int) 2 = some false by
    have := is_told L p 2
    rw [← hl] at this
    rw [show (kdAt L p == 2) = false by simpa using hk, Bool.and_false] at this
    exact this)
   have HWN := Aside0.mk (show waitN L p = -1 by unfold waitN; rw [if_neg hk])
   clear hk hl hr hf hlen
   go_enter Try.func8, Try.ntmps8
   go_wp2_with fail
   refine (bound_is.calls A c l (p : Int) 2 false w HR.out hc HIS.out).mono ?_
   rintro e w1 ⟨rfl, hb⟩
   have HB1 := Aside0.mk hb.below
   clear hb
   go_wp2
   go_ret
   exact ⟨by rw [HWN.out]; rfl, HB1.out⟩
end Go.Proofs.Ytidjppjijeepnaa.V
end
section
set_option linter.unusedVariables false
set_option linter.unusedSimpArgs false
namespace Go.Proofs.Ytidjppjijeepnaa.V
open Go.RowKit Go.Proofs.YtidjppjijeepnaaW.PrintWords Go.Proofs.YtidjppjijeepnaaW.PrintLast Go.Proofs.YtidjppjijeepnaaW.PrintMore
def bound_Rho.f : List (S25) → Option Int
  | [] => some 0
  | _ :: _ => none
def bound_Passed.f : List (S25) → Int → Option Int
  | [], _ => some (-1)
  | _ :: _, _ => none
def bound_Waited.f : List (S25) → Int → Option Int
  | [], _ => some (-1)
  | _ :: _, _ => none
set_option maxHeartbeats 400000 in
theorem bound_Rho.calls (A0 : Option Addr) (c0 : Nat) (l0 : List (S25)) (r : Int) (w : World) (hr0 : Kd.C k25 w A0 l0.length l0) (hc0 : l0.length ≤ c0) (h : bound_Rho.f l0 = some r) :
 Calls Try.prog 7 #[.slice A0 l0.length c0] w fun e w' => e = .returned (.int .i64 r) ∧ Drawn0 w w' := by
 cases l0 with
 | cons a t => cases h
 | nil =>
  obtain rfl := Option.some.inj h
  clear h hr0 hc0
  go_enter Try.func7, Try.ntmps7
  go_wp2
  go_loop [3, 7] (fun n i => n = .int .i64 0 ∧ i = .int .i64 0) (fun _ _ => 0)
  case atStart => exact ⟨rfl, rfl⟩
  case round =>
   obtain ⟨rfl, rfl⟩ := hrel
   go_wp2
   go_ret
   exact ⟨rfl, Drawn0.refl _⟩
set_option maxHeartbeats 400000 in
theorem bound_is_no (k : IntKind) (c n : Int) (w : World) :
 Calls Try.prog 13 #[.slice none 0 0, .int .i64 0, .int .i64 n] w fun e w' => e = .returned (.bool false) ∧ w = w' := by
 go_enter Try.func13, Try.ntmps13
 go_wp2
 go_ret
 exact ⟨rfl, rfl⟩
set_option maxHeartbeats 400000 in
theorem bound_Passed.calls (i : Int) (r : Int) (w : World) (h : bound_Passed.f [] i = some r) (h0 : i = 0 := by rfl) :
 Calls Try.prog 6 #[.slice none 0 0, .int .i64 i] w fun e w' => e = .returned (.int .i64 r) ∧ Drawn0 w w' := by
 subst h0
 obtain rfl := Option.some.inj h
 clear h
 go_enter Try.func6, Try.ntmps6
 go_wp2_with (first | (go_at_call 13; (refine (bound_is_no .i64 0 _ _).mono ?_); rintro e w' ⟨rfl, rfl⟩))
 go_ret
 exact ⟨rfl, Drawn0.refl _⟩
set_option maxHeartbeats 400000 in
theorem bound_Waited.calls (i : Int) (r : Int) (w : World) (h : bound_Waited.f [] i = some r) (h0 : i = 0 := by rfl) :
 Calls Try.prog 8 #[.slice none 0 0, .int .i64 i] w fun e w' => e = .returned (.int .i64 r) ∧ Drawn0 w w' := by
 subst h0
 obtain rfl := Option.some.inj h
 clear h
 go_enter Try.func8, Try.ntmps8
 go_wp2_with (first | (go_at_call 13; (refine (bound_is_no .i64 0 _ _).mono ?_); rintro e w' ⟨rfl, rfl⟩))
 go_ret
 exact ⟨rfl, Drawn0.refl _⟩
end Go.Proofs.Ytidjppjijeepnaa.V
end
