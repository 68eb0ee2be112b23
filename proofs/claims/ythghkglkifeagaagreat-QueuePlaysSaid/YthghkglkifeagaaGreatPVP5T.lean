-- a text of this work, without what this claim doesn't use (wip/shake.py)
import Derived.Test.YthghkglkifeagaaGreatPVPvergerref5
import Derived.Test.YthghkglkifeagaaGreatPVPentry1
import Derived.Test.YthghkglkifeagaaGreatPVPslices1
import Derived.Test.YthghkglkifeagaaGreatPVPslicesZ
import Derived.Test.YthghkglkifeagaaGreatPVPslices
set_option maxRecDepth 100000
set_option maxHeartbeats 8000000
section
namespace Go.Proofs.YthghkglkifeagaaGreat.V
open Go.RowKit Go.Proofs.YthghkglkifeagaaGreatW.PrintWords Go.Proofs.YthghkglkifeagaaGreatW.PrintLast Go.Proofs.YthghkglkifeagaaGreatW.PrintMore
attribute [local go_sem] max2_int min2_int max_two min_two max_three min_three max_four min_four
set_option linter.unusedVariables false
set_option linter.unusedSimpArgs false
mutual
def api_Entry_112.l0 : Nat → List (S33) → Int → Int → Int → Int → Option ((List (S33)))
 | 0, _, _, _, _, _ => none
 | k + 1, x0, x1, x6, x7, x8 => if x8 ≤ x1 then ((api_Entry_122.f k x0 x7 x8).bind fun t101 => (api_Entry_112.l0 k t101 x1 x6 x8 (wrap64 (x8 + x6)))) else ((api_Entry_122.f k x0 x7 x1).bind fun t102 => (api_Entry_112.l1 k t102 x1 x6))
def api_Entry_112.l1 : Nat → List (S33) → Int → Int → Option ((List (S33)))
 | 0, _, _, _ => none
 | k + 1, x0, x1, x6 => if x6 < x1 then (api_Entry_112.l2 k x0 x1 x6 0 (wrap64 (2 * x6))) else (some x0)
def api_Entry_112.l2 : Nat → List (S33) → Int → Int → Int → Int → Option ((List (S33)))
 | 0, _, _, _, _, _ => none
 | k + 1, x0, x1, x6, x7, x8 => if x8 ≤ x1 then ((api_Entry_123.f k x0 x7 (wrap64 (x7 + x6)) x8).bind fun t103 => (api_Entry_112.l2 k t103 x1 x6 x8 (wrap64 (x8 + (wrap64 (2 * x6)))))) else (if (wrap64 (x7 + x6)) < x1 then ((api_Entry_123.f k x0 x7 (wrap64 (x7 + x6)) x1).bind fun t104 => (api_Entry_112.l1 k t104 x1 (wrap64 (x6 * 2)))) else (api_Entry_112.l1 k x0 x1 (wrap64 (x6 * 2))))
end
def api_Entry_112.f (k : Nat) (l0 : List (S33)) (a1 : Int)  : Option ((List (S33))) := api_Entry_112.l0 k l0 a1 20 0 20
theorem api_Entry_112.calls (k : Nat) (P0_ : Nat → Prop) (u9000_ : Value) (l0 : List (S33)) (a1 : Int)  (r : List (S33)) (w0 w : World) (hB : Below w0.heap.size w0 w) (ho0 : Kd.RC k33 33 w w0.heap.size P0_ u9000_ l0) (h : api_Entry_112.f k l0 a1 = some r) :
 Calls Tryz.prog 112 #[u9000_, .int .i64 a1, .func (.func 85) #[] #[]] w fun e w' => e = .returned (.tuple #[]) ∧ Kd.RC k33 33 w' w0.heap.size (fun k_ => (P0_ k_ ∨ w.heap.size ≤ k_)) u9000_ r ∧ Below w0.heap.size w0 w' ∧ Kept w w' (fun k_ => P0_ k_) := by
 have HO0 := za (show Kd.RC k33 33 w w0.heap.size (fun k_ => (P0_ k_ ∨ w.heap.size ≤ k_)) u9000_ l0 from Kd.RC_mono ho0 (fun k_ hk => (.inl hk))); have HK := za (Kept.refl w (fun k_ => P0_ k_)); have HW0 := za hB.size; have HB := za hB; clear hB; have H : (api_Entry_112.l0 k l0 a1 20 0 20) = some r := h; clear h; have H' := za H; clear H; go_enter Tryz.func112, Tryz.ntmps112
 go_wp2
 go_loopg [7, 8] k (fun kq v7 v8 w' => ∃ (x0_1 : List (S33)) (x7_1 : Int) (x8_1 : Int), v7 = .int .i64 x7_1 ∧ v8 = .int .i64 x8_1 ∧ Aside0 (api_Entry_112.l0 kq x0_1 a1 20 x7_1 x8_1 = some r) ∧ Aside0 (kq ≤ k) ∧ Aside0 (Kd.RC k33 33 w' w0.heap.size (fun k_ => (P0_ k_ ∨ w.heap.size ≤ k_)) u9000_ x0_1) ∧ Aside0 (Kept w w' (fun k_ => P0_ k_)) ∧ Aside0 (Below w0.heap.size w0 w'))
 case atStart => exact ⟨(l0), (0), (20), rfl, rfl, H', ⟨ut _⟩, ⟨HO0.out⟩, ⟨HK.out⟩, ⟨HB.out⟩⟩
 case round =>
  clear H'
  obtain ⟨x0_1, x7_1, x8_1, rfl, rfl, HA, HK1, HO_0, HK, HB⟩ := hrel
  cases gk with
  | zero => exact absurd HA.out (by simp [api_Entry_112.l0])
  | succ k1 =>
   have H := HA.out; clear HA; simp only [api_Entry_112.l0] at H
   by_cases c4 : x8_1 ≤ a1
   · rw [if_pos c4] at H; have c4b0 : decide (x8_1 ≤ a1) = true := decide_eq_true c4; clear c4; replace H := Option.bind_eq_some_iff.mp H; obtain ⟨t101, A50, H⟩ := H; replace H : (api_Entry_112.l0 k1 t101 a1 20 x8_1 (wrap64 (x8_1 + 20))) = some r := H; have A5 := za A50; clear A50; have H' := za H; clear H; obtain ⟨Ao6, co6, eo6⟩ := vw HO_0.out; subst eo6
     go_wp2_with (first | ((with_reducible refine ux (f := 122) rfl ?_); refine vx (some 18) rfl rfl Tryz.func122 (by kernel_rfl) rfl #[.slice Ao6 x0_1.length co6, .int .i64 x7_1, .int .i64 x8_1, .func (.func 85) #[] #[]] rfl (by (try simp only [ug, ul, uo]); first | done | rfl | (simp only [uk, uj]; rfl)) ?_; (with_reducible refine (api_Entry_122.calls k1 (fun k_ => some k_ = (.slice Ao6 x0_1.length co6 : Value).ownBlock) (.slice Ao6 x0_1.length co6) x0_1 x7_1 x8_1  t101 w0 _ ?side1 ?side2 A5.out).mono ?_); (case side1 => repeat (first | (with_reducible first | exact HB.out | apply uv | apply uw | apply us) | exact HB.out)); (case side2 => exact Kd.RC_tight rfl HO_0.out); rintro e w7 ⟨rfl, hy0, hb, hkp⟩; refine ⟨_, rfl, ?_⟩; have n0_ := za (Kd.RC_reok rfl hy0 (fun k_ e_ => HO_0.out.1 k_ e_)); have n1_ := za (Kept.then_ (S := (fun k_ => P0_ k_)) HK.out hkp (fun k_ hs_ => (fun e_ => (HO_0.out.1 k_ e_.symm)) hs_)); have n2_ := za (hb); clear HO_0; clear HK; clear HB; have HO_0 := n0_; have HK := n1_; have HB := n2_; clear n0_ n1_ n2_; (try clear hb); (try clear hkp); (try clear hy0)))
     go_roundg k1
     case measure => have := HK1.out; omega
     case rel => exact ⟨(t101), (x8_1), (wrap64 (x8_1 + 20)), rfl, rfl, H', ⟨by have := HK1.out; omega⟩, ⟨HO_0.out⟩, ⟨HK.out⟩, ⟨HB.out⟩⟩
   · rw [if_neg c4] at H; have c4b0 : decide (x8_1 ≤ a1) = false := decide_eq_false c4; clear c4; replace H := Option.bind_eq_some_iff.mp H; obtain ⟨t102, A80, H⟩ := H; replace H : (api_Entry_112.l1 k1 t102 a1 20) = some r := H; have A8 := za A80; clear A80; have H' := za H; clear H; obtain ⟨Ao9, co9, eo9⟩ := vw HO_0.out; subst eo9
     go_wp2_with (first | ((with_reducible refine ux (f := 122) rfl ?_); refine vx (some 27) rfl rfl Tryz.func122 (by kernel_rfl) rfl #[.slice Ao9 x0_1.length co9, .int .i64 x7_1, .int .i64 a1, .func (.func 85) #[] #[]] rfl (by (try simp only [ug, ul, uo]); first | done | rfl | (simp only [uk, uj]; rfl)) ?_; (with_reducible refine (api_Entry_122.calls k1 (fun k_ => some k_ = (.slice Ao9 x0_1.length co9 : Value).ownBlock) (.slice Ao9 x0_1.length co9) x0_1 x7_1 a1  t102 w0 _ ?side1 ?side2 A8.out).mono ?_); (case side1 => repeat (first | (with_reducible first | exact HB.out | apply uv | apply uw | apply us) | exact HB.out)); (case side2 => exact Kd.RC_tight rfl HO_0.out); rintro e w10 ⟨rfl, hy0, hb, hkp⟩; refine ⟨_, rfl, ?_⟩; have n0_ := za (Kd.RC_reok rfl hy0 (fun k_ e_ => HO_0.out.1 k_ e_)); have n1_ := za (Kept.then_ (S := (fun k_ => P0_ k_)) HK.out hkp (fun k_ hs_ => (fun e_ => (HO_0.out.1 k_ e_.symm)) hs_)); have n2_ := za (hb); clear HO_0; clear HK; clear HB; have HO_0 := n0_; have HK := n1_; have HB := n2_; clear n0_ n1_ n2_; (try clear hb); (try clear hkp); (try clear hy0)))
     (try simp only [Act.put, ua, uc, ub])
     go_loopg [6] k1 (fun kq v6 w' => ∃ (x0_2 : List (S33)) (x6_2 : Int), v6 = .int .i64 x6_2 ∧ Aside0 (api_Entry_112.l1 kq x0_2 a1 x6_2 = some r) ∧ Aside0 (kq ≤ k1) ∧ Aside0 (Kd.RC k33 33 w' w0.heap.size (fun k_ => (P0_ k_ ∨ w.heap.size ≤ k_)) (.slice Ao9 x0_1.length co9) x0_2) ∧ Aside0 (Kept w w' (fun k_ => P0_ k_)) ∧ Aside0 (Below w0.heap.size w0 w'))
     case atStart => exact ⟨(t102), (20), rfl, H', ⟨ut _⟩, ⟨HO_0.out⟩, ⟨HK.out⟩, ⟨HB.out⟩⟩
     case round =>
      clear H'
      try clear c4
      try clear c4b0
      obtain ⟨x0_2, x6_2, rfl, HA, HK2, HO_0, HK, HB⟩ := hrel; have hl0_2 := (uz HO_0.out).1; rw [hl0_2] at HO_0; (try simp only [hl0_2])
      cases gk with
      | zero => exact absurd HA.out (by simp [api_Entry_112.l1])
      | succ k2 =>
       have H := HA.out; clear HA; simp only [api_Entry_112.l1] at H
       by_cases c11 : x6_2 < a1
       · rw [if_pos c11] at H; have c11b0 : decide (x6_2 < a1) = true := decide_eq_true c11; clear c11; have H' := za H; clear H
         go_wp2
         go_loopg [7, 8] k2 (fun kq v7 v8 w' => ∃ (x0_3 : List (S33)) (x7_3 : Int) (x8_3 : Int), v7 = .int .i64 x7_3 ∧ v8 = .int .i64 x8_3 ∧ Aside0 (api_Entry_112.l2 kq x0_3 a1 x6_2 x7_3 x8_3 = some r) ∧ Aside0 (kq ≤ k2) ∧ Aside0 (Kd.RC k33 33 w' w0.heap.size (fun k_ => (P0_ k_ ∨ w.heap.size ≤ k_)) (.slice Ao9 x0_2.length co9) x0_3) ∧ Aside0 (Kept w w' (fun k_ => P0_ k_)) ∧ Aside0 (Below w0.heap.size w0 w'))
         case atStart => exact ⟨(x0_2), (0), (wrap64 (2 * x6_2)), rfl, rfl, H', ⟨ut _⟩, ⟨by (try simp only [hl0_2]); (with_reducible repeat (first | apply Kd.RC_alloc | apply Kd.RC_drewN | apply xb)); exact HO_0.out⟩, ⟨HK.out⟩, ⟨HB.out⟩⟩
         case round =>
          clear H'
          try clear c4
          try clear c4b0
          try clear c11
          try clear c11b0
          obtain ⟨x0_3, x7_3, x8_3, rfl, rfl, HA, HK3, HO_0, HK, HB⟩ := hrel; have hl0_3 := (uz HO_0.out).1; rw [hl0_3] at HO_0; (try simp only [hl0_3])
          cases gk with
          | zero => exact absurd HA.out (by simp [api_Entry_112.l2])
          | succ k3 =>
           have H := HA.out; clear HA; simp only [api_Entry_112.l2] at H
           by_cases c12 : x8_3 ≤ a1
           · rw [if_pos c12] at H; have c12b0 : decide (x8_3 ≤ a1) = true := decide_eq_true c12; clear c12; replace H := Option.bind_eq_some_iff.mp H; obtain ⟨t103, A130, H⟩ := H; replace H : (api_Entry_112.l2 k3 t103 a1 x6_2 x8_3 (wrap64 (x8_3 + (wrap64 (2 * x6_2))))) = some r := H; have A13 := za A130; clear A130; have H' := za H; clear H
             go_wp2_with (first | ((with_reducible refine ux (f := 123) rfl ?_); refine vx (some 43) rfl rfl Tryz.func123 (by kernel_rfl) rfl #[.slice Ao9 x0_3.length co9, .int .i64 x7_3, .int .i64 (wrap64 (x7_3 + x6_2)), .int .i64 x8_3, .func (.func 85) #[] #[]] rfl (by (try simp only [ug, ul, uo]); first | done | rfl | (simp only [uk, uj]; rfl)) ?_; (with_reducible refine (api_Entry_123.calls k3 (fun k_ => some k_ = (.slice Ao9 x0_3.length co9 : Value).ownBlock) (.slice Ao9 x0_3.length co9) x0_3 x7_3 (wrap64 (x7_3 + x6_2)) x8_3  t103 w0 _ ?side1 ?side2 A13.out).mono ?_); (case side1 => repeat (first | (with_reducible first | exact HB.out | apply uv | apply uw | apply us) | exact HB.out)); (case side2 => exact Kd.RC_tight rfl HO_0.out); rintro e w14 ⟨rfl, hy0, hb, hkp⟩; refine ⟨_, rfl, ?_⟩; have n0_ := za (Kd.RC_reok rfl hy0 (fun k_ e_ => HO_0.out.1 k_ e_)); have n1_ := za (Kept.then_ (S := (fun k_ => P0_ k_)) HK.out hkp (fun k_ hs_ => (fun e_ => (HO_0.out.1 k_ e_.symm)) hs_)); have n2_ := za (hb); clear HO_0; clear HK; clear HB; have HO_0 := n0_; have HK := n1_; have HB := n2_; clear n0_ n1_ n2_; (try clear hb); (try clear hkp); (try clear hy0)))
             (try simp only [← hl0_3])
             go_roundg k3
             case measure => have := HK1.out; have := HK2.out; have := HK3.out; omega
             case rel => exact ⟨(t103), (x8_3), (wrap64 (x8_3 + (wrap64 (2 * x6_2)))), rfl, rfl, H', ⟨by have := HK1.out; have := HK2.out; have := HK3.out; omega⟩, ⟨by (try simp only [hl0_2]); (try simp only [hl0_3]); (with_reducible repeat (first | apply Kd.RC_alloc | apply Kd.RC_drewN | apply xb)); exact HO_0.out⟩, ⟨HK.out⟩, ⟨HB.out⟩⟩
           · rw [if_neg c12] at H; have c12b0 : decide (x8_3 ≤ a1) = false := decide_eq_false c12; clear c12
             by_cases c15 : (wrap64 (x7_3 + x6_2)) < a1
             · rw [if_pos c15] at H; have c15b0 : decide ((wrap64 (x7_3 + x6_2)) < a1) = true := decide_eq_true c15; clear c15; replace H := Option.bind_eq_some_iff.mp H; obtain ⟨t104, A160, H⟩ := H; replace H : (api_Entry_112.l1 k3 t104 a1 (wrap64 (x6_2 * 2))) = some r := H; have A16 := za A160; clear A160; have H' := za H; clear H
               go_wp2_with (first | ((with_reducible refine ux (f := 123) rfl ?_); refine vx (some 60) rfl rfl Tryz.func123 (by kernel_rfl) rfl #[.slice Ao9 x0_3.length co9, .int .i64 x7_3, .int .i64 (wrap64 (x7_3 + x6_2)), .int .i64 a1, .func (.func 85) #[] #[]] rfl (by (try simp only [ug, ul, uo]); first | done | rfl | (simp only [uk, uj]; rfl)) ?_; (with_reducible refine (api_Entry_123.calls k3 (fun k_ => some k_ = (.slice Ao9 x0_3.length co9 : Value).ownBlock) (.slice Ao9 x0_3.length co9) x0_3 x7_3 (wrap64 (x7_3 + x6_2)) a1  t104 w0 _ ?side1 ?side2 A16.out).mono ?_); (case side1 => repeat (first | (with_reducible first | exact HB.out | apply uv | apply uw | apply us) | exact HB.out)); (case side2 => exact Kd.RC_tight rfl HO_0.out); rintro e w17 ⟨rfl, hy0, hb, hkp⟩; refine ⟨_, rfl, ?_⟩; have n0_ := za (Kd.RC_reok rfl hy0 (fun k_ e_ => HO_0.out.1 k_ e_)); have n1_ := za (Kept.then_ (S := (fun k_ => P0_ k_)) HK.out hkp (fun k_ hs_ => (fun e_ => (HO_0.out.1 k_ e_.symm)) hs_)); have n2_ := za (hb); clear HO_0; clear HK; clear HB; have HO_0 := n0_; have HK := n1_; have HB := n2_; clear n0_ n1_ n2_; (try clear hb); (try clear hkp); (try clear hy0)))
               (try simp only [← hl0_2, ← hl0_3])
               go_roundg k3
               case measure => have := HK1.out; have := HK2.out; have := HK3.out; omega
               case rel => exact ⟨(t104), (wrap64 (x6_2 * 2)), rfl, H', ⟨by have := HK1.out; have := HK2.out; have := HK3.out; omega⟩, ⟨by (try simp only [hl0_2]); (try simp only [hl0_3]); (with_reducible repeat (first | apply Kd.RC_alloc | apply Kd.RC_drewN | apply xb)); exact HO_0.out⟩, ⟨HK.out⟩, ⟨HB.out⟩⟩
             · rw [if_neg c15] at H; have c15b0 : decide ((wrap64 (x7_3 + x6_2)) < a1) = false := decide_eq_false c15; clear c15; have H' := za H; clear H
               go_wp2
               (try simp only [← hl0_2, ← hl0_3])
               go_roundg k3
               case measure => have := HK1.out; have := HK2.out; have := HK3.out; omega
               case rel => exact ⟨(x0_3), (wrap64 (x6_2 * 2)), rfl, H', ⟨by have := HK1.out; have := HK2.out; have := HK3.out; omega⟩, ⟨by (try simp only [hl0_2]); (try simp only [hl0_3]); (with_reducible repeat (first | apply Kd.RC_alloc | apply Kd.RC_drewN | apply xb)); exact HO_0.out⟩, ⟨HK.out⟩, ⟨HB.out⟩⟩
       · rw [if_neg c11] at H; have c11b0 : decide (x6_2 < a1) = false := decide_eq_false c11; clear c11; obtain rfl := Option.some.inj H
         go_wp2
         first | go_end0 | ((try simp only [Exit.inBlock, Exit.then]); refine bodyPost_ret (results_none rfl _ _ _) rfl ?_)
         exact ⟨rfl, (by first | exact HO_0.out | (simp only [hl0_2]; exact HO_0.out)), HB.out, HK.out⟩
def api_Entry_84.f (k : Nat) (l0 : List (S33))  : Option ((List (S33))) := (api_Entry_112.f k l0 (l0.length : Int)).bind fun t101 => (some t101)
theorem api_Entry_84.calls (k : Nat) (P0_ : Nat → Prop) (u9000_ : Value) (l0 : List (S33))  (r : List (S33)) (w0 w : World) (hB : Below w0.heap.size w0 w) (ho0 : Kd.RC k33 33 w w0.heap.size P0_ u9000_ l0) (h : api_Entry_84.f k l0 = some r) :
 Calls Tryz.prog 84 #[u9000_, .func (.func 85) #[] #[]] w fun e w' => e = .returned (.tuple #[]) ∧ Kd.RC k33 33 w' w0.heap.size (fun k_ => (P0_ k_ ∨ w.heap.size ≤ k_)) u9000_ r ∧ Below w0.heap.size w0 w' ∧ Kept w w' (fun k_ => P0_ k_) := by
 have HO0 := za (show Kd.RC k33 33 w w0.heap.size (fun k_ => (P0_ k_ ∨ w.heap.size ≤ k_)) u9000_ l0 from Kd.RC_mono ho0 (fun k_ hk => (.inl hk))); have HK := za (Kept.refl w (fun k_ => P0_ k_)); have HW0 := za hB.size; have HB := za hB; clear hB; have H : ((api_Entry_112.f k l0 (l0.length : Int)).bind fun t101 => (some t101)) = some r := h; clear h; replace H := Option.bind_eq_some_iff.mp H; obtain ⟨t101, A30, H⟩ := H; replace H : (some t101) = some r := H; have A3 := za A30; clear A30; obtain rfl := Option.some.inj H; obtain ⟨Ao4, co4, eo4⟩ := vw HO0.out; subst eo4; go_enter Tryz.func84, Tryz.ntmps84
 go_wp2_with (first | ((with_reducible refine ux (f := 112) rfl ?_); refine vx (some 8) rfl rfl Tryz.func112 (by kernel_rfl) rfl #[.slice Ao4 l0.length co4, .int .i64 (l0.length : Int), .func (.func 85) #[] #[]] rfl (by (try simp only [ug, ul, uo]); first | done | rfl | (simp only [uk, uj]; rfl)) ?_; (with_reducible refine (api_Entry_112.calls k (fun k_ => some k_ = (.slice Ao4 l0.length co4 : Value).ownBlock) (.slice Ao4 l0.length co4) l0 (l0.length : Int)  t101 w0 _ ?side1 ?side2 A3.out).mono ?_); (case side1 => repeat (first | (with_reducible first | exact HB.out | apply uv | apply uw | apply us) | exact HB.out)); (case side2 => exact Kd.RC_tight rfl HO0.out); rintro e w5 ⟨rfl, hy0, hb, hkp⟩; refine ⟨_, rfl, ?_⟩; have n0_ := za (Kd.RC_reok rfl hy0 (fun k_ e_ => HO0.out.1 k_ e_)); have n1_ := za (Kept.then_ (S := (fun k_ => P0_ k_)) HK.out hkp (fun k_ hs_ => (fun e_ => (HO0.out.1 k_ e_.symm)) hs_)); have n2_ := za (hb); clear HO0; clear HK; clear HB; have HO0 := n0_; have HK := n1_; have HB := n2_; clear n0_ n1_ n2_; (try clear hb); (try clear hkp); (try clear hy0)))
 first | go_end0 | ((try simp only [Exit.inBlock, Exit.then]); refine bodyPost_ret (results_none rfl _ _ _) rfl ?_)
 exact ⟨rfl, HO0.out, HB.out, HK.out⟩
end Go.Proofs.YthghkglkifeagaaGreat.V
end
section
set_option linter.unusedVariables false
set_option linter.unusedSimpArgs false
namespace Go.Proofs.YthghkglkifeagaaGreat.V
open Go.RowKit Go.Proofs.YthghkglkifeagaaGreatW.PrintWords
abbrev E := S33
theorem E.ext' {a b : E} (h0 : a.f0 = b.f0) (h1 : a.f1 = b.f1) : a = b := by cases a; cases b; simp_all
def ltE (a b : E) : Bool := decide (a.f0 < b.f0) || (decide (a.f0 = b.f0) && decide (a.f1 < b.f1))
def leE (a b : E) : Bool := !ltE b a
theorem a4e (a b : E) : ltE a b = true ↔ a.f0 < b.f0 ∨ (a.f0 = b.f0 ∧ a.f1 < b.f1) := by simp [ltE]
theorem a7e (a b : E) : ltE a b = false ↔ b.f0 < a.f0 ∨ (a.f0 = b.f0 ∧ b.f1 ≤ a.f1) := by
 rw [← Bool.not_eq_true, a4e]; omega
theorem a3d (a b : E) : leE a b = true ↔ a.f0 < b.f0 ∨ (a.f0 = b.f0 ∧ a.f1 ≤ b.f1) := by
 unfold leE; rw [Bool.not_eq_true', a7e]; omega
theorem b8m {a b : E} (h : ltE a b = true) : ltE b a = false := by rw [a4e] at h; rw [a7e]; omega
theorem a2s (a b c : E) (h : leE a b = true) (k : leE b c = true) : leE a c = true := by rw [a3d] at *; omega
theorem a9p (a b : E) : (leE a b || leE b a) = true := by
 rw [Bool.or_eq_true, a3d, a3d]; omega
theorem a4d (a : E) : leE a a = true := by rw [a3d]; omega
theorem c0u {a b : E} (h : leE a b = true) (k : leE b a = true) : a = b := by
 rw [a3d] at h k; exact E.ext' (by omega) (by omega)
theorem a3e {a b : E} (h : ltE a b = true) : leE a b = true := by simp [leE, b8m h]
theorem a7j {a b c : E} (h : ltE a b = true) (k : leE b c = true) : ltE a c = true := by rw [a4e] at *; rw [a3d] at k; omega
theorem b3e {a b c : E} (h : leE a b = true) (k : ltE b c = true) : ltE a c = true := by rw [a4e] at *; rw [a3d] at h; omega
def a0d (l : List E) : Prop := l.Pairwise fun a b => leE a b = true
def a0b (l : List E) : List E := l.mergeSort leE
theorem a0n (l : List E) : (a0b l).Perm l := List.mergeSort_perm l leE
theorem a0y (l : List E) : a0d (a0b l) := List.pairwise_mergeSort a2s a9p l
theorem a7b {l m : List E} (hl : a0d l) (hm : a0d m) (h : l.Perm m) : l = m := h.eq_of_pairwise (fun a b _ _ h1 h2 => c0u h1 h2) hl hm
theorem a2r {l m : List E} (hm : a0d m) (h : m.Perm l) : a0b l = m := a7b (a0y l) hm ((a0n l).trans h.symm)
theorem a1y {l m : List E} (h : l.Perm m) : a0b l = a0b m := a7b (a0y l) (a0y m) ((a0n l).trans (h.trans (a0n m).symm))
theorem a2m {l : List E} (h : a0d l) : a0b l = l := a2r h (List.Perm.refl _)
theorem a0i (l : List E) : (a0b l).length = l.length := (a0n l).length_eq
theorem a4k : a0b [] = [] := by simp [a0b]
theorem sortE_mem {l : List E} {x : E} : x ∈ a0b l ↔ x ∈ l := (a0n l).mem_iff
theorem a6a : a0d [] := List.Pairwise.nil
theorem sorted_append {l m : List E} : a0d (l ++ m) ↔ a0d l ∧ a0d m ∧ ∀ a ∈ l, ∀ b ∈ m, leE a b = true := List.pairwise_append
theorem sorted_cons {a : E} {l : List E} : a0d (a :: l) ↔ (∀ b ∈ l, leE a b = true) ∧ a0d l := List.pairwise_cons
theorem c2l {l : List E} (h : a0d l) (n : Nat) : a0d (l.take n) := h.sublist (List.take_sublist n l)
theorem b4g {l : List E} (h : a0d l) {i j : Nat} (hij : i < j) {a b : E} (ha : l[i]? = some a) (hb : l[j]? = some b) : leE a b = true := by
 obtain ⟨hi, rfl⟩ := List.getElem?_eq_some_iff.1 ha
 obtain ⟨hj, rfl⟩ := List.getElem?_eq_some_iff.1 hb
 exact List.pairwise_iff_getElem.1 h i j hi hj hij
def putE (l : List E) (e : E) : List E := (l.takeWhile fun x => leE x e) ++ e :: (l.dropWhile fun x => leE x e)
theorem b6b (l : List E) (e : E) : (putE l e).Perm (e :: l) := by
 unfold putE
 refine List.perm_middle.trans (List.Perm.cons _ ?_)
 rw [List.takeWhile_append_dropWhile]
theorem c0y (l : List E) (p : E → Bool) : ∀ a ∈ l.takeWhile p, p a = true := by
 induction l with
 | nil => simp
 | cons b l ih =>
  intro a ha
  rw [List.takeWhile_cons] at ha
  split at ha
  · rename_i hb
    rcases List.mem_cons.1 ha with rfl | ha
    · exact hb
    · exact ih a ha
  · simp at ha
theorem c3f {l : List E} (h : a0d l) (e : E) : ∀ x ∈ l.dropWhile (fun x => leE x e), ltE e x = true := by
 induction l with
 | nil => simp
 | cons a l ih =>
  obtain ⟨h1, h2⟩ := sorted_cons.1 h
  rw [List.dropWhile_cons]
  split
  · exact ih h2
  · rename_i hn
    have hl : ltE e a = true := by simpa [leE] using hn
    intro x hx
    rcases List.mem_cons.1 hx with rfl | hx
    · exact hl
    · exact a7j hl (h1 x hx)
theorem b5w {l : List E} (h : a0d l) (e : E) : a0d (putE l e) := by
 unfold putE
 have hsub : a0d (l.takeWhile fun x => leE x e) := h.sublist (List.takeWhile_sublist _)
 have hd : a0d (l.dropWhile fun x => leE x e) := h.sublist (List.dropWhile_sublist _)
 have hle : ∀ a ∈ l.takeWhile (fun x => leE x e), leE a e = true := c0y l _
 have hgt := c3f h e
 refine sorted_append.2 ⟨hsub, sorted_cons.2 ⟨fun b hb => a3e (hgt b hb), hd⟩, fun a ha b hb => ?_⟩
 rcases List.mem_cons.1 hb with rfl | hb
 · exact hle a ha
 · exact a2s _ _ _ (hle a ha) (a3e (hgt b hb))
theorem a9w (l : List E) (e : E) : putE (a0b l) e = a0b (e :: l) := by
 refine a7b (b5w (a0y l) e) (a0y _) ((b6b _ _).trans ?_)
 exact (List.Perm.cons e (a0n l)).trans (a0n _).symm
end Go.Proofs.YthghkglkifeagaaGreat.V
end
section
set_option linter.unusedVariables false
set_option linter.unusedSimpArgs false
namespace Go.Proofs.YthghkglkifeagaaGreat.V
open Go.RowKit Go.Proofs.YthghkglkifeagaaGreatW.PrintWords Go.Proofs.YthghkglkifeagaaGreatW.PrintLast Go.Proofs.YthghkglkifeagaaGreatW.PrintMore
theorem a1i {i : Int} (h0 : -9223372036854775808 ≤ i) (h1 : i ≤ 9223372036854775807) : wrap64 i = i := by unfold wrap64; omega
theorem a1u {n : Nat} (h : n ≤ 4611686018427387904) : wrap64 ((n : Int) + 1) = ((n + 1 : Nat) : Int) := by rw [a1i (by omega) (by omega)]; omega
theorem a5y (l : List E) (i : Nat) : a0a l (i : Int) = l.getD i z33 := by unfold a0a; rw [Int.toNat_natCast]
theorem a8q {l : List E} {i : Nat} (h : i < l.length) : a0a l (i : Int) = l[i] := by rw [a5y]; simp [List.getD_eq_getElem?_getD, List.getElem?_eq_getElem h]
theorem b2m {l : List E} {i : Nat} {a : E} (h : l[i]? = some a) : a0a l (i : Int) = a := by rw [a5y, List.getD_eq_getElem?_getD, h]; rfl
theorem a1c {k n : Nat} (h : n < k) : ∃ m, k = m + 1 ∧ n ≤ m := ⟨k - 1, by omega, by omega⟩
def cmpE (a b : E) : Int := if ltE a b = true then -1 else if ltE b a = true then 1 else 0
theorem a2h (a b : E) : cmpE a b < 0 ↔ ltE a b = true := by
 unfold cmpE
 split
 · simp_all
 · split <;> simp_all
theorem b7h (a b : Int) : cmp_Compare_uint64.f a b = some (if a < b then -1 else if a > b then 1 else 0) := by
 simp only [cmp_Compare_uint64.f, cmp_isNaN_uint64.f, Option.bind_some, bne_self_eq_false, Bool.false_eq_true, if_false]
 by_cases h1 : a < b
 · simp [h1]
 · by_cases h2 : a > b <;> simp [h1, h2]
theorem b6o (a b : Int) : cmp_Compare_int.f a b = some (if a < b then -1 else if a > b then 1 else 0) := by
 simp only [cmp_Compare_int.f, cmp_isNaN_int.f, Option.bind_some, bne_self_eq_false, Bool.false_eq_true, if_false]
 by_cases h1 : a < b
 · simp [h1]
 · by_cases h2 : a > b <;> simp [h1, h2]
theorem or_two (k : Nat) (hk : 3 ≤ k) (x y : Int) : cmp_Or_int.f k [x, y] = some (if x = 0 then y else x) := by
 obtain ⟨k, rfl⟩ : ∃ m, k = m + 3 := ⟨k - 3, by omega⟩
 unfold cmp_Or_int.f
 have e1 : wrap64 (0 + 1) = 1 := a1i (by omega) (by omega)
 have e2 : wrap64 (1 + 1) = 2 := a1i (by omega) (by omega)
 have r0 : rd [x, y] 0 = x := rfl
 have r1 : rd [x, y] 1 = y := rfl
 simp only [cmp_Or_int.l0, List.length_cons, List.length_nil]
 rw [if_pos (by decide), if_pos (by decide), if_pos (by decide), r0]
 by_cases hx : x = 0
 · rw [if_pos hx, e1, if_pos (by decide), if_pos (by decide), if_pos (by decide), r1]
   by_cases hy : y = 0
   · rw [if_pos hy, e2, if_neg (by decide), if_pos hx, hy]
   · rw [if_neg hy, if_pos hx]
 · rw [if_neg hx, if_neg hx]
theorem a7n (k : Nat) (hk : 3 ≤ k) (a b c d : Int) : entry_compare.f k a b c d = some (cmpE ⟨a, b⟩ ⟨c, d⟩) := by
 unfold entry_compare.f
 rw [b7h, b6o]
 simp only [Option.bind_some]
 rw [or_two k hk]
 simp only [Option.bind_some]
 congr 1
 unfold cmpE
 simp only [ltE, Bool.or_eq_true, Bool.and_eq_true, decide_eq_true_eq]
 by_cases h1 : a < c
 · simp [h1]
 · by_cases h2 : a > c
   · have h3 : ¬ a = c := by omega
     have h4 : c < a := h2
     simp [h1, h2, h3, h4]
   · have h3 : a = c := by omega
     subst h3
     by_cases h5 : b < d
     · simp [h5]
     · by_cases h6 : b > d
       · have h7 : d < b := h6
         simp [h5, h6, h7]
       · have h7 : ¬ d < b := h6
         simp [h5, h6, h7]
theorem b0e (a b c d : Int) : vergerref5_Less.f a b c d = some (ltE ⟨a, b⟩ ⟨c, d⟩) := by
 unfold vergerref5_Less.f ltE
 by_cases h1 : a < c
 · simp [h1]
 · rw [if_neg h1]
   by_cases h2 : a = c
   · simp [h2]
   · simp [h1, h2]
theorem a9b {l : List E} {e : E} {i : Nat} (hi : i ≤ l.length) (hbefore : ∀ j a, j < i → l[j]? = some a → ltE e a = false) (hat : ∀ a, l[i]? = some a → ltE e a = true) : putE l e = l.take i ++ e :: l.drop i := by
 induction l generalizing i with
 | nil => simp at hi; subst hi; simp [putE]
 | cons b l ih =>
  cases i with
  | zero =>
   have := hat b rfl
   simp [putE, leE, this]
  | succ i =>
   have hb := hbefore 0 b (by omega) rfl
   have := ih (i := i) (by simpa using hi) (fun j a hj ha => hbefore (j + 1) a (by omega) ha) (fun a ha => hat a ha)
   unfold putE at this ⊢
   simp only [List.takeWhile_cons, List.dropWhile_cons, leE, hb, Bool.not_false, if_true, List.take_succ_cons, List.drop_succ_cons, List.cons_append]
   exact congrArg (b :: ·) this
theorem c1u {i : Int} (h0 : 0 ≤ i) (h1 : i < 18446744073709551616) : IntKind.u64.wrap i = i := by
 simp [IntKind.wrap, IntKind.bits, IntKind.signed]; omega
theorem wadd {a b : Nat} (h : a + b < 4611686018427387904) : wrap64 ((a : Int) + (b : Int)) = ((a + b : Nat) : Int) := by rw [a1i (by omega) (by omega)]; omega
theorem wsub {a b : Nat} (h : b ≤ a) (h2 : a < 4611686018427387904) : wrap64 ((a : Int) - (b : Int)) = ((a - b : Nat) : Int) := by rw [a1i (by omega) (by omega)]; omega
theorem a2w {a : Nat} (h : 0 < a) (h2 : a < 4611686018427387904) : wrap64 ((a : Int) - 1) = ((a - 1 : Nat) : Int) := by rw [a1i (by omega) (by omega)]; omega
theorem a4s {a b : Nat} (h : a + b < 4611686018427387904) : wrap64 ((IntKind.u64.wrap (wrap64 ((a : Int) + (b : Int)))) / 2) = (((a + b) / 2 : Nat) : Int) := by
 rw [wadd h, c1u (by omega) (by omega), a1i (by omega) (by omega)]; omega
theorem a6j (x y : E) : Ev (fun k => entry_Sort_1.f k x.f0 x.f1 y.f0 y.f1) (cmpE x y) := ⟨3, fun k hk => by show entry_Sort_1.f k x.f0 x.f1 y.f0 y.f1 = _; unfold entry_Sort_1.f; rw [a7n k hk]; rfl⟩
theorem rd_mid (A B : List E) (x : E) : a0a (A ++ x :: B) (A.length : Int) = x := by rw [a5y]; simp [List.getD_eq_getElem?_getD]
theorem a1o {l A B : List E} {x : E} {i : Nat} (hl : l = A ++ x :: B) (hi : i = A.length) : a0a l (i : Int) = x := by subst hl; subst hi; exact rd_mid A B x
theorem b0f (A B : List E) (x y : E) : (A ++ x :: B).set A.length y = A ++ y :: B := by simp
theorem a9x (A B : List E) (x y : E) : ((A ++ x :: y :: B).set (A.length + 1) x).set A.length y = A ++ y :: x :: B := by
 simp [List.set_append]
theorem b9d (A B : List E) (x y : E) : ((A ++ x :: y :: B).set A.length y).set (A.length + 1) x = A ++ y :: x :: B := by
 simp [List.set_append]
theorem eta (x : E) : (⟨x.f0, x.f1⟩ : E) = x := rfl
theorem a8o {P : List E → Prop} (h0 : P []) (h1 : ∀ S s, P S → P (S ++ [s])) : ∀ S, P S := by
 intro S
 rw [← S.reverse_reverse]
 induction S.reverse with
 | nil => exact h0
 | cons s T ih => rw [List.reverse_cons]; exact h1 _ _ ih
theorem c1x (A : List E) (a b i : Nat) (ha : a = A.length) (r : List E) : ∀ (S : List E) (e : E) (T D : List E), a0d S → (A ++ S ++ e :: T ++ D).length < 1000000000 → i < 1000000000 →
 (∀ s ∈ S, ∀ t ∈ T, leE s t = true) → (∀ t ∈ T, ltE e t = true) → a0d T →
 Ev (fun k => api_Entry_122.l0 k (A ++ a0b (S ++ e :: T) ++ D) (a : Int) (b : Int) (wrap64 ((i : Int) + 1))) r →
 Ev (fun k => api_Entry_122.l1 k (A ++ S ++ e :: T ++ D) (a : Int) (b : Int) (i : Int) ((A ++ S).length : Int)) r := by
 intro S
 induction S using a8o with
 | h0 =>
  intro e T D hS hlen hi hST hT hTs hk
  refine Ev.step (fun k => by simp only [api_Entry_122.l1]; exact rfl) ?_
  have h0 : ¬ (((A ++ []).length : Nat) : Int) > (a : Int) := by simp; omega
  simp only [if_neg h0]
  have hs : a0b ([] ++ e :: T) = e :: T := a2m (sorted_cons.2 ⟨fun t ht => a3e (hT t ht), hTs⟩)
  rw [hs] at hk
  simpa using hk
 | h1 S s ih =>
  intro e T D hS hlen hi hST hT hTs hk
  have hlen' := hlen
  simp only [List.length_append, List.length_cons, List.length_nil] at hlen'
  obtain ⟨hS1, _, hS2⟩ := sorted_append.1 hS
  refine Ev.step (fun k => by simp only [api_Entry_122.l1]; exact rfl) ?_
  have hj : (((A ++ (S ++ [s])).length : Nat) : Int) = ((A.length + S.length + 1 : Nat) : Int) := by simp; omega
  have hw : wrap64 ((((A.length + S.length + 1 : Nat) : Int)) - 1) = ((A.length + S.length : Nat) : Int) := by rw [a2w (by omega) (by omega)]; rfl
  have hlE : A ++ (S ++ [s]) ++ e :: T ++ D = (A ++ S) ++ s :: e :: (T ++ D) := by simp
  have r1 : a0a (A ++ (S ++ [s]) ++ e :: T ++ D) ((A.length + S.length + 1 : Nat) : Int) = e := a1o (A := A ++ S ++ [s]) (B := T ++ D) (by simp) (by simp; omega)
  have r2 : a0a (A ++ (S ++ [s]) ++ e :: T ++ D) ((A.length + S.length : Nat) : Int) = s := a1o (A := A ++ S) (B := e :: (T ++ D)) (by simp) (by simp)
  have c1 : ((A.length + S.length + 1 : Nat) : Int) > (a : Int) := by omega
  have c2 : (0 : Int) ≤ ((A.length + S.length + 1 : Nat) : Int) := by omega
  have c3 : ((A.length + S.length + 1 : Nat) : Int) < ((A ++ (S ++ [s]) ++ e :: T ++ D).length : Int) := by simp; omega
  have c4 : (0 : Int) ≤ ((A.length + S.length : Nat) : Int) := by omega
  have c5 : ((A.length + S.length : Nat) : Int) < ((A ++ (S ++ [s]) ++ e :: T ++ D).length : Int) := by simp; omega
  rw [hj]
  simp only [hw, if_pos c1, if_pos c2, if_pos c3, if_pos c4, if_pos c5, r1, r2, Int.toNat_natCast]
  refine Ev.bind (a6j e s) ?_
  cases hlt : ltE e s with
  | true =>
   have hn : cmpE e s < 0 := (a2h e s).2 hlt
   simp only [if_pos hn, eta]
   have hsw : ((A ++ (S ++ [s]) ++ e :: T ++ D).set (A.length + S.length + 1) s).set (A.length + S.length) e = A ++ S ++ e :: (s :: T) ++ D := by
    rw [hlE]
    have := a9x (A ++ S) (T ++ D) s e
    rw [List.length_append] at this
    rw [this]; simp
   rw [hsw]
   have hlen2 : (A ++ S ++ e :: (s :: T) ++ D).length < 1000000000 := by simp; omega
   have hST' : ∀ x ∈ S, ∀ t ∈ s :: T, leE x t = true := fun x hx t ht => by
    rcases List.mem_cons.1 ht with rfl | ht
    · exact hS2 x hx _ (by simp)
    · exact hST x (by simp [hx]) t ht
   have hT' : ∀ t ∈ s :: T, ltE e t = true := fun t ht => by
    rcases List.mem_cons.1 ht with rfl | ht
    · exact hlt
    · exact hT t ht
   have hTs' : a0d (s :: T) := sorted_cons.2 ⟨fun t ht => hST s (by simp) t ht, hTs⟩
   have hp : a0b (S ++ [s] ++ e :: T) = a0b (S ++ e :: (s :: T)) := a1y (by
    rw [List.append_assoc]
    exact List.Perm.append_left S (List.Perm.swap e s T))
   rw [hp] at hk
   have := ih e (s :: T) D hS1 hlen2 hi hST' hT' hTs' hk
   rw [List.length_append] at this
   exact this
  | false =>
   have hn : ¬ cmpE e s < 0 := fun h => by rw [(a2h e s).1 h] at hlt; cases hlt
   simp only [if_neg hn]
   have hle : leE s e = true := by simp [leE, hlt]
   have hso : a0d (S ++ [s] ++ e :: T) := by
    refine sorted_append.2 ⟨hS, sorted_cons.2 ⟨fun t ht => a3e (hT t ht), hTs⟩, fun x hx t ht => ?_⟩
    rcases List.mem_cons.1 ht with rfl | ht
    · rcases List.mem_append.1 hx with hx | hx
      · exact a2s _ _ _ (hS2 x hx s (by simp)) hle
      · rw [List.mem_singleton.1 hx]; exact hle
    · exact hST x hx t ht
   rw [a2m hso] at hk
   simpa using hk
theorem b4l (A : List E) (a b : Nat) (ha : a = A.length) (D : List E) : ∀ (R S : List E), a0d S → b = a + S.length + R.length → (A ++ S ++ R ++ D).length < 1000000000 →
 Ev (fun k => api_Entry_122.l0 k (A ++ S ++ R ++ D) (a : Int) (b : Int) ((a + S.length : Nat) : Int)) (A ++ a0b (S ++ R) ++ D) := by
 intro R
 induction R with
 | nil =>
  intro S hS hb hlen
  refine Ev.step (fun k => by simp only [api_Entry_122.l0]; exact rfl) ?_
  have h0 : ¬ ((a + S.length : Nat) : Int) < (b : Int) := by simp at hb; omega
  simp only [if_neg h0]
  rw [List.append_nil, List.append_nil, a2m hS]
  exact Ev.now _
 | cons e R ih =>
  intro S hS hb hlen
  have hlen' := hlen
  simp only [List.length_append, List.length_cons] at hlen' hb
  refine Ev.step (fun k => by simp only [api_Entry_122.l0]; exact rfl) ?_
  have h0 : ((a + S.length : Nat) : Int) < (b : Int) := by omega
  simp only [if_pos h0]
  have hin := c1x A a b (a + S.length) ha (A ++ a0b (S ++ e :: R) ++ D) S e [] (R ++ D) hS (by simp; omega) (by omega) (by simp) (by simp) a6a (by
   rw [a1u (by omega)]
   have hl := a0i (S ++ [e])
   have := ih (a0b (S ++ [e])) (a0y _) (by rw [hl]; simp; omega) (by simp [hl]; omega)
   rw [hl] at this
   have hp : a0b (a0b (S ++ [e]) ++ R) = a0b (S ++ e :: R) := a1y (by
    have := List.Perm.append_right R (a0n (S ++ [e]))
    rwa [List.append_assoc S [e] R] at this)
   rw [hp] at this
   have e1 : a + (S ++ [e]).length = a + S.length + 1 := by simp; omega
   rw [e1] at this
   have e2 : A ++ a0b (S ++ [e]) ++ R ++ D = A ++ a0b (S ++ [e]) ++ (R ++ D) := by simp
   rw [e2] at this
   exact this)
  have e3 : A ++ S ++ e :: [] ++ (R ++ D) = A ++ S ++ e :: R ++ D := by simp
  rw [e3] at hin
  have e4 : (((A ++ S).length : Nat) : Int) = ((a + S.length : Nat) : Int) := by rw [List.length_append, ha]
  rw [e4] at hin
  exact hin
theorem a8l (A X D : List E) (hlen : (A ++ X ++ D).length < 1000000000) : Ev (fun k => api_Entry_122.f k (A ++ X ++ D) (A.length : Int) ((A.length + X.length : Nat) : Int)) (A ++ a0b X ++ D) := by
 have hlen' := hlen
 simp only [List.length_append] at hlen'
 unfold api_Entry_122.f
 cases X with
 | nil =>
  refine Ev.step (fun k => by simp only [api_Entry_122.l0]; exact rfl) ?_
  have h0 : ¬ wrap64 ((A.length : Int) + 1) < ((A.length + ([] : List E).length : Nat) : Int) := by rw [a1u (by omega)]; simp; omega
  simp only [if_neg h0, a4k]
  exact Ev.now _
 | cons e R =>
  rw [a1u (by omega)]
  have := b4l A A.length (A.length + (e :: R).length) rfl D R [e] (List.pairwise_singleton _ _) (by simp; omega) (by simp at hlen' ⊢; omega)
  have e1 : A ++ [e] ++ R ++ D = A ++ e :: R ++ D := by simp
  rw [e1] at this
  exact this
theorem c0k (P Q R : List E) (x y : E) : ((P ++ x :: Q ++ y :: R).set P.length y).set (P.length + 1 + Q.length) x = P ++ y :: Q ++ x :: R := by
 have e1 : (P ++ x :: Q ++ y :: R).set P.length y = P ++ y :: Q ++ y :: R := by
  rw [List.append_assoc, List.cons_append, b0f, List.append_assoc, List.cons_append]
 rw [e1]
 have e2 : P.length + 1 + Q.length = (P ++ y :: Q).length := by simp; omega
 rw [e2, b0f]
theorem b9l (A B C : List E) (a b n : Nat) : ∀ (X2 Y2 X1 Y1 : List E), X2.length = Y2.length → X1.length = Y1.length → a = A.length → b = A.length + X1.length + X2.length + B.length → n = X1.length + X2.length →
 (A ++ Y1 ++ X2 ++ B ++ X1 ++ Y2 ++ C).length < 1000000000 →
 Ev (fun k => api_Entry_132.l0 k (A ++ Y1 ++ X2 ++ B ++ X1 ++ Y2 ++ C) (a : Int) (b : Int) (n : Int) ((X1.length : Nat) : Int)) (A ++ (Y1 ++ Y2) ++ B ++ (X1 ++ X2) ++ C) := by
 intro X2
 induction X2 with
 | nil =>
  intro Y2 X1 Y1 h1 h2 ha hb hn hlen
  have : Y2 = [] := List.eq_nil_of_length_eq_zero h1.symm
  subst this
  refine Ev.step (fun k => by simp only [api_Entry_132.l0]; exact rfl) ?_
  have h0 : ¬ ((X1.length : Nat) : Int) < (n : Int) := by simp at hn; omega
  simp only [if_neg h0]
  have e : A ++ Y1 ++ [] ++ B ++ X1 ++ [] ++ C = A ++ (Y1 ++ []) ++ B ++ (X1 ++ []) ++ C := by simp
  rw [e]
  exact Ev.now _
 | cons x X2 ih =>
  intro Y2 X1 Y1 h1 h2 ha hb hn hlen
  cases Y2 with
  | nil => simp at h1
  | cons y Y2 =>
   have hlen' := hlen
   simp only [List.length_append, List.length_cons] at hlen' h1 hb hn
   clear hlen
   refine Ev.step (fun k => by simp only [api_Entry_132.l0]; exact rfl) ?_
   have h0 : ((X1.length : Nat) : Int) < (n : Int) := by omega
   have b1 : b + X1.length < 4611686018427387904 := by omega
   have b2 : a + X1.length < 4611686018427387904 := by omega
   have hE : A ++ Y1 ++ x :: X2 ++ B ++ X1 ++ y :: Y2 ++ C = (A ++ Y1) ++ x :: (X2 ++ B ++ X1) ++ y :: (Y2 ++ C) := by simp
   have r1 : a0a (A ++ Y1 ++ x :: X2 ++ B ++ X1 ++ y :: Y2 ++ C) ((b + X1.length : Nat) : Int) = y := a1o (A := (A ++ Y1) ++ x :: (X2 ++ B ++ X1)) (B := Y2 ++ C) (by rw [hE]) (by simp; omega)
   have r2 : a0a (A ++ Y1 ++ x :: X2 ++ B ++ X1 ++ y :: Y2 ++ C) ((a + X1.length : Nat) : Int) = x := a1o (A := A ++ Y1) (B := (X2 ++ B ++ X1) ++ y :: (Y2 ++ C)) (by rw [hE]; simp) (by simp; omega)
   have c1 : (0 : Int) ≤ ((b + X1.length : Nat) : Int) := by omega
   have c2 : ((b + X1.length : Nat) : Int) < ((A ++ Y1 ++ x :: X2 ++ B ++ X1 ++ y :: Y2 ++ C).length : Int) := by simp; omega
   have c3 : (0 : Int) ≤ ((a + X1.length : Nat) : Int) := by omega
   have c4 : ((a + X1.length : Nat) : Int) < ((A ++ Y1 ++ x :: X2 ++ B ++ X1 ++ y :: Y2 ++ C).length : Int) := by simp; omega
   simp only [wadd b1, wadd b2, if_pos h0, if_pos c1, if_pos c2, if_pos c3, if_pos c4, r1, r2, Int.toNat_natCast, eta]
   have hsw : ((A ++ Y1 ++ x :: X2 ++ B ++ X1 ++ y :: Y2 ++ C).set (a + X1.length) y).set (b + X1.length) x = A ++ (Y1 ++ [y]) ++ X2 ++ B ++ (X1 ++ [x]) ++ Y2 ++ C := by
    rw [hE]
    have e1 : a + X1.length = (A ++ Y1).length := by simp; omega
    have e2 : b + X1.length = (A ++ Y1).length + 1 + (X2 ++ B ++ X1).length := by simp; omega
    rw [e2, e1, c0k]; simp
   rw [hsw, a1u (by omega)]
   have := ih Y2 (X1 ++ [x]) (Y1 ++ [y]) (by omega) (by simp; omega) ha (by simp; omega) (by simp; omega) (by simp; omega)
   have e3 : (X1 ++ [x]).length = X1.length + 1 := by simp
   rw [e3] at this
   have e4 : A ++ (Y1 ++ [y] ++ Y2) ++ B ++ (X1 ++ [x] ++ X2) ++ C = A ++ (Y1 ++ y :: Y2) ++ B ++ (X1 ++ x :: X2) ++ C := by simp
   rw [e4] at this
   exact this
theorem a6o (A X B Y C : List E) (h : X.length = Y.length) (hlen : (A ++ X ++ B ++ Y ++ C).length < 1000000000) :
 Ev (fun k => api_Entry_132.f k (A ++ X ++ B ++ Y ++ C) ((A.length : Nat) : Int) ((A.length + X.length + B.length : Nat) : Int) ((X.length : Nat) : Int)) (A ++ Y ++ B ++ X ++ C) := by
 unfold api_Entry_132.f
 have := b9l A B C A.length (A.length + X.length + B.length) X.length X Y [] [] h rfl rfl (by simp) (by simp) (by simpa using hlen)
 simpa using this
theorem c0t : ∀ (n : Nat) (A U V C : List E), U.length + V.length = n → 0 < U.length → 0 < V.length → (A ++ U ++ V ++ C).length < 1000000000 →
 Ev (fun k => api_Entry_130.l0 k (A ++ U ++ V ++ C) ((A.length + U.length : Nat) : Int) ((U.length : Nat) : Int) ((V.length : Nat) : Int)) (A ++ V ++ U ++ C) := by
 intro n
 induction n using Nat.strongRecOn with
 | _ n ih =>
  intro A U V C hn hU hV hlen
  have hlen' := hlen
  simp only [List.length_append] at hlen'
  refine Ev.step (fun k => by simp only [api_Entry_130.l0]; exact rfl) ?_
  simp only [wsub (show U.length ≤ A.length + U.length by omega) (show A.length + U.length < 4611686018427387904 by omega), show A.length + U.length - U.length = A.length by omega]
  by_cases h1 : U.length = V.length
  · have c1 : ((U.length : Nat) : Int) = ((V.length : Nat) : Int) := by omega
    simp only [if_pos c1]
    have := a6o A U [] V C h1 (by simpa using hlen)
    refine Ev.bind (a := A ++ V ++ U ++ C) ?_ (Ev.now _)
    simpa using this
  · have c1 : ¬ ((U.length : Nat) : Int) = ((V.length : Nat) : Int) := by omega
    simp only [if_neg c1]
    by_cases h2 : V.length < U.length
    · have c2 : ((U.length : Nat) : Int) > ((V.length : Nat) : Int) := by omega
      simp only [if_pos c2]
      obtain ⟨U1, U2, rfl, hU1⟩ : ∃ U1 U2, U = U1 ++ U2 ∧ U1.length = V.length := ⟨U.take V.length, U.drop V.length, (List.take_append_drop _ _).symm, by rw [List.length_take]; omega⟩
      simp only [List.length_append] at h2 hlen' hn hU
      have hs := a6o A U1 U2 V C hU1 (by simp; omega)
      have e1 : ((A.length + U1.length + U2.length : Nat) : Int) = ((A.length + (U1 ++ U2).length : Nat) : Int) := by simp; omega
      rw [e1, hU1] at hs
      have e2 : A ++ U1 ++ U2 ++ V ++ C = A ++ (U1 ++ U2) ++ V ++ C := by simp
      rw [e2] at hs
      refine Ev.bind hs ?_
      simp only [wsub (show V.length ≤ (U1 ++ U2).length by simp; omega) (show (U1 ++ U2).length < 4611686018427387904 by simp; omega), show (U1 ++ U2).length - V.length = U2.length by simp; omega]
      have := ih (U2.length + U1.length) (by omega) (A ++ V) U2 U1 C rfl (by omega) (by omega) (by simp; omega)
      have e3 : (((A ++ V).length + U2.length : Nat) : Int) = ((A.length + (U1 ++ U2).length : Nat) : Int) := by simp; omega
      rw [e3, hU1] at this
      have e4 : A ++ V ++ U1 ++ U2 ++ C = A ++ V ++ (U1 ++ U2) ++ C := by simp
      rw [e4] at this
      exact this
    · have c2 : ¬ ((U.length : Nat) : Int) > ((V.length : Nat) : Int) := by omega
      simp only [if_neg c2]
      obtain ⟨V1, V2, rfl, hV2⟩ : ∃ V1 V2, V = V1 ++ V2 ∧ V2.length = U.length := ⟨V.take (V.length - U.length), V.drop (V.length - U.length), (List.take_append_drop _ _).symm, by rw [List.length_drop]; omega⟩
      simp only [List.length_append] at h1 h2 hlen' hn hV
      have hs := a6o A U V1 V2 C hV2.symm (by simp; omega)
      simp only [wadd (show A.length + U.length + (V1 ++ V2).length < 4611686018427387904 by simp; omega), wsub (show U.length ≤ A.length + U.length + (V1 ++ V2).length by simp; omega) (show A.length + U.length + (V1 ++ V2).length < 4611686018427387904 by simp; omega), show A.length + U.length + (V1 ++ V2).length - U.length = A.length + U.length + V1.length by simp; omega]
      have e2 : A ++ U ++ V1 ++ V2 ++ C = A ++ U ++ (V1 ++ V2) ++ C := by simp
      rw [e2] at hs
      refine Ev.bind hs ?_
      simp only [wsub (show U.length ≤ (V1 ++ V2).length by simp; omega) (show (V1 ++ V2).length < 4611686018427387904 by simp; omega), show (V1 ++ V2).length - U.length = V1.length by simp; omega]
      have := ih (V2.length + V1.length) (by omega) A V2 V1 (U ++ C) rfl (by omega) (by omega) (by simp; omega)
      rw [hV2] at this
      have e3 : A ++ V2 ++ V1 ++ (U ++ C) = A ++ V2 ++ V1 ++ U ++ C := by simp
      have e4 : A ++ V1 ++ V2 ++ (U ++ C) = A ++ (V1 ++ V2) ++ U ++ C := by simp
      rw [e3, e4] at this
      exact this
theorem b9k (A U V C : List E) (hU : 0 < U.length) (hV : 0 < V.length) (hlen : (A ++ U ++ V ++ C).length < 1000000000) :
 Ev (fun k => api_Entry_130.f k (A ++ U ++ V ++ C) ((A.length : Nat) : Int) ((A.length + U.length : Nat) : Int) ((A.length + U.length + V.length : Nat) : Int)) (A ++ V ++ U ++ C) := by
 have hlen' := hlen
 simp only [List.length_append] at hlen'
 unfold api_Entry_130.f
 simp only [wsub (show A.length ≤ A.length + U.length by omega) (show A.length + U.length < 4611686018427387904 by omega), show A.length + U.length - A.length = U.length by omega, wsub (show A.length + U.length ≤ A.length + U.length + V.length by omega) (show A.length + U.length + V.length < 4611686018427387904 by omega), show A.length + U.length + V.length - (A.length + U.length) = V.length by omega]
 exact c0t _ A U V C rfl hU hV hlen
theorem b5e (A : List E) (x : E) (C : List E) (a i : Nat) : ∀ (Q P : List E), a = A.length + P.length → i = A.length + P.length + 1 + Q.length → (A ++ P ++ x :: Q ++ C).length < 1000000000 →
 Ev (fun k => api_Entry_123.l1 k (A ++ P ++ x :: Q ++ C) (i : Int) (a : Int)) (A ++ P ++ Q ++ x :: C) := by
 intro Q
 induction Q generalizing a with
 | nil =>
  intro P ha hi hlen
  have hlen' := hlen
  simp only [List.length_append, List.length_cons, List.length_nil] at hlen' hi
  refine Ev.step (fun k => by simp only [api_Entry_123.l1]; exact rfl) ?_
  have p0 : 0 < i := by omega
  have p1 : i < 4611686018427387904 := by omega
  have c : ¬ (a : Int) < ((i - 1 : Nat) : Int) := by omega
  simp only [a2w p0 p1, if_neg c]
  have e : A ++ P ++ x :: [] ++ C = A ++ P ++ [] ++ x :: C := by simp
  rw [e]
  exact Ev.now _
 | cons q Q ih =>
  intro P ha hi hlen
  have hlen' := hlen
  simp only [List.length_append, List.length_cons] at hlen' hi
  refine Ev.step (fun k => by simp only [api_Entry_123.l1]; exact rfl) ?_
  have p0 : 0 < i := by omega
  have p1 : i < 4611686018427387904 := by omega
  have p2 : a ≤ 4611686018427387904 := by omega
  have c : (a : Int) < ((i - 1 : Nat) : Int) := by omega
  have hE : A ++ P ++ x :: q :: Q ++ C = (A ++ P) ++ x :: q :: (Q ++ C) := by simp
  have r1 : a0a (A ++ P ++ x :: q :: Q ++ C) ((a + 1 : Nat) : Int) = q := a1o (A := A ++ P ++ [x]) (B := Q ++ C) (by simp) (by simp; omega)
  have r2 : a0a (A ++ P ++ x :: q :: Q ++ C) (a : Int) = x := a1o (A := A ++ P) (B := q :: (Q ++ C)) (by simp) (by simp; omega)
  have c1 : (0 : Int) ≤ ((a + 1 : Nat) : Int) := by omega
  have c2 : ((a + 1 : Nat) : Int) < ((A ++ P ++ x :: q :: Q ++ C).length : Int) := by simp; omega
  have c3 : (0 : Int) ≤ (a : Int) := by omega
  have c4 : (a : Int) < ((A ++ P ++ x :: q :: Q ++ C).length : Int) := by simp; omega
  simp only [a2w p0 p1, a1u p2, if_pos c, if_pos c1, if_pos c2, if_pos c3, if_pos c4, r1, r2, Int.toNat_natCast, eta]
  have hsw : ((A ++ P ++ x :: q :: Q ++ C).set a q).set (a + 1) x = A ++ (P ++ [q]) ++ x :: Q ++ C := by
   rw [hE, show a = (A ++ P).length by simp; omega, b9d]; simp
  rw [hsw]
  have := ih (a + 1) (P ++ [q]) (by simp; omega) (by simp; omega) (by simp; omega)
  have e : A ++ (P ++ [q]) ++ Q ++ x :: C = A ++ P ++ q :: Q ++ x :: C := by simp
  rw [e] at this
  exact this
theorem b9n (A : List E) (y : E) (i : Nat) (hi : i = A.length) : ∀ (P C : List E) (m : Nat), m = A.length + P.length → (A ++ P ++ y :: C).length < 1000000000 →
 Ev (fun k => api_Entry_123.l3 k (A ++ P ++ y :: C) (i : Int) (m : Int)) (A ++ y :: (P ++ C)) := by
 intro P
 induction P using a8o with
 | h0 =>
  intro C m hm hlen
  refine Ev.step (fun k => by simp only [api_Entry_123.l3]; exact rfl) ?_
  have c : ¬ (m : Int) > (i : Int) := by simp at hm; omega
  simp only [if_neg c]
  have e : A ++ [] ++ y :: C = A ++ y :: ([] ++ C) := by simp
  rw [e]
  exact Ev.now _
 | h1 P p ih =>
  intro C m hm hlen
  have hlen' := hlen
  simp only [List.length_append, List.length_cons, List.length_nil] at hlen' hm
  refine Ev.step (fun k => by simp only [api_Entry_123.l3]; exact rfl) ?_
  have p0 : 0 < m := by omega
  have p1 : m < 4611686018427387904 := by omega
  have c : (m : Int) > (i : Int) := by omega
  have hE : A ++ (P ++ [p]) ++ y :: C = (A ++ P) ++ p :: y :: C := by simp
  have r1 : a0a (A ++ (P ++ [p]) ++ y :: C) ((m - 1 : Nat) : Int) = p := a1o (A := A ++ P) (B := y :: C) (by simp) (by simp; omega)
  have r2 : a0a (A ++ (P ++ [p]) ++ y :: C) (m : Int) = y := a1o (A := A ++ P ++ [p]) (B := C) (by simp) (by simp; omega)
  have c1 : (0 : Int) ≤ ((m - 1 : Nat) : Int) := by omega
  have c2 : ((m - 1 : Nat) : Int) < ((A ++ (P ++ [p]) ++ y :: C).length : Int) := by simp; omega
  have c3 : (0 : Int) ≤ (m : Int) := by omega
  have c4 : (m : Int) < ((A ++ (P ++ [p]) ++ y :: C).length : Int) := by simp; omega
  simp only [a2w p0 p1, if_pos c, if_pos c1, if_pos c2, if_pos c3, if_pos c4, r1, r2, Int.toNat_natCast, eta]
  have hsw : ((A ++ (P ++ [p]) ++ y :: C).set m p).set (m - 1) y = A ++ P ++ y :: (p :: C) := by
   rw [hE, show m = (A ++ P).length + 1 by simp; omega, show (A ++ P).length + 1 - 1 = (A ++ P).length by omega, a9x]
  rw [hsw]
  have := ih (p :: C) (m - 1) (by omega) (by simp; omega)
  have e : A ++ y :: (P ++ p :: C) = A ++ y :: (P ++ [p] ++ C) := by simp
  rw [e] at this
  exact this
end Go.Proofs.YthghkglkifeagaaGreat.V
end
