-- a text of this work, without what this claim doesn't use (wip/shake.py)
import Derived.Test.YtccppdmangbdoaaPVPentry
import Derived.Test.YtccppdmangbdoaaPVPentry1
import Derived.Test.YtccppdmangbdoaaPVPslices1
import Derived.Test.YtccppdmangbdoaaPVPslicesZ
section
namespace Go.Proofs.Ytccppdmangbdoaa.V
open Go.RowKit Go.Proofs.YtccppdmangbdoaaW.PrintWords Go.Proofs.YtccppdmangbdoaaW.PrintLast Go.Proofs.YtccppdmangbdoaaW.PrintMore
attribute [local go_sem] max2_int min2_int max_two min_two max_three min_three max_four min_four
set_option linter.unusedVariables false
set_option linter.unusedSimpArgs false
mutual
def api_Entry_49.l0 : Nat → List (S31) → Int → Int → Int → Int → Option ((List (S31)))
 | 0, _, _, _, _, _ => none
 | k + 1, x0, x1, x6, x7, x8 => if x8 ≤ x1 then ((api_Entry_53.f k x0 x7 x8).bind fun t101 => (api_Entry_49.l0 k t101 x1 x6 x8 (wrap64 (x8 + x6)))) else ((api_Entry_53.f k x0 x7 x1).bind fun t102 => (api_Entry_49.l1 k t102 x1 x6))
def api_Entry_49.l1 : Nat → List (S31) → Int → Int → Option ((List (S31)))
 | 0, _, _, _ => none
 | k + 1, x0, x1, x6 => if x6 < x1 then (api_Entry_49.l2 k x0 x1 x6 0 (wrap64 (2 * x6))) else (some x0)
def api_Entry_49.l2 : Nat → List (S31) → Int → Int → Int → Int → Option ((List (S31)))
 | 0, _, _, _, _, _ => none
 | k + 1, x0, x1, x6, x7, x8 => if x8 ≤ x1 then ((api_Entry_54.f k x0 x7 (wrap64 (x7 + x6)) x8).bind fun t103 => (api_Entry_49.l2 k t103 x1 x6 x8 (wrap64 (x8 + (wrap64 (2 * x6)))))) else (if (wrap64 (x7 + x6)) < x1 then ((api_Entry_54.f k x0 x7 (wrap64 (x7 + x6)) x1).bind fun t104 => (api_Entry_49.l1 k t104 x1 (wrap64 (x6 * 2)))) else (api_Entry_49.l1 k x0 x1 (wrap64 (x6 * 2))))
end
def api_Entry_49.f (k : Nat) (l0 : List (S31)) (a1 : Int)  : Option ((List (S31))) := api_Entry_49.l0 k l0 a1 20 0 20
set_option maxHeartbeats 8000000 in
set_option maxRecDepth 100000 in
theorem api_Entry_49.calls (k : Nat) (P0_ : Nat → Prop) (u9000_ : Value) (l0 : List (S31)) (a1 : Int)  (r : List (S31)) (w0 w : World) (hB : Below w0.heap.size w0 w) (ho0 : Kd.RC k31 31 w w0.heap.size P0_ u9000_ l0) (h : api_Entry_49.f k l0 a1 = some r) :
 Calls Try.prog 49 #[u9000_, .int .i64 a1, .func (.func 44) #[] #[]] w fun e w' => e = .returned (.tuple #[]) ∧ Kd.RC k31 31 w' w0.heap.size (fun k_ => (P0_ k_ ∨ w.heap.size ≤ k_)) u9000_ r ∧ Below w0.heap.size w0 w' ∧ Kept w w' (fun k_ => P0_ k_) := by
 have HO0 := Aside0.mk (show Kd.RC k31 31 w w0.heap.size (fun k_ => (P0_ k_ ∨ w.heap.size ≤ k_)) u9000_ l0 from Kd.RC_mono ho0 (fun k_ hk => (.inl hk))); have HK := Aside0.mk (Kept.refl w (fun k_ => P0_ k_)); have HW0 := Aside0.mk hB.size; have HB := Aside0.mk hB; clear hB; have H : (api_Entry_49.l0 k l0 a1 20 0 20) = some r := h; clear h; have H' := Aside0.mk H; clear H; go_enter Try.func49, Try.ntmps49
 go_wp2
 go_loopg [7, 8] k (fun kq v7 v8 w' => ∃ (x0_1 : List (S31)) (x7_1 : Int) (x8_1 : Int), v7 = .int .i64 x7_1 ∧ v8 = .int .i64 x8_1 ∧ Aside0 (api_Entry_49.l0 kq x0_1 a1 20 x7_1 x8_1 = some r) ∧ Aside0 (kq ≤ k) ∧ Aside0 (Kd.RC k31 31 w' w0.heap.size (fun k_ => (P0_ k_ ∨ w.heap.size ≤ k_)) u9000_ x0_1) ∧ Aside0 (Kept w w' (fun k_ => P0_ k_)) ∧ Aside0 (Below w0.heap.size w0 w'))
 case atStart => exact ⟨(l0), (0), (20), (by first | rfl | (simp; done) | (simp [*]; done)), (by first | rfl | (simp; done) | (simp [*]; done)), H', ⟨vu _⟩, ⟨by (with_reducible repeat (first | apply vr | apply vq | apply vp)); exact HO0.out⟩, ⟨by repeat (first | (with_reducible first | exact HK.out | apply vo | apply vn | apply vm) | exact HK.out)⟩, ⟨by repeat (first | (with_reducible first | exact HB.out | apply uf | apply ud | apply ue) | exact HB.out)⟩⟩
 case round =>
  clear H'
  try clear p2
  obtain ⟨x0_1, x7_1, x8_1, rfl, rfl, HA, HK1, HO_0, HK, HB⟩ := hrel
  cases gk with
  | zero => exact absurd HA.out (by simp [api_Entry_49.l0])
  | succ k1 =>
   have H := HA.out; clear HA; simp only [api_Entry_49.l0] at H
   by_cases c4 : x8_1 ≤ a1
   · rw [if_pos c4] at H; have c4b0 : decide (x8_1 ≤ a1) = true := decide_eq_true c4; clear c4; replace H := Option.bind_eq_some_iff.mp H; obtain ⟨t101, A50, H⟩ := H; replace H : (api_Entry_49.l0 k1 t101 a1 20 x8_1 (wrap64 (x8_1 + 20))) = some r := H; have A5 := Aside0.mk A50; clear A50; have H' := Aside0.mk H; clear H; obtain ⟨Ao6, co6, eo6⟩ := Kd.RC_slice HO_0.out; subst eo6
     go_wp2_with (first | ((with_reducible refine vl (f := 53) rfl ?_); refine xa (some 18) rfl rfl Try.func53 (by kernel_rfl) rfl #[.slice Ao6 x0_1.length co6, .int .i64 x7_1, .int .i64 x8_1, .func (.func 44) #[] #[]] rfl (by (try simp only [uj, uo, uu]); first | done | rfl | (simp only [ui, uh]; rfl)) ?_; (with_reducible refine (api_Entry_53.calls k1 (fun k_ => some k_ = (.slice Ao6 x0_1.length co6 : Value).ownBlock) (.slice Ao6 x0_1.length co6) x0_1 x7_1 x8_1  t101 w0 _ ?side1 ?side2 A5.out).mono ?_); (case side1 => repeat (first | (with_reducible first | exact HB.out | apply uf | apply ud | apply ue) | exact HB.out)); (case side2 => exact Kd.RC_tight rfl HO_0.out); rintro e w7 ⟨rfl, hy0, hb, hkp⟩; refine ⟨_, rfl, ?_⟩; have n0_ := Aside0.mk (Kd.RC_reok rfl hy0 (fun k_ e_ => HO_0.out.1 k_ e_)); have n1_ := Aside0.mk (Kept.then_ (S := (fun k_ => P0_ k_)) (by repeat (first | (with_reducible first | exact HK.out | apply vo | apply vn | apply vm) | exact HK.out)) hkp (fun k_ hs_ => (fun e_ => (HO_0.out.1 k_ e_.symm)) hs_)); have n2_ := Aside0.mk (hb); clear HO_0; clear HK; clear HB; have HO_0 := n0_; have HK := n1_; have HB := n2_; clear n0_ n1_ n2_; (try clear hb); (try clear hkp); (try clear hy0)))
     go_roundg k1
     case measure => have := HK1.out; omega
     case rel => exact ⟨(t101), (x8_1), (wrap64 (x8_1 + 20)), (by first | rfl | (simp; done) | (simp [*]; done)), (by first | rfl | (simp; done) | (simp [*]; done)), H', ⟨by have := HK1.out; omega⟩, ⟨by (with_reducible repeat (first | apply vr | apply vq | apply vp)); exact HO_0.out⟩, ⟨by repeat (first | (with_reducible first | exact HK.out | apply vo | apply vn | apply vm) | exact HK.out)⟩, ⟨by repeat (first | (with_reducible first | exact HB.out | apply uf | apply ud | apply ue) | exact HB.out)⟩⟩
   · rw [if_neg c4] at H; have c4b0 : decide (x8_1 ≤ a1) = false := decide_eq_false c4; clear c4; replace H := Option.bind_eq_some_iff.mp H; obtain ⟨t102, A80, H⟩ := H; replace H : (api_Entry_49.l1 k1 t102 a1 20) = some r := H; have A8 := Aside0.mk A80; clear A80; have H' := Aside0.mk H; clear H; obtain ⟨Ao9, co9, eo9⟩ := Kd.RC_slice HO_0.out; subst eo9
     go_wp2_with (first | ((with_reducible refine vl (f := 53) rfl ?_); refine xa (some 27) rfl rfl Try.func53 (by kernel_rfl) rfl #[.slice Ao9 x0_1.length co9, .int .i64 x7_1, .int .i64 a1, .func (.func 44) #[] #[]] rfl (by (try simp only [uj, uo, uu]); first | done | rfl | (simp only [ui, uh]; rfl)) ?_; (with_reducible refine (api_Entry_53.calls k1 (fun k_ => some k_ = (.slice Ao9 x0_1.length co9 : Value).ownBlock) (.slice Ao9 x0_1.length co9) x0_1 x7_1 a1  t102 w0 _ ?side1 ?side2 A8.out).mono ?_); (case side1 => repeat (first | (with_reducible first | exact HB.out | apply uf | apply ud | apply ue) | exact HB.out)); (case side2 => exact Kd.RC_tight rfl HO_0.out); rintro e w10 ⟨rfl, hy0, hb, hkp⟩; refine ⟨_, rfl, ?_⟩; have n0_ := Aside0.mk (Kd.RC_reok rfl hy0 (fun k_ e_ => HO_0.out.1 k_ e_)); have n1_ := Aside0.mk (Kept.then_ (S := (fun k_ => P0_ k_)) (by repeat (first | (with_reducible first | exact HK.out | apply vo | apply vn | apply vm) | exact HK.out)) hkp (fun k_ hs_ => (fun e_ => (HO_0.out.1 k_ e_.symm)) hs_)); have n2_ := Aside0.mk (hb); clear HO_0; clear HK; clear HB; have HO_0 := n0_; have HK := n1_; have HB := n2_; clear n0_ n1_ n2_; (try clear hb); (try clear hkp); (try clear hy0)))
     (try simp only [Act.put, ua, uc, ub])
     go_loopg [6] k1 (fun kq v6 w' => ∃ (x0_2 : List (S31)) (x6_2 : Int), v6 = .int .i64 x6_2 ∧ Aside0 (api_Entry_49.l1 kq x0_2 a1 x6_2 = some r) ∧ Aside0 (kq ≤ k1) ∧ Aside0 (Kd.RC k31 31 w' w0.heap.size (fun k_ => (P0_ k_ ∨ w.heap.size ≤ k_)) (.slice Ao9 x0_1.length co9) x0_2) ∧ Aside0 (Kept w w' (fun k_ => P0_ k_)) ∧ Aside0 (Below w0.heap.size w0 w'))
     case atStart => exact ⟨(t102), (20), (by first | rfl | (simp; done) | (simp [*]; done)), H', ⟨vu _⟩, ⟨by (with_reducible repeat (first | apply vr | apply vq | apply vp)); exact HO_0.out⟩, ⟨by repeat (first | (with_reducible first | exact HK.out | apply vo | apply vn | apply vm) | exact HK.out)⟩, ⟨by repeat (first | (with_reducible first | exact HB.out | apply uf | apply ud | apply ue) | exact HB.out)⟩⟩
     case round =>
      clear H'
      try clear p2
      try clear c4
      try clear c4b0
      try clear c5
      try clear p6
      try clear p2
      obtain ⟨x0_2, x6_2, rfl, HA, HK2, HO_0, HK, HB⟩ := hrel; have hl0_2 := (vv HO_0.out).1; rw [hl0_2] at HO_0; (try simp only [hl0_2])
      cases gk with
      | zero => exact absurd HA.out (by simp [api_Entry_49.l1])
      | succ k2 =>
       have H := HA.out; clear HA; simp only [api_Entry_49.l1] at H
       by_cases c11 : x6_2 < a1
       · rw [if_pos c11] at H; have c11b0 : decide (x6_2 < a1) = true := decide_eq_true c11; clear c11; have H' := Aside0.mk H; clear H
         go_wp2
         go_loopg [7, 8] k2 (fun kq v7 v8 w' => ∃ (x0_3 : List (S31)) (x7_3 : Int) (x8_3 : Int), v7 = .int .i64 x7_3 ∧ v8 = .int .i64 x8_3 ∧ Aside0 (api_Entry_49.l2 kq x0_3 a1 x6_2 x7_3 x8_3 = some r) ∧ Aside0 (kq ≤ k2) ∧ Aside0 (Kd.RC k31 31 w' w0.heap.size (fun k_ => (P0_ k_ ∨ w.heap.size ≤ k_)) (.slice Ao9 x0_2.length co9) x0_3) ∧ Aside0 (Kept w w' (fun k_ => P0_ k_)) ∧ Aside0 (Below w0.heap.size w0 w'))
         case atStart => exact ⟨(x0_2), (0), (wrap64 (2 * x6_2)), (by first | rfl | (simp; done) | (simp [*]; done)), (by first | rfl | (simp; done) | (simp [*]; done)), H', ⟨vu _⟩, ⟨by (try simp only [hl0_2]); (with_reducible repeat (first | apply vr | apply vq | apply vp)); exact HO_0.out⟩, ⟨by repeat (first | (with_reducible first | exact HK.out | apply vo | apply vn | apply vm) | exact HK.out)⟩, ⟨by repeat (first | (with_reducible first | exact HB.out | apply uf | apply ud | apply ue) | exact HB.out)⟩⟩
         case round =>
          clear H'
          try clear c1
          try clear p2
          try clear c4
          try clear c4b0
          try clear c5
          try clear p6
          try clear c11
          try clear c11b0
          try clear p2
          try clear p6
          obtain ⟨x0_3, x7_3, x8_3, rfl, rfl, HA, HK3, HO_0, HK, HB⟩ := hrel; have hl0_3 := (vv HO_0.out).1; rw [hl0_3] at HO_0; (try simp only [hl0_3])
          cases gk with
          | zero => exact absurd HA.out (by simp [api_Entry_49.l2])
          | succ k3 =>
           have H := HA.out; clear HA; simp only [api_Entry_49.l2] at H
           by_cases c12 : x8_3 ≤ a1
           · rw [if_pos c12] at H; have c12b0 : decide (x8_3 ≤ a1) = true := decide_eq_true c12; clear c12; replace H := Option.bind_eq_some_iff.mp H; obtain ⟨t103, A130, H⟩ := H; replace H : (api_Entry_49.l2 k3 t103 a1 x6_2 x8_3 (wrap64 (x8_3 + (wrap64 (2 * x6_2))))) = some r := H; have A13 := Aside0.mk A130; clear A130; have H' := Aside0.mk H; clear H
             go_wp2_with (first | ((with_reducible refine vl (f := 54) rfl ?_); refine xa (some 43) rfl rfl Try.func54 (by kernel_rfl) rfl #[.slice Ao9 x0_3.length co9, .int .i64 x7_3, .int .i64 (wrap64 (x7_3 + x6_2)), .int .i64 x8_3, .func (.func 44) #[] #[]] rfl (by (try simp only [uj, uo, uu]); first | done | rfl | (simp only [ui, uh]; rfl)) ?_; (with_reducible refine (api_Entry_54.calls k3 (fun k_ => some k_ = (.slice Ao9 x0_3.length co9 : Value).ownBlock) (.slice Ao9 x0_3.length co9) x0_3 x7_3 (wrap64 (x7_3 + x6_2)) x8_3  t103 w0 _ ?side1 ?side2 A13.out).mono ?_); (case side1 => repeat (first | (with_reducible first | exact HB.out | apply uf | apply ud | apply ue) | exact HB.out)); (case side2 => exact Kd.RC_tight rfl HO_0.out); rintro e w14 ⟨rfl, hy0, hb, hkp⟩; refine ⟨_, rfl, ?_⟩; have n0_ := Aside0.mk (Kd.RC_reok rfl hy0 (fun k_ e_ => HO_0.out.1 k_ e_)); have n1_ := Aside0.mk (Kept.then_ (S := (fun k_ => P0_ k_)) (by repeat (first | (with_reducible first | exact HK.out | apply vo | apply vn | apply vm) | exact HK.out)) hkp (fun k_ hs_ => (fun e_ => (HO_0.out.1 k_ e_.symm)) hs_)); have n2_ := Aside0.mk (hb); clear HO_0; clear HK; clear HB; have HO_0 := n0_; have HK := n1_; have HB := n2_; clear n0_ n1_ n2_; (try clear hb); (try clear hkp); (try clear hy0)))
             (try simp only [← hl0_3])
             go_roundg k3
             case measure => have := HK1.out; have := HK2.out; have := HK3.out; omega
             case rel => exact ⟨(t103), (x8_3), (wrap64 (x8_3 + (wrap64 (2 * x6_2)))), (by first | rfl | (simp; done) | (simp [*]; done)), (by first | rfl | (simp; done) | (simp [*]; done)), H', ⟨by have := HK1.out; have := HK2.out; have := HK3.out; omega⟩, ⟨by (try simp only [hl0_2]); (try simp only [hl0_3]); (with_reducible repeat (first | apply vr | apply vq | apply vp)); exact HO_0.out⟩, ⟨by repeat (first | (with_reducible first | exact HK.out | apply vo | apply vn | apply vm) | exact HK.out)⟩, ⟨by repeat (first | (with_reducible first | exact HB.out | apply uf | apply ud | apply ue) | exact HB.out)⟩⟩
           · rw [if_neg c12] at H; have c12b0 : decide (x8_3 ≤ a1) = false := decide_eq_false c12; clear c12
             by_cases c15 : (wrap64 (x7_3 + x6_2)) < a1
             · rw [if_pos c15] at H; have c15b0 : decide ((wrap64 (x7_3 + x6_2)) < a1) = true := decide_eq_true c15; clear c15; replace H := Option.bind_eq_some_iff.mp H; obtain ⟨t104, A160, H⟩ := H; replace H : (api_Entry_49.l1 k3 t104 a1 (wrap64 (x6_2 * 2))) = some r := H; have A16 := Aside0.mk A160; clear A160; have H' := Aside0.mk H; clear H
               go_wp2_with (first | ((with_reducible refine vl (f := 54) rfl ?_); refine xa (some 60) rfl rfl Try.func54 (by kernel_rfl) rfl #[.slice Ao9 x0_3.length co9, .int .i64 x7_3, .int .i64 (wrap64 (x7_3 + x6_2)), .int .i64 a1, .func (.func 44) #[] #[]] rfl (by (try simp only [uj, uo, uu]); first | done | rfl | (simp only [ui, uh]; rfl)) ?_; (with_reducible refine (api_Entry_54.calls k3 (fun k_ => some k_ = (.slice Ao9 x0_3.length co9 : Value).ownBlock) (.slice Ao9 x0_3.length co9) x0_3 x7_3 (wrap64 (x7_3 + x6_2)) a1  t104 w0 _ ?side1 ?side2 A16.out).mono ?_); (case side1 => repeat (first | (with_reducible first | exact HB.out | apply uf | apply ud | apply ue) | exact HB.out)); (case side2 => exact Kd.RC_tight rfl HO_0.out); rintro e w17 ⟨rfl, hy0, hb, hkp⟩; refine ⟨_, rfl, ?_⟩; have n0_ := Aside0.mk (Kd.RC_reok rfl hy0 (fun k_ e_ => HO_0.out.1 k_ e_)); have n1_ := Aside0.mk (Kept.then_ (S := (fun k_ => P0_ k_)) (by repeat (first | (with_reducible first | exact HK.out | apply vo | apply vn | apply vm) | exact HK.out)) hkp (fun k_ hs_ => (fun e_ => (HO_0.out.1 k_ e_.symm)) hs_)); have n2_ := Aside0.mk (hb); clear HO_0; clear HK; clear HB; have HO_0 := n0_; have HK := n1_; have HB := n2_; clear n0_ n1_ n2_; (try clear hb); (try clear hkp); (try clear hy0)))
               (try simp only [← hl0_2, ← hl0_3])
               go_roundg k3
               case measure => have := HK1.out; have := HK2.out; have := HK3.out; omega
               case rel => exact ⟨(t104), (wrap64 (x6_2 * 2)), (by first | rfl | (simp; done) | (simp [*]; done)), H', ⟨by have := HK1.out; have := HK2.out; have := HK3.out; omega⟩, ⟨by (try simp only [hl0_2]); (try simp only [hl0_3]); (with_reducible repeat (first | apply vr | apply vq | apply vp)); exact HO_0.out⟩, ⟨by repeat (first | (with_reducible first | exact HK.out | apply vo | apply vn | apply vm) | exact HK.out)⟩, ⟨by repeat (first | (with_reducible first | exact HB.out | apply uf | apply ud | apply ue) | exact HB.out)⟩⟩
             · rw [if_neg c15] at H; have c15b0 : decide ((wrap64 (x7_3 + x6_2)) < a1) = false := decide_eq_false c15; clear c15; have H' := Aside0.mk H; clear H
               go_wp2
               (try simp only [← hl0_2, ← hl0_3])
               go_roundg k3
               case measure => have := HK1.out; have := HK2.out; have := HK3.out; omega
               case rel => exact ⟨(x0_3), (wrap64 (x6_2 * 2)), (by first | rfl | (simp; done) | (simp [*]; done)), H', ⟨by have := HK1.out; have := HK2.out; have := HK3.out; omega⟩, ⟨by (try simp only [hl0_2]); (try simp only [hl0_3]); (with_reducible repeat (first | apply vr | apply vq | apply vp)); exact HO_0.out⟩, ⟨by repeat (first | (with_reducible first | exact HK.out | apply vo | apply vn | apply vm) | exact HK.out)⟩, ⟨by repeat (first | (with_reducible first | exact HB.out | apply uf | apply ud | apply ue) | exact HB.out)⟩⟩
       · rw [if_neg c11] at H; have c11b0 : decide (x6_2 < a1) = false := decide_eq_false c11; clear c11; obtain rfl := Option.some.inj H
         go_wp2
         first | go_end0 | ((try simp only [Exit.inBlock, Exit.then]); refine bodyPost_ret (results_none rfl _ _ _) rfl ?_)
         exact ⟨by first | rfl | (simp [errW_none, errW_some] <;> rfl) | (simp [*, errW_none, errW_some] <;> rfl), (by first | exact (by (with_reducible repeat (first | apply vr | apply vq | apply vp)); exact HO_0.out) | (simp only [hl0_2]; exact (by (with_reducible repeat (first | apply vr | apply vq | apply vp)); exact HO_0.out))), by repeat (first | (with_reducible first | exact HB.out | apply uf | apply ud | apply ue) | exact HB.out), by repeat (first | (with_reducible first | exact HK.out | apply vo | apply vn | apply vm) | exact HK.out)⟩
def api_Entry_43.f (k : Nat) (l0 : List (S31))  : Option ((List (S31))) := (api_Entry_49.f k l0 (l0.length : Int)).bind fun t101 => (some t101)
set_option maxHeartbeats 8000000 in
set_option maxRecDepth 100000 in
theorem api_Entry_43.calls (k : Nat) (P0_ : Nat → Prop) (u9000_ : Value) (l0 : List (S31))  (r : List (S31)) (w0 w : World) (hB : Below w0.heap.size w0 w) (ho0 : Kd.RC k31 31 w w0.heap.size P0_ u9000_ l0) (h : api_Entry_43.f k l0 = some r) :
 Calls Try.prog 43 #[u9000_, .func (.func 44) #[] #[]] w fun e w' => e = .returned (.tuple #[]) ∧ Kd.RC k31 31 w' w0.heap.size (fun k_ => (P0_ k_ ∨ w.heap.size ≤ k_)) u9000_ r ∧ Below w0.heap.size w0 w' ∧ Kept w w' (fun k_ => P0_ k_) := by
 have HO0 := Aside0.mk (show Kd.RC k31 31 w w0.heap.size (fun k_ => (P0_ k_ ∨ w.heap.size ≤ k_)) u9000_ l0 from Kd.RC_mono ho0 (fun k_ hk => (.inl hk))); have HK := Aside0.mk (Kept.refl w (fun k_ => P0_ k_)); have HW0 := Aside0.mk hB.size; have HB := Aside0.mk hB; clear hB; have H : ((api_Entry_49.f k l0 (l0.length : Int)).bind fun t101 => (some t101)) = some r := h; clear h; replace H := Option.bind_eq_some_iff.mp H; obtain ⟨t101, A30, H⟩ := H; replace H : (some t101) = some r := H; have A3 := Aside0.mk A30; clear A30; obtain rfl := Option.some.inj H; obtain ⟨Ao4, co4, eo4⟩ := Kd.RC_slice HO0.out; subst eo4; go_enter Try.func43, Try.ntmps43
 go_wp2_with (first | ((with_reducible refine vl (f := 49) rfl ?_); refine xa (some 8) rfl rfl Try.func49 (by kernel_rfl) rfl #[.slice Ao4 l0.length co4, .int .i64 (l0.length : Int), .func (.func 44) #[] #[]] rfl (by (try simp only [uj, uo, uu]); first | done | rfl | (simp only [ui, uh]; rfl)) ?_; (with_reducible refine (api_Entry_49.calls k (fun k_ => some k_ = (.slice Ao4 l0.length co4 : Value).ownBlock) (.slice Ao4 l0.length co4) l0 (l0.length : Int)  t101 w0 _ ?side1 ?side2 A3.out).mono ?_); (case side1 => repeat (first | (with_reducible first | exact HB.out | apply uf | apply ud | apply ue) | exact HB.out)); (case side2 => exact Kd.RC_tight rfl HO0.out); rintro e w5 ⟨rfl, hy0, hb, hkp⟩; refine ⟨_, rfl, ?_⟩; have n0_ := Aside0.mk (Kd.RC_reok rfl hy0 (fun k_ e_ => HO0.out.1 k_ e_)); have n1_ := Aside0.mk (Kept.then_ (S := (fun k_ => P0_ k_)) (by repeat (first | (with_reducible first | exact HK.out | apply vo | apply vn | apply vm) | exact HK.out)) hkp (fun k_ hs_ => (fun e_ => (HO0.out.1 k_ e_.symm)) hs_)); have n2_ := Aside0.mk (hb); clear HO0; clear HK; clear HB; have HO0 := n0_; have HK := n1_; have HB := n2_; clear n0_ n1_ n2_; (try clear hb); (try clear hkp); (try clear hy0)))
 first | go_end0 | ((try simp only [Exit.inBlock, Exit.then]); refine bodyPost_ret (results_none rfl _ _ _) rfl ?_)
 exact ⟨by first | rfl | (simp [errW_none, errW_some] <;> rfl) | (simp [*, errW_none, errW_some] <;> rfl), by (with_reducible repeat (first | apply vr | apply vq | apply vp)); exact HO0.out, by repeat (first | (with_reducible first | exact HB.out | apply uf | apply ud | apply ue) | exact HB.out), by repeat (first | (with_reducible first | exact HK.out | apply vo | apply vn | apply vm) | exact HK.out)⟩
end Go.Proofs.Ytccppdmangbdoaa.V
end
section
namespace Go.Proofs.Ytccppdmangbdoaa.V
open Go.RowKit Go.Proofs.YtccppdmangbdoaaW.PrintWords Go.Proofs.YtccppdmangbdoaaW.PrintLast Go.Proofs.YtccppdmangbdoaaW.PrintMore
attribute [local go_sem] max2_int min2_int max_two min_two max_three min_three max_four min_four
set_option linter.unusedVariables false
set_option linter.unusedSimpArgs false
theorem eqA31 (d : Nat) (w : World) (x0 y0 : Int) (x1 y1 : Int) :
 (Op.equalIn (d + 2) 31 (.agg #[.int .u64 x0, .int .i64 x1]) (.agg #[.int .u64 y0, .int .i64 y1])).run Try.prog w = .ok (x0 == y0 && (x1 == y1)) w := by
 refine eqA_of Try.underlying31 (by kernel_rfl) ?_
 refine eqf_cons (by rfl) (by go_simp; rfl) (by go_simp; rfl) (by go_simp) ?_
 exact eqf_last (by rfl) (by go_simp; rfl) (by go_simp; rfl) (by go_simp)
end Go.Proofs.Ytccppdmangbdoaa.V
end
