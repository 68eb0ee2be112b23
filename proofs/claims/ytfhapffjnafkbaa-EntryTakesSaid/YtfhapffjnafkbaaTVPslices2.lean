-- a text of this work, without what this claim doesn't use (wip/shake.py)
import Derived.Test.YtfhapffjnafkbaaTVPcmp
import Derived.Test.YtfhapffjnafkbaaTVPentry1
import Derived.Test.YtfhapffjnafkbaaTVPslices1
import Derived.Test.YtfhapffjnafkbaaTVPslicesZ
namespace Go.Proofs.Ytfhapffjnafkbaa.V
open Go.RowKit Go.Proofs.YtfhapffjnafkbaaW.PrintWords Go.Proofs.YtfhapffjnafkbaaW.PrintLast Go.Proofs.YtfhapffjnafkbaaW.PrintMore
attribute [local go_sem] max2_int min2_int max_two min_two max_three min_three max_four min_four
set_option linter.unusedVariables false
set_option linter.unusedSimpArgs false
mutual
def api_Entry_60.l0 : Nat → List (S33) → Int → Int → Int → Int → Option ((List (S33)))
 | 0, _, _, _, _, _ => none
 | k + 1, x0, x1, x6, x7, x8 => if x8 ≤ x1 then ((api_Entry_66.f k x0 x7 x8).bind fun t101 => (api_Entry_60.l0 k t101 x1 x6 x8 (wrap64 (x8 + x6)))) else ((api_Entry_66.f k x0 x7 x1).bind fun t102 => (api_Entry_60.l1 k t102 x1 x6))
def api_Entry_60.l1 : Nat → List (S33) → Int → Int → Option ((List (S33)))
 | 0, _, _, _ => none
 | k + 1, x0, x1, x6 => if x6 < x1 then (api_Entry_60.l2 k x0 x1 x6 0 (wrap64 (2 * x6))) else (some x0)
def api_Entry_60.l2 : Nat → List (S33) → Int → Int → Int → Int → Option ((List (S33)))
 | 0, _, _, _, _, _ => none
 | k + 1, x0, x1, x6, x7, x8 => if x8 ≤ x1 then ((api_Entry_67.f k x0 x7 (wrap64 (x7 + x6)) x8).bind fun t103 => (api_Entry_60.l2 k t103 x1 x6 x8 (wrap64 (x8 + (wrap64 (2 * x6)))))) else (if (wrap64 (x7 + x6)) < x1 then ((api_Entry_67.f k x0 x7 (wrap64 (x7 + x6)) x1).bind fun t104 => (api_Entry_60.l1 k t104 x1 (wrap64 (x6 * 2)))) else (api_Entry_60.l1 k x0 x1 (wrap64 (x6 * 2))))
end
def api_Entry_60.f (k : Nat) (l0 : List (S33)) (a1 : Int)  : Option ((List (S33))) := api_Entry_60.l0 k l0 a1 20 0 20
set_option maxHeartbeats 8000000 in
set_option maxRecDepth 100000 in
theorem api_Entry_60.calls (k : Nat) (P0_ : Nat → Prop) (u9000_ : Value) (l0 : List (S33)) (a1 : Int)  (r : List (S33)) (w0 w : World) (hB : Below w0.heap.size w0 w) (ho0 : Kd.RC k33 33 w w0.heap.size P0_ u9000_ l0) (h : api_Entry_60.f k l0 a1 = some r) :
 Calls Try.prog 60 #[u9000_, .int .i64 a1, .func (.func 49) #[] #[]] w fun e w' => e = .returned (.tuple #[]) ∧ Kd.RC k33 33 w' w0.heap.size (fun k_ => (P0_ k_ ∨ w.heap.size ≤ k_)) u9000_ r ∧ Below w0.heap.size w0 w' ∧ Kept w w' (fun k_ => P0_ k_) := by
 have HO0 := Aside0.mk (show Kd.RC k33 33 w w0.heap.size (fun k_ => (P0_ k_ ∨ w.heap.size ≤ k_)) u9000_ l0 from Kd.RC_mono ho0 (fun k_ hk => (.inl hk))); have HK := Aside0.mk (Kept.refl w (fun k_ => P0_ k_)); have HW0 := Aside0.mk hB.size; have HB := Aside0.mk hB; clear hB; have H : (api_Entry_60.l0 k l0 a1 20 0 20) = some r := h; clear h; have H' := Aside0.mk H; clear H; go_enter Try.func60, Try.ntmps60
 go_wp2
 go_loopg [7, 8] k (fun kq v7 v8 w' => ∃ (x0_1 : List (S33)) (x7_1 : Int) (x8_1 : Int), v7 = .int .i64 x7_1 ∧ v8 = .int .i64 x8_1 ∧ Aside0 (api_Entry_60.l0 kq x0_1 a1 20 x7_1 x8_1 = some r) ∧ Aside0 (kq ≤ k) ∧ Aside0 (Kd.RC k33 33 w' w0.heap.size (fun k_ => (P0_ k_ ∨ w.heap.size ≤ k_)) u9000_ x0_1) ∧ Aside0 (Kept w w' (fun k_ => P0_ k_)) ∧ Aside0 (Below w0.heap.size w0 w'))
 case atStart => exact ⟨(l0), (0), (20), (by first | rfl | (simp; done) | (simp [*]; done)), (by first | rfl | (simp; done) | (simp [*]; done)), H', ⟨vn _⟩, ⟨by (with_reducible repeat (first | apply vp | apply vo | apply vm)); exact HO0.out⟩, ⟨by repeat (first | (with_reducible first | exact HK.out | apply vl | apply vk | apply uw) | exact HK.out)⟩, ⟨by repeat (first | (with_reducible first | exact HB.out | apply uf | apply ud | apply ue) | exact HB.out)⟩⟩
 case round =>
  clear H'
  try clear p2
  obtain ⟨x0_1, x7_1, x8_1, rfl, rfl, HA, HK1, HO_0, HK, HB⟩ := hrel
  cases gk with
  | zero => exact absurd HA.out (by simp [api_Entry_60.l0])
  | succ k1 =>
   have H := HA.out; clear HA; simp only [api_Entry_60.l0] at H
   by_cases c4 : x8_1 ≤ a1
   · rw [if_pos c4] at H; have c4b0 : decide (x8_1 ≤ a1) = true := decide_eq_true c4; clear c4; replace H := Option.bind_eq_some_iff.mp H; obtain ⟨t101, A50, H⟩ := H; replace H : (api_Entry_60.l0 k1 t101 a1 20 x8_1 (wrap64 (x8_1 + 20))) = some r := H; have A5 := Aside0.mk A50; clear A50; have H' := Aside0.mk H; clear H; obtain ⟨Ao6, co6, eo6⟩ := xg HO_0.out; subst eo6
     go_wp2_with (first | ((with_reducible refine uz (f := 66) rfl ?_); refine xa (some 18) rfl rfl Try.func66 (by kernel_rfl) rfl #[.slice Ao6 x0_1.length co6, .int .i64 x7_1, .int .i64 x8_1, .func (.func 49) #[] #[]] rfl (by (try simp only [un, uo, uq]); first | done | rfl | (simp only [ul, uk]; rfl)) ?_; (with_reducible refine (api_Entry_66.calls k1 (fun k_ => some k_ = (.slice Ao6 x0_1.length co6 : Value).ownBlock) (.slice Ao6 x0_1.length co6) x0_1 x7_1 x8_1  t101 w0 _ ?side1 ?side2 A5.out).mono ?_); (case side1 => repeat (first | (with_reducible first | exact HB.out | apply uf | apply ud | apply ue) | exact HB.out)); (case side2 => exact Kd.RC_tight rfl HO_0.out); rintro e w7 ⟨rfl, hy0, hb, hkp⟩; refine ⟨_, rfl, ?_⟩; have n0_ := Aside0.mk (Kd.RC_reok rfl hy0 (fun k_ e_ => HO_0.out.1 k_ e_)); have n1_ := Aside0.mk (Kept.then_ (S := (fun k_ => P0_ k_)) (by repeat (first | (with_reducible first | exact HK.out | apply vl | apply vk | apply uw) | exact HK.out)) hkp (fun k_ hs_ => (fun e_ => (HO_0.out.1 k_ e_.symm)) hs_)); have n2_ := Aside0.mk (hb); clear HO_0; clear HK; clear HB; have HO_0 := n0_; have HK := n1_; have HB := n2_; clear n0_ n1_ n2_; (try clear hb); (try clear hkp); (try clear hy0)))
     go_roundg k1
     case measure => have := HK1.out; omega
     case rel => exact ⟨(t101), (x8_1), (wrap64 (x8_1 + 20)), (by first | rfl | (simp; done) | (simp [*]; done)), (by first | rfl | (simp; done) | (simp [*]; done)), H', ⟨by have := HK1.out; omega⟩, ⟨by (with_reducible repeat (first | apply vp | apply vo | apply vm)); exact HO_0.out⟩, ⟨by repeat (first | (with_reducible first | exact HK.out | apply vl | apply vk | apply uw) | exact HK.out)⟩, ⟨by repeat (first | (with_reducible first | exact HB.out | apply uf | apply ud | apply ue) | exact HB.out)⟩⟩
   · rw [if_neg c4] at H; have c4b0 : decide (x8_1 ≤ a1) = false := decide_eq_false c4; clear c4; replace H := Option.bind_eq_some_iff.mp H; obtain ⟨t102, A80, H⟩ := H; replace H : (api_Entry_60.l1 k1 t102 a1 20) = some r := H; have A8 := Aside0.mk A80; clear A80; have H' := Aside0.mk H; clear H; obtain ⟨Ao9, co9, eo9⟩ := xg HO_0.out; subst eo9
     go_wp2_with (first | ((with_reducible refine uz (f := 66) rfl ?_); refine xa (some 27) rfl rfl Try.func66 (by kernel_rfl) rfl #[.slice Ao9 x0_1.length co9, .int .i64 x7_1, .int .i64 a1, .func (.func 49) #[] #[]] rfl (by (try simp only [un, uo, uq]); first | done | rfl | (simp only [ul, uk]; rfl)) ?_; (with_reducible refine (api_Entry_66.calls k1 (fun k_ => some k_ = (.slice Ao9 x0_1.length co9 : Value).ownBlock) (.slice Ao9 x0_1.length co9) x0_1 x7_1 a1  t102 w0 _ ?side1 ?side2 A8.out).mono ?_); (case side1 => repeat (first | (with_reducible first | exact HB.out | apply uf | apply ud | apply ue) | exact HB.out)); (case side2 => exact Kd.RC_tight rfl HO_0.out); rintro e w10 ⟨rfl, hy0, hb, hkp⟩; refine ⟨_, rfl, ?_⟩; have n0_ := Aside0.mk (Kd.RC_reok rfl hy0 (fun k_ e_ => HO_0.out.1 k_ e_)); have n1_ := Aside0.mk (Kept.then_ (S := (fun k_ => P0_ k_)) (by repeat (first | (with_reducible first | exact HK.out | apply vl | apply vk | apply uw) | exact HK.out)) hkp (fun k_ hs_ => (fun e_ => (HO_0.out.1 k_ e_.symm)) hs_)); have n2_ := Aside0.mk (hb); clear HO_0; clear HK; clear HB; have HO_0 := n0_; have HK := n1_; have HB := n2_; clear n0_ n1_ n2_; (try clear hb); (try clear hkp); (try clear hy0)))
     (try simp only [Act.put, ua, uc, ub])
     go_loopg [6] k1 (fun kq v6 w' => ∃ (x0_2 : List (S33)) (x6_2 : Int), v6 = .int .i64 x6_2 ∧ Aside0 (api_Entry_60.l1 kq x0_2 a1 x6_2 = some r) ∧ Aside0 (kq ≤ k1) ∧ Aside0 (Kd.RC k33 33 w' w0.heap.size (fun k_ => (P0_ k_ ∨ w.heap.size ≤ k_)) (.slice Ao9 x0_1.length co9) x0_2) ∧ Aside0 (Kept w w' (fun k_ => P0_ k_)) ∧ Aside0 (Below w0.heap.size w0 w'))
     case atStart => exact ⟨(t102), (20), (by first | rfl | (simp; done) | (simp [*]; done)), H', ⟨vn _⟩, ⟨by (with_reducible repeat (first | apply vp | apply vo | apply vm)); exact HO_0.out⟩, ⟨by repeat (first | (with_reducible first | exact HK.out | apply vl | apply vk | apply uw) | exact HK.out)⟩, ⟨by repeat (first | (with_reducible first | exact HB.out | apply uf | apply ud | apply ue) | exact HB.out)⟩⟩
     case round =>
      clear H'
      try clear p2
      try clear c4
      try clear c4b0
      try clear c6
      try clear p6
      try clear p2
      obtain ⟨x0_2, x6_2, rfl, HA, HK2, HO_0, HK, HB⟩ := hrel; have hl0_2 := (vt HO_0.out).1; rw [hl0_2] at HO_0; (try simp only [hl0_2])
      cases gk with
      | zero => exact absurd HA.out (by simp [api_Entry_60.l1])
      | succ k2 =>
       have H := HA.out; clear HA; simp only [api_Entry_60.l1] at H
       by_cases c11 : x6_2 < a1
       · rw [if_pos c11] at H; have c11b0 : decide (x6_2 < a1) = true := decide_eq_true c11; clear c11; have H' := Aside0.mk H; clear H
         go_wp2
         go_loopg [7, 8] k2 (fun kq v7 v8 w' => ∃ (x0_3 : List (S33)) (x7_3 : Int) (x8_3 : Int), v7 = .int .i64 x7_3 ∧ v8 = .int .i64 x8_3 ∧ Aside0 (api_Entry_60.l2 kq x0_3 a1 x6_2 x7_3 x8_3 = some r) ∧ Aside0 (kq ≤ k2) ∧ Aside0 (Kd.RC k33 33 w' w0.heap.size (fun k_ => (P0_ k_ ∨ w.heap.size ≤ k_)) (.slice Ao9 x0_2.length co9) x0_3) ∧ Aside0 (Kept w w' (fun k_ => P0_ k_)) ∧ Aside0 (Below w0.heap.size w0 w'))
         case atStart => exact ⟨(x0_2), (0), (wrap64 (2 * x6_2)), (by first | rfl | (simp; done) | (simp [*]; done)), (by first | rfl | (simp; done) | (simp [*]; done)), H', ⟨vn _⟩, ⟨by (try simp only [hl0_2]); (with_reducible repeat (first | apply vp | apply vo | apply vm)); exact HO_0.out⟩, ⟨by repeat (first | (with_reducible first | exact HK.out | apply vl | apply vk | apply uw) | exact HK.out)⟩, ⟨by repeat (first | (with_reducible first | exact HB.out | apply uf | apply ud | apply ue) | exact HB.out)⟩⟩
         case round =>
          clear H'
          try clear c1
          try clear p2
          try clear c4
          try clear c4b0
          try clear c6
          try clear p6
          try clear c11
          try clear c11b0
          try clear p2
          try clear p6
          obtain ⟨x0_3, x7_3, x8_3, rfl, rfl, HA, HK3, HO_0, HK, HB⟩ := hrel; have hl0_3 := (vt HO_0.out).1; rw [hl0_3] at HO_0; (try simp only [hl0_3])
          cases gk with
          | zero => exact absurd HA.out (by simp [api_Entry_60.l2])
          | succ k3 =>
           have H := HA.out; clear HA; simp only [api_Entry_60.l2] at H
           by_cases c12 : x8_3 ≤ a1
           · rw [if_pos c12] at H; have c12b0 : decide (x8_3 ≤ a1) = true := decide_eq_true c12; clear c12; replace H := Option.bind_eq_some_iff.mp H; obtain ⟨t103, A130, H⟩ := H; replace H : (api_Entry_60.l2 k3 t103 a1 x6_2 x8_3 (wrap64 (x8_3 + (wrap64 (2 * x6_2))))) = some r := H; have A13 := Aside0.mk A130; clear A130; have H' := Aside0.mk H; clear H
             go_wp2_with (first | ((with_reducible refine uz (f := 67) rfl ?_); refine xa (some 43) rfl rfl Try.func67 (by kernel_rfl) rfl #[.slice Ao9 x0_3.length co9, .int .i64 x7_3, .int .i64 (wrap64 (x7_3 + x6_2)), .int .i64 x8_3, .func (.func 49) #[] #[]] rfl (by (try simp only [un, uo, uq]); first | done | rfl | (simp only [ul, uk]; rfl)) ?_; (with_reducible refine (api_Entry_67.calls k3 (fun k_ => some k_ = (.slice Ao9 x0_3.length co9 : Value).ownBlock) (.slice Ao9 x0_3.length co9) x0_3 x7_3 (wrap64 (x7_3 + x6_2)) x8_3  t103 w0 _ ?side1 ?side2 A13.out).mono ?_); (case side1 => repeat (first | (with_reducible first | exact HB.out | apply uf | apply ud | apply ue) | exact HB.out)); (case side2 => exact Kd.RC_tight rfl HO_0.out); rintro e w14 ⟨rfl, hy0, hb, hkp⟩; refine ⟨_, rfl, ?_⟩; have n0_ := Aside0.mk (Kd.RC_reok rfl hy0 (fun k_ e_ => HO_0.out.1 k_ e_)); have n1_ := Aside0.mk (Kept.then_ (S := (fun k_ => P0_ k_)) (by repeat (first | (with_reducible first | exact HK.out | apply vl | apply vk | apply uw) | exact HK.out)) hkp (fun k_ hs_ => (fun e_ => (HO_0.out.1 k_ e_.symm)) hs_)); have n2_ := Aside0.mk (hb); clear HO_0; clear HK; clear HB; have HO_0 := n0_; have HK := n1_; have HB := n2_; clear n0_ n1_ n2_; (try clear hb); (try clear hkp); (try clear hy0)))
             (try simp only [← hl0_3])
             go_roundg k3
             case measure => have := HK1.out; have := HK2.out; have := HK3.out; omega
             case rel => exact ⟨(t103), (x8_3), (wrap64 (x8_3 + (wrap64 (2 * x6_2)))), (by first | rfl | (simp; done) | (simp [*]; done)), (by first | rfl | (simp; done) | (simp [*]; done)), H', ⟨by have := HK1.out; have := HK2.out; have := HK3.out; omega⟩, ⟨by (try simp only [hl0_2]); (try simp only [hl0_3]); (with_reducible repeat (first | apply vp | apply vo | apply vm)); exact HO_0.out⟩, ⟨by repeat (first | (with_reducible first | exact HK.out | apply vl | apply vk | apply uw) | exact HK.out)⟩, ⟨by repeat (first | (with_reducible first | exact HB.out | apply uf | apply ud | apply ue) | exact HB.out)⟩⟩
           · rw [if_neg c12] at H; have c12b0 : decide (x8_3 ≤ a1) = false := decide_eq_false c12; clear c12
             by_cases c15 : (wrap64 (x7_3 + x6_2)) < a1
             · rw [if_pos c15] at H; have c15b0 : decide ((wrap64 (x7_3 + x6_2)) < a1) = true := decide_eq_true c15; clear c15; replace H := Option.bind_eq_some_iff.mp H; obtain ⟨t104, A160, H⟩ := H; replace H : (api_Entry_60.l1 k3 t104 a1 (wrap64 (x6_2 * 2))) = some r := H; have A16 := Aside0.mk A160; clear A160; have H' := Aside0.mk H; clear H
               go_wp2_with (first | ((with_reducible refine uz (f := 67) rfl ?_); refine xa (some 60) rfl rfl Try.func67 (by kernel_rfl) rfl #[.slice Ao9 x0_3.length co9, .int .i64 x7_3, .int .i64 (wrap64 (x7_3 + x6_2)), .int .i64 a1, .func (.func 49) #[] #[]] rfl (by (try simp only [un, uo, uq]); first | done | rfl | (simp only [ul, uk]; rfl)) ?_; (with_reducible refine (api_Entry_67.calls k3 (fun k_ => some k_ = (.slice Ao9 x0_3.length co9 : Value).ownBlock) (.slice Ao9 x0_3.length co9) x0_3 x7_3 (wrap64 (x7_3 + x6_2)) a1  t104 w0 _ ?side1 ?side2 A16.out).mono ?_); (case side1 => repeat (first | (with_reducible first | exact HB.out | apply uf | apply ud | apply ue) | exact HB.out)); (case side2 => exact Kd.RC_tight rfl HO_0.out); rintro e w17 ⟨rfl, hy0, hb, hkp⟩; refine ⟨_, rfl, ?_⟩; have n0_ := Aside0.mk (Kd.RC_reok rfl hy0 (fun k_ e_ => HO_0.out.1 k_ e_)); have n1_ := Aside0.mk (Kept.then_ (S := (fun k_ => P0_ k_)) (by repeat (first | (with_reducible first | exact HK.out | apply vl | apply vk | apply uw) | exact HK.out)) hkp (fun k_ hs_ => (fun e_ => (HO_0.out.1 k_ e_.symm)) hs_)); have n2_ := Aside0.mk (hb); clear HO_0; clear HK; clear HB; have HO_0 := n0_; have HK := n1_; have HB := n2_; clear n0_ n1_ n2_; (try clear hb); (try clear hkp); (try clear hy0)))
               (try simp only [← hl0_2, ← hl0_3])
               go_roundg k3
               case measure => have := HK1.out; have := HK2.out; have := HK3.out; omega
               case rel => exact ⟨(t104), (wrap64 (x6_2 * 2)), (by first | rfl | (simp; done) | (simp [*]; done)), H', ⟨by have := HK1.out; have := HK2.out; have := HK3.out; omega⟩, ⟨by (try simp only [hl0_2]); (try simp only [hl0_3]); (with_reducible repeat (first | apply vp | apply vo | apply vm)); exact HO_0.out⟩, ⟨by repeat (first | (with_reducible first | exact HK.out | apply vl | apply vk | apply uw) | exact HK.out)⟩, ⟨by repeat (first | (with_reducible first | exact HB.out | apply uf | apply ud | apply ue) | exact HB.out)⟩⟩
             · rw [if_neg c15] at H; have c15b0 : decide ((wrap64 (x7_3 + x6_2)) < a1) = false := decide_eq_false c15; clear c15; have H' := Aside0.mk H; clear H
               go_wp2
               (try simp only [← hl0_2, ← hl0_3])
               go_roundg k3
               case measure => have := HK1.out; have := HK2.out; have := HK3.out; omega
               case rel => exact ⟨(x0_3), (wrap64 (x6_2 * 2)), (by first | rfl | (simp; done) | (simp [*]; done)), H', ⟨by have := HK1.out; have := HK2.out; have := HK3.out; omega⟩, ⟨by (try simp only [hl0_2]); (try simp only [hl0_3]); (with_reducible repeat (first | apply vp | apply vo | apply vm)); exact HO_0.out⟩, ⟨by repeat (first | (with_reducible first | exact HK.out | apply vl | apply vk | apply uw) | exact HK.out)⟩, ⟨by repeat (first | (with_reducible first | exact HB.out | apply uf | apply ud | apply ue) | exact HB.out)⟩⟩
       · rw [if_neg c11] at H; have c11b0 : decide (x6_2 < a1) = false := decide_eq_false c11; clear c11; obtain rfl := Option.some.inj H
         go_wp2
         first | go_end0 | ((try simp only [Exit.inBlock, Exit.then]); refine bodyPost_ret (results_none rfl _ _ _) rfl ?_)
         exact ⟨by first | rfl | (simp [errW_none, errW_some] <;> rfl) | (simp [*, errW_none, errW_some] <;> rfl), (by first | exact (by (with_reducible repeat (first | apply vp | apply vo | apply vm)); exact HO_0.out) | (simp only [hl0_2]; exact (by (with_reducible repeat (first | apply vp | apply vo | apply vm)); exact HO_0.out))), by repeat (first | (with_reducible first | exact HB.out | apply uf | apply ud | apply ue) | exact HB.out), by repeat (first | (with_reducible first | exact HK.out | apply vl | apply vk | apply uw) | exact HK.out)⟩
def api_Entry_48.f (k : Nat) (l0 : List (S33))  : Option ((List (S33))) := (api_Entry_60.f k l0 (l0.length : Int)).bind fun t101 => (some t101)
set_option maxHeartbeats 8000000 in
set_option maxRecDepth 100000 in
theorem api_Entry_48.calls (k : Nat) (P0_ : Nat → Prop) (u9000_ : Value) (l0 : List (S33))  (r : List (S33)) (w0 w : World) (hB : Below w0.heap.size w0 w) (ho0 : Kd.RC k33 33 w w0.heap.size P0_ u9000_ l0) (h : api_Entry_48.f k l0 = some r) :
 Calls Try.prog 48 #[u9000_, .func (.func 49) #[] #[]] w fun e w' => e = .returned (.tuple #[]) ∧ Kd.RC k33 33 w' w0.heap.size (fun k_ => (P0_ k_ ∨ w.heap.size ≤ k_)) u9000_ r ∧ Below w0.heap.size w0 w' ∧ Kept w w' (fun k_ => P0_ k_) := by
 have HO0 := Aside0.mk (show Kd.RC k33 33 w w0.heap.size (fun k_ => (P0_ k_ ∨ w.heap.size ≤ k_)) u9000_ l0 from Kd.RC_mono ho0 (fun k_ hk => (.inl hk))); have HK := Aside0.mk (Kept.refl w (fun k_ => P0_ k_)); have HW0 := Aside0.mk hB.size; have HB := Aside0.mk hB; clear hB; have H : ((api_Entry_60.f k l0 (l0.length : Int)).bind fun t101 => (some t101)) = some r := h; clear h; replace H := Option.bind_eq_some_iff.mp H; obtain ⟨t101, A30, H⟩ := H; replace H : (some t101) = some r := H; have A3 := Aside0.mk A30; clear A30; obtain rfl := Option.some.inj H; obtain ⟨Ao4, co4, eo4⟩ := xg HO0.out; subst eo4; go_enter Try.func48, Try.ntmps48
 go_wp2_with (first | ((with_reducible refine uz (f := 60) rfl ?_); refine xa (some 8) rfl rfl Try.func60 (by kernel_rfl) rfl #[.slice Ao4 l0.length co4, .int .i64 (l0.length : Int), .func (.func 49) #[] #[]] rfl (by (try simp only [un, uo, uq]); first | done | rfl | (simp only [ul, uk]; rfl)) ?_; (with_reducible refine (api_Entry_60.calls k (fun k_ => some k_ = (.slice Ao4 l0.length co4 : Value).ownBlock) (.slice Ao4 l0.length co4) l0 (l0.length : Int)  t101 w0 _ ?side1 ?side2 A3.out).mono ?_); (case side1 => repeat (first | (with_reducible first | exact HB.out | apply uf | apply ud | apply ue) | exact HB.out)); (case side2 => exact Kd.RC_tight rfl HO0.out); rintro e w5 ⟨rfl, hy0, hb, hkp⟩; refine ⟨_, rfl, ?_⟩; have n0_ := Aside0.mk (Kd.RC_reok rfl hy0 (fun k_ e_ => HO0.out.1 k_ e_)); have n1_ := Aside0.mk (Kept.then_ (S := (fun k_ => P0_ k_)) (by repeat (first | (with_reducible first | exact HK.out | apply vl | apply vk | apply uw) | exact HK.out)) hkp (fun k_ hs_ => (fun e_ => (HO0.out.1 k_ e_.symm)) hs_)); have n2_ := Aside0.mk (hb); clear HO0; clear HK; clear HB; have HO0 := n0_; have HK := n1_; have HB := n2_; clear n0_ n1_ n2_; (try clear hb); (try clear hkp); (try clear hy0)))
 first | go_end0 | ((try simp only [Exit.inBlock, Exit.then]); refine bodyPost_ret (results_none rfl _ _ _) rfl ?_)
 exact ⟨by first | rfl | (simp [errW_none, errW_some] <;> rfl) | (simp [*, errW_none, errW_some] <;> rfl), by (with_reducible repeat (first | apply vp | apply vo | apply vm)); exact HO0.out, by repeat (first | (with_reducible first | exact HB.out | apply uf | apply ud | apply ue) | exact HB.out), by repeat (first | (with_reducible first | exact HK.out | apply vl | apply vk | apply uw) | exact HK.out)⟩
def slices_BinarySearchFunc_Put.l0 : Nat → List (S33) → Int → Int → Int → Int → Int → Option (Int × Bool)
  | 0, _, _, _, _, _, _ => none
  | k + 1, x0, x8, x9, x10, x102000, x102001 => if x9 < x10 then (if 0 ≤ (wrap64 ((IntKind.u64.wrap (wrap64 (x9 + x10))) / 2)) then (if (wrap64 ((IntKind.u64.wrap (wrap64 (x9 + x10))) / 2)) < (x0.length : Int) then ((entry_Put_1.f k ((rd_T33 x0 (wrap64 ((IntKind.u64.wrap (wrap64 (x9 + x10))) / 2))).f0) ((rd_T33 x0 (wrap64 ((IntKind.u64.wrap (wrap64 (x9 + x10))) / 2))).f1) x102000 x102001).bind fun t103 => (if t103 < 0 then (slices_BinarySearchFunc_Put.l0 k x0 x8 (wrap64 ((wrap64 ((IntKind.u64.wrap (wrap64 (x9 + x10))) / 2)) + 1)) x10 x102000 x102001) else (slices_BinarySearchFunc_Put.l0 k x0 x8 x9 (wrap64 ((IntKind.u64.wrap (wrap64 (x9 + x10))) / 2)) x102000 x102001))) else (none)) else (none)) else (if x9 < x8 then (if 0 ≤ x9 then (if x9 < (x0.length : Int) then ((entry_Put_1.f k ((rd_T33 x0 x9).f0) ((rd_T33 x0 x9).f1) x102000 x102001).bind fun t105 => (some (x9, (t105 == 0)))) else (none)) else (none)) else (some (x9, false)))
def slices_BinarySearchFunc_Put.f (k : Nat) (l0 : List (S33)) (a1_0 : Int) (a1_1 : Int)  : Option (Int × Bool) := slices_BinarySearchFunc_Put.l0 k l0 (l0.length : Int) 0 (l0.length : Int) a1_0 a1_1
def slices_BinarySearchFunc_Put.T5 : Bool × List (List Nat × List Nat) := (true, [([], []), ([], []), ([], []), ([1, 2], [1, 2]), ([3], [3]), ([], []), ([0, 4, 5], [0, 4, 5]), ([6], [6])])
def slices_BinarySearchFunc_Put.B5 : List Nat := [0, 0, 0, 6, 14, 0, 63, 127]
theorem slices_BinarySearchFunc_Put.tab5 : rtab .any (opsOf Try.f51 5) = slices_BinarySearchFunc_Put.T5 := by kernel_rfl
theorem slices_BinarySearchFunc_Put.bits5 : waitsOk slices_BinarySearchFunc_Put.T5.2 slices_BinarySearchFunc_Put.B5 = true := by kernel_rfl
def slices_BinarySearchFunc_Put.T8 : Bool × List (List Nat × List Nat) := (true, [([], []), ([], []), ([], []), ([1, 2], [1, 2]), ([3], [3]), ([4], [4]), ([4], [4]), ([4], [4]), ([6, 7, 4], [4, 6, 7]), ([8, 4], [4, 8]), ([4], [4]), ([5, 9, 10, 4, 4], [4, 5, 9, 10]), ([11, 4], [4, 11]), ([4, 12], [4, 12]), ([0, 11, 0], [0]), ([13, 14, 0, 1, 2, 3, 4, 5, 6, 7, 8, 9, 10, 11, 12, 13, 14], [13])])
def slices_BinarySearchFunc_Put.B8 : List Nat := [0, 0, 0, 6, 14, 30, 30, 30, 222, 478, 30, 2046, 4094, 8190, 4095, 32767]
theorem slices_BinarySearchFunc_Put.tab8 : rtab .any (opsOf Try.f51 8) = slices_BinarySearchFunc_Put.T8 := by kernel_rfl
theorem slices_BinarySearchFunc_Put.bits8 : waitsOk slices_BinarySearchFunc_Put.T8.2 slices_BinarySearchFunc_Put.B8 = true := by kernel_rfl
set_option maxHeartbeats 8000000 in
set_option maxRecDepth 100000 in
theorem slices_BinarySearchFunc_Put.calls (k : Nat) (A0 : Option Addr) (c0 : Nat) (l0 : List (S33)) (a1_0 : Int) (a1_1 : Int)  (r1 : Int) (r2 : Bool) (w : World) (hr0 : Kd.C k33 w A0 l0.length l0) (hc0 : l0.length ≤ c0) (h : slices_BinarySearchFunc_Put.f k l0 a1_0 a1_1 = some (r1, r2)) :
 Calls Try.prog 51 #[.slice A0 l0.length c0, .agg #[.int .u64 a1_0, .int .i64 a1_1], .func (.func 52) #[] #[]] w fun e w' => e = .returned (.tuple #[.int .i64 r1, .bool r2]) ∧ Below w.heap.size w w' := by
 have hu33 := Try.underlying33; have HR0 := Aside0.mk hr0; have HC0 := Aside0.mk hc0; clear hr0 hc0; have HB := Aside0.mk (Below.refl w.heap.size w); have H : (slices_BinarySearchFunc_Put.l0 k l0 (l0.length : Int) 0 (l0.length : Int) a1_0 a1_1) = some (r1, r2) := h; clear h; have H' := Aside0.mk H; clear H; go_enter Try.func51, Try.ntmps51
 go_wp2_with (first | ((with_reducible refine xf (N := 4) rfl ?_); refine xm ?hg (N := 4) ?hd (cs := #[.int .u64 a1_0, .int .i64 a1_1]) (t := 33) ?hr ?_; (case hd => rfl); (case hg => rfl); (case hr => first | (go_simp; done) | (go_simp; rfl)); intro gb101 hg w4 hbox hb; have n0_ := Aside0.mk (us (by repeat (first | (with_reducible first | exact HB.out | apply uf | apply ud | apply ue) | exact HB.out)) hb); have n1_ := Aside0.mk (hbox); have n2_ := Aside0.mk ((by rw [hg]; exact (uv (by repeat (first | (with_reducible first | exact HB.out | apply uf | apply ud | apply ue) | exact HB.out))) : w.heap.size ≤ gb101)); have n3_ := Aside0.mk ((by rw [hg]; exact (uv (by repeat (first | (with_reducible first | exact HB.out | apply uf | apply ud | apply ue) | exact HB.out))) : w.heap.size ≤ gb101)); clear HB; have HB := n0_; have BK101 := n1_; have GW101 := n2_; have GE101 := n3_; clear n0_ n1_ n2_ n3_; clear hb hbox hg))
 go_loopg [9, 10] k (fun kq v9 v10 w' => ∃ (x9_1 : Int) (x10_1 : Int), v9 = .int .i64 x9_1 ∧ v10 = .int .i64 x10_1 ∧ Aside0 (slices_BinarySearchFunc_Put.l0 kq l0 (l0.length : Int) x9_1 x10_1 a1_0 a1_1 = some (r1, r2)) ∧ Aside0 (kq ≤ k) ∧ Aside0 (w'.heap[gb101]? = some (.cells #[.int .u64 a1_0, .int .i64 a1_1] 33 (0, 0))) ∧ Aside0 (Below w.heap.size w w'))
 case atStart => exact ⟨(0), ((l0.length : Int)), (by first | rfl | (simp; done) | (simp [*]; done)), (by first | rfl | (simp; done) | (simp [*]; done)), H', ⟨vn _⟩, ⟨by (with_reducible repeat (first | refine ux ?_ _ | refine uu ?_ | refine uy ?_ _)); exact BK101.out⟩, ⟨by repeat (first | (with_reducible first | exact HB.out | apply uf | apply ud | apply ue | refine ur ?_ GE101.out) | exact HB.out)⟩⟩
 case round =>
  clear H'
  try clear p2
  obtain ⟨x9_1, x10_1, rfl, rfl, HA, HK1, BK101, HB⟩ := hrel
  cases gk with
  | zero => exact absurd HA.out (by simp [slices_BinarySearchFunc_Put.l0])
  | succ k1 =>
   have H := HA.out; clear HA; simp only [slices_BinarySearchFunc_Put.l0] at H
   by_cases c5 : x9_1 < x10_1
   · rw [if_pos c5] at H; have c5b0 : decide (x9_1 < x10_1) = true := decide_eq_true c5; clear c5; obtain ⟨ji6, hji6⟩ : ∃ j_ : Int, (wrap64 ((IntKind.u64.wrap (wrap64 (x9_1 + x10_1))) / 2)) = j_ := ⟨_, rfl⟩; (replace H : (if 0 ≤ (ji6) then (if (ji6) < (l0.length : Int) then ((entry_Put_1.f k1 ((rd_T33 l0 (ji6)).f0) ((rd_T33 l0 (ji6)).f1) a1_0 a1_1).bind fun t103 => (if t103 < 0 then (slices_BinarySearchFunc_Put.l0 k1 l0 (l0.length : Int) (wrap64 ((ji6) + 1)) x10_1 a1_0 a1_1) else (slices_BinarySearchFunc_Put.l0 k1 l0 (l0.length : Int) x9_1 ji6 a1_0 a1_1))) else (none)) else (none)) = some (r1, r2) := by first | (rw [hji6] at H; exact H) | (simp only [hji6] at H ⊢; exact H)); have hji6w : (IntKind.i64.wrap ((IntKind.u64.wrap (wrap64 (x9_1 + x10_1))) / 2)) = ji6 := (ui _).trans hji6
     by_cases c7 : 0 ≤ (ji6)
     · rw [if_pos c7] at H; have c7b0 : decide (0 ≤ (ji6)) = true := decide_eq_true c7; clear c7
       by_cases c8 : (ji6) < (l0.length : Int)
       · rw [if_pos c8] at H; have c8b0 : decide ((ji6) < (l0.length : Int)) = true := decide_eq_true c8; clear c8; replace H := Option.bind_eq_some_iff.mp H; obtain ⟨t103, A90, H⟩ := H; replace H : (if t103 < 0 then (slices_BinarySearchFunc_Put.l0 k1 l0 (l0.length : Int) (wrap64 ((ji6) + 1)) x10_1 a1_0 a1_1) else (slices_BinarySearchFunc_Put.l0 k1 l0 (l0.length : Int) x9_1 ji6 a1_0 a1_1)) = some (r1, r2) := H; have A9 := Aside0.mk A90; clear A90
         by_cases c10 : t103 < 0
         · rw [if_pos c10] at H; have c10b0 : decide (t103 < 0) = true := decide_eq_true c10; clear c10; have H' := Aside0.mk H; clear H
           try go_wp2
           have n0_ := Aside0.mk (uu BK101.out); have n1_ := Aside0.mk (ue HB.out); clear BK101 HB; have BK101 := n0_; have HB := n1_; clear n0_ n1_; have p102 : 0 ≤ ((ji6) : Int) := ug (by first | (with_reducible assumption) | assumption); have q102 : (ji6) < (l0.length : Int) := ug (by first | (with_reducible assumption) | assumption); obtain ⟨ad102, e102, hx102_0, hx102_1⟩ := at_T33 HR0.out (ji6) p102 q102; have hw102_1 := hx102_1; have hw102_0 := hx102_0
           cases e102
           replace hx102_0 := (HB.out.cell (World.block_lt_of_cell? w _ hx102_0)).trans hx102_0; replace hx102_1 := (HB.out.cell (World.block_lt_of_cell? w _ hx102_1)).trans hx102_1; replace p102 := eq_true p102; replace q102 := eq_true q102; refine start_ (n := 8) (S := fun w' => w'.cell? ⟨gb101, 0, none⟩ = some (.int .u64 a1_0) ∧ w'.cell? ⟨gb101, 1, none⟩ = some (.int .i64 a1_1) ∧ w'.cell? (ad102.add (((ji6)).toNat * 2)) = some (.int .u64 ((rd_T33 l0 (ji6)).f0)) ∧ w'.cell? ⟨(ad102.add (((ji6)).toNat * 2)).block, (ad102.add (((ji6)).toNat * 2)).off + 1, none⟩ = some (.int .i64 ((rd_T33 l0 (ji6)).f1))) (ds := []) #[X, X, X, X, X, X, X, X] (by kernel_rfl) rfl rfl ⟨(ut BK101.out 0).trans rfl, (ut BK101.out 1).trans rfl, ((HB.out.cell (World.block_lt_of_cell? w _ hw102_0)).trans hw102_0), ((HB.out.cell (World.block_lt_of_cell? w _ hw102_1)).trans hw102_1)⟩ (fun hHeld => ?_); refine xe slices_BinarySearchFunc_Put.tab5 slices_BinarySearchFunc_Put.bits5 (fun HT_ HW_ => ?_); generalize wr.drew = w11 at BK101 HB hx102_0 hx102_1 hHeld ⊢; refine um (i := 0) (N := some 24) (v := ?_) (a' := ?_) #[Y, X, X, X, X, X, X, X] rfl rfl (uh HT_.out (by kernel_rfl)) (fun _ _ _ h => h) (Or.inl ⟨by rfl, ?_⟩) ?_ ?_; rotate_left
           · intro w'; go_simp; (with_reducible rfl)
           rotate_left
           · simp only [Act.put, ua, ub, uc, ui, uj]; rfl
           refine um (i := 1) (N := some 25) (v := ?_) (a' := ?_) #[Y, Y, X, X, X, X, X, X] rfl rfl (uh HT_.out (by kernel_rfl)) (fun _ _ _ h => h) (Or.inl ⟨by rfl, ?_⟩) ?_ ?_; rotate_left
           · intro w'; go_simp; (with_reducible rfl)
           rotate_left
           · simp only [Act.put, ua, ub, uc, ui, uj]; rfl
           refine um (i := 2) (N := some 26) (v := ?_) (a' := ?_) #[Y, Y, Y, X, X, X, X, X] rfl rfl (uh HT_.out (by kernel_rfl)) (fun _ _ _ h => h) (Or.inl ⟨by rfl, ?_⟩) ?_ ?_; rotate_left
           · intro w'; go_simp; (with_reducible rfl)
           rotate_left
           · simp only [Act.put, ua, ub, uc, ui, uj]; rfl
           refine um (i := 3) (N := some 27) (v := ?_) (a' := ?_) #[Y, Y, Y, Y, X, X, X, X] rfl rfl (uh HT_.out (by kernel_rfl)) (fun _ _ _ h => h) (Or.inl ⟨by rfl, ?_⟩) ?_ ?_; rotate_left
           · intro w'; go_simp; (with_reducible rfl)
           rotate_left
           · simp only [Act.put, ua, ub, uc, ui, uj]; rfl
           refine xl (i := 4) (N := some 28) (v := ?_) (a' := ?_) #[Y, Y, Y, Y, Y, X, X, X] rfl rfl (vx HT_.out HW_.out (by kernel_rfl)) (fun _ _ _ h => h) (Or.inl ⟨by rfl, ?_⟩) hHeld ?_ ?_; rotate_left
           · rintro w' ⟨s0, s1, s2, s3⟩; go_simp; (with_reducible rfl)
           rotate_left
           · simp only [Act.put, ua, ub, uc, ui, uj]; rfl
           refine xl (i := 5) (N := some 29) (v := ?_) (a' := ?_) #[Y, Y, Y, Y, Y, Y, X, X] rfl rfl (vx HT_.out HW_.out (by kernel_rfl)) (fun _ _ _ h => h) (Or.inl ⟨by rfl, ?_⟩) hHeld ?_ ?_; rotate_left
           · rintro w' ⟨s0, s1, s2, s3⟩; go_simp; (with_reducible rfl)
           rotate_left
           · simp only [Act.put, ua, ub, uc, ui, uj]; rfl
           refine one_ (i := 6) (N := some 30) #[Y, Y, Y, Y, Y, Y, Y, X] rfl rfl (one_of HT_.out (by kernel_rfl)) (by decide) (fun K hK => ?_); refine goesV_ Try.func52 (by kernel_rfl) rfl #[.agg #[.int .u64 ((rd_T33 l0 (ji6)).f0), .int .i64 ((rd_T33 l0 (ji6)).f1)], .agg #[.int .u64 a1_0, .int .i64 a1_1]] (by rfl) rfl rfl (by rfl) (by (try simp only [un, uo, uq]); first | done | (simp only [hji6]; rfl) | rfl | (simp only [ul, uk]; rfl)) ?_; (with_reducible refine (entry_Put_1.calls k1 ((rd_T33 l0 (ji6)).f0) ((rd_T33 l0 (ji6)).f1) a1_0 a1_1 t103 _ A9.out).mono ?_); rintro e w12 ⟨rfl, hb⟩; refine ⟨_, rfl, ?_⟩; have n0_ := Aside0.mk (vy (g := gb101) (o := .cells #[.int .u64 a1_0, .int .i64 a1_1] 33 (0, 0)) (by (with_reducible repeat (first | refine ux ?_ _ | refine uu ?_ | refine uy ?_ _)); exact BK101.out) hb); have n1_ := Aside0.mk (us (by repeat (first | (with_reducible first | exact HB.out | apply uf | apply ud | apply ue | refine ur ?_ GE101.out) | exact HB.out)) hb); clear BK101 HB; have BK101 := n0_; have HB := n1_; clear n0_ n1_; (try clear hb); (try clear hb2); (try clear hk); (try clear hi); refine hK.out _ _ ⟨(ut BK101.out 0).trans rfl, (ut BK101.out 1).trans rfl, ((HB.out.cell (World.block_lt_of_cell? w _ hw102_0)).trans hw102_0), ((HB.out.cell (World.block_lt_of_cell? w _ hw102_1)).trans hw102_1)⟩ (fun hHeld => ?_); clear hK K; refine norm_ (a' := ?_) ?_ ?_; rotate_left
           · show Act.put _ (some 30) _ = _
             simp only [Act.put, ua, ub, uc, ui, uj]; rfl
           refine um (i := 7) (N := some 31) (v := ?_) (a' := ?_) #[Y, Y, Y, Y, Y, Y, Y, Y] rfl rfl (uh HT_.out (by kernel_rfl)) (fun _ _ _ h => h) (Or.inl ⟨by rfl, ?_⟩) ?_ ?_; rotate_left
           · intro w'; go_simp; (with_reducible rfl)
           rotate_left
           · simp only [Act.put, ua, ub, uc, ui, uj]; rfl
           refine done_ (xj HT_.out (by kernel_rfl)) ?_
           try go_wp2
           go_roundg k1
           case measure => have := HK1.out; omega
           case rel => exact ⟨(wrap64 ((ji6) + 1)), (x10_1), (by first | rfl | (simp; done) | (simp only [← hji6] <;> (first | rfl | simp)) | (simp [*]; done)), (by first | rfl | (simp; done) | (simp [*]; done)), H', ⟨by have := HK1.out; omega⟩, ⟨by (with_reducible repeat (first | refine ux ?_ _ | refine uu ?_ | refine uy ?_ _)); exact BK101.out⟩, ⟨by repeat (first | (with_reducible first | exact HB.out | apply uf | apply ud | apply ue | refine ur ?_ GE101.out) | exact HB.out)⟩⟩
         · rw [if_neg c10] at H; have c10b0 : decide (t103 < 0) = false := decide_eq_false c10; clear c10; have H' := Aside0.mk H; clear H
           try go_wp2
           have n0_ := Aside0.mk (uu BK101.out); have n1_ := Aside0.mk (ue HB.out); clear BK101 HB; have BK101 := n0_; have HB := n1_; clear n0_ n1_; have p102 : 0 ≤ ((ji6) : Int) := ug (by first | (with_reducible assumption) | assumption); have q102 : (ji6) < (l0.length : Int) := ug (by first | (with_reducible assumption) | assumption); obtain ⟨ad102, e102, hx102_0, hx102_1⟩ := at_T33 HR0.out (ji6) p102 q102; have hw102_1 := hx102_1; have hw102_0 := hx102_0
           cases e102
           replace hx102_0 := (HB.out.cell (World.block_lt_of_cell? w _ hx102_0)).trans hx102_0; replace hx102_1 := (HB.out.cell (World.block_lt_of_cell? w _ hx102_1)).trans hx102_1; replace p102 := eq_true p102; replace q102 := eq_true q102; refine start_ (n := 8) (S := fun w' => w'.cell? ⟨gb101, 0, none⟩ = some (.int .u64 a1_0) ∧ w'.cell? ⟨gb101, 1, none⟩ = some (.int .i64 a1_1) ∧ w'.cell? (ad102.add (((ji6)).toNat * 2)) = some (.int .u64 ((rd_T33 l0 (ji6)).f0)) ∧ w'.cell? ⟨(ad102.add (((ji6)).toNat * 2)).block, (ad102.add (((ji6)).toNat * 2)).off + 1, none⟩ = some (.int .i64 ((rd_T33 l0 (ji6)).f1))) (ds := []) #[X, X, X, X, X, X, X, X] (by kernel_rfl) rfl rfl ⟨(ut BK101.out 0).trans rfl, (ut BK101.out 1).trans rfl, ((HB.out.cell (World.block_lt_of_cell? w _ hw102_0)).trans hw102_0), ((HB.out.cell (World.block_lt_of_cell? w _ hw102_1)).trans hw102_1)⟩ (fun hHeld => ?_); refine xe slices_BinarySearchFunc_Put.tab5 slices_BinarySearchFunc_Put.bits5 (fun HT_ HW_ => ?_); generalize wr.drew = w13 at BK101 HB hx102_0 hx102_1 hHeld ⊢; refine um (i := 0) (N := some 24) (v := ?_) (a' := ?_) #[Y, X, X, X, X, X, X, X] rfl rfl (uh HT_.out (by kernel_rfl)) (fun _ _ _ h => h) (Or.inl ⟨by rfl, ?_⟩) ?_ ?_; rotate_left
           · intro w'; go_simp; (with_reducible rfl)
           rotate_left
           · simp only [Act.put, ua, ub, uc, ui, uj]; rfl
           refine um (i := 1) (N := some 25) (v := ?_) (a' := ?_) #[Y, Y, X, X, X, X, X, X] rfl rfl (uh HT_.out (by kernel_rfl)) (fun _ _ _ h => h) (Or.inl ⟨by rfl, ?_⟩) ?_ ?_; rotate_left
           · intro w'; go_simp; (with_reducible rfl)
           rotate_left
           · simp only [Act.put, ua, ub, uc, ui, uj]; rfl
           refine um (i := 2) (N := some 26) (v := ?_) (a' := ?_) #[Y, Y, Y, X, X, X, X, X] rfl rfl (uh HT_.out (by kernel_rfl)) (fun _ _ _ h => h) (Or.inl ⟨by rfl, ?_⟩) ?_ ?_; rotate_left
           · intro w'; go_simp; (with_reducible rfl)
           rotate_left
           · simp only [Act.put, ua, ub, uc, ui, uj]; rfl
           refine um (i := 3) (N := some 27) (v := ?_) (a' := ?_) #[Y, Y, Y, Y, X, X, X, X] rfl rfl (uh HT_.out (by kernel_rfl)) (fun _ _ _ h => h) (Or.inl ⟨by rfl, ?_⟩) ?_ ?_; rotate_left
           · intro w'; go_simp; (with_reducible rfl)
           rotate_left
           · simp only [Act.put, ua, ub, uc, ui, uj]; rfl
           refine xl (i := 4) (N := some 28) (v := ?_) (a' := ?_) #[Y, Y, Y, Y, Y, X, X, X] rfl rfl (vx HT_.out HW_.out (by kernel_rfl)) (fun _ _ _ h => h) (Or.inl ⟨by rfl, ?_⟩) hHeld ?_ ?_; rotate_left
           · rintro w' ⟨s0, s1, s2, s3⟩; go_simp; (with_reducible rfl)
           rotate_left
           · simp only [Act.put, ua, ub, uc, ui, uj]; rfl
           refine xl (i := 5) (N := some 29) (v := ?_) (a' := ?_) #[Y, Y, Y, Y, Y, Y, X, X] rfl rfl (vx HT_.out HW_.out (by kernel_rfl)) (fun _ _ _ h => h) (Or.inl ⟨by rfl, ?_⟩) hHeld ?_ ?_; rotate_left
           · rintro w' ⟨s0, s1, s2, s3⟩; go_simp; (with_reducible rfl)
           rotate_left
           · simp only [Act.put, ua, ub, uc, ui, uj]; rfl
           refine one_ (i := 6) (N := some 30) #[Y, Y, Y, Y, Y, Y, Y, X] rfl rfl (one_of HT_.out (by kernel_rfl)) (by decide) (fun K hK => ?_); refine goesV_ Try.func52 (by kernel_rfl) rfl #[.agg #[.int .u64 ((rd_T33 l0 (ji6)).f0), .int .i64 ((rd_T33 l0 (ji6)).f1)], .agg #[.int .u64 a1_0, .int .i64 a1_1]] (by rfl) rfl rfl (by rfl) (by (try simp only [un, uo, uq]); first | done | (simp only [hji6]; rfl) | rfl | (simp only [ul, uk]; rfl)) ?_; (with_reducible refine (entry_Put_1.calls k1 ((rd_T33 l0 (ji6)).f0) ((rd_T33 l0 (ji6)).f1) a1_0 a1_1 t103 _ A9.out).mono ?_); rintro e w14 ⟨rfl, hb⟩; refine ⟨_, rfl, ?_⟩; have n0_ := Aside0.mk (vy (g := gb101) (o := .cells #[.int .u64 a1_0, .int .i64 a1_1] 33 (0, 0)) (by (with_reducible repeat (first | refine ux ?_ _ | refine uu ?_ | refine uy ?_ _)); exact BK101.out) hb); have n1_ := Aside0.mk (us (by repeat (first | (with_reducible first | exact HB.out | apply uf | apply ud | apply ue | refine ur ?_ GE101.out) | exact HB.out)) hb); clear BK101 HB; have BK101 := n0_; have HB := n1_; clear n0_ n1_; (try clear hb); (try clear hb2); (try clear hk); (try clear hi); refine hK.out _ _ ⟨(ut BK101.out 0).trans rfl, (ut BK101.out 1).trans rfl, ((HB.out.cell (World.block_lt_of_cell? w _ hw102_0)).trans hw102_0), ((HB.out.cell (World.block_lt_of_cell? w _ hw102_1)).trans hw102_1)⟩ (fun hHeld => ?_); clear hK K; refine norm_ (a' := ?_) ?_ ?_; rotate_left
           · show Act.put _ (some 30) _ = _
             simp only [Act.put, ua, ub, uc, ui, uj]; rfl
           refine um (i := 7) (N := some 31) (v := ?_) (a' := ?_) #[Y, Y, Y, Y, Y, Y, Y, Y] rfl rfl (uh HT_.out (by kernel_rfl)) (fun _ _ _ h => h) (Or.inl ⟨by rfl, ?_⟩) ?_ ?_; rotate_left
           · intro w'; go_simp; (with_reducible rfl)
           rotate_left
           · simp only [Act.put, ua, ub, uc, ui, uj]; rfl
           refine done_ (xj HT_.out (by kernel_rfl)) ?_
           try go_wp2
           go_roundg k1
           case measure => have := HK1.out; omega
           case rel => exact ⟨(x9_1), (ji6), (by first | rfl | (simp; done) | (simp [*]; done)), (by first | rfl | (simp; done) | (simp only [← hji6] <;> (first | rfl | simp)) | (simp [*]; done)), H', ⟨by have := HK1.out; omega⟩, ⟨by (with_reducible repeat (first | refine ux ?_ _ | refine uu ?_ | refine uy ?_ _)); exact BK101.out⟩, ⟨by repeat (first | (with_reducible first | exact HB.out | apply uf | apply ud | apply ue | refine ur ?_ GE101.out) | exact HB.out)⟩⟩
       · rw [if_neg c8] at H; exact absurd H (by simp)
     · rw [if_neg c7] at H; exact absurd H (by simp)
   · rw [if_neg c5] at H; have c5b0 : decide (x9_1 < x10_1) = false := decide_eq_false c5; clear c5
     by_cases c15 : x9_1 < (l0.length : Int)
     · rw [if_pos c15] at H; have c15b0 : decide (x9_1 < (l0.length : Int)) = true := decide_eq_true c15; clear c15
       by_cases c16 : 0 ≤ x9_1
       · rw [if_pos c16] at H; have c16b0 : decide (0 ≤ x9_1) = true := decide_eq_true c16; clear c16
         by_cases c17 : x9_1 < (l0.length : Int)
         · rw [if_pos c17] at H; have c17b0 : decide (x9_1 < (l0.length : Int)) = true := decide_eq_true c17; clear c17; replace H := Option.bind_eq_some_iff.mp H; obtain ⟨t105, A180, H⟩ := H; replace H : (some (x9_1, (t105 == 0))) = some (r1, r2) := H; have A18 := Aside0.mk A180; clear A180; simp only [Option.some.injEq, Prod.mk.injEq] at H; obtain ⟨rfl, rfl⟩ := H
           try go_wp2
           have n0_ := Aside0.mk (uu BK101.out); have n1_ := Aside0.mk (ue HB.out); clear BK101 HB; have BK101 := n0_; have HB := n1_; clear n0_ n1_; have p104 : 0 ≤ (x9_1 : Int) := ug (by first | (with_reducible assumption) | assumption); have q104 : x9_1 < (l0.length : Int) := ug (by first | (with_reducible assumption) | assumption); obtain ⟨ad104, e104, hx104_0, hx104_1⟩ := at_T33 HR0.out x9_1 p104 q104; have hw104_1 := hx104_1; have hw104_0 := hx104_0
           cases e104
           replace hx104_0 := (HB.out.cell (World.block_lt_of_cell? w _ hx104_0)).trans hx104_0; replace hx104_1 := (HB.out.cell (World.block_lt_of_cell? w _ hx104_1)).trans hx104_1; replace p104 := eq_true p104; replace q104 := eq_true q104; refine start_ (n := 16) (S := fun w' => w'.cell? ⟨gb101, 0, none⟩ = some (.int .u64 a1_0) ∧ w'.cell? ⟨gb101, 1, none⟩ = some (.int .i64 a1_1) ∧ w'.cell? (ad104.add ((x9_1).toNat * 2)) = some (.int .u64 ((rd_T33 l0 x9_1).f0)) ∧ w'.cell? ⟨(ad104.add ((x9_1).toNat * 2)).block, (ad104.add ((x9_1).toNat * 2)).off + 1, none⟩ = some (.int .i64 ((rd_T33 l0 x9_1).f1))) (ds := []) #[X, X, X, X, X, X, X, X, X, X, X, X, X, X, X, X] (by kernel_rfl) rfl rfl ⟨(ut BK101.out 0).trans rfl, (ut BK101.out 1).trans rfl, ((HB.out.cell (World.block_lt_of_cell? w _ hw104_0)).trans hw104_0), ((HB.out.cell (World.block_lt_of_cell? w _ hw104_1)).trans hw104_1)⟩ (fun hHeld => ?_); refine xe slices_BinarySearchFunc_Put.tab8 slices_BinarySearchFunc_Put.bits8 (fun HT_ HW_ => ?_); generalize wr.drew = w19 at BK101 HB hx104_0 hx104_1 hHeld ⊢; refine um (i := 0) (N := some 35) (v := ?_) (a' := ?_) #[Y, X, X, X, X, X, X, X, X, X, X, X, X, X, X, X] rfl rfl (uh HT_.out (by kernel_rfl)) (fun _ _ _ h => h) (Or.inl ⟨by rfl, ?_⟩) ?_ ?_; rotate_left
           · intro w'; go_simp; (with_reducible rfl)
           rotate_left
           · simp only [Act.put, ua, ub, uc, ui, uj]; rfl
           refine um (i := 1) (N := some 36) (v := ?_) (a' := ?_) #[Y, Y, X, X, X, X, X, X, X, X, X, X, X, X, X, X] rfl rfl (uh HT_.out (by kernel_rfl)) (fun _ _ _ h => h) (Or.inl ⟨by rfl, ?_⟩) ?_ ?_; rotate_left
           · intro w'; go_simp; (with_reducible rfl)
           rotate_left
           · simp only [Act.put, ua, ub, uc, ui, uj]; rfl
           refine um (i := 2) (N := some 37) (v := ?_) (a' := ?_) #[Y, Y, Y, X, X, X, X, X, X, X, X, X, X, X, X, X] rfl rfl (uh HT_.out (by kernel_rfl)) (fun _ _ _ h => h) (Or.inl ⟨by rfl, ?_⟩) ?_ ?_; rotate_left
           · intro w'; go_simp; (with_reducible rfl)
           rotate_left
           · simp only [Act.put, ua, ub, uc, ui, uj]; rfl
           refine um (i := 3) (N := some 38) (v := ?_) (a' := ?_) #[Y, Y, Y, Y, X, X, X, X, X, X, X, X, X, X, X, X] rfl rfl (uh HT_.out (by kernel_rfl)) (fun _ _ _ h => h) (Or.inl ⟨by rfl, ?_⟩) ?_ ?_; rotate_left
           · intro w'; go_simp; (with_reducible rfl)
           rotate_left
           · simp only [Act.put, ua, ub, uc, ui, uj]; rfl
           refine um (i := 4) (N := some 39) (v := ?_) (a' := ?_) #[Y, Y, Y, Y, Y, X, X, X, X, X, X, X, X, X, X, X] rfl rfl (uh HT_.out (by kernel_rfl)) (fun _ _ _ h => h) (Or.inl ⟨by rfl, ?_⟩) ?_ ?_; rotate_left
           · intro w'; go_simp; (with_reducible rfl)
           rotate_left
           · simp only [Act.put, ua, ub, uc, ui, uj]; rfl
           refine um (i := 5) (N := some 40) (v := ?_) (a' := ?_) #[Y, Y, Y, Y, Y, Y, X, X, X, X, X, X, X, X, X, X] rfl rfl (uh HT_.out (by kernel_rfl)) (fun _ _ _ h => h) (Or.inl ⟨by rfl, ?_⟩) ?_ ?_; rotate_left
           · intro w'; go_simp; (with_reducible rfl)
           rotate_left
           · simp only [Act.put, ua, ub, uc, ui, uj]; rfl
           refine um (i := 6) (N := some 41) (v := ?_) (a' := ?_) #[Y, Y, Y, Y, Y, Y, Y, X, X, X, X, X, X, X, X, X] rfl rfl (uh HT_.out (by kernel_rfl)) (fun _ _ _ h => h) (Or.inl ⟨by rfl, ?_⟩) ?_ ?_; rotate_left
           · intro w'; go_simp; (with_reducible rfl)
           rotate_left
           · simp only [Act.put, ua, ub, uc, ui, uj]; rfl
           refine um (i := 7) (N := some 42) (v := ?_) (a' := ?_) #[Y, Y, Y, Y, Y, Y, Y, Y, X, X, X, X, X, X, X, X] rfl rfl (uh HT_.out (by kernel_rfl)) (fun _ _ _ h => h) (Or.inl ⟨by rfl, ?_⟩) ?_ ?_; rotate_left
           · intro w'; go_simp; (with_reducible rfl)
           rotate_left
           · simp only [Act.put, ua, ub, uc, ui, uj]; rfl
           refine um (i := 8) (N := some 43) (v := ?_) (a' := ?_) #[Y, Y, Y, Y, Y, Y, Y, Y, Y, X, X, X, X, X, X, X] rfl rfl (uh HT_.out (by kernel_rfl)) (fun _ _ _ h => h) (Or.inl ⟨by rfl, ?_⟩) ?_ ?_; rotate_left
           · intro w'; go_simp; (with_reducible rfl)
           rotate_left
           · simp only [Act.put, ua, ub, uc, ui, uj]; rfl
           refine xl (i := 9) (N := some 44) (v := ?_) (a' := ?_) #[Y, Y, Y, Y, Y, Y, Y, Y, Y, Y, X, X, X, X, X, X] rfl rfl (vx HT_.out HW_.out (by kernel_rfl)) (fun _ _ _ h => h) (Or.inl ⟨by rfl, ?_⟩) hHeld ?_ ?_; rotate_left
           · rintro w' ⟨s0, s1, s2, s3⟩; go_simp; (with_reducible rfl)
           rotate_left
           · simp only [Act.put, ua, ub, uc, ui, uj]; rfl
           refine xl (i := 10) (N := some 45) (v := ?_) (a' := ?_) #[Y, Y, Y, Y, Y, Y, Y, Y, Y, Y, Y, X, X, X, X, X] rfl rfl (vx HT_.out HW_.out (by kernel_rfl)) (fun _ _ _ h => h) (Or.inl ⟨by rfl, ?_⟩) hHeld ?_ ?_; rotate_left
           · rintro w' ⟨s0, s1, s2, s3⟩; go_simp; (with_reducible rfl)
           rotate_left
           · simp only [Act.put, ua, ub, uc, ui, uj]; rfl
           refine one_ (i := 11) (N := some 46) #[Y, Y, Y, Y, Y, Y, Y, Y, Y, Y, Y, Y, X, X, X, X] rfl rfl (one_of HT_.out (by kernel_rfl)) (by decide) (fun K hK => ?_); refine goesV_ Try.func52 (by kernel_rfl) rfl #[.agg #[.int .u64 ((rd_T33 l0 x9_1).f0), .int .i64 ((rd_T33 l0 x9_1).f1)], .agg #[.int .u64 a1_0, .int .i64 a1_1]] (by rfl) rfl rfl (by rfl) (by (try simp only [un, uo, uq]); first | done | rfl | (simp only [ul, uk]; rfl)) ?_; (with_reducible refine (entry_Put_1.calls k1 ((rd_T33 l0 x9_1).f0) ((rd_T33 l0 x9_1).f1) a1_0 a1_1 t105 _ A18.out).mono ?_); rintro e w20 ⟨rfl, hb⟩; refine ⟨_, rfl, ?_⟩; have n0_ := Aside0.mk (vy (g := gb101) (o := .cells #[.int .u64 a1_0, .int .i64 a1_1] 33 (0, 0)) (by (with_reducible repeat (first | refine ux ?_ _ | refine uu ?_ | refine uy ?_ _)); exact BK101.out) hb); have n1_ := Aside0.mk (us (by repeat (first | (with_reducible first | exact HB.out | apply uf | apply ud | apply ue | refine ur ?_ GE101.out) | exact HB.out)) hb); clear BK101 HB; have BK101 := n0_; have HB := n1_; clear n0_ n1_; (try clear hb); (try clear hb2); (try clear hk); (try clear hi); refine hK.out _ _ ⟨(ut BK101.out 0).trans rfl, (ut BK101.out 1).trans rfl, ((HB.out.cell (World.block_lt_of_cell? w _ hw104_0)).trans hw104_0), ((HB.out.cell (World.block_lt_of_cell? w _ hw104_1)).trans hw104_1)⟩ (fun hHeld => ?_); clear hK K; refine norm_ (a' := ?_) ?_ ?_; rotate_left
           · show Act.put _ (some 46) _ = _
             simp only [Act.put, ua, ub, uc, ui, uj]; rfl
           refine um (i := 12) (N := some 47) (v := ?_) (a' := ?_) #[Y, Y, Y, Y, Y, Y, Y, Y, Y, Y, Y, Y, Y, X, X, X] rfl rfl (uh HT_.out (by kernel_rfl)) (fun _ _ _ h => h) (Or.inl ⟨by rfl, ?_⟩) ?_ ?_; rotate_left
           · intro w'; go_simp; (with_reducible rfl)
           rotate_left
           · simp only [Act.put, ua, ub, uc, ui, uj]; rfl
           refine um (i := 13) (N := some 48) (v := ?_) (a' := ?_) #[Y, Y, Y, Y, Y, Y, Y, Y, Y, Y, Y, Y, Y, Y, X, X] rfl rfl (uh HT_.out (by kernel_rfl)) (fun _ _ _ h => h) (Or.inl ⟨by rfl, ?_⟩) ?_ ?_; rotate_left
           · intro w'; go_simp; (with_reducible rfl)
           rotate_left
           · simp only [Act.put, ua, ub, uc, ui, uj]; rfl
           refine um (i := 14) (N := some 6) (v := ?_) (a' := ?_) #[Y, Y, Y, Y, Y, Y, Y, Y, Y, Y, Y, Y, Y, Y, Y, X] rfl rfl (uh HT_.out (by kernel_rfl)) (fun _ _ _ h => h) (Or.inl ⟨by rfl, ?_⟩) ?_ ?_; rotate_left
           · intro w'; go_simp; (with_reducible rfl)
           rotate_left
           · simp only [Act.put, ua, ub, uc, ui, uj]; rfl
           refine um (i := 15) (N := some 7) (v := ?_) (a' := ?_) #[Y, Y, Y, Y, Y, Y, Y, Y, Y, Y, Y, Y, Y, Y, Y, Y] rfl rfl (uh HT_.out (by kernel_rfl)) (fun _ _ _ h => h) (Or.inl ⟨by rfl, ?_⟩) ?_ ?_; rotate_left
           · intro w'; go_simp; (with_reducible rfl)
           rotate_left
           · simp only [Act.put, ua, ub, uc, ui, uj]; rfl
           refine done_ (xj HT_.out (by kernel_rfl)) ?_
           try go_wp2
           go_ret2
           exact ⟨by first | rfl | (simp [errW_none, errW_some] <;> rfl) | (simp [*, errW_none, errW_some] <;> rfl), by repeat (first | (with_reducible first | exact HB.out | apply uf | apply ud | apply ue | refine ur ?_ GE101.out) | exact HB.out)⟩
         · rw [if_neg c17] at H; exact absurd H (by simp)
       · rw [if_neg c16] at H; exact absurd H (by simp)
     · rw [if_neg c15] at H; have c15b0 : decide (x9_1 < (l0.length : Int)) = false := decide_eq_false c15; clear c15; simp only [Option.some.injEq, Prod.mk.injEq] at H; obtain ⟨rfl, rfl⟩ := H
       try go_wp2
       have n0_ := Aside0.mk (uu BK101.out); have n1_ := Aside0.mk (ue HB.out); clear BK101 HB; have BK101 := n0_; have HB := n1_; clear n0_ n1_; refine start_ (n := 16) (S := fun w' => True) (ds := []) #[X, X, X, X, X, X, X, X, X, X, X, X, X, X, X, X] (by kernel_rfl) rfl rfl trivial (fun hHeld => ?_); refine xe slices_BinarySearchFunc_Put.tab8 slices_BinarySearchFunc_Put.bits8 (fun HT_ HW_ => ?_); generalize wr.drew = w21 at BK101 HB hHeld ⊢; refine um (i := 0) (N := some 35) (v := ?_) (a' := ?_) #[Y, X, X, X, X, X, X, X, X, X, X, X, X, X, X, X] rfl rfl (uh HT_.out (by kernel_rfl)) (fun _ _ _ h => h) (Or.inl ⟨by rfl, ?_⟩) ?_ ?_; rotate_left
       · intro w'; go_simp; (with_reducible rfl)
       rotate_left
       · simp only [Act.put, ua, ub, uc, ui, uj]; rfl
       refine um (i := 1) (N := some 36) (v := ?_) (a' := ?_) #[Y, Y, X, X, X, X, X, X, X, X, X, X, X, X, X, X] rfl rfl (uh HT_.out (by kernel_rfl)) (fun _ _ _ h => h) (Or.inl ⟨by rfl, ?_⟩) ?_ ?_; rotate_left
       · intro w'; go_simp; (with_reducible rfl)
       rotate_left
       · simp only [Act.put, ua, ub, uc, ui, uj]; rfl
       refine um (i := 2) (N := some 37) (v := ?_) (a' := ?_) #[Y, Y, Y, X, X, X, X, X, X, X, X, X, X, X, X, X] rfl rfl (uh HT_.out (by kernel_rfl)) (fun _ _ _ h => h) (Or.inl ⟨by rfl, ?_⟩) ?_ ?_; rotate_left
       · intro w'; go_simp; (with_reducible rfl)
       rotate_left
       · simp only [Act.put, ua, ub, uc, ui, uj]; rfl
       refine um (i := 3) (N := some 38) (v := ?_) (a' := ?_) #[Y, Y, Y, Y, X, X, X, X, X, X, X, X, X, X, X, X] rfl rfl (uh HT_.out (by kernel_rfl)) (fun _ _ _ h => h) (Or.inl ⟨by rfl, ?_⟩) ?_ ?_; rotate_left
       · intro w'; go_simp; (with_reducible rfl)
       rotate_left
       · simp only [Act.put, ua, ub, uc, ui, uj]; rfl
       refine um (i := 4) (N := some 39) (v := ?_) (a' := ?_) #[Y, Y, Y, Y, Y, X, X, X, X, X, X, X, X, X, X, X] rfl rfl (uh HT_.out (by kernel_rfl)) (fun _ _ _ h => h) (Or.inl ⟨by rfl, ?_⟩) ?_ ?_; rotate_left
       · intro w'; go_simp; (with_reducible rfl)
       rotate_left
       · simp only [Act.put, ua, ub, uc, ui, uj]; rfl
       refine um (i := 5) (N := some 40) (v := undef) (a' := ?_) #[Y, Y, Y, Y, Y, Y, X, X, X, X, X, X, X, X, X, X] rfl rfl (uh HT_.out (by kernel_rfl)) (fun _ _ _ h => h) (Or.inr ⟨by rfl, rfl⟩) ?_ ?_; rotate_left
       · simp only [Act.put, ua, ub, uc, ui, uj]; rfl
       refine um (i := 6) (N := some 41) (v := undef) (a' := ?_) #[Y, Y, Y, Y, Y, Y, Y, X, X, X, X, X, X, X, X, X] rfl rfl (uh HT_.out (by kernel_rfl)) (fun _ _ _ h => h) (Or.inr ⟨by rfl, rfl⟩) ?_ ?_; rotate_left
       · simp only [Act.put, ua, ub, uc, ui, uj]; rfl
       refine um (i := 7) (N := some 42) (v := undef) (a' := ?_) #[Y, Y, Y, Y, Y, Y, Y, Y, X, X, X, X, X, X, X, X] rfl rfl (uh HT_.out (by kernel_rfl)) (fun _ _ _ h => h) (Or.inr ⟨by rfl, rfl⟩) ?_ ?_; rotate_left
       · simp only [Act.put, ua, ub, uc, ui, uj]; rfl
       refine um (i := 8) (N := some 43) (v := undef) (a' := ?_) #[Y, Y, Y, Y, Y, Y, Y, Y, Y, X, X, X, X, X, X, X] rfl rfl (uh HT_.out (by kernel_rfl)) (fun _ _ _ h => h) (Or.inr ⟨by rfl, rfl⟩) ?_ ?_; rotate_left
       · simp only [Act.put, ua, ub, uc, ui, uj]; rfl
       refine um (i := 9) (N := some 44) (v := undef) (a' := ?_) #[Y, Y, Y, Y, Y, Y, Y, Y, Y, Y, X, X, X, X, X, X] rfl rfl (uh HT_.out (by kernel_rfl)) (fun _ _ _ h => h) (Or.inr ⟨by rfl, rfl⟩) ?_ ?_; rotate_left
       · simp only [Act.put, ua, ub, uc, ui, uj]; rfl
       refine um (i := 10) (N := some 45) (v := undef) (a' := ?_) #[Y, Y, Y, Y, Y, Y, Y, Y, Y, Y, Y, X, X, X, X, X] rfl rfl (uh HT_.out (by kernel_rfl)) (fun _ _ _ h => h) (Or.inr ⟨by rfl, rfl⟩) ?_ ?_; rotate_left
       · simp only [Act.put, ua, ub, uc, ui, uj]; rfl
       refine um (i := 11) (N := some 46) (v := undef) (a' := ?_) #[Y, Y, Y, Y, Y, Y, Y, Y, Y, Y, Y, Y, X, X, X, X] rfl rfl (uh HT_.out (by kernel_rfl)) (fun _ _ _ h => h) (Or.inr ⟨by rfl, rfl⟩) ?_ ?_; rotate_left
       · simp only [Act.put, ua, ub, uc, ui, uj]; rfl
       refine um (i := 12) (N := some 47) (v := undef) (a' := ?_) #[Y, Y, Y, Y, Y, Y, Y, Y, Y, Y, Y, Y, Y, X, X, X] rfl rfl (uh HT_.out (by kernel_rfl)) (fun _ _ _ h => h) (Or.inr ⟨by rfl, rfl⟩) ?_ ?_; rotate_left
       · simp only [Act.put, ua, ub, uc, ui, uj]; rfl
       refine um (i := 13) (N := some 48) (v := ?_) (a' := ?_) #[Y, Y, Y, Y, Y, Y, Y, Y, Y, Y, Y, Y, Y, Y, X, X] rfl rfl (uh HT_.out (by kernel_rfl)) (fun _ _ _ h => h) (Or.inl ⟨by rfl, ?_⟩) ?_ ?_; rotate_left
       · intro w'; go_simp; (with_reducible rfl)
       rotate_left
       · simp only [Act.put, ua, ub, uc, ui, uj]; rfl
       refine um (i := 14) (N := some 6) (v := ?_) (a' := ?_) #[Y, Y, Y, Y, Y, Y, Y, Y, Y, Y, Y, Y, Y, Y, Y, X] rfl rfl (uh HT_.out (by kernel_rfl)) (fun _ _ _ h => h) (Or.inl ⟨by rfl, ?_⟩) ?_ ?_; rotate_left
       · intro w'; go_simp; (with_reducible rfl)
       rotate_left
       · simp only [Act.put, ua, ub, uc, ui, uj]; rfl
       refine um (i := 15) (N := some 7) (v := ?_) (a' := ?_) #[Y, Y, Y, Y, Y, Y, Y, Y, Y, Y, Y, Y, Y, Y, Y, Y] rfl rfl (uh HT_.out (by kernel_rfl)) (fun _ _ _ h => h) (Or.inl ⟨by rfl, ?_⟩) ?_ ?_; rotate_left
       · intro w'; go_simp; (with_reducible rfl)
       rotate_left
       · simp only [Act.put, ua, ub, uc, ui, uj]; rfl
       refine done_ (xj HT_.out (by kernel_rfl)) ?_
       try go_wp2
       go_ret2
       exact ⟨by first | rfl | (simp [errW_none, errW_some] <;> rfl) | (simp [*, errW_none, errW_some] <;> rfl), by repeat (first | (with_reducible first | exact HB.out | apply uf | apply ud | apply ue | refine ur ?_ GE101.out) | exact HB.out)⟩
end Go.Proofs.Ytfhapffjnafkbaa.V
