-- a text of this work, without what this claim doesn't use (wip/shake.py)
import Derived.Test.YtfhapffjnafkbaaSVPcmp
import Derived.Test.YtfhapffjnafkbaaSVMake
import Derived.Test.YtfhapffjnafkbaaSVPentry
import Derived.Test.YtfhapffjnafkbaaSVP5U
import Derived.Laws.CopyRow
import Derived.Laws.CopyOwn
import Derived.Laws.Externs
import Derived.Lib.Overlaps
import Derived.Lib.AppendZerosOnto
import Derived.Shelf.Spec.SlicesInsert
section
namespace Go.Proofs.Ytfhapffjnafkbaa.V
open Go.RowKit Go.Proofs.YtfhapffjnafkbaaW.PrintWords Go.Proofs.YtfhapffjnafkbaaW.PrintLast Go.Proofs.YtfhapffjnafkbaaW.PrintMore
attribute [local go_sem] max2_int min2_int max_two min_two max_three min_three max_four min_four
set_option linter.unusedVariables false
set_option linter.unusedSimpArgs false
mutual
def entry_Merge.l0 : Nat → List (S33) → List (S33) → List (S33) → Option ((List (S33)))
 | 0, _, _, _ => none
 | k + 1, x0, x1, x5 => if (x0.length : Int) > 0 then (entry_Merge.j1 k x0 x1 x5 (decide ((x1.length : Int) > 0))) else (entry_Merge.j1 k x0 x1 x5 false)
def entry_Merge.j1 : Nat → List (S33) → List (S33) → List (S33) → Bool → Option ((List (S33)))
 | 0, _, _, _, _ => none
 | k + 1, x0, x1, x5, x19 => if x19 = true then (if 0 < (x1.length : Int) then (if 0 < (x0.length : Int) then ((entry_Less.f k ((rd_T33 x1 0).f0) ((rd_T33 x1 0).f1) ((rd_T33 x0 0).f0) ((rd_T33 x0 0).f1)).bind fun t106 => (if t106 = true then (if x5.length < 8796093022208 then (if 1 ≤ (x1.length : Int) then (entry_Merge.l0 k x0 (x1.drop 1) (x5 ++ [(⟨(rd_T33 x1 0).f0, (rd_T33 x1 0).f1⟩ : S33)])) else (none)) else (none)) else (if x5.length < 8796093022208 then (if 1 ≤ (x0.length : Int) then (entry_Merge.l0 k (x0.drop 1) x1 (x5 ++ [(⟨(rd_T33 x0 0).f0, (rd_T33 x0 0).f1⟩ : S33)])) else (none)) else (none)))) else (none)) else (none)) else (if x5.length + x0.length < 8796093022208 then ((some (x5 ++ x0 : List (S33))).bind fun y125 => (if y125.length + x1.length < 8796093022208 then (some (y125 ++ x1)) else (none))) else (none))
end
def entry_Merge.f (k : Nat) (l0 : List (S33)) (l1 : List (S33)) : Option ((List (S33))) := if l0.length + l1.length < 1000000000 then (entry_Merge.l0 k l0 l1 (([] : List (S33)))) else none
set_option maxHeartbeats 8000000 in
set_option maxRecDepth 100000 in
theorem entry_Merge.calls (k : Nat) (P0_ : Nat → Prop) (A0 : Option Addr) (c0 : Nat) (l0 : List (S33)) (P1_ : Nat → Prop) (A1 : Option Addr) (c1 : Nat) (l1 : List (S33)) (r : List (S33)) (w : World) (hs0 : Kd.V k33 33 w w.heap.size (fun k_ => P0_ k_) (.slice A0 l0.length c0) l0) (hs1 : Kd.V k33 33 w w.heap.size (fun k_ => P1_ k_) (.slice A1 l1.length c1) l1) (h : entry_Merge.f k l0 l1 = some r) :
 Calls Try.prog 29 #[.slice A0 l0.length c0, .slice A1 l1.length c1] w fun e w' => ∃ v0_ : Value, e = .returned (v0_) ∧ Kd.R k33 33 w' w.heap.size (fun k_ => (w.heap.size ≤ k_)) v0_ r ∧ Below w.heap.size w w' := by
 have hu33 := Try.underlying33; have HO0 := Aside0.mk (show Kd.V k33 33 w w.heap.size (fun k_ => ((P0_ k_ ∨ P1_ k_) ∨ w.heap.size ≤ k_)) (.slice A0 l0.length c0) l0 from Kd.V_mono hs0 (fun k_ hk => .inl (.inl hk))); have HO1 := Aside0.mk (show Kd.V k33 33 w w.heap.size (fun k_ => ((P0_ k_ ∨ P1_ k_) ∨ w.heap.size ≤ k_)) (.slice A1 l1.length c1) l1 from Kd.V_mono hs1 (fun k_ hk => .inl (.inr hk))); have HB := Aside0.mk (Below.refl w.heap.size w); unfold entry_Merge.f at h
 have hlen_ : Aside0 (l0.length + l1.length < 1000000000) := by
  by_cases hc_ : l0.length + l1.length < 1000000000
  · exact ⟨hc_⟩
  · rw [if_neg hc_] at h; cases h
 rw [if_pos hlen_.out] at h; have H : (entry_Merge.l0 k l0 l1 (([] : List (S33)))) = some r := h; clear h; obtain ⟨y101, hy101⟩ : ∃ y_ : List (S33), y_ = (([] : List (S33))) := ⟨_, rfl⟩; (replace H : (entry_Merge.l0 k l0 l1 y101) = some r := by first | (rw [hy101]; with_reducible exact H) | (have H2_ := (uz _ _).symm.trans H; rw [hy101]; with_reducible exact H2_) | (have H2_ := (uz _ _).symm.trans H; with_reducible exact H2_) | with_reducible exact H | (rw [hy101]; exact H) | exact H); have Ny101 := Aside0.mk hy101; clear hy101; have H' := Aside0.mk H; clear H; go_enter Try.func29, Try.ntmps29
 go_wp2_with (first | ((with_reducible refine xq (N := 11) rfl ?_); (try (refine gate_guard (by rfl) ?_; dsimp only)); refine Kd.R_make0 k33 _ 33 rfl (N := 11) rfl 44 _ _ rfl (wrap64 ((l0.length : Int) + (l1.length : Int))) rfl rfl Try.underlying44 _ 16 info33 (by decide) (ok := fun _ => True) trivial (mk0_ok _ _ hlen_.out).1 (mk0_ok _ _ hlen_.out).2 (Below.refl _ _) (vr _) ?_; intro v102 w3 ho4 hb hg_ hnew_; clear hg_ hnew_; (first | rw [← Ny101.out] at ho4 | (simp only [Int.reduceToNat] at ho4; rw [← Ny101.out] at ho4)); have n0_ := Aside0.mk (xk (by (with_reducible repeat (first | apply vo | apply vn | apply vm)); exact HO0.out) (vx ho4) hb); have n1_ := Aside0.mk (xk (by (with_reducible repeat (first | apply vo | apply vn | apply vm)); exact HO1.out) (vx ho4) hb); have n2_ := Aside0.mk (xl (Kd.R_newM (M := fun k_ => (w.heap.size ≤ k_)) ho4 (vk (by repeat (first | (with_reducible first | exact HB.out | apply uf | apply ud | apply ue) | exact HB.out))) (fun k_ h_ => h_)) (vk (by repeat (first | (with_reducible first | exact HB.out | apply uf | apply ud | apply ue) | exact HB.out)))); have n3_ := Aside0.mk (vl (by repeat (first | (with_reducible first | exact HB.out | apply uf | apply ud | apply ue) | exact HB.out)) hb); clear HO0; clear HO1; clear HB; have HO0 := n0_; have HO1 := n1_; have HO103 := n2_; have HB := n3_; clear n0_ n1_ n2_ n3_; clear hb ho4))
 go_loopg [0, 1, 5] k (fun kq v0 v1 v5 w' => ∃ (x0_1 : List (S33)) (x1_1 : List (S33)) (x5_1 : List (S33)), Aside0 (entry_Merge.l0 kq x0_1 x1_1 x5_1 = some r) ∧ Aside0 (kq ≤ k) ∧ Aside0 (Kd.V k33 33 w' w.heap.size (fun k_ => ((P0_ k_ ∨ P1_ k_) ∨ w.heap.size ≤ k_) ∧ some k_ ≠ (v5 : Value).ownBlock) v0 x0_1) ∧ Aside0 (Kd.V k33 33 w' w.heap.size (fun k_ => ((P0_ k_ ∨ P1_ k_) ∨ w.heap.size ≤ k_) ∧ some k_ ≠ (v5 : Value).ownBlock) v1 x1_1) ∧ Aside0 (Kd.R k33 33 w' w.heap.size (fun k_ => (w.heap.size ≤ k_)) v5 x5_1) ∧ Aside0 (Below w.heap.size w w'))
 case atStart => exact ⟨(l0), (l1), (y101), H', ⟨vr _⟩, ⟨by (with_reducible repeat (first | apply vo | apply vn | apply vm)); exact HO0.out⟩, ⟨by (with_reducible repeat (first | apply vo | apply vn | apply vm)); exact HO1.out⟩, ⟨by (with_reducible repeat (first | apply uq | apply uo | apply us)); exact xj HO103.out (fun _ hk => hk.1)⟩, ⟨by repeat (first | (with_reducible first | exact HB.out | apply uf | apply ud | apply ue) | exact HB.out)⟩⟩
 case round =>
  clear H'
  try clear c1
  try clear c2
  try clear p2
  obtain ⟨x0_1, x1_1, x5_1, HA, HK1, HO_0, HO_1, HO_5, HB⟩ := hrel
  cases gk with
  | zero => exact absurd HA.out (by simp [entry_Merge.l0])
  | succ k1 =>
   have H := HA.out; clear HA; simp only [entry_Merge.l0] at H; have HC5 := Aside0.mk H; clear H
   go_upto_region 2 with (fail)
   go_cut [19] (fun v19 wc => ∃ (kq : Nat) (x19_4 : Bool), v19 = .bool x19_4 ∧ Aside0 (entry_Merge.j1 kq x0_1 x1_1 x5_1 x19_4 = some r) ∧ Aside0 (kq ≤ k1) ∧ Aside0 (Kd.V k33 33 wc w.heap.size (fun k_ => ((P0_ k_ ∨ P1_ k_) ∨ w.heap.size ≤ k_) ∧ some k_ ≠ (u5 : Value).ownBlock) u0 x0_1) ∧ Aside0 (Kd.V k33 33 wc w.heap.size (fun k_ => ((P0_ k_ ∨ P1_ k_) ∨ w.heap.size ≤ k_) ∧ some k_ ≠ (u5 : Value).ownBlock) u1 x1_1) ∧ Aside0 (Kd.R k33 33 wc w.heap.size (fun k_ => (w.heap.size ≤ k_)) u5 x5_1) ∧ Aside0 (Below w.heap.size w wc))
   case first =>
    have H := HC5.out; clear HC5
    by_cases c6 : (x0_1.length : Int) > 0
    · rw [if_pos c6] at H; have c6b0 : decide (0 < (x0_1.length : Int)) = true := decide_eq_true c6; have c6b1 : decide (0 < x0_1.length) = true := decide_eq_true (by omega); clear c6; (first | rw [c6b0] | (simp only [uh, ui]; rw [c6b0]) | skip); have H' := Aside0.mk H; clear H; obtain ⟨Ao7, co7, eo7⟩ := Kd.V_slice HO_0.out; subst eo7; obtain ⟨Ao8, co8, eo8⟩ := Kd.V_slice HO_1.out; subst eo8
      go_wp2
      go_meet
      case rel => exact ⟨_, (decide ((x1_1.length : Int) > 0)), (by first | rfl | (simp; done) | (simp [*]; done)), H', ⟨by have := HK1.out; first | omega | exact vr _⟩, ⟨by (with_reducible repeat (first | apply vo | apply vn | apply vm)); exact HO_0.out⟩, ⟨by (with_reducible repeat (first | apply vo | apply vn | apply vm)); exact HO_1.out⟩, ⟨by (with_reducible repeat (first | apply uq | apply uo | apply us)); exact HO_5.out⟩, ⟨by repeat (first | (with_reducible first | exact HB.out | apply uf | apply ud | apply ue) | exact HB.out)⟩⟩
    · rw [if_neg c6] at H; have c6b0 : decide (0 < (x0_1.length : Int)) = false := decide_eq_false c6; have c6b1 : decide (0 < x0_1.length) = false := decide_eq_false (by omega); clear c6; (first | rw [c6b0] | (simp only [uh, ui]; rw [c6b0]) | skip); have H' := Aside0.mk H; clear H; obtain ⟨Ao9, co9, eo9⟩ := Kd.V_slice HO_0.out; subst eo9
      go_wp2
      go_meet
      case rel => exact ⟨_, (false), (by first | rfl | (simp; done) | (simp [*]; done)), H', ⟨by have := HK1.out; first | omega | exact vr _⟩, ⟨by (with_reducible repeat (first | apply vo | apply vn | apply vm)); exact HO_0.out⟩, ⟨by (with_reducible repeat (first | apply vo | apply vn | apply vm)); exact HO_1.out⟩, ⟨by (with_reducible repeat (first | apply uq | apply uo | apply us)); exact HO_5.out⟩, ⟨by repeat (first | (with_reducible first | exact HB.out | apply uf | apply ud | apply ue) | exact HB.out)⟩⟩
   case rest =>
    clear HC5
    try clear c1
    try clear c2
    try clear p2
    try clear c6
    try clear c6b0
    try clear c6b1
    try clear p2
    obtain ⟨kq, x19_4, rfl, HA, HJ4, HO_0, HO_1, HO_5, HB⟩ := hcut
    cases kq with
    | zero => exact absurd HA.out (by simp [entry_Merge.j1])
    | succ kj4 =>
     have H := HA.out; clear HA; simp only [entry_Merge.j1] at H
     by_cases c10 : x19_4 = true
     · subst c10; (have H1 : (if 0 < (x1_1.length : Int) then (if 0 < (x0_1.length : Int) then ((entry_Less.f kj4 ((rd_T33 x1_1 0).f0) ((rd_T33 x1_1 0).f1) ((rd_T33 x0_1 0).f0) ((rd_T33 x0_1 0).f1)).bind fun t106 => (if t106 = true then (if x5_1.length < 8796093022208 then (if 1 ≤ (x1_1.length : Int) then (entry_Merge.l0 kj4 x0_1 (x1_1.drop 1) (x5_1 ++ [(⟨(rd_T33 x1_1 0).f0, (rd_T33 x1_1 0).f1⟩ : S33)])) else (none)) else (none)) else (if x5_1.length < 8796093022208 then (if 1 ≤ (x0_1.length : Int) then (entry_Merge.l0 kj4 (x0_1.drop 1) x1_1 (x5_1 ++ [(⟨(rd_T33 x0_1 0).f0, (rd_T33 x0_1 0).f1⟩ : S33)])) else (none)) else (none)))) else (none)) else (none)) = some r := by rw [if_pos rfl] at H; exact H); clear H; have H := H1; clear H1
       by_cases c11 : 0 < (x1_1.length : Int)
       · rw [if_pos c11] at H; have c11b0 : decide (0 < (x1_1.length : Int)) = true := decide_eq_true c11; have c11b1 : decide (0 < x1_1.length) = true := decide_eq_true (by omega); clear c11
         by_cases c12 : 0 < (x0_1.length : Int)
         · rw [if_pos c12] at H; have c12b0 : decide (0 < (x0_1.length : Int)) = true := decide_eq_true c12; have c12b1 : decide (0 < x0_1.length) = true := decide_eq_true (by omega); clear c12; replace H := Option.bind_eq_some_iff.mp H; obtain ⟨t106, A130, H⟩ := H; replace H : (if t106 = true then (if x5_1.length < 8796093022208 then (if 1 ≤ (x1_1.length : Int) then (entry_Merge.l0 kj4 x0_1 (x1_1.drop 1) (x5_1 ++ [(⟨(rd_T33 x1_1 0).f0, (rd_T33 x1_1 0).f1⟩ : S33)])) else (none)) else (none)) else (if x5_1.length < 8796093022208 then (if 1 ≤ (x0_1.length : Int) then (entry_Merge.l0 kj4 (x0_1.drop 1) x1_1 (x5_1 ++ [(⟨(rd_T33 x0_1 0).f0, (rd_T33 x0_1 0).f1⟩ : S33)])) else (none)) else (none))) = some r := H; have A13 := Aside0.mk A130; clear A130
           by_cases c14 : t106 = true
           · subst c14; (have H1 : (if x5_1.length < 8796093022208 then (if 1 ≤ (x1_1.length : Int) then (entry_Merge.l0 kj4 x0_1 (x1_1.drop 1) (x5_1 ++ [(⟨(rd_T33 x1_1 0).f0, (rd_T33 x1_1 0).f1⟩ : S33)])) else (none)) else (none)) = some r := by rw [if_pos rfl] at H; exact H); clear H; have H := H1; clear H1
             by_cases c15 : x5_1.length < 8796093022208
             · rw [if_pos c15] at H; have LMc15 := Aside0.mk c15; clear c15; obtain ⟨y108, hy108⟩ : ∃ y_ : List (S33), y_ = (x5_1 ++ [(⟨(rd_T33 x1_1 0).f0, (rd_T33 x1_1 0).f1⟩ : S33)]) := ⟨_, rfl⟩; (replace H : (if 1 ≤ (x1_1.length : Int) then (entry_Merge.l0 kj4 x0_1 (x1_1.drop 1) y108) else (none)) = some r := by first | (rw [hy108]; with_reducible exact H) | (have H2_ := (uz _ _).symm.trans H; rw [hy108]; with_reducible exact H2_) | (have H2_ := (uz _ _).symm.trans H; with_reducible exact H2_) | with_reducible exact H | (rw [hy108]; exact H) | exact H); have Ny108 := Aside0.mk hy108; clear hy108
               by_cases c16 : 1 ≤ (x1_1.length : Int)
               · rw [if_pos c16] at H; have c16b0 := eq_true c16; have c16b1 : decide (1 ≤ (x1_1.length : Int)) = true := decide_eq_true c16; clear c16; obtain ⟨y111, hy111⟩ : ∃ y_ : List (S33), y_ = (x1_1.drop 1) := ⟨_, rfl⟩; (replace H : (entry_Merge.l0 kj4 x0_1 y111 y108) = some r := by first | (rw [hy111]; with_reducible exact H) | (have H2_ := (uz _ _).symm.trans H; rw [hy111]; with_reducible exact H2_) | (have H2_ := (uz _ _).symm.trans H; with_reducible exact H2_) | with_reducible exact H | (rw [hy111]; exact H) | exact H); have Ny111 := Aside0.mk hy111; clear hy111; have H' := Aside0.mk H; clear H
                 try go_wp2
                 have n0_ := Aside0.mk (vm HO_0.out); have n1_ := Aside0.mk (vm HO_1.out); have n2_ := Aside0.mk (us HO_5.out); have n3_ := Aside0.mk (ue HB.out); clear HO_0 HO_1 HO_5 HB; have HO_0 := n0_; have HO_1 := n1_; have HO_5 := n2_; have HB := n3_; clear n0_ n1_ n2_ n3_; obtain ⟨Ao18, co18, eo18⟩ := Kd.V_slice HO_1.out; (first | subst eo18 | (injection eo18 with f1_ f2_ f3_; have f4_ := f1_.symm; have f5_ := f3_.symm; clear f1_ f2_ f3_; subst f4_; subst f5_)); have p104 : 0 ≤ (0 : Int) := (by omega); have q104 : 0 < (x1_1.length : Int) := ug (by first | (with_reducible assumption) | assumption); obtain ⟨ad104, e104, hx104_0, hx104_1⟩ := at_T33 (vu HO_1.out).2.2 0 p104 q104
                 cases e104
                 have qi104 : (0 < x1_1.length) = True := eq_true (by omega); (try rw [show ((0 : Int)).toNat = 0 from rfl] at hx104_0); (try rw [show 0 * 2 = 0 from rfl] at hx104_0); (try rw [Addr.add_zero'] at hx104_0); (try rw [show ((0 : Int)).toNat = 0 from rfl] at hx104_1); (try rw [show 0 * 2 = 0 from rfl] at hx104_1); (try rw [Addr.add_zero'] at hx104_1); replace p104 := eq_true p104; replace q104 := eq_true q104; obtain ⟨Ao19, co19, eo19⟩ := Kd.V_slice HO_0.out; (first | subst eo19 | (injection eo19 with f1_ f2_ f3_; have f4_ := f1_.symm; have f5_ := f3_.symm; clear f1_ f2_ f3_; subst f4_; subst f5_)); have p105 : 0 ≤ (0 : Int) := (by omega); have q105 : 0 < (x0_1.length : Int) := ug (by first | (with_reducible assumption) | assumption); obtain ⟨ad105, e105, hx105_0, hx105_1⟩ := at_T33 (vu HO_0.out).2.2 0 p105 q105
                 cases e105
                 have qi105 : (0 < x0_1.length) = True := eq_true (by omega); (try rw [show ((0 : Int)).toNat = 0 from rfl] at hx105_0); (try rw [show 0 * 2 = 0 from rfl] at hx105_0); (try rw [Addr.add_zero'] at hx105_0); (try rw [show ((0 : Int)).toNat = 0 from rfl] at hx105_1); (try rw [show 0 * 2 = 0 from rfl] at hx105_1); (try rw [Addr.add_zero'] at hx105_1); replace p105 := eq_true p105; replace q105 := eq_true q105; refine start_ (n := 7) (S := fun w' => w'.cell? ad104 = some (.int .u64 ((rd_T33 x1_1 0).f0)) ∧ w'.cell? ⟨ad104.block, ad104.off + 1, none⟩ = some (.int .i64 ((rd_T33 x1_1 0).f1)) ∧ w'.cell? ad105 = some (.int .u64 ((rd_T33 x0_1 0).f0)) ∧ w'.cell? ⟨ad105.block, ad105.off + 1, none⟩ = some (.int .i64 ((rd_T33 x0_1 0).f1))) (ds := []) #[X, X, X, X, X, X, X] (by kernel_rfl) rfl rfl ⟨hx104_0, hx104_1, hx105_0, hx105_1⟩ (fun hHeld => ?_); generalize wc.drew = w17 at HO_0 HO_1 HO_5 HB hx104_0 hx104_1 hx105_0 hx105_1 hHeld ⊢; refine ur (i := 0) (N := some 20) (v := ?_) (a' := ?_) #[Y, X, X, X, X, X, X] rfl rfl (by kernel_rfl) (fun _ _ _ h => h) (Or.inl ⟨by rfl, ?_⟩) ?_ ?_; rotate_left
                 · intro w'; go_simp; (with_reducible rfl)
                 rotate_left
                 · simp only [Act.put, ua, ub, uc, uh, ui]; rfl
                 refine ur (i := 1) (N := some 21) (v := ?_) (a' := ?_) #[Y, Y, X, X, X, X, X] rfl rfl (by kernel_rfl) (fun _ _ _ h => h) (Or.inl ⟨by rfl, ?_⟩) ?_ ?_; rotate_left
                 · intro w'; go_simp; (with_reducible rfl)
                 rotate_left
                 · simp only [Act.put, ua, ub, uc, uh, ui]; rfl
                 refine ur (i := 3) (N := some 23) (v := ?_) (a' := ?_) #[Y, Y, X, Y, X, X, X] rfl rfl (by kernel_rfl) (fun _ _ _ h => h) (Or.inl ⟨by rfl, ?_⟩) ?_ ?_; rotate_left
                 · intro w'; go_simp; (with_reducible rfl)
                 rotate_left
                 · simp only [Act.put, ua, ub, uc, uh, ui]; rfl
                 refine ur (i := 4) (N := some 24) (v := ?_) (a' := ?_) #[Y, Y, X, Y, Y, X, X] rfl rfl (by kernel_rfl) (fun _ _ _ h => h) (Or.inl ⟨by rfl, ?_⟩) ?_ ?_; rotate_left
                 · intro w'; go_simp; (with_reducible rfl)
                 rotate_left
                 · simp only [Act.put, ua, ub, uc, uh, ui]; rfl
                 refine take_ (i := 2) (N := some 22) (v := ?_) (a' := ?_) #[Y, Y, Y, Y, Y, X, X] rfl rfl (by kernel_rfl) (fun _ _ _ h => h) (Or.inl ⟨by rfl, ?_⟩) hHeld ?_ ?_; rotate_left
                 · rintro w' ⟨s0, s1, s2, s3⟩; go_simp; (with_reducible rfl)
                 rotate_left
                 · simp only [Act.put, ua, ub, uc, uh, ui]; rfl
                 refine take_ (i := 5) (N := some 25) (v := ?_) (a' := ?_) #[Y, Y, Y, Y, Y, Y, X] rfl rfl (by kernel_rfl) (fun _ _ _ h => h) (Or.inl ⟨by rfl, ?_⟩) hHeld ?_ ?_; rotate_left
                 · rintro w' ⟨s0, s1, s2, s3⟩; go_simp; (with_reducible rfl)
                 rotate_left
                 · simp only [Act.put, ua, ub, uc, uh, ui]; rfl
                 refine one_ (i := 6) (N := some 26) #[Y, Y, Y, Y, Y, Y, Y] rfl rfl (by kernel_rfl) (by decide) (fun K hK => ?_); refine goes_ Try.func26 (by kernel_rfl) rfl #[.agg #[.int .u64 ((rd_T33 x1_1 0).f0), .int .i64 ((rd_T33 x1_1 0).f1)], .agg #[.int .u64 ((rd_T33 x0_1 0).f0), .int .i64 ((rd_T33 x0_1 0).f1)]] (by rfl) rfl rfl (by (try simp only [um, ut, uy]); first | done | rfl | (simp only [uk, ul]; rfl)) ?_; (with_reducible refine (entry_Less.calls kj4 ((rd_T33 x1_1 0).f0) ((rd_T33 x1_1 0).f1) ((rd_T33 x0_1 0).f0) ((rd_T33 x0_1 0).f1) true _ A13.out).mono ?_); rintro e w20 ⟨rfl, hb⟩; have HS0_ := (hb.cell (World.block_lt_of_cell? _ _ (hHeld.1))).trans (hHeld.1); have HS1_ := (hb.cell (World.block_lt_of_cell? _ _ (hHeld.2.1))).trans (hHeld.2.1); have HS2_ := (hb.cell (World.block_lt_of_cell? _ _ (hHeld.2.2.1))).trans (hHeld.2.2.1); have HS3_ := (hb.cell (World.block_lt_of_cell? _ _ (hHeld.2.2.2))).trans (hHeld.2.2.2); refine ⟨_, rfl, ?_⟩; have n0_ := Aside0.mk (xm (by (with_reducible repeat (first | apply vo | apply vn | apply vm)); exact HO_0.out) hb); have n1_ := Aside0.mk (xm (by (with_reducible repeat (first | apply vo | apply vn | apply vm)); exact HO_1.out) hb); have n2_ := Aside0.mk (xg (by (with_reducible repeat (first | apply uq | apply uo | apply us)); exact HO_5.out) hb); have n3_ := Aside0.mk (vl (by repeat (first | (with_reducible first | exact HB.out | apply uf | apply ud | apply ue) | exact HB.out)) hb); clear HO_0 HO_1 HO_5 HB; have HO_0 := n0_; have HO_1 := n1_; have HO_5 := n2_; have HB := n3_; clear n0_ n1_ n2_ n3_; (try clear hb); (try clear hb2); (try clear hk); (try clear hi); refine hK.out _ _ ⟨HS0_, HS1_, HS2_, HS3_⟩ (fun hHeld => ?_); clear hK K; refine xt (a' := ?_) ?_ ?_; rotate_left
                 · show Act.put _ (some 26) _ = _
                   simp only [Act.put, ua, ub, uc, uh, ui]; rfl
                 refine done_ (by kernel_rfl) ?_; have p107 : 0 ≤ (0 : Int) := (by omega); have q107 : 0 < (x1_1.length : Int) := ug (by first | (with_reducible assumption) | assumption); obtain ⟨ad107, e107, hx107_0, hx107_1⟩ := at_T33 (vu HO_1.out).2.2 0 p107 q107; obtain rfl : ad104 = ad107 := (by injection e107); have qi107 : (0 < x1_1.length) = True := eq_true (by omega); (try rw [show ((0 : Int)).toNat = 0 from rfl] at hx107_0); (try rw [show 0 * 2 = 0 from rfl] at hx107_0); (try rw [Addr.add_zero'] at hx107_0); (try rw [show ((0 : Int)).toNat = 0 from rfl] at hx107_1); (try rw [show 0 * 2 = 0 from rfl] at hx107_1); (try rw [Addr.add_zero'] at hx107_1); replace p107 := eq_true p107; replace q107 := eq_true q107
                 try go_wp2_with (first | ((with_reducible refine gate_builtin (b := .append) (xs := #[.tmp 27, .tmp 31]) rfl ?_); (try (refine gate_guard (by rfl) ?_; dsimp only)); at_builtin; refine Kd.R_append k33 (w0 := w) w.heap.size rfl (.tmp 27) (.tmp 31) 44 33 (.agg #[(.int .u64 0), (.int .i64 0)]) 16 rfl Try.underlying44 info33 rfl (by decide) (by omega) u5 x5_1 (⟨(rd_T33 x1_1 0).f0, (rd_T33 x1_1 0).f1⟩ : S33) [.int .u64 ((rd_T33 x1_1 0).f0), .int .i64 ((rd_T33 x1_1 0).f1)] (fun k_ => (w.heap.size ≤ k_)) (fun _ => False) rfl rfl ?aP (fun _ hk => hk.elim) ?aF ?aO ?aB ?aS ?aL ?_; (case aP => exact k33_mkM _ _ _ (⟨(rd_T33 x1_1 0).f0, (rd_T33 x1_1 0).f1⟩ : S33)); (case aB => exact (by repeat (first | (with_reducible first | exact HB.out | apply uf | apply ud | apply ue) | exact HB.out))); (case aF => exact (fun k_ hk => (Nat.le_trans (vk (by repeat (first | (with_reducible first | exact HB.out | apply uf | apply ud | apply ue) | exact HB.out))) hk))); (case aO => exact (by (with_reducible repeat (first | apply uq | apply uo | apply us)); exact HO_5.out)); (case aS => exact (vk (by repeat (first | (with_reducible first | exact HB.out | apply uf | apply ud | apply ue) | exact HB.out)))); (case aL => have := LMc15.out; omega); intro v109 w21 ho hb hg hat; rw [← Ny108.out] at ho; have n0_ := Aside0.mk (Kd.V_afterv (ok := (fun k_ => ((P0_ k_ ∨ P1_ k_) ∨ w.heap.size ≤ k_))) (by (with_reducible repeat (first | apply vo | apply vn | apply vm)); exact HO_0.out) hg hat); have n1_ := Aside0.mk (Kd.V_afterv (ok := (fun k_ => ((P0_ k_ ∨ P1_ k_) ∨ w.heap.size ≤ k_))) (by (with_reducible repeat (first | apply vo | apply vn | apply vm)); exact HO_1.out) hg hat); have n2_ := Aside0.mk (hb); have n3_ := Aside0.mk (ho); clear HO_0; clear HO_1; clear HB; clear HO_5; have HO_0 := n0_; have HO_1 := n1_; have HB := n2_; have HO110 := n3_; clear n0_ n1_ n2_ n3_; clear ho hb hg hat; have q22 : (1 : Int) ≤ ((x1_1.length : Int) : Int) := ug (by first | (with_reducible assumption) | assumption); obtain ⟨i022, hi022, _, hsz22, _⟩ := info_parts info33; have hroom22 : x1_1.length ≤ co18 := (vu HO_1.out).2.1; have hC22 : Kd.F k33 _ _ (some ad104) x1_1.length x1_1 := (Kd.V_at (base := w.heap.size) HO_1.out).2.2; have hcut22 := cut_from (P := Try.prog) 44 33 .i64 Try.underlying44 hi022 2 hsz22 (some ad104) x1_1.length co18 1 (by omega) q22; have hr22 := Kd.F_cut (m := (1 : Int).toNat) (c := co18) hC22 (by omega) hroom22; obtain ⟨A22, hA22⟩ : ∃ A1, A1 = (if co18 = (1 : Int).toNat then (some ad104) else ((some ad104) : Option Addr).map (·.add ((1 : Int).toNat * 2))) := ⟨_, rfl⟩; obtain ⟨c22, hc22⟩ : ∃ c1, c1 = co18 - (1 : Int).toNat := ⟨_, rfl⟩; have hy22 : y111.length = x1_1.length - (1 : Int).toNat := (by rw [Ny111.out, uk] <;> omega); rw [show (x1_1).drop (1 : Int).toNat = y111 from Ny111.out.symm] at hr22; replace hr22 : Kd.F k33 _ _ A22 y111.length y111 := (by rw [hA22]; exact hr22); rw [← hy22, ← hA22, ← hc22] at hcut22; have HO115 := Aside0.mk (show Kd.V k33 33 _ w.heap.size _ (.slice A22 y111.length c22) y111 from Kd.V_mk (by rw [hy22, hc22]; exact Nat.sub_le_sub_right hroom22 _) hr22); have HC115 := Aside0.mk (show y111.length ≤ c22 from by rw [hy22, hc22]; exact Nat.sub_le_sub_right hroom22 _); clear hr22 hC22 hroom22 hi022 hsz22 hc22; have KY22 := Aside0.mk hy22; have KA22 := Aside0.mk hA22; clear hy22 hA22; replace q22 := eq_true q22))
                 go_roundg kj4
                 case measure => have := HK1.out; have := HJ4.out; omega
                 case rel => exact ⟨(x0_1), (y111), (y108), H', ⟨by have := HK1.out; have := HJ4.out; omega⟩, ⟨by (with_reducible repeat (first | apply vo | apply vn | apply vm)); exact HO_0.out⟩, ⟨by (with_reducible repeat (first | apply vo | apply vn | apply vm)); exact HO115.out⟩, ⟨by (with_reducible repeat (first | apply uq | apply uo | apply us)); exact HO110.out⟩, ⟨by repeat (first | (with_reducible first | exact HB.out | apply uf | apply ud | apply ue) | exact HB.out)⟩⟩
               · rw [if_neg c16] at H; exact absurd H (by simp)
             · rw [if_neg c15] at H; exact absurd H (by simp)
           · replace c14 := Bool.eq_false_iff.mpr c14; subst c14; (have H1 : (if x5_1.length < 8796093022208 then (if 1 ≤ (x0_1.length : Int) then (entry_Merge.l0 kj4 (x0_1.drop 1) x1_1 (x5_1 ++ [(⟨(rd_T33 x0_1 0).f0, (rd_T33 x0_1 0).f1⟩ : S33)])) else (none)) else (none)) = some r := by rw [if_neg (show ¬ (false = true) by decide)] at H; exact H); clear H; have H := H1; clear H1
             by_cases c23 : x5_1.length < 8796093022208
             · rw [if_pos c23] at H; have LMc23 := Aside0.mk c23; clear c23; obtain ⟨y117, hy117⟩ : ∃ y_ : List (S33), y_ = (x5_1 ++ [(⟨(rd_T33 x0_1 0).f0, (rd_T33 x0_1 0).f1⟩ : S33)]) := ⟨_, rfl⟩; (replace H : (if 1 ≤ (x0_1.length : Int) then (entry_Merge.l0 kj4 (x0_1.drop 1) x1_1 y117) else (none)) = some r := by first | (rw [hy117]; with_reducible exact H) | (have H2_ := (uz _ _).symm.trans H; rw [hy117]; with_reducible exact H2_) | (have H2_ := (uz _ _).symm.trans H; with_reducible exact H2_) | with_reducible exact H | (rw [hy117]; exact H) | exact H); have Ny117 := Aside0.mk hy117; clear hy117
               by_cases c24 : 1 ≤ (x0_1.length : Int)
               · rw [if_pos c24] at H; have c24b0 := eq_true c24; have c24b1 : decide (1 ≤ (x0_1.length : Int)) = true := decide_eq_true c24; clear c24; obtain ⟨y120, hy120⟩ : ∃ y_ : List (S33), y_ = (x0_1.drop 1) := ⟨_, rfl⟩; (replace H : (entry_Merge.l0 kj4 y120 x1_1 y117) = some r := by first | (rw [hy120]; with_reducible exact H) | (have H2_ := (uz _ _).symm.trans H; rw [hy120]; with_reducible exact H2_) | (have H2_ := (uz _ _).symm.trans H; with_reducible exact H2_) | with_reducible exact H | (rw [hy120]; exact H) | exact H); have Ny120 := Aside0.mk hy120; clear hy120; have H' := Aside0.mk H; clear H
                 try go_wp2
                 have n0_ := Aside0.mk (vm HO_0.out); have n1_ := Aside0.mk (vm HO_1.out); have n2_ := Aside0.mk (us HO_5.out); have n3_ := Aside0.mk (ue HB.out); clear HO_0 HO_1 HO_5 HB; have HO_0 := n0_; have HO_1 := n1_; have HO_5 := n2_; have HB := n3_; clear n0_ n1_ n2_ n3_; obtain ⟨Ao26, co26, eo26⟩ := Kd.V_slice HO_1.out; (first | subst eo26 | (injection eo26 with f1_ f2_ f3_; have f4_ := f1_.symm; have f5_ := f3_.symm; clear f1_ f2_ f3_; subst f4_; subst f5_)); have p104 : 0 ≤ (0 : Int) := (by omega); have q104 : 0 < (x1_1.length : Int) := ug (by first | (with_reducible assumption) | assumption); obtain ⟨ad104, e104, hx104_0, hx104_1⟩ := at_T33 (vu HO_1.out).2.2 0 p104 q104
                 cases e104
                 have qi104 : (0 < x1_1.length) = True := eq_true (by omega); (try rw [show ((0 : Int)).toNat = 0 from rfl] at hx104_0); (try rw [show 0 * 2 = 0 from rfl] at hx104_0); (try rw [Addr.add_zero'] at hx104_0); (try rw [show ((0 : Int)).toNat = 0 from rfl] at hx104_1); (try rw [show 0 * 2 = 0 from rfl] at hx104_1); (try rw [Addr.add_zero'] at hx104_1); replace p104 := eq_true p104; replace q104 := eq_true q104; obtain ⟨Ao27, co27, eo27⟩ := Kd.V_slice HO_0.out; (first | subst eo27 | (injection eo27 with f1_ f2_ f3_; have f4_ := f1_.symm; have f5_ := f3_.symm; clear f1_ f2_ f3_; subst f4_; subst f5_)); have p105 : 0 ≤ (0 : Int) := (by omega); have q105 : 0 < (x0_1.length : Int) := ug (by first | (with_reducible assumption) | assumption); obtain ⟨ad105, e105, hx105_0, hx105_1⟩ := at_T33 (vu HO_0.out).2.2 0 p105 q105
                 cases e105
                 have qi105 : (0 < x0_1.length) = True := eq_true (by omega); (try rw [show ((0 : Int)).toNat = 0 from rfl] at hx105_0); (try rw [show 0 * 2 = 0 from rfl] at hx105_0); (try rw [Addr.add_zero'] at hx105_0); (try rw [show ((0 : Int)).toNat = 0 from rfl] at hx105_1); (try rw [show 0 * 2 = 0 from rfl] at hx105_1); (try rw [Addr.add_zero'] at hx105_1); replace p105 := eq_true p105; replace q105 := eq_true q105; refine start_ (n := 7) (S := fun w' => w'.cell? ad104 = some (.int .u64 ((rd_T33 x1_1 0).f0)) ∧ w'.cell? ⟨ad104.block, ad104.off + 1, none⟩ = some (.int .i64 ((rd_T33 x1_1 0).f1)) ∧ w'.cell? ad105 = some (.int .u64 ((rd_T33 x0_1 0).f0)) ∧ w'.cell? ⟨ad105.block, ad105.off + 1, none⟩ = some (.int .i64 ((rd_T33 x0_1 0).f1))) (ds := []) #[X, X, X, X, X, X, X] (by kernel_rfl) rfl rfl ⟨hx104_0, hx104_1, hx105_0, hx105_1⟩ (fun hHeld => ?_); generalize wc.drew = w25 at HO_0 HO_1 HO_5 HB hx104_0 hx104_1 hx105_0 hx105_1 hHeld ⊢; refine ur (i := 0) (N := some 20) (v := ?_) (a' := ?_) #[Y, X, X, X, X, X, X] rfl rfl (by kernel_rfl) (fun _ _ _ h => h) (Or.inl ⟨by rfl, ?_⟩) ?_ ?_; rotate_left
                 · intro w'; go_simp; (with_reducible rfl)
                 rotate_left
                 · simp only [Act.put, ua, ub, uc, uh, ui]; rfl
                 refine ur (i := 1) (N := some 21) (v := ?_) (a' := ?_) #[Y, Y, X, X, X, X, X] rfl rfl (by kernel_rfl) (fun _ _ _ h => h) (Or.inl ⟨by rfl, ?_⟩) ?_ ?_; rotate_left
                 · intro w'; go_simp; (with_reducible rfl)
                 rotate_left
                 · simp only [Act.put, ua, ub, uc, uh, ui]; rfl
                 refine ur (i := 3) (N := some 23) (v := ?_) (a' := ?_) #[Y, Y, X, Y, X, X, X] rfl rfl (by kernel_rfl) (fun _ _ _ h => h) (Or.inl ⟨by rfl, ?_⟩) ?_ ?_; rotate_left
                 · intro w'; go_simp; (with_reducible rfl)
                 rotate_left
                 · simp only [Act.put, ua, ub, uc, uh, ui]; rfl
                 refine ur (i := 4) (N := some 24) (v := ?_) (a' := ?_) #[Y, Y, X, Y, Y, X, X] rfl rfl (by kernel_rfl) (fun _ _ _ h => h) (Or.inl ⟨by rfl, ?_⟩) ?_ ?_; rotate_left
                 · intro w'; go_simp; (with_reducible rfl)
                 rotate_left
                 · simp only [Act.put, ua, ub, uc, uh, ui]; rfl
                 refine take_ (i := 2) (N := some 22) (v := ?_) (a' := ?_) #[Y, Y, Y, Y, Y, X, X] rfl rfl (by kernel_rfl) (fun _ _ _ h => h) (Or.inl ⟨by rfl, ?_⟩) hHeld ?_ ?_; rotate_left
                 · rintro w' ⟨s0, s1, s2, s3⟩; go_simp; (with_reducible rfl)
                 rotate_left
                 · simp only [Act.put, ua, ub, uc, uh, ui]; rfl
                 refine take_ (i := 5) (N := some 25) (v := ?_) (a' := ?_) #[Y, Y, Y, Y, Y, Y, X] rfl rfl (by kernel_rfl) (fun _ _ _ h => h) (Or.inl ⟨by rfl, ?_⟩) hHeld ?_ ?_; rotate_left
                 · rintro w' ⟨s0, s1, s2, s3⟩; go_simp; (with_reducible rfl)
                 rotate_left
                 · simp only [Act.put, ua, ub, uc, uh, ui]; rfl
                 refine one_ (i := 6) (N := some 26) #[Y, Y, Y, Y, Y, Y, Y] rfl rfl (by kernel_rfl) (by decide) (fun K hK => ?_); refine goes_ Try.func26 (by kernel_rfl) rfl #[.agg #[.int .u64 ((rd_T33 x1_1 0).f0), .int .i64 ((rd_T33 x1_1 0).f1)], .agg #[.int .u64 ((rd_T33 x0_1 0).f0), .int .i64 ((rd_T33 x0_1 0).f1)]] (by rfl) rfl rfl (by (try simp only [um, ut, uy]); first | done | rfl | (simp only [uk, ul]; rfl)) ?_; (with_reducible refine (entry_Less.calls kj4 ((rd_T33 x1_1 0).f0) ((rd_T33 x1_1 0).f1) ((rd_T33 x0_1 0).f0) ((rd_T33 x0_1 0).f1) false _ A13.out).mono ?_); rintro e w28 ⟨rfl, hb⟩; have HS0_ := (hb.cell (World.block_lt_of_cell? _ _ (hHeld.1))).trans (hHeld.1); have HS1_ := (hb.cell (World.block_lt_of_cell? _ _ (hHeld.2.1))).trans (hHeld.2.1); have HS2_ := (hb.cell (World.block_lt_of_cell? _ _ (hHeld.2.2.1))).trans (hHeld.2.2.1); have HS3_ := (hb.cell (World.block_lt_of_cell? _ _ (hHeld.2.2.2))).trans (hHeld.2.2.2); refine ⟨_, rfl, ?_⟩; have n0_ := Aside0.mk (xm (by (with_reducible repeat (first | apply vo | apply vn | apply vm)); exact HO_0.out) hb); have n1_ := Aside0.mk (xm (by (with_reducible repeat (first | apply vo | apply vn | apply vm)); exact HO_1.out) hb); have n2_ := Aside0.mk (xg (by (with_reducible repeat (first | apply uq | apply uo | apply us)); exact HO_5.out) hb); have n3_ := Aside0.mk (vl (by repeat (first | (with_reducible first | exact HB.out | apply uf | apply ud | apply ue) | exact HB.out)) hb); clear HO_0 HO_1 HO_5 HB; have HO_0 := n0_; have HO_1 := n1_; have HO_5 := n2_; have HB := n3_; clear n0_ n1_ n2_ n3_; (try clear hb); (try clear hb2); (try clear hk); (try clear hi); refine hK.out _ _ ⟨HS0_, HS1_, HS2_, HS3_⟩ (fun hHeld => ?_); clear hK K; refine xt (a' := ?_) ?_ ?_; rotate_left
                 · show Act.put _ (some 26) _ = _
                   simp only [Act.put, ua, ub, uc, uh, ui]; rfl
                 refine done_ (by kernel_rfl) ?_; have p116 : 0 ≤ (0 : Int) := (by omega); have q116 : 0 < (x0_1.length : Int) := ug (by first | (with_reducible assumption) | assumption); obtain ⟨ad116, e116, hx116_0, hx116_1⟩ := at_T33 (vu HO_0.out).2.2 0 p116 q116; obtain rfl : ad105 = ad116 := (by injection e116); have qi116 : (0 < x0_1.length) = True := eq_true (by omega); (try rw [show ((0 : Int)).toNat = 0 from rfl] at hx116_0); (try rw [show 0 * 2 = 0 from rfl] at hx116_0); (try rw [Addr.add_zero'] at hx116_0); (try rw [show ((0 : Int)).toNat = 0 from rfl] at hx116_1); (try rw [show 0 * 2 = 0 from rfl] at hx116_1); (try rw [Addr.add_zero'] at hx116_1); replace p116 := eq_true p116; replace q116 := eq_true q116
                 try go_wp2_with (first | ((with_reducible refine gate_builtin (b := .append) (xs := #[.tmp 35, .tmp 39]) rfl ?_); (try (refine gate_guard (by rfl) ?_; dsimp only)); at_builtin; refine Kd.R_append k33 (w0 := w) w.heap.size rfl (.tmp 35) (.tmp 39) 44 33 (.agg #[(.int .u64 0), (.int .i64 0)]) 16 rfl Try.underlying44 info33 rfl (by decide) (by omega) u5 x5_1 (⟨(rd_T33 x0_1 0).f0, (rd_T33 x0_1 0).f1⟩ : S33) [.int .u64 ((rd_T33 x0_1 0).f0), .int .i64 ((rd_T33 x0_1 0).f1)] (fun k_ => (w.heap.size ≤ k_)) (fun _ => False) rfl rfl ?aP (fun _ hk => hk.elim) ?aF ?aO ?aB ?aS ?aL ?_; (case aP => exact k33_mkM _ _ _ (⟨(rd_T33 x0_1 0).f0, (rd_T33 x0_1 0).f1⟩ : S33)); (case aB => exact (by repeat (first | (with_reducible first | exact HB.out | apply uf | apply ud | apply ue) | exact HB.out))); (case aF => exact (fun k_ hk => (Nat.le_trans (vk (by repeat (first | (with_reducible first | exact HB.out | apply uf | apply ud | apply ue) | exact HB.out))) hk))); (case aO => exact (by (with_reducible repeat (first | apply uq | apply uo | apply us)); exact HO_5.out)); (case aS => exact (vk (by repeat (first | (with_reducible first | exact HB.out | apply uf | apply ud | apply ue) | exact HB.out)))); (case aL => have := LMc23.out; omega); intro v118 w29 ho hb hg hat; rw [← Ny117.out] at ho; have n0_ := Aside0.mk (Kd.V_afterv (ok := (fun k_ => ((P0_ k_ ∨ P1_ k_) ∨ w.heap.size ≤ k_))) (by (with_reducible repeat (first | apply vo | apply vn | apply vm)); exact HO_0.out) hg hat); have n1_ := Aside0.mk (Kd.V_afterv (ok := (fun k_ => ((P0_ k_ ∨ P1_ k_) ∨ w.heap.size ≤ k_))) (by (with_reducible repeat (first | apply vo | apply vn | apply vm)); exact HO_1.out) hg hat); have n2_ := Aside0.mk (hb); have n3_ := Aside0.mk (ho); clear HO_0; clear HO_1; clear HB; clear HO_5; have HO_0 := n0_; have HO_1 := n1_; have HB := n2_; have HO119 := n3_; clear n0_ n1_ n2_ n3_; clear ho hb hg hat; have q30 : (1 : Int) ≤ ((x0_1.length : Int) : Int) := ug (by first | (with_reducible assumption) | assumption); obtain ⟨i030, hi030, _, hsz30, _⟩ := info_parts info33; have hroom30 : x0_1.length ≤ co27 := (vu HO_0.out).2.1; have hC30 : Kd.F k33 _ _ (some ad105) x0_1.length x0_1 := (Kd.V_at (base := w.heap.size) HO_0.out).2.2; have hcut30 := cut_from (P := Try.prog) 44 33 .i64 Try.underlying44 hi030 2 hsz30 (some ad105) x0_1.length co27 1 (by omega) q30; have hr30 := Kd.F_cut (m := (1 : Int).toNat) (c := co27) hC30 (by omega) hroom30; obtain ⟨A30, hA30⟩ : ∃ A1, A1 = (if co27 = (1 : Int).toNat then (some ad105) else ((some ad105) : Option Addr).map (·.add ((1 : Int).toNat * 2))) := ⟨_, rfl⟩; obtain ⟨c30, hc30⟩ : ∃ c1, c1 = co27 - (1 : Int).toNat := ⟨_, rfl⟩; have hy30 : y120.length = x0_1.length - (1 : Int).toNat := (by rw [Ny120.out, uk] <;> omega); rw [show (x0_1).drop (1 : Int).toNat = y120 from Ny120.out.symm] at hr30; replace hr30 : Kd.F k33 _ _ A30 y120.length y120 := (by rw [hA30]; exact hr30); rw [← hy30, ← hA30, ← hc30] at hcut30; have HO124 := Aside0.mk (show Kd.V k33 33 _ w.heap.size _ (.slice A30 y120.length c30) y120 from Kd.V_mk (by rw [hy30, hc30]; exact Nat.sub_le_sub_right hroom30 _) hr30); have HC124 := Aside0.mk (show y120.length ≤ c30 from by rw [hy30, hc30]; exact Nat.sub_le_sub_right hroom30 _); clear hr30 hC30 hroom30 hi030 hsz30 hc30; have KY30 := Aside0.mk hy30; have KA30 := Aside0.mk hA30; clear hy30 hA30; replace q30 := eq_true q30))
                 go_roundg kj4
                 case measure => have := HK1.out; have := HJ4.out; omega
                 case rel => exact ⟨(y120), (x1_1), (y117), H', ⟨by have := HK1.out; have := HJ4.out; omega⟩, ⟨by (with_reducible repeat (first | apply vo | apply vn | apply vm)); exact HO124.out⟩, ⟨by (with_reducible repeat (first | apply vo | apply vn | apply vm)); exact HO_1.out⟩, ⟨by (with_reducible repeat (first | apply uq | apply uo | apply us)); exact HO119.out⟩, ⟨by repeat (first | (with_reducible first | exact HB.out | apply uf | apply ud | apply ue) | exact HB.out)⟩⟩
               · rw [if_neg c24] at H; exact absurd H (by simp)
             · rw [if_neg c23] at H; exact absurd H (by simp)
         · rw [if_neg c12] at H; exact absurd H (by simp)
       · rw [if_neg c11] at H; exact absurd H (by simp)
     · replace c10 := Bool.eq_false_iff.mpr c10; subst c10; (have H1 : (if x5_1.length + x0_1.length < 8796093022208 then ((some (x5_1 ++ x0_1 : List (S33))).bind fun y125 => (if y125.length + x1_1.length < 8796093022208 then (some (y125 ++ x1_1)) else (none))) else (none)) = some r := by rw [if_neg (show ¬ (false = true) by decide)] at H; exact H); clear H; have H := H1; clear H1
       by_cases c31 : x5_1.length + x0_1.length < 8796093022208
       · rw [if_pos c31] at H; have LMc31 := Aside0.mk c31; clear c31; obtain ⟨y125, hy125⟩ : ∃ y_ : List (S33), y_ = (x5_1 ++ x0_1) := ⟨_, rfl⟩; (replace H : (if y125.length + x1_1.length < 8796093022208 then (some (y125 ++ x1_1)) else (none)) = some r := by first | (rw [hy125]; with_reducible exact H) | (have H2_ := (uz _ _).symm.trans H; rw [hy125]; with_reducible exact H2_) | (have H2_ := (uz _ _).symm.trans H; with_reducible exact H2_) | with_reducible exact H | (rw [hy125]; exact H) | exact H); have Ny125 := Aside0.mk hy125; clear hy125
         by_cases c32 : y125.length + x1_1.length < 8796093022208
         · rw [if_pos c32] at H; have LMc32 := Aside0.mk c32; clear c32; obtain ⟨y128, hy128⟩ : ∃ y_ : List (S33), y_ = (y125 ++ x1_1) := ⟨_, rfl⟩; (replace H : (some y128) = some r := by first | (rw [hy128]; with_reducible exact H) | (have H2_ := (uz _ _).symm.trans H; rw [hy128]; with_reducible exact H2_) | (have H2_ := (uz _ _).symm.trans H; with_reducible exact H2_) | with_reducible exact H | (rw [hy128]; exact H) | exact H); have Ny128 := Aside0.mk hy128; clear hy128; obtain rfl := Option.some.inj H; obtain ⟨Ao34, co34, eo34⟩ := Kd.V_slice HO_0.out; subst eo34
           go_wp2_with (first | ((with_reducible refine gate_builtin (b := .append) (xs := #[.tmp 43, .tmp 44]) rfl ?_); (try (refine gate_guard (by rfl) ?_; dsimp only)); at_builtin; refine Kd.R_append_rows k33 (w0 := w) w.heap.size rfl (.tmp 43) (.tmp 44) 44 33 (.agg #[(.int .u64 0), (.int .i64 0)]) 16 rfl Try.underlying44 info33 rfl (by decide) (by omega) u5 x5_1 x0_1 _ _ _ (fun k_ => (w.heap.size ≤ k_)) (fun _ => False) rfl rfl ?aO ?aR (fun _ _ h => h) (fun _ h => h.elim) ?aF ?aB ?aS ?aL ?_; (case aR => repeat (first | exact (vu HO_0.out).2.2 | (with_reducible refine vq ?_ _) | (with_reducible refine vp ?_ _) | (with_reducible refine vt ?_))); (case aB => exact (by repeat (first | (with_reducible first | exact HB.out | apply uf | apply ud | apply ue) | exact HB.out))); (case aF => exact (fun k_ hk => (Nat.le_trans (vk (by repeat (first | (with_reducible first | exact HB.out | apply uf | apply ud | apply ue) | exact HB.out))) hk))); (case aO => exact (by (with_reducible repeat (first | apply uq | apply uo | apply us)); exact HO_5.out)); (case aS => exact (vk (by repeat (first | (with_reducible first | exact HB.out | apply uf | apply ud | apply ue) | exact HB.out)))); (case aL => have := LMc31.out; omega); intro v126 w33 ho hb hg hat; rw [← Ny125.out] at ho; have n0_ := Aside0.mk (Kd.V_afterv (ok := (fun k_ => ((P0_ k_ ∨ P1_ k_) ∨ w.heap.size ≤ k_))) (by (with_reducible repeat (first | apply vo | apply vn | apply vm)); exact HO_0.out) hg hat); have n1_ := Aside0.mk (Kd.V_afterv (ok := (fun k_ => ((P0_ k_ ∨ P1_ k_) ∨ w.heap.size ≤ k_))) (by (with_reducible repeat (first | apply vo | apply vn | apply vm)); exact HO_1.out) hg hat); have n2_ := Aside0.mk (hb); have n3_ := Aside0.mk (ho); clear HO_0; clear HO_1; clear HB; clear HO_5; have HO_0 := n0_; have HO_1 := n1_; have HB := n2_; have HO127 := n3_; clear n0_ n1_ n2_ n3_; clear ho hb hg hat; obtain ⟨Ao36, co36, eo36⟩ := Kd.V_slice HO_1.out; subst eo36) | ((with_reducible refine gate_builtin (b := .append) (xs := #[.tmp 45, .tmp 46]) rfl ?_); (try (refine gate_guard (by rfl) ?_; dsimp only)); at_builtin; refine Kd.R_append_rows k33 (w0 := w) w.heap.size rfl (.tmp 45) (.tmp 46) 44 33 (.agg #[(.int .u64 0), (.int .i64 0)]) 16 rfl Try.underlying44 info33 rfl (by decide) (by omega) v126 y125 x1_1 _ _ _ (fun k_ => (w.heap.size ≤ k_)) (fun _ => False) rfl rfl ?aO ?aR (fun _ _ h => h) (fun _ h => h.elim) ?aF ?aB ?aS ?aL ?_; (case aR => repeat (first | exact (vu HO_1.out).2.2 | (with_reducible refine vq ?_ _) | (with_reducible refine vp ?_ _) | (with_reducible refine vt ?_))); (case aB => exact (by repeat (first | (with_reducible first | exact HB.out | apply uf | apply ud | apply ue) | exact HB.out))); (case aF => exact (fun k_ hk => (Nat.le_trans (vk (by repeat (first | (with_reducible first | exact HB.out | apply uf | apply ud | apply ue) | exact HB.out))) hk))); (case aO => exact (by (with_reducible repeat (first | apply uq | apply uo | apply us)); exact HO127.out)); (case aS => exact (vk (by repeat (first | (with_reducible first | exact HB.out | apply uf | apply ud | apply ue) | exact HB.out)))); (case aL => have := LMc32.out; omega); intro v129 w35 ho hb hg hat; rw [← Ny128.out] at ho; have n0_ := Aside0.mk (Kd.V_afterv (ok := (fun k_ => ((P0_ k_ ∨ P1_ k_) ∨ w.heap.size ≤ k_))) (by (with_reducible repeat (first | apply vo | apply vn | apply vm)); exact HO_0.out) hg hat); have n1_ := Aside0.mk (Kd.V_afterv (ok := (fun k_ => ((P0_ k_ ∨ P1_ k_) ∨ w.heap.size ≤ k_))) (by (with_reducible repeat (first | apply vo | apply vn | apply vm)); exact HO_1.out) hg hat); have n2_ := Aside0.mk (hb); have n3_ := Aside0.mk (ho); clear HO_0; clear HO_1; clear HB; clear HO127; have HO_0 := n0_; have HO_1 := n1_; have HB := n2_; have HO130 := n3_; clear n0_ n1_ n2_ n3_; clear ho hb hg hat))
           go_ret
           exact ⟨_, by first | rfl | (simp [errW_none, errW_some] <;> rfl) | (simp [*, errW_none, errW_some] <;> rfl), by (with_reducible repeat (first | apply uq | apply uo | apply us)); exact HO130.out, by repeat (first | (with_reducible first | exact HB.out | apply uf | apply ud | apply ue) | exact HB.out)⟩
         · rw [if_neg c32] at H; exact absurd H (by simp)
       · rw [if_neg c31] at H; exact absurd H (by simp)
end Go.Proofs.Ytfhapffjnafkbaa.V
end
section
set_option linter.unusedVariables false
set_option linter.unusedSimpArgs false
namespace Go.Proofs.Ytfhapffjnafkbaa.V
open Go.RowKit Go.Proofs.YtfhapffjnafkbaaW.PrintWords Go.Proofs.YtfhapffjnafkbaaW.PrintLast Go.Proofs.YtfhapffjnafkbaaW.PrintMore
def encE (e : E) : List Value := [.int .u64 e.f0, .int .i64 e.f1]
def encs (l : List E) : List Value := l.flatMap encE
theorem encs_cons (a : E) (l : List E) : encs (a :: l) = encE a ++ encs l := rfl
theorem encs_append (l m : List E) : encs (l ++ m) = encs l ++ encs m := by simp [encs]
theorem encs_length (l : List E) : (encs l).length = l.length * 2 := by
 induction l with
 | nil => rfl
 | cons a l ih => rw [encs_cons, List.length_append, ih, List.length_cons]; simp [encE]; omega
theorem encs_one (l : List E) : ∀ v ∈ encs l, v.oneCell' = true := by
 intro v hv
 obtain ⟨e, _, he⟩ := List.mem_flatMap.1 hv
 simp only [encE, List.mem_cons, List.not_mem_nil, or_false] at he
 rcases he with rfl | rfl <;> rfl
theorem encs_take (l : List E) (n : Nat) : (encs l).take (n * 2) = encs (l.take n) := by
 induction l generalizing n with
 | nil => simp [encs]
 | cons a l ih =>
  cases n with
  | zero => simp [encs]
  | succ n =>
   rw [encs_cons, List.take_succ_cons, encs_cons, Nat.succ_mul, List.take_append]
   have : (encE a).length = 2 := rfl
   rw [this, show n * 2 + 2 - 2 = n * 2 by omega, ih, List.take_of_length_le (by rw [this]; omega)]
theorem encs_drop (l : List E) (n : Nat) : (encs l).drop (n * 2) = encs (l.drop n) := by
 induction l generalizing n with
 | nil => simp [encs]
 | cons a l ih =>
  cases n with
  | zero => simp [encs]
  | succ n =>
   rw [encs_cons, List.drop_succ_cons, Nat.succ_mul, List.drop_append]
   have : (encE a).length = 2 := rfl
   rw [this, show n * 2 + 2 - 2 = n * 2 by omega, ih, List.drop_of_length_le (by rw [this]; omega), List.nil_append]
theorem reps_encs {w : World} {base : Nat} {ok : Nat → Prop} {l : List E} {cs : List Value} (h : Reps (k33.M w base ok) k33.sz l cs) : cs = encs l := by
 induction l generalizing cs with
 | nil => exact List.length_eq_zero_iff.1 (by have := h.1; simpa using this)
 | cons a l ih =>
  have h0 := k33_openM (h.2 0 a rfl)
  have hsz : k33.sz = 2 := rfl
  rw [hsz] at h h0
  simp only [Nat.zero_mul, List.drop_zero] at h0
  have ht : Reps (k33.M w base ok) k33.sz l (cs.drop 2) := by
   rw [hsz]
   refine ⟨by rw [List.length_drop, h.1, List.length_cons]; omega, fun j p hj => ?_⟩
   have := h.2 (j + 1) p hj
   rw [List.drop_drop]
   rwa [Nat.succ_mul, Nat.add_comm (j * 2) 2] at this
  rw [encs_cons, ← ih ht, show encE a = cs.take 2 from h0.symm, List.take_append_drop]
theorem encs_reps (w : World) (base : Nat) (ok : Nat → Prop) (l : List E) : Reps (k33.M w base ok) k33.sz l (encs l) := by
 have hsz : k33.sz = 2 := rfl
 rw [hsz]
 refine ⟨encs_length l, fun j p hj => ?_⟩
 rw [encs_drop]
 obtain ⟨hjl, he⟩ := List.getElem?_eq_some_iff.1 hj
 have : l.drop j = p :: l.drop (j + 1) := by rw [← he]; exact List.drop_eq_getElem_cons hjl
 rw [this, encs_cons]
 exact k33_mkM w base ok p
theorem row_open {e : Nat} {w : World} {base : Nat} {ok : Nat → Prop} {A : Option Addr} {n c : Nat} {l : List E} (h : k33.R e w base ok (.slice A n c) l) :
 n = l.length ∧ n ≤ c ∧ ((A = none ∧ l = [] ∧ c = 0) ∨ ∃ g cur, A = some ⟨g, 0, none⟩ ∧ base ≤ g ∧ ok g ∧ w.heap[g]? = some (.cells cur e (0, 0)) ∧ c ≤ 9223372036854775807 ∧ cur.size = c * 2 ∧ cur.toList.take (l.length * 2) = encs l) := by
 obtain ⟨hok, inner, ⟨h1, h2⟩, hr⟩ := h
 obtain rfl := reps_encs hr
 rcases h2 with ⟨he, h0⟩ | ⟨g, cap, cur, he, hb, hh, hnc, hcm, hcs, ht⟩
 · injection he with ha hn hc
   subst ha; subst hn; subst hc
   exact ⟨by omega, Nat.le_refl _, .inl ⟨rfl, List.length_eq_zero_iff.1 (by omega), rfl⟩⟩
 · injection he with ha hn hc
   subst ha; subst hn; subst hc
   exact ⟨rfl, hnc, .inr ⟨g, cur, rfl, hb, hok g rfl, hh, by unfold maxLen at hcm; omega, hcs, ht⟩⟩
theorem row_close {e : Nat} {w : World} {base : Nat} {ok : Nat → Prop} {g c : Nat} {cur : Array Value} {l : List E} (hb : base ≤ g) (hok : ok g) (hh : w.heap[g]? = some (.cells cur e (0, 0))) (hc : c ≤ 9223372036854775807) (hl : l.length ≤ c) (hs : cur.size = c * 2)
 (ht : cur.toList.take (l.length * 2) = encs l) : k33.R e w base ok (.slice (some ⟨g, 0, none⟩) l.length c) l :=
 ⟨fun k hk => (by simpa [Value.ownBlock] using hk : g = k) ▸ hok, encs l, ⟨encs_length l, .inr ⟨g, c, cur, rfl, hb, hh, hl, by unfold maxLen; omega, hs, ht⟩⟩, encs_reps _ _ _ _⟩
theorem run_copy_row2 {P : Program} (w : World) (dT sT ty elem : TypeId) (g o dLen dCap : Nat) (a : Addr) (sLen sCap : Nat) (cur : Array Value) (t : TypeId) (cs : List Value)
 (hu : P.underlying dT = some (.slice elem)) (hs : (P.info? elem).map (·.size) = some 2)
 (hg : w.heap[g]? = some (.cells cur t (0, 0))) (hn : cs.length = Nat.min sLen dLen * 2)
 (hsrc : ∀ j v, cs[j]? = some v → w.cell? (a.add j) = some v) (hfit : o + cs.length ≤ cur.size) (h1 : ∀ v ∈ cs, v.oneCell' = true) :
 (Builtin.copy_ #[dT, sT] ty #[.slice (some ⟨g, o, none⟩) dLen dCap, .slice (some a) sLen sCap]).run P w =
  .ok (goInt (Nat.min sLen dLen : Nat)) (w.setRow g (cur.toList.take o ++ cs ++ cur.toList.drop (o + cs.length)).toArray) := by
 have hl := run_loadCells_list (P := P) w a cs hsrc
 have hst := run_storeCells_at P g o t cs 0 cur w hg (by simpa using hfit) h1
 cases hq : P.info? elem with
 | none => simp [hq] at hs
 | some i =>
  have hi : i.size = 2 := by simpa [hq] using hs
  simp [Builtin.copy_, run_underlying hu, Builtin.lenOf, Builtin.firstCells, sizeOf, typeInfo, hq, hi, ← hn, hl, hst]
theorem cell_row {w : World} {g : Nat} {cur : Array Value} {t : TypeId} (hg : w.heap[g]? = some (.cells cur t (0, 0))) (j : Nat) : w.cell? ⟨g, j, none⟩ = cur[j]? := by
 simp [World.cell?, hg]
theorem frozen_row {w : World} {g : Nat} {cur : Array Value} {t : TypeId} (hg : w.heap[g]? = some (.cells cur t (0, 0))) (j : Nat) : w.frozen? ⟨g, j, none⟩ = false := by
 simp [World.frozen?, hg]
theorem shape_row {w : World} {g : Nat} {cur : Array Value} {t : TypeId} (hg : w.heap[g]? = some (.cells cur t (0, 0))) : w.shape? g = some (t, cur.size) := by
 simp [World.shape?, hg]
end Go.Proofs.Ytfhapffjnafkbaa.V
end
