-- a text of this work, without what this claim doesn't use (wip/shake.py)
import Derived.Test.YthghkglkifeagaaGreatKVPvergerref5
import Derived.Test.YthghkglkifeagaaGreatKVMake
import Derived.Test.YthghkglkifeagaaGreatKVPentry1
import Derived.Test.YthghkglkifeagaaGreatKVPslices
import Derived.Test.YthghkglkifeagaaGreatKVP5T
import Derived.Test.YthghkglkifeagaaGreatKVPslicesZb
import Derived.Test.YthghkglkifeagaaGreatKVPblock
import Derived.Test.YthghkglkifeagaaGreatKVPblockb
import Derived.Test.YthghkglkifeagaaGreatKVXSort
import Derived.Laws.Bits64b
section
namespace Go.Proofs.YthghkglkifeagaaGreat.V
open Go.RowKit Go.Proofs.YthghkglkifeagaaGreatW.PrintWords Go.Proofs.YthghkglkifeagaaGreatW.PrintLast Go.Proofs.YthghkglkifeagaaGreatW.PrintMore
attribute [local go_sem] max2_int min2_int max_two min_two max_three min_three max_four min_four
set_option linter.unusedVariables false
set_option linter.unusedSimpArgs false
mutual
def entry_Merge.l0 : Nat → List (S33) → List (S33) → List (S33) → Option ((List (S33)))
 | 0, _, _, _ => none
 | k + 1, x0, x1, x5 => if (x0.length : Int) > 0 then (entry_Merge.j1 k x0 x1 x5 (decide ((x1.length : Int) > 0))) else (entry_Merge.j1 k x0 x1 x5 false)
def entry_Merge.j1 : Nat → List (S33) → List (S33) → List (S33) → Bool → Option ((List (S33)))
 | 0, _, _, _, _ => none
 | k + 1, x0, x1, x5, x19 => if x19 = true then (if 0 < (x1.length : Int) then (if 0 < (x0.length : Int) then ((entry_Less.f k ((rd_T33 x1 0).f0) ((rd_T33 x1 0).f1) ((rd_T33 x0 0).f0) ((rd_T33 x0 0).f1)).bind fun t106 => (if t106 = true then (if x5.length < 8796093022208 then (if 1 ≤ (x1.length : Int) then (entry_Merge.l0 k x0 (x1.drop 1) (x5 ++ [(⟨(rd_T33 x1 0).f0, (rd_T33 x1 0).f1⟩ : S33)])) else (none)) else (none)) else (if x5.length < 8796093022208 then (if 1 ≤ (x0.length : Int) then (entry_Merge.l0 k (x0.drop 1) x1 (x5 ++ [(⟨(rd_T33 x0 0).f0, (rd_T33 x0 0).f1⟩ : S33)])) else (none)) else (none)))) else (none)) else (none)) else (if x5.length + x0.length < 8796093022208 then ((some (x5 ++ x0 : List (S33))).bind fun y125 => (if y125.length + x1.length < 8796093022208 then (some (y125 ++ x1)) else (none))) else (none))
end
def entry_Merge.f (k : Nat) (l0 : List (S33)) (l1 : List (S33)) : Option ((List (S33))) := if l0.length + l1.length < 1000000000 then (entry_Merge.l0 k l0 l1 (([] : List (S33)))) else none
set_option maxHeartbeats 8000000 in
set_option maxRecDepth 100000 in
theorem entry_Merge.calls (k : Nat) (P0_ : Nat → Prop) (A0 : Option Addr) (c0 : Nat) (l0 : List (S33)) (P1_ : Nat → Prop) (A1 : Option Addr) (c1 : Nat) (l1 : List (S33)) (r : List (S33)) (w : World) (hs0 : Kd.V k33 33 w w.heap.size (fun k_ => P0_ k_) (.slice A0 l0.length c0) l0) (hs1 : Kd.V k33 33 w w.heap.size (fun k_ => P1_ k_) (.slice A1 l1.length c1) l1) (h : entry_Merge.f k l0 l1 = some r) :
 Calls Tryz.prog 43 #[.slice A0 l0.length c0, .slice A1 l1.length c1] w fun e w' => ∃ v0_ : Value, e = .returned (v0_) ∧ Kd.R k33 33 w' w.heap.size (fun k_ => (w.heap.size ≤ k_)) v0_ r ∧ Below w.heap.size w w' := by
 have hu33 := Tryz.underlying33; have HO0 := Aside0.mk (show Kd.V k33 33 w w.heap.size (fun k_ => ((P0_ k_ ∨ P1_ k_) ∨ w.heap.size ≤ k_)) (.slice A0 l0.length c0) l0 from Kd.V_mono hs0 (fun k_ hk => .inl (.inl hk))); have HO1 := Aside0.mk (show Kd.V k33 33 w w.heap.size (fun k_ => ((P0_ k_ ∨ P1_ k_) ∨ w.heap.size ≤ k_)) (.slice A1 l1.length c1) l1 from Kd.V_mono hs1 (fun k_ hk => .inl (.inr hk))); have HB := Aside0.mk (Below.refl w.heap.size w); unfold entry_Merge.f at h
 have hlen_ : Aside0 (l0.length + l1.length < 1000000000) := by
  by_cases hc_ : l0.length + l1.length < 1000000000
  · exact ⟨hc_⟩
  · rw [if_neg hc_] at h; cases h
 rw [if_pos hlen_.out] at h; have H : (entry_Merge.l0 k l0 l1 (([] : List (S33)))) = some r := h; clear h; obtain ⟨y101, hy101⟩ : ∃ y_ : List (S33), y_ = (([] : List (S33))) := ⟨_, rfl⟩; (replace H : (entry_Merge.l0 k l0 l1 y101) = some r := by first | (rw [hy101]; with_reducible exact H) | (have H2_ := (uy _ _).symm.trans H; rw [hy101]; with_reducible exact H2_) | (have H2_ := (uy _ _).symm.trans H; with_reducible exact H2_) | with_reducible exact H | (rw [hy101]; exact H) | exact H); have Ny101 := Aside0.mk hy101; clear hy101; have H' := Aside0.mk H; clear H; go_enter Tryz.func43, Tryz.ntmps43
 go_wp2_with (first | ((with_reducible refine gate_dst (N := 11) rfl ?_); (try (refine gate_guard (by rfl) ?_; dsimp only)); refine Kd.R_make0 k33 _ 33 rfl (N := 11) rfl 35 _ _ rfl (wrap64 ((l0.length : Int) + (l1.length : Int))) rfl rfl Tryz.underlying35 _ 16 info33 (by decide) (ok := fun _ => True) trivial (mk0_ok _ _ hlen_.out).1 (mk0_ok _ _ hlen_.out).2 (Below.refl _ _) (vu _) ?_; intro v102 w3 ho4 hb hg_ hnew_; clear hg_ hnew_; (first | rw [← Ny101.out] at ho4 | (simp only [Int.reduceToNat] at ho4; rw [← Ny101.out] at ho4)); have n0_ := Aside0.mk (Kd.V_elder' (by (with_reducible repeat (first | apply vw | apply vv | apply vx)); exact HO0.out) (Kd.R_base ho4) hb); have n1_ := Aside0.mk (Kd.V_elder' (by (with_reducible repeat (first | apply vw | apply vv | apply vx)); exact HO1.out) (Kd.R_base ho4) hb); have n2_ := Aside0.mk (Kd.R_lower (Kd.R_newM (M := fun k_ => (w.heap.size ≤ k_)) ho4 (ux (by repeat (first | (with_reducible first | exact HB.out | apply uf | apply ud | apply ue) | exact HB.out))) (fun k_ h_ => h_)) (ux (by repeat (first | (with_reducible first | exact HB.out | apply uf | apply ud | apply ue) | exact HB.out)))); have n3_ := Aside0.mk (vp (by repeat (first | (with_reducible first | exact HB.out | apply uf | apply ud | apply ue) | exact HB.out)) hb); clear HO0; clear HO1; clear HB; have HO0 := n0_; have HO1 := n1_; have HO103 := n2_; have HB := n3_; clear n0_ n1_ n2_ n3_; clear hb ho4))
 go_loopg [0, 1, 5] k (fun kq v0 v1 v5 w' => ∃ (x0_1 : List (S33)) (x1_1 : List (S33)) (x5_1 : List (S33)), Aside0 (entry_Merge.l0 kq x0_1 x1_1 x5_1 = some r) ∧ Aside0 (kq ≤ k) ∧ Aside0 (Kd.V k33 33 w' w.heap.size (fun k_ => ((P0_ k_ ∨ P1_ k_) ∨ w.heap.size ≤ k_) ∧ some k_ ≠ (v5 : Value).ownBlock) v0 x0_1) ∧ Aside0 (Kd.V k33 33 w' w.heap.size (fun k_ => ((P0_ k_ ∨ P1_ k_) ∨ w.heap.size ≤ k_) ∧ some k_ ≠ (v5 : Value).ownBlock) v1 x1_1) ∧ Aside0 (Kd.R k33 33 w' w.heap.size (fun k_ => (w.heap.size ≤ k_)) v5 x5_1) ∧ Aside0 (Below w.heap.size w w'))
 case atStart => exact ⟨(l0), (l1), (y101), H', ⟨vu _⟩, ⟨by (with_reducible repeat (first | apply vw | apply vv | apply vx)); exact HO0.out⟩, ⟨by (with_reducible repeat (first | apply vw | apply vv | apply vx)); exact HO1.out⟩, ⟨by (with_reducible repeat (first | apply xc | apply xb | apply xj)); exact Kd.R_mono HO103.out (fun _ hk => hk.1)⟩, ⟨by repeat (first | (with_reducible first | exact HB.out | apply uf | apply ud | apply ue) | exact HB.out)⟩⟩
 case round =>
  clear H'
  try clear c1
  try clear p2
  try clear c4
  obtain ⟨x0_1, x1_1, x5_1, HA, HK1, HO_0, HO_1, HO_5, HB⟩ := hrel
  cases gk with
  | zero => exact absurd HA.out (by simp [entry_Merge.l0])
  | succ k1 =>
   have H := HA.out; clear HA; simp only [entry_Merge.l0] at H; have HC5 := Aside0.mk H; clear H
   go_upto_region 2 with (fail)
   go_cut [19] (fun v19 wc => ∃ (kq : Nat) (x19_4 : Bool), v19 = .bool x19_4 ∧ Aside0 (entry_Merge.j1 kq x0_1 x1_1 x5_1 x19_4 = some r) ∧ Aside0 (kq ≤ k1) ∧ Aside0 (Kd.V k33 33 wc w.heap.size (fun k_ => ((P0_ k_ ∨ P1_ k_) ∨ w.heap.size ≤ k_) ∧ some k_ ≠ (u5 : Value).ownBlock) u0 x0_1) ∧ Aside0 (Kd.V k33 33 wc w.heap.size (fun k_ => ((P0_ k_ ∨ P1_ k_) ∨ w.heap.size ≤ k_) ∧ some k_ ≠ (u5 : Value).ownBlock) u1 x1_1) ∧ Aside0 (Kd.R k33 33 wc w.heap.size (fun k_ => (w.heap.size ≤ k_)) u5 x5_1) ∧ Aside0 (Below w.heap.size w wc))
   case first =>
    have H := HC5.out; clear HC5
    by_cases c6 : (x0_1.length : Int) > 0
    · rw [if_pos c6] at H; have c6b0 : decide (0 < (x0_1.length : Int)) = true := decide_eq_true c6; have c6b1 : decide (0 < x0_1.length) = true := decide_eq_true (by omega); clear c6; (first | rw [c6b0] | (simp only [uh, ui]; rw [c6b0]) | skip); have H' := Aside0.mk H; clear H; obtain ⟨Ao7, co7, eo7⟩ := Kd.V_slice HO_0.out; subst eo7; obtain ⟨Ao8, co8, eo8⟩ := Kd.V_slice HO_1.out; subst eo8
      go_wp2
      go_meet
      case rel => exact ⟨_, (decide ((x1_1.length : Int) > 0)), (by first | rfl | (simp; done) | (simp [*]; done)), H', ⟨by have := HK1.out; first | omega | exact vu _⟩, ⟨by (with_reducible repeat (first | apply vw | apply vv | apply vx)); exact HO_0.out⟩, ⟨by (with_reducible repeat (first | apply vw | apply vv | apply vx)); exact HO_1.out⟩, ⟨by (with_reducible repeat (first | apply xc | apply xb | apply xj)); exact HO_5.out⟩, ⟨by repeat (first | (with_reducible first | exact HB.out | apply uf | apply ud | apply ue) | exact HB.out)⟩⟩
    · rw [if_neg c6] at H; have c6b0 : decide (0 < (x0_1.length : Int)) = false := decide_eq_false c6; have c6b1 : decide (0 < x0_1.length) = false := decide_eq_false (by omega); clear c6; (first | rw [c6b0] | (simp only [uh, ui]; rw [c6b0]) | skip); have H' := Aside0.mk H; clear H; obtain ⟨Ao9, co9, eo9⟩ := Kd.V_slice HO_0.out; subst eo9
      go_wp2
      go_meet
      case rel => exact ⟨_, (false), (by first | rfl | (simp; done) | (simp [*]; done)), H', ⟨by have := HK1.out; first | omega | exact vu _⟩, ⟨by (with_reducible repeat (first | apply vw | apply vv | apply vx)); exact HO_0.out⟩, ⟨by (with_reducible repeat (first | apply vw | apply vv | apply vx)); exact HO_1.out⟩, ⟨by (with_reducible repeat (first | apply xc | apply xb | apply xj)); exact HO_5.out⟩, ⟨by repeat (first | (with_reducible first | exact HB.out | apply uf | apply ud | apply ue) | exact HB.out)⟩⟩
   case rest =>
    clear HC5
    try clear c1
    try clear p2
    try clear c4
    try clear c6
    try clear c6b0
    try clear c6b1
    try clear p2
    obtain ⟨kq, x19_4, rfl, HA, HJ4, HO_0, HO_1, HO_5, HB⟩ := hcut
    cases kq with
    | zero => exact absurd HA.out (by simp [entry_Merge.j1])
    | succ kj4 =>
     have H := HA.out; clear HA; simp only [entry_Merge.j1] at H
     by_cases c10 : x19_4 = true
     · subst c10; (have H1 : (if 0 < (x1_1.length : Int) then (if 0 < (x0_1.length : Int) then ((entry_Less.f kj4 ((rd_T33 x1_1 0).f0) ((rd_T33 x1_1 0).f1) ((rd_T33 x0_1 0).f0) ((rd_T33 x0_1 0).f1)).bind fun t106 => (if t106 = true then (if x5_1.length < 8796093022208 then (if 1 ≤ (x1_1.length : Int) then (entry_Merge.l0 kj4 x0_1 (x1_1.drop 1) (x5_1 ++ [(⟨(rd_T33 x1_1 0).f0, (rd_T33 x1_1 0).f1⟩ : S33)])) else (none)) else (none)) else (if x5_1.length < 8796093022208 then (if 1 ≤ (x0_1.length : Int) then (entry_Merge.l0 kj4 (x0_1.drop 1) x1_1 (x5_1 ++ [(⟨(rd_T33 x0_1 0).f0, (rd_T33 x0_1 0).f1⟩ : S33)])) else (none)) else (none)))) else (none)) else (none)) = some r := by rw [if_pos rfl] at H; exact H); clear H; have H := H1; clear H1
       by_cases c11 : 0 < (x1_1.length : Int)
       · rw [if_pos c11] at H; have c11b0 : decide (0 < (x1_1.length : Int)) = true := decide_eq_true c11; have c11b1 : decide (0 < x1_1.length) = true := decide_eq_true (by omega); clear c11
         by_cases c12 : 0 < (x0_1.length : Int)
         · rw [if_pos c12] at H; have c12b0 : decide (0 < (x0_1.length : Int)) = true := decide_eq_true c12; have c12b1 : decide (0 < x0_1.length) = true := decide_eq_true (by omega); clear c12; replace H := Option.bind_eq_some_iff.mp H; obtain ⟨t106, A130, H⟩ := H; replace H : (if t106 = true then (if x5_1.length < 8796093022208 then (if 1 ≤ (x1_1.length : Int) then (entry_Merge.l0 kj4 x0_1 (x1_1.drop 1) (x5_1 ++ [(⟨(rd_T33 x1_1 0).f0, (rd_T33 x1_1 0).f1⟩ : S33)])) else (none)) else (none)) else (if x5_1.length < 8796093022208 then (if 1 ≤ (x0_1.length : Int) then (entry_Merge.l0 kj4 (x0_1.drop 1) x1_1 (x5_1 ++ [(⟨(rd_T33 x0_1 0).f0, (rd_T33 x0_1 0).f1⟩ : S33)])) else (none)) else (none))) = some r := H; have A13 := Aside0.mk A130; clear A130
           by_cases c14 : t106 = true
           · subst c14; (have H1 : (if x5_1.length < 8796093022208 then (if 1 ≤ (x1_1.length : Int) then (entry_Merge.l0 kj4 x0_1 (x1_1.drop 1) (x5_1 ++ [(⟨(rd_T33 x1_1 0).f0, (rd_T33 x1_1 0).f1⟩ : S33)])) else (none)) else (none)) = some r := by rw [if_pos rfl] at H; exact H); clear H; have H := H1; clear H1
             by_cases c15 : x5_1.length < 8796093022208
             · rw [if_pos c15] at H; have LMc15 := Aside0.mk c15; clear c15; obtain ⟨y108, hy108⟩ : ∃ y_ : List (S33), y_ = (x5_1 ++ [(⟨(rd_T33 x1_1 0).f0, (rd_T33 x1_1 0).f1⟩ : S33)]) := ⟨_, rfl⟩; (replace H : (if 1 ≤ (x1_1.length : Int) then (entry_Merge.l0 kj4 x0_1 (x1_1.drop 1) y108) else (none)) = some r := by first | (rw [hy108]; with_reducible exact H) | (have H2_ := (uy _ _).symm.trans H; rw [hy108]; with_reducible exact H2_) | (have H2_ := (uy _ _).symm.trans H; with_reducible exact H2_) | with_reducible exact H | (rw [hy108]; exact H) | exact H); have Ny108 := Aside0.mk hy108; clear hy108
               by_cases c16 : 1 ≤ (x1_1.length : Int)
               · rw [if_pos c16] at H; have c16b0 := eq_true c16; have c16b1 : decide (1 ≤ (x1_1.length : Int)) = true := decide_eq_true c16; clear c16; obtain ⟨y111, hy111⟩ : ∃ y_ : List (S33), y_ = (x1_1.drop 1) := ⟨_, rfl⟩; (replace H : (entry_Merge.l0 kj4 x0_1 y111 y108) = some r := by first | (rw [hy111]; with_reducible exact H) | (have H2_ := (uy _ _).symm.trans H; rw [hy111]; with_reducible exact H2_) | (have H2_ := (uy _ _).symm.trans H; with_reducible exact H2_) | with_reducible exact H | (rw [hy111]; exact H) | exact H); have Ny111 := Aside0.mk hy111; clear hy111; have H' := Aside0.mk H; clear H
                 try go_wp2
                 have n0_ := Aside0.mk (vx HO_0.out); have n1_ := Aside0.mk (vx HO_1.out); have n2_ := Aside0.mk (xj HO_5.out); have n3_ := Aside0.mk (ue HB.out); clear HO_0 HO_1 HO_5 HB; have HO_0 := n0_; have HO_1 := n1_; have HO_5 := n2_; have HB := n3_; clear n0_ n1_ n2_ n3_; obtain ⟨Ao18, co18, eo18⟩ := Kd.V_slice HO_1.out; (first | subst eo18 | (injection eo18 with f1_ f2_ f3_; have f4_ := f1_.symm; have f5_ := f3_.symm; clear f1_ f2_ f3_; subst f4_; subst f5_)); have p104 : 0 ≤ (0 : Int) := (by omega); have q104 : 0 < (x1_1.length : Int) := ug (by first | (with_reducible assumption) | assumption); obtain ⟨ad104, e104, hx104_0, hx104_1⟩ := at_T33 (Kd.V_reads' HO_1.out).2.2 0 p104 q104
                 cases e104
                 have qi104 : (0 < x1_1.length) = True := eq_true (by omega); (try rw [show ((0 : Int)).toNat = 0 from rfl] at hx104_0); (try rw [show 0 * 2 = 0 from rfl] at hx104_0); (try rw [Addr.add_zero'] at hx104_0); (try rw [show ((0 : Int)).toNat = 0 from rfl] at hx104_1); (try rw [show 0 * 2 = 0 from rfl] at hx104_1); (try rw [Addr.add_zero'] at hx104_1); replace p104 := eq_true p104; replace q104 := eq_true q104; obtain ⟨Ao19, co19, eo19⟩ := Kd.V_slice HO_0.out; (first | subst eo19 | (injection eo19 with f1_ f2_ f3_; have f4_ := f1_.symm; have f5_ := f3_.symm; clear f1_ f2_ f3_; subst f4_; subst f5_)); have p105 : 0 ≤ (0 : Int) := (by omega); have q105 : 0 < (x0_1.length : Int) := ug (by first | (with_reducible assumption) | assumption); obtain ⟨ad105, e105, hx105_0, hx105_1⟩ := at_T33 (Kd.V_reads' HO_0.out).2.2 0 p105 q105
                 cases e105
                 have qi105 : (0 < x0_1.length) = True := eq_true (by omega); (try rw [show ((0 : Int)).toNat = 0 from rfl] at hx105_0); (try rw [show 0 * 2 = 0 from rfl] at hx105_0); (try rw [Addr.add_zero'] at hx105_0); (try rw [show ((0 : Int)).toNat = 0 from rfl] at hx105_1); (try rw [show 0 * 2 = 0 from rfl] at hx105_1); (try rw [Addr.add_zero'] at hx105_1); replace p105 := eq_true p105; replace q105 := eq_true q105; refine start_ (n := 7) (S := fun w' => w'.cell? ad104 = some (.int .u64 ((rd_T33 x1_1 0).f0)) ∧ w'.cell? ⟨ad104.block, ad104.off + 1, none⟩ = some (.int .i64 ((rd_T33 x1_1 0).f1)) ∧ w'.cell? ad105 = some (.int .u64 ((rd_T33 x0_1 0).f0)) ∧ w'.cell? ⟨ad105.block, ad105.off + 1, none⟩ = some (.int .i64 ((rd_T33 x0_1 0).f1))) (ds := []) #[xX, xX, xX, xX, xX, xX, xX] (by kernel_rfl) rfl rfl ⟨hx104_0, hx104_1, hx105_0, hx105_1⟩ (fun hHeld => ?_); generalize wc.drew = w17 at HO_0 HO_1 HO_5 HB hx104_0 hx104_1 hx105_0 hx105_1 hHeld ⊢; refine pU (i := 0) (N := some 20) (bA 7 1) (by kernel_rfl) rfl ?_
                 refine pU (i := 1) (N := some 21) (bA 7 3) (by kernel_rfl) rfl ?_
                 refine pU (i := 3) (N := some 23) (bA 7 11) (by kernel_rfl) rfl ?_
                 refine pU (i := 4) (N := some 24) (bA 7 27) (by kernel_rfl) rfl ?_
                 refine tU (i := 2) (N := some 22) (bA 7 31) (by kernel_rfl) rfl hHeld (by (constructor; (rintro w' ⟨s0, s1, s2, s3⟩; go_simp; (with_reducible rfl)); (simp only [Act.put, ua, ub, uc, uh, ui]; rfl))) ?_
                 refine tU (i := 5) (N := some 25) (bA 7 63) (by kernel_rfl) rfl hHeld (by (constructor; (rintro w' ⟨s0, s1, s2, s3⟩; go_simp; (with_reducible rfl)); (simp only [Act.put, ua, ub, uc, uh, ui]; rfl))) ?_
                 refine one_ (i := 6) (N := some 26) #[yY, yY, yY, yY, yY, yY, yY] rfl rfl (by kernel_rfl) (by decide) (fun K hK => ?_); refine goes_ Tryz.func53 (by kernel_rfl) rfl #[.agg #[.int .u64 ((rd_T33 x1_1 0).f0), .int .i64 ((rd_T33 x1_1 0).f1)], .agg #[.int .u64 ((rd_T33 x0_1 0).f0), .int .i64 ((rd_T33 x0_1 0).f1)]] (by rfl) rfl rfl (by (try simp only [ul, ur, us]); first | done | rfl | (simp only [um, uo]; rfl)) ?_; (with_reducible refine (entry_Less.calls kj4 ((rd_T33 x1_1 0).f0) ((rd_T33 x1_1 0).f1) ((rd_T33 x0_1 0).f0) ((rd_T33 x0_1 0).f1) true _ A13.out).mono ?_); rintro e w20 ⟨rfl, hb⟩; have HS0_ := (hb.cell (World.block_lt_of_cell? _ _ (hHeld.1))).trans (hHeld.1); have HS1_ := (hb.cell (World.block_lt_of_cell? _ _ (hHeld.2.1))).trans (hHeld.2.1); have HS2_ := (hb.cell (World.block_lt_of_cell? _ _ (hHeld.2.2.1))).trans (hHeld.2.2.1); have HS3_ := (hb.cell (World.block_lt_of_cell? _ _ (hHeld.2.2.2))).trans (hHeld.2.2.2); refine ⟨_, rfl, ?_⟩; have n0_ := Aside0.mk (Kd.V_below (by (with_reducible repeat (first | apply vw | apply vv | apply vx)); exact HO_0.out) hb); have n1_ := Aside0.mk (Kd.V_below (by (with_reducible repeat (first | apply vw | apply vv | apply vx)); exact HO_1.out) hb); have n2_ := Aside0.mk (Kd.R_below (by (with_reducible repeat (first | apply xc | apply xb | apply xj)); exact HO_5.out) hb); have n3_ := Aside0.mk (vp (by repeat (first | (with_reducible first | exact HB.out | apply uf | apply ud | apply ue) | exact HB.out)) hb); clear HO_0 HO_1 HO_5 HB; have HO_0 := n0_; have HO_1 := n1_; have HO_5 := n2_; have HB := n3_; clear n0_ n1_ n2_ n3_; (try clear hb); (try clear hb2); (try clear hk); (try clear hi); refine hK.out _ _ ⟨HS0_, HS1_, HS2_, HS3_⟩ (fun hHeld => ?_); clear hK K; refine norm_ (a' := ?_) ?_ ?_; rotate_left
                 · show Act.put _ (some 26) _ = _
                   simp only [Act.put, ua, ub, uc, uh, ui]; rfl
                 refine done_ (by kernel_rfl) ?_; have p107 : 0 ≤ (0 : Int) := (by omega); have q107 : 0 < (x1_1.length : Int) := ug (by first | (with_reducible assumption) | assumption); obtain ⟨ad107, e107, hx107_0, hx107_1⟩ := at_T33 (Kd.V_reads' HO_1.out).2.2 0 p107 q107; obtain rfl : ad104 = ad107 := (by injection e107); have qi107 : (0 < x1_1.length) = True := eq_true (by omega); (try rw [show ((0 : Int)).toNat = 0 from rfl] at hx107_0); (try rw [show 0 * 2 = 0 from rfl] at hx107_0); (try rw [Addr.add_zero'] at hx107_0); (try rw [show ((0 : Int)).toNat = 0 from rfl] at hx107_1); (try rw [show 0 * 2 = 0 from rfl] at hx107_1); (try rw [Addr.add_zero'] at hx107_1); replace p107 := eq_true p107; replace q107 := eq_true q107
                 try go_wp2_with (first | ((with_reducible refine gate_builtin (b := .append) (xs := #[.tmp 27, .tmp 31]) rfl ?_); (try (refine gate_guard (by rfl) ?_; dsimp only)); at_builtin; refine Kd.R_append k33 (w0 := w) w.heap.size rfl (.tmp 27) (.tmp 31) 35 33 (.agg #[(.int .u64 0), (.int .i64 0)]) 16 rfl Tryz.underlying35 info33 rfl (by decide) (by omega) u5 x5_1 (⟨(rd_T33 x1_1 0).f0, (rd_T33 x1_1 0).f1⟩ : S33) [.int .u64 ((rd_T33 x1_1 0).f0), .int .i64 ((rd_T33 x1_1 0).f1)] (fun k_ => (w.heap.size ≤ k_)) (fun _ => False) rfl rfl ?aP (fun _ hk => hk.elim) ?aF ?aO ?aB ?aS ?aL ?_; (case aP => exact k33_mkM _ _ _ (⟨(rd_T33 x1_1 0).f0, (rd_T33 x1_1 0).f1⟩ : S33)); (case aB => exact (by repeat (first | (with_reducible first | exact HB.out | apply uf | apply ud | apply ue) | exact HB.out))); (case aF => exact (fun k_ hk => (Nat.le_trans (ux (by repeat (first | (with_reducible first | exact HB.out | apply uf | apply ud | apply ue) | exact HB.out))) hk))); (case aO => exact (by (with_reducible repeat (first | apply xc | apply xb | apply xj)); exact HO_5.out)); (case aS => exact (ux (by repeat (first | (with_reducible first | exact HB.out | apply uf | apply ud | apply ue) | exact HB.out)))); (case aL => have := LMc15.out; omega); intro v109 w21 ho hb hg hat; rw [← Ny108.out] at ho; have n0_ := Aside0.mk (Kd.V_afterv (ok := (fun k_ => ((P0_ k_ ∨ P1_ k_) ∨ w.heap.size ≤ k_))) (by (with_reducible repeat (first | apply vw | apply vv | apply vx)); exact HO_0.out) hg hat); have n1_ := Aside0.mk (Kd.V_afterv (ok := (fun k_ => ((P0_ k_ ∨ P1_ k_) ∨ w.heap.size ≤ k_))) (by (with_reducible repeat (first | apply vw | apply vv | apply vx)); exact HO_1.out) hg hat); have n2_ := Aside0.mk (hb); have n3_ := Aside0.mk (ho); clear HO_0; clear HO_1; clear HB; clear HO_5; have HO_0 := n0_; have HO_1 := n1_; have HB := n2_; have HO110 := n3_; clear n0_ n1_ n2_ n3_; clear ho hb hg hat; have q22 : (1 : Int) ≤ ((x1_1.length : Int) : Int) := ug (by first | (with_reducible assumption) | assumption); obtain ⟨i022, hi022, _, hsz22, _⟩ := info_parts info33; have hroom22 : x1_1.length ≤ co18 := (Kd.V_reads' HO_1.out).2.1; have hC22 : Kd.F k33 _ _ (some ad104) x1_1.length x1_1 := (Kd.V_at (base := w.heap.size) HO_1.out).2.2; have hcut22 := cut_from (P := Tryz.prog) 35 33 .i64 Tryz.underlying35 hi022 2 hsz22 (some ad104) x1_1.length co18 1 (by omega) q22; have hr22 := Kd.F_cut (m := (1 : Int).toNat) (c := co18) hC22 (by omega) hroom22; obtain ⟨A22, hA22⟩ : ∃ A1, A1 = (if co18 = (1 : Int).toNat then (some ad104) else ((some ad104) : Option Addr).map (·.add ((1 : Int).toNat * 2))) := ⟨_, rfl⟩; obtain ⟨c22, hc22⟩ : ∃ c1, c1 = co18 - (1 : Int).toNat := ⟨_, rfl⟩; have hy22 : y111.length = x1_1.length - (1 : Int).toNat := (by rw [Ny111.out, um] <;> omega); rw [show (x1_1).drop (1 : Int).toNat = y111 from Ny111.out.symm] at hr22; replace hr22 : Kd.F k33 _ _ A22 y111.length y111 := (by rw [hA22]; exact hr22); rw [← hy22, ← hA22, ← hc22] at hcut22; have HO115 := Aside0.mk (show Kd.V k33 33 _ w.heap.size _ (.slice A22 y111.length c22) y111 from Kd.V_mk (by rw [hy22, hc22]; exact Nat.sub_le_sub_right hroom22 _) hr22); have HC115 := Aside0.mk (show y111.length ≤ c22 from by rw [hy22, hc22]; exact Nat.sub_le_sub_right hroom22 _); clear hr22 hC22 hroom22 hi022 hsz22 hc22; have KY22 := Aside0.mk hy22; have KA22 := Aside0.mk hA22; clear hy22 hA22; replace q22 := eq_true q22))
                 go_roundg kj4
                 case measure => have := HK1.out; have := HJ4.out; omega
                 case rel => exact ⟨(x0_1), (y111), (y108), H', ⟨by have := HK1.out; have := HJ4.out; omega⟩, ⟨by (with_reducible repeat (first | apply vw | apply vv | apply vx)); exact HO_0.out⟩, ⟨by (with_reducible repeat (first | apply vw | apply vv | apply vx)); exact HO115.out⟩, ⟨by (with_reducible repeat (first | apply xc | apply xb | apply xj)); exact HO110.out⟩, ⟨by repeat (first | (with_reducible first | exact HB.out | apply uf | apply ud | apply ue) | exact HB.out)⟩⟩
               · rw [if_neg c16] at H; exact absurd H (by simp)
             · rw [if_neg c15] at H; exact absurd H (by simp)
           · replace c14 := Bool.eq_false_iff.mpr c14; subst c14; (have H1 : (if x5_1.length < 8796093022208 then (if 1 ≤ (x0_1.length : Int) then (entry_Merge.l0 kj4 (x0_1.drop 1) x1_1 (x5_1 ++ [(⟨(rd_T33 x0_1 0).f0, (rd_T33 x0_1 0).f1⟩ : S33)])) else (none)) else (none)) = some r := by rw [if_neg (show ¬ (false = true) by decide)] at H; exact H); clear H; have H := H1; clear H1
             by_cases c23 : x5_1.length < 8796093022208
             · rw [if_pos c23] at H; have LMc23 := Aside0.mk c23; clear c23; obtain ⟨y117, hy117⟩ : ∃ y_ : List (S33), y_ = (x5_1 ++ [(⟨(rd_T33 x0_1 0).f0, (rd_T33 x0_1 0).f1⟩ : S33)]) := ⟨_, rfl⟩; (replace H : (if 1 ≤ (x0_1.length : Int) then (entry_Merge.l0 kj4 (x0_1.drop 1) x1_1 y117) else (none)) = some r := by first | (rw [hy117]; with_reducible exact H) | (have H2_ := (uy _ _).symm.trans H; rw [hy117]; with_reducible exact H2_) | (have H2_ := (uy _ _).symm.trans H; with_reducible exact H2_) | with_reducible exact H | (rw [hy117]; exact H) | exact H); have Ny117 := Aside0.mk hy117; clear hy117
               by_cases c24 : 1 ≤ (x0_1.length : Int)
               · rw [if_pos c24] at H; have c24b0 := eq_true c24; have c24b1 : decide (1 ≤ (x0_1.length : Int)) = true := decide_eq_true c24; clear c24; obtain ⟨y120, hy120⟩ : ∃ y_ : List (S33), y_ = (x0_1.drop 1) := ⟨_, rfl⟩; (replace H : (entry_Merge.l0 kj4 y120 x1_1 y117) = some r := by first | (rw [hy120]; with_reducible exact H) | (have H2_ := (uy _ _).symm.trans H; rw [hy120]; with_reducible exact H2_) | (have H2_ := (uy _ _).symm.trans H; with_reducible exact H2_) | with_reducible exact H | (rw [hy120]; exact H) | exact H); have Ny120 := Aside0.mk hy120; clear hy120; have H' := Aside0.mk H; clear H
                 try go_wp2
                 have n0_ := Aside0.mk (vx HO_0.out); have n1_ := Aside0.mk (vx HO_1.out); have n2_ := Aside0.mk (xj HO_5.out); have n3_ := Aside0.mk (ue HB.out); clear HO_0 HO_1 HO_5 HB; have HO_0 := n0_; have HO_1 := n1_; have HO_5 := n2_; have HB := n3_; clear n0_ n1_ n2_ n3_; obtain ⟨Ao26, co26, eo26⟩ := Kd.V_slice HO_1.out; (first | subst eo26 | (injection eo26 with f1_ f2_ f3_; have f4_ := f1_.symm; have f5_ := f3_.symm; clear f1_ f2_ f3_; subst f4_; subst f5_)); have p104 : 0 ≤ (0 : Int) := (by omega); have q104 : 0 < (x1_1.length : Int) := ug (by first | (with_reducible assumption) | assumption); obtain ⟨ad104, e104, hx104_0, hx104_1⟩ := at_T33 (Kd.V_reads' HO_1.out).2.2 0 p104 q104
                 cases e104
                 have qi104 : (0 < x1_1.length) = True := eq_true (by omega); (try rw [show ((0 : Int)).toNat = 0 from rfl] at hx104_0); (try rw [show 0 * 2 = 0 from rfl] at hx104_0); (try rw [Addr.add_zero'] at hx104_0); (try rw [show ((0 : Int)).toNat = 0 from rfl] at hx104_1); (try rw [show 0 * 2 = 0 from rfl] at hx104_1); (try rw [Addr.add_zero'] at hx104_1); replace p104 := eq_true p104; replace q104 := eq_true q104; obtain ⟨Ao27, co27, eo27⟩ := Kd.V_slice HO_0.out; (first | subst eo27 | (injection eo27 with f1_ f2_ f3_; have f4_ := f1_.symm; have f5_ := f3_.symm; clear f1_ f2_ f3_; subst f4_; subst f5_)); have p105 : 0 ≤ (0 : Int) := (by omega); have q105 : 0 < (x0_1.length : Int) := ug (by first | (with_reducible assumption) | assumption); obtain ⟨ad105, e105, hx105_0, hx105_1⟩ := at_T33 (Kd.V_reads' HO_0.out).2.2 0 p105 q105
                 cases e105
                 have qi105 : (0 < x0_1.length) = True := eq_true (by omega); (try rw [show ((0 : Int)).toNat = 0 from rfl] at hx105_0); (try rw [show 0 * 2 = 0 from rfl] at hx105_0); (try rw [Addr.add_zero'] at hx105_0); (try rw [show ((0 : Int)).toNat = 0 from rfl] at hx105_1); (try rw [show 0 * 2 = 0 from rfl] at hx105_1); (try rw [Addr.add_zero'] at hx105_1); replace p105 := eq_true p105; replace q105 := eq_true q105; refine start_ (n := 7) (S := fun w' => w'.cell? ad104 = some (.int .u64 ((rd_T33 x1_1 0).f0)) ∧ w'.cell? ⟨ad104.block, ad104.off + 1, none⟩ = some (.int .i64 ((rd_T33 x1_1 0).f1)) ∧ w'.cell? ad105 = some (.int .u64 ((rd_T33 x0_1 0).f0)) ∧ w'.cell? ⟨ad105.block, ad105.off + 1, none⟩ = some (.int .i64 ((rd_T33 x0_1 0).f1))) (ds := []) #[xX, xX, xX, xX, xX, xX, xX] (by kernel_rfl) rfl rfl ⟨hx104_0, hx104_1, hx105_0, hx105_1⟩ (fun hHeld => ?_); generalize wc.drew = w25 at HO_0 HO_1 HO_5 HB hx104_0 hx104_1 hx105_0 hx105_1 hHeld ⊢; refine pU (i := 0) (N := some 20) (bA 7 1) (by kernel_rfl) rfl ?_
                 refine pU (i := 1) (N := some 21) (bA 7 3) (by kernel_rfl) rfl ?_
                 refine pU (i := 3) (N := some 23) (bA 7 11) (by kernel_rfl) rfl ?_
                 refine pU (i := 4) (N := some 24) (bA 7 27) (by kernel_rfl) rfl ?_
                 refine tU (i := 2) (N := some 22) (bA 7 31) (by kernel_rfl) rfl hHeld (by (constructor; (rintro w' ⟨s0, s1, s2, s3⟩; go_simp; (with_reducible rfl)); (simp only [Act.put, ua, ub, uc, uh, ui]; rfl))) ?_
                 refine tU (i := 5) (N := some 25) (bA 7 63) (by kernel_rfl) rfl hHeld (by (constructor; (rintro w' ⟨s0, s1, s2, s3⟩; go_simp; (with_reducible rfl)); (simp only [Act.put, ua, ub, uc, uh, ui]; rfl))) ?_
                 refine one_ (i := 6) (N := some 26) #[yY, yY, yY, yY, yY, yY, yY] rfl rfl (by kernel_rfl) (by decide) (fun K hK => ?_); refine goes_ Tryz.func53 (by kernel_rfl) rfl #[.agg #[.int .u64 ((rd_T33 x1_1 0).f0), .int .i64 ((rd_T33 x1_1 0).f1)], .agg #[.int .u64 ((rd_T33 x0_1 0).f0), .int .i64 ((rd_T33 x0_1 0).f1)]] (by rfl) rfl rfl (by (try simp only [ul, ur, us]); first | done | rfl | (simp only [um, uo]; rfl)) ?_; (with_reducible refine (entry_Less.calls kj4 ((rd_T33 x1_1 0).f0) ((rd_T33 x1_1 0).f1) ((rd_T33 x0_1 0).f0) ((rd_T33 x0_1 0).f1) false _ A13.out).mono ?_); rintro e w28 ⟨rfl, hb⟩; have HS0_ := (hb.cell (World.block_lt_of_cell? _ _ (hHeld.1))).trans (hHeld.1); have HS1_ := (hb.cell (World.block_lt_of_cell? _ _ (hHeld.2.1))).trans (hHeld.2.1); have HS2_ := (hb.cell (World.block_lt_of_cell? _ _ (hHeld.2.2.1))).trans (hHeld.2.2.1); have HS3_ := (hb.cell (World.block_lt_of_cell? _ _ (hHeld.2.2.2))).trans (hHeld.2.2.2); refine ⟨_, rfl, ?_⟩; have n0_ := Aside0.mk (Kd.V_below (by (with_reducible repeat (first | apply vw | apply vv | apply vx)); exact HO_0.out) hb); have n1_ := Aside0.mk (Kd.V_below (by (with_reducible repeat (first | apply vw | apply vv | apply vx)); exact HO_1.out) hb); have n2_ := Aside0.mk (Kd.R_below (by (with_reducible repeat (first | apply xc | apply xb | apply xj)); exact HO_5.out) hb); have n3_ := Aside0.mk (vp (by repeat (first | (with_reducible first | exact HB.out | apply uf | apply ud | apply ue) | exact HB.out)) hb); clear HO_0 HO_1 HO_5 HB; have HO_0 := n0_; have HO_1 := n1_; have HO_5 := n2_; have HB := n3_; clear n0_ n1_ n2_ n3_; (try clear hb); (try clear hb2); (try clear hk); (try clear hi); refine hK.out _ _ ⟨HS0_, HS1_, HS2_, HS3_⟩ (fun hHeld => ?_); clear hK K; refine norm_ (a' := ?_) ?_ ?_; rotate_left
                 · show Act.put _ (some 26) _ = _
                   simp only [Act.put, ua, ub, uc, uh, ui]; rfl
                 refine done_ (by kernel_rfl) ?_; have p116 : 0 ≤ (0 : Int) := (by omega); have q116 : 0 < (x0_1.length : Int) := ug (by first | (with_reducible assumption) | assumption); obtain ⟨ad116, e116, hx116_0, hx116_1⟩ := at_T33 (Kd.V_reads' HO_0.out).2.2 0 p116 q116; obtain rfl : ad105 = ad116 := (by injection e116); have qi116 : (0 < x0_1.length) = True := eq_true (by omega); (try rw [show ((0 : Int)).toNat = 0 from rfl] at hx116_0); (try rw [show 0 * 2 = 0 from rfl] at hx116_0); (try rw [Addr.add_zero'] at hx116_0); (try rw [show ((0 : Int)).toNat = 0 from rfl] at hx116_1); (try rw [show 0 * 2 = 0 from rfl] at hx116_1); (try rw [Addr.add_zero'] at hx116_1); replace p116 := eq_true p116; replace q116 := eq_true q116
                 try go_wp2_with (first | ((with_reducible refine gate_builtin (b := .append) (xs := #[.tmp 35, .tmp 39]) rfl ?_); (try (refine gate_guard (by rfl) ?_; dsimp only)); at_builtin; refine Kd.R_append k33 (w0 := w) w.heap.size rfl (.tmp 35) (.tmp 39) 35 33 (.agg #[(.int .u64 0), (.int .i64 0)]) 16 rfl Tryz.underlying35 info33 rfl (by decide) (by omega) u5 x5_1 (⟨(rd_T33 x0_1 0).f0, (rd_T33 x0_1 0).f1⟩ : S33) [.int .u64 ((rd_T33 x0_1 0).f0), .int .i64 ((rd_T33 x0_1 0).f1)] (fun k_ => (w.heap.size ≤ k_)) (fun _ => False) rfl rfl ?aP (fun _ hk => hk.elim) ?aF ?aO ?aB ?aS ?aL ?_; (case aP => exact k33_mkM _ _ _ (⟨(rd_T33 x0_1 0).f0, (rd_T33 x0_1 0).f1⟩ : S33)); (case aB => exact (by repeat (first | (with_reducible first | exact HB.out | apply uf | apply ud | apply ue) | exact HB.out))); (case aF => exact (fun k_ hk => (Nat.le_trans (ux (by repeat (first | (with_reducible first | exact HB.out | apply uf | apply ud | apply ue) | exact HB.out))) hk))); (case aO => exact (by (with_reducible repeat (first | apply xc | apply xb | apply xj)); exact HO_5.out)); (case aS => exact (ux (by repeat (first | (with_reducible first | exact HB.out | apply uf | apply ud | apply ue) | exact HB.out)))); (case aL => have := LMc23.out; omega); intro v118 w29 ho hb hg hat; rw [← Ny117.out] at ho; have n0_ := Aside0.mk (Kd.V_afterv (ok := (fun k_ => ((P0_ k_ ∨ P1_ k_) ∨ w.heap.size ≤ k_))) (by (with_reducible repeat (first | apply vw | apply vv | apply vx)); exact HO_0.out) hg hat); have n1_ := Aside0.mk (Kd.V_afterv (ok := (fun k_ => ((P0_ k_ ∨ P1_ k_) ∨ w.heap.size ≤ k_))) (by (with_reducible repeat (first | apply vw | apply vv | apply vx)); exact HO_1.out) hg hat); have n2_ := Aside0.mk (hb); have n3_ := Aside0.mk (ho); clear HO_0; clear HO_1; clear HB; clear HO_5; have HO_0 := n0_; have HO_1 := n1_; have HB := n2_; have HO119 := n3_; clear n0_ n1_ n2_ n3_; clear ho hb hg hat; have q30 : (1 : Int) ≤ ((x0_1.length : Int) : Int) := ug (by first | (with_reducible assumption) | assumption); obtain ⟨i030, hi030, _, hsz30, _⟩ := info_parts info33; have hroom30 : x0_1.length ≤ co27 := (Kd.V_reads' HO_0.out).2.1; have hC30 : Kd.F k33 _ _ (some ad105) x0_1.length x0_1 := (Kd.V_at (base := w.heap.size) HO_0.out).2.2; have hcut30 := cut_from (P := Tryz.prog) 35 33 .i64 Tryz.underlying35 hi030 2 hsz30 (some ad105) x0_1.length co27 1 (by omega) q30; have hr30 := Kd.F_cut (m := (1 : Int).toNat) (c := co27) hC30 (by omega) hroom30; obtain ⟨A30, hA30⟩ : ∃ A1, A1 = (if co27 = (1 : Int).toNat then (some ad105) else ((some ad105) : Option Addr).map (·.add ((1 : Int).toNat * 2))) := ⟨_, rfl⟩; obtain ⟨c30, hc30⟩ : ∃ c1, c1 = co27 - (1 : Int).toNat := ⟨_, rfl⟩; have hy30 : y120.length = x0_1.length - (1 : Int).toNat := (by rw [Ny120.out, um] <;> omega); rw [show (x0_1).drop (1 : Int).toNat = y120 from Ny120.out.symm] at hr30; replace hr30 : Kd.F k33 _ _ A30 y120.length y120 := (by rw [hA30]; exact hr30); rw [← hy30, ← hA30, ← hc30] at hcut30; have HO124 := Aside0.mk (show Kd.V k33 33 _ w.heap.size _ (.slice A30 y120.length c30) y120 from Kd.V_mk (by rw [hy30, hc30]; exact Nat.sub_le_sub_right hroom30 _) hr30); have HC124 := Aside0.mk (show y120.length ≤ c30 from by rw [hy30, hc30]; exact Nat.sub_le_sub_right hroom30 _); clear hr30 hC30 hroom30 hi030 hsz30 hc30; have KY30 := Aside0.mk hy30; have KA30 := Aside0.mk hA30; clear hy30 hA30; replace q30 := eq_true q30))
                 go_roundg kj4
                 case measure => have := HK1.out; have := HJ4.out; omega
                 case rel => exact ⟨(y120), (x1_1), (y117), H', ⟨by have := HK1.out; have := HJ4.out; omega⟩, ⟨by (with_reducible repeat (first | apply vw | apply vv | apply vx)); exact HO124.out⟩, ⟨by (with_reducible repeat (first | apply vw | apply vv | apply vx)); exact HO_1.out⟩, ⟨by (with_reducible repeat (first | apply xc | apply xb | apply xj)); exact HO119.out⟩, ⟨by repeat (first | (with_reducible first | exact HB.out | apply uf | apply ud | apply ue) | exact HB.out)⟩⟩
               · rw [if_neg c24] at H; exact absurd H (by simp)
             · rw [if_neg c23] at H; exact absurd H (by simp)
         · rw [if_neg c12] at H; exact absurd H (by simp)
       · rw [if_neg c11] at H; exact absurd H (by simp)
     · replace c10 := Bool.eq_false_iff.mpr c10; subst c10; (have H1 : (if x5_1.length + x0_1.length < 8796093022208 then ((some (x5_1 ++ x0_1 : List (S33))).bind fun y125 => (if y125.length + x1_1.length < 8796093022208 then (some (y125 ++ x1_1)) else (none))) else (none)) = some r := by rw [if_neg (show ¬ (false = true) by decide)] at H; exact H); clear H; have H := H1; clear H1
       by_cases c31 : x5_1.length + x0_1.length < 8796093022208
       · rw [if_pos c31] at H; have LMc31 := Aside0.mk c31; clear c31; obtain ⟨y125, hy125⟩ : ∃ y_ : List (S33), y_ = (x5_1 ++ x0_1) := ⟨_, rfl⟩; (replace H : (if y125.length + x1_1.length < 8796093022208 then (some (y125 ++ x1_1)) else (none)) = some r := by first | (rw [hy125]; with_reducible exact H) | (have H2_ := (uy _ _).symm.trans H; rw [hy125]; with_reducible exact H2_) | (have H2_ := (uy _ _).symm.trans H; with_reducible exact H2_) | with_reducible exact H | (rw [hy125]; exact H) | exact H); have Ny125 := Aside0.mk hy125; clear hy125
         by_cases c32 : y125.length + x1_1.length < 8796093022208
         · rw [if_pos c32] at H; have LMc32 := Aside0.mk c32; clear c32; obtain ⟨y128, hy128⟩ : ∃ y_ : List (S33), y_ = (y125 ++ x1_1) := ⟨_, rfl⟩; (replace H : (some y128) = some r := by first | (rw [hy128]; with_reducible exact H) | (have H2_ := (uy _ _).symm.trans H; rw [hy128]; with_reducible exact H2_) | (have H2_ := (uy _ _).symm.trans H; with_reducible exact H2_) | with_reducible exact H | (rw [hy128]; exact H) | exact H); have Ny128 := Aside0.mk hy128; clear hy128; obtain rfl := Option.some.inj H; obtain ⟨Ao34, co34, eo34⟩ := Kd.V_slice HO_0.out; subst eo34
           go_wp2_with (first | ((with_reducible refine gate_builtin (b := .append) (xs := #[.tmp 43, .tmp 44]) rfl ?_); (try (refine gate_guard (by rfl) ?_; dsimp only)); at_builtin; refine Kd.R_append_rows k33 (w0 := w) w.heap.size rfl (.tmp 43) (.tmp 44) 35 33 (.agg #[(.int .u64 0), (.int .i64 0)]) 16 rfl Tryz.underlying35 info33 rfl (by decide) (by omega) u5 x5_1 x0_1 _ _ _ (fun k_ => (w.heap.size ≤ k_)) (fun _ => False) rfl rfl ?aO ?aR (fun _ _ h => h) (fun _ h => h.elim) ?aF ?aB ?aS ?aL ?_; (case aR => repeat (first | exact (Kd.V_reads' HO_0.out).2.2 | (with_reducible refine Kd.C_alloc ?_ _) | (with_reducible refine Kd.C_drewN ?_ _) | (with_reducible refine Kd.C_drew ?_))); (case aB => exact (by repeat (first | (with_reducible first | exact HB.out | apply uf | apply ud | apply ue) | exact HB.out))); (case aF => exact (fun k_ hk => (Nat.le_trans (ux (by repeat (first | (with_reducible first | exact HB.out | apply uf | apply ud | apply ue) | exact HB.out))) hk))); (case aO => exact (by (with_reducible repeat (first | apply xc | apply xb | apply xj)); exact HO_5.out)); (case aS => exact (ux (by repeat (first | (with_reducible first | exact HB.out | apply uf | apply ud | apply ue) | exact HB.out)))); (case aL => have := LMc31.out; omega); intro v126 w33 ho hb hg hat; rw [← Ny125.out] at ho; have n0_ := Aside0.mk (Kd.V_afterv (ok := (fun k_ => ((P0_ k_ ∨ P1_ k_) ∨ w.heap.size ≤ k_))) (by (with_reducible repeat (first | apply vw | apply vv | apply vx)); exact HO_0.out) hg hat); have n1_ := Aside0.mk (Kd.V_afterv (ok := (fun k_ => ((P0_ k_ ∨ P1_ k_) ∨ w.heap.size ≤ k_))) (by (with_reducible repeat (first | apply vw | apply vv | apply vx)); exact HO_1.out) hg hat); have n2_ := Aside0.mk (hb); have n3_ := Aside0.mk (ho); clear HO_0; clear HO_1; clear HB; clear HO_5; have HO_0 := n0_; have HO_1 := n1_; have HB := n2_; have HO127 := n3_; clear n0_ n1_ n2_ n3_; clear ho hb hg hat; obtain ⟨Ao36, co36, eo36⟩ := Kd.V_slice HO_1.out; subst eo36) | ((with_reducible refine gate_builtin (b := .append) (xs := #[.tmp 45, .tmp 46]) rfl ?_); (try (refine gate_guard (by rfl) ?_; dsimp only)); at_builtin; refine Kd.R_append_rows k33 (w0 := w) w.heap.size rfl (.tmp 45) (.tmp 46) 35 33 (.agg #[(.int .u64 0), (.int .i64 0)]) 16 rfl Tryz.underlying35 info33 rfl (by decide) (by omega) v126 y125 x1_1 _ _ _ (fun k_ => (w.heap.size ≤ k_)) (fun _ => False) rfl rfl ?aO ?aR (fun _ _ h => h) (fun _ h => h.elim) ?aF ?aB ?aS ?aL ?_; (case aR => repeat (first | exact (Kd.V_reads' HO_1.out).2.2 | (with_reducible refine Kd.C_alloc ?_ _) | (with_reducible refine Kd.C_drewN ?_ _) | (with_reducible refine Kd.C_drew ?_))); (case aB => exact (by repeat (first | (with_reducible first | exact HB.out | apply uf | apply ud | apply ue) | exact HB.out))); (case aF => exact (fun k_ hk => (Nat.le_trans (ux (by repeat (first | (with_reducible first | exact HB.out | apply uf | apply ud | apply ue) | exact HB.out))) hk))); (case aO => exact (by (with_reducible repeat (first | apply xc | apply xb | apply xj)); exact HO127.out)); (case aS => exact (ux (by repeat (first | (with_reducible first | exact HB.out | apply uf | apply ud | apply ue) | exact HB.out)))); (case aL => have := LMc32.out; omega); intro v129 w35 ho hb hg hat; rw [← Ny128.out] at ho; have n0_ := Aside0.mk (Kd.V_afterv (ok := (fun k_ => ((P0_ k_ ∨ P1_ k_) ∨ w.heap.size ≤ k_))) (by (with_reducible repeat (first | apply vw | apply vv | apply vx)); exact HO_0.out) hg hat); have n1_ := Aside0.mk (Kd.V_afterv (ok := (fun k_ => ((P0_ k_ ∨ P1_ k_) ∨ w.heap.size ≤ k_))) (by (with_reducible repeat (first | apply vw | apply vv | apply vx)); exact HO_1.out) hg hat); have n2_ := Aside0.mk (hb); have n3_ := Aside0.mk (ho); clear HO_0; clear HO_1; clear HB; clear HO127; have HO_0 := n0_; have HO_1 := n1_; have HB := n2_; have HO130 := n3_; clear n0_ n1_ n2_ n3_; clear ho hb hg hat))
           go_ret
           exact ⟨_, by first | rfl | (simp [errW_none, errW_some] <;> rfl) | (simp [*, errW_none, errW_some] <;> rfl), by (with_reducible repeat (first | apply xc | apply xb | apply xj)); exact HO130.out, by repeat (first | (with_reducible first | exact HB.out | apply uf | apply ud | apply ue) | exact HB.out)⟩
         · rw [if_neg c32] at H; exact absurd H (by simp)
       · rw [if_neg c31] at H; exact absurd H (by simp)
end Go.Proofs.YthghkglkifeagaaGreat.V
end
section
set_option linter.unusedVariables false
set_option linter.unusedSimpArgs false
namespace Go.Proofs.YthghkglkifeagaaGreat.V
open Go.RowKit Go.Proofs.YthghkglkifeagaaGreatW.PrintWords Go.Proofs.YthghkglkifeagaaGreatW.PrintLast Go.Proofs.YthghkglkifeagaaGreatW.PrintMore
def downAt (l : List E) (j : Nat) : Bool := ltE (l.getD (j + 1) z33) (l.getD j z33)
def okTo (l : List E) : Nat → Bool
  | 0 => true
  | n + 1 => okTo l n && !downAt l n
theorem okTo_iff (l : List E) (n : Nat) : okTo l n = true ↔ ∀ j, j < n → downAt l j = false := by
 induction n with
 | zero => simp [okTo]
 | succ n ih =>
  simp only [okTo, Bool.and_eq_true, ih, Bool.not_eq_true']
  constructor
  · intro h j hj
    rcases Nat.lt_succ_iff_lt_or_eq.1 hj with h1 | h1
    · exact h.1 j h1
    · subst h1; exact h.2
  · intro h
    exact ⟨fun j hj => h j (by omega), h n (by omega)⟩
theorem okTo_false (l : List E) {j n : Nat} (hj : j < n) (h : downAt l j = true) : okTo l n = false := by
 cases hc : okTo l n with
 | false => rfl
 | true => have := (okTo_iff l n).1 hc j hj; rw [this] at h; cases h
theorem issorted_loop (l : List E) (hl : l.length < 1000000000) : ∀ (i k : Nat), i < l.length → i + 4 ≤ k → api_Entry_128.l0 k l (i : Int) = some (okTo l i) := by
 intro i
 induction i with
 | zero =>
  intro k hi hk
  obtain ⟨k, rfl, _⟩ := succ_of (show 0 < k by omega)
  simp only [api_Entry_128.l0]
  rw [if_neg (by omega)]
  rfl
 | succ i ih =>
  intro k hi hk
  obtain ⟨k, rfl, _⟩ := succ_of (show 0 < k by omega)
  have h0 : ((i + 1 : Nat) : Int) > 0 := by omega
  have h1 : (0 : Int) ≤ ((i + 1 : Nat) : Int) := by omega
  have h2 : ((i + 1 : Nat) : Int) < (l.length : Int) := by omega
  have hw : wrap64 (((i + 1 : Nat) : Int) - 1) = (i : Int) := by rw [wsub1 (by omega) (by omega)]; omega
  have h3 : (0 : Int) ≤ (i : Int) := by omega
  have h4 : (i : Int) < (l.length : Int) := by omega
  simp only [api_Entry_128.l0, if_pos h0, if_pos h1, if_pos h2, hw, if_pos h3, if_pos h4, compare_told k (show 3 ≤ k by omega), Option.bind_some, rd_nat]
  by_cases hc : downAt l i = true
  · rw [if_pos ((cmpE_neg _ _).2 hc)]
    simp only [okTo, hc]
    simp
  · rw [if_neg (fun h => hc ((cmpE_neg _ _).1 h)), ih k (by omega) (by omega)]
    simp only [okTo]
    simp [hc]
theorem issorted_told (k : Nat) (l : List E) (hl : l.length < 1000000000) (hk : l.length + 4 ≤ k) : entry_Sorted.f k l = some (okTo l (l.length - 1)) := by
 unfold entry_Sorted.f api_Entry_128.f
 by_cases hn : l.length = 0
 · rw [hn]
   obtain ⟨k, rfl, _⟩ := succ_of (show 0 < k by omega)
   have hw : wrap64 (((0 : Nat) : Int) - 1) = -1 := wrap_id (by omega) (by omega)
   rw [hw]
   simp [api_Entry_128.l0, okTo]
 · rw [wsub1 (by omega) (by omega), issorted_loop l hl (l.length - 1) k (by omega) (by omega)]
   rfl
theorem okTo_sorted {l : List E} (h : SortedE l) : okTo l (l.length - 1) = true := by
 rw [okTo_iff]
 intro j hj
 unfold downAt
 have h1 : j + 1 < l.length := by omega
 have h2 : j < l.length := by omega
 simp only [List.getD_eq_getElem?_getD, List.getElem?_eq_getElem h1, List.getElem?_eq_getElem h2, Option.getD_some]
 have := sorted_get h (show j < j + 1 by omega) (List.getElem?_eq_getElem h2) (List.getElem?_eq_getElem h1)
 simpa [leE] using this
theorem refsorted_loop (l : List E) (hl : l.length < 1000000000) : ∀ (d k i : Nat), l.length - 1 - i = d → okTo l i = true → d + 1 < k → vergerref5_Sorted.l0 k l ((i + 1 : Nat) : Int) = some (okTo l (max i (l.length - 1))) := by
 intro d
 induction d with
 | zero =>
  intro k i hd hok hk
  obtain ⟨k, rfl, _⟩ := succ_of hk
  simp only [vergerref5_Sorted.l0]
  rw [if_neg (by omega), show max i (l.length - 1) = i by omega, hok]
 | succ d ih =>
  intro k i hd hok hk
  obtain ⟨k, rfl, hk'⟩ := succ_of hk
  have h1 : (0 : Int) ≤ ((i + 1 : Nat) : Int) := by omega
  have h2 : ((i + 1 : Nat) : Int) < (l.length : Int) := by omega
  have hw : wrap64 (((i + 1 : Nat) : Int) - 1) = (i : Int) := by rw [wsub1 (by omega) (by omega)]; omega
  have h3 : (0 : Int) ≤ (i : Int) := by omega
  have h4 : (i : Int) < (l.length : Int) := by omega
  simp only [vergerref5_Sorted.l0, if_pos h1, if_pos h2, hw, if_pos h3, if_pos h4, refless_told, Option.bind_some, rd_nat, wrap_nat (show i + 1 ≤ 4611686018427387904 by omega)]
  rw [show max i (l.length - 1) = max (i + 1) (l.length - 1) by omega]
  by_cases hc : downAt l i = true
  · rw [if_pos (by exact hc), okTo_false l (j := i) (by omega) hc]
  · rw [if_neg (by exact hc)]
    exact ih k (i + 1) (by omega) (by simp [okTo, hok, hc]) (by omega)
theorem refsorted_told (k : Nat) (l : List E) (hl : l.length < 1000000000) (hk : l.length + 1 < k) : vergerref5_Sorted.f k l = some (okTo l (l.length - 1)) := by
 have := refsorted_loop l hl (l.length - 1) k 0 (by omega) rfl (by omega)
 unfold vergerref5_Sorted.f
 simpa using this
end Go.Proofs.YthghkglkifeagaaGreat.V
end
section
set_option linter.unusedVariables false
set_option linter.unusedSimpArgs false
namespace Go.Proofs.YthghkglkifeagaaGreat.V
open Go.RowKit Go.Proofs.YthghkglkifeagaaGreatW.PrintWords Go.Proofs.YthghkglkifeagaaGreatW.PrintLast Go.Proofs.YthghkglkifeagaaGreatW.PrintMore
theorem concat_told (k : Nat) (hk : 10 ≤ k) (l m : List E) (hl : l.length + m.length < 1000000000) : api_Entry_98.f k [l, m] = some (l ++ m) := by
 obtain ⟨k, rfl⟩ : ∃ q, k = q + 10 := ⟨k - 10, by omega⟩
 have r0 : rd_L5 [l, m] 0 = l := rfl
 have r1 : rd_L5 [l, m] 1 = m := rfl
 have e1 : wrap64 (0 + 1) = 1 := wrap_id (by omega) (by omega)
 have e2 : wrap64 (1 + 1) = 2 := wrap_id (by omega) (by omega)
 have s1 : wrap64 (0 + (l.length : Int)) = (l.length : Int) := by rw [wrap_id (by omega) (by omega)]; omega
 have s2 : wrap64 ((l.length : Int) + (m.length : Int)) = ((l.length + m.length : Nat) : Int) := wadd (by omega)
 have n1 : ¬ (l.length : Int) < 0 := by omega
 have n2 : ¬ ((l.length + m.length : Nat) : Int) < 0 := by omega
 have n3 : (0 : Int) < (([l, m] : List (List E)).length : Int) := by simp
 have n4 : (1 : Int) < (([l, m] : List (List E)).length : Int) := by simp
 have n5 : ¬ (2 : Int) < (([l, m] : List (List E)).length : Int) := by simp
 have z1 : (0 : Int) ≤ 1 := by decide
 have z0 : (0 : Int) ≤ 0 := by decide
 have g : api_Entry_118.f [] ((l.length + m.length : Nat) : Int) = some [] := if_pos ⟨rfl, by omega, by omega⟩
 have b1 : ([] : List E).length + l.length < 8796093022208 := by simp; omega
 have b2 : (([] : List E) ++ l).length + m.length < 8796093022208 := by simp; omega
 unfold api_Entry_98.f
 simp only [api_Entry_98.l0, if_pos n3, if_pos n4, if_neg n5, if_pos z0, if_pos z1, r0, r1, s1, if_neg n1, e1, s2, if_neg n2, e2, g, Option.bind_some, api_Entry_98.l1, if_pos b1, if_pos b2]
 simp
end Go.Proofs.YthghkglkifeagaaGreat.V
end
section
set_option linter.unusedVariables false
set_option linter.unusedSimpArgs false
namespace Go.Proofs.YthghkglkifeagaaGreat.V
open Go.RowKit Go.Proofs.YthghkglkifeagaaGreatW.PrintWords Go.Proofs.YthghkglkifeagaaGreatW.PrintLast Go.Proofs.YthghkglkifeagaaGreatW.PrintMore
def levGo : Nat → Nat → Int → Nat
  | 0, i, _ => i
  | d + 1, i, n => if (2 : Int) ^ i < n then levGo d (i + 1) n else i
def lev (n : Int) : Nat := levGo 62 0 n
theorem pow2_pos (i : Nat) : (0 : Int) < 2 ^ i := Int.pow_pos (by decide)
theorem pow2_lt : ∀ (i : Nat), i ≤ 62 → (2 : Int) ^ i ≤ 4611686018427387904 := by
 intro i hi
 have : (2 : Int) ^ i ≤ 2 ^ 62 := by
  have h : (2 : Nat) ^ i ≤ 2 ^ 62 := Nat.pow_le_pow_right (by decide) hi
  exact_mod_cast h
 simpa using this
theorem shl_one {i : Nat} (h : i ≤ 62) : shl .i64 1 (i : Int) = 2 ^ i := by
 unfold shl
 have h1 : min ((i : Int)).toNat IntKind.i64.bits = i := by show min _ 64 = i; omega
 rw [h1, Int.one_mul]
 have h2 := pow2_pos i
 have h3 := pow2_lt i h
 rw [i64_w]
 exact wrap_id (by omega) (by omega)
theorem level_loop (n : Int) : ∀ (d k i : Nat), i + d = 62 → d < k → block_Level.l0 k n (i : Int) = some ((levGo d i n : Nat) : Int) := by
 intro d
 induction d with
 | zero =>
  intro k i hd hk
  obtain ⟨k, rfl, _⟩ := succ_of hk
  simp only [block_Level.l0]
  rw [if_neg (by omega)]
  rfl
 | succ d ih =>
  intro k i hd hk
  obtain ⟨k, rfl, hk'⟩ := succ_of hk
  simp only [block_Level.l0]
  rw [if_pos (by omega), if_pos (by omega), shl_one (by omega), wrap_nat (by omega), ih k (i + 1) (by omega) (by omega)]
  simp only [levGo]
  by_cases hc : (2 : Int) ^ i < n
  · rw [if_pos hc, if_pos hc]
  · rw [if_neg hc, if_neg hc]
theorem level_told (k : Nat) (n : Int) (hk : 62 < k) : block_Level.f k n = some ((lev n : Nat) : Int) := level_loop n 62 k 0 (by omega) hk
theorem lev_le : ∀ (d i : Nat) (n : Int), levGo d i n ≤ i + d := by
 intro d
 induction d with
 | zero => intro i n; exact Nat.le_refl _
 | succ d ih =>
  intro i n
  simp only [levGo]
  split
  · exact Nat.le_trans (ih (i + 1) n) (by omega)
  · omega
def LevOk (n : Int) (L : Nat) : Prop := n ≤ 2 ^ L ∧ (0 < L → (2 : Int) ^ (L - 1) < n)
theorem levgo_ok : ∀ (d i : Nat) (n : Int), i + d = 62 → n ≤ 4611686018427387904 → (0 < i → (2 : Int) ^ (i - 1) < n) → LevOk n (levGo d i n) := by
 intro d
 induction d with
 | zero =>
  intro i n hd hn hi
  obtain rfl : i = 62 := by omega
  exact ⟨by simpa [levGo] using hn, by simpa [levGo] using hi⟩
 | succ d ih =>
  intro i n hd hn hi
  simp only [levGo]
  by_cases hc : (2 : Int) ^ i < n
  · rw [if_pos hc]
    exact ih (i + 1) n (by omega) hn (fun _ => by simpa using hc)
  · rw [if_neg hc]
    exact ⟨by omega, hi⟩
theorem lev_ok {n : Int} (hn : n ≤ 4611686018427387904) : LevOk n (lev n) := levgo_ok 62 0 n (by omega) hn (by omega)
theorem pow_mono {a b : Nat} (h : a ≤ b) : (2 : Int) ^ a ≤ 2 ^ b := by
 have : (2 : Nat) ^ a ≤ 2 ^ b := Nat.pow_le_pow_right (by decide) h
 exact_mod_cast this
theorem lev_unique {n : Int} {L M : Nat} (h : LevOk n L) (k : LevOk n M) : L = M := by
 rcases Nat.lt_trichotomy L M with h1 | h1 | h1
 · have := k.2 (by omega)
   have := pow_mono (a := L) (b := M - 1) (by omega)
   have := h.1
   omega
 · exact h1
 · have := h.2 (by omega)
   have := pow_mono (a := M) (b := L - 1) (by omega)
   have := k.1
   omega
theorem lev_62 (n : Int) : lev n ≤ 62 := by have := lev_le 62 0 n; unfold lev; omega
theorem lev_mono {a b : Int} (h : a ≤ b) (hb : b ≤ 4611686018427387904) : lev a ≤ lev b := by
 have h1 := lev_ok (n := a) (by omega)
 have h2 := lev_ok hb
 rcases Nat.lt_or_ge (lev b) (lev a) with hc | hc
 · have := h1.2 (by omega)
   have := pow_mono (a := lev b) (b := lev a - 1) (by omega)
   have := h2.1
   omega
 · exact hc
theorem sort6_some {l : List E} (h : l.length < 1000000000) : entry_Sort.f l = some (sortE l) := if_pos h
theorem of_told (k : Nat) (l : List E) (hl : l.length < 1000000000) (hk : 62 < k) : block_Of.f k l = some (((lev (l.length : Int) : Nat) : Int), sortE l) := by
 unfold block_Of.f
 rw [level_told k _ hk]
 simp only [Option.bind_some]
 rw [sort6_some hl]
 rfl
theorem blockok_told (k : Nat) (L : Int) (l : List E) (hl : l.length < 1000000000) (hk : l.length + 64 ≤ k) : block_Block_Ok.f k L l = some (decide (L = ((lev (l.length : Int) : Nat) : Int)) && okTo l (l.length - 1)) := by
 have h62 := lev_62 (l.length : Int)
 unfold block_Block_Ok.f
 rw [level_told k _ (by omega)]
 simp only [Option.bind_some]
 rw [issorted_told k l hl (by omega)]
 simp only [Option.bind_some]
 by_cases h0 : L ≥ 0
 · rw [if_pos h0]
   by_cases h1 : L ≤ 62
   · rw [if_pos h1]
     by_cases h2 : L = ((lev (l.length : Int) : Nat) : Int)
     · rw [if_pos h2, decide_eq_true h2, Bool.true_and]
     · rw [if_neg h2, decide_eq_false h2, Bool.false_and]
   · rw [if_neg h1, decide_eq_false (by omega), Bool.false_and]
 · rw [if_neg h0, decide_eq_false (by omega), Bool.false_and]
theorem blockmerge_told (k : Nat) (L M : Int) (x y : List E) (hl : x.length + y.length < 1000000000) (hk : 62 < k) : block_Merge.f k L x M y = some (((lev ((x.length + y.length : Nat) : Int) : Nat) : Int), sortE (x ++ y)) := by
 unfold block_Merge.f
 rw [concat_told k (by omega) x y hl]
 simp only [Option.bind_some]
 rw [of_told k _ (by simpa using hl) hk, List.length_append]
 rfl
theorem clamp_told (n : Int) (m : Nat) : 0 ≤ mn (mx n 0) (m : Int) ∧ mn (mx n 0) (m : Int) ≤ (m : Int) := by
 unfold mn mx
 omega
def clampN (n : Int) (m : Nat) : Nat := (mn (mx n 0) (m : Int)).toNat
def allB (bs : List S109) : List E := bs.flatMap fun b => b.f1
theorem allB_nil : allB [] = [] := rfl
theorem allB_take {bs : List S109} {i : Nat} (h : i < bs.length) : allB (bs.take (i + 1)) = allB (bs.take i) ++ bs[i].f1 := by
 unfold allB
 rw [List.take_succ_eq_append_getElem h, List.flatMap_append]
 simp
theorem allB_take_le (bs : List S109) (i : Nat) : (allB (bs.take i)).length ≤ (allB bs).length := by
 have : allB bs = allB (bs.take i) ++ allB (bs.drop i) := by unfold allB; rw [← List.flatMap_append, List.take_append_drop]
 rw [this, List.length_append]
 omega
theorem rdB_get {l : List S109} {i : Nat} (h : i < l.length) : rd_T109 l (i : Int) = l[i] := by unfold rd_T109; simp [List.getD_eq_getElem?_getD, List.getElem?_eq_getElem h]
theorem pivot_loop (bs : List S109) (n : Int) (hb : bs.length < 1000000000) (hl : (allB bs).length < 1000000000) : ∀ (d k i : Nat), bs.length - i = d → i ≤ bs.length → d < k →
 block_Pivot.l0 k n (allB (bs.take i)) bs (bs.length : Int) (i : Int) = some ((sortE (allB bs)).take (clampN n (allB bs).length)) := by
 intro d
 induction d with
 | zero =>
  intro k i hd hi hk
  obtain ⟨k, rfl, _⟩ := succ_of hk
  obtain rfl : i = bs.length := by omega
  simp only [block_Pivot.l0]
  rw [if_neg (by omega), List.take_length, sort6_some hl]
  simp only [Option.bind_some, sortE_length]
  have h := clamp_told n (allB bs).length
  rw [if_pos h.1, if_pos h.2]
  rfl
 | succ d ih =>
  intro k i hd hi hk
  obtain ⟨k, rfl, hk'⟩ := succ_of hk
  have hlt : i < bs.length := by omega
  have ht := allB_take hlt
  have hle := allB_take_le bs (i + 1)
  rw [ht, List.length_append] at hle
  simp only [block_Pivot.l0, rdB_get hlt]
  rw [if_pos (by omega), if_pos (by omega), if_pos (by omega), if_pos (by omega), wrap_nat (by omega), ← ht]
  exact ih k (i + 1) (by omega) (by omega) (by omega)
theorem pivot_told (k : Nat) (bs : List S109) (n : Int) (hb : bs.length < k) (hb' : bs.length < 1000000000) (hl : (allB bs).length < 1000000000) : block_Pivot.f k bs n = some ((sortE (allB bs)).take (clampN n (allB bs).length)) := pivot_loop bs n hb' hl bs.length k 0 (by omega) (by omega) hb
end Go.Proofs.YthghkglkifeagaaGreat.V
end
