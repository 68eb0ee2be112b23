-- a text of this work, without what this claim doesn't use (wip/shake.py)
import Derived.Test.YthghkglkifeagaaGreatPVPvergerref5
import Derived.Test.YthghkglkifeagaaGreatPVMake
import Derived.Test.YthghkglkifeagaaGreatPVPentry1
import Derived.Test.YthghkglkifeagaaGreatPVPslices
import Derived.Test.YthghkglkifeagaaGreatPVP5T
import Derived.Test.YthghkglkifeagaaGreatPVPblockb
import Derived.Test.YthghkglkifeagaaGreatPVPblock
import Derived.Laws.Bits64b
set_option maxRecDepth 100000
set_option maxHeartbeats 8000000
section
namespace Go.Proofs.YthghkglkifeagaaGreat.V
open Go.RowKit Go.Proofs.YthghkglkifeagaaGreatW.PrintWords Go.Proofs.YthghkglkifeagaaGreatW.PrintLast Go.Proofs.YthghkglkifeagaaGreatW.PrintMore
attribute [local go_sem] max2_int min2_int max_two min_two max_three min_three max_four min_four
set_option linter.unusedVariables false
set_option linter.unusedSimpArgs false
mutual
def entry_Merge.l0 : Nat → List (S33) → List (S33) → List (S33) → Option ((List (S33)))
 | 0, _, _, _ => none
 | k + 1, x0, x1, x5 => if (x0.length : Int) > 0 then (entry_Merge.j1 k x0 x1 x5 (decide ((x1.length : Int) > 0))) else (entry_Merge.j1 k x0 x1 x5 false)
def entry_Merge.j1 : Nat → List (S33) → List (S33) → List (S33) → Bool → Option ((List (S33)))
 | 0, _, _, _, _ => none
 | k + 1, x0, x1, x5, x19 => if x19 = true then (if 0 < (x1.length : Int) then (if 0 < (x0.length : Int) then ((entry_Less.f k ((a0a x1 0).f0) ((a0a x1 0).f1) ((a0a x0 0).f0) ((a0a x0 0).f1)).bind fun t106 => (if t106 = true then (if x5.length < 8796093022208 then (if 1 ≤ (x1.length : Int) then (entry_Merge.l0 k x0 (x1.drop 1) (x5 ++ [(⟨(a0a x1 0).f0, (a0a x1 0).f1⟩ : S33)])) else (none)) else (none)) else (if x5.length < 8796093022208 then (if 1 ≤ (x0.length : Int) then (entry_Merge.l0 k (x0.drop 1) x1 (x5 ++ [(⟨(a0a x0 0).f0, (a0a x0 0).f1⟩ : S33)])) else (none)) else (none)))) else (none)) else (none)) else (if x5.length + x0.length < 8796093022208 then ((some (x5 ++ x0 : List (S33))).bind fun y125 => (if y125.length + x1.length < 8796093022208 then (some (y125 ++ x1)) else (none))) else (none))
end
def entry_Merge.f (k : Nat) (l0 : List (S33)) (l1 : List (S33)) : Option ((List (S33))) := if l0.length + l1.length < 1000000000 then (entry_Merge.l0 k l0 l1 (([] : List (S33)))) else none
theorem entry_Merge.calls (k : Nat) (P0_ : Nat → Prop) (A0 : Option Addr) (c0 : Nat) (l0 : List (S33)) (P1_ : Nat → Prop) (A1 : Option Addr) (c1 : Nat) (l1 : List (S33)) (r : List (S33)) (w : World) (hs0 : Kd.V k33 33 w w.heap.size (fun k_ => P0_ k_) (.slice A0 l0.length c0) l0) (hs1 : Kd.V k33 33 w w.heap.size (fun k_ => P1_ k_) (.slice A1 l1.length c1) l1) (h : entry_Merge.f k l0 l1 = some r) :
 Calls Tryz.prog 43 #[.slice A0 l0.length c0, .slice A1 l1.length c1] w fun e w' => ∃ v0_ : Value, e = .returned (v0_) ∧ Kd.R k33 33 w' w.heap.size (fun k_ => (w.heap.size ≤ k_)) v0_ r ∧ Below w.heap.size w w' := by
 have hu33 := Tryz.underlying33; have HO0 := za (show Kd.V k33 33 w w.heap.size (fun k_ => ((P0_ k_ ∨ P1_ k_) ∨ w.heap.size ≤ k_)) (.slice A0 l0.length c0) l0 from Kd.V_mono hs0 (fun k_ hk => .inl (.inl hk))); have HO1 := za (show Kd.V k33 33 w w.heap.size (fun k_ => ((P0_ k_ ∨ P1_ k_) ∨ w.heap.size ≤ k_)) (.slice A1 l1.length c1) l1 from Kd.V_mono hs1 (fun k_ hk => .inl (.inr hk))); have HB := za (Below.refl w.heap.size w); unfold entry_Merge.f at h
 have hlen_ : Aside0 (l0.length + l1.length < 1000000000) := by
  by_cases hc_ : l0.length + l1.length < 1000000000
  · exact ⟨hc_⟩
  · rw [if_neg hc_] at h; cases h
 rw [if_pos hlen_.out] at h; have H : (entry_Merge.l0 k l0 l1 (([] : List (S33)))) = some r := h; clear h; obtain ⟨y101, hy101⟩ : ∃ y_ : List (S33), y_ = (([] : List (S33))) := ⟨_, rfl⟩; (replace H : (entry_Merge.l0 k l0 l1 y101) = some r := by first | (rw [hy101]; with_reducible exact H) | (have H2_ := (ui _ _).symm.trans H; rw [hy101]; with_reducible exact H2_) | (have H2_ := (ui _ _).symm.trans H; with_reducible exact H2_) | with_reducible exact H | (rw [hy101]; exact H) | exact H); have Ny101 := za hy101; clear hy101; have H' := za H; clear H; go_enter Tryz.func43, Tryz.ntmps43
 go_wp2_with (first | ((with_reducible refine gate_dst (N := 11) rfl ?_); (try (refine gate_guard (by rfl) ?_; dsimp only)); refine Kd.R_make0 k33 _ 33 rfl (N := 11) rfl 35 _ _ rfl (wrap64 ((l0.length : Int) + (l1.length : Int))) rfl rfl Tryz.underlying35 _ 16 a0m (by decide) (ok := fun _ => True) trivial (mk0_ok _ _ hlen_.out).1 (mk0_ok _ _ hlen_.out).2 (Below.refl _ _) (ut _) ?_; intro v102 w3 ho4 hb hg_ hnew_; clear hg_ hnew_; (first | rw [← Ny101.out] at ho4 | (simp only [Int.reduceToNat] at ho4; rw [← Ny101.out] at ho4)); have n0_ := za (Kd.V_elder' HO0.out (Kd.R_base ho4) hb); have n1_ := za (Kd.V_elder' HO1.out (Kd.R_base ho4) hb); have n2_ := za (Kd.R_lower (Kd.R_newM (M := fun k_ => (w.heap.size ≤ k_)) ho4 (uu HB.out) (fun k_ h_ => h_)) (uu HB.out)); have n3_ := za (ur HB.out hb); clear HO0; clear HO1; clear HB; have HO0 := n0_; have HO1 := n1_; have HO103 := n2_; have HB := n3_; clear n0_ n1_ n2_ n3_; clear hb ho4))
 go_loopg [0, 1, 5] k (fun kq v0 v1 v5 w' => ∃ (x0_1 : List (S33)) (x1_1 : List (S33)) (x5_1 : List (S33)), Aside0 (entry_Merge.l0 kq x0_1 x1_1 x5_1 = some r) ∧ Aside0 (kq ≤ k) ∧ Aside0 (Kd.V k33 33 w' w.heap.size (fun k_ => ((P0_ k_ ∨ P1_ k_) ∨ w.heap.size ≤ k_) ∧ some k_ ≠ (v5 : Value).ownBlock) v0 x0_1) ∧ Aside0 (Kd.V k33 33 w' w.heap.size (fun k_ => ((P0_ k_ ∨ P1_ k_) ∨ w.heap.size ≤ k_) ∧ some k_ ≠ (v5 : Value).ownBlock) v1 x1_1) ∧ Aside0 (Kd.R k33 33 w' w.heap.size (fun k_ => (w.heap.size ≤ k_)) v5 x5_1) ∧ Aside0 (Below w.heap.size w w'))
 case atStart => exact ⟨(l0), (l1), (y101), H', ⟨ut _⟩, ⟨HO0.out⟩, ⟨HO1.out⟩, ⟨vz HO103.out (fun _ hk => hk.1)⟩, ⟨HB.out⟩⟩
 case round =>
  clear H'
  try clear c1
  obtain ⟨x0_1, x1_1, x5_1, HA, HK1, HO_0, HO_1, HO_5, HB⟩ := hrel
  cases gk with
  | zero => exact absurd HA.out (by simp [entry_Merge.l0])
  | succ k1 =>
   have H := HA.out; clear HA; simp only [entry_Merge.l0] at H; have HC5 := za H; clear H
   go_upto_region 2 with (fail)
   go_cut [19] (fun v19 wc => ∃ (kq : Nat) (x19_4 : Bool), v19 = .bool x19_4 ∧ Aside0 (entry_Merge.j1 kq x0_1 x1_1 x5_1 x19_4 = some r) ∧ Aside0 (kq ≤ k1) ∧ Aside0 (Kd.V k33 33 wc w.heap.size (fun k_ => ((P0_ k_ ∨ P1_ k_) ∨ w.heap.size ≤ k_) ∧ some k_ ≠ (u5 : Value).ownBlock) u0 x0_1) ∧ Aside0 (Kd.V k33 33 wc w.heap.size (fun k_ => ((P0_ k_ ∨ P1_ k_) ∨ w.heap.size ≤ k_) ∧ some k_ ≠ (u5 : Value).ownBlock) u1 x1_1) ∧ Aside0 (Kd.R k33 33 wc w.heap.size (fun k_ => (w.heap.size ≤ k_)) u5 x5_1) ∧ Aside0 (Below w.heap.size w wc))
   case first =>
    have H := HC5.out; clear HC5
    by_cases c6 : (x0_1.length : Int) > 0
    · rw [if_pos c6] at H; have c6b0 : decide (0 < (x0_1.length : Int)) = true := decide_eq_true c6; have c6b1 : decide (0 < x0_1.length) = true := decide_eq_true (by omega); clear c6; (first | rw [c6b0] | (simp only [ue, uf]; rw [c6b0]) | skip); have H' := za H; clear H; obtain ⟨Ao7, co7, eo7⟩ := xd HO_0.out; subst eo7; obtain ⟨Ao8, co8, eo8⟩ := xd HO_1.out; subst eo8
      go_wp2
      go_meet
      case rel => exact ⟨_, (decide ((x1_1.length : Int) > 0)), (by first | rfl | (simp; done) | (simp [*]; done)), H', ⟨by have := HK1.out; first | omega | exact ut _⟩, ⟨by (with_reducible repeat (first | apply Kd.V_alloc | apply Kd.V_drewN | apply Kd.V_drew)); exact HO_0.out⟩, ⟨by (with_reducible repeat (first | apply Kd.V_alloc | apply Kd.V_drewN | apply Kd.V_drew)); exact HO_1.out⟩, ⟨by (with_reducible repeat (first | apply Kd.R_alloc | apply Kd.R_drewN | apply Kd.R_drew)); exact HO_5.out⟩, ⟨by repeat (first | (with_reducible first | exact HB.out | apply uv | apply uw | apply us) | exact HB.out)⟩⟩
    · rw [if_neg c6] at H; have c6b0 : decide (0 < (x0_1.length : Int)) = false := decide_eq_false c6; have c6b1 : decide (0 < x0_1.length) = false := decide_eq_false (by omega); clear c6; (first | rw [c6b0] | (simp only [ue, uf]; rw [c6b0]) | skip); have H' := za H; clear H; obtain ⟨Ao9, co9, eo9⟩ := xd HO_0.out; subst eo9
      go_wp2
      go_meet
      case rel => exact ⟨_, (false), rfl, H', ⟨by have := HK1.out; first | omega | exact ut _⟩, ⟨HO_0.out⟩, ⟨HO_1.out⟩, ⟨HO_5.out⟩, ⟨HB.out⟩⟩
   case rest =>
    clear HC5
    try clear c1
    obtain ⟨kq, x19_4, rfl, HA, HJ4, HO_0, HO_1, HO_5, HB⟩ := hcut
    cases kq with
    | zero => exact absurd HA.out (by simp [entry_Merge.j1])
    | succ kj4 =>
     have H := HA.out; clear HA; simp only [entry_Merge.j1] at H
     by_cases c10 : x19_4 = true
     · subst c10; (have H1 : (if 0 < (x1_1.length : Int) then (if 0 < (x0_1.length : Int) then ((entry_Less.f kj4 ((a0a x1_1 0).f0) ((a0a x1_1 0).f1) ((a0a x0_1 0).f0) ((a0a x0_1 0).f1)).bind fun t106 => (if t106 = true then (if x5_1.length < 8796093022208 then (if 1 ≤ (x1_1.length : Int) then (entry_Merge.l0 kj4 x0_1 (x1_1.drop 1) (x5_1 ++ [(⟨(a0a x1_1 0).f0, (a0a x1_1 0).f1⟩ : S33)])) else (none)) else (none)) else (if x5_1.length < 8796093022208 then (if 1 ≤ (x0_1.length : Int) then (entry_Merge.l0 kj4 (x0_1.drop 1) x1_1 (x5_1 ++ [(⟨(a0a x0_1 0).f0, (a0a x0_1 0).f1⟩ : S33)])) else (none)) else (none)))) else (none)) else (none)) = some r := by rw [if_pos rfl] at H; exact H); clear H; have H := H1; clear H1
       by_cases c11 : 0 < (x1_1.length : Int)
       · rw [if_pos c11] at H; have c11b0 : decide (0 < (x1_1.length : Int)) = true := decide_eq_true c11; have c11b1 : decide (0 < x1_1.length) = true := decide_eq_true (by omega); clear c11
         by_cases c12 : 0 < (x0_1.length : Int)
         · rw [if_pos c12] at H; have c12b0 : decide (0 < (x0_1.length : Int)) = true := decide_eq_true c12; have c12b1 : decide (0 < x0_1.length) = true := decide_eq_true (by omega); clear c12; replace H := Option.bind_eq_some_iff.mp H; obtain ⟨t106, A130, H⟩ := H; replace H : (if t106 = true then (if x5_1.length < 8796093022208 then (if 1 ≤ (x1_1.length : Int) then (entry_Merge.l0 kj4 x0_1 (x1_1.drop 1) (x5_1 ++ [(⟨(a0a x1_1 0).f0, (a0a x1_1 0).f1⟩ : S33)])) else (none)) else (none)) else (if x5_1.length < 8796093022208 then (if 1 ≤ (x0_1.length : Int) then (entry_Merge.l0 kj4 (x0_1.drop 1) x1_1 (x5_1 ++ [(⟨(a0a x0_1 0).f0, (a0a x0_1 0).f1⟩ : S33)])) else (none)) else (none))) = some r := H; have A13 := za A130; clear A130
           by_cases c14 : t106 = true
           · subst c14; (have H1 : (if x5_1.length < 8796093022208 then (if 1 ≤ (x1_1.length : Int) then (entry_Merge.l0 kj4 x0_1 (x1_1.drop 1) (x5_1 ++ [(⟨(a0a x1_1 0).f0, (a0a x1_1 0).f1⟩ : S33)])) else (none)) else (none)) = some r := by rw [if_pos rfl] at H; exact H); clear H; have H := H1; clear H1
             by_cases c15 : x5_1.length < 8796093022208
             · rw [if_pos c15] at H; have LMc15 := za c15; clear c15; obtain ⟨y108, hy108⟩ : ∃ y_ : List (S33), y_ = (x5_1 ++ [(⟨(a0a x1_1 0).f0, (a0a x1_1 0).f1⟩ : S33)]) := ⟨_, rfl⟩; (replace H : (if 1 ≤ (x1_1.length : Int) then (entry_Merge.l0 kj4 x0_1 (x1_1.drop 1) y108) else (none)) = some r := by first | (rw [hy108]; with_reducible exact H) | (have H2_ := (ui _ _).symm.trans H; rw [hy108]; with_reducible exact H2_) | (have H2_ := (ui _ _).symm.trans H; with_reducible exact H2_) | with_reducible exact H | (rw [hy108]; exact H) | exact H); have Ny108 := za hy108; clear hy108
               by_cases c16 : 1 ≤ (x1_1.length : Int)
               · rw [if_pos c16] at H; have c16b0 := eq_true c16; have c16b1 : decide (1 ≤ (x1_1.length : Int)) = true := decide_eq_true c16; clear c16; obtain ⟨y111, hy111⟩ : ∃ y_ : List (S33), y_ = (x1_1.drop 1) := ⟨_, rfl⟩; (replace H : (entry_Merge.l0 kj4 x0_1 y111 y108) = some r := by first | (rw [hy111]; with_reducible exact H) | (have H2_ := (ui _ _).symm.trans H; rw [hy111]; with_reducible exact H2_) | (have H2_ := (ui _ _).symm.trans H; with_reducible exact H2_) | with_reducible exact H | (rw [hy111]; exact H) | exact H); have Ny111 := za hy111; clear hy111; have H' := za H; clear H
                 try go_wp2
                 have n0_ := za (Kd.V_drew HO_0.out); have n1_ := za (Kd.V_drew HO_1.out); have n2_ := za (Kd.R_drew HO_5.out); have n3_ := za (us HB.out); clear HO_0 HO_1 HO_5 HB; have HO_0 := n0_; have HO_1 := n1_; have HO_5 := n2_; have HB := n3_; clear n0_ n1_ n2_ n3_; obtain ⟨Ao18, co18, eo18⟩ := xd HO_1.out; (first | subst eo18 | (injection eo18 with f1_ f2_ f3_; have f4_ := f1_.symm; have f5_ := f3_.symm; clear f1_ f2_ f3_; subst f4_; subst f5_)); have p104 : 0 ≤ (0 : Int) := (by omega); have q104 : 0 < (x1_1.length : Int) := ud (by assumption); obtain ⟨ad104, e104, hx104_0, hx104_1⟩ := a0e (xa HO_1.out).2.2 0 p104 q104
                 cases e104
                 have qi104 : (0 < x1_1.length) = True := eq_true (by omega); (try rw [show ((0 : Int)).toNat = 0 from rfl] at hx104_0); (try rw [show 0 * 2 = 0 from rfl] at hx104_0); (try rw [Addr.add_zero'] at hx104_0); (try rw [show ((0 : Int)).toNat = 0 from rfl] at hx104_1); (try rw [show 0 * 2 = 0 from rfl] at hx104_1); (try rw [Addr.add_zero'] at hx104_1); replace p104 := eq_true p104; replace q104 := eq_true q104; obtain ⟨Ao19, co19, eo19⟩ := xd HO_0.out; (first | subst eo19 | (injection eo19 with f1_ f2_ f3_; have f4_ := f1_.symm; have f5_ := f3_.symm; clear f1_ f2_ f3_; subst f4_; subst f5_)); have p105 : 0 ≤ (0 : Int) := (by omega); have q105 : 0 < (x0_1.length : Int) := ud (by assumption); obtain ⟨ad105, e105, hx105_0, hx105_1⟩ := a0e (xa HO_0.out).2.2 0 p105 q105
                 cases e105
                 have qi105 : (0 < x0_1.length) = True := eq_true (by omega); (try rw [show ((0 : Int)).toNat = 0 from rfl] at hx105_0); (try rw [show 0 * 2 = 0 from rfl] at hx105_0); (try rw [Addr.add_zero'] at hx105_0); (try rw [show ((0 : Int)).toNat = 0 from rfl] at hx105_1); (try rw [show 0 * 2 = 0 from rfl] at hx105_1); (try rw [Addr.add_zero'] at hx105_1); replace p105 := eq_true p105; replace q105 := eq_true q105; refine start_ (n := 7) (S := fun w' => w'.cell? ad104 = some (.int .u64 ((a0a x1_1 0).f0)) ∧ w'.cell? ⟨ad104.block, ad104.off + 1, none⟩ = some (.int .i64 ((a0a x1_1 0).f1)) ∧ w'.cell? ad105 = some (.int .u64 ((a0a x0_1 0).f0)) ∧ w'.cell? ⟨ad105.block, ad105.off + 1, none⟩ = some (.int .i64 ((a0a x0_1 0).f1))) (ds := []) #[xX, xX, xX, xX, xX, xX, xX] (by kernel_rfl) rfl rfl ⟨hx104_0, hx104_1, hx105_0, hx105_1⟩ (fun hHeld => ?_); generalize wc.drew = w17 at HO_0 HO_1 HO_5 HB hx104_0 hx104_1 hx105_0 hx105_1 hHeld ⊢; refine pU (i := 0) (N := some 20) (bA 7 1) (by kernel_rfl) rfl ?_
                 refine pU (i := 1) (N := some 21) (bA 7 3) (by kernel_rfl) rfl ?_
                 refine pU (i := 3) (N := some 23) (bA 7 11) (by kernel_rfl) rfl ?_
                 refine pU (i := 4) (N := some 24) (bA 7 27) (by kernel_rfl) rfl ?_
                 refine tU (i := 2) (N := some 22) (bA 7 31) (by kernel_rfl) rfl hHeld (by (constructor; (rintro w' ⟨s0, s1, s2, s3⟩; go_simp; (with_reducible rfl)); (simp only [Act.put, ua, ub, uc, ue, uf]; rfl))) ?_
                 refine tU (i := 5) (N := some 25) (bA 7 63) (by kernel_rfl) rfl hHeld (by (constructor; (rintro w' ⟨s0, s1, s2, s3⟩; go_simp; (with_reducible rfl)); (simp only [Act.put, ua, ub, uc, ue, uf]; rfl))) ?_
                 refine one_ (i := 6) (N := some 26) (bA 7 127) rfl rfl (by kernel_rfl) (by decide) (fun K hK => ?_); refine goes_ Tryz.func53 (by kernel_rfl) rfl #[.agg #[.int .u64 ((a0a x1_1 0).f0), .int .i64 ((a0a x1_1 0).f1)], .agg #[.int .u64 ((a0a x0_1 0).f0), .int .i64 ((a0a x0_1 0).f1)]] (by rfl) rfl rfl (by (try simp only [ug, ul, uo]); first | done | rfl | (simp only [uk, uj]; rfl)) ?_; (with_reducible refine (entry_Less.calls kj4 ((a0a x1_1 0).f0) ((a0a x1_1 0).f1) ((a0a x0_1 0).f0) ((a0a x0_1 0).f1) true _ A13.out).mono ?_); rintro e w20 ⟨rfl, hb⟩; have HS0_ := (hb.cell (World.block_lt_of_cell? _ _ (hHeld.1))).trans (hHeld.1); have HS1_ := (hb.cell (World.block_lt_of_cell? _ _ (hHeld.2.1))).trans (hHeld.2.1); have HS2_ := (hb.cell (World.block_lt_of_cell? _ _ (hHeld.2.2.1))).trans (hHeld.2.2.1); have HS3_ := (hb.cell (World.block_lt_of_cell? _ _ (hHeld.2.2.2))).trans (hHeld.2.2.2); refine ⟨_, rfl, ?_⟩; have n0_ := za (Kd.V_below HO_0.out hb); have n1_ := za (Kd.V_below HO_1.out hb); have n2_ := za (Kd.R_below HO_5.out hb); have n3_ := za (ur HB.out hb); clear HO_0 HO_1 HO_5 HB; have HO_0 := n0_; have HO_1 := n1_; have HO_5 := n2_; have HB := n3_; clear n0_ n1_ n2_ n3_; (try clear hb); (try clear hk); (try clear hi); refine hK.out _ _ ⟨HS0_, HS1_, HS2_, HS3_⟩ (fun hHeld => ?_); clear hK K; refine vv (a' := ?_) ?_ ?_; rotate_left
                 · show Act.put _ (some 26) _ = _
                   simp only [Act.put, ua, ub, uc, ue, uf]; rfl
                 refine done_ (by kernel_rfl) ?_; have p107 : 0 ≤ (0 : Int) := (by omega); have q107 : 0 < (x1_1.length : Int) := ud (by assumption); obtain ⟨ad107, e107, hx107_0, hx107_1⟩ := a0e (xa HO_1.out).2.2 0 p107 q107; obtain rfl : ad104 = ad107 := (by injection e107); have qi107 : (0 < x1_1.length) = True := eq_true (by omega); (try rw [show ((0 : Int)).toNat = 0 from rfl] at hx107_0); (try rw [show 0 * 2 = 0 from rfl] at hx107_0); (try rw [Addr.add_zero'] at hx107_0); (try rw [show ((0 : Int)).toNat = 0 from rfl] at hx107_1); (try rw [show 0 * 2 = 0 from rfl] at hx107_1); (try rw [Addr.add_zero'] at hx107_1); replace p107 := eq_true p107; replace q107 := eq_true q107
                 try go_wp2_with (first | ((with_reducible refine gate_builtin (b := .append) (xs := #[.tmp 27, .tmp 31]) rfl ?_); (try (refine gate_guard (by rfl) ?_; dsimp only)); at_builtin; refine Kd.R_append k33 (w0 := w) w.heap.size rfl (.tmp 27) (.tmp 31) 35 33 (.agg #[(.int .u64 0), (.int .i64 0)]) 16 rfl Tryz.underlying35 a0m rfl (by decide) (by omega) u5 x5_1 (⟨(a0a x1_1 0).f0, (a0a x1_1 0).f1⟩ : S33) [.int .u64 ((a0a x1_1 0).f0), .int .i64 ((a0a x1_1 0).f1)] (fun k_ => (w.heap.size ≤ k_)) (fun _ => False) rfl rfl ?aP (fun _ hk => hk.elim) ?aF ?aO ?aB ?aS ?aL ?_; (case aP => exact a0v _ _ _ (⟨(a0a x1_1 0).f0, (a0a x1_1 0).f1⟩ : S33)); (case aB => exact HB.out); (case aF => exact (fun k_ hk => (Nat.le_trans (uu HB.out) hk))); (case aO => exact HO_5.out); (case aS => exact (uu HB.out)); (case aL => have := LMc15.out; omega); intro v109 w21 ho hb hg hat; rw [← Ny108.out] at ho; have n0_ := za (Kd.V_afterv (ok := (fun k_ => ((P0_ k_ ∨ P1_ k_) ∨ w.heap.size ≤ k_))) HO_0.out hg hat); have n1_ := za (Kd.V_afterv (ok := (fun k_ => ((P0_ k_ ∨ P1_ k_) ∨ w.heap.size ≤ k_))) HO_1.out hg hat); have n2_ := za (hb); have n3_ := za (ho); clear HO_0; clear HO_1; clear HB; clear HO_5; have HO_0 := n0_; have HO_1 := n1_; have HB := n2_; have HO110 := n3_; clear n0_ n1_ n2_ n3_; clear ho hb hg hat; have q22 : (1 : Int) ≤ ((x1_1.length : Int) : Int) := ud (by assumption); obtain ⟨i022, hi022, _, hsz22, _⟩ := info_parts a0m; have hroom22 : x1_1.length ≤ co18 := (xa HO_1.out).2.1; have hC22 : Kd.F k33 _ _ (some ad104) x1_1.length x1_1 := (Kd.V_at (base := w.heap.size) HO_1.out).2.2; have hcut22 := cut_from (P := Tryz.prog) 35 33 .i64 Tryz.underlying35 hi022 2 hsz22 (some ad104) x1_1.length co18 1 (by omega) q22; have hr22 := Kd.F_cut (m := (1 : Int).toNat) (c := co18) hC22 (by omega) hroom22; obtain ⟨A22, hA22⟩ : ∃ A1, A1 = (if co18 = (1 : Int).toNat then (some ad104) else ((some ad104) : Option Addr).map (·.add ((1 : Int).toNat * 2))) := ⟨_, rfl⟩; obtain ⟨c22, hc22⟩ : ∃ c1, c1 = co18 - (1 : Int).toNat := ⟨_, rfl⟩; have hy22 : y111.length = x1_1.length - (1 : Int).toNat := (by rw [Ny111.out, uk] <;> omega); rw [show (x1_1).drop (1 : Int).toNat = y111 from Ny111.out.symm] at hr22; replace hr22 : Kd.F k33 _ _ A22 y111.length y111 := (by rw [hA22]; exact hr22); rw [← hy22, ← hA22, ← hc22] at hcut22; have HO115 := za (show Kd.V k33 33 _ w.heap.size _ (.slice A22 y111.length c22) y111 from Kd.V_mk (by rw [hy22, hc22]; exact Nat.sub_le_sub_right hroom22 _) hr22); have HC115 := za (show y111.length ≤ c22 from by rw [hy22, hc22]; exact Nat.sub_le_sub_right hroom22 _); clear hr22 hC22 hroom22 hi022 hsz22 hc22; have KY22 := za hy22; have KA22 := za hA22; clear hy22 hA22; replace q22 := eq_true q22))
                 go_roundg kj4
                 case measure => have := HK1.out; have := HJ4.out; omega
                 case rel => exact ⟨(x0_1), (y111), (y108), H', ⟨by have := HK1.out; have := HJ4.out; omega⟩, ⟨HO_0.out⟩, ⟨HO115.out⟩, ⟨HO110.out⟩, ⟨HB.out⟩⟩
               · rw [if_neg c16] at H; exact absurd H (by simp)
             · rw [if_neg c15] at H; exact absurd H (by simp)
           · replace c14 := Bool.eq_false_iff.mpr c14; subst c14; (have H1 : (if x5_1.length < 8796093022208 then (if 1 ≤ (x0_1.length : Int) then (entry_Merge.l0 kj4 (x0_1.drop 1) x1_1 (x5_1 ++ [(⟨(a0a x0_1 0).f0, (a0a x0_1 0).f1⟩ : S33)])) else (none)) else (none)) = some r := by rw [if_neg (show ¬ (false = true) by decide)] at H; exact H); clear H; have H := H1; clear H1
             by_cases c23 : x5_1.length < 8796093022208
             · rw [if_pos c23] at H; have LMc23 := za c23; clear c23; obtain ⟨y117, hy117⟩ : ∃ y_ : List (S33), y_ = (x5_1 ++ [(⟨(a0a x0_1 0).f0, (a0a x0_1 0).f1⟩ : S33)]) := ⟨_, rfl⟩; (replace H : (if 1 ≤ (x0_1.length : Int) then (entry_Merge.l0 kj4 (x0_1.drop 1) x1_1 y117) else (none)) = some r := by first | (rw [hy117]; with_reducible exact H) | (have H2_ := (ui _ _).symm.trans H; rw [hy117]; with_reducible exact H2_) | (have H2_ := (ui _ _).symm.trans H; with_reducible exact H2_) | with_reducible exact H | (rw [hy117]; exact H) | exact H); have Ny117 := za hy117; clear hy117
               by_cases c24 : 1 ≤ (x0_1.length : Int)
               · rw [if_pos c24] at H; have c24b0 := eq_true c24; have c24b1 : decide (1 ≤ (x0_1.length : Int)) = true := decide_eq_true c24; clear c24; obtain ⟨y120, hy120⟩ : ∃ y_ : List (S33), y_ = (x0_1.drop 1) := ⟨_, rfl⟩; (replace H : (entry_Merge.l0 kj4 y120 x1_1 y117) = some r := by first | (rw [hy120]; with_reducible exact H) | (have H2_ := (ui _ _).symm.trans H; rw [hy120]; with_reducible exact H2_) | (have H2_ := (ui _ _).symm.trans H; with_reducible exact H2_) | with_reducible exact H | (rw [hy120]; exact H) | exact H); have Ny120 := za hy120; clear hy120; have H' := za H; clear H
                 try go_wp2
                 have n0_ := za (Kd.V_drew HO_0.out); have n1_ := za (Kd.V_drew HO_1.out); have n2_ := za (Kd.R_drew HO_5.out); have n3_ := za (us HB.out); clear HO_0 HO_1 HO_5 HB; have HO_0 := n0_; have HO_1 := n1_; have HO_5 := n2_; have HB := n3_; clear n0_ n1_ n2_ n3_; obtain ⟨Ao26, co26, eo26⟩ := xd HO_1.out; (first | subst eo26 | (injection eo26 with f1_ f2_ f3_; have f4_ := f1_.symm; have f5_ := f3_.symm; clear f1_ f2_ f3_; subst f4_; subst f5_)); have p104 : 0 ≤ (0 : Int) := (by omega); have q104 : 0 < (x1_1.length : Int) := ud (by assumption); obtain ⟨ad104, e104, hx104_0, hx104_1⟩ := a0e (xa HO_1.out).2.2 0 p104 q104
                 cases e104
                 have qi104 : (0 < x1_1.length) = True := eq_true (by omega); (try rw [show ((0 : Int)).toNat = 0 from rfl] at hx104_0); (try rw [show 0 * 2 = 0 from rfl] at hx104_0); (try rw [Addr.add_zero'] at hx104_0); (try rw [show ((0 : Int)).toNat = 0 from rfl] at hx104_1); (try rw [show 0 * 2 = 0 from rfl] at hx104_1); (try rw [Addr.add_zero'] at hx104_1); replace p104 := eq_true p104; replace q104 := eq_true q104; obtain ⟨Ao27, co27, eo27⟩ := xd HO_0.out; (first | subst eo27 | (injection eo27 with f1_ f2_ f3_; have f4_ := f1_.symm; have f5_ := f3_.symm; clear f1_ f2_ f3_; subst f4_; subst f5_)); have p105 : 0 ≤ (0 : Int) := (by omega); have q105 : 0 < (x0_1.length : Int) := ud (by assumption); obtain ⟨ad105, e105, hx105_0, hx105_1⟩ := a0e (xa HO_0.out).2.2 0 p105 q105
                 cases e105
                 have qi105 : (0 < x0_1.length) = True := eq_true (by omega); (try rw [show ((0 : Int)).toNat = 0 from rfl] at hx105_0); (try rw [show 0 * 2 = 0 from rfl] at hx105_0); (try rw [Addr.add_zero'] at hx105_0); (try rw [show ((0 : Int)).toNat = 0 from rfl] at hx105_1); (try rw [show 0 * 2 = 0 from rfl] at hx105_1); (try rw [Addr.add_zero'] at hx105_1); replace p105 := eq_true p105; replace q105 := eq_true q105; refine start_ (n := 7) (S := fun w' => w'.cell? ad104 = some (.int .u64 ((a0a x1_1 0).f0)) ∧ w'.cell? ⟨ad104.block, ad104.off + 1, none⟩ = some (.int .i64 ((a0a x1_1 0).f1)) ∧ w'.cell? ad105 = some (.int .u64 ((a0a x0_1 0).f0)) ∧ w'.cell? ⟨ad105.block, ad105.off + 1, none⟩ = some (.int .i64 ((a0a x0_1 0).f1))) (ds := []) #[xX, xX, xX, xX, xX, xX, xX] (by kernel_rfl) rfl rfl ⟨hx104_0, hx104_1, hx105_0, hx105_1⟩ (fun hHeld => ?_); generalize wc.drew = w25 at HO_0 HO_1 HO_5 HB hx104_0 hx104_1 hx105_0 hx105_1 hHeld ⊢; refine pU (i := 0) (N := some 20) (bA 7 1) (by kernel_rfl) rfl ?_
                 refine pU (i := 1) (N := some 21) (bA 7 3) (by kernel_rfl) rfl ?_
                 refine pU (i := 3) (N := some 23) (bA 7 11) (by kernel_rfl) rfl ?_
                 refine pU (i := 4) (N := some 24) (bA 7 27) (by kernel_rfl) rfl ?_
                 refine tU (i := 2) (N := some 22) (bA 7 31) (by kernel_rfl) rfl hHeld (by (constructor; (rintro w' ⟨s0, s1, s2, s3⟩; go_simp; (with_reducible rfl)); (simp only [Act.put, ua, ub, uc, ue, uf]; rfl))) ?_
                 refine tU (i := 5) (N := some 25) (bA 7 63) (by kernel_rfl) rfl hHeld (by (constructor; (rintro w' ⟨s0, s1, s2, s3⟩; go_simp; (with_reducible rfl)); (simp only [Act.put, ua, ub, uc, ue, uf]; rfl))) ?_
                 refine one_ (i := 6) (N := some 26) (bA 7 127) rfl rfl (by kernel_rfl) (by decide) (fun K hK => ?_); refine goes_ Tryz.func53 (by kernel_rfl) rfl #[.agg #[.int .u64 ((a0a x1_1 0).f0), .int .i64 ((a0a x1_1 0).f1)], .agg #[.int .u64 ((a0a x0_1 0).f0), .int .i64 ((a0a x0_1 0).f1)]] (by rfl) rfl rfl (by (try simp only [ug, ul, uo]); first | done | rfl | (simp only [uk, uj]; rfl)) ?_; (with_reducible refine (entry_Less.calls kj4 ((a0a x1_1 0).f0) ((a0a x1_1 0).f1) ((a0a x0_1 0).f0) ((a0a x0_1 0).f1) false _ A13.out).mono ?_); rintro e w28 ⟨rfl, hb⟩; have HS0_ := (hb.cell (World.block_lt_of_cell? _ _ (hHeld.1))).trans (hHeld.1); have HS1_ := (hb.cell (World.block_lt_of_cell? _ _ (hHeld.2.1))).trans (hHeld.2.1); have HS2_ := (hb.cell (World.block_lt_of_cell? _ _ (hHeld.2.2.1))).trans (hHeld.2.2.1); have HS3_ := (hb.cell (World.block_lt_of_cell? _ _ (hHeld.2.2.2))).trans (hHeld.2.2.2); refine ⟨_, rfl, ?_⟩; have n0_ := za (Kd.V_below HO_0.out hb); have n1_ := za (Kd.V_below HO_1.out hb); have n2_ := za (Kd.R_below HO_5.out hb); have n3_ := za (ur HB.out hb); clear HO_0 HO_1 HO_5 HB; have HO_0 := n0_; have HO_1 := n1_; have HO_5 := n2_; have HB := n3_; clear n0_ n1_ n2_ n3_; (try clear hb); (try clear hk); (try clear hi); refine hK.out _ _ ⟨HS0_, HS1_, HS2_, HS3_⟩ (fun hHeld => ?_); clear hK K; refine vv (a' := ?_) ?_ ?_; rotate_left
                 · show Act.put _ (some 26) _ = _
                   simp only [Act.put, ua, ub, uc, ue, uf]; rfl
                 refine done_ (by kernel_rfl) ?_; have p116 : 0 ≤ (0 : Int) := (by omega); have q116 : 0 < (x0_1.length : Int) := ud (by assumption); obtain ⟨ad116, e116, hx116_0, hx116_1⟩ := a0e (xa HO_0.out).2.2 0 p116 q116; obtain rfl : ad105 = ad116 := (by injection e116); have qi116 : (0 < x0_1.length) = True := eq_true (by omega); (try rw [show ((0 : Int)).toNat = 0 from rfl] at hx116_0); (try rw [show 0 * 2 = 0 from rfl] at hx116_0); (try rw [Addr.add_zero'] at hx116_0); (try rw [show ((0 : Int)).toNat = 0 from rfl] at hx116_1); (try rw [show 0 * 2 = 0 from rfl] at hx116_1); (try rw [Addr.add_zero'] at hx116_1); replace p116 := eq_true p116; replace q116 := eq_true q116
                 try go_wp2_with (first | ((with_reducible refine gate_builtin (b := .append) (xs := #[.tmp 35, .tmp 39]) rfl ?_); (try (refine gate_guard (by rfl) ?_; dsimp only)); at_builtin; refine Kd.R_append k33 (w0 := w) w.heap.size rfl (.tmp 35) (.tmp 39) 35 33 (.agg #[(.int .u64 0), (.int .i64 0)]) 16 rfl Tryz.underlying35 a0m rfl (by decide) (by omega) u5 x5_1 (⟨(a0a x0_1 0).f0, (a0a x0_1 0).f1⟩ : S33) [.int .u64 ((a0a x0_1 0).f0), .int .i64 ((a0a x0_1 0).f1)] (fun k_ => (w.heap.size ≤ k_)) (fun _ => False) rfl rfl ?aP (fun _ hk => hk.elim) ?aF ?aO ?aB ?aS ?aL ?_; (case aP => exact a0v _ _ _ (⟨(a0a x0_1 0).f0, (a0a x0_1 0).f1⟩ : S33)); (case aB => exact HB.out); (case aF => exact (fun k_ hk => (Nat.le_trans (uu HB.out) hk))); (case aO => exact HO_5.out); (case aS => exact (uu HB.out)); (case aL => have := LMc23.out; omega); intro v118 w29 ho hb hg hat; rw [← Ny117.out] at ho; have n0_ := za (Kd.V_afterv (ok := (fun k_ => ((P0_ k_ ∨ P1_ k_) ∨ w.heap.size ≤ k_))) HO_0.out hg hat); have n1_ := za (Kd.V_afterv (ok := (fun k_ => ((P0_ k_ ∨ P1_ k_) ∨ w.heap.size ≤ k_))) HO_1.out hg hat); have n2_ := za (hb); have n3_ := za (ho); clear HO_0; clear HO_1; clear HB; clear HO_5; have HO_0 := n0_; have HO_1 := n1_; have HB := n2_; have HO119 := n3_; clear n0_ n1_ n2_ n3_; clear ho hb hg hat; have q30 : (1 : Int) ≤ ((x0_1.length : Int) : Int) := ud (by assumption); obtain ⟨i030, hi030, _, hsz30, _⟩ := info_parts a0m; have hroom30 : x0_1.length ≤ co27 := (xa HO_0.out).2.1; have hC30 : Kd.F k33 _ _ (some ad105) x0_1.length x0_1 := (Kd.V_at (base := w.heap.size) HO_0.out).2.2; have hcut30 := cut_from (P := Tryz.prog) 35 33 .i64 Tryz.underlying35 hi030 2 hsz30 (some ad105) x0_1.length co27 1 (by omega) q30; have hr30 := Kd.F_cut (m := (1 : Int).toNat) (c := co27) hC30 (by omega) hroom30; obtain ⟨A30, hA30⟩ : ∃ A1, A1 = (if co27 = (1 : Int).toNat then (some ad105) else ((some ad105) : Option Addr).map (·.add ((1 : Int).toNat * 2))) := ⟨_, rfl⟩; obtain ⟨c30, hc30⟩ : ∃ c1, c1 = co27 - (1 : Int).toNat := ⟨_, rfl⟩; have hy30 : y120.length = x0_1.length - (1 : Int).toNat := (by rw [Ny120.out, uk] <;> omega); rw [show (x0_1).drop (1 : Int).toNat = y120 from Ny120.out.symm] at hr30; replace hr30 : Kd.F k33 _ _ A30 y120.length y120 := (by rw [hA30]; exact hr30); rw [← hy30, ← hA30, ← hc30] at hcut30; have HO124 := za (show Kd.V k33 33 _ w.heap.size _ (.slice A30 y120.length c30) y120 from Kd.V_mk (by rw [hy30, hc30]; exact Nat.sub_le_sub_right hroom30 _) hr30); have HC124 := za (show y120.length ≤ c30 from by rw [hy30, hc30]; exact Nat.sub_le_sub_right hroom30 _); clear hr30 hC30 hroom30 hi030 hsz30 hc30; have KY30 := za hy30; have KA30 := za hA30; clear hy30 hA30; replace q30 := eq_true q30))
                 go_roundg kj4
                 case measure => have := HK1.out; have := HJ4.out; omega
                 case rel => exact ⟨(y120), (x1_1), (y117), H', ⟨by have := HK1.out; have := HJ4.out; omega⟩, ⟨HO124.out⟩, ⟨HO_1.out⟩, ⟨HO119.out⟩, ⟨HB.out⟩⟩
               · rw [if_neg c24] at H; exact absurd H (by simp)
             · rw [if_neg c23] at H; exact absurd H (by simp)
         · rw [if_neg c12] at H; exact absurd H (by simp)
       · rw [if_neg c11] at H; exact absurd H (by simp)
     · replace c10 := Bool.eq_false_iff.mpr c10; subst c10; (have H1 : (if x5_1.length + x0_1.length < 8796093022208 then ((some (x5_1 ++ x0_1 : List (S33))).bind fun y125 => (if y125.length + x1_1.length < 8796093022208 then (some (y125 ++ x1_1)) else (none))) else (none)) = some r := by rw [if_neg (show ¬ (false = true) by decide)] at H; exact H); clear H; have H := H1; clear H1
       by_cases c31 : x5_1.length + x0_1.length < 8796093022208
       · rw [if_pos c31] at H; have LMc31 := za c31; clear c31; obtain ⟨y125, hy125⟩ : ∃ y_ : List (S33), y_ = (x5_1 ++ x0_1) := ⟨_, rfl⟩; rw [← hy125, ui] at H; have Ny125 := za hy125; clear hy125
         by_cases c32 : y125.length + x1_1.length < 8796093022208
         · rw [if_pos c32] at H; have LMc32 := za c32; clear c32; obtain ⟨y128, hy128⟩ : ∃ y_ : List (S33), y_ = (y125 ++ x1_1) := ⟨_, rfl⟩; (replace H : (some y128) = some r := by first | (rw [hy128]; with_reducible exact H) | (have H2_ := (ui _ _).symm.trans H; rw [hy128]; with_reducible exact H2_) | (have H2_ := (ui _ _).symm.trans H; with_reducible exact H2_) | with_reducible exact H | (rw [hy128]; exact H) | exact H); have Ny128 := za hy128; clear hy128; obtain rfl := Option.some.inj H; obtain ⟨Ao34, co34, eo34⟩ := xd HO_0.out; subst eo34
           go_wp2_with (first | ((with_reducible refine gate_builtin (b := .append) (xs := #[.tmp 43, .tmp 44]) rfl ?_); (try (refine gate_guard (by rfl) ?_; dsimp only)); at_builtin; refine Kd.R_append_rows k33 (w0 := w) w.heap.size rfl (.tmp 43) (.tmp 44) 35 33 (.agg #[(.int .u64 0), (.int .i64 0)]) 16 rfl Tryz.underlying35 a0m rfl (by decide) (by omega) u5 x5_1 x0_1 _ _ _ (fun k_ => (w.heap.size ≤ k_)) (fun _ => False) rfl rfl ?aO ?aR (fun _ _ h => h) (fun _ h => h.elim) ?aF ?aB ?aS ?aL ?_; (case aR => exact (xa HO_0.out).2.2); (case aB => exact HB.out); (case aF => exact (fun k_ hk => (Nat.le_trans (uu HB.out) hk))); (case aO => exact HO_5.out); (case aS => exact (uu HB.out)); (case aL => have := LMc31.out; omega); intro v126 w33 ho hb hg hat; rw [← Ny125.out] at ho; have n0_ := za (Kd.V_afterv (ok := (fun k_ => ((P0_ k_ ∨ P1_ k_) ∨ w.heap.size ≤ k_))) HO_0.out hg hat); have n1_ := za (Kd.V_afterv (ok := (fun k_ => ((P0_ k_ ∨ P1_ k_) ∨ w.heap.size ≤ k_))) HO_1.out hg hat); have n2_ := za (hb); have n3_ := za (ho); clear HO_0; clear HO_1; clear HB; clear HO_5; have HO_0 := n0_; have HO_1 := n1_; have HB := n2_; have HO127 := n3_; clear n0_ n1_ n2_ n3_; clear ho hb hg hat; obtain ⟨Ao36, co36, eo36⟩ := xd HO_1.out; subst eo36) | ((with_reducible refine gate_builtin (b := .append) (xs := #[.tmp 45, .tmp 46]) rfl ?_); (try (refine gate_guard (by rfl) ?_; dsimp only)); at_builtin; refine Kd.R_append_rows k33 (w0 := w) w.heap.size rfl (.tmp 45) (.tmp 46) 35 33 (.agg #[(.int .u64 0), (.int .i64 0)]) 16 rfl Tryz.underlying35 a0m rfl (by decide) (by omega) v126 y125 x1_1 _ _ _ (fun k_ => (w.heap.size ≤ k_)) (fun _ => False) rfl rfl ?aO ?aR (fun _ _ h => h) (fun _ h => h.elim) ?aF ?aB ?aS ?aL ?_; (case aR => exact (xa HO_1.out).2.2); (case aB => exact HB.out); (case aF => exact (fun k_ hk => (Nat.le_trans (uu HB.out) hk))); (case aO => exact HO127.out); (case aS => exact (uu HB.out)); (case aL => have := LMc32.out; omega); intro v129 w35 ho hb hg hat; rw [← Ny128.out] at ho; have n0_ := za (Kd.V_afterv (ok := (fun k_ => ((P0_ k_ ∨ P1_ k_) ∨ w.heap.size ≤ k_))) HO_0.out hg hat); have n1_ := za (Kd.V_afterv (ok := (fun k_ => ((P0_ k_ ∨ P1_ k_) ∨ w.heap.size ≤ k_))) HO_1.out hg hat); have n2_ := za (hb); have n3_ := za (ho); clear HO_0; clear HO_1; clear HB; clear HO127; have HO_0 := n0_; have HO_1 := n1_; have HB := n2_; have HO130 := n3_; clear n0_ n1_ n2_ n3_; clear ho hb hg hat))
           go_ret
           exact ⟨_, rfl, HO130.out, HB.out⟩
         · rw [if_neg c32] at H; exact absurd H (by simp)
       · rw [if_neg c31] at H; exact absurd H (by simp)
end Go.Proofs.YthghkglkifeagaaGreat.V
end
section
set_option linter.unusedVariables false
set_option linter.unusedSimpArgs false
namespace Go.Proofs.YthghkglkifeagaaGreat.V
open Go.RowKit Go.Proofs.YthghkglkifeagaaGreatW.PrintWords Go.Proofs.YthghkglkifeagaaGreatW.PrintLast Go.Proofs.YthghkglkifeagaaGreatW.PrintMore
def a5a (l : List E) (j : Nat) : Bool := ltE (l.getD (j + 1) z33) (l.getD j z33)
def okTo (l : List E) : Nat → Bool
  | 0 => true
  | n + 1 => okTo l n && !a5a l n
theorem b3z (l : List E) (n : Nat) : okTo l n = true ↔ ∀ j, j < n → a5a l j = false := by
 induction n with
 | zero => simp [okTo]
 | succ n ih =>
  simp only [okTo, Bool.and_eq_true, ih, Bool.not_eq_true']
  constructor
  · intro h j hj
    rcases Nat.lt_succ_iff_lt_or_eq.1 hj with h1 | h1
    · exact h.1 j h1
    · subst h1; exact h.2
  · intro h
    exact ⟨fun j hj => h j (by omega), h n (by omega)⟩
theorem b4x (l : List E) (hl : l.length < 1000000000) : ∀ (i k : Nat), i < l.length → i + 4 ≤ k → api_Entry_128.l0 k l (i : Int) = some (okTo l i) := by
 intro i
 induction i with
 | zero =>
  intro k hi hk
  obtain ⟨k, rfl, _⟩ := a1c (show 0 < k by omega)
  simp only [api_Entry_128.l0]
  rw [if_neg (by omega)]
  rfl
 | succ i ih =>
  intro k hi hk
  obtain ⟨k, rfl, _⟩ := a1c (show 0 < k by omega)
  have h0 : ((i + 1 : Nat) : Int) > 0 := by omega
  have h1 : (0 : Int) ≤ ((i + 1 : Nat) : Int) := by omega
  have h2 : ((i + 1 : Nat) : Int) < (l.length : Int) := by omega
  have hw : wrap64 (((i + 1 : Nat) : Int) - 1) = (i : Int) := by rw [a2w (by omega) (by omega)]; omega
  have h3 : (0 : Int) ≤ (i : Int) := by omega
  have h4 : (i : Int) < (l.length : Int) := by omega
  simp only [api_Entry_128.l0, if_pos h0, if_pos h1, if_pos h2, hw, if_pos h3, if_pos h4, a7n k (show 3 ≤ k by omega), Option.bind_some, a5y]
  by_cases hc : a5a l i = true
  · rw [if_pos ((a2h _ _).2 hc)]
    simp only [okTo, hc]
    simp
  · rw [if_neg (fun h => hc ((a2h _ _).1 h)), ih k (by omega) (by omega)]
    simp only [okTo]
    simp [hc]
theorem b9x (k : Nat) (l : List E) (hl : l.length < 1000000000) (hk : l.length + 4 ≤ k) : entry_Sorted.f k l = some (okTo l (l.length - 1)) := by
 unfold entry_Sorted.f api_Entry_128.f
 by_cases hn : l.length = 0
 · rw [hn]
   obtain ⟨k, rfl, _⟩ := a1c (show 0 < k by omega)
   have hw : wrap64 (((0 : Nat) : Int) - 1) = -1 := a1i (by omega) (by omega)
   rw [hw]
   simp [api_Entry_128.l0, okTo]
 · rw [a2w (by omega) (by omega), b4x l hl (l.length - 1) k (by omega) (by omega)]
   rfl
theorem b9i {l : List E} (h : a0d l) : okTo l (l.length - 1) = true := by
 rw [b3z]
 intro j hj
 unfold a5a
 have h1 : j + 1 < l.length := by omega
 have h2 : j < l.length := by omega
 simp only [List.getD_eq_getElem?_getD, List.getElem?_eq_getElem h1, List.getElem?_eq_getElem h2, Option.getD_some]
 have := b4g h (show j < j + 1 by omega) (List.getElem?_eq_getElem h2) (List.getElem?_eq_getElem h1)
 simpa [leE] using this
theorem b7w (k : Nat) (hk : 10 ≤ k) (l m : List E) (hl : l.length + m.length < 1000000000) : api_Entry_98.f k [l, m] = some (l ++ m) := by
 obtain ⟨k, rfl⟩ : ∃ q, k = q + 10 := ⟨k - 10, by omega⟩
 have r0 : a1n [l, m] 0 = l := rfl
 have r1 : a1n [l, m] 1 = m := rfl
 have e1 : wrap64 (0 + 1) = 1 := a1i (by omega) (by omega)
 have e2 : wrap64 (1 + 1) = 2 := a1i (by omega) (by omega)
 have s1 : wrap64 (0 + (l.length : Int)) = (l.length : Int) := by rw [a1i (by omega) (by omega)]; omega
 have s2 : wrap64 ((l.length : Int) + (m.length : Int)) = ((l.length + m.length : Nat) : Int) := wadd (by omega)
 have n1 : ¬ (l.length : Int) < 0 := by omega
 have n2 : ¬ ((l.length + m.length : Nat) : Int) < 0 := by omega
 have n3 : (0 : Int) < (([l, m] : List (List E)).length : Int) := by simp
 have n4 : (1 : Int) < (([l, m] : List (List E)).length : Int) := by simp
 have n5 : ¬ (2 : Int) < (([l, m] : List (List E)).length : Int) := by simp
 have z1 : (0 : Int) ≤ 1 := by decide
 have z0 : (0 : Int) ≤ 0 := by decide
 have g : api_Entry_118.f [] ((l.length + m.length : Nat) : Int) = some [] := if_pos ⟨rfl, by omega, by omega⟩
 have b1 : ([] : List E).length + l.length < 8796093022208 := by simp; omega
 have b2 : (([] : List E) ++ l).length + m.length < 8796093022208 := by simp; omega
 unfold api_Entry_98.f
 simp only [api_Entry_98.l0, if_pos n3, if_pos n4, if_neg n5, if_pos z0, if_pos z1, r0, r1, s1, if_neg n1, e1, s2, if_neg n2, e2, g, Option.bind_some, api_Entry_98.l1, if_pos b1, if_pos b2]
 simp
def a2l : Nat → Nat → Int → Nat
  | 0, i, _ => i
  | d + 1, i, n => if (2 : Int) ^ i < n then a2l d (i + 1) n else i
def lev (n : Int) : Nat := a2l 62 0 n
theorem c0q (i : Nat) : (0 : Int) < 2 ^ i := Int.pow_pos (by decide)
theorem b8o : ∀ (i : Nat), i ≤ 62 → (2 : Int) ^ i ≤ 4611686018427387904 := by
 intro i hi
 have : (2 : Int) ^ i ≤ 2 ^ 62 := by
  have h : (2 : Nat) ^ i ≤ 2 ^ 62 := Nat.pow_le_pow_right (by decide) hi
  exact_mod_cast h
 simpa using this
theorem b9e {i : Nat} (h : i ≤ 62) : shl .i64 1 (i : Int) = 2 ^ i := by
 unfold shl
 have h1 : min ((i : Int)).toNat IntKind.i64.bits = i := by show min _ 64 = i; omega
 rw [h1, Int.one_mul]
 have h2 := c0q i
 have h3 := b8o i h
 rw [i64_w]
 exact a1i (by omega) (by omega)
theorem b5q (n : Int) : ∀ (d k i : Nat), i + d = 62 → d < k → block_Level.l0 k n (i : Int) = some ((a2l d i n : Nat) : Int) := by
 intro d
 induction d with
 | zero =>
  intro k i hd hk
  obtain ⟨k, rfl, _⟩ := a1c hk
  simp only [block_Level.l0]
  rw [if_neg (by omega)]
  rfl
 | succ d ih =>
  intro k i hd hk
  obtain ⟨k, rfl, hk'⟩ := a1c hk
  simp only [block_Level.l0]
  rw [if_pos (by omega), if_pos (by omega), b9e (by omega), a1u (by omega), ih k (i + 1) (by omega) (by omega)]
  simp only [a2l]
  by_cases hc : (2 : Int) ^ i < n
  · rw [if_pos hc, if_pos hc]
  · rw [if_neg hc, if_neg hc]
theorem b0l (k : Nat) (n : Int) (hk : 62 < k) : block_Level.f k n = some ((lev n : Nat) : Int) := b5q n 62 k 0 (by omega) hk
theorem lev_le : ∀ (d i : Nat) (n : Int), a2l d i n ≤ i + d := by
 intro d
 induction d with
 | zero => intro i n; exact Nat.le_refl _
 | succ d ih =>
  intro i n
  simp only [a2l]
  split
  · exact Nat.le_trans (ih (i + 1) n) (by omega)
  · omega
def a4z (n : Int) (L : Nat) : Prop := n ≤ 2 ^ L ∧ (0 < L → (2 : Int) ^ (L - 1) < n)
theorem b7s : ∀ (d i : Nat) (n : Int), i + d = 62 → n ≤ 4611686018427387904 → (0 < i → (2 : Int) ^ (i - 1) < n) → a4z n (a2l d i n) := by
 intro d
 induction d with
 | zero =>
  intro i n hd hn hi
  obtain rfl : i = 62 := by omega
  exact ⟨by simpa [a2l] using hn, by simpa [a2l] using hi⟩
 | succ d ih =>
  intro i n hd hn hi
  simp only [a2l]
  by_cases hc : (2 : Int) ^ i < n
  · rw [if_pos hc]
    exact ih (i + 1) n (by omega) hn (fun _ => by simpa using hc)
  · rw [if_neg hc]
    exact ⟨by omega, hi⟩
theorem a4l {n : Int} (hn : n ≤ 4611686018427387904) : a4z n (lev n) := b7s 62 0 n (by omega) hn (by omega)
theorem a8p {a b : Nat} (h : a ≤ b) : (2 : Int) ^ a ≤ 2 ^ b := by
 have : (2 : Nat) ^ a ≤ 2 ^ b := Nat.pow_le_pow_right (by decide) h
 exact_mod_cast this
theorem c3i {n : Int} {L M : Nat} (h : a4z n L) (k : a4z n M) : L = M := by
 rcases Nat.lt_trichotomy L M with h1 | h1 | h1
 · have := k.2 (by omega)
   have := a8p (a := L) (b := M - 1) (by omega)
   have := h.1
   omega
 · exact h1
 · have := h.2 (by omega)
   have := a8p (a := M) (b := L - 1) (by omega)
   have := k.1
   omega
theorem b2e (n : Int) : lev n ≤ 62 := by have := lev_le 62 0 n; unfold lev; omega
theorem b0u {a b : Int} (h : a ≤ b) (hb : b ≤ 4611686018427387904) : lev a ≤ lev b := by
 have h1 := a4l (n := a) (by omega)
 have h2 := a4l hb
 rcases Nat.lt_or_ge (lev b) (lev a) with hc | hc
 · have := h1.2 (by omega)
   have := a8p (a := lev b) (b := lev a - 1) (by omega)
   have := h2.1
   omega
 · exact hc
theorem a5n {l : List E} (h : l.length < 1000000000) : entry_Sort.f l = some (a0b l) := if_pos h
theorem a4n (k : Nat) (l : List E) (hl : l.length < 1000000000) (hk : 62 < k) : block_Of.f k l = some (((lev (l.length : Int) : Nat) : Int), a0b l) := by
 unfold block_Of.f
 rw [b0l k _ hk]
 simp only [Option.bind_some]
 rw [a5n hl]
 rfl
theorem b0y (k : Nat) (L M : Int) (x y : List E) (hl : x.length + y.length < 1000000000) (hk : 62 < k) : block_Merge.f k L x M y = some (((lev ((x.length + y.length : Nat) : Int) : Nat) : Int), a0b (x ++ y)) := by
 unfold block_Merge.f
 rw [b7w k (by omega) x y hl]
 simp only [Option.bind_some]
 rw [a4n k _ (by simpa using hl) hk, List.length_append]
 rfl
theorem b3b (n : Int) (m : Nat) : 0 ≤ mn (mx n 0) (m : Int) ∧ mn (mx n 0) (m : Int) ≤ (m : Int) := by
 unfold mn mx
 omega
def a0o (n : Int) (m : Nat) : Nat := (mn (mx n 0) (m : Int)).toNat
theorem c3c (n : Int) (m : Nat) : a0o n m ≤ m := by have := b3b n m; unfold a0o; omega
def allB (bs : List S109) : List E := bs.flatMap fun b => b.f1
theorem a7u : allB [] = [] := rfl
theorem b1m {bs : List S109} {i : Nat} (h : i < bs.length) : allB (bs.take (i + 1)) = allB (bs.take i) ++ bs[i].f1 := by
 unfold allB
 rw [List.take_succ_eq_append_getElem h, List.flatMap_append]
 simp
theorem b0c (bs : List S109) (i : Nat) : (allB (bs.take i)).length ≤ (allB bs).length := by
 have : allB bs = allB (bs.take i) ++ allB (bs.drop i) := by unfold allB; rw [← List.flatMap_append, List.take_append_drop]
 rw [this, List.length_append]
 omega
theorem b1l {l : List S109} {i : Nat} (h : i < l.length) : a1f l (i : Int) = l[i] := by unfold a1f; simp [List.getD_eq_getElem?_getD, List.getElem?_eq_getElem h]
theorem c2r (bs : List S109) (n : Int) (hb : bs.length < 1000000000) (hl : (allB bs).length < 1000000000) : ∀ (d k i : Nat), bs.length - i = d → i ≤ bs.length → d < k →
 block_Pivot.l0 k n (allB (bs.take i)) bs (bs.length : Int) (i : Int) = some ((a0b (allB bs)).take (a0o n (allB bs).length)) := by
 intro d
 induction d with
 | zero =>
  intro k i hd hi hk
  obtain ⟨k, rfl, _⟩ := a1c hk
  obtain rfl : i = bs.length := by omega
  simp only [block_Pivot.l0]
  rw [if_neg (by omega), List.take_length, a5n hl]
  simp only [Option.bind_some, a0i]
  have h := b3b n (allB bs).length
  rw [if_pos h.1, if_pos h.2]
  rfl
 | succ d ih =>
  intro k i hd hi hk
  obtain ⟨k, rfl, hk'⟩ := a1c hk
  have hlt : i < bs.length := by omega
  have ht := b1m hlt
  have hle := b0c bs (i + 1)
  rw [ht, List.length_append] at hle
  simp only [block_Pivot.l0, b1l hlt]
  rw [if_pos (by omega), if_pos (by omega), if_pos (by omega), if_pos (by omega), a1u (by omega), ← ht]
  exact ih k (i + 1) (by omega) (by omega) (by omega)
theorem b0m (k : Nat) (bs : List S109) (n : Int) (hb : bs.length < k) (hb' : bs.length < 1000000000) (hl : (allB bs).length < 1000000000) : block_Pivot.f k bs n = some ((a0b (allB bs)).take (a0o n (allB bs).length)) := c2r bs n hb' hl bs.length k 0 (by omega) (by omega) hb
abbrev Bk := S109
theorem Bk.ext' {a b : Bk} (h0 : a.f0 = b.f0) (h1 : a.f1 = b.f1) : a = b := by cases a; cases b; simp_all
def mkB (l : List E) : Bk := ⟨((lev (l.length : Int) : Nat) : Int), a0b l⟩
def a0c (a b : Bk) : Bk := mkB (a.f1 ++ b.f1)
theorem b5c {l m : List E} (h : l.Perm m) : mkB l = mkB m := by
 unfold mkB; rw [h.length_eq, a1y h]
theorem b4i (a b : Bk) : a0c a b = a0c b a := b5c List.perm_append_comm
structure Sound (b : Bk) : Prop where
  lv : b.f0 = ((lev (b.f1.length : Int) : Nat) : Int)
  up : a0d b.f1
  ne : b.f1 ≠ []
theorem a5u {l : List E} (h : l ≠ []) : Sound (mkB l) :=
 ⟨by show _ = ((lev ((a0b l).length : Int) : Nat) : Int); rw [a0i]; rfl, a0y l, by
  intro e
  have := a0i l
  rw [show a0b l = [] from e] at this
  exact h (List.length_eq_zero_iff.1 this.symm)⟩
theorem c2s {a b : Bk} (ha : Sound a) : Sound (a0c a b) := a5u (by simp [ha.ne])
theorem Sound.pos {b : Bk} (h : Sound b) : 1 ≤ b.f1.length := by
 have := h.ne
 cases hb : b.f1 with
 | nil => exact absurd hb this
 | cons _ _ => simp
theorem c2d {a b : Bk} (ha : Sound a) (hb : Sound b) (he : a.f0 = b.f0) (hl : a.f1.length + b.f1.length < 1000000000) : (a0c a b).f0 = a.f0 + 1 := by
 have oa := a4l (n := (a.f1.length : Int)) (by omega)
 have ob := a4l (n := (b.f1.length : Int)) (by omega)
 have e1 := ha.lv
 have e2 := hb.lv
 obtain ⟨L, hL⟩ : ∃ L : Nat, lev (a.f1.length : Int) = L := ⟨_, rfl⟩
 have hL2 : lev (b.f1.length : Int) = L := by omega
 rw [hL] at oa e1
 rw [hL2] at ob
 have pa := ha.pos
 have pb := hb.pos
 have key : a4z (((a.f1 ++ b.f1).length : Nat) : Int) (L + 1) := by
  rw [List.length_append]
  obtain ⟨u1, l1⟩ := oa
  obtain ⟨u2, l2⟩ := ob
  have h2 : (2 : Int) ^ (L + 1) = 2 ^ L * 2 := Int.pow_succ 2 L
  refine ⟨by omega, fun _ => ?_⟩
  rw [Nat.add_sub_cancel]
  by_cases h0 : L = 0
  · subst h0; simp; omega
  · have h3 : (2 : Int) ^ L = 2 ^ (L - 1) * 2 := by rw [← Int.pow_succ]; congr 1; omega
    have := l1 (by omega)
    have := l2 (by omega)
    omega
 have h4 := c3i (a4l (n := (((a.f1 ++ b.f1).length : Nat) : Int)) (by rw [List.length_append]; omega)) key
 show ((lev (((a.f1 ++ b.f1).length : Nat) : Int) : Nat) : Int) = a.f0 + 1
 rw [h4, e1]
 rfl
def Desc (bs : List Bk) : Prop := bs.Pairwise fun a b => b.f0 < a.f0
structure Good (bs : List Bk) : Prop where
  snd : ∀ b ∈ bs, Sound b
  desc : Desc bs
theorem a9m : Good [] := ⟨by simp, List.Pairwise.nil⟩
theorem Good.sub {bs cs : List Bk} (h : Good bs) (hs : cs.Sublist bs) : Good cs := ⟨fun b hb => h.snd b (hs.subset hb), h.desc.sublist hs⟩
def insR (x : Bk) : List Bk → List Bk
  | [] => [x]
  | b :: r => if b.f0 < x.f0 then b :: insR x r else if b.f0 = x.f0 then insR (a0c b x) r else x :: b :: r
def ins (x : Bk) (bs : List Bk) : List Bk := (insR x bs.reverse).reverse
theorem b8y (x : Bk) : ∀ (c r : List Bk), (∀ b ∈ c, b.f0 < x.f0) → insR x (c ++ r) = c ++ insR x r := by
 intro c
 induction c with
 | nil => intro r _; rfl
 | cons b c ih =>
  intro r h
  show (if b.f0 < x.f0 then b :: insR x (c ++ r) else _) = _
  rw [if_pos (h b (by simp)), ih r (fun q hq => h q (by simp [hq]))]
  rfl
theorem a5b {x : Bk} {A C : List Bk} (hc : ∀ b ∈ C, b.f0 < x.f0) : ins x (A ++ C) = ins x A ++ C := by
 unfold ins
 rw [List.reverse_append, b8y x _ _ (by intro b hb; exact hc b (List.mem_reverse.1 hb)), List.reverse_append, List.reverse_reverse]
theorem b2w {x a : Bk} {A : List Bk} (h : a.f0 = x.f0) : ins x (A ++ [a]) = ins (a0c a x) A := by
 unfold ins
 rw [List.reverse_append]
 show (insR x (a :: A.reverse)).reverse = _
 rw [insR, if_neg (by omega), if_pos h]
theorem ins_gt {x a : Bk} {A : List Bk} (h : x.f0 < a.f0) : ins x (A ++ [a]) = A ++ [a] ++ [x] := by
 unfold ins
 rw [List.reverse_append]
 show (insR x (a :: A.reverse)).reverse = _
 rw [insR, if_neg (by omega), if_neg (by omega)]
 simp
structure Cur (x : Bk) (A C : List Bk) : Prop where
  snd : Sound x
  good : Good (A ++ C)
  up : ∀ a ∈ A, x.f0 ≤ a.f0
  dn : ∀ c ∈ C, c.f0 ≤ x.f0
def Mrg (cur fin : List Bk) : Prop := (Good cur ∧ fin = cur) ∨ ∃ x A C, cur = A ++ x :: C ∧ Cur x A C ∧ fin = ins x (A ++ C)
theorem desc_app {A C : List Bk} : Desc (A ++ C) ↔ Desc A ∧ Desc C ∧ ∀ a ∈ A, ∀ c ∈ C, c.f0 < a.f0 := List.pairwise_append
theorem Cur.weak {x : Bk} {A C : List Bk} (h : Cur x A C) : (A ++ x :: C).Pairwise fun a b => b.f0 ≤ a.f0 := by
 obtain ⟨d1, d2, d3⟩ := desc_app.1 h.good.desc
 rw [List.pairwise_append, List.pairwise_cons]
 refine ⟨d1.imp (fun h => by omega), ⟨h.dn, d2.imp (fun h => by omega)⟩, ?_⟩
 intro a ha c hc
 rcases List.mem_cons.1 hc with rfl | hc
 · exact h.up a ha
 · have := d3 a ha c hc; omega
theorem Mrg.weak {cur fin : List Bk} (h : Mrg cur fin) : cur.Pairwise fun a b => b.f0 ≤ a.f0 := by
 rcases h with ⟨h, _⟩ | ⟨x, A, C, rfl, h, _⟩
 · exact h.desc.imp (fun h => by omega)
 · exact h.weak
theorem Mrg.snd {cur fin : List Bk} (h : Mrg cur fin) : ∀ b ∈ cur, Sound b := by
 rcases h with ⟨h, _⟩ | ⟨x, A, C, rfl, h, _⟩
 · exact h.snd
 · intro b hb
   rcases List.mem_append.1 hb with hb | hb
   · exact h.good.snd b (by simp [hb])
   · rcases List.mem_cons.1 hb with rfl | hb
     · exact h.snd
     · exact h.good.snd b (by simp [hb])
theorem Mrg.done {cur fin : List Bk} (h : Mrg cur fin) (hn : ∀ i a b, cur[i]? = some a → cur[i + 1]? = some b → a.f0 ≠ b.f0) : fin = cur ∧ Good cur := by
 rcases h with ⟨h, rfl⟩ | ⟨x, A, C, rfl, h, rfl⟩
 · exact ⟨rfl, h⟩
 · have hC : ∀ c ∈ C, c.f0 < x.f0 := by
    intro c hc
    cases C with
    | nil => simp at hc
    | cons c0 C =>
     have h0 := hn A.length x c0 (by simp) (by simp)
     have h1 := h.dn c0 (by simp)
     rcases List.mem_cons.1 hc with rfl | hc
     · omega
     · obtain ⟨_, d2, _⟩ := desc_app.1 h.good.desc
       have := (List.pairwise_cons.1 d2).1 c hc
       omega
   have hA : ∀ a ∈ A, x.f0 < a.f0 := by
    intro a ha
    rcases List.eq_nil_or_concat A with rfl | ⟨A', a', rfl⟩
    · simp at ha
    · rw [List.concat_eq_append] at *
      have h0 := hn A'.length a' x (by simp) (by simp)
      have h1 := h.up a' (by simp)
      rcases List.mem_append.1 ha with ha | ha
      · obtain ⟨d1, _, _⟩ := desc_app.1 h.good.desc
        obtain ⟨_, _, d3⟩ := desc_app.1 d1
        have := d3 a ha a' (by simp)
        omega
      · obtain rfl : a = a' := by simpa using ha
        omega
   refine ⟨?_, Mrg.snd (fin := ins x (A ++ C)) (.inr ⟨x, A, C, rfl, h, rfl⟩), ?_⟩
   · rw [a5b hC]
     rcases List.eq_nil_or_concat A with rfl | ⟨A', a', rfl⟩
     · rfl
     · rw [List.concat_eq_append] at *
       rw [ins_gt (hA a' (by simp))]
       simp
   · obtain ⟨d1, d2, d3⟩ := desc_app.1 h.good.desc
     refine desc_app.2 ⟨d1, List.pairwise_cons.2 ⟨hC, d2⟩, ?_⟩
     intro a ha c hc
     rcases List.mem_cons.1 hc with rfl | hc
     · exact hA a ha
     · exact d3 a ha c hc
theorem b2f {x a : Bk} {A C : List Bk} (hx : Sound x) (ha : Sound a) (he : a.f0 = x.f0) (hg : Good (A ++ C)) (hA : ∀ q ∈ A, x.f0 < q.f0) (hC : ∀ q ∈ C, q.f0 < x.f0) (hl : a.f1.length + x.f1.length < 1000000000) :
 Cur (a0c a x) A C ∧ ins (a0c a x) (A ++ C) = ins (a0c a x) A ++ C := by
 have hj := c2d ha hx he hl
 exact ⟨⟨c2s ha, hg, fun q hq => by have := hA q hq; omega, fun q hq => by have := hC q hq; omega⟩, a5b (fun q hq => by have := hC q hq; omega)⟩
theorem a9g {A C : List Bk} {a : Bk} (h : Good (A ++ a :: C)) : Good (A ++ C) := h.sub (List.Sublist.append (List.Sublist.refl _) (List.sublist_cons_self _ _))
theorem Mrg.step {cur fin : List Bk} (h : Mrg cur fin) {i : Nat} {a b : Bk} (ha : cur[i]? = some a) (hb : cur[i + 1]? = some b) (he : a.f0 = b.f0) (hl : a.f1.length + b.f1.length < 1000000000) :
 Mrg (cur.take i ++ a0c a b :: cur.drop (i + 2)) fin := by
 rcases h with ⟨h, rfl⟩ | ⟨x, A, C, rfl, h, rfl⟩
 · obtain ⟨hi, rfl⟩ := List.getElem?_eq_some_iff.1 ha
   obtain ⟨hi', rfl⟩ := List.getElem?_eq_some_iff.1 hb
   have := List.pairwise_iff_getElem.1 h.desc i (i + 1) hi hi' (by omega)
   omega
 · obtain ⟨d1, d2, d3⟩ := desc_app.1 h.good.desc
   by_cases h1 : i + 1 < A.length
   · rw [List.getElem?_append_left (by omega)] at ha hb
     obtain ⟨hi, rfl⟩ := List.getElem?_eq_some_iff.1 ha
     obtain ⟨hi', rfl⟩ := List.getElem?_eq_some_iff.1 hb
     have := List.pairwise_iff_getElem.1 d1 i (i + 1) hi hi' (by omega)
     omega
   · by_cases h2 : i + 1 = A.length
     · 
       rcases List.eq_nil_or_concat A with rfl | ⟨A', a', rfl⟩
       · simp at h2
       · rw [List.concat_eq_append] at *
         have hi : i = A'.length := by simpa using h2
         subst hi
         obtain rfl : a' = a := by simpa using ha
         obtain rfl : x = b := by simpa using hb
         obtain ⟨e1, _, e3⟩ := desc_app.1 d1
         obtain ⟨k1, k2⟩ := b2f (x := x) (a := a') (A := A') (C := C) h.snd (h.good.snd a' (by simp)) he (by
          have := h.good
          rw [List.append_assoc] at this
          exact a9g this) (fun q hq => by have := e3 q hq a' (by simp); omega) (fun q hq => by have := d3 a' (by simp) q hq; omega) hl
         refine .inr ⟨a0c a' x, A', C, by simp, k1, ?_⟩
         rw [k2, a5b (fun q hq => by have := d3 a' (by simp) q hq; omega), b2w he]
     · 
       obtain ⟨j, rfl⟩ : ∃ j, i = A.length + j := ⟨i - A.length, by omega⟩
       rw [List.getElem?_append_right (by omega), show A.length + j - A.length = j by omega] at ha
       rw [List.getElem?_append_right (by omega), show A.length + j + 1 - A.length = j + 1 by omega] at hb
       cases j with
       | zero =>
        obtain rfl : x = a := by simpa using ha
        cases C with
        | nil => simp at hb
        | cons c C =>
         obtain rfl : c = b := by simpa using hb
         obtain ⟨e1, e2⟩ := List.pairwise_cons.1 d2
         have hA : ∀ q ∈ A, x.f0 < q.f0 := fun q hq => by have := d3 q hq c (by simp); omega
         have hC : ∀ q ∈ C, q.f0 < x.f0 := fun q hq => by have := e1 q hq; omega
         obtain ⟨k1, k2⟩ := b2f (x := x) (a := c) (A := A) (C := C) h.snd (h.good.snd c (by simp)) he.symm (a9g h.good) hA hC (by omega)
         refine .inr ⟨a0c c x, A, C, by rw [b4i x c]; simp, k1, ?_⟩
         rw [k2, show A ++ c :: C = (A ++ [c]) ++ C by simp, a5b hC, b2w he.symm]
       | succ j =>
        rw [List.getElem?_cons_succ] at ha hb
        obtain ⟨hi, rfl⟩ := List.getElem?_eq_some_iff.1 ha
        obtain ⟨hi', rfl⟩ := List.getElem?_eq_some_iff.1 hb
        have := List.pairwise_iff_getElem.1 d2 j (j + 1) hi hi' (by omega)
        omega
theorem a1g (a b : List Bk) : allB (a ++ b) = allB a ++ allB b := by simp [allB]
theorem a1l (a : Bk) (b : List Bk) : allB (a :: b) = a.f1 ++ allB b := by simp [allB]
theorem a4u (a b : Bk) : (a0c a b).f1.Perm (a.f1 ++ b.f1) := a0n _
theorem b4a : ∀ (r : List Bk) (x : Bk), (allB (insR x r)).Perm (x.f1 ++ allB r) := by
 intro r
 induction r with
 | nil => intro x; simp [insR, allB]
 | cons b r ih =>
  intro x
  rw [insR]
  split
  · rw [a1l, a1l]
    refine ((ih x).append_left _).trans ?_
    rw [← List.append_assoc, ← List.append_assoc]
    exact List.perm_append_comm.append_right _
  · split
    · refine (ih _).trans ?_
      rw [a1l, ← List.append_assoc]
      exact ((a4u b x).trans List.perm_append_comm).append_right _
    · rw [a1l]
theorem a9t (r : List Bk) : (allB r.reverse).Perm (allB r) := (List.reverse_perm r).flatMap_right _
theorem b2y (x : Bk) (bs : List Bk) : (allB (ins x bs)).Perm (x.f1 ++ allB bs) :=
 (a9t _).trans ((b4a _ _).trans ((a9t bs).append_left _))
theorem Mrg.all {cur fin : List Bk} (h : Mrg cur fin) : (allB fin).Perm (allB cur) := by
 rcases h with ⟨h, rfl⟩ | ⟨x, A, C, rfl, h, rfl⟩
 · exact List.Perm.refl _
 · refine (b2y _ _).trans ?_
   rw [a1g, a1g, a1l, ← List.append_assoc, ← List.append_assoc]
   exact List.perm_append_comm.append_right _
end Go.Proofs.YthghkglkifeagaaGreat.V
end
