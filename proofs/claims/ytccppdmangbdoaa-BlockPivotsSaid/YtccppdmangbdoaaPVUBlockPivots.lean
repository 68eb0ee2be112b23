-- a text of this work, without what this claim doesn't use (wip/shake.py)
import Derived.Test.YtccppdmangbdoaaPVPentry
import Derived.Test.YtccppdmangbdoaaPVPvergerlaw6b
import Derived.Test.YtccppdmangbdoaaPVPblockb
import Derived.Test.YtccppdmangbdoaaPVPvergerref5
import Derived.Test.YtccppdmangbdoaaPVP5T
import Derived.Test.YtccppdmangbdoaaPVPentry1
import Derived.Test.YtccppdmangbdoaaPVPblock
import Derived.Test.YtccppdmangbdoaaPVXSort
import Derived.Test.YtccppdmangbdoaaPVCall
import Derived.Laws.CopyRow
import Derived.Laws.CopyOwn
import Derived.Laws.Externs
import Derived.Lib.Overlaps
import Derived.Lib.AppendZerosOnto
import Derived.Shelf.Spec.SlicesInsert
import Derived.Laws.Bits64b
section
namespace Go.Proofs.Ytccppdmangbdoaa.V
open Go.RowKit Go.Proofs.YtccppdmangbdoaaW.PrintWords Go.Proofs.YtccppdmangbdoaaW.PrintLast Go.Proofs.YtccppdmangbdoaaW.PrintMore
attribute [local go_sem] max2_int min2_int max_two min_two max_three min_three max_four min_four
set_option linter.unusedVariables false
set_option linter.unusedSimpArgs false
def vergerlaw6_BlockPivots.l0 : Nat → List (List (S31)) → Int → List (S26) → List (S28) → Int → Option (Bool)
  | 0, _, _, _, _, _ => none
  | k + 1, x0, x1, x5, x6, x7 => if x7 < (x0.length : Int) then (if 0 ≤ x7 then (if ((rd_L5 x0 x7).length : Int) > 40 then ((vergerlaw6_awake.f k).bind fun t103 => (some t103)) else ((block_Of.f k (rd_L5 x0 x7)).bind fun bt105 => (if x5.length < 4398046511104 then ((vergerref5_Of.f k (rd_L5 x0 x7)).bind fun bt113 => (if x6.length < 4398046511104 then (vergerlaw6_BlockPivots.l0 k x0 x1 (x5 ++ [(⟨bt105.1, bt105.2⟩ : S26)]) (x6 ++ [(⟨bt113.1, bt113.2⟩ : S28)]) (wrap64 (x7 + 1))) else (none))) else (none)))) else (none)) else ((block_Pivot.f k x5 x1).bind fun t120 => ((vergerref5_Pivot.f k x6 x1).bind fun t123 => ((vergerref5_Same.f k t120 t123).bind fun t126 => (if t126 = true then ((vergerlaw6_awake.f k).bind fun t127 => (some t127)) else (some false)))))
def vergerlaw6_BlockPivots.f (k : Nat) (l0 : List (List (S31))) (a1 : Int) : Option (Bool) := if (l0.length : Int) > 12 then ((vergerlaw6_awake.f k).bind fun t101 => (some t101)) else (vergerlaw6_BlockPivots.l0 k l0 a1 ([] : List (S26)) ([] : List (S28)) 0)
set_option maxHeartbeats 8000000 in
set_option maxRecDepth 100000 in
theorem vergerlaw6_BlockPivots.calls (k : Nat) (A0 : Option Addr) (c0 : Nat) (l0 : List (List (S31))) (a1 : Int) (r : Bool) (w : World) (hr0 : Kd.C (Kd.slice 31 k31) w A0 l0.length l0) (hc0 : l0.length ≤ c0) (h : vergerlaw6_BlockPivots.f k l0 a1 = some r) :
 Calls Try.prog 4 #[.slice A0 l0.length c0, .int .i64 a1] w fun e w' => e = .returned (.bool r) ∧ Below w.heap.size w w' := by
 have HR0 := Aside0.mk hr0; have HC0 := Aside0.mk hc0; clear hr0 hc0; have HB := Aside0.mk (Below.refl w.heap.size w); have H : (if (l0.length : Int) > 12 then ((vergerlaw6_awake.f k).bind fun t101 => (some t101)) else (vergerlaw6_BlockPivots.l0 k l0 a1 ([] : List (S26)) ([] : List (S28)) 0)) = some r := h; clear h
 by_cases c3 : (l0.length : Int) > 12
 · rw [if_pos c3] at H; have c3b0 : decide (12 < (l0.length : Int)) = true := decide_eq_true c3; have c3b1 : decide (12 < l0.length) = true := decide_eq_true (by omega); clear c3; replace H := Option.bind_eq_some_iff.mp H; obtain ⟨t101, A40, H⟩ := H; replace H : (some t101) = some r := H; have A4 := Aside0.mk A40; clear A40; obtain rfl := Option.some.inj H; go_enter Try.func4, Try.ntmps4
   go_wp2_with (first | ((with_reducible refine vl (f := 11) rfl ?_); refine xa (some 11) rfl rfl Try.func11 (by kernel_rfl) rfl #[] rfl (by (try simp only [uj, uo, uu]); first | done | rfl | (simp only [ui, uh]; rfl)) ?_; (with_reducible refine (vergerlaw6_awake.calls k  t101 _ A4.out).mono ?_); rintro e w5 ⟨rfl, hb⟩; refine ⟨_, rfl, ?_⟩; have n0_ := Aside0.mk (uz (by repeat (first | (with_reducible first | exact HB.out | apply uf | apply ud | apply ue) | exact HB.out)) hb); clear HB; have HB := n0_; clear n0_; (try clear hb); (try clear hb2); (try clear hk); (try clear hi)))
   go_ret
   exact ⟨by first | rfl | (simp [errW_none, errW_some] <;> rfl) | (simp [*, errW_none, errW_some] <;> rfl), by repeat (first | (with_reducible first | exact HB.out | apply uf | apply ud | apply ue) | exact HB.out)⟩
 · rw [if_neg c3] at H; have c3b0 : decide (12 < (l0.length : Int)) = false := decide_eq_false c3; have c3b1 : decide (12 < l0.length) = false := decide_eq_false (by omega); clear c3; have H' := Aside0.mk H; clear H; go_enter Try.func4, Try.ntmps4
   go_wp2
   go_loopg [5, 6, 7] k (fun kq v5 v6 v7 w' => ∃ (x5_1 : List (S26)) (x6_1 : List (S28)) (x7_1 : Int), v7 = .int .i64 x7_1 ∧ Aside0 (vergerlaw6_BlockPivots.l0 kq l0 a1 x5_1 x6_1 x7_1 = some r) ∧ Aside0 (kq ≤ k) ∧ Aside0 (Kd.N k26 26 w' w.heap.size (fun k_ => some k_ ≠ (v6 : Value).ownBlock) v5 x5_1) ∧ Aside0 (Kd.N k28 28 w' w.heap.size (fun k_ => some k_ ≠ (v5 : Value).ownBlock) v6 x6_1) ∧ Aside0 (Below w.heap.size w w'))
   case atStart => exact ⟨(([] : List (S26))), (([] : List (S28))), (0), (by first | rfl | (simp; done) | (simp [*]; done)), H', ⟨vu _⟩, ⟨by first | exact Kd.S_nil _ _ _ _ _ | exact Kd.N_nil _ _ _ _ _ | exact Kd.V_nil _ _ _ _ _ | exact Kd.Q_nil _ _ _ _ _ | exact Kd.R_nil _ _ _ _ _⟩, ⟨by first | exact Kd.S_nil _ _ _ _ _ | exact Kd.N_nil _ _ _ _ _ | exact Kd.V_nil _ _ _ _ _ | exact Kd.Q_nil _ _ _ _ _ | exact Kd.R_nil _ _ _ _ _⟩, ⟨by repeat (first | (with_reducible first | exact HB.out | apply uf | apply ud | apply ue) | exact HB.out)⟩⟩
   case round =>
    clear H'
    try clear c1
    try clear p2
    try clear c3
    try clear c3b0
    try clear c3b1
    try clear c4
    obtain ⟨x5_1, x6_1, x7_1, rfl, HA, HK1, HO_5, HO_6, HB⟩ := hrel
    cases gk with
    | zero => exact absurd HA.out (by simp [vergerlaw6_BlockPivots.l0])
    | succ k1 =>
     have H := HA.out; clear HA; simp only [vergerlaw6_BlockPivots.l0] at H
     by_cases c6 : x7_1 < (l0.length : Int)
     · rw [if_pos c6] at H; have c6b0 : decide (x7_1 < (l0.length : Int)) = true := decide_eq_true c6; clear c6
       by_cases c7 : 0 ≤ x7_1
       · rw [if_pos c7] at H; have c7b0 : decide (0 ≤ x7_1) = true := decide_eq_true c7; clear c7
         by_cases c8 : ((rd_L5 l0 x7_1).length : Int) > 40
         · rw [if_pos c8] at H; have c8b0 : decide (40 < ((rd_L5 l0 x7_1).length : Int)) = true := decide_eq_true c8; have c8b1 : decide (40 < (rd_L5 l0 x7_1).length) = true := decide_eq_true (by omega); clear c8; replace H := Option.bind_eq_some_iff.mp H; obtain ⟨t103, A90, H⟩ := H; replace H : (some t103) = some r := H; have A9 := Aside0.mk A90; clear A90; obtain rfl := Option.some.inj H; have p102 : 0 ≤ (x7_1 : Int) := ug (by first | (with_reducible assumption) | assumption); have q102 : x7_1 < (l0.length : Int) := ug (by first | (with_reducible assumption) | assumption); obtain ⟨ad102, A102_0, c102_0, e102, hx102_0, hl102_0, hi102_0⟩ := at_L5 HR0.out x7_1 p102 q102
           cases e102
           replace hx102_0 := (HB.out.cell (World.block_lt_of_cell? w _ hx102_0)).trans hx102_0; have HR102_0 := Aside0.mk hi102_0; have HC102_0 := Aside0.mk hl102_0; clear hi102_0 hl102_0; replace p102 := eq_true p102; replace q102 := eq_true q102
           go_wp2_with (first | ((with_reducible refine vl (f := 11) rfl ?_); refine xa (some 24) rfl rfl Try.func11 (by kernel_rfl) rfl #[] rfl (by (try simp only [uj, uo, uu]); first | done | rfl | (simp only [ui, uh]; rfl)) ?_; (with_reducible refine (vergerlaw6_awake.calls k1  t103 _ A9.out).mono ?_); rintro e w10 ⟨rfl, hb⟩; refine ⟨_, rfl, ?_⟩; have n0_ := Aside0.mk (Kd.N_below (by (with_reducible repeat (first | apply xl | apply xk | apply xp)); exact HO_5.out) hb); have n1_ := Aside0.mk (Kd.N_below (by (with_reducible repeat (first | apply xl | apply xk | apply xp)); exact HO_6.out) hb); have n2_ := Aside0.mk (uz (by repeat (first | (with_reducible first | exact HB.out | apply uf | apply ud | apply ue) | exact HB.out)) hb); clear HO_5; clear HO_6; clear HB; have HO_5 := n0_; have HO_6 := n1_; have HB := n2_; clear n0_ n1_ n2_; (try clear hb); (try clear hb2); (try clear hk); (try clear hi)))
           go_ret
           exact ⟨by first | rfl | (simp [errW_none, errW_some] <;> rfl) | (simp [*, errW_none, errW_some] <;> rfl), by repeat (first | (with_reducible first | exact HB.out | apply uf | apply ud | apply ue) | exact HB.out)⟩
         · rw [if_neg c8] at H; have c8b0 : decide (40 < ((rd_L5 l0 x7_1).length : Int)) = false := decide_eq_false c8; have c8b1 : decide (40 < (rd_L5 l0 x7_1).length) = false := decide_eq_false (by omega); clear c8; replace H := Option.bind_eq_some_iff.mp H; obtain ⟨⟨t105, t106⟩, A110, H⟩ := H; replace H : (if x5_1.length < 4398046511104 then ((vergerref5_Of.f k1 (rd_L5 l0 x7_1)).bind fun bt113 => (if x6_1.length < 4398046511104 then (vergerlaw6_BlockPivots.l0 k1 l0 a1 (x5_1 ++ [(⟨t105, t106⟩ : S26)]) (x6_1 ++ [(⟨bt113.1, bt113.2⟩ : S28)]) (wrap64 (x7_1 + 1))) else (none))) else (none)) = some r := H; have A11 := Aside0.mk A110; clear A110
           by_cases c12 : x5_1.length < 4398046511104
           · rw [if_pos c12] at H; have LMc12 := Aside0.mk c12; clear c12; obtain ⟨y109, hy109⟩ : ∃ y_ : List (S26), y_ = (x5_1 ++ [(⟨t105, t106⟩ : S26)]) := ⟨_, rfl⟩; (replace H : ((vergerref5_Of.f k1 (rd_L5 l0 x7_1)).bind fun bt113 => (if x6_1.length < 4398046511104 then (vergerlaw6_BlockPivots.l0 k1 l0 a1 y109 (x6_1 ++ [(⟨bt113.1, bt113.2⟩ : S28)]) (wrap64 (x7_1 + 1))) else (none))) = some r := by first | (rw [hy109]; with_reducible exact H) | (have H2_ := (uv _ _).symm.trans H; rw [hy109]; with_reducible exact H2_) | (have H2_ := (uv _ _).symm.trans H; with_reducible exact H2_) | with_reducible exact H | (rw [hy109]; exact H) | exact H); have Ny109 := Aside0.mk hy109; clear hy109; replace H := Option.bind_eq_some_iff.mp H; obtain ⟨⟨t113, t114⟩, A130, H⟩ := H; replace H : (if x6_1.length < 4398046511104 then (vergerlaw6_BlockPivots.l0 k1 l0 a1 y109 (x6_1 ++ [(⟨t113, t114⟩ : S28)]) (wrap64 (x7_1 + 1))) else (none)) = some r := H; have A13 := Aside0.mk A130; clear A130
             by_cases c14 : x6_1.length < 4398046511104
             · rw [if_pos c14] at H; have LMc14 := Aside0.mk c14; clear c14; obtain ⟨y117, hy117⟩ : ∃ y_ : List (S28), y_ = (x6_1 ++ [(⟨t113, t114⟩ : S28)]) := ⟨_, rfl⟩; (replace H : (vergerlaw6_BlockPivots.l0 k1 l0 a1 y109 y117 (wrap64 (x7_1 + 1))) = some r := by first | (rw [hy117]; with_reducible exact H) | (have H2_ := (uv _ _).symm.trans H; rw [hy117]; with_reducible exact H2_) | (have H2_ := (uv _ _).symm.trans H; with_reducible exact H2_) | with_reducible exact H | (rw [hy117]; exact H) | exact H); have Ny117 := Aside0.mk hy117; clear hy117; have H' := Aside0.mk H; clear H; have p102 : 0 ≤ (x7_1 : Int) := ug (by first | (with_reducible assumption) | assumption); have q102 : x7_1 < (l0.length : Int) := ug (by first | (with_reducible assumption) | assumption); obtain ⟨ad102, A102_0, c102_0, e102, hx102_0, hl102_0, hi102_0⟩ := at_L5 HR0.out x7_1 p102 q102
               cases e102
               replace hx102_0 := (HB.out.cell (World.block_lt_of_cell? w _ hx102_0)).trans hx102_0; have HR102_0 := Aside0.mk hi102_0; have HC102_0 := Aside0.mk hl102_0; clear hi102_0 hl102_0; replace p102 := eq_true p102; replace q102 := eq_true q102; have p104 : 0 ≤ (x7_1 : Int) := ug (by first | (with_reducible assumption) | assumption); have q104 : x7_1 < (l0.length : Int) := ug (by first | (with_reducible assumption) | assumption); obtain ⟨ad104, A104_0, c104_0, e104, hx104_0, hl104_0, hi104_0⟩ := at_L5 HR0.out x7_1 p104 q104; obtain rfl : ad102 = ad104 := (by injection e104); replace hx104_0 := (HB.out.cell (World.block_lt_of_cell? w _ hx104_0)).trans hx104_0; have HR104_0 := Aside0.mk hi104_0; have HC104_0 := Aside0.mk hl104_0; clear hi104_0 hl104_0; replace p104 := eq_true p104; replace q104 := eq_true q104; have ea_ := Option.some.inj (hx102_0.symm.trans hx104_0)
               injection ea_ with ea_ en_ ec_
               subst ea_; subst ec_; clear en_
               go_wp2_with (first | ((with_reducible refine vl (f := 12) rfl ?_); refine xa (some 30) rfl rfl Try.func12 (by kernel_rfl) rfl #[.slice A102_0 (rd_L5 l0 x7_1).length c102_0] rfl (by (try simp only [uj, uo, uu]); first | done | rfl | (simp only [ui, uh]; rfl)) ?_; (with_reducible refine (block_Of.calls k1 _ _ (rd_L5 l0 x7_1) t105 t106 _ ?side1 ?side2 A11.out).mono ?_); (case side1 => repeat (first | exact (Kd.C_below HR104_0.out HB.out) | (with_reducible refine vy ?_ _) | (with_reducible refine vx ?_ _) | (with_reducible refine xh ?_))); (case side2 => exact HC104_0.out); rintro e w15 ⟨v107, rfl, ho0, hb⟩; refine ⟨_, rfl, ?_⟩; have n0_ := Aside0.mk (Kd.N_below (by (with_reducible repeat (first | apply xl | apply xk | apply xp)); exact HO_5.out) hb); have n1_ := Aside0.mk (Kd.N_below (by (with_reducible repeat (first | apply xl | apply xk | apply xp)); exact HO_6.out) hb); have n2_ := Aside0.mk (Kd.V_lower (vw (ok' := fun k_ => some k_ ≠ (u5 : Value).ownBlock ∧ some k_ ≠ (u6 : Value).ownBlock) ho0 (fun k_ hk_ => ⟨(Kd.fresh' (Kd.N_lt (by (with_reducible repeat (first | apply xl | apply xk | apply xp)); exact HO_5.out)) k_ hk_), (Kd.fresh' (Kd.N_lt (by (with_reducible repeat (first | apply xl | apply xk | apply xp)); exact HO_6.out)) k_ hk_)⟩)) (ur (by repeat (first | (with_reducible first | exact HB.out | apply uf | apply ud | apply ue) | exact HB.out)))); have n3_ := Aside0.mk (uz (by repeat (first | (with_reducible first | exact HB.out | apply uf | apply ud | apply ue) | exact HB.out)) hb); clear HO_5; clear HO_6; clear HB; have HO_5 := n0_; have HO_6 := n1_; have HO108 := n2_; have HB := n3_; clear n0_ n1_ n2_ n3_; (try clear hb); (try clear hb2); (try clear hk); (try clear hi); (try clear ho0); obtain ⟨Ao17, co17, eo17⟩ := Kd.V_slice HO108.out; subst eo17) | ((with_reducible refine gate_builtin (b := .append) (xs := #[.tmp 25, .tmp 31]) rfl ?_); at_builtin; refine Kd.N_append k26 (w0 := w) w.heap.size rfl (.tmp 25) (.tmp 31) 40 26 (.agg #[(.int .i64 0), (.slice none 0 0)]) 32 rfl Try.underlying40 info26 rfl (by decide) (by omega) u5 x5_1 (⟨t105, t106⟩ : S26) [.int .i64 t105, .slice Ao17 t106.length co17] (fun k_ => some k_ ≠ (u6 : Value).ownBlock) (fun k_ => ((fun k_ => some k_ ≠ (u6 : Value).ownBlock)) k_ ∧ some k_ ≠ (u5 : Value).ownBlock) rfl rfl ?aP (fun _ hk => hk) ?aF ?aO ?aB ?aS ?aL ?_; (case aP => exact (k26_mkF _ _ (⟨t105, t106⟩ : S26) (xt (vw (ok' := (fun k_ => ((fun k_ => some k_ ≠ (u6 : Value).ownBlock)) k_ ∧ some k_ ≠ (u5 : Value).ownBlock)) (HO108.out) (fun k_ hk => ⟨hk.2, hk.1⟩))).2.1 (Kd.V_F (vw (ok' := (fun k_ => ((fun k_ => some k_ ≠ (u6 : Value).ownBlock)) k_ ∧ some k_ ≠ (u5 : Value).ownBlock)) (HO108.out) (fun k_ hk => ⟨hk.2, hk.1⟩))))); (case aB => exact (by repeat (first | (with_reducible first | exact HB.out | apply uf | apply ud | apply ue) | exact HB.out))); (case aF => exact (fun k_ hk => Kd.fresh' (Kd.N_lt (by (with_reducible repeat (first | apply xl | apply xk | apply xp)); exact HO_6.out)) k_ hk)); (case aO => exact (by (with_reducible repeat (first | apply xl | apply xk | apply xp)); exact HO_5.out)); (case aS => exact (ur (by repeat (first | (with_reducible first | exact HB.out | apply uf | apply ud | apply ue) | exact HB.out)))); (case aL => have := LMc12.out; omega); intro v110 w16 ho hb hg hat; rw [← Ny109.out] at ho; have n0_ := Aside0.mk (Kd.N_afterv (ok := (fun _ => True)) (by (with_reducible repeat (first | apply xl | apply xk | apply xp)); exact Kd.N_mono HO_6.out (fun _ hk => ⟨trivial, hk⟩)) hg hat); have n1_ := Aside0.mk (Kd.V_afterv (ok := (fun k_ => some k_ ≠ (u6 : Value).ownBlock)) (by (with_reducible repeat (first | apply xd | apply xc | apply xi)); exact vw HO108.out (fun _ hk => ⟨hk.2, hk.1⟩)) hg hat); have n2_ := Aside0.mk (hb); have n3_ := Aside0.mk (ho); clear HO_6; clear HO108; clear HB; clear HO_5; have HO_6 := n0_; have HO108 := n1_; have HB := n2_; have HO111 := n3_; clear n0_ n1_ n2_ n3_; clear ho hb hg hat; have p112 : 0 ≤ (x7_1 : Int) := ug (by first | (with_reducible assumption) | assumption); have q112 : x7_1 < (l0.length : Int) := ug (by first | (with_reducible assumption) | assumption); obtain ⟨ad112, A112_0, c112_0, e112, hx112_0, hl112_0, hi112_0⟩ := at_L5 HR0.out x7_1 p112 q112; obtain rfl : ad102 = ad112 := (by injection e112); replace hx112_0 := (HB.out.cell (World.block_lt_of_cell? w _ hx112_0)).trans hx112_0; have HR112_0 := Aside0.mk hi112_0; have HC112_0 := Aside0.mk hl112_0; clear hi112_0 hl112_0; replace p112 := eq_true p112; replace q112 := eq_true q112) | ((with_reducible refine vl (f := 14) rfl ?_); refine xa (some 38) rfl rfl Try.func14 (by kernel_rfl) rfl #[.slice A112_0 (rd_L5 l0 x7_1).length c112_0] rfl (by (try simp only [uj, uo, uu]); first | done | rfl | (simp only [ui, uh]; rfl)) ?_; (with_reducible refine (vergerref5_Of.calls k1 _ _ (rd_L5 l0 x7_1) t113 t114 _ ?side1 ?side2 A13.out).mono ?_); (case side1 => repeat (first | exact (Kd.C_below HR112_0.out HB.out) | (with_reducible refine vy ?_ _) | (with_reducible refine vx ?_ _) | (with_reducible refine xh ?_))); (case side2 => exact HC112_0.out); rintro e w18 ⟨v115, rfl, ho0, hb⟩; refine ⟨_, rfl, ?_⟩; have n0_ := Aside0.mk (Kd.N_elder' (by (with_reducible repeat (first | apply xl | apply xk | apply xp)); exact HO_6.out) (Kd.R_base ho0) hb); have n1_ := Aside0.mk (Kd.V_elder' (by (with_reducible repeat (first | apply xd | apply xc | apply xi)); exact HO108.out) (Kd.R_base ho0) hb); have n2_ := Aside0.mk (Kd.N_elder' (by (with_reducible repeat (first | apply xl | apply xk | apply xp)); exact HO111.out) (Kd.R_base ho0) hb); have n3_ := Aside0.mk (xr ho0 (ur (by repeat (first | (with_reducible first | exact HB.out | apply uf | apply ud | apply ue) | exact HB.out)))); have n4_ := Aside0.mk (uz (by repeat (first | (with_reducible first | exact HB.out | apply uf | apply ud | apply ue) | exact HB.out)) hb); clear HO_6; clear HO108; clear HO111; clear HB; have HO_6 := n0_; have HO108 := n1_; have HO111 := n2_; have HO116 := n3_; have HB := n4_; clear n0_ n1_ n2_ n3_ n4_; (try clear hb); (try clear hb2); (try clear hk); (try clear hi); (try clear ho0); obtain ⟨Ao20, co20, eo20⟩ := Kd.R_slice HO116.out; subst eo20) | ((with_reducible refine gate_builtin (b := .append) (xs := #[.tmp 33, .tmp 39]) rfl ?_); at_builtin; refine Kd.N_append k28 (w0 := w) w.heap.size rfl (.tmp 33) (.tmp 39) 41 28 (.agg #[(.int .i64 0), (.slice none 0 0)]) 32 rfl Try.underlying41 info28 rfl (by decide) (by omega) u6 x6_1 (⟨t113, t114⟩ : S28) [.int .i64 t113, .slice Ao20 t114.length co20] (fun k_ => some k_ ≠ (v110 : Value).ownBlock) (fun k_ => ((fun k_ => some k_ ≠ (v110 : Value).ownBlock)) k_ ∧ some k_ ≠ (u6 : Value).ownBlock) rfl rfl ?aP (fun _ hk => hk) ?aF ?aO ?aB ?aS ?aL ?_; (case aP => exact (k28_mkF _ _ (⟨t113, t114⟩ : S28) (xj (xe (ok' := (fun k_ => ((fun k_ => some k_ ≠ (v110 : Value).ownBlock)) k_ ∧ some k_ ≠ (u6 : Value).ownBlock)) (Kd.R_apart' (Kd.R_apart' (HO116.out) (Kd.N_typed HO111.out) (by decide)) (Kd.N_typed HO_6.out) (by decide)) (fun k_ hk => ⟨hk.1.2, hk.2⟩))).2.1 (Kd.R_F (xe (ok' := (fun k_ => ((fun k_ => some k_ ≠ (v110 : Value).ownBlock)) k_ ∧ some k_ ≠ (u6 : Value).ownBlock)) (Kd.R_apart' (Kd.R_apart' (HO116.out) (Kd.N_typed HO111.out) (by decide)) (Kd.N_typed HO_6.out) (by decide)) (fun k_ hk => ⟨hk.1.2, hk.2⟩))))); (case aB => exact (by repeat (first | (with_reducible first | exact HB.out | apply uf | apply ud | apply ue) | exact HB.out))); (case aF => exact (fun k_ hk => Kd.fresh' (Kd.N_lt (by (with_reducible repeat (first | apply xl | apply xk | apply xp)); exact HO111.out)) k_ hk)); (case aO => exact (by (with_reducible repeat (first | apply xl | apply xk | apply xp)); exact Kd.N_mono HO_6.out (fun _ hk => hk.1.2))); (case aS => exact (ur (by repeat (first | (with_reducible first | exact HB.out | apply uf | apply ud | apply ue) | exact HB.out)))); (case aL => have := LMc14.out; omega); intro v118 w19 ho hb hg hat; rw [← Ny117.out] at ho; have n0_ := Aside0.mk (Kd.V_afterv (ok := (fun k_ => some k_ ≠ (v110 : Value).ownBlock ∧ some k_ ≠ (.slice Ao20 t114.length co20 : Value).ownBlock)) (by (with_reducible repeat (first | apply xd | apply xc | apply xi)); exact vw HO108.out (fun _ hk => ⟨⟨hk.1.2, hk.2⟩, hk.1.1⟩)) hg hat); have n1_ := Aside0.mk (Kd.N_afterv (ok := (fun k_ => some k_ ≠ (.slice Ao20 t114.length co20 : Value).ownBlock)) (by (with_reducible repeat (first | apply xl | apply xk | apply xp)); exact Kd.N_mono HO111.out (fun _ hk => ⟨hk.2, hk.1⟩)) hg hat); have n2_ := Aside0.mk (hb); have n3_ := Aside0.mk (ho); clear HO108; clear HO111; clear HB; clear HO_6; clear HO116; have HO108 := n0_; have HO111 := n1_; have HB := n2_; have HO119 := n3_; clear n0_ n1_ n2_ n3_; clear ho hb hg hat))
               go_roundg k1
               case measure => have := HK1.out; omega
               case rel => exact ⟨(y109), (y117), (wrap64 (x7_1 + 1)), (by first | rfl | (simp; done) | (simp [*]; done)), H', ⟨by have := HK1.out; omega⟩, ⟨by (with_reducible repeat (first | apply xl | apply xk | apply xp)); exact Kd.N_mono HO111.out (fun _ hk => hk.2)⟩, ⟨by (with_reducible repeat (first | apply xl | apply xk | apply xp)); exact HO119.out⟩, ⟨by repeat (first | (with_reducible first | exact HB.out | apply uf | apply ud | apply ue) | exact HB.out)⟩⟩
             · rw [if_neg c14] at H; exact absurd H (by simp)
           · rw [if_neg c12] at H; exact absurd H (by simp)
       · rw [if_neg c7] at H; exact absurd H (by simp)
     · rw [if_neg c6] at H; have c6b0 : decide (x7_1 < (l0.length : Int)) = false := decide_eq_false c6; clear c6; replace H := Option.bind_eq_some_iff.mp H; obtain ⟨t120, A210, H⟩ := H; replace H : ((vergerref5_Pivot.f k1 x6_1 a1).bind fun t123 => ((vergerref5_Same.f k1 t120 t123).bind fun t126 => (if t126 = true then ((vergerlaw6_awake.f k1).bind fun t127 => (some t127)) else (some false)))) = some r := H; have A21 := Aside0.mk A210; clear A210; replace H := Option.bind_eq_some_iff.mp H; obtain ⟨t123, A220, H⟩ := H; replace H : ((vergerref5_Same.f k1 t120 t123).bind fun t126 => (if t126 = true then ((vergerlaw6_awake.f k1).bind fun t127 => (some t127)) else (some false))) = some r := H; have A22 := Aside0.mk A220; clear A220; replace H := Option.bind_eq_some_iff.mp H; obtain ⟨t126, A230, H⟩ := H; replace H : (if t126 = true then ((vergerlaw6_awake.f k1).bind fun t127 => (some t127)) else (some false)) = some r := H; have A23 := Aside0.mk A230; clear A230
       by_cases c24 : t126 = true
       · subst c24; (have H1 : ((vergerlaw6_awake.f k1).bind fun t127 => (some t127)) = some r := by rw [if_pos rfl] at H; exact H); clear H; have H := H1; clear H1; replace H := Option.bind_eq_some_iff.mp H; obtain ⟨t127, A250, H⟩ := H; replace H : (some t127) = some r := H; have A25 := Aside0.mk A250; clear A250; obtain rfl := Option.some.inj H; obtain ⟨Ao26, co26, eo26⟩ := Kd.N_slice HO_5.out; subst eo26
         go_wp2_with (first | ((with_reducible refine vl (f := 21) rfl ?_); refine xa (some 43) rfl rfl Try.func21 (by kernel_rfl) rfl #[.slice Ao26 x5_1.length co26, .int .i64 a1] rfl (by (try simp only [uj, uo, uu]); first | done | rfl | (simp only [ui, uh]; rfl)) ?_; (with_reducible refine (block_Pivot.calls k1 _ _ x5_1 a1 t120 _ ?side1 ?side2 A21.out).mono ?_); (case side1 => repeat (first | exact (Kd.N_reads' HO_5.out).2.2 | (with_reducible refine vy ?_ _) | (with_reducible refine vx ?_ _) | (with_reducible refine xh ?_))); (case side2 => exact (Kd.N_reads' HO_5.out).2.1); rintro e w27 ⟨v121, rfl, ho0, hb⟩; refine ⟨_, rfl, ?_⟩; have n0_ := Aside0.mk (Kd.N_below (by (with_reducible repeat (first | apply xl | apply xk | apply xp)); exact HO_5.out) hb); have n1_ := Aside0.mk (Kd.N_below (by (with_reducible repeat (first | apply xl | apply xk | apply xp)); exact HO_6.out) hb); have n2_ := Aside0.mk (Kd.V_lower (vw (ok' := fun k_ => some k_ ≠ (.slice Ao26 x5_1.length co26 : Value).ownBlock ∧ some k_ ≠ (u6 : Value).ownBlock) ho0 (fun k_ hk_ => ⟨(Kd.fresh' (Kd.N_lt (by (with_reducible repeat (first | apply xl | apply xk | apply xp)); exact HO_5.out)) k_ hk_), (Kd.fresh' (Kd.N_lt (by (with_reducible repeat (first | apply xl | apply xk | apply xp)); exact HO_6.out)) k_ hk_)⟩)) (ur (by repeat (first | (with_reducible first | exact HB.out | apply uf | apply ud | apply ue) | exact HB.out)))); have n3_ := Aside0.mk (uz (by repeat (first | (with_reducible first | exact HB.out | apply uf | apply ud | apply ue) | exact HB.out)) hb); clear HO_5; clear HO_6; clear HB; have HO_5 := n0_; have HO_6 := n1_; have HO122 := n2_; have HB := n3_; clear n0_ n1_ n2_ n3_; (try clear hb); (try clear hb2); (try clear hk); (try clear hi); (try clear ho0); obtain ⟨Ao28, co28, eo28⟩ := Kd.N_slice HO_6.out; subst eo28) | ((with_reducible refine vl (f := 22) rfl ?_); refine xa (some 46) rfl rfl Try.func22 (by kernel_rfl) rfl #[.slice Ao28 x6_1.length co28, .int .i64 a1] rfl (by (try simp only [uj, uo, uu]); first | done | rfl | (simp only [ui, uh]; rfl)) ?_; (with_reducible refine (vergerref5_Pivot.calls k1 _ _ x6_1 a1 t123 _ ?side1 ?side2 A22.out).mono ?_); (case side1 => repeat (first | exact (Kd.N_reads' HO_6.out).2.2 | (with_reducible refine vy ?_ _) | (with_reducible refine vx ?_ _) | (with_reducible refine xh ?_))); (case side2 => exact (Kd.N_reads' HO_6.out).2.1); rintro e w29 ⟨v124, rfl, ho0, hb⟩; refine ⟨_, rfl, ?_⟩; have n0_ := Aside0.mk (Kd.N_elder' (by (with_reducible repeat (first | apply xl | apply xk | apply xp)); exact HO_5.out) (Kd.R_base ho0) hb); have n1_ := Aside0.mk (Kd.N_elder' (by (with_reducible repeat (first | apply xl | apply xk | apply xp)); exact HO_6.out) (Kd.R_base ho0) hb); have n2_ := Aside0.mk (Kd.V_elder' (by (with_reducible repeat (first | apply xd | apply xc | apply xi)); exact HO122.out) (Kd.R_base ho0) hb); have n3_ := Aside0.mk (xr ho0 (ur (by repeat (first | (with_reducible first | exact HB.out | apply uf | apply ud | apply ue) | exact HB.out)))); have n4_ := Aside0.mk (uz (by repeat (first | (with_reducible first | exact HB.out | apply uf | apply ud | apply ue) | exact HB.out)) hb); clear HO_5; clear HO_6; clear HO122; clear HB; have HO_5 := n0_; have HO_6 := n1_; have HO122 := n2_; have HO125 := n3_; have HB := n4_; clear n0_ n1_ n2_ n3_ n4_; (try clear hb); (try clear hb2); (try clear hk); (try clear hi); (try clear ho0); obtain ⟨Ao30, co30, eo30⟩ := Kd.V_slice HO122.out; subst eo30; obtain ⟨Ao31, co31, eo31⟩ := Kd.R_slice HO125.out; subst eo31) | ((with_reducible refine vl (f := 20) rfl ?_); refine xa (some 47) rfl rfl Try.func20 (by kernel_rfl) rfl #[.slice Ao30 t120.length co30, .slice Ao31 t123.length co31] rfl (by (try simp only [uj, uo, uu]); first | done | rfl | (simp only [ui, uh]; rfl)) ?_; (with_reducible refine (vergerref5_Same.calls k1 _ _ t120 _ _ t123 true _ ?side1 ?side2 ?side3 ?side4 A23.out).mono ?_); (case side1 => repeat (first | exact (xt HO122.out).2.2 | (with_reducible refine vy ?_ _) | (with_reducible refine vx ?_ _) | (with_reducible refine xh ?_))); (case side2 => exact (xt HO122.out).2.1); (case side3 => repeat (first | exact (xj HO125.out).2.2 | (with_reducible refine vy ?_ _) | (with_reducible refine vx ?_ _) | (with_reducible refine xh ?_))); (case side4 => exact (xj HO125.out).2.1); rintro e w' ⟨rfl, ⟨nd, rfl⟩⟩; refine ⟨_, rfl, ?_⟩) | (go_at_call 11; (with_reducible refine (vergerlaw6_awake.calls k1  t127 _ A25.out).mono ?_); rintro e w32 ⟨rfl, hb⟩; have n0_ := Aside0.mk (Kd.N_below (by (with_reducible repeat (first | apply xl | apply xk | apply xp)); exact HO_5.out) hb); have n1_ := Aside0.mk (Kd.N_below (by (with_reducible repeat (first | apply xl | apply xk | apply xp)); exact HO_6.out) hb); have n2_ := Aside0.mk (Kd.V_below (by (with_reducible repeat (first | apply xd | apply xc | apply xi)); exact HO122.out) hb); have n3_ := Aside0.mk (xo (by (with_reducible repeat (first | apply uy | apply ux | apply vk)); exact HO125.out) hb); have n4_ := Aside0.mk (uz (by repeat (first | (with_reducible first | exact HB.out | apply uf | apply ud | apply ue) | exact HB.out)) hb); clear HO_5; clear HO_6; clear HO122; clear HO125; clear HB; have HO_5 := n0_; have HO_6 := n1_; have HO122 := n2_; have HO125 := n3_; have HB := n4_; clear n0_ n1_ n2_ n3_ n4_; (try clear hb); (try clear hb2); (try clear hk); (try clear hi)))
         go_ret
         exact ⟨by first | rfl | (simp [errW_none, errW_some] <;> rfl) | (simp [*, errW_none, errW_some] <;> rfl), by repeat (first | (with_reducible first | exact HB.out | apply uf | apply ud | apply ue) | exact HB.out)⟩
       · replace c24 := Bool.eq_false_iff.mpr c24; subst c24; (have H1 : (some false) = some r := by rw [if_neg (show ¬ (false = true) by decide)] at H; exact H); clear H; have H := H1; clear H1; obtain rfl := Option.some.inj H; obtain ⟨Ao33, co33, eo33⟩ := Kd.N_slice HO_5.out; subst eo33
         go_wp2_with (first | ((with_reducible refine vl (f := 21) rfl ?_); refine xa (some 43) rfl rfl Try.func21 (by kernel_rfl) rfl #[.slice Ao33 x5_1.length co33, .int .i64 a1] rfl (by (try simp only [uj, uo, uu]); first | done | rfl | (simp only [ui, uh]; rfl)) ?_; (with_reducible refine (block_Pivot.calls k1 _ _ x5_1 a1 t120 _ ?side1 ?side2 A21.out).mono ?_); (case side1 => repeat (first | exact (Kd.N_reads' HO_5.out).2.2 | (with_reducible refine vy ?_ _) | (with_reducible refine vx ?_ _) | (with_reducible refine xh ?_))); (case side2 => exact (Kd.N_reads' HO_5.out).2.1); rintro e w34 ⟨v121, rfl, ho0, hb⟩; refine ⟨_, rfl, ?_⟩; have n0_ := Aside0.mk (Kd.N_below (by (with_reducible repeat (first | apply xl | apply xk | apply xp)); exact HO_5.out) hb); have n1_ := Aside0.mk (Kd.N_below (by (with_reducible repeat (first | apply xl | apply xk | apply xp)); exact HO_6.out) hb); have n2_ := Aside0.mk (Kd.V_lower (vw (ok' := fun k_ => some k_ ≠ (.slice Ao33 x5_1.length co33 : Value).ownBlock ∧ some k_ ≠ (u6 : Value).ownBlock) ho0 (fun k_ hk_ => ⟨(Kd.fresh' (Kd.N_lt (by (with_reducible repeat (first | apply xl | apply xk | apply xp)); exact HO_5.out)) k_ hk_), (Kd.fresh' (Kd.N_lt (by (with_reducible repeat (first | apply xl | apply xk | apply xp)); exact HO_6.out)) k_ hk_)⟩)) (ur (by repeat (first | (with_reducible first | exact HB.out | apply uf | apply ud | apply ue) | exact HB.out)))); have n3_ := Aside0.mk (uz (by repeat (first | (with_reducible first | exact HB.out | apply uf | apply ud | apply ue) | exact HB.out)) hb); clear HO_5; clear HO_6; clear HB; have HO_5 := n0_; have HO_6 := n1_; have HO122 := n2_; have HB := n3_; clear n0_ n1_ n2_ n3_; (try clear hb); (try clear hb2); (try clear hk); (try clear hi); (try clear ho0); obtain ⟨Ao35, co35, eo35⟩ := Kd.N_slice HO_6.out; subst eo35) | ((with_reducible refine vl (f := 22) rfl ?_); refine xa (some 46) rfl rfl Try.func22 (by kernel_rfl) rfl #[.slice Ao35 x6_1.length co35, .int .i64 a1] rfl (by (try simp only [uj, uo, uu]); first | done | rfl | (simp only [ui, uh]; rfl)) ?_; (with_reducible refine (vergerref5_Pivot.calls k1 _ _ x6_1 a1 t123 _ ?side1 ?side2 A22.out).mono ?_); (case side1 => repeat (first | exact (Kd.N_reads' HO_6.out).2.2 | (with_reducible refine vy ?_ _) | (with_reducible refine vx ?_ _) | (with_reducible refine xh ?_))); (case side2 => exact (Kd.N_reads' HO_6.out).2.1); rintro e w36 ⟨v124, rfl, ho0, hb⟩; refine ⟨_, rfl, ?_⟩; have n0_ := Aside0.mk (Kd.N_elder' (by (with_reducible repeat (first | apply xl | apply xk | apply xp)); exact HO_5.out) (Kd.R_base ho0) hb); have n1_ := Aside0.mk (Kd.N_elder' (by (with_reducible repeat (first | apply xl | apply xk | apply xp)); exact HO_6.out) (Kd.R_base ho0) hb); have n2_ := Aside0.mk (Kd.V_elder' (by (with_reducible repeat (first | apply xd | apply xc | apply xi)); exact HO122.out) (Kd.R_base ho0) hb); have n3_ := Aside0.mk (xr ho0 (ur (by repeat (first | (with_reducible first | exact HB.out | apply uf | apply ud | apply ue) | exact HB.out)))); have n4_ := Aside0.mk (uz (by repeat (first | (with_reducible first | exact HB.out | apply uf | apply ud | apply ue) | exact HB.out)) hb); clear HO_5; clear HO_6; clear HO122; clear HB; have HO_5 := n0_; have HO_6 := n1_; have HO122 := n2_; have HO125 := n3_; have HB := n4_; clear n0_ n1_ n2_ n3_ n4_; (try clear hb); (try clear hb2); (try clear hk); (try clear hi); (try clear ho0); obtain ⟨Ao37, co37, eo37⟩ := Kd.V_slice HO122.out; subst eo37; obtain ⟨Ao38, co38, eo38⟩ := Kd.R_slice HO125.out; subst eo38) | ((with_reducible refine vl (f := 20) rfl ?_); refine xa (some 47) rfl rfl Try.func20 (by kernel_rfl) rfl #[.slice Ao37 t120.length co37, .slice Ao38 t123.length co38] rfl (by (try simp only [uj, uo, uu]); first | done | rfl | (simp only [ui, uh]; rfl)) ?_; (with_reducible refine (vergerref5_Same.calls k1 _ _ t120 _ _ t123 false _ ?side1 ?side2 ?side3 ?side4 A23.out).mono ?_); (case side1 => repeat (first | exact (xt HO122.out).2.2 | (with_reducible refine vy ?_ _) | (with_reducible refine vx ?_ _) | (with_reducible refine xh ?_))); (case side2 => exact (xt HO122.out).2.1); (case side3 => repeat (first | exact (xj HO125.out).2.2 | (with_reducible refine vy ?_ _) | (with_reducible refine vx ?_ _) | (with_reducible refine xh ?_))); (case side4 => exact (xj HO125.out).2.1); rintro e w' ⟨rfl, ⟨nd, rfl⟩⟩; refine ⟨_, rfl, ?_⟩))
         go_ret
         exact ⟨by first | rfl | (simp [errW_none, errW_some] <;> rfl) | (simp [*, errW_none, errW_some] <;> rfl), by repeat (first | (with_reducible first | exact HB.out | apply uf | apply ud | apply ue) | exact HB.out)⟩
end Go.Proofs.Ytccppdmangbdoaa.V
end
section
set_option linter.unusedVariables false
set_option linter.unusedSimpArgs false
namespace Go.Proofs.Ytccppdmangbdoaa.V
open Go.RowKit Go.Proofs.YtccppdmangbdoaaW.PrintWords Go.Proofs.YtccppdmangbdoaaW.PrintLast Go.Proofs.YtccppdmangbdoaaW.PrintMore
theorem same_loop (l : List E) (hl : l.length < 1000000000) : ∀ (d k i : Nat), l.length - i = d → i ≤ l.length → d < k → vergerref5_Same.l0 k l l (i : Int) = some true := by
 intro d
 induction d with
 | zero =>
  intro k i hd hi hk
  obtain ⟨k, rfl, _⟩ := succ_of hk
  simp only [vergerref5_Same.l0]
  rw [if_neg (by omega)]
 | succ d ih =>
  intro k i hd hi hk
  obtain ⟨k, rfl, hk'⟩ := succ_of hk
  have hz : (i : Int) < (l.length : Int) := by omega
  have h0 : (0 : Int) ≤ (i : Int) := by omega
  simp only [vergerref5_Same.l0, if_pos hz, if_pos h0, wrap_nat (show i ≤ 4611686018427387904 by omega)]
  rw [if_neg (by simp)]
  exact ih k (i + 1) (by omega) (by omega) (by omega)
theorem same_told (k : Nat) (l : List E) (hl : l.length < 1000000000) (hk : l.length < k) : vergerref5_Same.f k l l = some true := by
 unfold vergerref5_Same.f
 rw [if_pos rfl]
 exact same_loop l hl l.length k 0 (by omega) (by omega) hk
def downAt (l : List E) (j : Nat) : Bool := ltE (l.getD (j + 1) z31) (l.getD j z31)
def okTo (l : List E) : Nat → Bool
  | 0 => true
  | n + 1 => okTo l n && !downAt l n
theorem okTo_iff (l : List E) (n : Nat) : okTo l n = true ↔ ∀ j, j < n → downAt l j = false := by
 induction n with
 | zero => simp [okTo]
 | succ n ih =>
  simp only [okTo, Bool.and_eq_true, ih, Bool.not_eq_true']
  constructor
  · intro h j hj
    rcases Nat.lt_succ_iff_lt_or_eq.1 hj with h1 | h1
    · exact h.1 j h1
    · subst h1; exact h.2
  · intro h
    exact ⟨fun j hj => h j (by omega), h n (by omega)⟩
theorem issorted_loop (l : List E) (hl : l.length < 1000000000) : ∀ (i k : Nat), i < l.length → i + 4 ≤ k → api_Entry_46.l0 k l (i : Int) = some (okTo l i) := by
 intro i
 induction i with
 | zero =>
  intro k hi hk
  obtain ⟨k, rfl, _⟩ := succ_of (show 0 < k by omega)
  simp only [api_Entry_46.l0]
  rw [if_neg (by omega)]
  rfl
 | succ i ih =>
  intro k hi hk
  obtain ⟨k, rfl, _⟩ := succ_of (show 0 < k by omega)
  have h0 : ((i + 1 : Nat) : Int) > 0 := by omega
  have h1 : (0 : Int) ≤ ((i + 1 : Nat) : Int) := by omega
  have h2 : ((i + 1 : Nat) : Int) < (l.length : Int) := by omega
  have hw : wrap64 (((i + 1 : Nat) : Int) - 1) = (i : Int) := by rw [wsub1 (by omega) (by omega)]; omega
  have h3 : (0 : Int) ≤ (i : Int) := by omega
  have h4 : (i : Int) < (l.length : Int) := by omega
  simp only [api_Entry_46.l0, if_pos h0, if_pos h1, if_pos h2, hw, if_pos h3, if_pos h4, compare_told k (show 3 ≤ k by omega), Option.bind_some, rd_nat]
  by_cases hc : downAt l i = true
  · rw [if_pos ((cmpE_neg _ _).2 hc)]
    simp only [okTo, hc]
    simp
  · rw [if_neg (fun h => hc ((cmpE_neg _ _).1 h)), ih k (by omega) (by omega)]
    simp only [okTo]
    simp [hc]
theorem issorted_told (k : Nat) (l : List E) (hl : l.length < 1000000000) (hk : l.length + 4 ≤ k) : entry_Sorted.f k l = some (okTo l (l.length - 1)) := by
 unfold entry_Sorted.f api_Entry_46.f
 by_cases hn : l.length = 0
 · rw [hn]
   obtain ⟨k, rfl, _⟩ := succ_of (show 0 < k by omega)
   have hw : wrap64 (((0 : Nat) : Int) - 1) = -1 := wrap_id (by omega) (by omega)
   rw [hw]
   simp [api_Entry_46.l0, okTo]
 · rw [wsub1 (by omega) (by omega), issorted_loop l hl (l.length - 1) k (by omega) (by omega)]
   rfl
theorem okTo_sorted {l : List E} (h : SortedE l) : okTo l (l.length - 1) = true := by
 rw [okTo_iff]
 intro j hj
 unfold downAt
 have h1 : j + 1 < l.length := by omega
 have h2 : j < l.length := by omega
 simp only [List.getD_eq_getElem?_getD, List.getElem?_eq_getElem h1, List.getElem?_eq_getElem h2, Option.getD_some]
 have := sorted_get h (show j < j + 1 by omega) (List.getElem?_eq_getElem h2) (List.getElem?_eq_getElem h1)
 simpa [leE] using this
theorem okTo_sorted' {l : List E} {n : Nat} (h : SortedE l) (hn : l.length = n) : okTo l (n - 1) = true := by subst hn; exact okTo_sorted h
end Go.Proofs.Ytccppdmangbdoaa.V
end
section
set_option linter.unusedVariables false
set_option linter.unusedSimpArgs false
namespace Go.Proofs.Ytccppdmangbdoaa.V
open Go.RowKit Go.Proofs.YtccppdmangbdoaaW.PrintWords Go.Proofs.YtccppdmangbdoaaW.PrintLast Go.Proofs.YtccppdmangbdoaaW.PrintMore
def levGo : Nat → Nat → Int → Nat
  | 0, i, _ => i
  | d + 1, i, n => if (2 : Int) ^ i < n then levGo d (i + 1) n else i
def lev (n : Int) : Nat := levGo 62 0 n
theorem pow2_pos (i : Nat) : (0 : Int) < 2 ^ i := Int.pow_pos (by decide)
theorem pow2_lt : ∀ (i : Nat), i ≤ 62 → (2 : Int) ^ i ≤ 4611686018427387904 := by
 intro i hi
 have : (2 : Int) ^ i ≤ 2 ^ 62 := by
  have h : (2 : Nat) ^ i ≤ 2 ^ 62 := Nat.pow_le_pow_right (by decide) hi
  exact_mod_cast h
 simpa using this
theorem shl_one {i : Nat} (h : i ≤ 62) : shl .i64 1 (i : Int) = 2 ^ i := by
 unfold shl
 have h1 : min ((i : Int)).toNat IntKind.i64.bits = i := by show min _ 64 = i; omega
 rw [h1, Int.one_mul]
 have h2 := pow2_pos i
 have h3 := pow2_lt i h
 rw [i64_w]
 exact wrap_id (by omega) (by omega)
theorem level_loop (n : Int) : ∀ (d k i : Nat), i + d = 62 → d < k → block_Level.l0 k n (i : Int) = some ((levGo d i n : Nat) : Int) := by
 intro d
 induction d with
 | zero =>
  intro k i hd hk
  obtain ⟨k, rfl, _⟩ := succ_of hk
  simp only [block_Level.l0]
  rw [if_neg (by omega)]
  rfl
 | succ d ih =>
  intro k i hd hk
  obtain ⟨k, rfl, hk'⟩ := succ_of hk
  simp only [block_Level.l0]
  rw [if_pos (by omega), if_pos (by omega), shl_one (by omega), wrap_nat (by omega), ih k (i + 1) (by omega) (by omega)]
  simp only [levGo]
  by_cases hc : (2 : Int) ^ i < n
  · rw [if_pos hc, if_pos hc]
  · rw [if_neg hc, if_neg hc]
theorem level_told (k : Nat) (n : Int) (hk : 62 < k) : block_Level.f k n = some ((lev n : Nat) : Int) := level_loop n 62 k 0 (by omega) hk
theorem lev_le : ∀ (d i : Nat) (n : Int), levGo d i n ≤ i + d := by
 intro d
 induction d with
 | zero => intro i n; exact Nat.le_refl _
 | succ d ih =>
  intro i n
  simp only [levGo]
  split
  · exact Nat.le_trans (ih (i + 1) n) (by omega)
  · omega
theorem lev_62 (n : Int) : lev n ≤ 62 := by have := lev_le 62 0 n; unfold lev; omega
theorem sort6_some {l : List E} (h : l.length < 1000000000) : entry_Sort.f l = some (sortE l) := if_pos h
theorem of_told (k : Nat) (l : List E) (hl : l.length < 1000000000) (hk : 62 < k) : block_Of.f k l = some (((lev (l.length : Int) : Nat) : Int), sortE l) := by
 unfold block_Of.f
 rw [level_told k _ hk]
 simp only [Option.bind_some]
 rw [sort6_some hl]
 rfl
theorem blockok_told (k : Nat) (L : Int) (l : List E) (hl : l.length < 1000000000) (hk : l.length + 64 ≤ k) : block_Block_Ok.f k L l = some (decide (L = ((lev (l.length : Int) : Nat) : Int)) && okTo l (l.length - 1)) := by
 have h62 := lev_62 (l.length : Int)
 unfold block_Block_Ok.f
 rw [level_told k _ (by omega)]
 simp only [Option.bind_some]
 rw [issorted_told k l hl (by omega)]
 simp only [Option.bind_some]
 by_cases h0 : L ≥ 0
 · rw [if_pos h0]
   by_cases h1 : L ≤ 62
   · rw [if_pos h1]
     by_cases h2 : L = ((lev (l.length : Int) : Nat) : Int)
     · rw [if_pos h2, decide_eq_true h2, Bool.true_and]
     · rw [if_neg h2, decide_eq_false h2, Bool.false_and]
   · rw [if_neg h1, decide_eq_false (by omega), Bool.false_and]
 · rw [if_neg h0, decide_eq_false (by omega), Bool.false_and]
theorem blockok_of (k : Nat) (l : List E) (hl : l.length < 1000000000) (hk : l.length + 64 ≤ k) : block_Block_Ok.f k ((lev (l.length : Int) : Nat) : Int) (sortE l) = some true := by
 have hs := sortE_length l
 rw [blockok_told k _ _ (by omega) (by omega), hs, okTo_sorted' (sortE_sorted l) hs]
 simp
theorem min_told (L : Int) (l : List E) : block_Block_Min.f L l = some (match l with | [] => (0, 0, false) | a :: _ => (a.f0, a.f1, true)) := by
 unfold block_Block_Min.f
 cases l with
 | nil => rfl
 | cons a t =>
  have h1 : ¬ ((a :: t).length : Int) = 0 := by simp; omega
  have h2 : 0 < ((a :: t).length : Int) := by simp
  rw [if_neg h1, if_pos h2]
  rfl
theorem clamp_told (n : Int) (m : Nat) : 0 ≤ mn (mx n 0) (m : Int) ∧ mn (mx n 0) (m : Int) ≤ (m : Int) := by
 unfold mn mx
 omega
def clampN (n : Int) (m : Nat) : Nat := (mn (mx n 0) (m : Int)).toNat
def allB (bs : List S26) : List E := bs.flatMap fun b => b.f1
theorem allB_take {bs : List S26} {i : Nat} (h : i < bs.length) : allB (bs.take (i + 1)) = allB (bs.take i) ++ bs[i].f1 := by
 unfold allB
 rw [List.take_succ_eq_append_getElem h, List.flatMap_append]
 simp
theorem allB_take_le (bs : List S26) (i : Nat) : (allB (bs.take i)).length ≤ (allB bs).length := by
 have : allB bs = allB (bs.take i) ++ allB (bs.drop i) := by unfold allB; rw [← List.flatMap_append, List.take_append_drop]
 rw [this, List.length_append]
 omega
theorem rdB_get {l : List S26} {i : Nat} (h : i < l.length) : rd_T26 l (i : Int) = l[i] := by unfold rd_T26; simp [List.getD_eq_getElem?_getD, List.getElem?_eq_getElem h]
theorem pivot_loop (bs : List S26) (n : Int) (hb : bs.length < 1000000000) (hl : (allB bs).length < 1000000000) : ∀ (d k i : Nat), bs.length - i = d → i ≤ bs.length → d < k →
 block_Pivot.l0 k n (allB (bs.take i)) bs (bs.length : Int) (i : Int) = some ((sortE (allB bs)).take (clampN n (allB bs).length)) := by
 intro d
 induction d with
 | zero =>
  intro k i hd hi hk
  obtain ⟨k, rfl, _⟩ := succ_of hk
  obtain rfl : i = bs.length := by omega
  simp only [block_Pivot.l0]
  rw [if_neg (by omega), List.take_length, sort6_some hl]
  simp only [Option.bind_some, sortE_length]
  have h := clamp_told n (allB bs).length
  rw [if_pos h.1, if_pos h.2]
  rfl
 | succ d ih =>
  intro k i hd hi hk
  obtain ⟨k, rfl, hk'⟩ := succ_of hk
  have hlt : i < bs.length := by omega
  have ht := allB_take hlt
  have hle := allB_take_le bs (i + 1)
  rw [ht, List.length_append] at hle
  simp only [block_Pivot.l0, rdB_get hlt]
  rw [if_pos (by omega), if_pos (by omega), if_pos (by omega), if_pos (by omega), wrap_nat (by omega), ← ht]
  exact ih k (i + 1) (by omega) (by omega) (by omega)
theorem pivot_told (k : Nat) (bs : List S26) (n : Int) (hb : bs.length < k) (hb' : bs.length < 1000000000) (hl : (allB bs).length < 1000000000) : block_Pivot.f k bs n = some ((sortE (allB bs)).take (clampN n (allB bs).length)) := pivot_loop bs n hb' hl bs.length k 0 (by omega) (by omega) hb
theorem awake6 (k : Nat) (hk : 70 ≤ k) : vergerlaw6_awake.f k = some true := by
 have hs : sortE [(⟨3, 1⟩ : E), ⟨1, 2⟩, ⟨2, 3⟩] = [⟨1, 2⟩, ⟨2, 3⟩, ⟨3, 1⟩] := sortE_eq (by unfold SortedE; simp [leE_iff]) (by
  exact ((List.Perm.swap (⟨2, 3⟩ : E) ⟨3, 1⟩ []).cons ⟨1, 2⟩).symm.trans (List.Perm.swap (⟨3, 1⟩ : E) ⟨1, 2⟩ [⟨2, 3⟩] |>.trans (List.Perm.refl _)))
 have ho := of_told k [(⟨3, 1⟩ : E), ⟨1, 2⟩, ⟨2, 3⟩] (by decide) (by omega)
 have hok := blockok_of k [(⟨3, 1⟩ : E), ⟨1, 2⟩, ⟨2, 3⟩] (by decide) (by simp; omega)
 rw [hs] at ho hok
 have l3 : ((lev (([(⟨3, 1⟩ : E), ⟨1, 2⟩, ⟨2, 3⟩].length : Nat) : Int) : Nat) : Int) = 2 := by decide
 rw [l3] at ho hok
 have l5 : ((lev 5 : Nat) : Int) = 3 := by decide
 unfold vergerlaw6_awake.f
 rw [ho]
 simp only [Option.bind_some, min_told]
 rw [level_told k 5 (by omega), l5]
 simp only [Option.bind_some]
 rw [if_pos (by first | rfl | trivial), if_pos (by first | rfl | trivial), hok]
 rfl
end Go.Proofs.Ytccppdmangbdoaa.V
end
section
set_option linter.unusedVariables false
set_option linter.unusedSimpArgs false
namespace Go.Proofs.Ytccppdmangbdoaa.V
open Go.RowKit Go.Proofs.YtccppdmangbdoaaW.PrintWords Go.Proofs.YtccppdmangbdoaaW.PrintLast Go.Proofs.YtccppdmangbdoaaW.PrintMore
theorem reflevel_loop (n : Int) : ∀ (d k i : Nat), i + d = 62 → d < k → vergerref5_Level.l0 k n (i : Int) = some ((levGo d i n : Nat) : Int) := by
 intro d
 induction d with
 | zero =>
  intro k i hd hk
  obtain ⟨k, rfl, _⟩ := succ_of hk
  simp only [vergerref5_Level.l0]
  rw [if_neg (by omega)]
  rfl
 | succ d ih =>
  intro k i hd hk
  obtain ⟨k, rfl, hk'⟩ := succ_of hk
  simp only [vergerref5_Level.l0]
  rw [if_pos (by omega), if_pos (by omega), shl_one (by omega), wrap_nat (by omega), ih k (i + 1) (by omega) (by omega)]
  simp only [levGo]
  by_cases hc : (2 : Int) ^ i < n
  · rw [if_pos hc, if_pos hc]
  · rw [if_neg hc, if_neg hc]
theorem reflevel_told (k : Nat) (n : Int) (hk : 62 < k) : vergerref5_Level.f k n = some ((lev n : Nat) : Int) := reflevel_loop n 62 k 0 (by omega) hk
theorem refof_told (k : Nat) (l : List E) (hl : l.length < 1000000000) (hk : 2 * l.length + 63 ≤ k) : vergerref5_Of.f k l = some (((lev (l.length : Int) : Nat) : Int), sortE l) := by
 unfold vergerref5_Of.f
 rw [reflevel_told k _ (by omega)]
 simp only [Option.bind_some]
 rw [refsort_told k l hl (by omega)]
 rfl
end Go.Proofs.Ytccppdmangbdoaa.V
end
section
set_option linter.unusedVariables false
set_option linter.unusedSimpArgs false
namespace Go.Proofs.Ytccppdmangbdoaa.V
open Go.RowKit Go.Proofs.YtccppdmangbdoaaW.PrintWords Go.Proofs.YtccppdmangbdoaaW.PrintLast Go.Proofs.YtccppdmangbdoaaW.PrintMore
def allR (bs : List S28) : List E := bs.flatMap fun b => b.f1
theorem rdR_get {l : List S28} {i : Nat} (h : i < l.length) : rd_T28 l (i : Int) = l[i] := by unfold rd_T28; simp [List.getD_eq_getElem?_getD, List.getElem?_eq_getElem h]
theorem allR_take {bs : List S28} {i : Nat} (h : i < bs.length) : allR (bs.take (i + 1)) = allR (bs.take i) ++ bs[i].f1 := by
 unfold allR
 rw [List.take_succ_eq_append_getElem h, List.flatMap_append]
 simp
theorem allR_take_le (bs : List S28) (i : Nat) : (allR (bs.take i)).length ≤ (allR bs).length := by
 have : allR bs = allR (bs.take i) ++ allR (bs.drop i) := by unfold allR; rw [← List.flatMap_append, List.take_append_drop]
 rw [this, List.length_append]
 omega
theorem refall_loop (bs : List S28) (hb : bs.length < 1000000000) (hl : (allR bs).length < 1000000000) : ∀ (d k i : Nat), bs.length - i = d → i ≤ bs.length → d + 2 * (allR bs).length < k →
 vergerref5_All.l0 k bs (sortE (allR (bs.take i))) (i : Int) = some (sortE (allR bs)) := by
 intro d
 induction d with
 | zero =>
  intro k i hd hi hk
  obtain ⟨k, rfl, _⟩ := succ_of hk
  obtain rfl : i = bs.length := by omega
  simp only [vergerref5_All.l0]
  rw [if_neg (by omega), List.take_length]
 | succ d ih =>
  intro k i hd hi hk
  obtain ⟨k, rfl, hk'⟩ := succ_of hk
  have hlt : i < bs.length := by omega
  have ht := allR_take hlt
  have hle := allR_take_le bs (i + 1)
  rw [ht, List.length_append] at hle
  simp only [vergerref5_All.l0, rdR_get hlt]
  rw [if_pos (by omega), if_pos (by omega), refmerge_told k _ _ (by rw [sortE_length]; omega) (by rw [sortE_length]; omega)]
  simp only [Option.bind_some]
  rw [show sortE (sortE (allR (bs.take i)) ++ bs[i].f1) = sortE (allR (bs.take (i + 1))) from sortE_of_perm (by rw [ht]; exact (sortE_perm _).append_right _), wrap_nat (by omega)]
  exact ih k (i + 1) (by omega) (by omega) (by omega)
theorem refall_told (k : Nat) (bs : List S28) (hb : bs.length < 1000000000) (hl : (allR bs).length < 1000000000) (hk : bs.length + 2 * (allR bs).length < k) : vergerref5_All.f k bs = some (sortE (allR bs)) := by
 have := refall_loop bs hb hl bs.length k 0 (by omega) (by omega) hk
 rw [show sortE (allR (bs.take 0)) = [] from sortE_nil] at this
 exact this
theorem refpivot_told (k : Nat) (bs : List S28) (n : Int) (hb : bs.length < 1000000000) (hl : (allR bs).length < 1000000000) (hk : bs.length + 2 * (allR bs).length < k) : vergerref5_Pivot.f k bs n = some ((sortE (allR bs)).take (clampN n (allR bs).length)) := by
 unfold vergerref5_Pivot.f
 rw [refall_told k bs hb hl hk]
 simp only [Option.bind_some, sortE_length]
 have h := clamp_told n (allR bs).length
 rw [if_pos h.1, if_pos h.2]
 rfl
def toB (l : List E) : S26 := ⟨((lev (l.length : Int) : Nat) : Int), sortE l⟩
def toR (l : List E) : S28 := ⟨((lev (l.length : Int) : Nat) : Int), sortE l⟩
theorem all_same (ls : List (List E)) : allB (ls.map toB) = allR (ls.map toR) := by
 induction ls with
 | nil => rfl
 | cons a t ih => simp only [List.map_cons, allB, allR, List.flatMap_cons]; unfold allB allR at ih; rw [ih]; rfl
theorem all_len (ls : List (List E)) (h : ∀ l ∈ ls, l.length ≤ 40) : (allR (ls.map toR)).length ≤ 40 * ls.length := by
 induction ls with
 | nil => simp [allR]
 | cons a t ih =>
  have h1 := ih (fun l hl => h l (List.mem_cons_of_mem _ hl))
  have h2 := h a List.mem_cons_self
  unfold allR at *
  rw [List.map_cons, List.flatMap_cons, List.length_append, List.length_cons]
  have : (toR a).f1.length = a.length := sortE_length a
  omega
theorem rdL6_get {l : List (List E)} {i : Nat} (h : i < l.length) : rd_L5 l (i : Int) = l[i] := by unfold rd_L5; simp [List.getD_eq_getElem?_getD, List.getElem?_eq_getElem h]
theorem pivots_loop (ls : List (List E)) (n : Int) (hl : ls.length ≤ 12) : ∀ (d k i : Nat), ls.length - i = d → i ≤ ls.length → d + 1500 ≤ k → (∀ l ∈ ls.take i, l.length ≤ 40) →
 vergerlaw6_BlockPivots.l0 k ls n ((ls.take i).map toB) ((ls.take i).map toR) (i : Int) = some true := by
 intro d
 induction d with
 | zero =>
  intro k i hd hi hk hs
  obtain ⟨k, rfl, _⟩ := succ_of (show 0 < k by omega)
  obtain rfl : i = ls.length := by omega
  rw [List.take_length] at hs ⊢
  have h1 := all_len ls hs
  have h2 := all_same ls
  simp only [vergerlaw6_BlockPivots.l0]
  rw [if_neg (by omega), pivot_told k _ n (by simp; omega) (by simp; omega) (by rw [h2]; omega)]
  simp only [Option.bind_some]
  rw [refpivot_told k _ n (by simp; omega) (by omega) (by simp; omega), h2]
  simp only [Option.bind_some]
  have h3 := sortE_length (allR (ls.map toR))
  rw [same_told k _ (by rw [List.length_take]; omega) (by rw [List.length_take]; omega)]
  simp only [Option.bind_some]
  rw [if_pos (by first | rfl | trivial), awake6 k (by omega)]
  rfl
 | succ d ih =>
  intro k i hd hi hk hs
  obtain ⟨k, rfl, _⟩ := succ_of (show 0 < k by omega)
  have hlt : i < ls.length := by omega
  simp only [vergerlaw6_BlockPivots.l0, rdL6_get hlt]
  rw [if_pos (by omega), if_pos (by omega)]
  by_cases hc : (ls[i].length : Int) > 40
  · rw [if_pos hc, awake6 k (by omega)]
    rfl
  · rw [if_neg hc, of_told k _ (by omega) (by omega)]
    simp only [Option.bind_some]
    rw [if_pos (by simp; omega), refof_told k _ (by omega) (by omega)]
    simp only [Option.bind_some]
    rw [if_pos (by simp; omega), wrap_nat (by omega)]
    have := ih k (i + 1) (by omega) (by omega) (by omega) (by
     intro l hl2
     rw [List.take_succ_eq_append_getElem hlt] at hl2
     rcases List.mem_append.1 hl2 with h | h
     · exact hs l h
     · simp at h; subst h; omega)
    rw [List.take_succ_eq_append_getElem hlt, List.map_append, List.map_append] at this
    exact this
theorem BlockPivots_pure (ls : List (List E)) (n : Int) {P Q R : Prop} (_ : P) (_ : Q) (_ : R) : ∃ k, vergerlaw6_BlockPivots.f k ls n = some true := by
 refine ⟨2000, ?_⟩
 unfold vergerlaw6_BlockPivots.f
 by_cases h : (ls.length : Int) > 12
 · rw [if_pos h, awake6 2000 (by omega)]
   rfl
 · rw [if_neg h]
   exact pivots_loop ls n (by omega) ls.length 2000 0 (by omega) (by omega) (by omega) (by simp)
end Go.Proofs.Ytccppdmangbdoaa.V
end
