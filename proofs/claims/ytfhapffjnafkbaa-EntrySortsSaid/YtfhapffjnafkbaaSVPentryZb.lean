-- a text of this work, without what this claim doesn't use (wip/shake.py)
import Derived.Test.YtfhapffjnafkbaaSVRow
import Derived.Test.YtfhapffjnafkbaaSVPcmp
import Derived.Test.YtfhapffjnafkbaaSVXSort
import Derived.Test.YtfhapffjnafkbaaSVXIndex
section
set_option linter.unusedVariables false
set_option linter.unusedSimpArgs false
namespace Go.Proofs.Ytfhapffjnafkbaa.V
open Go.RowKit Go.Proofs.YtfhapffjnafkbaaW.PrintWords Go.Proofs.YtfhapffjnafkbaaW.PrintLast Go.Proofs.YtfhapffjnafkbaaW.PrintMore
def api_Entry_63.f (l0 : List E) (n : Int) : Option (List E) := if l0.length = 0 ∧ 0 ≤ n ∧ n < 1000000000 then some [] else none
set_option maxHeartbeats 4000000 in
set_option maxRecDepth 100000 in
theorem grow_some (m : Nat) (w : World) (hm : 0 < m) (hl : m < 1000000000) :
 Calls Try.prog 63 #[.slice none 0 0, .int .i64 m] w fun e w' => ∃ v0_ : Value, e = .returned (v0_) ∧ Kd.R k33 33 w' w.heap.size (fun _ => True) v0_ [] ∧ Below w.heap.size w w' := by
 have u44 := Try.underlying44
 obtain ⟨i0, hi0, hzz⟩ := Option.map_eq_some_iff.1 info33
 simp only [Prod.mk.injEq] at hzz
 obtain ⟨hz0, hz1, hz2⟩ := hzz
 have hold : (Builtin.firstCells i0.size 0 (.slice none 0 0)).run Try.prog w.drew = .ok (([] : List Value)).toArray w.drew := run_firstCells_none w.drew i0.size 0 0 0
 obtain ⟨G, hG⟩ : ∃ G, G = grownCap w m 0 33 := ⟨_, rfl⟩
 obtain ⟨ROW, hROW⟩ : ∃ ROW : Array Value, ROW = (([] : List Value)).toArray ++ Builtin.zeroCells (Value.agg #[(.int .u64 0), (.int .i64 0)]).cells m ++ Builtin.zeroCells (Value.agg #[(.int .u64 0), (.int .i64 0)]).cells (G - m) := ⟨_, rfl⟩
 have hrz : ∀ ty, (Builtin.append_ #[44, 3] ty #[.slice none 0 0, .int .i64 (m : Int)]).run Try.prog w =
  .ok (.slice (some ⟨w.heap.size, 0, none⟩) m G) (w.drew.alloc (.cells ROW 33)) := fun ty => by
  have h := Lib.run_append_grow_zeros (P := Try.prog) w 44 3 ty 33 i0 _ .i64 .i64 Try.underlying44 Try.underlying3 hi0 hz0 none 0 0 [] hold m hm (by rw [hz1]; omega) (by omega) (by omega) (by rw [hz2]; omega)
   (by rw [hz2, Nat.zero_add]; exact growslice_fits (by omega) (by omega))
  rw [Nat.zero_add, ← hG, ← hROW] at h
  exact h
 have hGm : m ≤ G := by rw [hG]; exact grownCap_ge w _ _ _
 have hG63 : G ≤ 9223372036854775807 := by
  have := grownCap_le_maxLen w m 0 33 (by unfold maxLen; omega)
  rw [← hG] at this
  unfold maxLen at this
  omega
 have hRs : ROW.size = G * 2 := by
  rw [hROW]
  simp only [Array.size_append, List.size_toArray, List.length_nil, Builtin.zeroCells, Array.size_map, Array.size_range]
  show 0 + m * 2 + (G - m) * 2 = G * 2
  omega
 have hend : ∀ W : World, W = (w.alloc (.cells ROW 33)).drew → Kd.R k33 33 W w.heap.size (fun _ => True) (.slice (some ⟨w.heap.size, 0, none⟩) 0 G) [] ∧ Below w.heap.size w W := fun W hW => by
  have hH : W.heap[w.heap.size]? = some (.cells ROW 33 (0, 0)) := by rw [hW]; show (w.heap.push _)[w.heap.size]? = _; simp
  refine ⟨row_close (l := []) (Nat.le_refl _) trivial hH hG63 (Nat.zero_le _) hRs (by simp [encs]), ?_⟩
  rw [hW]
  exact below_drew (below_alloc (Below.refl _ _) _)
 have HEND := Aside0.mk hend
 clear hend hRs hROW hG hold hi0 hz0 hz1 hz2 hl
 have hp : (0 : Int) < (m : Int) := by omega
 have hn : ¬ (m : Int) < 0 := by omega
 go_enter Try.func63, Try.ntmps63
 go_wp2_with (at_builtin; refine Lib.wpList_append_run _ rfl _ _ _ _ rfl _ _ rfl rfl _ _ (hrz _) ?_)
 go_ret
 exact ⟨_, rfl, (HEND.out _ rfl).1, (HEND.out _ rfl).2⟩
set_option maxHeartbeats 4000000 in
set_option maxRecDepth 100000 in
theorem grow_none (w : World) :
 Calls Try.prog 63 #[.slice none 0 0, .int .i64 0] w fun e w' => ∃ v0_ : Value, e = .returned (v0_) ∧ Kd.R k33 33 w' w.heap.size (fun _ => True) v0_ [] ∧ Below w.heap.size w w' := by
 go_enter Try.func63, Try.ntmps63
 go_wp2
 go_ret
 exact ⟨_, rfl, Kd.R_nil _ _ _ _ _, Below.refl _ _⟩
theorem api_Entry_63.calls (n : Int) (r : List E) (w : World) (h : api_Entry_63.f [] n = some r) :
 Calls Try.prog 63 #[.slice none 0 0, .int .i64 n] w fun e w' => ∃ v0_ : Value, e = .returned (v0_) ∧ Kd.R k33 33 w' w.heap.size (fun _ => True) v0_ r ∧ Below w.heap.size w w' := by
 unfold api_Entry_63.f at h
 by_cases hc : ([] : List E).length = 0 ∧ 0 ≤ n ∧ n < 1000000000
 · rw [if_pos hc] at h
   obtain rfl := Option.some.inj h
   obtain ⟨_, h0, h1⟩ := hc
   obtain ⟨m, rfl⟩ := Int.eq_ofNat_of_zero_le h0
   by_cases hm : m = 0
   · subst hm; exact grow_none w
   · exact grow_some m w (by omega) (by omega)
 · rw [if_neg hc] at h
   cases h
end Go.Proofs.Ytfhapffjnafkbaa.V
end
section
namespace Go.Proofs.Ytfhapffjnafkbaa.V
open Go.RowKit Go.Proofs.YtfhapffjnafkbaaW.PrintWords Go.Proofs.YtfhapffjnafkbaaW.PrintLast Go.Proofs.YtfhapffjnafkbaaW.PrintMore
attribute [local go_sem] max2_int min2_int max_two min_two max_three min_three max_four min_four
set_option linter.unusedVariables false
set_option linter.unusedSimpArgs false
mutual
def api_Entry_56.l0 : Nat → List (List (S33)) → Int → List (List (S33)) → Int → Int → Option ((List (S33)))
 | 0, _, _, _, _, _ => none
 | k + 1, x0, x3, x9, x10, x11 => if x11 < x10 then (if 0 ≤ x11 then (if x11 < (x9.length : Int) then (if (wrap64 (x3 + ((rd_L5 x9 x11).length : Int))) < 0 then (none) else (api_Entry_56.l0 k x0 (wrap64 (x3 + ((rd_L5 x9 x11).length : Int))) x9 x10 (wrap64 (x11 + 1)))) else (none)) else (none)) else ((api_Entry_63.f ([] : List (S33)) x3).bind fun t102 => (api_Entry_56.l1 k t102 x0 (x0.length : Int) 0))
def api_Entry_56.l1 : Nat → List (S33) → List (List (S33)) → Int → Int → Option ((List (S33)))
 | 0, _, _, _, _ => none
 | k + 1, x6, x25, x26, x27 => if x27 < x26 then (if 0 ≤ x27 then (if x27 < (x25.length : Int) then (if x6.length + (rd_L5 x25 x27).length < 8796093022208 then (api_Entry_56.l1 k (x6 ++ (rd_L5 x25 x27)) x25 x26 (wrap64 (x27 + 1))) else (none)) else (none)) else (none)) else (some x6)
end
def api_Entry_56.f (k : Nat) (l0 : List (List (S33))) : Option ((List (S33))) := api_Entry_56.l0 k l0 0 l0 (l0.length : Int) 0
set_option maxHeartbeats 8000000 in
set_option maxRecDepth 100000 in
theorem api_Entry_56.calls (k : Nat) (A0 : Option Addr) (c0 : Nat) (l0 : List (List (S33))) (r : List (S33)) (w : World) (hr0 : Kd.C (Kd.slice 33 k33) w A0 l0.length l0) (hc0 : l0.length ≤ c0) (h : api_Entry_56.f k l0 = some r) :
 Calls Try.prog 56 #[.slice A0 l0.length c0] w fun e w' => ∃ v0_ : Value, e = .returned (v0_) ∧ Kd.R k33 33 w' w.heap.size (fun _ => True) v0_ r ∧ Below w.heap.size w w' := by
 have HR0 := Aside0.mk hr0; have HC0 := Aside0.mk hc0; clear hr0 hc0; have HB := Aside0.mk (Below.refl w.heap.size w); have H : (api_Entry_56.l0 k l0 0 l0 (l0.length : Int) 0) = some r := h; clear h; have H' := Aside0.mk H; clear H; go_enter Try.func56, Try.ntmps56
 go_wp2
 go_loopg [3, 11] k (fun kq v3 v11 w' => ∃ (x3_1 : Int) (x11_1 : Int), v3 = .int .i64 x3_1 ∧ v11 = .int .i64 x11_1 ∧ Aside0 (api_Entry_56.l0 kq l0 x3_1 l0 (l0.length : Int) x11_1 = some r) ∧ Aside0 (kq ≤ k) ∧ Aside0 (Below w.heap.size w w'))
 case atStart => exact ⟨(0), (0), (by first | rfl | (simp; done) | (simp [*]; done)), (by first | rfl | (simp; done) | (simp [*]; done)), H', ⟨vr _⟩, ⟨by repeat (first | (with_reducible first | exact HB.out | apply uf | apply ud | apply ue) | exact HB.out)⟩⟩
 case round =>
  clear H'; obtain ⟨x3_1, x11_1, rfl, rfl, HA, HK1, HB⟩ := hrel
  cases gk with
  | zero => exact absurd HA.out (by simp [api_Entry_56.l0])
  | succ k1 =>
   have H := HA.out; clear HA; simp only [api_Entry_56.l0] at H
   by_cases c2 : x11_1 < (l0.length : Int)
   · rw [if_pos c2] at H; have c2b0 : decide (x11_1 < (l0.length : Int)) = true := decide_eq_true c2; clear c2
     by_cases c3 : 0 ≤ x11_1
     · rw [if_pos c3] at H; have c3b0 : decide (0 ≤ x11_1) = true := decide_eq_true c3; clear c3
       by_cases c4 : x11_1 < (l0.length : Int)
       · rw [if_pos c4] at H; have c4b0 : decide (x11_1 < (l0.length : Int)) = true := decide_eq_true c4; clear c4
         by_cases c5 : (wrap64 (x3_1 + ((rd_L5 l0 x11_1).length : Int))) < 0
         · rw [if_pos c5] at H; exact absurd H (by simp)
         · rw [if_neg c5] at H; have c5b0 : decide ((wrap64 (x3_1 + ((rd_L5 l0 x11_1).length : Int))) < 0) = false := decide_eq_false c5; clear c5; have H' := Aside0.mk H; clear H; have p101 : 0 ≤ (x11_1 : Int) := ug (by first | (with_reducible assumption) | assumption); have q101 : x11_1 < (l0.length : Int) := ug (by first | (with_reducible assumption) | assumption); obtain ⟨ad101, A101_0, c101_0, e101, hx101_0, hl101_0, hi101_0⟩ := at_L5 HR0.out x11_1 p101 q101
           cases e101
           replace hx101_0 := (HB.out.cell (World.block_lt_of_cell? w _ hx101_0)).trans hx101_0; have HR101_0 := Aside0.mk hi101_0; have HC101_0 := Aside0.mk hl101_0; clear hi101_0 hl101_0; replace p101 := eq_true p101; replace q101 := eq_true q101
           go_wp2
           go_roundg k1
           case measure => have := HK1.out; omega
           case rel => exact ⟨(wrap64 (x3_1 + ((rd_L5 l0 x11_1).length : Int))), (wrap64 (x11_1 + 1)), (by first | rfl | (simp; done) | (simp [*]; done)), (by first | rfl | (simp; done) | (simp [*]; done)), H', ⟨by have := HK1.out; omega⟩, ⟨by repeat (first | (with_reducible first | exact HB.out | apply uf | apply ud | apply ue) | exact HB.out)⟩⟩
       · rw [if_neg c4] at H; exact absurd H (by simp)
     · rw [if_neg c3] at H; exact absurd H (by simp)
   · rw [if_neg c2] at H; have c2b0 : decide (x11_1 < (l0.length : Int)) = false := decide_eq_false c2; clear c2; replace H := Option.bind_eq_some_iff.mp H; obtain ⟨t102, A60, H⟩ := H; replace H : (api_Entry_56.l1 k1 t102 l0 (l0.length : Int) 0) = some r := H; have A6 := Aside0.mk A60; clear A60; have H' := Aside0.mk H; clear H
     go_wp2_with (first | ((with_reducible refine vv (f := 63) rfl ?_); refine xu (some 24) rfl rfl Try.func63 (by kernel_rfl) rfl #[.slice none 0 0, .int .i64 x3_1] rfl (by (try simp only [um, ut, uy]); first | done | rfl | (simp only [uk, ul]; rfl)) ?_; (refine (api_Entry_63.calls x3_1 t102 _ A6.out).mono ?_); rintro e w7 ⟨v103, rfl, ho0, hb⟩; refine ⟨_, rfl, ?_⟩; have n0_ := Aside0.mk (xl ho0 (vk (by repeat (first | (with_reducible first | exact HB.out | apply uf | apply ud | apply ue) | exact HB.out)))); have n1_ := Aside0.mk (vl (by repeat (first | (with_reducible first | exact HB.out | apply uf | apply ud | apply ue) | exact HB.out)) hb); clear HB; have HO104 := n0_; have HB := n1_; clear n0_ n1_; (try clear hb); (try clear hb2); (try clear hk); (try clear hi); (try clear ho0)))
     go_loopg [6, 27] k1 (fun kq v6 v27 w' => ∃ (x6_2 : List (S33)) (x27_2 : Int), v27 = .int .i64 x27_2 ∧ Aside0 (api_Entry_56.l1 kq x6_2 l0 (l0.length : Int) x27_2 = some r) ∧ Aside0 (kq ≤ k1) ∧ Aside0 (Kd.R k33 33 w' w.heap.size (fun _ => True) v6 x6_2) ∧ Aside0 (Below w.heap.size w w'))
     case atStart => exact ⟨(t102), (0), (by first | rfl | (simp; done) | (simp [*]; done)), H', ⟨vr _⟩, ⟨by (with_reducible repeat (first | apply uq | apply uo | apply us)); exact HO104.out⟩, ⟨by repeat (first | (with_reducible first | exact HB.out | apply uf | apply ud | apply ue) | exact HB.out)⟩⟩
     case round =>
      clear H'
      try clear c1
      try clear p1
      try clear q1
      try clear hx1
      try clear c2
      try clear c2b0
      try clear p2
      try clear c3
      try clear c3b0
      try clear c4
      try clear c4b0
      try clear c5
      try clear c5b0
      try clear c6
      try clear p6
      try clear hx101_0
      try clear p101
      try clear q101
      obtain ⟨x6_2, x27_2, rfl, HA, HK2, HO_6, HB⟩ := hrel
      cases gk with
      | zero => exact absurd HA.out (by simp [api_Entry_56.l1])
      | succ k2 =>
       have H := HA.out; clear HA; simp only [api_Entry_56.l1] at H
       by_cases c8 : x27_2 < (l0.length : Int)
       · rw [if_pos c8] at H; have c8b0 : decide (x27_2 < (l0.length : Int)) = true := decide_eq_true c8; clear c8
         by_cases c9 : 0 ≤ x27_2
         · rw [if_pos c9] at H; have c9b0 : decide (0 ≤ x27_2) = true := decide_eq_true c9; clear c9
           by_cases c10 : x27_2 < (l0.length : Int)
           · rw [if_pos c10] at H; have c10b0 : decide (x27_2 < (l0.length : Int)) = true := decide_eq_true c10; clear c10
             by_cases c11 : x6_2.length + (rd_L5 l0 x27_2).length < 8796093022208
             · rw [if_pos c11] at H; have LMc11 := Aside0.mk c11; clear c11; obtain ⟨y106, hy106⟩ : ∃ y_ : List (S33), y_ = (x6_2 ++ (rd_L5 l0 x27_2)) := ⟨_, rfl⟩; (replace H : (api_Entry_56.l1 k2 y106 l0 (l0.length : Int) (wrap64 (x27_2 + 1))) = some r := by first | (rw [hy106]; with_reducible exact H) | (have H2_ := (uz _ _).symm.trans H; rw [hy106]; with_reducible exact H2_) | (have H2_ := (uz _ _).symm.trans H; with_reducible exact H2_) | with_reducible exact H | (rw [hy106]; exact H) | exact H); have Ny106 := Aside0.mk hy106; clear hy106; have H' := Aside0.mk H; clear H; have p105 : 0 ≤ (x27_2 : Int) := ug (by first | (with_reducible assumption) | assumption); have q105 : x27_2 < (l0.length : Int) := ug (by first | (with_reducible assumption) | assumption); obtain ⟨ad105, A105_0, c105_0, e105, hx105_0, hl105_0, hi105_0⟩ := at_L5 HR0.out x27_2 p105 q105
               cases e105
               replace hx105_0 := (HB.out.cell (World.block_lt_of_cell? w _ hx105_0)).trans hx105_0; have HR105_0 := Aside0.mk hi105_0; have HC105_0 := Aside0.mk hl105_0; clear hi105_0 hl105_0; replace p105 := eq_true p105; replace q105 := eq_true q105
               go_wp2_with (first | ((with_reducible refine gate_builtin (b := .append) (xs := #[.tmp 31, .tmp 32]) rfl ?_); at_builtin; refine Kd.R_append_rows k33 (w0 := w) w.heap.size rfl (.tmp 31) (.tmp 32) 44 33 (.agg #[(.int .u64 0), (.int .i64 0)]) 16 rfl Try.underlying44 info33 rfl (by decide) (by omega) u6 x6_2 (rd_L5 l0 x27_2) _ _ _ (fun _ => True) (fun _ => False) rfl rfl ?aO ?aR (fun _ _ h => h) (fun _ h => h.elim) ?aF ?aB ?aS ?aL ?_; (case aR => repeat (first | exact (Kd.C_below HR105_0.out HB.out) | (with_reducible refine vq ?_ _) | (with_reducible refine vp ?_ _) | (with_reducible refine vt ?_))); (case aB => exact (by repeat (first | (with_reducible first | exact HB.out | apply uf | apply ud | apply ue) | exact HB.out))); (case aF => exact (fun _ _ => trivial)); (case aO => exact (by (with_reducible repeat (first | apply uq | apply uo | apply us)); exact HO_6.out)); (case aS => exact (vk (by repeat (first | (with_reducible first | exact HB.out | apply uf | apply ud | apply ue) | exact HB.out)))); (case aL => have := LMc11.out; omega); intro v107 w12 ho hb hg hat; rw [← Ny106.out] at ho; have n0_ := Aside0.mk (hb); have n1_ := Aside0.mk (ho); clear HB; clear HO_6; have HB := n0_; have HO108 := n1_; clear n0_ n1_; clear ho hb hg hat))
               go_roundg k2
               case measure => have := HK1.out; have := HK2.out; omega
               case rel => exact ⟨(y106), (wrap64 (x27_2 + 1)), (by first | rfl | (simp; done) | (simp [*]; done)), H', ⟨by have := HK1.out; have := HK2.out; omega⟩, ⟨by (with_reducible repeat (first | apply uq | apply uo | apply us)); exact HO108.out⟩, ⟨by repeat (first | (with_reducible first | exact HB.out | apply uf | apply ud | apply ue) | exact HB.out)⟩⟩
             · rw [if_neg c11] at H; exact absurd H (by simp)
           · rw [if_neg c10] at H; exact absurd H (by simp)
         · rw [if_neg c9] at H; exact absurd H (by simp)
       · rw [if_neg c8] at H; have c8b0 : decide (x27_2 < (l0.length : Int)) = false := decide_eq_false c8; clear c8; obtain rfl := Option.some.inj H
         go_wp2
         go_ret
         exact ⟨_, by first | rfl | (simp [errW_none, errW_some] <;> rfl) | (simp [*, errW_none, errW_some] <;> rfl), by (with_reducible repeat (first | apply uq | apply uo | apply us)); exact HO_6.out, by repeat (first | (with_reducible first | exact HB.out | apply uf | apply ud | apply ue) | exact HB.out)⟩
end Go.Proofs.Ytfhapffjnafkbaa.V
end
section
namespace Go.Proofs.Ytfhapffjnafkbaa.V
open Go.RowKit Go.Proofs.YtfhapffjnafkbaaW.PrintWords Go.Proofs.YtfhapffjnafkbaaW.PrintLast Go.Proofs.YtfhapffjnafkbaaW.PrintMore
attribute [local go_sem] max2_int min2_int max_two min_two max_three min_three max_four min_four
set_option linter.unusedVariables false
set_option linter.unusedSimpArgs false
def entry_Drop.f (k : Nat) (l0 : List (S33)) (a1 : Int) : Option ((List (S33)) × Bool) := (api_Entry_54.f k l0 a1).bind fun t101 => (if t101 < 0 then ((api_Entry_47.f l0).bind fun t102 => ((api_Entry_43.f t102).bind fun t105 => (some (t105, false)))) else (if 0 ≤ t101 then (if t101 ≤ (l0.length : Int) then (if 0 ≤ (wrap64 (t101 + 1)) then (if (wrap64 (t101 + 1)) ≤ (l0.length : Int) then ((api_Entry_56.f k (([(l0.take (t101 : Int).toNat), (l0.drop ((wrap64 (t101 + 1)) : Int).toNat)] : List (List (S33))))).bind fun t121 => (some (t121, true))) else (none)) else (none)) else (none)) else (none)))
def entry_Drop.T4 : Bool × List (List Nat × List Nat) := (true, [([], []), ([], []), ([], []), ([0, 1, 2], [0, 1, 2]), ([], []), ([], []), ([5], [5]), ([4, 6], [4, 6]), ([3, 7], [3, 7]), ([8], [8]), ([9, 9, 0, 1, 2, 3, 4, 5, 6, 7, 8, 9], [9]), ([10, 0, 1, 2, 3, 4, 5, 6, 7, 8, 9, 10], [])])
def entry_Drop.B4 : List Nat := [0, 0, 0, 7, 0, 0, 32, 112, 255, 511, 1023, 2047]
theorem entry_Drop.tab4 : rtab .any (opsOf Try.f34 4) = entry_Drop.T4 := by kernel_rfl
theorem entry_Drop.bits4 : waitsOk entry_Drop.T4.2 entry_Drop.B4 = true := by kernel_rfl
set_option maxHeartbeats 8000000 in
set_option maxRecDepth 100000 in
theorem entry_Drop.calls (k : Nat) (P0_ : Nat → Prop) (A0 : Option Addr) (c0 : Nat) (l0 : List (S33)) (a1 : Int) (r1 : List (S33)) (r2 : Bool) (w : World) (hs0 : Kd.V k33 33 w w.heap.size (fun k_ => P0_ k_) (.slice A0 l0.length c0) l0) (h : entry_Drop.f k l0 a1 = some (r1, r2)) :
 Calls Try.prog 34 #[.slice A0 l0.length c0, .int .i64 a1] w fun e w' => ∃ v0_ : Value, e = .returned (.tuple #[v0_, .bool r2]) ∧ Kd.V k33 33 w' w.heap.size (fun k_ => (P0_ k_ ∨ w.heap.size ≤ k_)) v0_ r1 ∧ Below w.heap.size w w' := by
 have HO0 := Aside0.mk (show Kd.V k33 33 w w.heap.size (fun k_ => (P0_ k_ ∨ w.heap.size ≤ k_)) (.slice A0 l0.length c0) l0 from Kd.V_mono hs0 (fun k_ hk => .inl hk)); have HB := Aside0.mk (Below.refl w.heap.size w); have H : ((api_Entry_54.f k l0 a1).bind fun t101 => (if t101 < 0 then ((api_Entry_47.f l0).bind fun t102 => ((api_Entry_43.f t102).bind fun t105 => (some (t105, false)))) else (if 0 ≤ t101 then (if t101 ≤ (l0.length : Int) then (if 0 ≤ (wrap64 (t101 + 1)) then (if (wrap64 (t101 + 1)) ≤ (l0.length : Int) then ((api_Entry_56.f k (([(l0.take (t101 : Int).toNat), (l0.drop ((wrap64 (t101 + 1)) : Int).toNat)] : List (List (S33))))).bind fun t121 => (some (t121, true))) else (none)) else (none)) else (none)) else (none)))) = some (r1, r2) := h; clear h; replace H := Option.bind_eq_some_iff.mp H; obtain ⟨t101, A30, H⟩ := H; replace H : (if t101 < 0 then ((api_Entry_47.f l0).bind fun t102 => ((api_Entry_43.f t102).bind fun t105 => (some (t105, false)))) else (if 0 ≤ t101 then (if t101 ≤ (l0.length : Int) then (if 0 ≤ (wrap64 (t101 + 1)) then (if (wrap64 (t101 + 1)) ≤ (l0.length : Int) then ((api_Entry_56.f k (([(l0.take (t101 : Int).toNat), (l0.drop ((wrap64 (t101 + 1)) : Int).toNat)] : List (List (S33))))).bind fun t121 => (some (t121, true))) else (none)) else (none)) else (none)) else (none))) = some (r1, r2) := H; have A3 := Aside0.mk A30; clear A30
 by_cases c4 : t101 < 0
 · rw [if_pos c4] at H; have c4b0 : decide (t101 < 0) = true := decide_eq_true c4; clear c4; replace H := Option.bind_eq_some_iff.mp H; obtain ⟨t102, A50, H⟩ := H; replace H : ((api_Entry_43.f t102).bind fun t105 => (some (t105, false))) = some (r1, r2) := H; have A5 := Aside0.mk A50; clear A50; replace H := Option.bind_eq_some_iff.mp H; obtain ⟨t105, A60, H⟩ := H; replace H : (some (t105, false)) = some (r1, r2) := H; have A6 := Aside0.mk A60; clear A60; simp only [Option.some.injEq, Prod.mk.injEq] at H; obtain ⟨rfl, rfl⟩ := H; go_enter Try.func34, Try.ntmps34
   go_wp2_with (first | ((with_reducible refine xq (N := 3) rfl ?_); refine box_event ?hg (N := 3) ?hd (cs := #[.int .i64 a1]) (t := 3) ?hr ?_; (case hd => rfl); (case hg => rfl); (case hr => first | (go_simp; done) | (go_simp; rfl)); intro gb_ hg wb_ hbox hb; have n0_ := Aside0.mk (xm HO0.out hb); have n1_ := Aside0.mk (vl HB.out hb); have BKid := Aside0.mk hbox; clear HO0 HB; have HO0 := n0_; have HB := n1_; clear n0_ n1_; clear hb hbox hg) | ((with_reducible refine vv (f := 54) rfl ?_); refine xu (some 9) rfl rfl Try.func54 (by kernel_rfl) rfl #[.slice A0 l0.length c0, .func (.func 55) #[] #[.pointer (some ⟨gb_, 0, none⟩)]] rfl (by (try simp only [um, ut, uy]); first | done | rfl | (simp only [uk, ul]; rfl)) ?_; (with_reducible refine (api_Entry_54.calls gb_ k _ _ l0 a1 t101 _ ?side1 ?side2 ?side3 A3.out).mono ?_); (case side3 => exact BKid.out); (case side1 => repeat (first | exact (vu HO0.out).2.2 | (with_reducible refine vq ?_ _) | (with_reducible refine vp ?_ _) | (with_reducible refine vt ?_))); (case side2 => exact (vu HO0.out).2.1); rintro e w7 ⟨rfl, hb⟩; refine ⟨_, rfl, ?_⟩; have n0_ := Aside0.mk (xm (by (with_reducible repeat (first | apply vo | apply vn | apply vm)); exact HO0.out) hb); have n1_ := Aside0.mk (vl (by repeat (first | (with_reducible first | exact HB.out | apply uf | apply ud | apply ue) | exact HB.out)) hb); clear HO0; clear HB; have HO0 := n0_; have HB := n1_; clear n0_ n1_; (try clear hb); (try clear hb2); (try clear hk); (try clear hi)) | ((with_reducible refine vv (f := 47) rfl ?_); refine xu (some 13) rfl rfl Try.func47 (by kernel_rfl) rfl #[.slice A0 l0.length c0] rfl (by (try simp only [um, ut, uy]); first | done | rfl | (simp only [uk, ul]; rfl)) ?_; (with_reducible refine (api_Entry_47.calls _ _ l0 t102 _ ?side1 ?side2 A5.out).mono ?_); (case side1 => repeat (first | exact (vu HO0.out).2.2 | (with_reducible refine vq ?_ _) | (with_reducible refine vp ?_ _) | (with_reducible refine vt ?_))); (case side2 => exact (vu HO0.out).2.1); rintro e w8 ⟨v103, rfl, ho0, hb⟩; refine ⟨_, rfl, ?_⟩; have n0_ := Aside0.mk (xk (by (with_reducible repeat (first | apply vo | apply vn | apply vm)); exact HO0.out) (vx ho0) hb); have n1_ := Aside0.mk (xl (Kd.R_newM (M := fun k_ => (w.heap.size ≤ k_)) ho0 (vk (by repeat (first | (with_reducible first | exact HB.out | apply uf | apply ud | apply ue) | exact HB.out))) (fun k_ h_ => h_)) (vk (by repeat (first | (with_reducible first | exact HB.out | apply uf | apply ud | apply ue) | exact HB.out)))); have n2_ := Aside0.mk (vl (by repeat (first | (with_reducible first | exact HB.out | apply uf | apply ud | apply ue) | exact HB.out)) hb); clear HO0; clear HB; have HO0 := n0_; have HO104 := n1_; have HB := n2_; clear n0_ n1_ n2_; (try clear hb); (try clear hb2); (try clear hk); (try clear hi); (try clear ho0); obtain ⟨Ao9, co9, eo9⟩ := Kd.R_slice HO104.out; subst eo9) | ((with_reducible refine vv (f := 43) rfl ?_); refine xu (some 14) rfl rfl Try.func43 (by kernel_rfl) rfl #[.slice Ao9 t102.length co9] rfl (by (try simp only [um, ut, uy]); first | done | rfl | (simp only [uk, ul]; rfl)) ?_; (with_reducible refine (api_Entry_43.calls (fun k_ => some k_ = (.slice Ao9 t102.length co9 : Value).ownBlock) _ _ t102 t105 _ ?side1 A6.out).mono ?_); (case side1 => exact Kd.R_V (Kd.R_tight rfl (HO104.out))); rintro e w10 ⟨v106, rfl, ho0, hb⟩; refine ⟨_, rfl, ?_⟩; have n0_ := Aside0.mk (xm (by (with_reducible repeat (first | apply vo | apply vn | apply vm)); exact HO0.out) hb); have n1_ := Aside0.mk (xg (by (with_reducible repeat (first | apply uq | apply uo | apply us)); exact HO104.out) hb); have n2_ := Aside0.mk (Kd.V_lower (Kd.V_mono (ok' := fun k_ => (P0_ k_ ∨ w.heap.size ≤ k_)) ho0 (fun k_ hk_ => Or.elim hk_ (fun hs_ => (.inr (((HO104.out).1 k_ hs_.symm).1))) (fun hn_ => (.inr (Nat.le_trans (vk (by repeat (first | (with_reducible first | exact HB.out | apply uf | apply ud | apply ue) | exact HB.out))) hn_))))) (vk (by repeat (first | (with_reducible first | exact HB.out | apply uf | apply ud | apply ue) | exact HB.out)))); have n3_ := Aside0.mk (vl (by repeat (first | (with_reducible first | exact HB.out | apply uf | apply ud | apply ue) | exact HB.out)) hb); clear HO0; clear HO104; clear HB; have HO0 := n0_; have HO104 := n1_; have HO107 := n2_; have HB := n3_; clear n0_ n1_ n2_ n3_; (try clear hb); (try clear hb2); (try clear hk); (try clear hi); (try clear ho0)))
   go_ret2
   exact ⟨_, by first | rfl | (simp [errW_none, errW_some] <;> rfl) | (simp [*, errW_none, errW_some] <;> rfl), by (with_reducible repeat (first | apply vo | apply vn | apply vm)); exact HO107.out, by repeat (first | (with_reducible first | exact HB.out | apply uf | apply ud | apply ue) | exact HB.out)⟩
 · rw [if_neg c4] at H; have c4b0 : decide (t101 < 0) = false := decide_eq_false c4; clear c4
   by_cases c11 : 0 ≤ t101
   · rw [if_pos c11] at H; have c11b0 := eq_true c11; have c11b1 : decide (0 ≤ t101) = true := decide_eq_true c11; clear c11
     by_cases c12 : t101 ≤ (l0.length : Int)
     · rw [if_pos c12] at H; have c12b0 := eq_true c12; have c12b1 : decide (t101 ≤ (l0.length : Int)) = true := decide_eq_true c12; clear c12; obtain ⟨y108, hy108⟩ : ∃ y_ : List (S33), y_ = (l0.take (t101 : Int).toNat) := ⟨_, rfl⟩; (replace H : (if 0 ≤ (wrap64 (t101 + 1)) then (if (wrap64 (t101 + 1)) ≤ (l0.length : Int) then ((api_Entry_56.f k (([y108, (l0.drop ((wrap64 (t101 + 1)) : Int).toNat)] : List (List (S33))))).bind fun t121 => (some (t121, true))) else (none)) else (none)) = some (r1, r2) := by first | (rw [hy108]; with_reducible exact H) | (have H2_ := (uz _ _).symm.trans H; rw [hy108]; with_reducible exact H2_) | (have H2_ := (uz _ _).symm.trans H; with_reducible exact H2_) | with_reducible exact H | (rw [hy108]; exact H) | exact H); have Ny108 := Aside0.mk hy108; clear hy108; obtain ⟨ji13, hji13⟩ : ∃ j_ : Int, (wrap64 (t101 + 1)) = j_ := ⟨_, rfl⟩; (replace H : (if 0 ≤ (ji13) then (if (ji13) ≤ (l0.length : Int) then ((api_Entry_56.f k (([y108, (l0.drop ((ji13) : Int).toNat)] : List (List (S33))))).bind fun t121 => (some (t121, true))) else (none)) else (none)) = some (r1, r2) := by first | (rw [hji13] at H; exact H) | (simp only [hji13] at H ⊢; exact H)); (try rw [hji13] at A3); have hji13w : (IntKind.i64.wrap (t101 + 1)) = ji13 := (uh _).trans hji13
       by_cases c14 : 0 ≤ (ji13)
       · rw [if_pos c14] at H; have c14b0 := eq_true c14; have c14b1 : decide (0 ≤ (ji13)) = true := decide_eq_true c14; clear c14
         by_cases c15 : (ji13) ≤ (l0.length : Int)
         · rw [if_pos c15] at H; have c15b0 := eq_true c15; have c15b1 : decide ((ji13) ≤ (l0.length : Int)) = true := decide_eq_true c15; clear c15; obtain ⟨y113, hy113⟩ : ∃ y_ : List (S33), y_ = (l0.drop ((ji13) : Int).toNat) := ⟨_, rfl⟩; (replace H : ((api_Entry_56.f k (([y108, y113] : List (List (S33))))).bind fun t121 => (some (t121, true))) = some (r1, r2) := by first | (rw [hy113]; with_reducible exact H) | (have H2_ := (uz _ _).symm.trans H; rw [hy113]; with_reducible exact H2_) | (have H2_ := (uz _ _).symm.trans H; with_reducible exact H2_) | with_reducible exact H | (rw [hy113]; exact H) | exact H); have Ny113 := Aside0.mk hy113; clear hy113; obtain ⟨y118, hy118⟩ : ∃ y_ : List (List (S33)), y_ = (([y108, y113] : List (List (S33)))) := ⟨_, rfl⟩; (replace H : ((api_Entry_56.f k y118).bind fun t121 => (some (t121, true))) = some (r1, r2) := by first | (rw [hy118]; with_reducible exact H) | (have H2_ := (uz _ _).symm.trans H; rw [hy118]; with_reducible exact H2_) | (have H2_ := (uz _ _).symm.trans H; with_reducible exact H2_) | with_reducible exact H | (rw [hy118]; exact H) | exact H); have Ny118 := Aside0.mk hy118; clear hy118; replace H := Option.bind_eq_some_iff.mp H; obtain ⟨t121, A160, H⟩ := H; replace H : (some (t121, true)) = some (r1, r2) := H; have A16 := Aside0.mk A160; clear A160; simp only [Option.some.injEq, Prod.mk.injEq] at H; obtain ⟨rfl, rfl⟩ := H; go_enter Try.func34, Try.ntmps34
           try go_wp2_with (first | ((with_reducible refine xq (N := 3) rfl ?_); refine box_event ?hg (N := 3) ?hd (cs := #[.int .i64 a1]) (t := 3) ?hr ?_; (case hd => rfl); (case hg => rfl); (case hr => first | (go_simp; done) | (go_simp; rfl)); intro gb_ hg wb_ hbox hb; have n0_ := Aside0.mk (xm HO0.out hb); have n1_ := Aside0.mk (vl HB.out hb); have BKid := Aside0.mk hbox; clear HO0 HB; have HO0 := n0_; have HB := n1_; clear n0_ n1_; clear hb hbox hg) | ((with_reducible refine vv (f := 54) rfl ?_); refine xu (some 9) rfl rfl Try.func54 (by kernel_rfl) rfl #[.slice A0 l0.length c0, .func (.func 55) #[] #[.pointer (some ⟨gb_, 0, none⟩)]] rfl (by (try simp only [um, ut, uy]); first | done | rfl | (simp only [uk, ul]; rfl)) ?_; (with_reducible refine (api_Entry_54.calls gb_ k _ _ l0 a1 t101 _ ?side1 ?side2 ?side3 A3.out).mono ?_); (case side3 => exact BKid.out); (case side1 => repeat (first | exact (vu HO0.out).2.2 | (with_reducible refine vq ?_ _) | (with_reducible refine vp ?_ _) | (with_reducible refine vt ?_))); (case side2 => exact (vu HO0.out).2.1); rintro e w17 ⟨rfl, hb⟩; refine ⟨_, rfl, ?_⟩; have n0_ := Aside0.mk (xm (by (with_reducible repeat (first | apply vo | apply vn | apply vm)); exact HO0.out) hb); have n1_ := Aside0.mk (vl (by repeat (first | (with_reducible first | exact HB.out | apply uf | apply ud | apply ue) | exact HB.out)) hb); clear HO0; clear HB; have HO0 := n0_; have HB := n1_; clear n0_ n1_; (try clear hb); (try clear hb2); (try clear hk); (try clear hi)))
           have n0_ := Aside0.mk (vm HO0.out); have n1_ := Aside0.mk (ue HB.out); clear HO0 HB; have HO0 := n0_; have HB := n1_; clear n0_ n1_; have q19 : (t101 : Int) ≤ ((l0.length : Int) : Int) := ug (by first | (with_reducible assumption) | assumption); obtain ⟨i019, hi019, _, hsz19, _⟩ := info_parts info33; have hroom19 : l0.length ≤ c0 := (vu HO0.out).2.1; have hC19 : Kd.F k33 _ _ A0 l0.length l0 := (Kd.V_at (base := w.heap.size) HO0.out).2.2; have hcut19 := cut_cap (P := Try.prog) 44 33 .i64 .i64 Try.underlying44 hi019 A0 l0.length c0 t101 (ug (by first | (with_reducible assumption) | assumption)) q19 hroom19; have hr19 := Kd.F_take (m := (t101 : Int).toNat) hC19 (by omega); have hy19 : y108.length = (t101 : Int).toNat := (by rw [Ny108.out, ul]; omega); rw [← Ny108.out] at hr19; rw [← hy19] at hcut19; have HO112 := Aside0.mk (show Kd.V k33 33 _ w.heap.size _ (.slice A0 y108.length y108.length) y108 from Kd.V_mk (vr _) hr19); have HC112 := Aside0.mk (show y108.length ≤ y108.length from vr _); clear hr19 hC19 hroom19 hi019 hsz19; have KY19 := Aside0.mk hy19; clear hy19; replace q19 := eq_true q19; have q20 : ((ji13) : Int) ≤ ((l0.length : Int) : Int) := ug (by first | (with_reducible assumption) | assumption); obtain ⟨i020, hi020, _, hsz20, _⟩ := info_parts info33; have hroom20 : l0.length ≤ c0 := (vu HO0.out).2.1; have hC20 : Kd.F k33 _ _ A0 l0.length l0 := (Kd.V_at (base := w.heap.size) HO0.out).2.2; have q020 : (0 : Int) ≤ ((ji13) : Int) := ug (by first | (with_reducible assumption) | assumption); have hcut20 := cut_from (P := Try.prog) 44 33 .i64 Try.underlying44 hi020 2 hsz20 A0 l0.length c0 (ji13) q020 q20; have hr20 := Kd.F_cut (m := ((ji13) : Int).toNat) (c := c0) hC20 (by omega) hroom20; obtain ⟨A20, hA20⟩ : ∃ A1, A1 = (if c0 = ((ji13) : Int).toNat then A0 else (A0 : Option Addr).map (·.add (((ji13) : Int).toNat * 2))) := ⟨_, rfl⟩; obtain ⟨c20, hc20⟩ : ∃ c1, c1 = c0 - ((ji13) : Int).toNat := ⟨_, rfl⟩; have hy20 : y113.length = l0.length - ((ji13) : Int).toNat := (by rw [Ny113.out, uk] <;> omega); rw [show (l0).drop ((ji13) : Int).toNat = y113 from Ny113.out.symm] at hr20; replace hr20 : Kd.F k33 _ _ A20 y113.length y113 := (by rw [hA20]; exact hr20); rw [← hy20, ← hA20, ← hc20] at hcut20; have HO117 := Aside0.mk (show Kd.V k33 33 _ w.heap.size _ (.slice A20 y113.length c20) y113 from Kd.V_mk (by rw [hy20, hc20]; exact Nat.sub_le_sub_right hroom20 _) hr20); have HC117 := Aside0.mk (show y113.length ≤ c20 from by rw [hy20, hc20]; exact Nat.sub_le_sub_right hroom20 _); clear hr20 hC20 hroom20 hi020 hsz20 hc20; have KY20 := Aside0.mk hy20; have KA20 := Aside0.mk hA20; clear hy20 hA20; replace q20 := eq_true q20; refine start_ (n := 12) (S := fun w' => True) (ds := []) #[X, X, X, X, X, X, X, X, X, X, X, X] (by kernel_rfl) rfl rfl trivial (fun hHeld => ?_); refine xr entry_Drop.tab4 entry_Drop.bits4 (fun HT_ HW_ => ?_); generalize w17.drew = w18 at HO0 HB HO112 HO117 hHeld ⊢; refine ur (i := 0) (N := some 15) (v := ?_) (a' := ?_) #[Y, X, X, X, X, X, X, X, X, X, X, X] rfl rfl (uj HT_.out (by kernel_rfl)) (fun _ _ _ h => h) (Or.inl ⟨by rfl, ?_⟩) ?_ ?_; rotate_left
           · intro w'; go_simp; (with_reducible rfl)
           rotate_left
           · simp only [Act.put, ua, ub, uc, uh, ui]; rfl
           refine ur (i := 1) (N := some 16) (v := ?_) (a' := ?_) #[Y, Y, X, X, X, X, X, X, X, X, X, X] rfl rfl (uj HT_.out (by kernel_rfl)) (fun _ _ _ h => h) (Or.inl ⟨by rfl, ?_⟩) ?_ ?_; rotate_left
           · intro w'; go_simp; (with_reducible rfl)
           rotate_left
           · simp only [Act.put, ua, ub, uc, uh, ui]; rfl
           refine ur (i := 2) (N := some 17) (v := ?_) (a' := ?_) #[Y, Y, Y, X, X, X, X, X, X, X, X, X] rfl rfl (uj HT_.out (by kernel_rfl)) (fun _ _ _ h => h) (Or.inl ⟨by rfl, ?_⟩) ?_ ?_; rotate_left
           · intro w'; go_simp; (with_reducible rfl)
           rotate_left
           · simp only [Act.put, ua, ub, uc, uh, ui]; rfl
           refine ur (i := 3) (N := some 18) (v := ?_) (a' := ?_) #[Y, Y, Y, Y, X, X, X, X, X, X, X, X] rfl rfl (uj HT_.out (by kernel_rfl)) (fun _ _ _ h => h) (Or.inl ⟨by rfl, ?_⟩) ?_ ?_; rotate_left
           · intro w'; go_simp; (with_reducible rfl)
           rotate_left
           · simp only [Act.put, ua, ub, uc, uh, ui]; rfl
           refine ur (i := 4) (N := some 19) (v := ?_) (a' := ?_) #[Y, Y, Y, Y, Y, X, X, X, X, X, X, X] rfl rfl (uj HT_.out (by kernel_rfl)) (fun _ _ _ h => h) (Or.inl ⟨by rfl, ?_⟩) ?_ ?_; rotate_left
           · intro w'; go_simp; (with_reducible rfl)
           rotate_left
           · simp only [Act.put, ua, ub, uc, uh, ui]; rfl
           refine ur (i := 5) (N := some 20) (v := ?_) (a' := ?_) #[Y, Y, Y, Y, Y, Y, X, X, X, X, X, X] rfl rfl (uj HT_.out (by kernel_rfl)) (fun _ _ _ h => h) (Or.inl ⟨by rfl, ?_⟩) ?_ ?_; rotate_left
           · intro w'; go_simp; (with_reducible rfl)
           rotate_left
           · simp only [Act.put, ua, ub, uc, uh, ui]; rfl
           refine ur (i := 6) (N := some 21) (v := ?_) (a' := ?_) #[Y, Y, Y, Y, Y, Y, Y, X, X, X, X, X] rfl rfl (uj HT_.out (by kernel_rfl)) (fun _ _ _ h => h) (Or.inl ⟨by rfl, ?_⟩) ?_ ?_; rotate_left
           · intro w'; go_simp; (with_reducible rfl)
           rotate_left
           · simp only [Act.put, ua, ub, uc, uh, ui]; rfl
           refine ur (i := 7) (N := some 22) (v := ?_) (a' := ?_) #[Y, Y, Y, Y, Y, Y, Y, Y, X, X, X, X] rfl rfl (uj HT_.out (by kernel_rfl)) (fun _ _ _ h => h) (Or.inl ⟨by rfl, ?_⟩) ?_ ?_; rotate_left
           · intro w'; go_simp; (with_reducible rfl)
           rotate_left
           · simp only [Act.put, ua, ub, uc, uh, ui]; rfl
           refine one_ (i := 8) (N := some 23) #[Y, Y, Y, Y, Y, Y, Y, Y, Y, X, X, X] rfl rfl (xo HT_.out (by kernel_rfl)) (by decide) (fun K hK => ?_); refine Kd.N_lit_step (Kd.slice 33 k33) _ 44 ?hg (N' := 23) ?hd (xs := ([y108, y113] : List (List (S33)))) (inner := [.slice A0 y108.length y108.length, .slice A20 y113.length c20]) (ok := (fun k_ => (P0_ k_ ∨ w.heap.size ≤ k_))) (okp := (fun k_ => (P0_ k_ ∨ w.heap.size ≤ k_))) ?hr ?hp (fun _ hk => hk) ((show ∀ k_, w18.heap.size ≤ k_ → (fun k_ => (P0_ k_ ∨ w.heap.size ≤ k_)) k_ from fun k_ hk => (.inr (Nat.le_trans (vk (by repeat (first | (with_reducible first | exact HB.out | apply uf | apply ud | apply ue) | exact HB.out))) hk))) _ (vr _)) (Below.refl _ _) (vr _) (by simp) ?_; (case hd => rfl); (case hg => rfl); (case hr => first | (go_simp; done) | (go_simp; rfl)); (case hp => exact (Reps.one (show Kd.FK (Kd.slice 33 k33) _ _ y108 [.slice A0 y108.length y108.length] from (Kd.FK_slice_mk (vu (Kd.V_mono (ok' := (fun k_ => (P0_ k_ ∨ w.heap.size ≤ k_))) (HO112.out) (fun k_ hk => hk))).2.1 (Kd.V_F (Kd.V_mono (ok' := (fun k_ => (P0_ k_ ∨ w.heap.size ≤ k_))) (HO112.out) (fun k_ hk => hk))))) (Reps.one (show Kd.FK (Kd.slice 33 k33) _ _ y113 [.slice A20 y113.length c20] from (Kd.FK_slice_mk (vu (Kd.V_mono (ok' := (fun k_ => (P0_ k_ ∨ w.heap.size ≤ k_))) (HO117.out) (fun k_ hk => hk))).2.1 (Kd.V_F (Kd.V_mono (ok' := (fun k_ => (P0_ k_ ∨ w.heap.size ≤ k_))) (HO117.out) (fun k_ hk => hk))))) (Reps.none _ _)))); intro v119 w21 ho22 hb hg_ hnew_; clear hg_ hnew_; (first | rw [← Ny118.out] at ho22 | (simp only [Int.reduceToNat] at ho22; rw [← Ny118.out] at ho22)); have n0_ := Aside0.mk (xk (by (with_reducible repeat (first | apply vo | apply vn | apply vm)); exact HO0.out) (Kd.N_base ho22) hb); have n1_ := Aside0.mk (xk (by (with_reducible repeat (first | apply vo | apply vn | apply vm)); exact HO112.out) (Kd.N_base ho22) hb); have n2_ := Aside0.mk (xk (by (with_reducible repeat (first | apply vo | apply vn | apply vm)); exact HO117.out) (Kd.N_base ho22) hb); have n3_ := Aside0.mk (Kd.N_lower ho22 (vk (by repeat (first | (with_reducible first | exact HB.out | apply uf | apply ud | apply ue) | exact HB.out)))); have n4_ := Aside0.mk (vl (by repeat (first | (with_reducible first | exact HB.out | apply uf | apply ud | apply ue) | exact HB.out)) hb); clear HO0 HO112 HO117 HB; have HO0 := n0_; have HO112 := n1_; have HO117 := n2_; have HO120 := n3_; have HB := n4_; clear n0_ n1_ n2_ n3_ n4_ hb ho22; obtain ⟨Ao23, co23, eo23⟩ := Kd.N_slice HO120.out; (first | subst eo23 | (injection eo23 with f1_ f2_ f3_; have f4_ := f1_.symm; have f5_ := f3_.symm; clear f1_ f2_ f3_; subst f4_; subst f5_)); refine hK.out _ _ trivial (fun hHeld => ?_); clear hK K; refine xt (a' := ?_) ?_ ?_; rotate_left
           · show Act.put _ (some 23) _ = _
             simp only [Act.put, ua, ub, uc, uh, ui]; rfl
           refine one_ (i := 9) (N := some 24) #[Y, Y, Y, Y, Y, Y, Y, Y, Y, Y, X, X] rfl rfl (xo HT_.out (by kernel_rfl)) (by decide) (fun K hK => ?_); refine goes_ Try.func56 (by kernel_rfl) rfl #[.slice Ao23 y118.length co23] (by rfl) rfl rfl (by (try simp only [um, ut, uy]); first | done | rfl | (simp only [uk, ul]; rfl)) ?_; (with_reducible refine (api_Entry_56.calls k _ _ y118 t121 _ ?side1 ?side2 A16.out).mono ?_); (case side1 => repeat (first | exact (Kd.N_reads' HO120.out).2.2 | (with_reducible refine vq ?_ _) | (with_reducible refine vp ?_ _) | (with_reducible refine vt ?_))); (case side2 => exact (Kd.N_reads' HO120.out).2.1); rintro e w24 ⟨v122, rfl, ho0, hb⟩; refine ⟨_, rfl, ?_⟩; have n0_ := Aside0.mk (xk (by (with_reducible repeat (first | apply vo | apply vn | apply vm)); exact HO0.out) (vx ho0) hb); have n1_ := Aside0.mk (xk (by (with_reducible repeat (first | apply vo | apply vn | apply vm)); exact HO112.out) (vx ho0) hb); have n2_ := Aside0.mk (xk (by (with_reducible repeat (first | apply vo | apply vn | apply vm)); exact HO117.out) (vx ho0) hb); have n3_ := Aside0.mk (Kd.N_elder' (by (with_reducible repeat (first | apply Kd.N_alloc | apply Kd.N_drewN | apply Kd.N_drew)); exact HO120.out) (vx ho0) hb); have n4_ := Aside0.mk (xl (Kd.R_newM (M := fun k_ => (w.heap.size ≤ k_)) ho0 (vk (by repeat (first | (with_reducible first | exact HB.out | apply uf | apply ud | apply ue) | exact HB.out))) (fun k_ h_ => h_)) (vk (by repeat (first | (with_reducible first | exact HB.out | apply uf | apply ud | apply ue) | exact HB.out)))); have n5_ := Aside0.mk (vl (by repeat (first | (with_reducible first | exact HB.out | apply uf | apply ud | apply ue) | exact HB.out)) hb); clear HO0 HO112 HO117 HO120 HB; have HO0 := n0_; have HO112 := n1_; have HO117 := n2_; have HO120 := n3_; have HO123 := n4_; have HB := n5_; clear n0_ n1_ n2_ n3_ n4_ n5_; (try clear hb); (try clear hb2); (try clear hk); (try clear hi); (try clear ho0); refine hK.out _ _ trivial (fun hHeld => ?_); clear hK K; refine xt (a' := ?_) ?_ ?_; rotate_left
           · show Act.put _ (some 24) _ = _
             simp only [Act.put, ua, ub, uc, uh, ui]; rfl
           refine ur (i := 10) (N := some 4) (v := ?_) (a' := ?_) #[Y, Y, Y, Y, Y, Y, Y, Y, Y, Y, Y, X] rfl rfl (uj HT_.out (by kernel_rfl)) (fun _ _ _ h => h) (Or.inl ⟨by rfl, ?_⟩) ?_ ?_; rotate_left
           · intro w'; go_simp; (with_reducible rfl)
           rotate_left
           · simp only [Act.put, ua, ub, uc, uh, ui]; rfl
           refine ur (i := 11) (N := some 5) (v := ?_) (a' := ?_) #[Y, Y, Y, Y, Y, Y, Y, Y, Y, Y, Y, Y] rfl rfl (uj HT_.out (by kernel_rfl)) (fun _ _ _ h => h) (Or.inl ⟨by rfl, ?_⟩) ?_ ?_; rotate_left
           · intro w'; go_simp; (with_reducible rfl)
           rotate_left
           · simp only [Act.put, ua, ub, uc, uh, ui]; rfl
           refine done_ (done_of HT_.out (by kernel_rfl)) ?_
           try go_wp2
           go_ret2
           exact ⟨_, by first | rfl | (simp [errW_none, errW_some] <;> rfl) | (simp only [← hji13]; first | rfl | (simp [errW_none, errW_some] <;> rfl)) | (simp [*, errW_none, errW_some] <;> rfl), Kd.V_mono (Kd.R_V (by (with_reducible repeat (first | apply uq | apply uo | apply us)); exact xj HO123.out (fun _ hk => hk.1))) (fun k_ hk => by first | exact ⟨(.inr (hk.1)), hk.2⟩ | exact (.inr (hk))), by repeat (first | (with_reducible first | exact HB.out | apply uf | apply ud | apply ue) | exact HB.out)⟩
         · rw [if_neg c15] at H; exact absurd H (by simp)
       · rw [if_neg c14] at H; exact absurd H (by simp)
     · rw [if_neg c12] at H; exact absurd H (by simp)
   · rw [if_neg c11] at H; exact absurd H (by simp)
end Go.Proofs.Ytfhapffjnafkbaa.V
end
