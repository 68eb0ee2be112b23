-- a text of this work, without what this claim doesn't use (wip/shake.py)
import Derived.Test.YtfhapffjnafkbaaTVPcmp
import Derived.Test.YtfhapffjnafkbaaTVPvergerref51
import Derived.Test.YtfhapffjnafkbaaTVXInsert
import Derived.Test.YtfhapffjnafkbaaTVPentry1
import Derived.Test.YtfhapffjnafkbaaTVPslicesZb
import Derived.Test.YtfhapffjnafkbaaTVPentryZb
namespace Go.Proofs.Ytfhapffjnafkbaa.V
open Go.RowKit Go.Proofs.YtfhapffjnafkbaaW.PrintWords Go.Proofs.YtfhapffjnafkbaaW.PrintLast Go.Proofs.YtfhapffjnafkbaaW.PrintMore
attribute [local go_sem] max2_int min2_int max_two min_two max_three min_three max_four min_four
set_option linter.unusedVariables false
set_option linter.unusedSimpArgs false
attribute [local go_sem high] eqA33
mutual
def vergerlaw5_EntryTakes.j0 : Nat → List (S33) → Bool → Int → Int → Option (Bool)
 | 0, _, _, _, _ => none
 | k + 1, x0, x20, x102000, x102001 => if x20 = true then ((vergerlaw5_awake.f k).bind fun t103 => (some t103)) else ((entry_Sort.f x0).bind fun t104 => ((entry_Put.f k t104 x102000 x102001).bind fun t107 => ((entry_Place.f k t104 x102000 x102001).bind fun t110 => (if (t107.length : Int) = (wrap64 ((t104.length : Int) + 1)) then (if t110 > (t104.length : Int) then (vergerlaw5_EntryTakes.j1 k t104 t107 true x102000 x102001) else (if 0 ≤ t110 then (if t110 < (t107.length : Int) then (if (!(((rd_T33 t107 t110).f0) == x102000) || (!(((rd_T33 t107 t110).f1) == x102001))) = true then (vergerlaw5_EntryTakes.j1 k t104 t107 true x102000 x102001) else ((entry_Sorted.f k t107).bind fun t112 => (vergerlaw5_EntryTakes.j1 k t104 t107 (!t112) x102000 x102001))) else (none)) else (none))) else (vergerlaw5_EntryTakes.j1 k t104 t107 true x102000 x102001)))))
def vergerlaw5_EntryTakes.j1 : Nat → List (S33) → List (S33) → Bool → Int → Int → Option (Bool)
 | 0, _, _, _, _, _ => none
 | k + 1, x5, x6, x54, x102000, x102001 => if x54 = true then (some false) else ((entry_Drop.f k x6 x102001).bind fun bt113 => ((entry_Drop.f k bt113.1 x102001).bind fun bt117 => (if bt113.2 = true then (if bt117.2 = true then (some false) else ((vergerref5_Same.f k bt113.1 x5).bind fun t121 => (if t121 = true then ((vergerlaw5_awake.f k).bind fun t122 => (some t122)) else (some false)))) else (some false))))
end
def vergerlaw5_EntryTakes.f (k : Nat) (l0 : List (S33)) (a1_0 : Int) (a1_1 : Int) : Option (Bool) := if (l0.length : Int) > 100 then (vergerlaw5_EntryTakes.j0 k l0 true a1_0 a1_1) else ((vergerref5_Has.f k l0 a1_1).bind fun t102 => (vergerlaw5_EntryTakes.j0 k l0 t102 a1_0 a1_1))
def vergerlaw5_EntryTakes.T6 : Bool × List (List Nat × List Nat) := (true, [([], []), ([0], [0]), ([], []), ([2], [2]), ([3], [3]), ([1, 4], [1, 4]), ([5], [5]), ([6], [6]), ([6], [6]), ([8, 6], [6, 8]), ([7, 9, 6], [6, 7, 9]), ([6, 10], [6, 10]), ([11, 6], [11]), ([12], [12]), ([12], [12]), ([13, 14, 12], [12, 13, 14]), ([15, 12], [12, 15]), ([12], [12]), ([16, 17, 12], [12, 16, 17]), ([12, 18], [12, 18]), ([19, 12], [19]), ([20], [20]), ([21, 20, 20], [20, 21]), ([22, 20], [20, 22]), ([20, 23], [20, 23])])
def vergerlaw5_EntryTakes.B6 : List Nat := [0, 1, 0, 4, 12, 31, 63, 127, 127, 383, 1023, 2047, 4095, 8191, 8191, 32767, 65535, 8191, 262143, 524287, 1048575, 2097151, 4194303, 8388607, 16777215]
theorem vergerlaw5_EntryTakes.tab6 : rtab .any (opsOf Try.f11 6) = vergerlaw5_EntryTakes.T6 := by kernel_rfl
theorem vergerlaw5_EntryTakes.bits6 : waitsOk vergerlaw5_EntryTakes.T6.2 vergerlaw5_EntryTakes.B6 = true := by kernel_rfl
set_option maxHeartbeats 8000000 in
set_option maxRecDepth 100000 in
theorem vergerlaw5_EntryTakes.calls (k : Nat) (A0 : Option Addr) (c0 : Nat) (l0 : List (S33)) (a1_0 : Int) (a1_1 : Int) (r : Bool) (w : World) (hr0 : Kd.C k33 w A0 l0.length l0) (hc0 : l0.length ≤ c0) (h : vergerlaw5_EntryTakes.f k l0 a1_0 a1_1 = some r) :
 Calls Try.prog 11 #[.slice A0 l0.length c0, .agg #[.int .u64 a1_0, .int .i64 a1_1]] w fun e w' => e = .returned (.bool r) ∧ Below w.heap.size w w' := by
 have hu33 := Try.underlying33; have HR0 := Aside0.mk hr0; have HC0 := Aside0.mk hc0; clear hr0 hc0; have HB := Aside0.mk (Below.refl w.heap.size w); have H : (if (l0.length : Int) > 100 then (vergerlaw5_EntryTakes.j0 k l0 true a1_0 a1_1) else ((vergerref5_Has.f k l0 a1_1).bind fun t102 => (vergerlaw5_EntryTakes.j0 k l0 t102 a1_0 a1_1))) = some r := h; clear h; have HC3 := Aside0.mk H; clear H; go_enter Try.func11, Try.ntmps11
 go_upto_region 1 with (first | ((with_reducible refine xf (N := 3) rfl ?_); (try (refine gate_guard (by rfl) ?_; dsimp only)); refine xm ?hg (N := 3) ?hd (cs := #[.int .u64 a1_0, .int .i64 a1_1]) (t := 33) ?hr ?_; (case hd => rfl); (case hg => rfl); (case hr => first | (go_simp; done) | (go_simp; rfl)); intro gb101 hg w4 hbox hb; have n0_ := Aside0.mk (us (by repeat (first | (with_reducible first | exact HB.out | apply uf | apply ud | apply ue) | exact HB.out)) hb); have n1_ := Aside0.mk (hbox); have n2_ := Aside0.mk ((by rw [hg]; exact (uv (by repeat (first | (with_reducible first | exact HB.out | apply uf | apply ud | apply ue) | exact HB.out))) : w.heap.size ≤ gb101)); have n3_ := Aside0.mk ((by rw [hg]; exact (uv (by repeat (first | (with_reducible first | exact HB.out | apply uf | apply ud | apply ue) | exact HB.out))) : w.heap.size ≤ gb101)); clear HB; have HB := n0_; have BK101 := n1_; have GW101 := n2_; have GE101 := n3_; clear n0_ n1_ n2_ n3_; clear hb hbox hg))
 (try simp only [Act.put, ua, ub, uc])
 go_cut [20] (fun v20 wc => ∃ (kq : Nat) (x20_2 : Bool), v20 = .bool x20_2 ∧ Aside0 (vergerlaw5_EntryTakes.j0 kq l0 x20_2 a1_0 a1_1 = some r) ∧ Aside0 (kq ≤ k) ∧ Aside0 (wc.heap[gb101]? = some (.cells #[.int .u64 a1_0, .int .i64 a1_1] 33 (0, 0))) ∧ Aside0 (Below w.heap.size w wc))
 case first =>
  have H := HC3.out; clear HC3
  by_cases c5 : (l0.length : Int) > 100
  · rw [if_pos c5] at H; have c5b0 : decide (100 < (l0.length : Int)) = true := decide_eq_true c5; have c5b1 : decide (100 < l0.length) = true := decide_eq_true (by omega); clear c5; (first | rw [c5b0] | (simp only [ui, uj]; rw [c5b0]) | skip); have H' := Aside0.mk H; clear H
    go_wp2
    go_meet
    case rel => exact ⟨_, (true), (by first | rfl | (simp; done) | (simp [*]; done)), H', ⟨by first | omega | exact vn _⟩, ⟨by (with_reducible repeat (first | refine ux ?_ _ | refine uu ?_ | refine uy ?_ _)); exact BK101.out⟩, ⟨by repeat (first | (with_reducible first | exact HB.out | apply uf | apply ud | apply ue | refine ur ?_ GE101.out) | exact HB.out)⟩⟩
  · rw [if_neg c5] at H; have c5b0 : decide (100 < (l0.length : Int)) = false := decide_eq_false c5; have c5b1 : decide (100 < l0.length) = false := decide_eq_false (by omega); clear c5; (first | rw [c5b0] | (simp only [ui, uj]; rw [c5b0]) | skip); replace H := Option.bind_eq_some_iff.mp H; obtain ⟨t102, A60, H⟩ := H; replace H : (vergerlaw5_EntryTakes.j0 k l0 t102 a1_0 a1_1) = some r := H; have A6 := Aside0.mk A60; clear A60; have H' := Aside0.mk H; clear H; have hcz7_0 : w4.cell? ⟨gb101, 0, none⟩ = some (.int .u64 a1_0) := (ut BK101.out 0).trans rfl; have hcz7_1 : w4.cell? ⟨gb101, 1, none⟩ = some (.int .i64 a1_1) := (ut BK101.out 1).trans rfl; have hfz7_0 := vq BK101.out 0; have hfz7_1 := vq BK101.out 1
    go_wp2_with (first | (go_at_call 32; (with_reducible refine (vergerref5_Has.calls k _ _ l0 a1_1 t102 _ ?side1 ?side2 A6.out).mono ?_); (case side1 => repeat (first | exact (Kd.C_below HR0.out HB.out) | (with_reducible refine xi ?_ _) | (with_reducible refine xh ?_ _) | (with_reducible refine xn ?_))); (case side2 => exact HC0.out); rintro e w' ⟨rfl, ⟨nd, rfl⟩⟩))
    go_meet
    case rel => exact ⟨_, (t102), (by first | rfl | (simp; done) | (simp [*]; done)), H', ⟨by first | omega | exact vn _⟩, ⟨by (with_reducible repeat (first | refine ux ?_ _ | refine uu ?_ | refine uy ?_ _)); exact BK101.out⟩, ⟨by repeat (first | (with_reducible first | exact HB.out | apply uf | apply ud | apply ue | refine ur ?_ GE101.out) | exact HB.out)⟩⟩
 case rest =>
  clear HC3
  try clear c1
  try clear p2
  try clear c5
  try clear c5b0
  try clear c5b1
  try clear hcz7_0
  try clear hcz7_1
  try clear hfz7_0
  try clear hfz7_1
  obtain ⟨kq, x20_2, rfl, HA, HJ2, BK101, HB⟩ := hcut
  cases kq with
  | zero => exact absurd HA.out (by simp [vergerlaw5_EntryTakes.j0])
  | succ kj2 =>
   have H := HA.out; clear HA; simp only [vergerlaw5_EntryTakes.j0] at H
   by_cases c8 : x20_2 = true
   · subst c8; (have H1 : ((vergerlaw5_awake.f kj2).bind fun t103 => (some t103)) = some r := by rw [if_pos rfl] at H; exact H); clear H; have H := H1; clear H1; replace H := Option.bind_eq_some_iff.mp H; obtain ⟨t103, A90, H⟩ := H; replace H : (some t103) = some r := H; have A9 := Aside0.mk A90; clear A90; obtain rfl := Option.some.inj H
     go_wp2_with (first | ((with_reducible refine uz (f := 18) rfl ?_); refine xa (some 21) rfl rfl Try.func18 (by kernel_rfl) rfl #[] rfl (by (try simp only [un, uo, uq]); first | done | rfl | (simp only [ul, uk]; rfl)) ?_; (with_reducible refine (vergerlaw5_awake.calls kj2  t103 _ A9.out).mono ?_); rintro e w10 ⟨rfl, hb⟩; refine ⟨_, rfl, ?_⟩; have n0_ := Aside0.mk (vy (g := gb101) (o := .cells #[.int .u64 a1_0, .int .i64 a1_1] 33 (0, 0)) (by (with_reducible repeat (first | refine ux ?_ _ | refine uu ?_ | refine uy ?_ _)); exact BK101.out) hb); have n1_ := Aside0.mk (us (by repeat (first | (with_reducible first | exact HB.out | apply uf | apply ud | apply ue | refine ur ?_ GE101.out) | exact HB.out)) hb); clear BK101; clear HB; have BK101 := n0_; have HB := n1_; clear n0_ n1_; (try clear hb); (try clear hb2); (try clear hk); (try clear hi)))
     go_ret
     exact ⟨by first | rfl | (simp [errW_none, errW_some] <;> rfl) | (simp [*, errW_none, errW_some] <;> rfl), by repeat (first | (with_reducible first | exact HB.out | apply uf | apply ud | apply ue | refine ur ?_ GE101.out) | exact HB.out)⟩
   · replace c8 := Bool.eq_false_iff.mpr c8; subst c8; (have H1 : ((entry_Sort.f l0).bind fun t104 => ((entry_Put.f kj2 t104 a1_0 a1_1).bind fun t107 => ((entry_Place.f kj2 t104 a1_0 a1_1).bind fun t110 => (if (t107.length : Int) = (wrap64 ((t104.length : Int) + 1)) then (if t110 > (t104.length : Int) then (vergerlaw5_EntryTakes.j1 kj2 t104 t107 true a1_0 a1_1) else (if 0 ≤ t110 then (if t110 < (t107.length : Int) then (if (!(((rd_T33 t107 t110).f0) == a1_0) || (!(((rd_T33 t107 t110).f1) == a1_1))) = true then (vergerlaw5_EntryTakes.j1 kj2 t104 t107 true a1_0 a1_1) else ((entry_Sorted.f kj2 t107).bind fun t112 => (vergerlaw5_EntryTakes.j1 kj2 t104 t107 (!t112) a1_0 a1_1))) else (none)) else (none))) else (vergerlaw5_EntryTakes.j1 kj2 t104 t107 true a1_0 a1_1))))) = some r := by rw [if_neg (show ¬ (false = true) by decide)] at H; exact H); clear H; have H := H1; clear H1; replace H := Option.bind_eq_some_iff.mp H; obtain ⟨t104, A110, H⟩ := H; replace H : ((entry_Put.f kj2 t104 a1_0 a1_1).bind fun t107 => ((entry_Place.f kj2 t104 a1_0 a1_1).bind fun t110 => (if (t107.length : Int) = (wrap64 ((t104.length : Int) + 1)) then (if t110 > (t104.length : Int) then (vergerlaw5_EntryTakes.j1 kj2 t104 t107 true a1_0 a1_1) else (if 0 ≤ t110 then (if t110 < (t107.length : Int) then (if (!(((rd_T33 t107 t110).f0) == a1_0) || (!(((rd_T33 t107 t110).f1) == a1_1))) = true then (vergerlaw5_EntryTakes.j1 kj2 t104 t107 true a1_0 a1_1) else ((entry_Sorted.f kj2 t107).bind fun t112 => (vergerlaw5_EntryTakes.j1 kj2 t104 t107 (!t112) a1_0 a1_1))) else (none)) else (none))) else (vergerlaw5_EntryTakes.j1 kj2 t104 t107 true a1_0 a1_1)))) = some r := H; have A11 := Aside0.mk A110; clear A110; replace H := Option.bind_eq_some_iff.mp H; obtain ⟨t107, A120, H⟩ := H; replace H : ((entry_Place.f kj2 t104 a1_0 a1_1).bind fun t110 => (if (t107.length : Int) = (wrap64 ((t104.length : Int) + 1)) then (if t110 > (t104.length : Int) then (vergerlaw5_EntryTakes.j1 kj2 t104 t107 true a1_0 a1_1) else (if 0 ≤ t110 then (if t110 < (t107.length : Int) then (if (!(((rd_T33 t107 t110).f0) == a1_0) || (!(((rd_T33 t107 t110).f1) == a1_1))) = true then (vergerlaw5_EntryTakes.j1 kj2 t104 t107 true a1_0 a1_1) else ((entry_Sorted.f kj2 t107).bind fun t112 => (vergerlaw5_EntryTakes.j1 kj2 t104 t107 (!t112) a1_0 a1_1))) else (none)) else (none))) else (vergerlaw5_EntryTakes.j1 kj2 t104 t107 true a1_0 a1_1))) = some r := H; have A12 := Aside0.mk A120; clear A120; replace H := Option.bind_eq_some_iff.mp H; obtain ⟨t110, A130, H⟩ := H; replace H : (if (t107.length : Int) = (wrap64 ((t104.length : Int) + 1)) then (if t110 > (t104.length : Int) then (vergerlaw5_EntryTakes.j1 kj2 t104 t107 true a1_0 a1_1) else (if 0 ≤ t110 then (if t110 < (t107.length : Int) then (if (!(((rd_T33 t107 t110).f0) == a1_0) || (!(((rd_T33 t107 t110).f1) == a1_1))) = true then (vergerlaw5_EntryTakes.j1 kj2 t104 t107 true a1_0 a1_1) else ((entry_Sorted.f kj2 t107).bind fun t112 => (vergerlaw5_EntryTakes.j1 kj2 t104 t107 (!t112) a1_0 a1_1))) else (none)) else (none))) else (vergerlaw5_EntryTakes.j1 kj2 t104 t107 true a1_0 a1_1)) = some r := H; have A13 := Aside0.mk A130; clear A130; have HC14 := Aside0.mk H; clear H
     go_upto_region 6 with (first | ((with_reducible refine uz (f := 27) rfl ?_); refine xa (some 23) rfl rfl Try.func27 (by kernel_rfl) rfl #[.slice A0 l0.length c0] rfl (by (try simp only [un, uo, uq]); first | done | rfl | (simp only [ul, uk]; rfl)) ?_; (with_reducible refine (entry_Sort.calls _ _ l0 t104 _ ?side1 ?side2 A11.out).mono ?_); (case side1 => repeat (first | exact (Kd.C_below HR0.out HB.out) | (with_reducible refine xi ?_ _) | (with_reducible refine xh ?_ _) | (with_reducible refine xn ?_))); (case side2 => exact HC0.out); rintro e w15 ⟨v105, rfl, ho0, hb⟩; refine ⟨_, rfl, ?_⟩; have n0_ := Aside0.mk (Kd.V_lower (Kd.V_mono (ok' := fun k_ => k_ ≠ gb101) ho0 (fun k_ hk_ => (Kd.freshB (g := gb101) (o := .cells #[.int .u64 a1_0, .int .i64 a1_1] 33 (0, 0)) (by (with_reducible repeat (first | refine ux ?_ _ | refine uu ?_ | refine uy ?_ _)); exact BK101.out) k_ hk_))) (uv (by repeat (first | (with_reducible first | exact HB.out | apply uf | apply ud | apply ue | refine ur ?_ GE101.out) | exact HB.out)))); have n1_ := Aside0.mk (vy (g := gb101) (o := .cells #[.int .u64 a1_0, .int .i64 a1_1] 33 (0, 0)) (by (with_reducible repeat (first | refine ux ?_ _ | refine uu ?_ | refine uy ?_ _)); exact BK101.out) hb); have n2_ := Aside0.mk (us (by repeat (first | (with_reducible first | exact HB.out | apply uf | apply ud | apply ue | refine ur ?_ GE101.out) | exact HB.out)) hb); clear BK101; clear HB; have HO106 := n0_; have BK101 := n1_; have HB := n2_; clear n0_ n1_ n2_; (try clear hb); (try clear hb2); (try clear hk); (try clear hi); (try clear ho0); have hcz16_0 : w15.cell? ⟨gb101, 0, none⟩ = some (.int .u64 a1_0) := (ut BK101.out 0).trans rfl; have hcz16_1 : w15.cell? ⟨gb101, 1, none⟩ = some (.int .i64 a1_1) := (ut BK101.out 1).trans rfl; have hfz16_0 := vq BK101.out 0; have hfz16_1 := vq BK101.out 1; obtain ⟨Ao17, co17, eo17⟩ := Kd.V_slice HO106.out; subst eo17) | ((with_reducible refine uz (f := 33) rfl ?_); refine xa (some 26) rfl rfl Try.func33 (by kernel_rfl) rfl #[.slice Ao17 t104.length co17, .agg #[.int .u64 a1_0, .int .i64 a1_1]] rfl (by (try simp only [un, uo, uq]); first | done | rfl | (simp only [ul, uk]; rfl)) ?_; (with_reducible refine (entry_Put.calls kj2 _ _ t104 a1_0 a1_1 t107 _ ?side1 ?side2 A12.out).mono ?_); (case side1 => repeat (first | exact (xd HO106.out).2.2 | (with_reducible refine xi ?_ _) | (with_reducible refine xh ?_ _) | (with_reducible refine xn ?_))); (case side2 => exact (xd HO106.out).2.1); rintro e w18 ⟨v108, rfl, ho0, hb⟩; refine ⟨_, rfl, ?_⟩; have n0_ := Aside0.mk (vz (by (with_reducible repeat (first | apply vw | apply vv | apply vu)); exact HO106.out) hb); have n1_ := Aside0.mk (Kd.V_lower (Kd.V_mono (ok' := fun k_ => k_ ≠ gb101) ho0 (fun k_ hk_ => (Kd.freshB (g := gb101) (o := .cells #[.int .u64 a1_0, .int .i64 a1_1] 33 (0, 0)) (by (with_reducible repeat (first | refine ux ?_ _ | refine uu ?_ | refine uy ?_ _)); exact BK101.out) k_ hk_))) (uv (by repeat (first | (with_reducible first | exact HB.out | apply uf | apply ud | apply ue | refine ur ?_ GE101.out) | exact HB.out)))); have n2_ := Aside0.mk (vy (g := gb101) (o := .cells #[.int .u64 a1_0, .int .i64 a1_1] 33 (0, 0)) (by (with_reducible repeat (first | refine ux ?_ _ | refine uu ?_ | refine uy ?_ _)); exact BK101.out) hb); have n3_ := Aside0.mk (us (by repeat (first | (with_reducible first | exact HB.out | apply uf | apply ud | apply ue | refine ur ?_ GE101.out) | exact HB.out)) hb); clear HO106; clear BK101; clear HB; have HO106 := n0_; have HO109 := n1_; have BK101 := n2_; have HB := n3_; clear n0_ n1_ n2_ n3_; (try clear hb); (try clear hb2); (try clear hk); (try clear hi); (try clear ho0); have hcz19_0 : w18.cell? ⟨gb101, 0, none⟩ = some (.int .u64 a1_0) := (ut BK101.out 0).trans rfl; have hcz19_1 : w18.cell? ⟨gb101, 1, none⟩ = some (.int .i64 a1_1) := (ut BK101.out 1).trans rfl; have hfz19_0 := vq BK101.out 0; have hfz19_1 := vq BK101.out 1) | ((with_reducible refine uz (f := 31) rfl ?_); refine xa (some 29) rfl rfl Try.func31 (by kernel_rfl) rfl #[.slice Ao17 t104.length co17, .agg #[.int .u64 a1_0, .int .i64 a1_1]] rfl (by (try simp only [un, uo, uq]); first | done | rfl | (simp only [ul, uk]; rfl)) ?_; (with_reducible refine (entry_Place.calls kj2 _ _ t104 a1_0 a1_1 t110 _ ?side1 ?side2 A13.out).mono ?_); (case side1 => repeat (first | exact (xd HO106.out).2.2 | (with_reducible refine xi ?_ _) | (with_reducible refine xh ?_ _) | (with_reducible refine xn ?_))); (case side2 => exact (xd HO106.out).2.1); rintro e w20 ⟨rfl, hb⟩; refine ⟨_, rfl, ?_⟩; have n0_ := Aside0.mk (vz (by (with_reducible repeat (first | apply vw | apply vv | apply vu)); exact HO106.out) hb); have n1_ := Aside0.mk (vz (by (with_reducible repeat (first | apply vw | apply vv | apply vu)); exact HO109.out) hb); have n2_ := Aside0.mk (vy (g := gb101) (o := .cells #[.int .u64 a1_0, .int .i64 a1_1] 33 (0, 0)) (by (with_reducible repeat (first | refine ux ?_ _ | refine uu ?_ | refine uy ?_ _)); exact BK101.out) hb); have n3_ := Aside0.mk (us (by repeat (first | (with_reducible first | exact HB.out | apply uf | apply ud | apply ue | refine ur ?_ GE101.out) | exact HB.out)) hb); clear HO106; clear HO109; clear BK101; clear HB; have HO106 := n0_; have HO109 := n1_; have BK101 := n2_; have HB := n3_; clear n0_ n1_ n2_ n3_; (try clear hb); (try clear hb2); (try clear hk); (try clear hi)))
     (try simp only [Act.put, ua, ub, uc])
     go_cut [54] (fun v54 wc => ∃ (kq : Nat) (x54_13 : Bool), v54 = .bool x54_13 ∧ Aside0 (vergerlaw5_EntryTakes.j1 kq t104 t107 x54_13 a1_0 a1_1 = some r) ∧ Aside0 (kq ≤ kj2) ∧ Aside0 (Kd.V k33 33 wc w.heap.size (fun k_ => k_ ≠ gb101) (.slice Ao17 t104.length co17) t104) ∧ Aside0 (Kd.V k33 33 wc w.heap.size (fun k_ => k_ ≠ gb101) v108 t107) ∧ Aside0 (wc.heap[gb101]? = some (.cells #[.int .u64 a1_0, .int .i64 a1_1] 33 (0, 0))) ∧ Aside0 (Below w.heap.size w wc))
     case first =>
      have H := HC14.out; clear HC14
      by_cases c21 : (t107.length : Int) = (wrap64 ((t104.length : Int) + 1))
      · rw [if_pos c21] at H; have c21b0 : ((t107.length : Int) == (wrap64 ((t104.length : Int) + 1))) = true := beq_iff_eq.mpr c21; have c21b1 : ((t107.length : Int) != (wrap64 ((t104.length : Int) + 1))) = false := bne_eq_false_iff_eq.mpr c21; clear c21; (first | rw [c21b0] | (simp only [ui, uj]; rw [c21b0]) | skip)
        by_cases c22 : t110 > (t104.length : Int)
        · rw [if_pos c22] at H; have c22b0 : decide ((t104.length : Int) < t110) = true := decide_eq_true c22; clear c22; have H' := Aside0.mk H; clear H
          try go_wp2
          have n0_ := Aside0.mk (vu HO106.out); have n1_ := Aside0.mk (vu HO109.out); have n2_ := Aside0.mk (uu BK101.out); have n3_ := Aside0.mk (ue HB.out); clear HO106 HO109 BK101 HB; have HO106 := n0_; have HO109 := n1_; have BK101 := n2_; have HB := n3_; clear n0_ n1_ n2_ n3_; obtain ⟨Ao24, co24, eo24⟩ := Kd.V_slice HO109.out; (first | subst eo24 | (injection eo24 with f1_ f2_ f3_; have f4_ := f1_.symm; have f5_ := f3_.symm; clear f1_ f2_ f3_; subst f4_; subst f5_)); refine start_ (n := 25) (S := fun w' => True) (ds := []) #[X, X, X, X, X, X, X, X, X, X, X, X, X, X, X, X, X, X, X, X, X, X, X, X, X] (by kernel_rfl) rfl rfl trivial (fun hHeld => ?_); refine xe vergerlaw5_EntryTakes.tab6 vergerlaw5_EntryTakes.bits6 (fun HT_ HW_ => ?_); generalize w20.drew = w23 at HO106 HO109 BK101 HB hHeld ⊢; refine um (i := 0) (N := some 30) (v := ?_) (a' := ?_) #[Y, X, X, X, X, X, X, X, X, X, X, X, X, X, X, X, X, X, X, X, X, X, X, X, X] rfl rfl (uh HT_.out (by kernel_rfl)) (fun _ _ _ h => h) (Or.inl ⟨by rfl, ?_⟩) ?_ ?_; rotate_left
          · intro w'; go_simp; (with_reducible rfl)
          rotate_left
          · simp only [Act.put, ua, ub, uc, ui, uj]; rfl
          refine um (i := 1) (N := some 31) (v := ?_) (a' := ?_) #[Y, Y, X, X, X, X, X, X, X, X, X, X, X, X, X, X, X, X, X, X, X, X, X, X, X] rfl rfl (uh HT_.out (by kernel_rfl)) (fun _ _ _ h => h) (Or.inl ⟨by rfl, ?_⟩) ?_ ?_; rotate_left
          · intro w'; go_simp; (with_reducible rfl)
          rotate_left
          · simp only [Act.put, ua, ub, uc, ui, uj]; rfl
          refine um (i := 2) (N := some 32) (v := ?_) (a' := ?_) #[Y, Y, Y, X, X, X, X, X, X, X, X, X, X, X, X, X, X, X, X, X, X, X, X, X, X] rfl rfl (uh HT_.out (by kernel_rfl)) (fun _ _ _ h => h) (Or.inl ⟨by rfl, ?_⟩) ?_ ?_; rotate_left
          · intro w'; go_simp; (with_reducible rfl)
          rotate_left
          · simp only [Act.put, ua, ub, uc, ui, uj]; rfl
          refine um (i := 3) (N := some 33) (v := ?_) (a' := ?_) #[Y, Y, Y, Y, X, X, X, X, X, X, X, X, X, X, X, X, X, X, X, X, X, X, X, X, X] rfl rfl (uh HT_.out (by kernel_rfl)) (fun _ _ _ h => h) (Or.inl ⟨by rfl, ?_⟩) ?_ ?_; rotate_left
          · intro w'; go_simp; (with_reducible rfl)
          rotate_left
          · simp only [Act.put, ua, ub, uc, ui, uj]; rfl
          refine um (i := 4) (N := some 34) (v := ?_) (a' := ?_) #[Y, Y, Y, Y, Y, X, X, X, X, X, X, X, X, X, X, X, X, X, X, X, X, X, X, X, X] rfl rfl (uh HT_.out (by kernel_rfl)) (fun _ _ _ h => h) (Or.inl ⟨by rfl, ?_⟩) ?_ ?_; rotate_left
          · intro w'; go_simp; (with_reducible rfl)
          rotate_left
          · simp only [Act.put, ua, ub, uc, ui, uj]; rfl
          refine um (i := 5) (N := some 35) (v := ?_) (a' := ?_) #[Y, Y, Y, Y, Y, Y, X, X, X, X, X, X, X, X, X, X, X, X, X, X, X, X, X, X, X] rfl rfl (uh HT_.out (by kernel_rfl)) (fun _ _ _ h => h) (Or.inl ⟨by rfl, ?_⟩) ?_ ?_; rotate_left
          · intro w'; go_simp; (with_reducible rfl)
          rotate_left
          · simp only [Act.put, ua, ub, uc, ui, uj]; rfl
          refine um (i := 6) (N := some 36) (v := ?_) (a' := ?_) #[Y, Y, Y, Y, Y, Y, Y, X, X, X, X, X, X, X, X, X, X, X, X, X, X, X, X, X, X] rfl rfl (uh HT_.out (by kernel_rfl)) (fun _ _ _ h => h) (Or.inl ⟨by rfl, ?_⟩) ?_ ?_; rotate_left
          · intro w'; go_simp; (with_reducible rfl)
          rotate_left
          · simp only [Act.put, ua, ub, uc, ui, uj]; rfl
          refine um (i := 7) (N := some 37) (v := ?_) (a' := ?_) #[Y, Y, Y, Y, Y, Y, Y, Y, X, X, X, X, X, X, X, X, X, X, X, X, X, X, X, X, X] rfl rfl (uh HT_.out (by kernel_rfl)) (fun _ _ _ h => h) (Or.inl ⟨by rfl, ?_⟩) ?_ ?_; rotate_left
          · intro w'; go_simp; (with_reducible rfl)
          rotate_left
          · simp only [Act.put, ua, ub, uc, ui, uj]; rfl
          refine um (i := 8) (N := some 38) (v := ?_) (a' := ?_) #[Y, Y, Y, Y, Y, Y, Y, Y, Y, X, X, X, X, X, X, X, X, X, X, X, X, X, X, X, X] rfl rfl (uh HT_.out (by kernel_rfl)) (fun _ _ _ h => h) (Or.inl ⟨by rfl, ?_⟩) ?_ ?_; rotate_left
          · intro w'; go_simp; (with_reducible rfl)
          rotate_left
          · simp only [Act.put, ua, ub, uc, ui, uj]; rfl
          refine um (i := 9) (N := some 39) (v := ?_) (a' := ?_) #[Y, Y, Y, Y, Y, Y, Y, Y, Y, Y, X, X, X, X, X, X, X, X, X, X, X, X, X, X, X] rfl rfl (uh HT_.out (by kernel_rfl)) (fun _ _ _ h => h) (Or.inl ⟨by rfl, ?_⟩) ?_ ?_; rotate_left
          · intro w'; go_simp; (with_reducible rfl)
          rotate_left
          · simp only [Act.put, ua, ub, uc, ui, uj]; rfl
          refine um (i := 10) (N := some 40) (v := ?_) (a' := ?_) #[Y, Y, Y, Y, Y, Y, Y, Y, Y, Y, Y, X, X, X, X, X, X, X, X, X, X, X, X, X, X] rfl rfl (uh HT_.out (by kernel_rfl)) (fun _ _ _ h => h) (Or.inl ⟨by rfl, ?_⟩) ?_ ?_; rotate_left
          · intro w'; go_simp; (with_reducible rfl)
          rotate_left
          · simp only [Act.put, ua, ub, uc, ui, uj]; rfl
          refine um (i := 11) (N := some 41) (v := ?_) (a' := ?_) #[Y, Y, Y, Y, Y, Y, Y, Y, Y, Y, Y, Y, X, X, X, X, X, X, X, X, X, X, X, X, X] rfl rfl (uh HT_.out (by kernel_rfl)) (fun _ _ _ h => h) (Or.inl ⟨by rfl, ?_⟩) ?_ ?_; rotate_left
          · intro w'; go_simp; (with_reducible rfl)
          rotate_left
          · simp only [Act.put, ua, ub, uc, ui, uj]; rfl
          refine um (i := 12) (N := some 42) (v := ?_) (a' := ?_) #[Y, Y, Y, Y, Y, Y, Y, Y, Y, Y, Y, Y, Y, X, X, X, X, X, X, X, X, X, X, X, X] rfl rfl (uh HT_.out (by kernel_rfl)) (fun _ _ _ h => h) (Or.inl ⟨by rfl, ?_⟩) ?_ ?_; rotate_left
          · intro w'; go_simp; (with_reducible rfl)
          rotate_left
          · simp only [Act.put, ua, ub, uc, ui, uj]; rfl
          refine um (i := 13) (N := some 43) (v := undef) (a' := ?_) #[Y, Y, Y, Y, Y, Y, Y, Y, Y, Y, Y, Y, Y, Y, X, X, X, X, X, X, X, X, X, X, X] rfl rfl (uh HT_.out (by kernel_rfl)) (fun _ _ _ h => h) (Or.inr ⟨by rfl, rfl⟩) ?_ ?_; rotate_left
          · simp only [Act.put, ua, ub, uc, ui, uj]; rfl
          refine um (i := 14) (N := some 44) (v := undef) (a' := ?_) #[Y, Y, Y, Y, Y, Y, Y, Y, Y, Y, Y, Y, Y, Y, Y, X, X, X, X, X, X, X, X, X, X] rfl rfl (uh HT_.out (by kernel_rfl)) (fun _ _ _ h => h) (Or.inr ⟨by rfl, rfl⟩) ?_ ?_; rotate_left
          · simp only [Act.put, ua, ub, uc, ui, uj]; rfl
          refine um (i := 15) (N := some 45) (v := undef) (a' := ?_) #[Y, Y, Y, Y, Y, Y, Y, Y, Y, Y, Y, Y, Y, Y, Y, Y, X, X, X, X, X, X, X, X, X] rfl rfl (uh HT_.out (by kernel_rfl)) (fun _ _ _ h => h) (Or.inr ⟨by rfl, rfl⟩) ?_ ?_; rotate_left
          · simp only [Act.put, ua, ub, uc, ui, uj]; rfl
          refine um (i := 16) (N := some 46) (v := undef) (a' := ?_) #[Y, Y, Y, Y, Y, Y, Y, Y, Y, Y, Y, Y, Y, Y, Y, Y, Y, X, X, X, X, X, X, X, X] rfl rfl (uh HT_.out (by kernel_rfl)) (fun _ _ _ h => h) (Or.inr ⟨by rfl, rfl⟩) ?_ ?_; rotate_left
          · simp only [Act.put, ua, ub, uc, ui, uj]; rfl
          refine um (i := 17) (N := some 47) (v := undef) (a' := ?_) #[Y, Y, Y, Y, Y, Y, Y, Y, Y, Y, Y, Y, Y, Y, Y, Y, Y, Y, X, X, X, X, X, X, X] rfl rfl (uh HT_.out (by kernel_rfl)) (fun _ _ _ h => h) (Or.inr ⟨by rfl, rfl⟩) ?_ ?_; rotate_left
          · simp only [Act.put, ua, ub, uc, ui, uj]; rfl
          refine um (i := 18) (N := some 48) (v := undef) (a' := ?_) #[Y, Y, Y, Y, Y, Y, Y, Y, Y, Y, Y, Y, Y, Y, Y, Y, Y, Y, Y, X, X, X, X, X, X] rfl rfl (uh HT_.out (by kernel_rfl)) (fun _ _ _ h => h) (Or.inr ⟨by rfl, rfl⟩) ?_ ?_; rotate_left
          · simp only [Act.put, ua, ub, uc, ui, uj]; rfl
          refine um (i := 19) (N := some 49) (v := ?_) (a' := ?_) #[Y, Y, Y, Y, Y, Y, Y, Y, Y, Y, Y, Y, Y, Y, Y, Y, Y, Y, Y, Y, X, X, X, X, X] rfl rfl (uh HT_.out (by kernel_rfl)) (fun _ _ _ h => h) (Or.inl ⟨by rfl, ?_⟩) ?_ ?_; rotate_left
          · intro w'; go_simp; (with_reducible rfl)
          rotate_left
          · simp only [Act.put, ua, ub, uc, ui, uj]; rfl
          refine um (i := 20) (N := some 50) (v := ?_) (a' := ?_) #[Y, Y, Y, Y, Y, Y, Y, Y, Y, Y, Y, Y, Y, Y, Y, Y, Y, Y, Y, Y, Y, X, X, X, X] rfl rfl (uh HT_.out (by kernel_rfl)) (fun _ _ _ h => h) (Or.inl ⟨by rfl, ?_⟩) ?_ ?_; rotate_left
          · intro w'; go_simp; (with_reducible rfl)
          rotate_left
          · simp only [Act.put, ua, ub, uc, ui, uj]; rfl
          refine um (i := 21) (N := some 51) (v := undef) (a' := ?_) #[Y, Y, Y, Y, Y, Y, Y, Y, Y, Y, Y, Y, Y, Y, Y, Y, Y, Y, Y, Y, Y, Y, X, X, X] rfl rfl (uh HT_.out (by kernel_rfl)) (fun _ _ _ h => h) (Or.inr ⟨by rfl, rfl⟩) ?_ ?_; rotate_left
          · simp only [Act.put, ua, ub, uc, ui, uj]; rfl
          refine um (i := 22) (N := some 52) (v := undef) (a' := ?_) #[Y, Y, Y, Y, Y, Y, Y, Y, Y, Y, Y, Y, Y, Y, Y, Y, Y, Y, Y, Y, Y, Y, Y, X, X] rfl rfl (uh HT_.out (by kernel_rfl)) (fun _ _ _ h => h) (Or.inr ⟨by rfl, rfl⟩) ?_ ?_; rotate_left
          · simp only [Act.put, ua, ub, uc, ui, uj]; rfl
          refine um (i := 23) (N := some 53) (v := undef) (a' := ?_) #[Y, Y, Y, Y, Y, Y, Y, Y, Y, Y, Y, Y, Y, Y, Y, Y, Y, Y, Y, Y, Y, Y, Y, Y, X] rfl rfl (uh HT_.out (by kernel_rfl)) (fun _ _ _ h => h) (Or.inr ⟨by rfl, rfl⟩) ?_ ?_; rotate_left
          · simp only [Act.put, ua, ub, uc, ui, uj]; rfl
          refine um (i := 24) (N := some 54) (v := ?_) (a' := ?_) #[Y, Y, Y, Y, Y, Y, Y, Y, Y, Y, Y, Y, Y, Y, Y, Y, Y, Y, Y, Y, Y, Y, Y, Y, Y] rfl rfl (uh HT_.out (by kernel_rfl)) (fun _ _ _ h => h) (Or.inl ⟨by rfl, ?_⟩) ?_ ?_; rotate_left
          · intro w'; go_simp; (with_reducible rfl)
          rotate_left
          · simp only [Act.put, ua, ub, uc, ui, uj]; rfl
          refine done_ (xj HT_.out (by kernel_rfl)) ?_
          try go_wp2
          go_meet
          case rel => exact ⟨_, (true), (by first | rfl | (simp; done) | (simp [*]; done)), H', ⟨by have := HJ2.out; first | omega | exact vn _⟩, ⟨by (with_reducible repeat (first | apply vw | apply vv | apply vu)); exact HO106.out⟩, ⟨by (with_reducible repeat (first | apply vw | apply vv | apply vu)); exact HO109.out⟩, ⟨by (with_reducible repeat (first | refine ux ?_ _ | refine uu ?_ | refine uy ?_ _)); exact BK101.out⟩, ⟨by repeat (first | (with_reducible first | exact HB.out | apply uf | apply ud | apply ue | refine ur ?_ GE101.out) | exact HB.out)⟩⟩
        · rw [if_neg c22] at H; have c22b0 : decide ((t104.length : Int) < t110) = false := decide_eq_false c22; clear c22
          by_cases c25 : 0 ≤ t110
          · rw [if_pos c25] at H; have c25b0 : decide (0 ≤ t110) = true := decide_eq_true c25; clear c25
            by_cases c26 : t110 < (t107.length : Int)
            · rw [if_pos c26] at H; have c26b0 : decide (t110 < (t107.length : Int)) = true := decide_eq_true c26; clear c26
              by_cases c27 : (!(((rd_T33 t107 t110).f0) == a1_0) || (!(((rd_T33 t107 t110).f1) == a1_1))) = true
              · rw [if_pos c27] at H; have c27b0 : (!(((rd_T33 t107 t110).f0) == a1_0) || (!(((rd_T33 t107 t110).f1) == a1_1))) = true := c27; clear c27; have H' := Aside0.mk H; clear H
                try go_wp2
                have n0_ := Aside0.mk (vu HO106.out); have n1_ := Aside0.mk (vu HO109.out); have n2_ := Aside0.mk (uu BK101.out); have n3_ := Aside0.mk (ue HB.out); clear HO106 HO109 BK101 HB; have HO106 := n0_; have HO109 := n1_; have BK101 := n2_; have HB := n3_; clear n0_ n1_ n2_ n3_; obtain ⟨Ao29, co29, eo29⟩ := Kd.V_slice HO109.out; (first | subst eo29 | (injection eo29 with f1_ f2_ f3_; have f4_ := f1_.symm; have f5_ := f3_.symm; clear f1_ f2_ f3_; subst f4_; subst f5_)); have p111 : 0 ≤ (t110 : Int) := ug (by first | (with_reducible assumption) | assumption); have q111 : t110 < (t107.length : Int) := ug (by first | (with_reducible assumption) | assumption); obtain ⟨ad111, e111, hx111_0, hx111_1⟩ := at_T33 (xd HO109.out).2.2 t110 p111 q111
                cases e111
                replace p111 := eq_true p111; replace q111 := eq_true q111; refine start_ (n := 25) (S := fun w' => w'.cell? ⟨gb101, 0, none⟩ = some (.int .u64 a1_0) ∧ w'.cell? ⟨gb101, 1, none⟩ = some (.int .i64 a1_1) ∧ w'.cell? (ad111.add ((t110).toNat * 2)) = some (.int .u64 ((rd_T33 t107 t110).f0)) ∧ w'.cell? ⟨(ad111.add ((t110).toNat * 2)).block, (ad111.add ((t110).toNat * 2)).off + 1, none⟩ = some (.int .i64 ((rd_T33 t107 t110).f1))) (ds := []) #[X, X, X, X, X, X, X, X, X, X, X, X, X, X, X, X, X, X, X, X, X, X, X, X, X] (by kernel_rfl) rfl rfl ⟨(ut BK101.out 0).trans rfl, (ut BK101.out 1).trans rfl, hx111_0, hx111_1⟩ (fun hHeld => ?_); refine xe vergerlaw5_EntryTakes.tab6 vergerlaw5_EntryTakes.bits6 (fun HT_ HW_ => ?_); generalize w20.drew = w28 at HO106 HO109 BK101 HB hx111_0 hx111_1 hHeld ⊢; refine um (i := 0) (N := some 30) (v := ?_) (a' := ?_) #[Y, X, X, X, X, X, X, X, X, X, X, X, X, X, X, X, X, X, X, X, X, X, X, X, X] rfl rfl (uh HT_.out (by kernel_rfl)) (fun _ _ _ h => h) (Or.inl ⟨by rfl, ?_⟩) ?_ ?_; rotate_left
                · intro w'; go_simp; (with_reducible rfl)
                rotate_left
                · simp only [Act.put, ua, ub, uc, ui, uj]; rfl
                refine um (i := 1) (N := some 31) (v := ?_) (a' := ?_) #[Y, Y, X, X, X, X, X, X, X, X, X, X, X, X, X, X, X, X, X, X, X, X, X, X, X] rfl rfl (uh HT_.out (by kernel_rfl)) (fun _ _ _ h => h) (Or.inl ⟨by rfl, ?_⟩) ?_ ?_; rotate_left
                · intro w'; go_simp; (with_reducible rfl)
                rotate_left
                · simp only [Act.put, ua, ub, uc, ui, uj]; rfl
                refine um (i := 2) (N := some 32) (v := ?_) (a' := ?_) #[Y, Y, Y, X, X, X, X, X, X, X, X, X, X, X, X, X, X, X, X, X, X, X, X, X, X] rfl rfl (uh HT_.out (by kernel_rfl)) (fun _ _ _ h => h) (Or.inl ⟨by rfl, ?_⟩) ?_ ?_; rotate_left
                · intro w'; go_simp; (with_reducible rfl)
                rotate_left
                · simp only [Act.put, ua, ub, uc, ui, uj]; rfl
                refine um (i := 3) (N := some 33) (v := ?_) (a' := ?_) #[Y, Y, Y, Y, X, X, X, X, X, X, X, X, X, X, X, X, X, X, X, X, X, X, X, X, X] rfl rfl (uh HT_.out (by kernel_rfl)) (fun _ _ _ h => h) (Or.inl ⟨by rfl, ?_⟩) ?_ ?_; rotate_left
                · intro w'; go_simp; (with_reducible rfl)
                rotate_left
                · simp only [Act.put, ua, ub, uc, ui, uj]; rfl
                refine um (i := 4) (N := some 34) (v := ?_) (a' := ?_) #[Y, Y, Y, Y, Y, X, X, X, X, X, X, X, X, X, X, X, X, X, X, X, X, X, X, X, X] rfl rfl (uh HT_.out (by kernel_rfl)) (fun _ _ _ h => h) (Or.inl ⟨by rfl, ?_⟩) ?_ ?_; rotate_left
                · intro w'; go_simp; (with_reducible rfl)
                rotate_left
                · simp only [Act.put, ua, ub, uc, ui, uj]; rfl
                refine um (i := 5) (N := some 35) (v := ?_) (a' := ?_) #[Y, Y, Y, Y, Y, Y, X, X, X, X, X, X, X, X, X, X, X, X, X, X, X, X, X, X, X] rfl rfl (uh HT_.out (by kernel_rfl)) (fun _ _ _ h => h) (Or.inl ⟨by rfl, ?_⟩) ?_ ?_; rotate_left
                · intro w'; go_simp; (with_reducible rfl)
                rotate_left
                · simp only [Act.put, ua, ub, uc, ui, uj]; rfl
                refine um (i := 6) (N := some 36) (v := ?_) (a' := ?_) #[Y, Y, Y, Y, Y, Y, Y, X, X, X, X, X, X, X, X, X, X, X, X, X, X, X, X, X, X] rfl rfl (uh HT_.out (by kernel_rfl)) (fun _ _ _ h => h) (Or.inl ⟨by rfl, ?_⟩) ?_ ?_; rotate_left
                · intro w'; go_simp; (with_reducible rfl)
                rotate_left
                · simp only [Act.put, ua, ub, uc, ui, uj]; rfl
                refine um (i := 7) (N := some 37) (v := ?_) (a' := ?_) #[Y, Y, Y, Y, Y, Y, Y, Y, X, X, X, X, X, X, X, X, X, X, X, X, X, X, X, X, X] rfl rfl (uh HT_.out (by kernel_rfl)) (fun _ _ _ h => h) (Or.inl ⟨by rfl, ?_⟩) ?_ ?_; rotate_left
                · intro w'; go_simp; (with_reducible rfl)
                rotate_left
                · simp only [Act.put, ua, ub, uc, ui, uj]; rfl
                refine um (i := 8) (N := some 38) (v := ?_) (a' := ?_) #[Y, Y, Y, Y, Y, Y, Y, Y, Y, X, X, X, X, X, X, X, X, X, X, X, X, X, X, X, X] rfl rfl (uh HT_.out (by kernel_rfl)) (fun _ _ _ h => h) (Or.inl ⟨by rfl, ?_⟩) ?_ ?_; rotate_left
                · intro w'; go_simp; (with_reducible rfl)
                rotate_left
                · simp only [Act.put, ua, ub, uc, ui, uj]; rfl
                refine um (i := 9) (N := some 39) (v := ?_) (a' := ?_) #[Y, Y, Y, Y, Y, Y, Y, Y, Y, Y, X, X, X, X, X, X, X, X, X, X, X, X, X, X, X] rfl rfl (uh HT_.out (by kernel_rfl)) (fun _ _ _ h => h) (Or.inl ⟨by rfl, ?_⟩) ?_ ?_; rotate_left
                · intro w'; go_simp; (with_reducible rfl)
                rotate_left
                · simp only [Act.put, ua, ub, uc, ui, uj]; rfl
                refine um (i := 10) (N := some 40) (v := ?_) (a' := ?_) #[Y, Y, Y, Y, Y, Y, Y, Y, Y, Y, Y, X, X, X, X, X, X, X, X, X, X, X, X, X, X] rfl rfl (uh HT_.out (by kernel_rfl)) (fun _ _ _ h => h) (Or.inl ⟨by rfl, ?_⟩) ?_ ?_; rotate_left
                · intro w'; go_simp; (with_reducible rfl)
                rotate_left
                · simp only [Act.put, ua, ub, uc, ui, uj]; rfl
                refine um (i := 11) (N := some 41) (v := ?_) (a' := ?_) #[Y, Y, Y, Y, Y, Y, Y, Y, Y, Y, Y, Y, X, X, X, X, X, X, X, X, X, X, X, X, X] rfl rfl (uh HT_.out (by kernel_rfl)) (fun _ _ _ h => h) (Or.inl ⟨by rfl, ?_⟩) ?_ ?_; rotate_left
                · intro w'; go_simp; (with_reducible rfl)
                rotate_left
                · simp only [Act.put, ua, ub, uc, ui, uj]; rfl
                refine um (i := 12) (N := some 42) (v := ?_) (a' := ?_) #[Y, Y, Y, Y, Y, Y, Y, Y, Y, Y, Y, Y, Y, X, X, X, X, X, X, X, X, X, X, X, X] rfl rfl (uh HT_.out (by kernel_rfl)) (fun _ _ _ h => h) (Or.inl ⟨by rfl, ?_⟩) ?_ ?_; rotate_left
                · intro w'; go_simp; (with_reducible rfl)
                rotate_left
                · simp only [Act.put, ua, ub, uc, ui, uj]; rfl
                refine um (i := 13) (N := some 43) (v := ?_) (a' := ?_) #[Y, Y, Y, Y, Y, Y, Y, Y, Y, Y, Y, Y, Y, Y, X, X, X, X, X, X, X, X, X, X, X] rfl rfl (uh HT_.out (by kernel_rfl)) (fun _ _ _ h => h) (Or.inl ⟨by rfl, ?_⟩) ?_ ?_; rotate_left
                · intro w'; go_simp; (with_reducible rfl)
                rotate_left
                · simp only [Act.put, ua, ub, uc, ui, uj]; rfl
                refine um (i := 14) (N := some 44) (v := ?_) (a' := ?_) #[Y, Y, Y, Y, Y, Y, Y, Y, Y, Y, Y, Y, Y, Y, Y, X, X, X, X, X, X, X, X, X, X] rfl rfl (uh HT_.out (by kernel_rfl)) (fun _ _ _ h => h) (Or.inl ⟨by rfl, ?_⟩) ?_ ?_; rotate_left
                · intro w'; go_simp; (with_reducible rfl)
                rotate_left
                · simp only [Act.put, ua, ub, uc, ui, uj]; rfl
                refine um (i := 15) (N := some 45) (v := ?_) (a' := ?_) #[Y, Y, Y, Y, Y, Y, Y, Y, Y, Y, Y, Y, Y, Y, Y, Y, X, X, X, X, X, X, X, X, X] rfl rfl (uh HT_.out (by kernel_rfl)) (fun _ _ _ h => h) (Or.inl ⟨by rfl, ?_⟩) ?_ ?_; rotate_left
                · intro w'; go_simp; (with_reducible rfl)
                rotate_left
                · simp only [Act.put, ua, ub, uc, ui, uj]; rfl
                refine xl (i := 16) (N := some 46) (v := ?_) (a' := ?_) #[Y, Y, Y, Y, Y, Y, Y, Y, Y, Y, Y, Y, Y, Y, Y, Y, Y, X, X, X, X, X, X, X, X] rfl rfl (vx HT_.out HW_.out (by kernel_rfl)) (fun _ _ _ h => h) (Or.inl ⟨by rfl, ?_⟩) hHeld ?_ ?_; rotate_left
                · rintro w' ⟨s0, s1, s2, s3⟩; go_simp; (with_reducible rfl)
                rotate_left
                · simp only [Act.put, ua, ub, uc, ui, uj]; rfl
                refine xl (i := 17) (N := some 47) (v := ?_) (a' := ?_) #[Y, Y, Y, Y, Y, Y, Y, Y, Y, Y, Y, Y, Y, Y, Y, Y, Y, Y, X, X, X, X, X, X, X] rfl rfl (vx HT_.out HW_.out (by kernel_rfl)) (fun _ _ _ h => h) (Or.inl ⟨by rfl, ?_⟩) hHeld ?_ ?_; rotate_left
                · rintro w' ⟨s0, s1, s2, s3⟩; go_simp; (with_reducible rfl)
                rotate_left
                · simp only [Act.put, ua, ub, uc, ui, uj]; rfl
                refine um (i := 18) (N := some 48) (v := ?_) (a' := ?_) #[Y, Y, Y, Y, Y, Y, Y, Y, Y, Y, Y, Y, Y, Y, Y, Y, Y, Y, Y, X, X, X, X, X, X] rfl rfl (uh HT_.out (by kernel_rfl)) (fun _ _ _ h => h) (Or.inl ⟨by rfl, ?_⟩) ?_ ?_; rotate_left
                · intro w'; go_simp; (with_reducible rfl)
                rotate_left
                · simp only [Act.put, ua, ub, uc, ui, uj]; rfl
                refine um (i := 19) (N := some 49) (v := ?_) (a' := ?_) #[Y, Y, Y, Y, Y, Y, Y, Y, Y, Y, Y, Y, Y, Y, Y, Y, Y, Y, Y, Y, X, X, X, X, X] rfl rfl (uh HT_.out (by kernel_rfl)) (fun _ _ _ h => h) (Or.inl ⟨by rfl, ?_⟩) ?_ ?_; rotate_left
                · intro w'; go_simp; (with_reducible rfl)
                rotate_left
                · simp only [Act.put, ua, ub, uc, ui, uj]; rfl
                refine um (i := 20) (N := some 50) (v := ?_) (a' := ?_) #[Y, Y, Y, Y, Y, Y, Y, Y, Y, Y, Y, Y, Y, Y, Y, Y, Y, Y, Y, Y, Y, X, X, X, X] rfl rfl (uh HT_.out (by kernel_rfl)) (fun _ _ _ h => h) (Or.inl ⟨by rfl, ?_⟩) ?_ ?_; rotate_left
                · intro w'; go_simp; (with_reducible rfl)
                rotate_left
                · simp only [Act.put, ua, ub, uc, ui, uj]; rfl
                refine um (i := 21) (N := some 51) (v := undef) (a' := ?_) #[Y, Y, Y, Y, Y, Y, Y, Y, Y, Y, Y, Y, Y, Y, Y, Y, Y, Y, Y, Y, Y, Y, X, X, X] rfl rfl (uh HT_.out (by kernel_rfl)) (fun _ _ _ h => h) (Or.inr ⟨by rfl, rfl⟩) ?_ ?_; rotate_left
                · simp only [Act.put, ua, ub, uc, ui, uj]; rfl
                refine um (i := 22) (N := some 52) (v := undef) (a' := ?_) #[Y, Y, Y, Y, Y, Y, Y, Y, Y, Y, Y, Y, Y, Y, Y, Y, Y, Y, Y, Y, Y, Y, Y, X, X] rfl rfl (uh HT_.out (by kernel_rfl)) (fun _ _ _ h => h) (Or.inr ⟨by rfl, rfl⟩) ?_ ?_; rotate_left
                · simp only [Act.put, ua, ub, uc, ui, uj]; rfl
                refine um (i := 23) (N := some 53) (v := undef) (a' := ?_) #[Y, Y, Y, Y, Y, Y, Y, Y, Y, Y, Y, Y, Y, Y, Y, Y, Y, Y, Y, Y, Y, Y, Y, Y, X] rfl rfl (uh HT_.out (by kernel_rfl)) (fun _ _ _ h => h) (Or.inr ⟨by rfl, rfl⟩) ?_ ?_; rotate_left
                · simp only [Act.put, ua, ub, uc, ui, uj]; rfl
                refine um (i := 24) (N := some 54) (v := ?_) (a' := ?_) #[Y, Y, Y, Y, Y, Y, Y, Y, Y, Y, Y, Y, Y, Y, Y, Y, Y, Y, Y, Y, Y, Y, Y, Y, Y] rfl rfl (uh HT_.out (by kernel_rfl)) (fun _ _ _ h => h) (Or.inl ⟨by rfl, ?_⟩) ?_ ?_; rotate_left
                · intro w'; go_simp; (with_reducible rfl)
                rotate_left
                · simp only [Act.put, ua, ub, uc, ui, uj]; rfl
                refine done_ (xj HT_.out (by kernel_rfl)) ?_
                try go_wp2
                go_meet
                case rel => exact ⟨_, (true), (by first | rfl | (simp; done) | (simp [*]; done)), H', ⟨by have := HJ2.out; first | omega | exact vn _⟩, ⟨by (with_reducible repeat (first | apply vw | apply vv | apply vu)); exact HO106.out⟩, ⟨by (with_reducible repeat (first | apply vw | apply vv | apply vu)); exact HO109.out⟩, ⟨by (with_reducible repeat (first | refine ux ?_ _ | refine uu ?_ | refine uy ?_ _)); exact BK101.out⟩, ⟨by repeat (first | (with_reducible first | exact HB.out | apply uf | apply ud | apply ue | refine ur ?_ GE101.out) | exact HB.out)⟩⟩
              · rw [if_neg c27] at H; (have c27b0 : (!(((rd_T33 t107 t110).f0) == a1_0) || (!(((rd_T33 t107 t110).f1) == a1_1))) = false := by simpa using c27); clear c27; replace H := Option.bind_eq_some_iff.mp H; obtain ⟨t112, A300, H⟩ := H; replace H : (vergerlaw5_EntryTakes.j1 kj2 t104 t107 (!t112) a1_0 a1_1) = some r := H; have A30 := Aside0.mk A300; clear A300; have H' := Aside0.mk H; clear H
                try go_wp2
                have n0_ := Aside0.mk (vu HO106.out); have n1_ := Aside0.mk (vu HO109.out); have n2_ := Aside0.mk (uu BK101.out); have n3_ := Aside0.mk (ue HB.out); clear HO106 HO109 BK101 HB; have HO106 := n0_; have HO109 := n1_; have BK101 := n2_; have HB := n3_; clear n0_ n1_ n2_ n3_; obtain ⟨Ao32, co32, eo32⟩ := Kd.V_slice HO109.out; (first | subst eo32 | (injection eo32 with f1_ f2_ f3_; have f4_ := f1_.symm; have f5_ := f3_.symm; clear f1_ f2_ f3_; subst f4_; subst f5_)); have p111 : 0 ≤ (t110 : Int) := ug (by first | (with_reducible assumption) | assumption); have q111 : t110 < (t107.length : Int) := ug (by first | (with_reducible assumption) | assumption); obtain ⟨ad111, e111, hx111_0, hx111_1⟩ := at_T33 (xd HO109.out).2.2 t110 p111 q111
                cases e111
                replace p111 := eq_true p111; replace q111 := eq_true q111; refine start_ (n := 25) (S := fun w' => w'.cell? ⟨gb101, 0, none⟩ = some (.int .u64 a1_0) ∧ w'.cell? ⟨gb101, 1, none⟩ = some (.int .i64 a1_1) ∧ w'.cell? (ad111.add ((t110).toNat * 2)) = some (.int .u64 ((rd_T33 t107 t110).f0)) ∧ w'.cell? ⟨(ad111.add ((t110).toNat * 2)).block, (ad111.add ((t110).toNat * 2)).off + 1, none⟩ = some (.int .i64 ((rd_T33 t107 t110).f1))) (ds := []) #[X, X, X, X, X, X, X, X, X, X, X, X, X, X, X, X, X, X, X, X, X, X, X, X, X] (by kernel_rfl) rfl rfl ⟨(ut BK101.out 0).trans rfl, (ut BK101.out 1).trans rfl, hx111_0, hx111_1⟩ (fun hHeld => ?_); refine xe vergerlaw5_EntryTakes.tab6 vergerlaw5_EntryTakes.bits6 (fun HT_ HW_ => ?_); generalize w20.drew = w31 at HO106 HO109 BK101 HB hx111_0 hx111_1 hHeld ⊢; refine um (i := 0) (N := some 30) (v := ?_) (a' := ?_) #[Y, X, X, X, X, X, X, X, X, X, X, X, X, X, X, X, X, X, X, X, X, X, X, X, X] rfl rfl (uh HT_.out (by kernel_rfl)) (fun _ _ _ h => h) (Or.inl ⟨by rfl, ?_⟩) ?_ ?_; rotate_left
                · intro w'; go_simp; (with_reducible rfl)
                rotate_left
                · simp only [Act.put, ua, ub, uc, ui, uj]; rfl
                refine um (i := 1) (N := some 31) (v := ?_) (a' := ?_) #[Y, Y, X, X, X, X, X, X, X, X, X, X, X, X, X, X, X, X, X, X, X, X, X, X, X] rfl rfl (uh HT_.out (by kernel_rfl)) (fun _ _ _ h => h) (Or.inl ⟨by rfl, ?_⟩) ?_ ?_; rotate_left
                · intro w'; go_simp; (with_reducible rfl)
                rotate_left
                · simp only [Act.put, ua, ub, uc, ui, uj]; rfl
                refine um (i := 2) (N := some 32) (v := ?_) (a' := ?_) #[Y, Y, Y, X, X, X, X, X, X, X, X, X, X, X, X, X, X, X, X, X, X, X, X, X, X] rfl rfl (uh HT_.out (by kernel_rfl)) (fun _ _ _ h => h) (Or.inl ⟨by rfl, ?_⟩) ?_ ?_; rotate_left
                · intro w'; go_simp; (with_reducible rfl)
                rotate_left
                · simp only [Act.put, ua, ub, uc, ui, uj]; rfl
                refine um (i := 3) (N := some 33) (v := ?_) (a' := ?_) #[Y, Y, Y, Y, X, X, X, X, X, X, X, X, X, X, X, X, X, X, X, X, X, X, X, X, X] rfl rfl (uh HT_.out (by kernel_rfl)) (fun _ _ _ h => h) (Or.inl ⟨by rfl, ?_⟩) ?_ ?_; rotate_left
                · intro w'; go_simp; (with_reducible rfl)
                rotate_left
                · simp only [Act.put, ua, ub, uc, ui, uj]; rfl
                refine um (i := 4) (N := some 34) (v := ?_) (a' := ?_) #[Y, Y, Y, Y, Y, X, X, X, X, X, X, X, X, X, X, X, X, X, X, X, X, X, X, X, X] rfl rfl (uh HT_.out (by kernel_rfl)) (fun _ _ _ h => h) (Or.inl ⟨by rfl, ?_⟩) ?_ ?_; rotate_left
                · intro w'; go_simp; (with_reducible rfl)
                rotate_left
                · simp only [Act.put, ua, ub, uc, ui, uj]; rfl
                refine um (i := 5) (N := some 35) (v := ?_) (a' := ?_) #[Y, Y, Y, Y, Y, Y, X, X, X, X, X, X, X, X, X, X, X, X, X, X, X, X, X, X, X] rfl rfl (uh HT_.out (by kernel_rfl)) (fun _ _ _ h => h) (Or.inl ⟨by rfl, ?_⟩) ?_ ?_; rotate_left
                · intro w'; go_simp; (with_reducible rfl)
                rotate_left
                · simp only [Act.put, ua, ub, uc, ui, uj]; rfl
                refine um (i := 6) (N := some 36) (v := ?_) (a' := ?_) #[Y, Y, Y, Y, Y, Y, Y, X, X, X, X, X, X, X, X, X, X, X, X, X, X, X, X, X, X] rfl rfl (uh HT_.out (by kernel_rfl)) (fun _ _ _ h => h) (Or.inl ⟨by rfl, ?_⟩) ?_ ?_; rotate_left
                · intro w'; go_simp; (with_reducible rfl)
                rotate_left
                · simp only [Act.put, ua, ub, uc, ui, uj]; rfl
                refine um (i := 7) (N := some 37) (v := ?_) (a' := ?_) #[Y, Y, Y, Y, Y, Y, Y, Y, X, X, X, X, X, X, X, X, X, X, X, X, X, X, X, X, X] rfl rfl (uh HT_.out (by kernel_rfl)) (fun _ _ _ h => h) (Or.inl ⟨by rfl, ?_⟩) ?_ ?_; rotate_left
                · intro w'; go_simp; (with_reducible rfl)
                rotate_left
                · simp only [Act.put, ua, ub, uc, ui, uj]; rfl
                refine um (i := 8) (N := some 38) (v := ?_) (a' := ?_) #[Y, Y, Y, Y, Y, Y, Y, Y, Y, X, X, X, X, X, X, X, X, X, X, X, X, X, X, X, X] rfl rfl (uh HT_.out (by kernel_rfl)) (fun _ _ _ h => h) (Or.inl ⟨by rfl, ?_⟩) ?_ ?_; rotate_left
                · intro w'; go_simp; (with_reducible rfl)
                rotate_left
                · simp only [Act.put, ua, ub, uc, ui, uj]; rfl
                refine um (i := 9) (N := some 39) (v := ?_) (a' := ?_) #[Y, Y, Y, Y, Y, Y, Y, Y, Y, Y, X, X, X, X, X, X, X, X, X, X, X, X, X, X, X] rfl rfl (uh HT_.out (by kernel_rfl)) (fun _ _ _ h => h) (Or.inl ⟨by rfl, ?_⟩) ?_ ?_; rotate_left
                · intro w'; go_simp; (with_reducible rfl)
                rotate_left
                · simp only [Act.put, ua, ub, uc, ui, uj]; rfl
                refine um (i := 10) (N := some 40) (v := ?_) (a' := ?_) #[Y, Y, Y, Y, Y, Y, Y, Y, Y, Y, Y, X, X, X, X, X, X, X, X, X, X, X, X, X, X] rfl rfl (uh HT_.out (by kernel_rfl)) (fun _ _ _ h => h) (Or.inl ⟨by rfl, ?_⟩) ?_ ?_; rotate_left
                · intro w'; go_simp; (with_reducible rfl)
                rotate_left
                · simp only [Act.put, ua, ub, uc, ui, uj]; rfl
                refine um (i := 11) (N := some 41) (v := ?_) (a' := ?_) #[Y, Y, Y, Y, Y, Y, Y, Y, Y, Y, Y, Y, X, X, X, X, X, X, X, X, X, X, X, X, X] rfl rfl (uh HT_.out (by kernel_rfl)) (fun _ _ _ h => h) (Or.inl ⟨by rfl, ?_⟩) ?_ ?_; rotate_left
                · intro w'; go_simp; (with_reducible rfl)
                rotate_left
                · simp only [Act.put, ua, ub, uc, ui, uj]; rfl
                refine um (i := 12) (N := some 42) (v := ?_) (a' := ?_) #[Y, Y, Y, Y, Y, Y, Y, Y, Y, Y, Y, Y, Y, X, X, X, X, X, X, X, X, X, X, X, X] rfl rfl (uh HT_.out (by kernel_rfl)) (fun _ _ _ h => h) (Or.inl ⟨by rfl, ?_⟩) ?_ ?_; rotate_left
                · intro w'; go_simp; (with_reducible rfl)
                rotate_left
                · simp only [Act.put, ua, ub, uc, ui, uj]; rfl
                refine um (i := 13) (N := some 43) (v := ?_) (a' := ?_) #[Y, Y, Y, Y, Y, Y, Y, Y, Y, Y, Y, Y, Y, Y, X, X, X, X, X, X, X, X, X, X, X] rfl rfl (uh HT_.out (by kernel_rfl)) (fun _ _ _ h => h) (Or.inl ⟨by rfl, ?_⟩) ?_ ?_; rotate_left
                · intro w'; go_simp; (with_reducible rfl)
                rotate_left
                · simp only [Act.put, ua, ub, uc, ui, uj]; rfl
                refine um (i := 14) (N := some 44) (v := ?_) (a' := ?_) #[Y, Y, Y, Y, Y, Y, Y, Y, Y, Y, Y, Y, Y, Y, Y, X, X, X, X, X, X, X, X, X, X] rfl rfl (uh HT_.out (by kernel_rfl)) (fun _ _ _ h => h) (Or.inl ⟨by rfl, ?_⟩) ?_ ?_; rotate_left
                · intro w'; go_simp; (with_reducible rfl)
                rotate_left
                · simp only [Act.put, ua, ub, uc, ui, uj]; rfl
                refine um (i := 15) (N := some 45) (v := ?_) (a' := ?_) #[Y, Y, Y, Y, Y, Y, Y, Y, Y, Y, Y, Y, Y, Y, Y, Y, X, X, X, X, X, X, X, X, X] rfl rfl (uh HT_.out (by kernel_rfl)) (fun _ _ _ h => h) (Or.inl ⟨by rfl, ?_⟩) ?_ ?_; rotate_left
                · intro w'; go_simp; (with_reducible rfl)
                rotate_left
                · simp only [Act.put, ua, ub, uc, ui, uj]; rfl
                refine xl (i := 16) (N := some 46) (v := ?_) (a' := ?_) #[Y, Y, Y, Y, Y, Y, Y, Y, Y, Y, Y, Y, Y, Y, Y, Y, Y, X, X, X, X, X, X, X, X] rfl rfl (vx HT_.out HW_.out (by kernel_rfl)) (fun _ _ _ h => h) (Or.inl ⟨by rfl, ?_⟩) hHeld ?_ ?_; rotate_left
                · rintro w' ⟨s0, s1, s2, s3⟩; go_simp; (with_reducible rfl)
                rotate_left
                · simp only [Act.put, ua, ub, uc, ui, uj]; rfl
                refine xl (i := 17) (N := some 47) (v := ?_) (a' := ?_) #[Y, Y, Y, Y, Y, Y, Y, Y, Y, Y, Y, Y, Y, Y, Y, Y, Y, Y, X, X, X, X, X, X, X] rfl rfl (vx HT_.out HW_.out (by kernel_rfl)) (fun _ _ _ h => h) (Or.inl ⟨by rfl, ?_⟩) hHeld ?_ ?_; rotate_left
                · rintro w' ⟨s0, s1, s2, s3⟩; go_simp; (with_reducible rfl)
                rotate_left
                · simp only [Act.put, ua, ub, uc, ui, uj]; rfl
                refine um (i := 18) (N := some 48) (v := ?_) (a' := ?_) #[Y, Y, Y, Y, Y, Y, Y, Y, Y, Y, Y, Y, Y, Y, Y, Y, Y, Y, Y, X, X, X, X, X, X] rfl rfl (uh HT_.out (by kernel_rfl)) (fun _ _ _ h => h) (Or.inl ⟨by rfl, ?_⟩) ?_ ?_; rotate_left
                · intro w'; go_simp; (with_reducible rfl)
                rotate_left
                · simp only [Act.put, ua, ub, uc, ui, uj]; rfl
                refine um (i := 19) (N := some 49) (v := ?_) (a' := ?_) #[Y, Y, Y, Y, Y, Y, Y, Y, Y, Y, Y, Y, Y, Y, Y, Y, Y, Y, Y, Y, X, X, X, X, X] rfl rfl (uh HT_.out (by kernel_rfl)) (fun _ _ _ h => h) (Or.inl ⟨by rfl, ?_⟩) ?_ ?_; rotate_left
                · intro w'; go_simp; (with_reducible rfl)
                rotate_left
                · simp only [Act.put, ua, ub, uc, ui, uj]; rfl
                refine um (i := 20) (N := some 50) (v := ?_) (a' := ?_) #[Y, Y, Y, Y, Y, Y, Y, Y, Y, Y, Y, Y, Y, Y, Y, Y, Y, Y, Y, Y, Y, X, X, X, X] rfl rfl (uh HT_.out (by kernel_rfl)) (fun _ _ _ h => h) (Or.inl ⟨by rfl, ?_⟩) ?_ ?_; rotate_left
                · intro w'; go_simp; (with_reducible rfl)
                rotate_left
                · simp only [Act.put, ua, ub, uc, ui, uj]; rfl
                refine um (i := 21) (N := some 51) (v := ?_) (a' := ?_) #[Y, Y, Y, Y, Y, Y, Y, Y, Y, Y, Y, Y, Y, Y, Y, Y, Y, Y, Y, Y, Y, Y, X, X, X] rfl rfl (uh HT_.out (by kernel_rfl)) (fun _ _ _ h => h) (Or.inl ⟨by rfl, ?_⟩) ?_ ?_; rotate_left
                · intro w'; go_simp; (with_reducible rfl)
                rotate_left
                · simp only [Act.put, ua, ub, uc, ui, uj]; rfl
                refine one_ (i := 22) (N := some 52) #[Y, Y, Y, Y, Y, Y, Y, Y, Y, Y, Y, Y, Y, Y, Y, Y, Y, Y, Y, Y, Y, Y, Y, X, X] rfl rfl (one_of HT_.out (by kernel_rfl)) (by decide) (fun K hK => ?_); refine goes_ Try.func30 (by kernel_rfl) rfl #[.slice (some ad111) t107.length co32] (by rfl) rfl rfl (by (try simp only [un, uo, uq]); first | done | rfl | (simp only [ul, uk]; rfl)) ?_; (with_reducible refine (entry_Sorted.calls kj2 _ _ t107 t112 _ ?side1 ?side2 A30.out).mono ?_); (case side1 => repeat (first | exact (xd HO109.out).2.2 | (with_reducible refine xi ?_ _) | (with_reducible refine xh ?_ _) | (with_reducible refine xn ?_))); (case side2 => exact (xd HO109.out).2.1); rintro e w33 ⟨rfl, hb⟩; have HS2_ := (hb.cell (World.block_lt_of_cell? _ _ (hHeld.2.2.1))).trans (hHeld.2.2.1); have HS3_ := (hb.cell (World.block_lt_of_cell? _ _ (hHeld.2.2.2))).trans (hHeld.2.2.2); refine ⟨_, rfl, ?_⟩; have n0_ := Aside0.mk (vz (by (with_reducible repeat (first | apply vw | apply vv | apply vu)); exact HO106.out) hb); have n1_ := Aside0.mk (vz (by (with_reducible repeat (first | apply vw | apply vv | apply vu)); exact HO109.out) hb); have n2_ := Aside0.mk (vy (g := gb101) (o := .cells #[.int .u64 a1_0, .int .i64 a1_1] 33 (0, 0)) (by (with_reducible repeat (first | refine ux ?_ _ | refine uu ?_ | refine uy ?_ _)); exact BK101.out) hb); have n3_ := Aside0.mk (us (by repeat (first | (with_reducible first | exact HB.out | apply uf | apply ud | apply ue | refine ur ?_ GE101.out) | exact HB.out)) hb); clear HO106 HO109 BK101 HB; have HO106 := n0_; have HO109 := n1_; have BK101 := n2_; have HB := n3_; clear n0_ n1_ n2_ n3_; (try clear hb); (try clear hb2); (try clear hk); (try clear hi); refine hK.out _ _ ⟨(ut BK101.out 0).trans rfl, (ut BK101.out 1).trans rfl, HS2_, HS3_⟩ (fun hHeld => ?_); clear hK K; refine norm_ (a' := ?_) ?_ ?_; rotate_left
                · show Act.put _ (some 52) _ = _
                  simp only [Act.put, ua, ub, uc, ui, uj]; rfl
                refine um (i := 23) (N := some 53) (v := ?_) (a' := ?_) #[Y, Y, Y, Y, Y, Y, Y, Y, Y, Y, Y, Y, Y, Y, Y, Y, Y, Y, Y, Y, Y, Y, Y, Y, X] rfl rfl (uh HT_.out (by kernel_rfl)) (fun _ _ _ h => h) (Or.inl ⟨by rfl, ?_⟩) ?_ ?_; rotate_left
                · intro w'; go_simp; (with_reducible rfl)
                rotate_left
                · simp only [Act.put, ua, ub, uc, ui, uj]; rfl
                refine um (i := 24) (N := some 54) (v := ?_) (a' := ?_) #[Y, Y, Y, Y, Y, Y, Y, Y, Y, Y, Y, Y, Y, Y, Y, Y, Y, Y, Y, Y, Y, Y, Y, Y, Y] rfl rfl (uh HT_.out (by kernel_rfl)) (fun _ _ _ h => h) (Or.inl ⟨by rfl, ?_⟩) ?_ ?_; rotate_left
                · intro w'; go_simp; (with_reducible rfl)
                rotate_left
                · simp only [Act.put, ua, ub, uc, ui, uj]; rfl
                refine done_ (xj HT_.out (by kernel_rfl)) ?_
                try go_wp2
                go_meet
                case rel => exact ⟨_, (!t112), (by first | rfl | (simp; done) | (simp [*]; done)), H', ⟨by have := HJ2.out; first | omega | exact vn _⟩, ⟨by (with_reducible repeat (first | apply vw | apply vv | apply vu)); exact HO106.out⟩, ⟨by (with_reducible repeat (first | apply vw | apply vv | apply vu)); exact HO109.out⟩, ⟨by (with_reducible repeat (first | refine ux ?_ _ | refine uu ?_ | refine uy ?_ _)); exact BK101.out⟩, ⟨by repeat (first | (with_reducible first | exact HB.out | apply uf | apply ud | apply ue | refine ur ?_ GE101.out) | exact HB.out)⟩⟩
            · rw [if_neg c26] at H; exact absurd H (by simp)
          · rw [if_neg c25] at H; exact absurd H (by simp)
      · rw [if_neg c21] at H; have c21b0 : ((t107.length : Int) == (wrap64 ((t104.length : Int) + 1))) = false := beq_eq_false_iff_ne.mpr c21; have c21b1 : ((t107.length : Int) != (wrap64 ((t104.length : Int) + 1))) = true := bne_iff_ne.mpr c21; (first | rw [c21b0] | (simp only [ui, uj]; rw [c21b0]) | skip); have H' := Aside0.mk H; clear H
        try go_wp2
        have n0_ := Aside0.mk (vu HO106.out); have n1_ := Aside0.mk (vu HO109.out); have n2_ := Aside0.mk (uu BK101.out); have n3_ := Aside0.mk (ue HB.out); clear HO106 HO109 BK101 HB; have HO106 := n0_; have HO109 := n1_; have BK101 := n2_; have HB := n3_; clear n0_ n1_ n2_ n3_; obtain ⟨Ao35, co35, eo35⟩ := Kd.V_slice HO109.out; (first | subst eo35 | (injection eo35 with f1_ f2_ f3_; have f4_ := f1_.symm; have f5_ := f3_.symm; clear f1_ f2_ f3_; subst f4_; subst f5_)); refine start_ (n := 25) (S := fun w' => True) (ds := []) #[X, X, X, X, X, X, X, X, X, X, X, X, X, X, X, X, X, X, X, X, X, X, X, X, X] (by kernel_rfl) rfl rfl trivial (fun hHeld => ?_); refine xe vergerlaw5_EntryTakes.tab6 vergerlaw5_EntryTakes.bits6 (fun HT_ HW_ => ?_); generalize w20.drew = w34 at HO106 HO109 BK101 HB hHeld ⊢; refine um (i := 0) (N := some 30) (v := ?_) (a' := ?_) #[Y, X, X, X, X, X, X, X, X, X, X, X, X, X, X, X, X, X, X, X, X, X, X, X, X] rfl rfl (uh HT_.out (by kernel_rfl)) (fun _ _ _ h => h) (Or.inl ⟨by rfl, ?_⟩) ?_ ?_; rotate_left
        · intro w'; go_simp; (with_reducible rfl)
        rotate_left
        · simp only [Act.put, ua, ub, uc, ui, uj]; rfl
        refine um (i := 1) (N := some 31) (v := ?_) (a' := ?_) #[Y, Y, X, X, X, X, X, X, X, X, X, X, X, X, X, X, X, X, X, X, X, X, X, X, X] rfl rfl (uh HT_.out (by kernel_rfl)) (fun _ _ _ h => h) (Or.inl ⟨by rfl, ?_⟩) ?_ ?_; rotate_left
        · intro w'; go_simp; (with_reducible rfl)
        rotate_left
        · simp only [Act.put, ua, ub, uc, ui, uj]; rfl
        refine um (i := 2) (N := some 32) (v := ?_) (a' := ?_) #[Y, Y, Y, X, X, X, X, X, X, X, X, X, X, X, X, X, X, X, X, X, X, X, X, X, X] rfl rfl (uh HT_.out (by kernel_rfl)) (fun _ _ _ h => h) (Or.inl ⟨by rfl, ?_⟩) ?_ ?_; rotate_left
        · intro w'; go_simp; (with_reducible rfl)
        rotate_left
        · simp only [Act.put, ua, ub, uc, ui, uj]; rfl
        refine um (i := 3) (N := some 33) (v := ?_) (a' := ?_) #[Y, Y, Y, Y, X, X, X, X, X, X, X, X, X, X, X, X, X, X, X, X, X, X, X, X, X] rfl rfl (uh HT_.out (by kernel_rfl)) (fun _ _ _ h => h) (Or.inl ⟨by rfl, ?_⟩) ?_ ?_; rotate_left
        · intro w'; go_simp; (with_reducible rfl)
        rotate_left
        · simp only [Act.put, ua, ub, uc, ui, uj]; rfl
        refine um (i := 4) (N := some 34) (v := ?_) (a' := ?_) #[Y, Y, Y, Y, Y, X, X, X, X, X, X, X, X, X, X, X, X, X, X, X, X, X, X, X, X] rfl rfl (uh HT_.out (by kernel_rfl)) (fun _ _ _ h => h) (Or.inl ⟨by rfl, ?_⟩) ?_ ?_; rotate_left
        · intro w'; go_simp; (with_reducible rfl)
        rotate_left
        · simp only [Act.put, ua, ub, uc, ui, uj]; rfl
        refine um (i := 5) (N := some 35) (v := ?_) (a' := ?_) #[Y, Y, Y, Y, Y, Y, X, X, X, X, X, X, X, X, X, X, X, X, X, X, X, X, X, X, X] rfl rfl (uh HT_.out (by kernel_rfl)) (fun _ _ _ h => h) (Or.inl ⟨by rfl, ?_⟩) ?_ ?_; rotate_left
        · intro w'; go_simp; (with_reducible rfl)
        rotate_left
        · simp only [Act.put, ua, ub, uc, ui, uj]; rfl
        refine um (i := 6) (N := some 36) (v := ?_) (a' := ?_) #[Y, Y, Y, Y, Y, Y, Y, X, X, X, X, X, X, X, X, X, X, X, X, X, X, X, X, X, X] rfl rfl (uh HT_.out (by kernel_rfl)) (fun _ _ _ h => h) (Or.inl ⟨by rfl, ?_⟩) ?_ ?_; rotate_left
        · intro w'; go_simp; (with_reducible rfl)
        rotate_left
        · simp only [Act.put, ua, ub, uc, ui, uj]; rfl
        refine um (i := 7) (N := some 37) (v := undef) (a' := ?_) #[Y, Y, Y, Y, Y, Y, Y, Y, X, X, X, X, X, X, X, X, X, X, X, X, X, X, X, X, X] rfl rfl (uh HT_.out (by kernel_rfl)) (fun _ _ _ h => h) (Or.inr ⟨by rfl, rfl⟩) ?_ ?_; rotate_left
        · simp only [Act.put, ua, ub, uc, ui, uj]; rfl
        refine um (i := 8) (N := some 38) (v := undef) (a' := ?_) #[Y, Y, Y, Y, Y, Y, Y, Y, Y, X, X, X, X, X, X, X, X, X, X, X, X, X, X, X, X] rfl rfl (uh HT_.out (by kernel_rfl)) (fun _ _ _ h => h) (Or.inr ⟨by rfl, rfl⟩) ?_ ?_; rotate_left
        · simp only [Act.put, ua, ub, uc, ui, uj]; rfl
        refine um (i := 9) (N := some 39) (v := undef) (a' := ?_) #[Y, Y, Y, Y, Y, Y, Y, Y, Y, Y, X, X, X, X, X, X, X, X, X, X, X, X, X, X, X] rfl rfl (uh HT_.out (by kernel_rfl)) (fun _ _ _ h => h) (Or.inr ⟨by rfl, rfl⟩) ?_ ?_; rotate_left
        · simp only [Act.put, ua, ub, uc, ui, uj]; rfl
        refine um (i := 10) (N := some 40) (v := undef) (a' := ?_) #[Y, Y, Y, Y, Y, Y, Y, Y, Y, Y, Y, X, X, X, X, X, X, X, X, X, X, X, X, X, X] rfl rfl (uh HT_.out (by kernel_rfl)) (fun _ _ _ h => h) (Or.inr ⟨by rfl, rfl⟩) ?_ ?_; rotate_left
        · simp only [Act.put, ua, ub, uc, ui, uj]; rfl
        refine um (i := 11) (N := some 41) (v := ?_) (a' := ?_) #[Y, Y, Y, Y, Y, Y, Y, Y, Y, Y, Y, Y, X, X, X, X, X, X, X, X, X, X, X, X, X] rfl rfl (uh HT_.out (by kernel_rfl)) (fun _ _ _ h => h) (Or.inl ⟨by rfl, ?_⟩) ?_ ?_; rotate_left
        · intro w'; go_simp; (with_reducible rfl)
        rotate_left
        · simp only [Act.put, ua, ub, uc, ui, uj]; rfl
        refine um (i := 12) (N := some 42) (v := ?_) (a' := ?_) #[Y, Y, Y, Y, Y, Y, Y, Y, Y, Y, Y, Y, Y, X, X, X, X, X, X, X, X, X, X, X, X] rfl rfl (uh HT_.out (by kernel_rfl)) (fun _ _ _ h => h) (Or.inl ⟨by rfl, ?_⟩) ?_ ?_; rotate_left
        · intro w'; go_simp; (with_reducible rfl)
        rotate_left
        · simp only [Act.put, ua, ub, uc, ui, uj]; rfl
        refine um (i := 13) (N := some 43) (v := undef) (a' := ?_) #[Y, Y, Y, Y, Y, Y, Y, Y, Y, Y, Y, Y, Y, Y, X, X, X, X, X, X, X, X, X, X, X] rfl rfl (uh HT_.out (by kernel_rfl)) (fun _ _ _ h => h) (Or.inr ⟨by rfl, rfl⟩) ?_ ?_; rotate_left
        · simp only [Act.put, ua, ub, uc, ui, uj]; rfl
        refine um (i := 14) (N := some 44) (v := undef) (a' := ?_) #[Y, Y, Y, Y, Y, Y, Y, Y, Y, Y, Y, Y, Y, Y, Y, X, X, X, X, X, X, X, X, X, X] rfl rfl (uh HT_.out (by kernel_rfl)) (fun _ _ _ h => h) (Or.inr ⟨by rfl, rfl⟩) ?_ ?_; rotate_left
        · simp only [Act.put, ua, ub, uc, ui, uj]; rfl
        refine um (i := 15) (N := some 45) (v := undef) (a' := ?_) #[Y, Y, Y, Y, Y, Y, Y, Y, Y, Y, Y, Y, Y, Y, Y, Y, X, X, X, X, X, X, X, X, X] rfl rfl (uh HT_.out (by kernel_rfl)) (fun _ _ _ h => h) (Or.inr ⟨by rfl, rfl⟩) ?_ ?_; rotate_left
        · simp only [Act.put, ua, ub, uc, ui, uj]; rfl
        refine um (i := 16) (N := some 46) (v := undef) (a' := ?_) #[Y, Y, Y, Y, Y, Y, Y, Y, Y, Y, Y, Y, Y, Y, Y, Y, Y, X, X, X, X, X, X, X, X] rfl rfl (uh HT_.out (by kernel_rfl)) (fun _ _ _ h => h) (Or.inr ⟨by rfl, rfl⟩) ?_ ?_; rotate_left
        · simp only [Act.put, ua, ub, uc, ui, uj]; rfl
        refine um (i := 17) (N := some 47) (v := undef) (a' := ?_) #[Y, Y, Y, Y, Y, Y, Y, Y, Y, Y, Y, Y, Y, Y, Y, Y, Y, Y, X, X, X, X, X, X, X] rfl rfl (uh HT_.out (by kernel_rfl)) (fun _ _ _ h => h) (Or.inr ⟨by rfl, rfl⟩) ?_ ?_; rotate_left
        · simp only [Act.put, ua, ub, uc, ui, uj]; rfl
        refine um (i := 18) (N := some 48) (v := undef) (a' := ?_) #[Y, Y, Y, Y, Y, Y, Y, Y, Y, Y, Y, Y, Y, Y, Y, Y, Y, Y, Y, X, X, X, X, X, X] rfl rfl (uh HT_.out (by kernel_rfl)) (fun _ _ _ h => h) (Or.inr ⟨by rfl, rfl⟩) ?_ ?_; rotate_left
        · simp only [Act.put, ua, ub, uc, ui, uj]; rfl
        refine um (i := 19) (N := some 49) (v := ?_) (a' := ?_) #[Y, Y, Y, Y, Y, Y, Y, Y, Y, Y, Y, Y, Y, Y, Y, Y, Y, Y, Y, Y, X, X, X, X, X] rfl rfl (uh HT_.out (by kernel_rfl)) (fun _ _ _ h => h) (Or.inl ⟨by rfl, ?_⟩) ?_ ?_; rotate_left
        · intro w'; go_simp; (with_reducible rfl)
        rotate_left
        · simp only [Act.put, ua, ub, uc, ui, uj]; rfl
        refine um (i := 20) (N := some 50) (v := ?_) (a' := ?_) #[Y, Y, Y, Y, Y, Y, Y, Y, Y, Y, Y, Y, Y, Y, Y, Y, Y, Y, Y, Y, Y, X, X, X, X] rfl rfl (uh HT_.out (by kernel_rfl)) (fun _ _ _ h => h) (Or.inl ⟨by rfl, ?_⟩) ?_ ?_; rotate_left
        · intro w'; go_simp; (with_reducible rfl)
        rotate_left
        · simp only [Act.put, ua, ub, uc, ui, uj]; rfl
        refine um (i := 21) (N := some 51) (v := undef) (a' := ?_) #[Y, Y, Y, Y, Y, Y, Y, Y, Y, Y, Y, Y, Y, Y, Y, Y, Y, Y, Y, Y, Y, Y, X, X, X] rfl rfl (uh HT_.out (by kernel_rfl)) (fun _ _ _ h => h) (Or.inr ⟨by rfl, rfl⟩) ?_ ?_; rotate_left
        · simp only [Act.put, ua, ub, uc, ui, uj]; rfl
        refine um (i := 22) (N := some 52) (v := undef) (a' := ?_) #[Y, Y, Y, Y, Y, Y, Y, Y, Y, Y, Y, Y, Y, Y, Y, Y, Y, Y, Y, Y, Y, Y, Y, X, X] rfl rfl (uh HT_.out (by kernel_rfl)) (fun _ _ _ h => h) (Or.inr ⟨by rfl, rfl⟩) ?_ ?_; rotate_left
        · simp only [Act.put, ua, ub, uc, ui, uj]; rfl
        refine um (i := 23) (N := some 53) (v := undef) (a' := ?_) #[Y, Y, Y, Y, Y, Y, Y, Y, Y, Y, Y, Y, Y, Y, Y, Y, Y, Y, Y, Y, Y, Y, Y, Y, X] rfl rfl (uh HT_.out (by kernel_rfl)) (fun _ _ _ h => h) (Or.inr ⟨by rfl, rfl⟩) ?_ ?_; rotate_left
        · simp only [Act.put, ua, ub, uc, ui, uj]; rfl
        refine um (i := 24) (N := some 54) (v := ?_) (a' := ?_) #[Y, Y, Y, Y, Y, Y, Y, Y, Y, Y, Y, Y, Y, Y, Y, Y, Y, Y, Y, Y, Y, Y, Y, Y, Y] rfl rfl (uh HT_.out (by kernel_rfl)) (fun _ _ _ h => h) (Or.inl ⟨by rfl, ?_⟩) ?_ ?_; rotate_left
        · intro w'; go_simp; (with_reducible rfl)
        rotate_left
        · simp only [Act.put, ua, ub, uc, ui, uj]; rfl
        refine done_ (xj HT_.out (by kernel_rfl)) ?_
        try go_wp2
        go_meet
        case rel => exact ⟨_, (true), (by first | rfl | (simp; done) | (simp [*]; done)), H', ⟨by have := HJ2.out; first | omega | exact vn _⟩, ⟨by (with_reducible repeat (first | apply vw | apply vv | apply vu)); exact HO106.out⟩, ⟨by (with_reducible repeat (first | apply vw | apply vv | apply vu)); exact HO109.out⟩, ⟨by (with_reducible repeat (first | refine ux ?_ _ | refine uu ?_ | refine uy ?_ _)); exact BK101.out⟩, ⟨by repeat (first | (with_reducible first | exact HB.out | apply uf | apply ud | apply ue | refine ur ?_ GE101.out) | exact HB.out)⟩⟩
     case rest =>
      clear HC14
      try clear p1
      try clear q1
      try clear hx1
      try clear c2
      try clear p2
      try clear c3
      try clear p6
      try clear p11
      try clear q11
      try clear hx11
      try clear c21
      try clear c21b0
      try clear c21b1
      try clear c25
      try clear c26
      try clear c27
      try clear c27b0
      try clear c30
      try clear hx111_0
      try clear hx111_1
      try clear p111
      try clear q111
      obtain ⟨kq, x54_13, rfl, HA, HJ13, HO_5, HO_6, BK101, HB⟩ := hcut
      cases kq with
      | zero => exact absurd HA.out (by simp [vergerlaw5_EntryTakes.j1])
      | succ kj13 =>
       have H := HA.out; clear HA; simp only [vergerlaw5_EntryTakes.j1] at H
       by_cases c36 : x54_13 = true
       · subst c36; (have H1 : (some false) = some r := by rw [if_pos rfl] at H; exact H); clear H; have H := H1; clear H1; obtain rfl := Option.some.inj H
         go_wp2
         go_ret
         exact ⟨by first | rfl | (simp [errW_none, errW_some] <;> rfl) | (simp [*, errW_none, errW_some] <;> rfl), by repeat (first | (with_reducible first | exact HB.out | apply uf | apply ud | apply ue | refine ur ?_ GE101.out) | exact HB.out)⟩
       · replace c36 := Bool.eq_false_iff.mpr c36; subst c36; (have H1 : ((entry_Drop.f kj13 t107 a1_1).bind fun bt113 => ((entry_Drop.f kj13 bt113.1 a1_1).bind fun bt117 => (if bt113.2 = true then (if bt117.2 = true then (some false) else ((vergerref5_Same.f kj13 bt113.1 t104).bind fun t121 => (if t121 = true then ((vergerlaw5_awake.f kj13).bind fun t122 => (some t122)) else (some false)))) else (some false)))) = some r := by rw [if_neg (show ¬ (false = true) by decide)] at H; exact H); clear H; have H := H1; clear H1; replace H := Option.bind_eq_some_iff.mp H; obtain ⟨⟨t113, t116⟩, A370, H⟩ := H; replace H : ((entry_Drop.f kj13 t113 a1_1).bind fun bt117 => (if t116 = true then (if bt117.2 = true then (some false) else ((vergerref5_Same.f kj13 t113 t104).bind fun t121 => (if t121 = true then ((vergerlaw5_awake.f kj13).bind fun t122 => (some t122)) else (some false)))) else (some false))) = some r := H; have A37 := Aside0.mk A370; clear A370; replace H := Option.bind_eq_some_iff.mp H; obtain ⟨⟨t117, t120⟩, A380, H⟩ := H; replace H : (if t116 = true then (if t120 = true then (some false) else ((vergerref5_Same.f kj13 t113 t104).bind fun t121 => (if t121 = true then ((vergerlaw5_awake.f kj13).bind fun t122 => (some t122)) else (some false)))) else (some false)) = some r := H; have A38 := Aside0.mk A380; clear A380
         by_cases c39 : t116 = true
         · subst c39; (have H1 : (if t120 = true then (some false) else ((vergerref5_Same.f kj13 t113 t104).bind fun t121 => (if t121 = true then ((vergerlaw5_awake.f kj13).bind fun t122 => (some t122)) else (some false)))) = some r := by rw [if_pos rfl] at H; exact H); clear H; have H := H1; clear H1
           by_cases c40 : t120 = true
           · subst c40; (have H1 : (some false) = some r := by rw [if_pos rfl] at H; exact H); clear H; have H := H1; clear H1; obtain rfl := Option.some.inj H; have hcz41_0 : wc.cell? ⟨gb101, 0, none⟩ = some (.int .u64 a1_0) := (ut BK101.out 0).trans rfl; have hcz41_1 : wc.cell? ⟨gb101, 1, none⟩ = some (.int .i64 a1_1) := (ut BK101.out 1).trans rfl; have hfz41_0 := vq BK101.out 0; have hfz41_1 := vq BK101.out 1; obtain ⟨Ao42, co42, eo42⟩ := Kd.V_slice HO_6.out; subst eo42
             go_wp2_with (first | ((with_reducible refine uz (f := 34) rfl ?_); refine xa (some 59) rfl rfl Try.func34 (by kernel_rfl) rfl #[.slice Ao42 t107.length co42, .int .i64 a1_1] rfl (by (try simp only [un, uo, uq]); first | done | rfl | (simp only [ul, uk]; rfl)) ?_; (with_reducible refine (entry_Drop.calls kj13 (fun k_ => k_ ≠ gb101) _ _ t107 a1_1 t113 true _ ?side1 A37.out).mono ?_); (case side1 => exact HO_6.out); rintro e w43 ⟨v114, rfl, ho0, hb⟩; refine ⟨_, rfl, ?_⟩; have n0_ := Aside0.mk (vz (by (with_reducible repeat (first | apply vw | apply vv | apply vu)); exact HO_5.out) hb); have n1_ := Aside0.mk (vz (by (with_reducible repeat (first | apply vw | apply vv | apply vu)); exact HO_6.out) hb); have n2_ := Aside0.mk (Kd.V_lower (Kd.V_mono (ok' := fun k_ => k_ ≠ gb101) ho0 (fun k_ hk_ => Or.elim hk_ (fun hs_ => hs_) (fun hn_ => (Kd.freshB (g := gb101) (o := .cells #[.int .u64 a1_0, .int .i64 a1_1] 33 (0, 0)) (by (with_reducible repeat (first | refine ux ?_ _ | refine uu ?_ | refine uy ?_ _)); exact BK101.out) k_ hn_)))) (uv (by repeat (first | (with_reducible first | exact HB.out | apply uf | apply ud | apply ue | refine ur ?_ GE101.out) | exact HB.out)))); have n3_ := Aside0.mk (vy (g := gb101) (o := .cells #[.int .u64 a1_0, .int .i64 a1_1] 33 (0, 0)) (by (with_reducible repeat (first | refine ux ?_ _ | refine uu ?_ | refine uy ?_ _)); exact BK101.out) hb); have n4_ := Aside0.mk (us (by repeat (first | (with_reducible first | exact HB.out | apply uf | apply ud | apply ue | refine ur ?_ GE101.out) | exact HB.out)) hb); clear HO_5; clear HO_6; clear BK101; clear HB; have HO_5 := n0_; have HO_6 := n1_; have HO115 := n2_; have BK101 := n3_; have HB := n4_; clear n0_ n1_ n2_ n3_ n4_; (try clear hb); (try clear hb2); (try clear hk); (try clear hi); (try clear ho0); have hcz44_0 : w43.cell? ⟨gb101, 0, none⟩ = some (.int .u64 a1_0) := (ut BK101.out 0).trans rfl; have hcz44_1 : w43.cell? ⟨gb101, 1, none⟩ = some (.int .i64 a1_1) := (ut BK101.out 1).trans rfl; have hfz44_0 := vq BK101.out 0; have hfz44_1 := vq BK101.out 1; obtain ⟨Ao45, co45, eo45⟩ := Kd.V_slice HO115.out; subst eo45) | ((with_reducible refine uz (f := 34) rfl ?_); refine xa (some 66) rfl rfl Try.func34 (by kernel_rfl) rfl #[.slice Ao45 t113.length co45, .int .i64 a1_1] rfl (by (try simp only [un, uo, uq]); first | done | rfl | (simp only [ul, uk]; rfl)) ?_; (with_reducible refine (entry_Drop.calls kj13 (fun k_ => k_ ≠ gb101) _ _ t113 a1_1 t117 true _ ?side1 A38.out).mono ?_); (case side1 => exact HO115.out); rintro e w46 ⟨v118, rfl, ho0, hb⟩; refine ⟨_, rfl, ?_⟩; have n0_ := Aside0.mk (vz (by (with_reducible repeat (first | apply vw | apply vv | apply vu)); exact HO_5.out) hb); have n1_ := Aside0.mk (vz (by (with_reducible repeat (first | apply vw | apply vv | apply vu)); exact HO_6.out) hb); have n2_ := Aside0.mk (vz (by (with_reducible repeat (first | apply vw | apply vv | apply vu)); exact HO115.out) hb); have n3_ := Aside0.mk (Kd.V_lower (Kd.V_mono (ok' := fun k_ => k_ ≠ gb101) ho0 (fun k_ hk_ => Or.elim hk_ (fun hs_ => hs_) (fun hn_ => (Kd.freshB (g := gb101) (o := .cells #[.int .u64 a1_0, .int .i64 a1_1] 33 (0, 0)) (by (with_reducible repeat (first | refine ux ?_ _ | refine uu ?_ | refine uy ?_ _)); exact BK101.out) k_ hn_)))) (uv (by repeat (first | (with_reducible first | exact HB.out | apply uf | apply ud | apply ue | refine ur ?_ GE101.out) | exact HB.out)))); have n4_ := Aside0.mk (vy (g := gb101) (o := .cells #[.int .u64 a1_0, .int .i64 a1_1] 33 (0, 0)) (by (with_reducible repeat (first | refine ux ?_ _ | refine uu ?_ | refine uy ?_ _)); exact BK101.out) hb); have n5_ := Aside0.mk (us (by repeat (first | (with_reducible first | exact HB.out | apply uf | apply ud | apply ue | refine ur ?_ GE101.out) | exact HB.out)) hb); clear HO_5; clear HO_6; clear HO115; clear BK101; clear HB; have HO_5 := n0_; have HO_6 := n1_; have HO115 := n2_; have HO119 := n3_; have BK101 := n4_; have HB := n5_; clear n0_ n1_ n2_ n3_ n4_ n5_; (try clear hb); (try clear hb2); (try clear hk); (try clear hi); (try clear ho0)))
             go_ret
             exact ⟨by first | rfl | (simp [errW_none, errW_some] <;> rfl) | (simp [*, errW_none, errW_some] <;> rfl), by repeat (first | (with_reducible first | exact HB.out | apply uf | apply ud | apply ue | refine ur ?_ GE101.out) | exact HB.out)⟩
           · replace c40 := Bool.eq_false_iff.mpr c40; subst c40; (have H1 : ((vergerref5_Same.f kj13 t113 t104).bind fun t121 => (if t121 = true then ((vergerlaw5_awake.f kj13).bind fun t122 => (some t122)) else (some false))) = some r := by rw [if_neg (show ¬ (false = true) by decide)] at H; exact H); clear H; have H := H1; clear H1; replace H := Option.bind_eq_some_iff.mp H; obtain ⟨t121, A470, H⟩ := H; replace H : (if t121 = true then ((vergerlaw5_awake.f kj13).bind fun t122 => (some t122)) else (some false)) = some r := H; have A47 := Aside0.mk A470; clear A470
             by_cases c48 : t121 = true
             · subst c48; (have H1 : ((vergerlaw5_awake.f kj13).bind fun t122 => (some t122)) = some r := by rw [if_pos rfl] at H; exact H); clear H; have H := H1; clear H1; replace H := Option.bind_eq_some_iff.mp H; obtain ⟨t122, A490, H⟩ := H; replace H : (some t122) = some r := H; have A49 := Aside0.mk A490; clear A490; obtain rfl := Option.some.inj H; have hcz50_0 : wc.cell? ⟨gb101, 0, none⟩ = some (.int .u64 a1_0) := (ut BK101.out 0).trans rfl; have hcz50_1 : wc.cell? ⟨gb101, 1, none⟩ = some (.int .i64 a1_1) := (ut BK101.out 1).trans rfl; have hfz50_0 := vq BK101.out 0; have hfz50_1 := vq BK101.out 1; obtain ⟨Ao51, co51, eo51⟩ := Kd.V_slice HO_6.out; subst eo51
               go_wp2_with (first | ((with_reducible refine uz (f := 34) rfl ?_); refine xa (some 59) rfl rfl Try.func34 (by kernel_rfl) rfl #[.slice Ao51 t107.length co51, .int .i64 a1_1] rfl (by (try simp only [un, uo, uq]); first | done | rfl | (simp only [ul, uk]; rfl)) ?_; (with_reducible refine (entry_Drop.calls kj13 (fun k_ => k_ ≠ gb101) _ _ t107 a1_1 t113 true _ ?side1 A37.out).mono ?_); (case side1 => exact HO_6.out); rintro e w52 ⟨v114, rfl, ho0, hb⟩; refine ⟨_, rfl, ?_⟩; have n0_ := Aside0.mk (vz (by (with_reducible repeat (first | apply vw | apply vv | apply vu)); exact HO_5.out) hb); have n1_ := Aside0.mk (vz (by (with_reducible repeat (first | apply vw | apply vv | apply vu)); exact HO_6.out) hb); have n2_ := Aside0.mk (Kd.V_lower (Kd.V_mono (ok' := fun k_ => k_ ≠ gb101) ho0 (fun k_ hk_ => Or.elim hk_ (fun hs_ => hs_) (fun hn_ => (Kd.freshB (g := gb101) (o := .cells #[.int .u64 a1_0, .int .i64 a1_1] 33 (0, 0)) (by (with_reducible repeat (first | refine ux ?_ _ | refine uu ?_ | refine uy ?_ _)); exact BK101.out) k_ hn_)))) (uv (by repeat (first | (with_reducible first | exact HB.out | apply uf | apply ud | apply ue | refine ur ?_ GE101.out) | exact HB.out)))); have n3_ := Aside0.mk (vy (g := gb101) (o := .cells #[.int .u64 a1_0, .int .i64 a1_1] 33 (0, 0)) (by (with_reducible repeat (first | refine ux ?_ _ | refine uu ?_ | refine uy ?_ _)); exact BK101.out) hb); have n4_ := Aside0.mk (us (by repeat (first | (with_reducible first | exact HB.out | apply uf | apply ud | apply ue | refine ur ?_ GE101.out) | exact HB.out)) hb); clear HO_5; clear HO_6; clear BK101; clear HB; have HO_5 := n0_; have HO_6 := n1_; have HO115 := n2_; have BK101 := n3_; have HB := n4_; clear n0_ n1_ n2_ n3_ n4_; (try clear hb); (try clear hb2); (try clear hk); (try clear hi); (try clear ho0); have hcz53_0 : w52.cell? ⟨gb101, 0, none⟩ = some (.int .u64 a1_0) := (ut BK101.out 0).trans rfl; have hcz53_1 : w52.cell? ⟨gb101, 1, none⟩ = some (.int .i64 a1_1) := (ut BK101.out 1).trans rfl; have hfz53_0 := vq BK101.out 0; have hfz53_1 := vq BK101.out 1; obtain ⟨Ao54, co54, eo54⟩ := Kd.V_slice HO115.out; subst eo54) | ((with_reducible refine uz (f := 34) rfl ?_); refine xa (some 66) rfl rfl Try.func34 (by kernel_rfl) rfl #[.slice Ao54 t113.length co54, .int .i64 a1_1] rfl (by (try simp only [un, uo, uq]); first | done | rfl | (simp only [ul, uk]; rfl)) ?_; (with_reducible refine (entry_Drop.calls kj13 (fun k_ => k_ ≠ gb101) _ _ t113 a1_1 t117 false _ ?side1 A38.out).mono ?_); (case side1 => exact HO115.out); rintro e w55 ⟨v118, rfl, ho0, hb⟩; refine ⟨_, rfl, ?_⟩; have n0_ := Aside0.mk (vz (by (with_reducible repeat (first | apply vw | apply vv | apply vu)); exact HO_5.out) hb); have n1_ := Aside0.mk (vz (by (with_reducible repeat (first | apply vw | apply vv | apply vu)); exact HO_6.out) hb); have n2_ := Aside0.mk (vz (by (with_reducible repeat (first | apply vw | apply vv | apply vu)); exact HO115.out) hb); have n3_ := Aside0.mk (Kd.V_lower (Kd.V_mono (ok' := fun k_ => k_ ≠ gb101) ho0 (fun k_ hk_ => Or.elim hk_ (fun hs_ => hs_) (fun hn_ => (Kd.freshB (g := gb101) (o := .cells #[.int .u64 a1_0, .int .i64 a1_1] 33 (0, 0)) (by (with_reducible repeat (first | refine ux ?_ _ | refine uu ?_ | refine uy ?_ _)); exact BK101.out) k_ hn_)))) (uv (by repeat (first | (with_reducible first | exact HB.out | apply uf | apply ud | apply ue | refine ur ?_ GE101.out) | exact HB.out)))); have n4_ := Aside0.mk (vy (g := gb101) (o := .cells #[.int .u64 a1_0, .int .i64 a1_1] 33 (0, 0)) (by (with_reducible repeat (first | refine ux ?_ _ | refine uu ?_ | refine uy ?_ _)); exact BK101.out) hb); have n5_ := Aside0.mk (us (by repeat (first | (with_reducible first | exact HB.out | apply uf | apply ud | apply ue | refine ur ?_ GE101.out) | exact HB.out)) hb); clear HO_5; clear HO_6; clear HO115; clear BK101; clear HB; have HO_5 := n0_; have HO_6 := n1_; have HO115 := n2_; have HO119 := n3_; have BK101 := n4_; have HB := n5_; clear n0_ n1_ n2_ n3_ n4_ n5_; (try clear hb); (try clear hb2); (try clear hk); (try clear hi); (try clear ho0)) | (go_at_call 25; (with_reducible refine (vergerref5_Same.calls kj13 _ _ t113 _ _ t104 true _ ?side1 ?side2 ?side3 ?side4 A47.out).mono ?_); (case side1 => repeat (first | exact (xd HO115.out).2.2 | (with_reducible refine xi ?_ _) | (with_reducible refine xh ?_ _) | (with_reducible refine xn ?_))); (case side2 => exact (xd HO115.out).2.1); (case side3 => repeat (first | exact (xd HO_5.out).2.2 | (with_reducible refine xi ?_ _) | (with_reducible refine xh ?_ _) | (with_reducible refine xn ?_))); (case side4 => exact (xd HO_5.out).2.1); rintro e w' ⟨rfl, ⟨nd, rfl⟩⟩) | (go_at_call 18; (with_reducible refine (vergerlaw5_awake.calls kj13  t122 _ A49.out).mono ?_); rintro e w56 ⟨rfl, hb⟩; have n0_ := Aside0.mk (vz (by (with_reducible repeat (first | apply vw | apply vv | apply vu)); exact HO_5.out) hb); have n1_ := Aside0.mk (vz (by (with_reducible repeat (first | apply vw | apply vv | apply vu)); exact HO_6.out) hb); have n2_ := Aside0.mk (vz (by (with_reducible repeat (first | apply vw | apply vv | apply vu)); exact HO115.out) hb); have n3_ := Aside0.mk (vz (by (with_reducible repeat (first | apply vw | apply vv | apply vu)); exact HO119.out) hb); have n4_ := Aside0.mk (vy (g := gb101) (o := .cells #[.int .u64 a1_0, .int .i64 a1_1] 33 (0, 0)) (by (with_reducible repeat (first | refine ux ?_ _ | refine uu ?_ | refine uy ?_ _)); exact BK101.out) hb); have n5_ := Aside0.mk (us (by repeat (first | (with_reducible first | exact HB.out | apply uf | apply ud | apply ue | refine ur ?_ GE101.out) | exact HB.out)) hb); clear HO_5; clear HO_6; clear HO115; clear HO119; clear BK101; clear HB; have HO_5 := n0_; have HO_6 := n1_; have HO115 := n2_; have HO119 := n3_; have BK101 := n4_; have HB := n5_; clear n0_ n1_ n2_ n3_ n4_ n5_; (try clear hb); (try clear hb2); (try clear hk); (try clear hi)))
               go_ret
               exact ⟨by first | rfl | (simp [errW_none, errW_some] <;> rfl) | (simp [*, errW_none, errW_some] <;> rfl), by repeat (first | (with_reducible first | exact HB.out | apply uf | apply ud | apply ue | refine ur ?_ GE101.out) | exact HB.out)⟩
             · replace c48 := Bool.eq_false_iff.mpr c48; subst c48; (have H1 : (some false) = some r := by rw [if_neg (show ¬ (false = true) by decide)] at H; exact H); clear H; have H := H1; clear H1; obtain rfl := Option.some.inj H; have hcz57_0 : wc.cell? ⟨gb101, 0, none⟩ = some (.int .u64 a1_0) := (ut BK101.out 0).trans rfl; have hcz57_1 : wc.cell? ⟨gb101, 1, none⟩ = some (.int .i64 a1_1) := (ut BK101.out 1).trans rfl; have hfz57_0 := vq BK101.out 0; have hfz57_1 := vq BK101.out 1; obtain ⟨Ao58, co58, eo58⟩ := Kd.V_slice HO_6.out; subst eo58
               go_wp2_with (first | ((with_reducible refine uz (f := 34) rfl ?_); refine xa (some 59) rfl rfl Try.func34 (by kernel_rfl) rfl #[.slice Ao58 t107.length co58, .int .i64 a1_1] rfl (by (try simp only [un, uo, uq]); first | done | rfl | (simp only [ul, uk]; rfl)) ?_; (with_reducible refine (entry_Drop.calls kj13 (fun k_ => k_ ≠ gb101) _ _ t107 a1_1 t113 true _ ?side1 A37.out).mono ?_); (case side1 => exact HO_6.out); rintro e w59 ⟨v114, rfl, ho0, hb⟩; refine ⟨_, rfl, ?_⟩; have n0_ := Aside0.mk (vz (by (with_reducible repeat (first | apply vw | apply vv | apply vu)); exact HO_5.out) hb); have n1_ := Aside0.mk (vz (by (with_reducible repeat (first | apply vw | apply vv | apply vu)); exact HO_6.out) hb); have n2_ := Aside0.mk (Kd.V_lower (Kd.V_mono (ok' := fun k_ => k_ ≠ gb101) ho0 (fun k_ hk_ => Or.elim hk_ (fun hs_ => hs_) (fun hn_ => (Kd.freshB (g := gb101) (o := .cells #[.int .u64 a1_0, .int .i64 a1_1] 33 (0, 0)) (by (with_reducible repeat (first | refine ux ?_ _ | refine uu ?_ | refine uy ?_ _)); exact BK101.out) k_ hn_)))) (uv (by repeat (first | (with_reducible first | exact HB.out | apply uf | apply ud | apply ue | refine ur ?_ GE101.out) | exact HB.out)))); have n3_ := Aside0.mk (vy (g := gb101) (o := .cells #[.int .u64 a1_0, .int .i64 a1_1] 33 (0, 0)) (by (with_reducible repeat (first | refine ux ?_ _ | refine uu ?_ | refine uy ?_ _)); exact BK101.out) hb); have n4_ := Aside0.mk (us (by repeat (first | (with_reducible first | exact HB.out | apply uf | apply ud | apply ue | refine ur ?_ GE101.out) | exact HB.out)) hb); clear HO_5; clear HO_6; clear BK101; clear HB; have HO_5 := n0_; have HO_6 := n1_; have HO115 := n2_; have BK101 := n3_; have HB := n4_; clear n0_ n1_ n2_ n3_ n4_; (try clear hb); (try clear hb2); (try clear hk); (try clear hi); (try clear ho0); have hcz60_0 : w59.cell? ⟨gb101, 0, none⟩ = some (.int .u64 a1_0) := (ut BK101.out 0).trans rfl; have hcz60_1 : w59.cell? ⟨gb101, 1, none⟩ = some (.int .i64 a1_1) := (ut BK101.out 1).trans rfl; have hfz60_0 := vq BK101.out 0; have hfz60_1 := vq BK101.out 1; obtain ⟨Ao61, co61, eo61⟩ := Kd.V_slice HO115.out; subst eo61) | ((with_reducible refine uz (f := 34) rfl ?_); refine xa (some 66) rfl rfl Try.func34 (by kernel_rfl) rfl #[.slice Ao61 t113.length co61, .int .i64 a1_1] rfl (by (try simp only [un, uo, uq]); first | done | rfl | (simp only [ul, uk]; rfl)) ?_; (with_reducible refine (entry_Drop.calls kj13 (fun k_ => k_ ≠ gb101) _ _ t113 a1_1 t117 false _ ?side1 A38.out).mono ?_); (case side1 => exact HO115.out); rintro e w62 ⟨v118, rfl, ho0, hb⟩; refine ⟨_, rfl, ?_⟩; have n0_ := Aside0.mk (vz (by (with_reducible repeat (first | apply vw | apply vv | apply vu)); exact HO_5.out) hb); have n1_ := Aside0.mk (vz (by (with_reducible repeat (first | apply vw | apply vv | apply vu)); exact HO_6.out) hb); have n2_ := Aside0.mk (vz (by (with_reducible repeat (first | apply vw | apply vv | apply vu)); exact HO115.out) hb); have n3_ := Aside0.mk (Kd.V_lower (Kd.V_mono (ok' := fun k_ => k_ ≠ gb101) ho0 (fun k_ hk_ => Or.elim hk_ (fun hs_ => hs_) (fun hn_ => (Kd.freshB (g := gb101) (o := .cells #[.int .u64 a1_0, .int .i64 a1_1] 33 (0, 0)) (by (with_reducible repeat (first | refine ux ?_ _ | refine uu ?_ | refine uy ?_ _)); exact BK101.out) k_ hn_)))) (uv (by repeat (first | (with_reducible first | exact HB.out | apply uf | apply ud | apply ue | refine ur ?_ GE101.out) | exact HB.out)))); have n4_ := Aside0.mk (vy (g := gb101) (o := .cells #[.int .u64 a1_0, .int .i64 a1_1] 33 (0, 0)) (by (with_reducible repeat (first | refine ux ?_ _ | refine uu ?_ | refine uy ?_ _)); exact BK101.out) hb); have n5_ := Aside0.mk (us (by repeat (first | (with_reducible first | exact HB.out | apply uf | apply ud | apply ue | refine ur ?_ GE101.out) | exact HB.out)) hb); clear HO_5; clear HO_6; clear HO115; clear BK101; clear HB; have HO_5 := n0_; have HO_6 := n1_; have HO115 := n2_; have HO119 := n3_; have BK101 := n4_; have HB := n5_; clear n0_ n1_ n2_ n3_ n4_ n5_; (try clear hb); (try clear hb2); (try clear hk); (try clear hi); (try clear ho0)) | (go_at_call 25; (with_reducible refine (vergerref5_Same.calls kj13 _ _ t113 _ _ t104 false _ ?side1 ?side2 ?side3 ?side4 A47.out).mono ?_); (case side1 => repeat (first | exact (xd HO115.out).2.2 | (with_reducible refine xi ?_ _) | (with_reducible refine xh ?_ _) | (with_reducible refine xn ?_))); (case side2 => exact (xd HO115.out).2.1); (case side3 => repeat (first | exact (xd HO_5.out).2.2 | (with_reducible refine xi ?_ _) | (with_reducible refine xh ?_ _) | (with_reducible refine xn ?_))); (case side4 => exact (xd HO_5.out).2.1); rintro e w' ⟨rfl, ⟨nd, rfl⟩⟩))
               go_ret
               exact ⟨by first | rfl | (simp [errW_none, errW_some] <;> rfl) | (simp [*, errW_none, errW_some] <;> rfl), by repeat (first | (with_reducible first | exact HB.out | apply uf | apply ud | apply ue | refine ur ?_ GE101.out) | exact HB.out)⟩
         · replace c39 := Bool.eq_false_iff.mpr c39; subst c39; (have H1 : (some false) = some r := by rw [if_neg (show ¬ (false = true) by decide)] at H; exact H); clear H; have H := H1; clear H1; obtain rfl := Option.some.inj H; have hcz63_0 : wc.cell? ⟨gb101, 0, none⟩ = some (.int .u64 a1_0) := (ut BK101.out 0).trans rfl; have hcz63_1 : wc.cell? ⟨gb101, 1, none⟩ = some (.int .i64 a1_1) := (ut BK101.out 1).trans rfl; have hfz63_0 := vq BK101.out 0; have hfz63_1 := vq BK101.out 1; obtain ⟨Ao64, co64, eo64⟩ := Kd.V_slice HO_6.out; subst eo64
           go_wp2_with (first | ((with_reducible refine uz (f := 34) rfl ?_); refine xa (some 59) rfl rfl Try.func34 (by kernel_rfl) rfl #[.slice Ao64 t107.length co64, .int .i64 a1_1] rfl (by (try simp only [un, uo, uq]); first | done | rfl | (simp only [ul, uk]; rfl)) ?_; (with_reducible refine (entry_Drop.calls kj13 (fun k_ => k_ ≠ gb101) _ _ t107 a1_1 t113 false _ ?side1 A37.out).mono ?_); (case side1 => exact HO_6.out); rintro e w65 ⟨v114, rfl, ho0, hb⟩; refine ⟨_, rfl, ?_⟩; have n0_ := Aside0.mk (vz (by (with_reducible repeat (first | apply vw | apply vv | apply vu)); exact HO_5.out) hb); have n1_ := Aside0.mk (vz (by (with_reducible repeat (first | apply vw | apply vv | apply vu)); exact HO_6.out) hb); have n2_ := Aside0.mk (Kd.V_lower (Kd.V_mono (ok' := fun k_ => k_ ≠ gb101) ho0 (fun k_ hk_ => Or.elim hk_ (fun hs_ => hs_) (fun hn_ => (Kd.freshB (g := gb101) (o := .cells #[.int .u64 a1_0, .int .i64 a1_1] 33 (0, 0)) (by (with_reducible repeat (first | refine ux ?_ _ | refine uu ?_ | refine uy ?_ _)); exact BK101.out) k_ hn_)))) (uv (by repeat (first | (with_reducible first | exact HB.out | apply uf | apply ud | apply ue | refine ur ?_ GE101.out) | exact HB.out)))); have n3_ := Aside0.mk (vy (g := gb101) (o := .cells #[.int .u64 a1_0, .int .i64 a1_1] 33 (0, 0)) (by (with_reducible repeat (first | refine ux ?_ _ | refine uu ?_ | refine uy ?_ _)); exact BK101.out) hb); have n4_ := Aside0.mk (us (by repeat (first | (with_reducible first | exact HB.out | apply uf | apply ud | apply ue | refine ur ?_ GE101.out) | exact HB.out)) hb); clear HO_5; clear HO_6; clear BK101; clear HB; have HO_5 := n0_; have HO_6 := n1_; have HO115 := n2_; have BK101 := n3_; have HB := n4_; clear n0_ n1_ n2_ n3_ n4_; (try clear hb); (try clear hb2); (try clear hk); (try clear hi); (try clear ho0); have hcz66_0 : w65.cell? ⟨gb101, 0, none⟩ = some (.int .u64 a1_0) := (ut BK101.out 0).trans rfl; have hcz66_1 : w65.cell? ⟨gb101, 1, none⟩ = some (.int .i64 a1_1) := (ut BK101.out 1).trans rfl; have hfz66_0 := vq BK101.out 0; have hfz66_1 := vq BK101.out 1; obtain ⟨Ao67, co67, eo67⟩ := Kd.V_slice HO115.out; subst eo67) | ((with_reducible refine uz (f := 34) rfl ?_); refine xa (some 66) rfl rfl Try.func34 (by kernel_rfl) rfl #[.slice Ao67 t113.length co67, .int .i64 a1_1] rfl (by (try simp only [un, uo, uq]); first | done | rfl | (simp only [ul, uk]; rfl)) ?_; (with_reducible refine (entry_Drop.calls kj13 (fun k_ => k_ ≠ gb101) _ _ t113 a1_1 t117 t120 _ ?side1 A38.out).mono ?_); (case side1 => exact HO115.out); rintro e w68 ⟨v118, rfl, ho0, hb⟩; refine ⟨_, rfl, ?_⟩; have n0_ := Aside0.mk (vz (by (with_reducible repeat (first | apply vw | apply vv | apply vu)); exact HO_5.out) hb); have n1_ := Aside0.mk (vz (by (with_reducible repeat (first | apply vw | apply vv | apply vu)); exact HO_6.out) hb); have n2_ := Aside0.mk (vz (by (with_reducible repeat (first | apply vw | apply vv | apply vu)); exact HO115.out) hb); have n3_ := Aside0.mk (Kd.V_lower (Kd.V_mono (ok' := fun k_ => k_ ≠ gb101) ho0 (fun k_ hk_ => Or.elim hk_ (fun hs_ => hs_) (fun hn_ => (Kd.freshB (g := gb101) (o := .cells #[.int .u64 a1_0, .int .i64 a1_1] 33 (0, 0)) (by (with_reducible repeat (first | refine ux ?_ _ | refine uu ?_ | refine uy ?_ _)); exact BK101.out) k_ hn_)))) (uv (by repeat (first | (with_reducible first | exact HB.out | apply uf | apply ud | apply ue | refine ur ?_ GE101.out) | exact HB.out)))); have n4_ := Aside0.mk (vy (g := gb101) (o := .cells #[.int .u64 a1_0, .int .i64 a1_1] 33 (0, 0)) (by (with_reducible repeat (first | refine ux ?_ _ | refine uu ?_ | refine uy ?_ _)); exact BK101.out) hb); have n5_ := Aside0.mk (us (by repeat (first | (with_reducible first | exact HB.out | apply uf | apply ud | apply ue | refine ur ?_ GE101.out) | exact HB.out)) hb); clear HO_5; clear HO_6; clear HO115; clear BK101; clear HB; have HO_5 := n0_; have HO_6 := n1_; have HO115 := n2_; have HO119 := n3_; have BK101 := n4_; have HB := n5_; clear n0_ n1_ n2_ n3_ n4_ n5_; (try clear hb); (try clear hb2); (try clear hk); (try clear hi); (try clear ho0)))
           go_ret
           exact ⟨by first | rfl | (simp [errW_none, errW_some] <;> rfl) | (simp [*, errW_none, errW_some] <;> rfl), by repeat (first | (with_reducible first | exact HB.out | apply uf | apply ud | apply ue | refine ur ?_ GE101.out) | exact HB.out)⟩
end Go.Proofs.Ytfhapffjnafkbaa.V
