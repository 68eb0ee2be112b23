-- a text of this work, without what this claim doesn't use (wip/shake.py)
import Derived.Test.YtdfndglenbckhaaYVPvergerref5
import Derived.Test.YtdfndglenbckhaaYVRS5
import Derived.Deep.DeepCutAuto
import Derived.Deep.CutBlock
import Derived.Test.YtdfndglenbckhaaYVE46
import Derived.Test.YtdfndglenbckhaaYVRS6
import Derived.Test.YtdfndglenbckhaaYVRS7
import Derived.Test.YtdfndglenbckhaaYVXClone
section
set_option linter.unusedVariables false
set_option linter.unusedSimpArgs false
namespace Go.Proofs.Ytdfndglenbckhaa.V
open Go.RowKit Go.Proofs.YtdfndglenbckhaaW.PrintWords Go.Proofs.YtdfndglenbckhaaW.PrintLast Go.Proofs.YtdfndglenbckhaaW.PrintMore
theorem reps_oneBq {W : World} {ok : Nat → Prop} {b : Bk} {a u : Value} (h : Kd.FK k84 W ok b [a, u]) : Reps (Kd.FK k84 W ok) k84.sz [b] [a, u] := by
 refine ⟨rfl, fun j q hj => ?_⟩
 cases j with
 | zero => simp at hj; subst hj; exact h
 | succ j => simp at hj
def pre8 (L : Int) (l : List E) : List Bk := if l = [] then [] else [⟨L, l⟩]
def raw8 (L : Int) (l m : List E) : List Bk := pre8 L l ++ [mkB m]
theorem raw8_few (L : Int) (l m : List E) : (raw8 L l m).length ≤ 2 ∧ (allB (raw8 L l m)).length = l.length + m.length := by
 unfold raw8 pre8
 have hm : (mkB m).f1.length = m.length := sortE_length m
 split
 · rename_i h; subst h
   exact ⟨by simp, by simp [allB_cons, allB_nil, hm]⟩
 · exact ⟨by simp, by simp [allB_cons, allB_nil, hm]⟩
def BlocksPost (okL : Nat → Prop) (L : Int) (l m : List E) (w : World) (x : Ending) (w' : World) : Prop :=
  ∃ A1 c1 A2 c2, x = .returned (.tuple #[.slice A1 (raw8 L l m).length c1, .slice A2 (raw8 L l m).length c2]) ∧ (raw8 L l m).length ≤ c1 ∧ (raw8 L l m).length ≤ c2 ∧ Kd.F k84 w' (fun k => okL k ∨ w.heap.size ≤ k) A1 (raw8 L l m).length (raw8 L l m) ∧ Kd.F k70 w' (fun k => okL k ∨ w.heap.size ≤ k) A2 ((raw8 L l m).map toR).length ((raw8 L l m).map toR) ∧ Below w.heap.size w w'
theorem blocksPost_mk {okL OK : Nat → Prop} {L : Int} {l m : List E} {w w1 w' : World} {xs RX : List Bk} {ys RY : List RBk} {Y : Bk} {AX AY : Option Addr} {cX cY : Nat} (hx : xs = pre8 L l ∧ ys = (pre8 L l).map toR ∧ Y = mkB m) (hX : RX = xs ++ [Y]) (hY : RY = ys ++ [toR Y]) (hOK : OK = fun k => okL k ∨ w.heap.size ≤ k)
 (h1 : Below w.heap.size w w1) (h2 : Below w1.heap.size w1 w') (cx : RX.length ≤ cX) (cy : RY.length ≤ cY) (fx : Kd.F k84 w' OK AX RX.length RX) (fy : Kd.F k70 w' OK AY RY.length RY) : BlocksPost okL L l m w (.returned (.tuple #[.slice AX RX.length cX, .slice AY RY.length cY])) w' := by
 obtain ⟨rfl, rfl, rfl⟩ := hx
 subst hOK
 have e1 : RX = raw8 L l m := hX
 have e2 : RY = (raw8 L l m).map toR := by rw [hY]; unfold raw8; rw [List.map_append]; rfl
 subst e1; subst e2
 rw [List.length_map] at cy ⊢
 exact ⟨AX, cX, AY, cY, rfl, cx, cy, fx, fy, uo h1 h2⟩
set_option maxRecDepth 100000 in
set_option maxHeartbeats 4000000 in
theorem l8blocks (okL : Nat → Prop) (kind id L : Int) (old : Bool) (A4 : Option Addr) (c4 : Nat) (l : List E) (A5 : Option Addr) (c5 : Nat) (m : List E) (w : World) (h4 : Kd.F k46 w okL A4 l.length l) (hc4 : l.length ≤ c4) (h5 : k46.C w A5 m.length m) (hc5 : m.length ≤ c5) (hl : l.length ≤ 1000) (hm : m.length ≤ 1000) :
 Calls Try.prog 15 #[.agg #[.int .i64 kind, .int .i64 id, .int .i64 L, .bool old, .slice A4 l.length c4, .slice A5 m.length c5]] w (BlocksPost okL L l m w) := by
 obtain ⟨g, hg⟩ : ∃ g, g = w.heap.size := ⟨_, rfl⟩
 obtain ⟨w1, hw1⟩ : ∃ w1 : World, w1 = w.alloc (.cells #[.int .i64 kind, .int .i64 id, .int .i64 L, .bool old, .slice A4 l.length c4, .slice A5 m.length c5] 32) := ⟨_, rfl⟩
 have HW1 := Aside0.mk hw1
 have HZ := Aside0.mk (show Below w.heap.size w w1 by rw [hw1]; exact uf (Below.refl w.heap.size w) _)
 have HX1 := Aside0.mk (show w1.heap[g]? = some (.cells #[.int .i64 kind, .int .i64 id, .int .i64 L, .bool old, .slice A4 l.length c4, .slice A5 m.length c5] 32 (0, 0)) by rw [hw1, hg]; exact heap_alloc_new w _)
 obtain ⟨OK, hOK⟩ : ∃ OK : Nat → Prop, OK = fun k => okL k ∨ w.heap.size ≤ k := ⟨_, rfl⟩
 have HOKE := Aside0.mk hOK
 have HOK := Aside0.mk (show ∀ k, w1.heap.size ≤ k → OK k from fun k hk => by rw [hOK]; exact .inr (Nat.le_trans HZ.out.size hk))
 have HF4 := Aside0.mk (show Kd.F k46 w1 (fun k => OK k ∧ k < w1.heap.size) A4 l.length l from Kd.F_bound (Kd.F_mono (xg h4 HZ.out) (fun k hk => by rw [hOK]; exact .inl hk)))
 have HC4 := Aside0.mk hc4
 have HM5 := Aside0.mk (xb h5 HZ.out)
 have HOF := Aside0.mk (show vergerref5_Of.f 3000000 m = some ((mkB m).f0, (mkB m).f1) from refof_mkR _ _ (by omega) (by omega))
 have HB := Aside0.mk (Below.refl w1.heap.size w1)
 have HGW := Aside0.mk (show g < w1.heap.size from blk_lt HX1.out)
 have HLM := Aside0.mk (And.intro hl hm)
 clear h4 h5 hOK
 go_enter Try.func15, Try.ntmps15
 go_upto_if 10 with fail
 rw [← hw1, ← hg]
 clear hw1 hg
 have x4 : w1.cell? ⟨g, 4, none⟩ = some (.slice A4 l.length c4) := (uk HX1.out 4).trans rfl
 have x2 : w1.cell? ⟨g, 2, none⟩ = some (.int .i64 L) := (uk HX1.out 2).trans rfl
 go_cut [4, 5] (fun s4 s5 wx => ∃ (vx vy : Value) (xs : List Bk) (ys : List RBk), s4 = vx ∧ s5 = vy ∧ Aside0 (xs = pre8 L l ∧ ys = (pre8 L l).map toR) ∧ Aside0 (Kd.N k84 84 wx w1.heap.size (fun k => OK k ∧ some k ≠ vy.ownBlock) vx xs) ∧ Aside0 (Kd.N k70 70 wx w1.heap.size (fun k => OK k ∧ some k ≠ vx.ownBlock) vy ys) ∧ Aside0 (Below w1.heap.size w1 wx))
 case first =>
  by_cases h0 : l.length = 0
  · have q1 : ¬ (0 : Int) < (l.length : Int) := by omega
    have q2 : ¬ 0 < l.length := by omega
    have HP := Aside0.mk (show pre8 L l = [] by unfold pre8; rw [if_pos (List.length_eq_zero_iff.1 h0)])
    have q3 : ¬ (l ≠ []) := fun e => e (List.length_eq_zero_iff.1 h0)
    clear h0
    go_wp2_with fail
    go_meet
    exact ⟨_, _, [], [], rfl, rfl, ⟨by rw [HP.out]; exact ⟨rfl, rfl⟩⟩, ⟨Kd.N_nil _ _ _ _ _⟩, ⟨Kd.N_nil _ _ _ _ _⟩, HB⟩
  · have q1 : (0 : Int) < (l.length : Int) := by omega
    have q3 : ¬ l = [] := fun e => by rw [e] at h0; exact h0 rfl
    have HP := Aside0.mk (show pre8 L l = [⟨L, l⟩] by unfold pre8; rw [if_neg q3])
    go_wp2_with (first | ((with_reducible refine xm (N := 17) rfl ?_); go_loud (refine Kd.N_lit k84 _ 84 ?hg (N' := 17) ?hd (xs := [(⟨L, l⟩ : Bk)]) (inner := [.int .i64 L, .slice A4 l.length c4]) (ok := OK) (okp := fun k => OK k ∧ k < w1.heap.size) ?hr ?hp (fun k hk => hk.1) ?hf (Below.refl _ _) (vn _) (by simp) ?_; (case hd => rfl); (case hg => rfl); (case hr => first | (go_simp; done) | (go_simp; rfl)); (case hp => exact reps_oneBq (k84_mkF _ _ ((⟨L, l⟩ : Bk)) HC4.out (xg HF4.out HB.out))); (case hf => exact HOK.out _ HB.out.size); intro vL wL ho6 hb6 hg6 hnew6; obtain ⟨AL, cL, e_⟩ := xt ho6; subst e_; have HL := Aside0.mk (Kd.N_F ho6); have n_ := Aside0.mk (uo HB.out hb6); (try clear HB); have HB := n_; clear n_; have x2 := (uk (vw HX1.out HB.out) 2).trans rfl; have x4 := (uk (vw HX1.out HB.out) 4).trans rfl; clear ho6 hb6 hg6 hnew6)) | ((with_reducible refine gate_builtin (b := .append) (xs := #[.tmp 11, .tmp 17]) rfl ?_); at_builtin; go_loud (refine Kd.N_append_rows k84 (w0 := w1) w1.heap.size rfl (.tmp 11) (.tmp 17) 34 84 (.agg #[.int .i64 0, .slice none 0 0]) 32 rfl Try.underlying34 infoB rfl (by decide) (by decide) (Value.slice none 0 0) ([]) [(⟨L, l⟩ : Bk)] _ _ _ (fun k => OK k ∧ some k ≠ (Value.slice none 0 0).ownBlock) OK rfl rfl (Kd.N_nil _ _ _ _ _) HL.out (fun k hk => ⟨by first | exact hk | exact ⟨hk, by simp [Value.ownBlock]⟩, by simp [Value.ownBlock]⟩) (fun k hk => ⟨HOK.out _ (Nat.le_trans HB.out.size hk), by simp [Value.ownBlock]⟩) HB.out HB.out.size (by simp) ?_; intro v18 w18 ho hb hg hat; rw [List.nil_append] at ho; obtain ⟨vx, hvx⟩ : ∃ v, v = v18 := ⟨_, rfl⟩; subst hvx; have HX := Aside0.mk ho; clear HL; clear HB; have HB := Aside0.mk hb; have x2 := (uk (vw HX1.out HB.out) 2).trans rfl; have x4 := (uk (vw HX1.out HB.out) 4).trans rfl; clear ho hb hg hat)) | ((with_reducible refine xm (N := 25) rfl ?_); go_loud (refine Kd.N_lit k70 _ 70 ?hg (N' := 25) ?hd (xs := [(⟨L, l⟩ : RBk)]) (inner := [.int .i64 L, .slice A4 l.length c4]) (ok := (fun k => OK k ∧ some k ≠ vx.ownBlock)) (okp := fun k => OK k ∧ k < w1.heap.size) ?hr ?hp (fun k hk => ⟨hk.1, fun e => by have := Kd.N_base HX.out k e.symm; have := hk.2; omega⟩) ?hf (Below.refl _ _) (vn _) (by simp) ?_; (case hd => rfl); (case hg => rfl); (case hr => first | (go_simp; done) | (go_simp; rfl)); (case hp => exact reps_oneR (k70_mkF _ _ ((⟨L, l⟩ : RBk)) HC4.out (xg HF4.out HB.out))); (case hf => exact ⟨HOK.out _ HB.out.size, fun e => by have := Kd.N_lt HX.out _ e.symm; omega⟩); intro vL wL ho6 hb6 hg6 hnew6; obtain ⟨AL, cL, e_⟩ := xt ho6; subst e_; have HL := Aside0.mk (Kd.N_F ho6); have n_ := Aside0.mk (xu HX.out hb6); (try clear HX); have HX := n_; clear n_; have n_ := Aside0.mk (uo HB.out hb6); (try clear HB); have HB := n_; clear n_; have x2 := (uk (vw HX1.out HB.out) 2).trans rfl; have x4 := (uk (vw HX1.out HB.out) 4).trans rfl; clear ho6 hb6 hg6 hnew6)) | ((with_reducible refine gate_builtin (b := .append) (xs := #[.tmp 19, .tmp 25]) rfl ?_); at_builtin; go_loud (refine Kd.N_append_rows k70 (w0 := w1) w1.heap.size rfl (.tmp 19) (.tmp 25) 27 70 (.agg #[.int .i64 0, .slice none 0 0]) 32 rfl Try.underlying27 infoRB rfl (by decide) (by decide) (Value.slice none 0 0) ([]) [(⟨L, l⟩ : RBk)] _ _ _ (fun k => OK k ∧ some k ≠ vx.ownBlock) (fun k => OK k ∧ some k ≠ vx.ownBlock) rfl rfl (Kd.N_nil _ _ _ _ _) HL.out (fun k hk => ⟨by first | exact hk | exact ⟨hk, by simp [Value.ownBlock]⟩, by simp [Value.ownBlock]⟩) (fun k hk => ⟨HOK.out _ (Nat.le_trans HB.out.size hk), fun e => by have := Kd.N_lt HX.out _ e.symm; omega⟩) HB.out HB.out.size (by simp) ?_; intro v18 w18 ho hb hg hat; rw [List.nil_append] at ho; obtain ⟨vy, hvy⟩ : ∃ v, v = v18 := ⟨_, rfl⟩; subst hvy; have HY := Aside0.mk ho; have HXn := Aside0.mk (Kd.N_afterv (v := Value.slice none 0 0) HX.out hg hat); clear HX HL; have HX := HXn; clear HXn; clear HB; have HB := Aside0.mk hb; have x2 := (uk (vw HX1.out HB.out) 2).trans rfl; have x4 := (uk (vw HX1.out HB.out) 4).trans rfl; clear ho hb hg hat)))
    go_meet
    exact ⟨_, _, _, _, rfl, rfl, ⟨by rw [HP.out]; exact ⟨rfl, rfl⟩⟩, HX, HY, HB⟩
 case rest =>
  obtain ⟨vx, vy, xs, ys, e4, e5, HXP, HX, HY, HB0⟩ := hcut
  subst e4; subst e5
  obtain ⟨vx, hvx⟩ : ∃ v, v = u4 := ⟨_, rfl⟩
  obtain ⟨vy, hvy⟩ : ∃ v, v = u5 := ⟨_, rfl⟩
  subst hvx; subst hvy
  rename World => wc
  clear HB x2 x4
  have HB := HB0
  clear HB0
  have x5 : wc.cell? ⟨g, 5, none⟩ = some (.slice A5 m.length c5) := (uk (vw HX1.out HB.out) 5).trans rfl
  have HXL := Aside0.mk (show xs.length ≤ 1 ∧ ys.length ≤ 1 by
   rw [HXP.out.1, HXP.out.2]
   unfold pre8
   split <;> simp)
  go_wp2_with fail
  refine (vergerref5_Of.calls 3000000 A5 c5 m _ _ _ (xb HM5.out HB.out) hc5 HOF.out).mono ?_
  rintro x w6 ⟨v6, rfl, hv6, hb6⟩
  obtain ⟨Ab, cb, rfl⟩ := Kd.R_slice hv6
  have HM0 := Aside0.mk (Kd.V_at (show Kd.V k46 46 w6 0 (fun k => wc.heap.size ≤ k ∧ k < w6.heap.size) (.slice Ab (mkB m).f1.length cb) (mkB m).f1 from Kd.R_V (xp (Kd.R_bound hv6) (fun k hk => ⟨hk.2.1, hk.2.2.1⟩))))
  have hxn := Kd.N_lt HX.out
  have hyn := Kd.N_lt HY.out
  have HB6 := Aside0.mk (uo HB.out hb6)
  have HX6 := Aside0.mk (xu HX.out hb6)
  have HY6 := Aside0.mk (xu HY.out hb6)
  obtain ⟨Y, hY⟩ : ∃ Y, Y = mkB m := ⟨_, rfl⟩
  rw [← hY] at HM0 ⊢
  have HMC := Aside0.mk HM0.out.2.1
  have HM6 := Aside0.mk (show Kd.F k46 w6 (fun k => (OK k ∧ some k ≠ vy.ownBlock) ∧ some k ≠ vx.ownBlock) Ab Y.f1.length Y.f1 from Kd.F_mono HM0.out.2.2 (fun k hk => ⟨⟨HOK.out _ (Nat.le_trans HB.out.size hk.1), fun e => by have := hyn k e.symm; have := hk.1; omega⟩, fun e => by have := hxn k e.symm; have := hk.1; omega⟩))
  have HXS := Aside0.mk (show xs = pre8 L l ∧ ys = (pre8 L l).map toR ∧ Y = mkB m from ⟨HXP.out.1, HXP.out.2, hY⟩)
  clear hv6 hb6 hxn hyn hY HX HY HB x5
  go_upto_region 7 with fail
  obtain ⟨g6, hg6⟩ : ∃ g6, g6 = w6.heap.size := ⟨_, rfl⟩
  obtain ⟨wz, hwz⟩ : ∃ wz : World, wz = w6.alloc (.cells #[.int .i64 Y.f0, .slice Ab Y.f1.length cb] 70) := ⟨_, rfl⟩
  rw [← hwz, ← hg6]
  have hbz : Below w6.heap.size w6 wz.drew := by rw [hwz]; exact uo (uf (Below.refl _ _) _) (below_drew (Below.refl _ _))
  have HBX := Aside0.mk (show wz.drew.heap[g6]? = some (.cells #[.int .i64 Y.f0, .slice Ab Y.f1.length cb] 70 (0, 0)) by rw [hwz, hg6]; exact heap_alloc_new _ _)
  have HGO := Aside0.mk (show some g6 ≠ vx.ownBlock ∧ some g6 ≠ vy.ownBlock from ⟨fun e => by have := Kd.N_lt HX6.out _ e.symm; omega, fun e => by have := Kd.N_lt HY6.out _ e.symm; omega⟩)
  have HX := Aside0.mk (xu HX6.out hbz)
  have HY := Aside0.mk (xu HY6.out hbz)
  have HM := Aside0.mk (xg HM6.out hbz)
  have HB := Aside0.mk (uo HB6.out hbz)
  have z0 : wz.cell? ⟨g6, 0, none⟩ = some (.int .i64 Y.f0) := (uk HBX.out 0).trans rfl
  have z1 : wz.cell? ⟨g6, 1, none⟩ = some (.slice Ab Y.f1.length cb) := (uk HBX.out 1).trans rfl
  obtain ⟨RX, hRX⟩ : ∃ RX, RX = xs ++ [Y] := ⟨_, rfl⟩
  obtain ⟨RY, hRY⟩ : ∃ RY, RY = ys ++ [toR Y] := ⟨_, rfl⟩
  have HRX := Aside0.mk hRX
  have HRY := Aside0.mk hRY
  clear hwz hg6 hbz HX6 HY6 HM6 HB6 hRX hRY HM0
  refine start_ (n := 14) (S := fun w' => w'.cell? ⟨g6, 0, none⟩ = some (.int .i64 Y.f0) ∧ w'.cell? ⟨g6, 1, none⟩ = some (.slice Ab Y.f1.length cb)) (ds := []) #[xX, xX, xX, xX, xX, xX, xX, xX, xX, xX, xX, xX, xX, xX] (by kernel_rfl) rfl rfl ⟨z0, z1⟩ (fun hHeld => ?_)
  refine uj (i := 0) (N := (some 30)) (v := ?_) (a' := ?_) (bA 14 1) rfl rfl (by kernel_rfl) (fun _ _ _ h => h) (Or.inl ⟨by rfl, ?_⟩) ?_ ?_
  rotate_left; (· (intro w'); go_simp; (with_reducible rfl)); rotate_left; (· (simp only [Act.put, ua, ub, uc, uh, ui]); rfl)
  refine uj (i := 1) (N := (some 31)) (v := ?_) (a' := ?_) (bA 14 3) rfl rfl (by kernel_rfl) (fun _ _ _ h => h) (Or.inl ⟨by rfl, ?_⟩) ?_ ?_
  rotate_left; (· (intro w'); go_simp; (with_reducible rfl)); rotate_left; (· (simp only [Act.put, ua, ub, uc, uh, ui]); rfl)
  refine uj (i := 3) (N := (some 33)) (v := ?_) (a' := ?_) (bA 14 11) rfl rfl (by kernel_rfl) (fun _ _ _ h => h) (Or.inl ⟨by rfl, ?_⟩) ?_ ?_
  rotate_left; (· (intro w'); go_simp; (with_reducible rfl)); rotate_left; (· (simp only [Act.put, ua, ub, uc, uh, ui]); rfl)
  refine uj (i := 8) (N := (some 38)) (v := ?_) (a' := ?_) (bA 14 267) rfl rfl (by kernel_rfl) (fun _ _ _ h => h) (Or.inl ⟨by rfl, ?_⟩) ?_ ?_
  rotate_left; (· (intro w'); go_simp; (with_reducible rfl)); rotate_left; (· (simp only [Act.put, ua, ub, uc, uh, ui]); rfl)
  refine xk (i := 2) (N := (some 32)) (v := ?_) (a' := ?_) (bA 14 271) rfl rfl (by kernel_rfl) (fun _ _ _ h => h) (Or.inl ⟨by rfl, ?_⟩) hHeld ?_ ?_
  rotate_left; (· (rintro w' ⟨s0, s1⟩); go_simp; (with_reducible rfl)); rotate_left; (· (simp only [Act.put, ua, ub, uc, uh, ui]); rfl)
  refine xk (i := 4) (N := (some 34)) (v := ?_) (a' := ?_) (bA 14 287) rfl rfl (by kernel_rfl) (fun _ _ _ h => h) (Or.inl ⟨by rfl, ?_⟩) hHeld ?_ ?_
  rotate_left; (· (rintro w' ⟨s0, s1⟩); go_simp; (with_reducible rfl)); rotate_left; (· (simp only [Act.put, ua, ub, uc, uh, ui]); rfl)
  refine uj (i := 5) (N := (some 35)) (v := ?_) (a' := ?_) (bA 14 319) rfl rfl (by kernel_rfl) (fun _ _ _ h => h) (Or.inl ⟨by rfl, ?_⟩) ?_ ?_
  rotate_left; (· (intro w'); go_simp; (with_reducible rfl)); rotate_left; (· (simp only [Act.put, ua, ub, uc, uh, ui]); rfl)
  refine xk (i := 9) (N := (some 39)) (v := ?_) (a' := ?_) (bA 14 831) rfl rfl (by kernel_rfl) (fun _ _ _ h => h) (Or.inl ⟨by rfl, ?_⟩) hHeld ?_ ?_
  rotate_left; (· (rintro w' ⟨s0, s1⟩); go_simp; (with_reducible rfl)); rotate_left; (· (simp only [Act.put, ua, ub, uc, uh, ui]); rfl)
  refine two_ (i := 6) (j := 10) (Ni := (some 36)) (Nj := (some 40)) #[yY, yY, yY, yY, yY, yY, yY, xX, yY, yY, xX, xX, xX, xX] #[yY, yY, yY, yY, yY, yY, xX, xX, yY, yY, yY, xX, xX, xX] rfl rfl rfl rfl (by kernel_rfl) (by decide) (by decide) (fun K hK => ?_) (fun K hK => ?_)
  · skip
    refine Kd.N_lit_step k84 _ 84 ?hg (N' := 36) ?hd (xs := [Y]) (inner := [.int .i64 Y.f0, .slice Ab Y.f1.length cb]) (ok := (fun k => (OK k ∧ some k ≠ vy.ownBlock) ∧ some k ≠ vx.ownBlock)) (okp := (fun k => (OK k ∧ some k ≠ vy.ownBlock) ∧ some k ≠ vx.ownBlock)) ?hr ?hp (fun _ hk => hk) ?hf (Below.refl _ _) (vn _) (by simp) ?_; (case hd => rfl); (case hg => rfl); (case hr => first | (go_simp; done) | (go_simp; rfl)); (case hp => exact reps_oneBq (k84_mkF _ _ (Y) HMC.out HM.out)); (case hf => exact ⟨⟨HOK.out _ HB.out.size, fun e => by have := Kd.N_lt HY.out _ e.symm; omega⟩, fun e => by have := Kd.N_lt HX.out _ e.symm; omega⟩)
    intro vL wL ho6 hb6 hg6 hnew6
    obtain ⟨A36, c36, e_⟩ := xt ho6
    subst e_
    have HL36 := Aside0.mk (Kd.N_F ho6)
    have n_ := Aside0.mk (xu HX.out hb6)
    (try clear HX)
    have HX := n_
    clear n_
    have n_ := Aside0.mk (xu HY.out hb6)
    (try clear HY)
    have HY := n_
    clear n_
    have n_ := Aside0.mk (xg HM.out hb6)
    (try clear HM)
    have HM := n_
    clear n_
    (try (have HLn := Aside0.mk (xg HL40.out hb6); clear HL40; have HL40 := HLn; clear HLn))
    have n_ := Aside0.mk (vw HBX.out hb6)
    (try clear HBX)
    have HBX := n_
    clear n_
    have n_ := Aside0.mk (uo HB.out hb6)
    (try clear HB)
    have HB := n_
    clear n_
    clear ho6 hb6 hg6 hnew6
    refine hK.out _ _ ⟨(uk HBX.out 0).trans rfl, (uk HBX.out 1).trans rfl⟩ (fun hHeld => ?_)
    clear hK K
    refine xj (a' := ?_) ?_ ?_; rotate_left; (· (show Act.put _ (some 36) _ = _); (simp only [Act.put, ua, ub, uc, uh, ui]); rfl)
    refine two_ (i := 7) (j := 10) (Ni := (some 37)) (Nj := (some 40)) #[yY, yY, yY, yY, yY, yY, yY, yY, yY, yY, xX, xX, xX, xX] #[yY, yY, yY, yY, yY, yY, yY, xX, yY, yY, yY, xX, xX, xX] rfl rfl rfl rfl (by kernel_rfl) (by decide) (by decide) (fun K hK => ?_) (fun K hK => ?_)
    · skip
      refine xd k84 (w0 := w1) w1.heap.size (by rfl) (.tmp 30) (.tmp 36) 34 84 (.agg #[.int .i64 0, .slice none 0 0]) 32 rfl Try.underlying34 infoB rfl (by decide) (by decide) _ xs [Y] _ _ _ (fun k => OK k ∧ some k ≠ vy.ownBlock) (fun k => (OK k ∧ some k ≠ vy.ownBlock) ∧ some k ≠ vx.ownBlock) rfl rfl HX.out HL36.out (fun k hk => hk) (fun k hk => ⟨HOK.out _ (Nat.le_trans HB.out.size hk), fun e => by have := Kd.N_lt HY.out _ e.symm; omega⟩) HB.out HB.out.size (by have := HXL.out; simp; omega) ?_
      intro vx2 w37 ho hb hg hat
      have HYn := Aside0.mk (Kd.N_afterv HY.out hg hat)
      have HMn := Aside0.mk (Kd.F_after HM.out hg hat)
      (try (have HLn := Aside0.mk (Kd.F_after HL40.out hg hat); clear HL40; have HL40 := HLn; clear HLn))
      have HBXn := Aside0.mk ((hg.block g6 (blk_lt HBX.out) HGO.out.1).trans HBX.out)
      have HGOn := Aside0.mk (show some g6 ≠ vx2.ownBlock ∧ some g6 ≠ vy.ownBlock from ⟨Or.elim hat (fun h => by rw [h]; exact HGO.out.1) (fun h => by obtain ⟨b_, h1, h2⟩ := h; rw [h1]; intro e; injection e with e; have := blk_lt HBX.out; omega), HGO.out.2⟩)
      clear HX HY HM HL36 HB HBX HGO
      have HX := Aside0.mk ho
      have HY := HYn
      have HM := HMn
      have HB := Aside0.mk hb
      have HBX := HBXn
      have HGO := HGOn
      clear HYn HMn HBXn HGOn ho hb hg hat
      obtain ⟨vx, hvx⟩ : ∃ v, v = vx2 := ⟨_, rfl⟩
      subst hvx
      refine hK.out _ _ ⟨(uk HBX.out 0).trans rfl, (uk HBX.out 1).trans rfl⟩ (fun hHeld => ?_)
      clear hK K
      refine xj (a' := ?_) ?_ ?_; rotate_left; (· (show Act.put _ (some 37) _ = _); (simp only [Act.put, ua, ub, uc, uh, ui]); rfl)
      refine one_ (i := 10) (N := (some 40)) #[yY, yY, yY, yY, yY, yY, yY, yY, yY, yY, yY, xX, xX, xX] rfl rfl (by kernel_rfl) (by decide) (fun K hK => ?_)
      refine Kd.N_lit_step k70 _ 70 ?hg (N' := 40) ?hd (xs := [toR Y]) (inner := [.int .i64 Y.f0, .slice Ab Y.f1.length cb]) (ok := (fun k => (OK k ∧ some k ≠ vy.ownBlock) ∧ some k ≠ vx.ownBlock)) (okp := (fun k => (OK k ∧ some k ≠ vy.ownBlock) ∧ some k ≠ vx.ownBlock)) ?hr ?hp (fun _ hk => hk) ?hf (Below.refl _ _) (vn _) (by simp) ?_; (case hd => rfl); (case hg => rfl); (case hr => first | (go_simp; done) | (go_simp; rfl)); (case hp => exact reps_oneR (k70_mkF _ _ (toR Y) HMC.out HM.out)); (case hf => exact ⟨⟨HOK.out _ HB.out.size, fun e => by have := Kd.N_lt HY.out _ e.symm; omega⟩, fun e => by have := Kd.N_lt HX.out _ e.symm; omega⟩)
      intro vL wL ho6 hb6 hg6 hnew6
      obtain ⟨A40, c40, e_⟩ := xt ho6
      subst e_
      have HL40 := Aside0.mk (Kd.N_F ho6)
      have n_ := Aside0.mk (xu HX.out hb6)
      (try clear HX)
      have HX := n_
      clear n_
      have n_ := Aside0.mk (xu HY.out hb6)
      (try clear HY)
      have HY := n_
      clear n_
      have n_ := Aside0.mk (xg HM.out hb6)
      (try clear HM)
      have HM := n_
      clear n_
      (try (have HLn := Aside0.mk (xg HL36.out hb6); clear HL36; have HL36 := HLn; clear HLn))
      have n_ := Aside0.mk (vw HBX.out hb6)
      (try clear HBX)
      have HBX := n_
      clear n_
      have n_ := Aside0.mk (uo HB.out hb6)
      (try clear HB)
      have HB := n_
      clear n_
      clear ho6 hb6 hg6 hnew6
      refine hK.out _ _ ⟨(uk HBX.out 0).trans rfl, (uk HBX.out 1).trans rfl⟩ (fun hHeld => ?_)
      clear hK K
      refine xj (a' := ?_) ?_ ?_; rotate_left; (· (show Act.put _ (some 40) _ = _); (simp only [Act.put, ua, ub, uc, uh, ui]); rfl)
      refine one_ (i := 11) (N := (some 41)) #[yY, yY, yY, yY, yY, yY, yY, yY, yY, yY, yY, yY, xX, xX] rfl rfl (by kernel_rfl) (by decide) (fun K hK => ?_)
      refine xd k70 (w0 := w1) w1.heap.size (by rfl) (.tmp 38) (.tmp 40) 27 70 (.agg #[.int .i64 0, .slice none 0 0]) 32 rfl Try.underlying27 infoRB rfl (by decide) (by decide) _ ys [toR Y] _ _ _ (fun k => OK k ∧ some k ≠ vx.ownBlock) (fun k => (OK k ∧ some k ≠ vy.ownBlock) ∧ some k ≠ vx.ownBlock) rfl rfl HY.out HL40.out (fun k hk => ⟨⟨hk.1.1, hk.2⟩, hk.1.2⟩) (fun k hk => ⟨HOK.out _ (Nat.le_trans HB.out.size hk), fun e => by have := Kd.N_lt HX.out _ e.symm; omega⟩) HB.out HB.out.size (by have := HXL.out; simp; omega) ?_
      intro vy2 w41 ho hb hg hat
      have HXn := Aside0.mk (Kd.N_afterv HX.out hg hat)
      have HBXn := Aside0.mk ((hg.block g6 (blk_lt HBX.out) HGO.out.2).trans HBX.out)
      clear HX HY HM HL40 HB HBX HGO
      have HX := HXn
      have HY := Aside0.mk ho
      have HB := Aside0.mk hb
      have HBX := HBXn
      clear HXn HBXn ho hb hg hat
      refine hK.out _ _ ⟨(uk HBX.out 0).trans rfl, (uk HBX.out 1).trans rfl⟩ (fun hHeld => ?_)
      clear hK K
      refine xj (a' := ?_) ?_ ?_; rotate_left; (· (show Act.put _ (some 41) _ = _); (simp only [Act.put, ua, ub, uc, uh, ui]); rfl)
      refine uj (i := 12) (N := (some 2)) (v := ?_) (a' := ?_) (bA 14 8191) rfl rfl (by kernel_rfl) (fun _ _ _ h => h) (Or.inl ⟨by rfl, ?_⟩) ?_ ?_
      rotate_left; (· (intro w'); go_simp; (with_reducible rfl)); rotate_left; (· (simp only [Act.put, ua, ub, uc, uh, ui]); rfl)
      refine uj (i := 13) (N := (some 3)) (v := ?_) (a' := ?_) (bA 14 16383) rfl rfl (by kernel_rfl) (fun _ _ _ h => h) (Or.inl ⟨by rfl, ?_⟩) ?_ ?_
      rotate_left; (· (intro w'); go_simp; (with_reducible rfl)); rotate_left; (· (simp only [Act.put, ua, ub, uc, uh, ui]); rfl)
      refine done_ (by kernel_rfl) ?_
      have HX_ := HX.out
      rw [← HRX.out] at HX_
      have HY_ := HY.out
      rw [← HRY.out] at HY_
      obtain ⟨AX, cX, e_⟩ := xt HX_
      subst e_
      obtain ⟨AY, cY, e_⟩ := xt HY_
      subst e_
      have HFX := Aside0.mk HX_
      have HFY := Aside0.mk HY_
      clear HX_ HY_
      go_wp2_with fail
      exact bodyPost_ret (v := .tuple #[.slice AX RX.length cX, .slice AY RY.length cY]) (by simp [results, Try.results15, go_sem]) rfl (blocksPost_mk HXS.out HRX.out HRY.out HOKE.out (by rw [HW1.out]; exact uf (Below.refl _ _) _) HB.out (Kd.N_reads' HFX.out).2.1 (Kd.N_reads' HFY.out).2.1 (Kd.F_mono (Kd.N_F HFX.out) (fun k hk => hk.1)) (Kd.F_mono (Kd.N_F HFY.out) (fun k hk => hk.1)))
    · skip
      refine Kd.N_lit_step k70 _ 70 ?hg (N' := 40) ?hd (xs := [toR Y]) (inner := [.int .i64 Y.f0, .slice Ab Y.f1.length cb]) (ok := (fun k => (OK k ∧ some k ≠ vy.ownBlock) ∧ some k ≠ vx.ownBlock)) (okp := (fun k => (OK k ∧ some k ≠ vy.ownBlock) ∧ some k ≠ vx.ownBlock)) ?hr ?hp (fun _ hk => hk) ?hf (Below.refl _ _) (vn _) (by simp) ?_; (case hd => rfl); (case hg => rfl); (case hr => first | (go_simp; done) | (go_simp; rfl)); (case hp => exact reps_oneR (k70_mkF _ _ (toR Y) HMC.out HM.out)); (case hf => exact ⟨⟨HOK.out _ HB.out.size, fun e => by have := Kd.N_lt HY.out _ e.symm; omega⟩, fun e => by have := Kd.N_lt HX.out _ e.symm; omega⟩)
      intro vL wL ho6 hb6 hg6 hnew6
      obtain ⟨A40, c40, e_⟩ := xt ho6
      subst e_
      have HL40 := Aside0.mk (Kd.N_F ho6)
      have n_ := Aside0.mk (xu HX.out hb6)
      (try clear HX)
      have HX := n_
      clear n_
      have n_ := Aside0.mk (xu HY.out hb6)
      (try clear HY)
      have HY := n_
      clear n_
      have n_ := Aside0.mk (xg HM.out hb6)
      (try clear HM)
      have HM := n_
      clear n_
      (try (have HLn := Aside0.mk (xg HL36.out hb6); clear HL36; have HL36 := HLn; clear HLn))
      have n_ := Aside0.mk (vw HBX.out hb6)
      (try clear HBX)
      have HBX := n_
      clear n_
      have n_ := Aside0.mk (uo HB.out hb6)
      (try clear HB)
      have HB := n_
      clear n_
      clear ho6 hb6 hg6 hnew6
      refine hK.out _ _ ⟨(uk HBX.out 0).trans rfl, (uk HBX.out 1).trans rfl⟩ (fun hHeld => ?_)
      clear hK K
      refine xj (a' := ?_) ?_ ?_; rotate_left; (· (show Act.put _ (some 40) _ = _); (simp only [Act.put, ua, ub, uc, uh, ui]); rfl)
      refine one_ (i := 7) (N := (some 37)) #[yY, yY, yY, yY, yY, yY, yY, yY, yY, yY, yY, xX, xX, xX] rfl rfl (by kernel_rfl) (by decide) (fun K hK => ?_)
      refine xd k84 (w0 := w1) w1.heap.size (by rfl) (.tmp 30) (.tmp 36) 34 84 (.agg #[.int .i64 0, .slice none 0 0]) 32 rfl Try.underlying34 infoB rfl (by decide) (by decide) _ xs [Y] _ _ _ (fun k => OK k ∧ some k ≠ vy.ownBlock) (fun k => (OK k ∧ some k ≠ vy.ownBlock) ∧ some k ≠ vx.ownBlock) rfl rfl HX.out HL36.out (fun k hk => hk) (fun k hk => ⟨HOK.out _ (Nat.le_trans HB.out.size hk), fun e => by have := Kd.N_lt HY.out _ e.symm; omega⟩) HB.out HB.out.size (by have := HXL.out; simp; omega) ?_
      intro vx2 w37 ho hb hg hat
      have HYn := Aside0.mk (Kd.N_afterv HY.out hg hat)
      have HMn := Aside0.mk (Kd.F_after HM.out hg hat)
      (try (have HLn := Aside0.mk (Kd.F_after HL40.out hg hat); clear HL40; have HL40 := HLn; clear HLn))
      have HBXn := Aside0.mk ((hg.block g6 (blk_lt HBX.out) HGO.out.1).trans HBX.out)
      have HGOn := Aside0.mk (show some g6 ≠ vx2.ownBlock ∧ some g6 ≠ vy.ownBlock from ⟨Or.elim hat (fun h => by rw [h]; exact HGO.out.1) (fun h => by obtain ⟨b_, h1, h2⟩ := h; rw [h1]; intro e; injection e with e; have := blk_lt HBX.out; omega), HGO.out.2⟩)
      clear HX HY HM HL36 HB HBX HGO
      have HX := Aside0.mk ho
      have HY := HYn
      have HM := HMn
      have HB := Aside0.mk hb
      have HBX := HBXn
      have HGO := HGOn
      clear HYn HMn HBXn HGOn ho hb hg hat
      obtain ⟨vx, hvx⟩ : ∃ v, v = vx2 := ⟨_, rfl⟩
      subst hvx
      refine hK.out _ _ ⟨(uk HBX.out 0).trans rfl, (uk HBX.out 1).trans rfl⟩ (fun hHeld => ?_)
      clear hK K
      refine xj (a' := ?_) ?_ ?_; rotate_left; (· (show Act.put _ (some 37) _ = _); (simp only [Act.put, ua, ub, uc, uh, ui]); rfl)
      refine one_ (i := 11) (N := (some 41)) #[yY, yY, yY, yY, yY, yY, yY, yY, yY, yY, yY, yY, xX, xX] rfl rfl (by kernel_rfl) (by decide) (fun K hK => ?_)
      refine xd k70 (w0 := w1) w1.heap.size (by rfl) (.tmp 38) (.tmp 40) 27 70 (.agg #[.int .i64 0, .slice none 0 0]) 32 rfl Try.underlying27 infoRB rfl (by decide) (by decide) _ ys [toR Y] _ _ _ (fun k => OK k ∧ some k ≠ vx.ownBlock) (fun k => (OK k ∧ some k ≠ vy.ownBlock) ∧ some k ≠ vx.ownBlock) rfl rfl HY.out HL40.out (fun k hk => ⟨⟨hk.1.1, hk.2⟩, hk.1.2⟩) (fun k hk => ⟨HOK.out _ (Nat.le_trans HB.out.size hk), fun e => by have := Kd.N_lt HX.out _ e.symm; omega⟩) HB.out HB.out.size (by have := HXL.out; simp; omega) ?_
      intro vy2 w41 ho hb hg hat
      have HXn := Aside0.mk (Kd.N_afterv HX.out hg hat)
      have HBXn := Aside0.mk ((hg.block g6 (blk_lt HBX.out) HGO.out.2).trans HBX.out)
      clear HX HY HM HL40 HB HBX HGO
      have HX := HXn
      have HY := Aside0.mk ho
      have HB := Aside0.mk hb
      have HBX := HBXn
      clear HXn HBXn ho hb hg hat
      refine hK.out _ _ ⟨(uk HBX.out 0).trans rfl, (uk HBX.out 1).trans rfl⟩ (fun hHeld => ?_)
      clear hK K
      refine xj (a' := ?_) ?_ ?_; rotate_left; (· (show Act.put _ (some 41) _ = _); (simp only [Act.put, ua, ub, uc, uh, ui]); rfl)
      refine uj (i := 12) (N := (some 2)) (v := ?_) (a' := ?_) (bA 14 8191) rfl rfl (by kernel_rfl) (fun _ _ _ h => h) (Or.inl ⟨by rfl, ?_⟩) ?_ ?_
      rotate_left; (· (intro w'); go_simp; (with_reducible rfl)); rotate_left; (· (simp only [Act.put, ua, ub, uc, uh, ui]); rfl)
      refine uj (i := 13) (N := (some 3)) (v := ?_) (a' := ?_) (bA 14 16383) rfl rfl (by kernel_rfl) (fun _ _ _ h => h) (Or.inl ⟨by rfl, ?_⟩) ?_ ?_
      rotate_left; (· (intro w'); go_simp; (with_reducible rfl)); rotate_left; (· (simp only [Act.put, ua, ub, uc, uh, ui]); rfl)
      refine done_ (by kernel_rfl) ?_
      have HX_ := HX.out
      rw [← HRX.out] at HX_
      have HY_ := HY.out
      rw [← HRY.out] at HY_
      obtain ⟨AX, cX, e_⟩ := xt HX_
      subst e_
      obtain ⟨AY, cY, e_⟩ := xt HY_
      subst e_
      have HFX := Aside0.mk HX_
      have HFY := Aside0.mk HY_
      clear HX_ HY_
      go_wp2_with fail
      exact bodyPost_ret (v := .tuple #[.slice AX RX.length cX, .slice AY RY.length cY]) (by simp [results, Try.results15, go_sem]) rfl (blocksPost_mk HXS.out HRX.out HRY.out HOKE.out (by rw [HW1.out]; exact uf (Below.refl _ _) _) HB.out (Kd.N_reads' HFX.out).2.1 (Kd.N_reads' HFY.out).2.1 (Kd.F_mono (Kd.N_F HFX.out) (fun k hk => hk.1)) (Kd.F_mono (Kd.N_F HFY.out) (fun k hk => hk.1)))
  · skip
    refine Kd.N_lit_step k70 _ 70 ?hg (N' := 40) ?hd (xs := [toR Y]) (inner := [.int .i64 Y.f0, .slice Ab Y.f1.length cb]) (ok := (fun k => (OK k ∧ some k ≠ vy.ownBlock) ∧ some k ≠ vx.ownBlock)) (okp := (fun k => (OK k ∧ some k ≠ vy.ownBlock) ∧ some k ≠ vx.ownBlock)) ?hr ?hp (fun _ hk => hk) ?hf (Below.refl _ _) (vn _) (by simp) ?_; (case hd => rfl); (case hg => rfl); (case hr => first | (go_simp; done) | (go_simp; rfl)); (case hp => exact reps_oneR (k70_mkF _ _ (toR Y) HMC.out HM.out)); (case hf => exact ⟨⟨HOK.out _ HB.out.size, fun e => by have := Kd.N_lt HY.out _ e.symm; omega⟩, fun e => by have := Kd.N_lt HX.out _ e.symm; omega⟩)
    intro vL wL ho6 hb6 hg6 hnew6
    obtain ⟨A40, c40, e_⟩ := xt ho6
    subst e_
    have HL40 := Aside0.mk (Kd.N_F ho6)
    have n_ := Aside0.mk (xu HX.out hb6)
    (try clear HX)
    have HX := n_
    clear n_
    have n_ := Aside0.mk (xu HY.out hb6)
    (try clear HY)
    have HY := n_
    clear n_
    have n_ := Aside0.mk (xg HM.out hb6)
    (try clear HM)
    have HM := n_
    clear n_
    (try (have HLn := Aside0.mk (xg HL36.out hb6); clear HL36; have HL36 := HLn; clear HLn))
    have n_ := Aside0.mk (vw HBX.out hb6)
    (try clear HBX)
    have HBX := n_
    clear n_
    have n_ := Aside0.mk (uo HB.out hb6)
    (try clear HB)
    have HB := n_
    clear n_
    clear ho6 hb6 hg6 hnew6
    refine hK.out _ _ ⟨(uk HBX.out 0).trans rfl, (uk HBX.out 1).trans rfl⟩ (fun hHeld => ?_)
    clear hK K
    refine xj (a' := ?_) ?_ ?_; rotate_left; (· (show Act.put _ (some 40) _ = _); (simp only [Act.put, ua, ub, uc, uh, ui]); rfl)
    refine one_ (i := 6) (N := (some 36)) #[yY, yY, yY, yY, yY, yY, yY, xX, yY, yY, yY, xX, xX, xX] rfl rfl (by kernel_rfl) (by decide) (fun K hK => ?_)
    refine Kd.N_lit_step k84 _ 84 ?hg (N' := 36) ?hd (xs := [Y]) (inner := [.int .i64 Y.f0, .slice Ab Y.f1.length cb]) (ok := (fun k => (OK k ∧ some k ≠ vy.ownBlock) ∧ some k ≠ vx.ownBlock)) (okp := (fun k => (OK k ∧ some k ≠ vy.ownBlock) ∧ some k ≠ vx.ownBlock)) ?hr ?hp (fun _ hk => hk) ?hf (Below.refl _ _) (vn _) (by simp) ?_; (case hd => rfl); (case hg => rfl); (case hr => first | (go_simp; done) | (go_simp; rfl)); (case hp => exact reps_oneBq (k84_mkF _ _ (Y) HMC.out HM.out)); (case hf => exact ⟨⟨HOK.out _ HB.out.size, fun e => by have := Kd.N_lt HY.out _ e.symm; omega⟩, fun e => by have := Kd.N_lt HX.out _ e.symm; omega⟩)
    intro vL wL ho6 hb6 hg6 hnew6
    obtain ⟨A36, c36, e_⟩ := xt ho6
    subst e_
    have HL36 := Aside0.mk (Kd.N_F ho6)
    have n_ := Aside0.mk (xu HX.out hb6)
    (try clear HX)
    have HX := n_
    clear n_
    have n_ := Aside0.mk (xu HY.out hb6)
    (try clear HY)
    have HY := n_
    clear n_
    have n_ := Aside0.mk (xg HM.out hb6)
    (try clear HM)
    have HM := n_
    clear n_
    (try (have HLn := Aside0.mk (xg HL40.out hb6); clear HL40; have HL40 := HLn; clear HLn))
    have n_ := Aside0.mk (vw HBX.out hb6)
    (try clear HBX)
    have HBX := n_
    clear n_
    have n_ := Aside0.mk (uo HB.out hb6)
    (try clear HB)
    have HB := n_
    clear n_
    clear ho6 hb6 hg6 hnew6
    refine hK.out _ _ ⟨(uk HBX.out 0).trans rfl, (uk HBX.out 1).trans rfl⟩ (fun hHeld => ?_)
    clear hK K
    refine xj (a' := ?_) ?_ ?_; rotate_left; (· (show Act.put _ (some 36) _ = _); (simp only [Act.put, ua, ub, uc, uh, ui]); rfl)
    refine one_ (i := 7) (N := (some 37)) #[yY, yY, yY, yY, yY, yY, yY, yY, yY, yY, yY, xX, xX, xX] rfl rfl (by kernel_rfl) (by decide) (fun K hK => ?_)
    refine xd k84 (w0 := w1) w1.heap.size (by rfl) (.tmp 30) (.tmp 36) 34 84 (.agg #[.int .i64 0, .slice none 0 0]) 32 rfl Try.underlying34 infoB rfl (by decide) (by decide) _ xs [Y] _ _ _ (fun k => OK k ∧ some k ≠ vy.ownBlock) (fun k => (OK k ∧ some k ≠ vy.ownBlock) ∧ some k ≠ vx.ownBlock) rfl rfl HX.out HL36.out (fun k hk => hk) (fun k hk => ⟨HOK.out _ (Nat.le_trans HB.out.size hk), fun e => by have := Kd.N_lt HY.out _ e.symm; omega⟩) HB.out HB.out.size (by have := HXL.out; simp; omega) ?_
    intro vx2 w37 ho hb hg hat
    have HYn := Aside0.mk (Kd.N_afterv HY.out hg hat)
    have HMn := Aside0.mk (Kd.F_after HM.out hg hat)
    (try (have HLn := Aside0.mk (Kd.F_after HL40.out hg hat); clear HL40; have HL40 := HLn; clear HLn))
    have HBXn := Aside0.mk ((hg.block g6 (blk_lt HBX.out) HGO.out.1).trans HBX.out)
    have HGOn := Aside0.mk (show some g6 ≠ vx2.ownBlock ∧ some g6 ≠ vy.ownBlock from ⟨Or.elim hat (fun h => by rw [h]; exact HGO.out.1) (fun h => by obtain ⟨b_, h1, h2⟩ := h; rw [h1]; intro e; injection e with e; have := blk_lt HBX.out; omega), HGO.out.2⟩)
    clear HX HY HM HL36 HB HBX HGO
    have HX := Aside0.mk ho
    have HY := HYn
    have HM := HMn
    have HB := Aside0.mk hb
    have HBX := HBXn
    have HGO := HGOn
    clear HYn HMn HBXn HGOn ho hb hg hat
    obtain ⟨vx, hvx⟩ : ∃ v, v = vx2 := ⟨_, rfl⟩
    subst hvx
    refine hK.out _ _ ⟨(uk HBX.out 0).trans rfl, (uk HBX.out 1).trans rfl⟩ (fun hHeld => ?_)
    clear hK K
    refine xj (a' := ?_) ?_ ?_; rotate_left; (· (show Act.put _ (some 37) _ = _); (simp only [Act.put, ua, ub, uc, uh, ui]); rfl)
    refine one_ (i := 11) (N := (some 41)) #[yY, yY, yY, yY, yY, yY, yY, yY, yY, yY, yY, yY, xX, xX] rfl rfl (by kernel_rfl) (by decide) (fun K hK => ?_)
    refine xd k70 (w0 := w1) w1.heap.size (by rfl) (.tmp 38) (.tmp 40) 27 70 (.agg #[.int .i64 0, .slice none 0 0]) 32 rfl Try.underlying27 infoRB rfl (by decide) (by decide) _ ys [toR Y] _ _ _ (fun k => OK k ∧ some k ≠ vx.ownBlock) (fun k => (OK k ∧ some k ≠ vy.ownBlock) ∧ some k ≠ vx.ownBlock) rfl rfl HY.out HL40.out (fun k hk => ⟨⟨hk.1.1, hk.2⟩, hk.1.2⟩) (fun k hk => ⟨HOK.out _ (Nat.le_trans HB.out.size hk), fun e => by have := Kd.N_lt HX.out _ e.symm; omega⟩) HB.out HB.out.size (by have := HXL.out; simp; omega) ?_
    intro vy2 w41 ho hb hg hat
    have HXn := Aside0.mk (Kd.N_afterv HX.out hg hat)
    have HBXn := Aside0.mk ((hg.block g6 (blk_lt HBX.out) HGO.out.2).trans HBX.out)
    clear HX HY HM HL40 HB HBX HGO
    have HX := HXn
    have HY := Aside0.mk ho
    have HB := Aside0.mk hb
    have HBX := HBXn
    clear HXn HBXn ho hb hg hat
    refine hK.out _ _ ⟨(uk HBX.out 0).trans rfl, (uk HBX.out 1).trans rfl⟩ (fun hHeld => ?_)
    clear hK K
    refine xj (a' := ?_) ?_ ?_; rotate_left; (· (show Act.put _ (some 41) _ = _); (simp only [Act.put, ua, ub, uc, uh, ui]); rfl)
    refine uj (i := 12) (N := (some 2)) (v := ?_) (a' := ?_) (bA 14 8191) rfl rfl (by kernel_rfl) (fun _ _ _ h => h) (Or.inl ⟨by rfl, ?_⟩) ?_ ?_
    rotate_left; (· (intro w'); go_simp; (with_reducible rfl)); rotate_left; (· (simp only [Act.put, ua, ub, uc, uh, ui]); rfl)
    refine uj (i := 13) (N := (some 3)) (v := ?_) (a' := ?_) (bA 14 16383) rfl rfl (by kernel_rfl) (fun _ _ _ h => h) (Or.inl ⟨by rfl, ?_⟩) ?_ ?_
    rotate_left; (· (intro w'); go_simp; (with_reducible rfl)); rotate_left; (· (simp only [Act.put, ua, ub, uc, uh, ui]); rfl)
    refine done_ (by kernel_rfl) ?_
    have HX_ := HX.out
    rw [← HRX.out] at HX_
    have HY_ := HY.out
    rw [← HRY.out] at HY_
    obtain ⟨AX, cX, e_⟩ := xt HX_
    subst e_
    obtain ⟨AY, cY, e_⟩ := xt HY_
    subst e_
    have HFX := Aside0.mk HX_
    have HFY := Aside0.mk HY_
    clear HX_ HY_
    go_wp2_with fail
    exact bodyPost_ret (v := .tuple #[.slice AX RX.length cX, .slice AY RY.length cY]) (by simp [results, Try.results15, go_sem]) rfl (blocksPost_mk HXS.out HRX.out HRY.out HOKE.out (by rw [HW1.out]; exact uf (Below.refl _ _) _) HB.out (Kd.N_reads' HFX.out).2.1 (Kd.N_reads' HFY.out).2.1 (Kd.F_mono (Kd.N_F HFX.out) (fun k hk => hk.1)) (Kd.F_mono (Kd.N_F HFY.out) (fun k hk => hk.1)))
end Go.Proofs.Ytdfndglenbckhaa.V
end
section
set_option linter.unusedVariables false
set_option linter.unusedSimpArgs false
namespace Go.Proofs.Ytdfndglenbckhaa.V
open Go.RowKit Go.Proofs.YtdfndglenbckhaaW.PrintWords Go.Proofs.YtdfndglenbckhaaW.PrintLast Go.Proofs.YtdfndglenbckhaaW.PrintMore
theorem allR_map (bs : List Bk) : allR (bs.map toR) = allB bs := by
 unfold allR allB
 rw [List.flatMap_map]
 rfl
theorem VB_grownI {w w1 : World} {base G : Nat} {ok : Nat → Prop} {v : Value} {bs : List Bk} (h : Kd.V k84 84 w base ok v bs) (hG : NoI w G) (hg : w.grownBy w1 (some G)) : Kd.V k84 84 w1 base ok v bs :=
 Kd.V_map h (fun A hf => Kd.F_mono (Kd.F_step (FB_noi hf hG) (fun k hk hlt => hg.block k hlt (fun e => hk.2 (by injection e)))) (fun k hk => hk.1))
theorem VR_grownI {w w1 : World} {base G : Nat} {ok : Nat → Prop} {v : Value} {bs : List RBk} (h : Kd.V k70 70 w base ok v bs) (hG : NoI w G) (hg : w.grownBy w1 (some G)) : Kd.V k70 70 w1 base ok v bs :=
 Kd.V_map h (fun A hf => Kd.F_mono (Kd.F_step (FR_noi hf hG) (fun k hk hlt => hg.block k hlt (fun e => hk.2 (by injection e)))) (fun k hk => hk.1))
theorem ShAt.noI {w : World} {base p : Nat} {ver : Int} {v : Value} {bs : List Bk} (h : ShAt w base p ver v bs) : NoI w p := noI_mk h.hd (by
 intro x hx
 obtain ⟨A, c, rfl, _⟩ := h.reads
 simp at hx)
theorem RShAt.noI {w : World} {base p : Nat} {ver : Int} {v : Value} {bs : List RBk} (h : RShAt w base p ver v bs) : NoI w p := noI_mk h.hd (by
 intro x hx
 obtain ⟨A, c, rfl, _⟩ := h.reads
 simp at hx)
theorem ShAt.grown {w w1 : World} {base p G : Nat} {ver : Int} {v : Value} {bs : List Bk} (h : ShAt w base p ver v bs) (hG : NoI w G) (hg : w.grownBy w1 (some G)) (hne : p ≠ G) : ShAt w1 base p ver v bs :=
 ⟨(hg.block p h.lt (fun e => hne (by injection e))).trans h.hd, VB_grownI h.row hG hg, h.lo⟩
theorem RShAt.grown {w w1 : World} {base p G : Nat} {ver : Int} {v : Value} {bs : List RBk} (h : RShAt w base p ver v bs) (hG : NoI w G) (hg : w.grownBy w1 (some G)) (hne : p ≠ G) : RShAt w1 base p ver v bs :=
 ⟨(hg.block p h.lt (fun e => hne (by injection e))).trans h.hd, VR_grownI h.row hG hg, h.lo⟩
structure St8 (w wr : World) (p q : Nat) (i ver : Nat) (v v' : Value) (bs : List Bk) : Prop where
  s : ShAt wr w.heap.size p (ver : Int) v bs
  r : RShAt wr w.heap.size q (ver : Int) v' (bs.map toR)
  ok : ∀ b ∈ bs, okB b = true
  few : bs.length ≤ 2 * i ∧ (allB bs).length ≤ 80 * i ∧ ver ≤ i
  ne : p ≠ q
  bel : Below w.heap.size w wr
namespace St8
variable {w wr w1 w2 : World} {p q i ver ver1 : Nat} {v v' v1 v2 : Value} {bs bs1 : List Bk}
theorem below (h : St8 w wr p q i ver v v' bs) (hb : Below wr.heap.size wr w1) : St8 w w1 p q i ver v v' bs := ⟨h.s.below hb, h.r.below hb, h.ok, h.few, h.ne, below_step h.bel hb⟩
theorem next (h : St8 w wr p q i ver v v' bs) (hg : wr.grownBy w1 (some p)) : RShAt w1 w.heap.size q (ver : Int) v' (bs.map toR) := h.r.grown h.s.noI hg (fun e => h.ne e.symm)
theorem close (h : St8 w wr p q i ver v v' bs) (hs : ShAt w1 w.heap.size p (ver1 : Int) v1 bs1) (hg : wr.grownBy w1 (some p)) (hr : RShAt w2 w.heap.size q (ver1 : Int) v2 (bs1.map toR)) (hg2 : w1.grownBy w2 (some q)) (hok : ∀ b ∈ bs1, okB b = true) (hf : bs1.length ≤ 2 * (i + 1) ∧ (allB bs1).length ≤ 80 * (i + 1) ∧ ver1 ≤ i + 1) : St8 w w2 p q (i + 1) ver1 v1 v2 bs1 :=
 ⟨hs.grown (h.next hg).noI hg2 h.ne, hr, hok, hf, h.ne, below_grown (below_grown h.bel hg (fun k hk => by injection hk with hk; have := h.s.lo; omega)) hg2 (fun k hk => by injection hk with hk; have := h.r.lo; omega)⟩
theorem stay (h : St8 w wr p q i ver v v' bs) (hb : Below wr.heap.size wr w1) : St8 w w1 p q (i + 1) ver v v' bs := ⟨h.s.below hb, h.r.below hb, h.ok, by have := h.few; omega, h.ne, below_step h.bel hb⟩
end St8
structure Old8 (w wr : World) (p q go gs gw : Nat) (o : S32) (A4 A5 A1 : Option Addr) (c4 c5 c1 ver0 : Nat) (v0 : Value) (bs0 : List Bk) : Prop where
  op : wr.heap[go]? = some (.cells #[.int .i64 o.f0, .int .i64 o.f1, .int .i64 o.f2, .bool o.f3, .slice A4 o.f4.length c4, .slice A5 o.f5.length c5] 32 (0, 0))
  sn : wr.heap[gs]? = some (.cells #[.int .u64 (ver0 : Int), .slice A1 bs0.length c1] 36 (0, 0))
  row : Kd.V k84 84 wr 0 (fun _ => True) (.slice A1 bs0.length c1) bs0
  was : RShAt wr w.heap.size gw (ver0 : Int) v0 (bs0.map toR)
  ne : (go ≠ p ∧ go ≠ q) ∧ (gs ≠ p ∧ gs ≠ q) ∧ gw ≠ p ∧ gw ≠ q
namespace Old8
variable {w wr w1 : World} {p q go gs gw c4 c5 c1 ver0 G : Nat} {o : S32} {A4 A5 A1 : Option Addr} {v0 : Value} {bs0 : List Bk}
theorem below (h : Old8 w wr p q go gs gw o A4 A5 A1 c4 c5 c1 ver0 v0 bs0) (hb : Below wr.heap.size wr w1) : Old8 w w1 p q go gs gw o A4 A5 A1 c4 c5 c1 ver0 v0 bs0 := ⟨blk_below h.op hb, blk_below h.sn hb, Kd.V_below h.row hb, h.was.below hb, h.ne⟩
theorem grown (h : Old8 w wr p q go gs gw o A4 A5 A1 c4 c5 c1 ver0 v0 bs0) (hG : NoI wr G) (hg : wr.grownBy w1 (some G)) (hn : G = p ∨ G = q) : Old8 w w1 p q go gs gw o A4 A5 A1 c4 c5 c1 ver0 v0 bs0 := by
 have h1 : go ≠ G ∧ gs ≠ G ∧ gw ≠ G := by
  obtain ⟨⟨a, b⟩, ⟨c, d⟩, e, f⟩ := h.ne
  rcases hn with rfl | rfl
  · exact ⟨a, c, e⟩
  · exact ⟨b, d, f⟩
 exact ⟨(hg.block go (blk_lt h.op) (fun e => h1.1 (by injection e))).trans h.op, (hg.block gs (blk_lt h.sn) (fun e => h1.2.1 (by injection e))).trans h.sn, VB_grownI h.row hG hg, h.was.grown hG hg h1.2.2, h.ne⟩
end Old8
theorem addL_few {l : List E} {bs : List Bk} {i : Nat} (h : bs.length ≤ 2 * i ∧ (allB bs).length ≤ 80 * i) (hl : l.length ≤ 40) : (addL l bs).length ≤ 2 * (i + 1) ∧ (allB (addL l bs)).length ≤ 80 * (i + 1) := by
 have h1 := addS_len bs.length (mkB l) bs
 have h2 := (addL_all l bs).length_eq
 rw [List.length_append] at h2
 have h3 : (addL l bs).length ≤ bs.length + 1 := h1
 omega
theorem drawn_form (k : Int) (d : Nat) (es : List E) : ∃ (e : E) (r : Bool), drawnE (firsts k es) d = (.agg #[.int .u64 e.f0, .int .i64 e.f1], r) := by
 unfold drawnE
 split
 · exact ⟨⟨0, 0⟩, false, rfl⟩
 · exact ⟨_, true, rfl⟩
theorem toB_toR (bs : List Bk) (b : RBk) (h : b ∈ bs.map toR) : toB b ∈ bs := by
 obtain ⟨x, hx, rfl⟩ := List.mem_map.1 h
 exact hx
theorem rs_add_nilN (p : Nat) (A : Option Addr) (n c : Nat) (w : World) (hn : n = 0) :
 Calls Try.prog 12 #[.pointer (some ⟨p, 0, none⟩), .slice A n c] w fun x w' => x = .returned (.tuple #[]) ∧ w = w' := by
 subst hn; exact rs_add_nil p A c w
theorem rs_swap_yesM (base p : Nat) (ver : Int) (v : Value) (bs cs : List Bk) (A : Option Addr) (n c : Nat) (w : World) (hn : n = cs.length) (h : RShAt w base p ver v (bs.map toR)) (hv : 0 ≤ ver ∧ ver ≤ 1000000) (hr : Kd.F k70 w (fun k => k ≠ p) A (cs.map toR).length (cs.map toR)) (hc : n ≤ c) (hok : ∀ b ∈ cs, okB b = true) (hl : cs.length ≤ 1000) (ha : (allB cs).length ≤ 1000000) :
 Calls Try.prog 17 #[.pointer (some ⟨p, 0, none⟩), .int .u64 ver, .slice A n c] w fun x w' => x = .returned (.bool true) ∧ ∃ v', RShAt w' base p (ver + 1) v' (cs.map toR) ∧ w.grownBy w' (some p) := by
 subst hn
 have := rs_swap_yes base p ver v (bs.map toR) (cs.map toR) A c w h hv hr (by rw [List.length_map]; exact hc) (fun b hb => hok _ (toB_toR cs b hb)) (by rw [List.length_map]; exact hl) (fun b hb => by
  have h1 := toB_toR cs b hb
  obtain ⟨i, hi, hh⟩ := List.getElem_of_mem h1
  have := allB_at_le (List.getElem?_eq_getElem hi)
  rw [hh] at this
  have h2 : (toB b).f1.length ≤ 1000000 := by omega
  exact h2)
 rw [List.length_map] at this
 exact this
theorem rs_swap_badM (base p : Nat) (ver : Int) (v : Value) (bs cs : List Bk) (A : Option Addr) (n c : Nat) (w : World) (hn : n = cs.length) (h : RShAt w base p ver v (bs.map toR)) (hr : Kd.F k70 w (fun k => k ≠ p) A (cs.map toR).length (cs.map toR)) (hok : cs.any (fun b => !okB b) = true) (hl : cs.length ≤ 1000) (ha : (allB cs).length ≤ 1000000) :
 Calls Try.prog 17 #[.pointer (some ⟨p, 0, none⟩), .int .u64 ver, .slice A n c] w fun x w' => x = .returned (.bool false) ∧ Below w.heap.size w w' := by
 subst hn
 have := rs_swap_bad base p ver v (bs.map toR) (cs.map toR) A c w h (Kd.F_now hr) (by rw [List.any_map]; exact hok) (by rw [List.length_map]; exact hl) (fun b hb => by
  have h1 := toB_toR cs b hb
  obtain ⟨i, hi, hh⟩ := List.getElem_of_mem h1
  have := allB_at_le (List.getElem?_eq_getElem hi)
  rw [hh] at this
  have h2 : (toB b).f1.length ≤ 1000000 := by omega
  exact h2)
 rw [List.length_map] at this
 exact this
theorem rs_all {w : World} {base q : Nat} {ver : Int} {v : Value} {bs : List Bk} (h : RShAt w base q ver v (bs.map toR)) (hl : bs.length ≤ 1000) (ha : (allB bs).length ≤ 1000000) :
 ∃ A c, v = .slice A bs.length c ∧ (Calls Try.prog 18 #[.slice A bs.length c] w fun x w' => ∃ A1 c1, x = .returned (.slice A1 (sortE (allB bs)).length c1) ∧ (sortE (allB bs)).length ≤ c1 ∧ k46.C w' A1 (sortE (allB bs)).length (sortE (allB bs)) ∧ Below w.heap.size w w') := by
 obtain ⟨A, c, rfl, hc, hF⟩ := h.reads
 have hT := refall_told 3000000 (bs.map toR) (by rw [List.length_map]; omega) (by rw [allR_map]; omega) (by rw [List.length_map, allR_map]; omega)
 rw [allR_map] at hT
 refine ⟨A, c, by rw [List.length_map], ?_⟩
 have := vergerref5_All.calls 3000000 A c (bs.map toR) _ w (Kd.F_now hF) hc hT
 rw [List.length_map] at this
 refine this.mono ?_
 rintro x w' ⟨v1, rfl, hv1, hb1⟩
 obtain ⟨A1, c1, rfl⟩ := Kd.R_slice hv1
 exact ⟨A1, c1, rfl, (Kd.R_reads' hv1).2.1, (Kd.R_reads' hv1).2.2, hb1⟩
theorem rs_candM {w : World} {base q : Nat} {ver : Int} {v : Value} {bs : List Bk} (h : RShAt w base q ver v (bs.map toR)) (k : Int) (d : Nat) (hd : d < 18446744073709551616) (hl : bs.length ≤ 1000) (ha : (allB bs).length ≤ 1000000) :
 Calls Try.prog 20 #[.pointer (some ⟨q, 0, none⟩), .int .i64 k, .int .u64 (d : Int)] w (CandPost k d (allB bs) w) := by
 have := rs_cand base q ver v (bs.map toR) k d w h hd (by rw [List.length_map]; exact hl) (by rw [allR_map]; exact ha)
 rw [allR_map] at this
 exact this
end Go.Proofs.Ytdfndglenbckhaa.V
end
section
set_option linter.unusedVariables false
set_option linter.unusedSimpArgs false
namespace Go.Proofs.Ytdfndglenbckhaa.V
open Go.RowKit Go.Proofs.YtdfndglenbckhaaW.PrintWords Go.Proofs.YtdfndglenbckhaaW.PrintLast Go.Proofs.YtdfndglenbckhaaW.PrintMore
theorem and_maskL (x : Int) (m : Nat) (hm : m < 4611686018427387904) : 0 ≤ Go.bits .and .i64 x (m : Int) ∧ Go.bits .and .i64 x (m : Int) ≤ (m : Int) := by
 have h2 : (BitVec.ofInt 64 (m : Int)).toNat = m := by
  rw [BitVec.ofInt_natCast, BitVec.toNat_ofNat]; exact Nat.mod_eq_of_lt (by omega)
 have h3 : ((BitVec.ofInt 64 x) &&& (BitVec.ofInt 64 (m : Int))).toNat ≤ m := by
  rw [BitVec.toNat_and, h2]
  exact Nat.and_le_right
 show 0 ≤ IntKind.i64.wrap ((BitVec.ofInt 64 x &&& BitVec.ofInt 64 (m : Int)).toNat : Int) ∧ IntKind.i64.wrap ((BitVec.ofInt 64 x &&& BitVec.ofInt 64 (m : Int)).toNat : Int) ≤ _
 rw [i64_w]
 unfold wrap64
 omega
end Go.Proofs.Ytdfndglenbckhaa.V
end
section
set_option linter.unusedVariables false
set_option linter.unusedSimpArgs false
namespace Go.Proofs.Ytdfndglenbckhaa.V
open Go.RowKit Go.Proofs.YtdfndglenbckhaaW.PrintWords Go.Proofs.YtdfndglenbckhaaW.PrintLast Go.Proofs.YtdfndglenbckhaaW.PrintMore
theorem neqE_run (a b c d : Int) (w : World) : (binOp .neq 46 (.agg #[.int .u64 a, .int .i64 b]) (.agg #[.int .u64 c, .int .i64 d])).run Try.prog w = .ok (.bool (!(a == c && (b == d)))) w := by
 have h := eqA46 9998 w a c b d
 simp only [binOp]
 simp [Op.equal, Op.maxDepth, h]
theorem neqE_same (a b : Int) (w : World) : (binOp .neq 46 (.agg #[.int .u64 a, .int .i64 b]) (.agg #[.int .u64 a, .int .i64 b])).run Try.prog w = .ok (.bool false) w := by
 rw [neqE_run]; simp
end Go.Proofs.Ytdfndglenbckhaa.V
end
