-- a text of this work, without what this claim doesn't use (wip/shake.py)
import Derived.Test.YtfhapffjnafkbaaSVPcmp
import Derived.Test.YtfhapffjnafkbaaSVPvergerref5
section
namespace Go.Proofs.Ytfhapffjnafkbaa.V
open Go.RowKit Go.Proofs.YtfhapffjnafkbaaW.PrintWords Go.Proofs.YtfhapffjnafkbaaW.PrintLast Go.Proofs.YtfhapffjnafkbaaW.PrintMore
attribute [local go_sem] max2_int min2_int max_two min_two max_three min_three max_four min_four
set_option linter.unusedVariables false
set_option linter.unusedSimpArgs false
theorem eqA33 (d : Nat) (w : World) (x0 y0 : Int) (x1 y1 : Int) :
 (Op.equalIn (d + 2) 33 (.agg #[.int .u64 x0, .int .i64 x1]) (.agg #[.int .u64 y0, .int .i64 y1])).run Try.prog w = .ok (x0 == y0 && (x1 == y1)) w := by
 refine eqA_of Try.underlying33 (by kernel_rfl) ?_
 refine eqf_cons (by rfl) (by go_simp; rfl) (by go_simp; rfl) (by go_simp) ?_
 exact eqf_last (by rfl) (by go_simp; rfl) (by go_simp; rfl) (by go_simp)
end Go.Proofs.Ytfhapffjnafkbaa.V
end
section
namespace Go.Proofs.Ytfhapffjnafkbaa.V
open Go.RowKit Go.Proofs.YtfhapffjnafkbaaW.PrintWords Go.Proofs.YtfhapffjnafkbaaW.PrintLast Go.Proofs.YtfhapffjnafkbaaW.PrintMore
attribute [local go_sem] max2_int min2_int max_two min_two max_three min_three max_four min_four
set_option linter.unusedVariables false
set_option linter.unusedSimpArgs false
attribute [local go_sem high] eqA33
def vergerref5_Same.l0 : Nat → List (S33) → List (S33) → Int → Option (Bool)
  | 0, _, _, _ => none
  | k + 1, x0, x1, x5 => if x5 < (x0.length : Int) then (if 0 ≤ x5 then (if x5 < (x1.length : Int) then (if (!(((rd_T33 x0 x5).f0) == ((rd_T33 x1 x5).f0)) || (!(((rd_T33 x0 x5).f1) == ((rd_T33 x1 x5).f1)))) = true then (some false) else (vergerref5_Same.l0 k x0 x1 (wrap64 (x5 + 1)))) else (none)) else (none)) else (some true)
def vergerref5_Same.f (k : Nat) (l0 : List (S33)) (l1 : List (S33)) : Option (Bool) := if (l0.length : Int) = (l1.length : Int) then (vergerref5_Same.l0 k l0 l1 0) else (some false)
set_option maxHeartbeats 8000000 in
set_option maxRecDepth 100000 in
theorem vergerref5_Same.calls (k : Nat) (A0 : Option Addr) (c0 : Nat) (l0 : List (S33)) (A1 : Option Addr) (c1 : Nat) (l1 : List (S33)) (r : Bool) (w : World) (hr0 : Kd.C k33 w A0 l0.length l0) (hc0 : l0.length ≤ c0) (hr1 : Kd.C k33 w A1 l1.length l1) (hc1 : l1.length ≤ c1) (h : vergerref5_Same.f k l0 l1 = some r) :
 Calls Try.prog 25 #[.slice A0 l0.length c0, .slice A1 l1.length c1] w fun e w' => e = .returned (.bool r) ∧ Drawn0 w w' := by
 have hu33 := Try.underlying33; have HR0 := Aside0.mk hr0; have HC0 := Aside0.mk hc0; clear hr0 hc0; have HR1 := Aside0.mk hr1; have HC1 := Aside0.mk hc1; clear hr1 hc1; have H : (if (l0.length : Int) = (l1.length : Int) then (vergerref5_Same.l0 k l0 l1 0) else (some false)) = some r := h; clear h
 by_cases c3 : (l0.length : Int) = (l1.length : Int)
 · rw [if_pos c3] at H; have c3b0 : ((l0.length : Int) == (l1.length : Int)) = true := beq_iff_eq.mpr c3; have c3b1 : ((l0.length : Int) != (l1.length : Int)) = false := bne_eq_false_iff_eq.mpr c3; (have c3b2 : (l0.length == l1.length) = true := by first | simpa using c3 | (simp at c3 ⊢; omega)); clear c3; have H' := Aside0.mk H; clear H; go_enter Try.func25, Try.ntmps25
   go_wp2
   repeat (go_quiet (fail); try go_wp2)
   go_loopg [5] k (fun kq v5 w' => ∃ (x5_1 : Int), v5 = .int .i64 x5_1 ∧ Aside0 (vergerref5_Same.l0 kq l0 l1 x5_1 = some r) ∧ Aside0 (kq ≤ k) ∧ Drawn0 w w')
   case atStart => exact ⟨(0), (by first | rfl | (simp; done) | (simp [*]; done)), H', ⟨vr _⟩, by repeat (first | exact Drawn0.refl _ | apply Drawn0.step)⟩
   case round =>
    clear H'
    try clear c1
    try clear c2
    try clear p2
    try clear c3
    try clear c3b0
    try clear c3b1
    try clear c3b2
    obtain ⟨x5_1, rfl, HA, HK1, ⟨m1, rfl⟩⟩ := hrel
    cases gk with
    | zero => exact absurd HA.out (by simp [vergerref5_Same.l0])
    | succ k1 =>
     have H := HA.out; clear HA; simp only [vergerref5_Same.l0] at H
     by_cases c4 : x5_1 < (l0.length : Int)
     · rw [if_pos c4] at H; have c4b0 : decide (x5_1 < (l0.length : Int)) = true := decide_eq_true c4; clear c4
       by_cases c5 : 0 ≤ x5_1
       · rw [if_pos c5] at H; have c5b0 : decide (0 ≤ x5_1) = true := decide_eq_true c5; clear c5
         by_cases c6 : x5_1 < (l1.length : Int)
         · rw [if_pos c6] at H; have c6b0 : decide (x5_1 < (l1.length : Int)) = true := decide_eq_true c6; clear c6
           by_cases c7 : (!(((rd_T33 l0 x5_1).f0) == ((rd_T33 l1 x5_1).f0)) || (!(((rd_T33 l0 x5_1).f1) == ((rd_T33 l1 x5_1).f1)))) = true
           · rw [if_pos c7] at H; have c7b0 : (!(((rd_T33 l0 x5_1).f0) == ((rd_T33 l1 x5_1).f0)) || (!(((rd_T33 l0 x5_1).f1) == ((rd_T33 l1 x5_1).f1)))) = true := c7; clear c7; obtain rfl := Option.some.inj H; have p101 : 0 ≤ (x5_1 : Int) := ug (by first | (with_reducible assumption) | assumption); have q101 : x5_1 < (l0.length : Int) := ug (by first | (with_reducible assumption) | assumption); obtain ⟨ad101, e101, hx101_0, hx101_1⟩ := at_T33 HR0.out x5_1 p101 q101
             cases e101
             replace p101 := eq_true p101; replace q101 := eq_true q101; have p102 : 0 ≤ (x5_1 : Int) := ug (by first | (with_reducible assumption) | assumption); have q102 : x5_1 < (l1.length : Int) := ug (by first | (with_reducible assumption) | assumption); obtain ⟨ad102, e102, hx102_0, hx102_1⟩ := at_T33 HR1.out x5_1 p102 q102
             cases e102
             replace p102 := eq_true p102; replace q102 := eq_true q102
             go_wp2
             repeat (go_quiet (fail); try go_wp2)
             go_ret
             exact ⟨by first | rfl | (simp; done) | (simp [*]; done), by repeat (first | exact Drawn0.refl _ | apply Drawn0.step)⟩
           · rw [if_neg c7] at H; (have c7b0 : (!(((rd_T33 l0 x5_1).f0) == ((rd_T33 l1 x5_1).f0)) || (!(((rd_T33 l0 x5_1).f1) == ((rd_T33 l1 x5_1).f1)))) = false := by simpa using c7); clear c7; have H' := Aside0.mk H; clear H; have p101 : 0 ≤ (x5_1 : Int) := ug (by first | (with_reducible assumption) | assumption); have q101 : x5_1 < (l0.length : Int) := ug (by first | (with_reducible assumption) | assumption); obtain ⟨ad101, e101, hx101_0, hx101_1⟩ := at_T33 HR0.out x5_1 p101 q101
             cases e101
             replace p101 := eq_true p101; replace q101 := eq_true q101; have p102 : 0 ≤ (x5_1 : Int) := ug (by first | (with_reducible assumption) | assumption); have q102 : x5_1 < (l1.length : Int) := ug (by first | (with_reducible assumption) | assumption); obtain ⟨ad102, e102, hx102_0, hx102_1⟩ := at_T33 HR1.out x5_1 p102 q102
             cases e102
             replace p102 := eq_true p102; replace q102 := eq_true q102
             go_wp2
             repeat (go_quiet (fail); try go_wp2)
             go_roundg k1
             case measure => have := HK1.out; omega
             case rel => exact ⟨(wrap64 (x5_1 + 1)), (by first | rfl | (simp; done) | (simp [*]; done)), H', ⟨by have := HK1.out; omega⟩, by repeat (first | exact Drawn0.refl _ | apply Drawn0.step)⟩
         · rw [if_neg c6] at H; exact absurd H (by simp)
       · rw [if_neg c5] at H; exact absurd H (by simp)
     · rw [if_neg c4] at H; have c4b0 : decide (x5_1 < (l0.length : Int)) = false := decide_eq_false c4; clear c4; obtain rfl := Option.some.inj H
       go_wp2
       repeat (go_quiet (fail); try go_wp2)
       go_ret
       exact ⟨by first | rfl | (simp; done) | (simp [*]; done), by repeat (first | exact Drawn0.refl _ | apply Drawn0.step)⟩
 · rw [if_neg c3] at H; have c3b0 : ((l0.length : Int) == (l1.length : Int)) = false := beq_eq_false_iff_ne.mpr c3; have c3b1 : ((l0.length : Int) != (l1.length : Int)) = true := bne_iff_ne.mpr c3; (have c3b2 : (l0.length == l1.length) = false := by first | simpa using c3 | (simp at c3 ⊢; omega)); obtain rfl := Option.some.inj H; go_enter Try.func25, Try.ntmps25
   go_wp2
   repeat (go_quiet (fail); try go_wp2)
   go_ret
   exact ⟨by first | rfl | (simp; done) | (simp [*]; done), by repeat (first | exact Drawn0.refl _ | apply Drawn0.step)⟩
def vergerref5_Sorted.l0 : Nat → List (S33) → Int → Option (Bool)
  | 0, _, _ => none
  | k + 1, x0, x3 => if x3 < (x0.length : Int) then (if 0 ≤ x3 then (if 0 ≤ (wrap64 (x3 - 1)) then (if (wrap64 (x3 - 1)) < (x0.length : Int) then ((vergerref5_Less.f ((rd_T33 x0 x3).f0) ((rd_T33 x0 x3).f1) ((rd_T33 x0 (wrap64 (x3 - 1))).f0) ((rd_T33 x0 (wrap64 (x3 - 1))).f1)).bind fun t103 => (if t103 = true then (some false) else (vergerref5_Sorted.l0 k x0 (wrap64 (x3 + 1))))) else (none)) else (none)) else (none)) else (some true)
def vergerref5_Sorted.f (k : Nat) (l0 : List (S33)) : Option (Bool) := vergerref5_Sorted.l0 k l0 1
def vergerref5_Sorted.T4 : Bool × List (List Nat × List Nat) := (true, [([], []), ([], []), ([0, 1], [0, 1]), ([2], [2]), ([], []), ([], []), ([5], [5]), ([4, 6], [4, 6]), ([7], [7]), ([3, 8], [3, 8])])
def vergerref5_Sorted.B4 : List Nat := [0, 0, 3, 7, 0, 0, 32, 112, 240, 511]
theorem vergerref5_Sorted.tab4 : rtab .any (opsOf Try.f35 4) = vergerref5_Sorted.T4 := by kernel_rfl
theorem vergerref5_Sorted.bits4 : waitsOk vergerref5_Sorted.T4.2 vergerref5_Sorted.B4 = true := by kernel_rfl
set_option maxHeartbeats 8000000 in
set_option maxRecDepth 100000 in
theorem vergerref5_Sorted.calls (k : Nat) (A0 : Option Addr) (c0 : Nat) (l0 : List (S33)) (r : Bool) (w : World) (hr0 : Kd.C k33 w A0 l0.length l0) (hc0 : l0.length ≤ c0) (h : vergerref5_Sorted.f k l0 = some r) :
 Calls Try.prog 35 #[.slice A0 l0.length c0] w fun e w' => e = .returned (.bool r) ∧ Below w.heap.size w w' := by
 have hu33 := Try.underlying33; have HR0 := Aside0.mk hr0; have HC0 := Aside0.mk hc0; clear hr0 hc0; have HB := Aside0.mk (Below.refl w.heap.size w); have H : (vergerref5_Sorted.l0 k l0 1) = some r := h; clear h; have H' := Aside0.mk H; clear H; go_enter Try.func35, Try.ntmps35
 go_wp2
 go_loopg [3] k (fun kq v3 w' => ∃ (x3_1 : Int), v3 = .int .i64 x3_1 ∧ Aside0 (vergerref5_Sorted.l0 kq l0 x3_1 = some r) ∧ Aside0 (kq ≤ k) ∧ Aside0 (Below w.heap.size w w'))
 case atStart => exact ⟨(1), (by first | rfl | (simp; done) | (simp [*]; done)), H', ⟨vr _⟩, ⟨by repeat (first | (with_reducible first | exact HB.out | apply uf | apply ud | apply ue) | exact HB.out)⟩⟩
 case round =>
  clear H'; obtain ⟨x3_1, rfl, HA, HK1, HB⟩ := hrel
  cases gk with
  | zero => exact absurd HA.out (by simp [vergerref5_Sorted.l0])
  | succ k1 =>
   have H := HA.out; clear HA; simp only [vergerref5_Sorted.l0] at H
   by_cases c2 : x3_1 < (l0.length : Int)
   · rw [if_pos c2] at H; have c2b0 : decide (x3_1 < (l0.length : Int)) = true := decide_eq_true c2; clear c2
     by_cases c3 : 0 ≤ x3_1
     · rw [if_pos c3] at H; have c3b0 : decide (0 ≤ x3_1) = true := decide_eq_true c3; clear c3; obtain ⟨ji4, hji4⟩ : ∃ j_ : Int, (wrap64 (x3_1 - 1)) = j_ := ⟨_, rfl⟩; (replace H : (if 0 ≤ (ji4) then (if (ji4) < (l0.length : Int) then ((vergerref5_Less.f ((rd_T33 l0 x3_1).f0) ((rd_T33 l0 x3_1).f1) ((rd_T33 l0 (ji4)).f0) ((rd_T33 l0 (ji4)).f1)).bind fun t103 => (if t103 = true then (some false) else (vergerref5_Sorted.l0 k1 l0 (wrap64 (x3_1 + 1))))) else (none)) else (none)) = some r := by first | (rw [hji4] at H; exact H) | (simp only [hji4] at H ⊢; exact H)); have hji4w : (IntKind.i64.wrap (x3_1 - 1)) = ji4 := (uh _).trans hji4
       by_cases c5 : 0 ≤ (ji4)
       · rw [if_pos c5] at H; have c5b0 : decide (0 ≤ (ji4)) = true := decide_eq_true c5; clear c5
         by_cases c6 : (ji4) < (l0.length : Int)
         · rw [if_pos c6] at H; have c6b0 : decide ((ji4) < (l0.length : Int)) = true := decide_eq_true c6; clear c6; replace H := Option.bind_eq_some_iff.mp H; obtain ⟨t103, A70, H⟩ := H; replace H : (if t103 = true then (some false) else (vergerref5_Sorted.l0 k1 l0 (wrap64 (x3_1 + 1)))) = some r := H; have A7 := Aside0.mk A70; clear A70
           by_cases c8 : t103 = true
           · subst c8; (have H1 : (some false) = some r := by rw [if_pos rfl] at H; exact H); clear H; have H := H1; clear H1; obtain rfl := Option.some.inj H
             try go_wp2
             have n0_ := Aside0.mk (ue HB.out); clear HB; have HB := n0_; clear n0_; have p101 : 0 ≤ (x3_1 : Int) := ug (by first | (with_reducible assumption) | assumption); have q101 : x3_1 < (l0.length : Int) := ug (by first | (with_reducible assumption) | assumption); obtain ⟨ad101, e101, hx101_0, hx101_1⟩ := at_T33 HR0.out x3_1 p101 q101; have hw101_1 := hx101_1; have hw101_0 := hx101_0
             cases e101
             replace hx101_0 := (HB.out.cell (World.block_lt_of_cell? w _ hx101_0)).trans hx101_0; replace hx101_1 := (HB.out.cell (World.block_lt_of_cell? w _ hx101_1)).trans hx101_1; replace p101 := eq_true p101; replace q101 := eq_true q101; have p102 : 0 ≤ ((ji4) : Int) := ug (by first | (with_reducible assumption) | assumption); have q102 : (ji4) < (l0.length : Int) := ug (by first | (with_reducible assumption) | assumption); obtain ⟨ad102, e102, hx102_0, hx102_1⟩ := at_T33 HR0.out (ji4) p102 q102; have hw102_1 := hx102_1; have hw102_0 := hx102_0; obtain rfl : ad101 = ad102 := (by injection e102); replace hx102_0 := (HB.out.cell (World.block_lt_of_cell? w _ hx102_0)).trans hx102_0; replace hx102_1 := (HB.out.cell (World.block_lt_of_cell? w _ hx102_1)).trans hx102_1; replace p102 := eq_true p102; replace q102 := eq_true q102; refine start_ (n := 10) (S := fun w' => w'.cell? (ad101.add ((x3_1).toNat * 2)) = some (.int .u64 ((rd_T33 l0 x3_1).f0)) ∧ w'.cell? ⟨(ad101.add ((x3_1).toNat * 2)).block, (ad101.add ((x3_1).toNat * 2)).off + 1, none⟩ = some (.int .i64 ((rd_T33 l0 x3_1).f1)) ∧ w'.cell? (ad101.add (((ji4)).toNat * 2)) = some (.int .u64 ((rd_T33 l0 (ji4)).f0)) ∧ w'.cell? ⟨(ad101.add (((ji4)).toNat * 2)).block, (ad101.add (((ji4)).toNat * 2)).off + 1, none⟩ = some (.int .i64 ((rd_T33 l0 (ji4)).f1))) (ds := []) #[X, X, X, X, X, X, X, X, X, X] (by kernel_rfl) rfl rfl ⟨((HB.out.cell (World.block_lt_of_cell? w _ hw101_0)).trans hw101_0), ((HB.out.cell (World.block_lt_of_cell? w _ hw101_1)).trans hw101_1), ((HB.out.cell (World.block_lt_of_cell? w _ hw102_0)).trans hw102_0), ((HB.out.cell (World.block_lt_of_cell? w _ hw102_1)).trans hw102_1)⟩ (fun hHeld => ?_); refine xr vergerref5_Sorted.tab4 vergerref5_Sorted.bits4 (fun HT_ HW_ => ?_); generalize wr.drew = w9 at HB hx101_0 hx101_1 hx102_0 hx102_1 hHeld ⊢; refine ur (i := 0) (N := some 10) (v := ?_) (a' := ?_) #[Y, X, X, X, X, X, X, X, X, X] rfl rfl (uj HT_.out (by kernel_rfl)) (fun _ _ _ h => h) (Or.inl ⟨by rfl, ?_⟩) ?_ ?_; rotate_left
             · intro w'; go_simp; (with_reducible rfl)
             rotate_left
             · simp only [Act.put, ua, ub, uc, uh, ui]; rfl
             refine ur (i := 1) (N := some 11) (v := ?_) (a' := ?_) #[Y, Y, X, X, X, X, X, X, X, X] rfl rfl (uj HT_.out (by kernel_rfl)) (fun _ _ _ h => h) (Or.inl ⟨by rfl, ?_⟩) ?_ ?_; rotate_left
             · intro w'; go_simp; (with_reducible rfl)
             rotate_left
             · simp only [Act.put, ua, ub, uc, uh, ui]; rfl
             refine ur (i := 2) (N := some 12) (v := ?_) (a' := ?_) #[Y, Y, Y, X, X, X, X, X, X, X] rfl rfl (uj HT_.out (by kernel_rfl)) (fun _ _ _ h => h) (Or.inl ⟨by rfl, ?_⟩) ?_ ?_; rotate_left
             · intro w'; go_simp; (with_reducible rfl)
             rotate_left
             · simp only [Act.put, ua, ub, uc, uh, ui]; rfl
             refine ur (i := 4) (N := some 14) (v := ?_) (a' := ?_) #[Y, Y, Y, X, Y, X, X, X, X, X] rfl rfl (uj HT_.out (by kernel_rfl)) (fun _ _ _ h => h) (Or.inl ⟨by rfl, ?_⟩) ?_ ?_; rotate_left
             · intro w'; go_simp; (with_reducible rfl)
             rotate_left
             · simp only [Act.put, ua, ub, uc, uh, ui]; rfl
             refine ur (i := 5) (N := some 15) (v := ?_) (a' := ?_) #[Y, Y, Y, X, Y, Y, X, X, X, X] rfl rfl (uj HT_.out (by kernel_rfl)) (fun _ _ _ h => h) (Or.inl ⟨by rfl, ?_⟩) ?_ ?_; rotate_left
             · intro w'; go_simp; (with_reducible rfl)
             rotate_left
             · simp only [Act.put, ua, ub, uc, uh, ui]; rfl
             refine ur (i := 6) (N := some 16) (v := ?_) (a' := ?_) #[Y, Y, Y, X, Y, Y, Y, X, X, X] rfl rfl (uj HT_.out (by kernel_rfl)) (fun _ _ _ h => h) (Or.inl ⟨by rfl, ?_⟩) ?_ ?_; rotate_left
             · intro w'; go_simp; (with_reducible rfl)
             rotate_left
             · simp only [Act.put, ua, ub, uc, uh, ui]; rfl
             refine ur (i := 7) (N := some 17) (v := ?_) (a' := ?_) #[Y, Y, Y, X, Y, Y, Y, Y, X, X] rfl rfl (uj HT_.out (by kernel_rfl)) (fun _ _ _ h => h) (Or.inl ⟨by rfl, ?_⟩) ?_ ?_; rotate_left
             · intro w'; go_simp; (with_reducible rfl)
             rotate_left
             · simp only [Act.put, ua, ub, uc, uh, ui]; rfl
             refine take_ (i := 3) (N := some 13) (v := ?_) (a' := ?_) #[Y, Y, Y, Y, Y, Y, Y, Y, X, X] rfl rfl (xh HT_.out HW_.out (by kernel_rfl)) (fun _ _ _ h => h) (Or.inl ⟨by rfl, ?_⟩) hHeld ?_ ?_; rotate_left
             · rintro w' ⟨s0, s1, s2, s3⟩; go_simp; (with_reducible rfl)
             rotate_left
             · simp only [Act.put, ua, ub, uc, uh, ui]; rfl
             refine take_ (i := 8) (N := some 18) (v := ?_) (a' := ?_) #[Y, Y, Y, Y, Y, Y, Y, Y, Y, X] rfl rfl (xh HT_.out HW_.out (by kernel_rfl)) (fun _ _ _ h => h) (Or.inl ⟨by rfl, ?_⟩) hHeld ?_ ?_; rotate_left
             · rintro w' ⟨s0, s1, s2, s3⟩; go_simp; (with_reducible rfl)
             rotate_left
             · simp only [Act.put, ua, ub, uc, uh, ui]; rfl
             refine one_ (i := 9) (N := some 19) #[Y, Y, Y, Y, Y, Y, Y, Y, Y, Y] rfl rfl (xo HT_.out (by kernel_rfl)) (by decide) (fun K hK => ?_); refine goes_ Try.func36 (by kernel_rfl) rfl #[.agg #[.int .u64 ((rd_T33 l0 x3_1).f0), .int .i64 ((rd_T33 l0 x3_1).f1)], .agg #[.int .u64 ((rd_T33 l0 (ji4)).f0), .int .i64 ((rd_T33 l0 (ji4)).f1)]] (by rfl) rfl rfl (by (try simp only [um, ut, uy]); first | done | (simp only [hji4]; rfl) | rfl | (simp only [uk, ul]; rfl)) ?_; (with_reducible refine (vergerref5_Less.calls ((rd_T33 l0 x3_1).f0) ((rd_T33 l0 x3_1).f1) ((rd_T33 l0 (ji4)).f0) ((rd_T33 l0 (ji4)).f1) true _ A7.out).mono ?_); rintro e w10 ⟨rfl, hb⟩; refine ⟨_, rfl, ?_⟩; have n0_ := Aside0.mk (vl (by repeat (first | (with_reducible first | exact HB.out | apply uf | apply ud | apply ue) | exact HB.out)) hb); clear HB; have HB := n0_; clear n0_; (try clear hb); (try clear hb2); (try clear hk); (try clear hi); refine hK.out _ _ ⟨((HB.out.cell (World.block_lt_of_cell? w _ hw101_0)).trans hw101_0), ((HB.out.cell (World.block_lt_of_cell? w _ hw101_1)).trans hw101_1), ((HB.out.cell (World.block_lt_of_cell? w _ hw102_0)).trans hw102_0), ((HB.out.cell (World.block_lt_of_cell? w _ hw102_1)).trans hw102_1)⟩ (fun hHeld => ?_); clear hK K; refine xt (a' := ?_) ?_ ?_; rotate_left
             · show Act.put _ (some 19) _ = _
               simp only [Act.put, ua, ub, uc, uh, ui]; rfl
             refine done_ (done_of HT_.out (by kernel_rfl)) ?_
             try go_wp2
             go_ret
             exact ⟨by first | rfl | (simp [errW_none, errW_some] <;> rfl) | (simp only [← hji4]; first | rfl | (simp [errW_none, errW_some] <;> rfl)) | (simp [*, errW_none, errW_some] <;> rfl), by repeat (first | (with_reducible first | exact HB.out | apply uf | apply ud | apply ue) | exact HB.out)⟩
           · replace c8 := Bool.eq_false_iff.mpr c8; subst c8; (have H1 : (vergerref5_Sorted.l0 k1 l0 (wrap64 (x3_1 + 1))) = some r := by rw [if_neg (show ¬ (false = true) by decide)] at H; exact H); clear H; have H := H1; clear H1; have H' := Aside0.mk H; clear H
             try go_wp2
             have n0_ := Aside0.mk (ue HB.out); clear HB; have HB := n0_; clear n0_; have p101 : 0 ≤ (x3_1 : Int) := ug (by first | (with_reducible assumption) | assumption); have q101 : x3_1 < (l0.length : Int) := ug (by first | (with_reducible assumption) | assumption); obtain ⟨ad101, e101, hx101_0, hx101_1⟩ := at_T33 HR0.out x3_1 p101 q101; have hw101_1 := hx101_1; have hw101_0 := hx101_0
             cases e101
             replace hx101_0 := (HB.out.cell (World.block_lt_of_cell? w _ hx101_0)).trans hx101_0; replace hx101_1 := (HB.out.cell (World.block_lt_of_cell? w _ hx101_1)).trans hx101_1; replace p101 := eq_true p101; replace q101 := eq_true q101; have p102 : 0 ≤ ((ji4) : Int) := ug (by first | (with_reducible assumption) | assumption); have q102 : (ji4) < (l0.length : Int) := ug (by first | (with_reducible assumption) | assumption); obtain ⟨ad102, e102, hx102_0, hx102_1⟩ := at_T33 HR0.out (ji4) p102 q102; have hw102_1 := hx102_1; have hw102_0 := hx102_0; obtain rfl : ad101 = ad102 := (by injection e102); replace hx102_0 := (HB.out.cell (World.block_lt_of_cell? w _ hx102_0)).trans hx102_0; replace hx102_1 := (HB.out.cell (World.block_lt_of_cell? w _ hx102_1)).trans hx102_1; replace p102 := eq_true p102; replace q102 := eq_true q102; refine start_ (n := 10) (S := fun w' => w'.cell? (ad101.add ((x3_1).toNat * 2)) = some (.int .u64 ((rd_T33 l0 x3_1).f0)) ∧ w'.cell? ⟨(ad101.add ((x3_1).toNat * 2)).block, (ad101.add ((x3_1).toNat * 2)).off + 1, none⟩ = some (.int .i64 ((rd_T33 l0 x3_1).f1)) ∧ w'.cell? (ad101.add (((ji4)).toNat * 2)) = some (.int .u64 ((rd_T33 l0 (ji4)).f0)) ∧ w'.cell? ⟨(ad101.add (((ji4)).toNat * 2)).block, (ad101.add (((ji4)).toNat * 2)).off + 1, none⟩ = some (.int .i64 ((rd_T33 l0 (ji4)).f1))) (ds := []) #[X, X, X, X, X, X, X, X, X, X] (by kernel_rfl) rfl rfl ⟨((HB.out.cell (World.block_lt_of_cell? w _ hw101_0)).trans hw101_0), ((HB.out.cell (World.block_lt_of_cell? w _ hw101_1)).trans hw101_1), ((HB.out.cell (World.block_lt_of_cell? w _ hw102_0)).trans hw102_0), ((HB.out.cell (World.block_lt_of_cell? w _ hw102_1)).trans hw102_1)⟩ (fun hHeld => ?_); refine xr vergerref5_Sorted.tab4 vergerref5_Sorted.bits4 (fun HT_ HW_ => ?_); generalize wr.drew = w11 at HB hx101_0 hx101_1 hx102_0 hx102_1 hHeld ⊢; refine ur (i := 0) (N := some 10) (v := ?_) (a' := ?_) #[Y, X, X, X, X, X, X, X, X, X] rfl rfl (uj HT_.out (by kernel_rfl)) (fun _ _ _ h => h) (Or.inl ⟨by rfl, ?_⟩) ?_ ?_; rotate_left
             · intro w'; go_simp; (with_reducible rfl)
             rotate_left
             · simp only [Act.put, ua, ub, uc, uh, ui]; rfl
             refine ur (i := 1) (N := some 11) (v := ?_) (a' := ?_) #[Y, Y, X, X, X, X, X, X, X, X] rfl rfl (uj HT_.out (by kernel_rfl)) (fun _ _ _ h => h) (Or.inl ⟨by rfl, ?_⟩) ?_ ?_; rotate_left
             · intro w'; go_simp; (with_reducible rfl)
             rotate_left
             · simp only [Act.put, ua, ub, uc, uh, ui]; rfl
             refine ur (i := 2) (N := some 12) (v := ?_) (a' := ?_) #[Y, Y, Y, X, X, X, X, X, X, X] rfl rfl (uj HT_.out (by kernel_rfl)) (fun _ _ _ h => h) (Or.inl ⟨by rfl, ?_⟩) ?_ ?_; rotate_left
             · intro w'; go_simp; (with_reducible rfl)
             rotate_left
             · simp only [Act.put, ua, ub, uc, uh, ui]; rfl
             refine ur (i := 4) (N := some 14) (v := ?_) (a' := ?_) #[Y, Y, Y, X, Y, X, X, X, X, X] rfl rfl (uj HT_.out (by kernel_rfl)) (fun _ _ _ h => h) (Or.inl ⟨by rfl, ?_⟩) ?_ ?_; rotate_left
             · intro w'; go_simp; (with_reducible rfl)
             rotate_left
             · simp only [Act.put, ua, ub, uc, uh, ui]; rfl
             refine ur (i := 5) (N := some 15) (v := ?_) (a' := ?_) #[Y, Y, Y, X, Y, Y, X, X, X, X] rfl rfl (uj HT_.out (by kernel_rfl)) (fun _ _ _ h => h) (Or.inl ⟨by rfl, ?_⟩) ?_ ?_; rotate_left
             · intro w'; go_simp; (with_reducible rfl)
             rotate_left
             · simp only [Act.put, ua, ub, uc, uh, ui]; rfl
             refine ur (i := 6) (N := some 16) (v := ?_) (a' := ?_) #[Y, Y, Y, X, Y, Y, Y, X, X, X] rfl rfl (uj HT_.out (by kernel_rfl)) (fun _ _ _ h => h) (Or.inl ⟨by rfl, ?_⟩) ?_ ?_; rotate_left
             · intro w'; go_simp; (with_reducible rfl)
             rotate_left
             · simp only [Act.put, ua, ub, uc, uh, ui]; rfl
             refine ur (i := 7) (N := some 17) (v := ?_) (a' := ?_) #[Y, Y, Y, X, Y, Y, Y, Y, X, X] rfl rfl (uj HT_.out (by kernel_rfl)) (fun _ _ _ h => h) (Or.inl ⟨by rfl, ?_⟩) ?_ ?_; rotate_left
             · intro w'; go_simp; (with_reducible rfl)
             rotate_left
             · simp only [Act.put, ua, ub, uc, uh, ui]; rfl
             refine take_ (i := 3) (N := some 13) (v := ?_) (a' := ?_) #[Y, Y, Y, Y, Y, Y, Y, Y, X, X] rfl rfl (xh HT_.out HW_.out (by kernel_rfl)) (fun _ _ _ h => h) (Or.inl ⟨by rfl, ?_⟩) hHeld ?_ ?_; rotate_left
             · rintro w' ⟨s0, s1, s2, s3⟩; go_simp; (with_reducible rfl)
             rotate_left
             · simp only [Act.put, ua, ub, uc, uh, ui]; rfl
             refine take_ (i := 8) (N := some 18) (v := ?_) (a' := ?_) #[Y, Y, Y, Y, Y, Y, Y, Y, Y, X] rfl rfl (xh HT_.out HW_.out (by kernel_rfl)) (fun _ _ _ h => h) (Or.inl ⟨by rfl, ?_⟩) hHeld ?_ ?_; rotate_left
             · rintro w' ⟨s0, s1, s2, s3⟩; go_simp; (with_reducible rfl)
             rotate_left
             · simp only [Act.put, ua, ub, uc, uh, ui]; rfl
             refine one_ (i := 9) (N := some 19) #[Y, Y, Y, Y, Y, Y, Y, Y, Y, Y] rfl rfl (xo HT_.out (by kernel_rfl)) (by decide) (fun K hK => ?_); refine goes_ Try.func36 (by kernel_rfl) rfl #[.agg #[.int .u64 ((rd_T33 l0 x3_1).f0), .int .i64 ((rd_T33 l0 x3_1).f1)], .agg #[.int .u64 ((rd_T33 l0 (ji4)).f0), .int .i64 ((rd_T33 l0 (ji4)).f1)]] (by rfl) rfl rfl (by (try simp only [um, ut, uy]); first | done | (simp only [hji4]; rfl) | rfl | (simp only [uk, ul]; rfl)) ?_; (with_reducible refine (vergerref5_Less.calls ((rd_T33 l0 x3_1).f0) ((rd_T33 l0 x3_1).f1) ((rd_T33 l0 (ji4)).f0) ((rd_T33 l0 (ji4)).f1) false _ A7.out).mono ?_); rintro e w12 ⟨rfl, hb⟩; refine ⟨_, rfl, ?_⟩; have n0_ := Aside0.mk (vl (by repeat (first | (with_reducible first | exact HB.out | apply uf | apply ud | apply ue) | exact HB.out)) hb); clear HB; have HB := n0_; clear n0_; (try clear hb); (try clear hb2); (try clear hk); (try clear hi); refine hK.out _ _ ⟨((HB.out.cell (World.block_lt_of_cell? w _ hw101_0)).trans hw101_0), ((HB.out.cell (World.block_lt_of_cell? w _ hw101_1)).trans hw101_1), ((HB.out.cell (World.block_lt_of_cell? w _ hw102_0)).trans hw102_0), ((HB.out.cell (World.block_lt_of_cell? w _ hw102_1)).trans hw102_1)⟩ (fun hHeld => ?_); clear hK K; refine xt (a' := ?_) ?_ ?_; rotate_left
             · show Act.put _ (some 19) _ = _
               simp only [Act.put, ua, ub, uc, uh, ui]; rfl
             refine done_ (done_of HT_.out (by kernel_rfl)) ?_
             try go_wp2
             go_roundg k1
             case measure => have := HK1.out; omega
             case rel => exact ⟨(wrap64 (x3_1 + 1)), (by first | rfl | (simp; done) | (simp [*]; done)), H', ⟨by have := HK1.out; omega⟩, ⟨by repeat (first | (with_reducible first | exact HB.out | apply uf | apply ud | apply ue) | exact HB.out)⟩⟩
         · rw [if_neg c6] at H; exact absurd H (by simp)
       · rw [if_neg c5] at H; exact absurd H (by simp)
     · rw [if_neg c3] at H; exact absurd H (by simp)
   · rw [if_neg c2] at H; have c2b0 : decide (x3_1 < (l0.length : Int)) = false := decide_eq_false c2; clear c2; obtain rfl := Option.some.inj H
     go_wp2
     go_ret
     exact ⟨by first | rfl | (simp [errW_none, errW_some] <;> rfl) | (simp [*, errW_none, errW_some] <;> rfl), by repeat (first | (with_reducible first | exact HB.out | apply uf | apply ud | apply ue) | exact HB.out)⟩
def vergerref5_Merge.f (k : Nat) (l0 : List (S33)) (l1 : List (S33)) : Option ((List (S33))) := (some (([] : List (S33)) : List (S33))).bind fun y101 => (if y101.length + l0.length < 8796093022208 then ((some (y101 ++ l0 : List (S33))).bind fun y104 => (if y104.length + l1.length < 8796093022208 then ((vergerref5_Sort.f k (y104 ++ l1)).bind fun t110 => (some t110)) else (none))) else (none))
set_option maxHeartbeats 8000000 in
set_option maxRecDepth 100000 in
theorem vergerref5_Merge.calls (k : Nat) (A0 : Option Addr) (c0 : Nat) (l0 : List (S33)) (A1 : Option Addr) (c1 : Nat) (l1 : List (S33)) (r : List (S33)) (w : World) (hr0 : Kd.C k33 w A0 l0.length l0) (hc0 : l0.length ≤ c0) (hr1 : Kd.C k33 w A1 l1.length l1) (hc1 : l1.length ≤ c1) (h : vergerref5_Merge.f k l0 l1 = some r) :
 Calls Try.prog 37 #[.slice A0 l0.length c0, .slice A1 l1.length c1] w fun e w' => ∃ v0_ : Value, e = .returned (v0_) ∧ Kd.R k33 33 w' w.heap.size (fun _ => True) v0_ r ∧ Below w.heap.size w w' := by
 have HR0 := Aside0.mk hr0; have HC0 := Aside0.mk hc0; clear hr0 hc0; have HR1 := Aside0.mk hr1; have HC1 := Aside0.mk hc1; clear hr1 hc1; have HB := Aside0.mk (Below.refl w.heap.size w); have H : ((some (([] : List (S33)) : List (S33))).bind fun y101 => (if y101.length + l0.length < 8796093022208 then ((some (y101 ++ l0 : List (S33))).bind fun y104 => (if y104.length + l1.length < 8796093022208 then ((vergerref5_Sort.f k (y104 ++ l1)).bind fun t110 => (some t110)) else (none))) else (none))) = some r := h; clear h; obtain ⟨y101, hy101⟩ : ∃ y_ : List (S33), y_ = (([] : List (S33))) := ⟨_, rfl⟩; (replace H : (if y101.length + l0.length < 8796093022208 then ((some (y101 ++ l0 : List (S33))).bind fun y104 => (if y104.length + l1.length < 8796093022208 then ((vergerref5_Sort.f k (y104 ++ l1)).bind fun t110 => (some t110)) else (none))) else (none)) = some r := by first | (rw [hy101]; with_reducible exact H) | (have H2_ := (uz _ _).symm.trans H; rw [hy101]; with_reducible exact H2_) | (have H2_ := (uz _ _).symm.trans H; with_reducible exact H2_) | with_reducible exact H | (rw [hy101]; exact H) | exact H); have Ny101 := Aside0.mk hy101; clear hy101
 by_cases c3 : y101.length + l0.length < 8796093022208
 · rw [if_pos c3] at H; have LMc3 := Aside0.mk c3; clear c3; obtain ⟨y104, hy104⟩ : ∃ y_ : List (S33), y_ = (y101 ++ l0) := ⟨_, rfl⟩; (replace H : (if y104.length + l1.length < 8796093022208 then ((vergerref5_Sort.f k (y104 ++ l1)).bind fun t110 => (some t110)) else (none)) = some r := by first | (rw [hy104]; with_reducible exact H) | (have H2_ := (uz _ _).symm.trans H; rw [hy104]; with_reducible exact H2_) | (have H2_ := (uz _ _).symm.trans H; with_reducible exact H2_) | with_reducible exact H | (rw [hy104]; exact H) | exact H); have Ny104 := Aside0.mk hy104; clear hy104
   by_cases c4 : y104.length + l1.length < 8796093022208
   · rw [if_pos c4] at H; have LMc4 := Aside0.mk c4; clear c4; obtain ⟨y107, hy107⟩ : ∃ y_ : List (S33), y_ = (y104 ++ l1) := ⟨_, rfl⟩; (replace H : ((vergerref5_Sort.f k y107).bind fun t110 => (some t110)) = some r := by first | (rw [hy107]; with_reducible exact H) | (have H2_ := (uz _ _).symm.trans H; rw [hy107]; with_reducible exact H2_) | (have H2_ := (uz _ _).symm.trans H; with_reducible exact H2_) | with_reducible exact H | (rw [hy107]; exact H) | exact H); have Ny107 := Aside0.mk hy107; clear hy107; replace H := Option.bind_eq_some_iff.mp H; obtain ⟨t110, A50, H⟩ := H; replace H : (some t110) = some r := H; have A5 := Aside0.mk A50; clear A50; obtain rfl := Option.some.inj H; go_enter Try.func37, Try.ntmps37
     go_wp2_with (first | ((with_reducible refine xq (N := 5) rfl ?_); refine Kd.R_lit k33 _ 33 ?hg (N := 5) ?hd (xs := ([] : List (S33))) (inner := []) (ok := fun _ => True) (okp := fun _ => True) ?hr ?hp (fun _ hk => hk) trivial (Below.refl _ _) (vr _) (by simp) ?_; (case hd => rfl); (case hg => rfl); (case hr => first | (go_simp; done) | (go_simp; rfl)); (case hp => exact (Reps.none _ _)); intro v102 w6 ho7 hb hg_ hnew_; clear hg_ hnew_; (first | rw [← Ny101.out] at ho7 | (simp only [Int.reduceToNat] at ho7; rw [← Ny101.out] at ho7)); have n0_ := Aside0.mk (xl ho7 (vk (by repeat (first | (with_reducible first | exact HB.out | apply uf | apply ud | apply ue) | exact HB.out)))); have n1_ := Aside0.mk (vl (by repeat (first | (with_reducible first | exact HB.out | apply uf | apply ud | apply ue) | exact HB.out)) hb); clear HB; have HO103 := n0_; have HB := n1_; clear n0_ n1_; clear hb ho7) | ((with_reducible refine gate_builtin (b := .append) (xs := #[.tmp 5, .tmp 6]) rfl ?_); at_builtin; refine Kd.R_append_rows k33 (w0 := w) w.heap.size rfl (.tmp 5) (.tmp 6) 44 33 (.agg #[(.int .u64 0), (.int .i64 0)]) 16 rfl Try.underlying44 info33 rfl (by decide) (by omega) v102 y101 l0 _ _ _ (fun _ => True) (fun _ => False) rfl rfl ?aO ?aR (fun _ _ h => h) (fun _ h => h.elim) ?aF ?aB ?aS ?aL ?_; (case aR => repeat (first | exact (Kd.C_below HR0.out HB.out) | (with_reducible refine vq ?_ _) | (with_reducible refine vp ?_ _) | (with_reducible refine vt ?_))); (case aB => exact (by repeat (first | (with_reducible first | exact HB.out | apply uf | apply ud | apply ue) | exact HB.out))); (case aF => exact (fun _ _ => trivial)); (case aO => exact (by (with_reducible repeat (first | apply uq | apply uo | apply us)); exact HO103.out)); (case aS => exact (vk (by repeat (first | (with_reducible first | exact HB.out | apply uf | apply ud | apply ue) | exact HB.out)))); (case aL => have := LMc3.out; omega); intro v105 w8 ho hb hg hat; rw [← Ny104.out] at ho; have n0_ := Aside0.mk (hb); have n1_ := Aside0.mk (ho); clear HB; clear HO103; have HB := n0_; have HO106 := n1_; clear n0_ n1_; clear ho hb hg hat) | ((with_reducible refine gate_builtin (b := .append) (xs := #[.tmp 7, .tmp 8]) rfl ?_); at_builtin; refine Kd.R_append_rows k33 (w0 := w) w.heap.size rfl (.tmp 7) (.tmp 8) 44 33 (.agg #[(.int .u64 0), (.int .i64 0)]) 16 rfl Try.underlying44 info33 rfl (by decide) (by omega) v105 y104 l1 _ _ _ (fun _ => True) (fun _ => False) rfl rfl ?aO ?aR (fun _ _ h => h) (fun _ h => h.elim) ?aF ?aB ?aS ?aL ?_; (case aR => repeat (first | exact (Kd.C_below HR1.out HB.out) | (with_reducible refine vq ?_ _) | (with_reducible refine vp ?_ _) | (with_reducible refine vt ?_))); (case aB => exact (by repeat (first | (with_reducible first | exact HB.out | apply uf | apply ud | apply ue) | exact HB.out))); (case aF => exact (fun _ _ => trivial)); (case aO => exact (by (with_reducible repeat (first | apply uq | apply uo | apply us)); exact HO106.out)); (case aS => exact (vk (by repeat (first | (with_reducible first | exact HB.out | apply uf | apply ud | apply ue) | exact HB.out)))); (case aL => have := LMc4.out; omega); intro v108 w9 ho hb hg hat; rw [← Ny107.out] at ho; have n0_ := Aside0.mk (hb); have n1_ := Aside0.mk (ho); clear HB; clear HO106; have HB := n0_; have HO109 := n1_; clear n0_ n1_; clear ho hb hg hat; obtain ⟨Ao10, co10, eo10⟩ := Kd.R_slice HO109.out; subst eo10) | ((with_reducible refine vv (f := 19) rfl ?_); refine xu (some 10) rfl rfl Try.func19 (by kernel_rfl) rfl #[.slice Ao10 y107.length co10] rfl (by (try simp only [um, ut, uy]); first | done | rfl | (simp only [uk, ul]; rfl)) ?_; (with_reducible refine (vergerref5_Sort.calls k _ _ y107 t110 _ ?side1 ?side2 A5.out).mono ?_); (case side1 => repeat (first | exact (xf HO109.out).2.2 | (with_reducible refine vq ?_ _) | (with_reducible refine vp ?_ _) | (with_reducible refine vt ?_))); (case side2 => exact (xf HO109.out).2.1); rintro e w11 ⟨v111, rfl, ho0, hb⟩; refine ⟨_, rfl, ?_⟩; have n0_ := Aside0.mk (xn (by (with_reducible repeat (first | apply uq | apply uo | apply us)); exact HO109.out) (vx ho0) hb); have n1_ := Aside0.mk (xl (Kd.R_new' ho0 (xp (by (with_reducible repeat (first | apply uq | apply uo | apply us)); exact HO109.out))) (vk (by repeat (first | (with_reducible first | exact HB.out | apply uf | apply ud | apply ue) | exact HB.out)))); have n2_ := Aside0.mk (vl (by repeat (first | (with_reducible first | exact HB.out | apply uf | apply ud | apply ue) | exact HB.out)) hb); clear HO109; clear HB; have HO109 := n0_; have HO112 := n1_; have HB := n2_; clear n0_ n1_ n2_; (try clear hb); (try clear hb2); (try clear hk); (try clear hi); (try clear ho0)))
     go_ret
     exact ⟨_, by first | rfl | (simp [errW_none, errW_some] <;> rfl) | (simp [*, errW_none, errW_some] <;> rfl), by (with_reducible repeat (first | apply uq | apply uo | apply us)); exact xj HO112.out (fun _ hk => trivial), by repeat (first | (with_reducible first | exact HB.out | apply uf | apply ud | apply ue) | exact HB.out)⟩
   · rw [if_neg c4] at H; exact absurd H (by simp)
 · rw [if_neg c3] at H; exact absurd H (by simp)
def vergerref5_Place.l0 : Nat → List (S33) → Int → Int → Int → Int → Option (Int)
  | 0, _, _, _, _, _ => none
  | k + 1, x0, x5, x6, x102000, x102001 => if x6 < (x0.length : Int) then (if 0 ≤ x6 then ((vergerref5_Less.f ((rd_T33 x0 x6).f0) ((rd_T33 x0 x6).f1) x102000 x102001).bind fun t103 => (if t103 = true then (vergerref5_Place.l0 k x0 (wrap64 (x5 + 1)) (wrap64 (x6 + 1)) x102000 x102001) else (vergerref5_Place.l0 k x0 x5 (wrap64 (x6 + 1)) x102000 x102001))) else (none)) else (some x5)
def vergerref5_Place.f (k : Nat) (l0 : List (S33)) (a1_0 : Int) (a1_1 : Int) : Option (Int) := vergerref5_Place.l0 k l0 0 0 a1_0 a1_1
set_option maxHeartbeats 8000000 in
set_option maxRecDepth 100000 in
theorem vergerref5_Place.calls (k : Nat) (A0 : Option Addr) (c0 : Nat) (l0 : List (S33)) (a1_0 : Int) (a1_1 : Int) (r : Int) (w : World) (hr0 : Kd.C k33 w A0 l0.length l0) (hc0 : l0.length ≤ c0) (h : vergerref5_Place.f k l0 a1_0 a1_1 = some r) :
 Calls Try.prog 39 #[.slice A0 l0.length c0, .agg #[.int .u64 a1_0, .int .i64 a1_1]] w fun e w' => e = .returned (.int .i64 r) ∧ Below w.heap.size w w' := by
 have hu33 := Try.underlying33; have HR0 := Aside0.mk hr0; have HC0 := Aside0.mk hc0; clear hr0 hc0; have HB := Aside0.mk (Below.refl w.heap.size w); have H : (vergerref5_Place.l0 k l0 0 0 a1_0 a1_1) = some r := h; clear h; have H' := Aside0.mk H; clear H; go_enter Try.func39, Try.ntmps39
 go_wp2_with (first | ((with_reducible refine xq (N := 3) rfl ?_); refine box_event ?hg (N := 3) ?hd (cs := #[.int .u64 a1_0, .int .i64 a1_1]) (t := 33) ?hr ?_; (case hd => rfl); (case hg => rfl); (case hr => first | (go_simp; done) | (go_simp; rfl)); intro gb101 hg w3 hbox hb; have n0_ := Aside0.mk (vl (by repeat (first | (with_reducible first | exact HB.out | apply uf | apply ud | apply ue) | exact HB.out)) hb); have n1_ := Aside0.mk (hbox); have n2_ := Aside0.mk ((by rw [hg]; exact (vk (by repeat (first | (with_reducible first | exact HB.out | apply uf | apply ud | apply ue) | exact HB.out))) : w.heap.size ≤ gb101)); have n3_ := Aside0.mk ((by rw [hg]; exact (vk (by repeat (first | (with_reducible first | exact HB.out | apply uf | apply ud | apply ue) | exact HB.out))) : w.heap.size ≤ gb101)); clear HB; have HB := n0_; have BK101 := n1_; have GW101 := n2_; have GE101 := n3_; clear n0_ n1_ n2_ n3_; clear hb hbox hg))
 go_loopg [5, 6] k (fun kq v5 v6 w' => ∃ (x5_1 : Int) (x6_1 : Int), v5 = .int .i64 x5_1 ∧ v6 = .int .i64 x6_1 ∧ Aside0 (vergerref5_Place.l0 kq l0 x5_1 x6_1 a1_0 a1_1 = some r) ∧ Aside0 (kq ≤ k) ∧ Aside0 (w'.heap[gb101]? = some (.cells #[.int .u64 a1_0, .int .i64 a1_1] 33 (0, 0))) ∧ Aside0 (Below w.heap.size w w'))
 case atStart => exact ⟨(0), (0), (by first | rfl | (simp; done) | (simp [*]; done)), (by first | rfl | (simp; done) | (simp [*]; done)), H', ⟨vr _⟩, ⟨by (with_reducible repeat (first | refine uu ?_ _ | refine ux ?_ | refine uv ?_ _)); exact BK101.out⟩, ⟨by repeat (first | (with_reducible first | exact HB.out | apply uf | apply ud | apply ue | refine un ?_ GE101.out) | exact HB.out)⟩⟩
 case round =>
  clear H'
  try clear p2
  try clear c3
  obtain ⟨x5_1, x6_1, rfl, rfl, HA, HK1, BK101, HB⟩ := hrel
  cases gk with
  | zero => exact absurd HA.out (by simp [vergerref5_Place.l0])
  | succ k1 =>
   have H := HA.out; clear HA; simp only [vergerref5_Place.l0] at H
   by_cases c4 : x6_1 < (l0.length : Int)
   · rw [if_pos c4] at H; have c4b0 : decide (x6_1 < (l0.length : Int)) = true := decide_eq_true c4; clear c4
     by_cases c5 : 0 ≤ x6_1
     · rw [if_pos c5] at H; have c5b0 : decide (0 ≤ x6_1) = true := decide_eq_true c5; clear c5; replace H := Option.bind_eq_some_iff.mp H; obtain ⟨t103, A60, H⟩ := H; replace H : (if t103 = true then (vergerref5_Place.l0 k1 l0 (wrap64 (x5_1 + 1)) (wrap64 (x6_1 + 1)) a1_0 a1_1) else (vergerref5_Place.l0 k1 l0 x5_1 (wrap64 (x6_1 + 1)) a1_0 a1_1)) = some r := H; have A6 := Aside0.mk A60; clear A60
       by_cases c7 : t103 = true
       · subst c7; (have H1 : (vergerref5_Place.l0 k1 l0 (wrap64 (x5_1 + 1)) (wrap64 (x6_1 + 1)) a1_0 a1_1) = some r := by rw [if_pos rfl] at H; exact H); clear H; have H := H1; clear H1; have H' := Aside0.mk H; clear H
         try go_wp2
         have n0_ := Aside0.mk (ux BK101.out); have n1_ := Aside0.mk (ue HB.out); clear BK101 HB; have BK101 := n0_; have HB := n1_; clear n0_ n1_; have p102 : 0 ≤ (x6_1 : Int) := ug (by first | (with_reducible assumption) | assumption); have q102 : x6_1 < (l0.length : Int) := ug (by first | (with_reducible assumption) | assumption); obtain ⟨ad102, e102, hx102_0, hx102_1⟩ := at_T33 HR0.out x6_1 p102 q102; have hw102_1 := hx102_1; have hw102_0 := hx102_0
         cases e102
         replace hx102_0 := (HB.out.cell (World.block_lt_of_cell? w _ hx102_0)).trans hx102_0; replace hx102_1 := (HB.out.cell (World.block_lt_of_cell? w _ hx102_1)).trans hx102_1; replace p102 := eq_true p102; replace q102 := eq_true q102; refine start_ (n := 6) (S := fun w' => w'.cell? ⟨gb101, 0, none⟩ = some (.int .u64 a1_0) ∧ w'.cell? ⟨gb101, 1, none⟩ = some (.int .i64 a1_1) ∧ w'.cell? (ad102.add ((x6_1).toNat * 2)) = some (.int .u64 ((rd_T33 l0 x6_1).f0)) ∧ w'.cell? ⟨(ad102.add ((x6_1).toNat * 2)).block, (ad102.add ((x6_1).toNat * 2)).off + 1, none⟩ = some (.int .i64 ((rd_T33 l0 x6_1).f1))) (ds := []) #[X, X, X, X, X, X] (by kernel_rfl) rfl rfl ⟨(uw BK101.out 0).trans rfl, (uw BK101.out 1).trans rfl, ((HB.out.cell (World.block_lt_of_cell? w _ hw102_0)).trans hw102_0), ((HB.out.cell (World.block_lt_of_cell? w _ hw102_1)).trans hw102_1)⟩ (fun hHeld => ?_); generalize wr.drew = w8 at BK101 HB hx102_0 hx102_1 hHeld ⊢; refine ur (i := 0) (N := some 13) (v := ?_) (a' := ?_) #[Y, X, X, X, X, X] rfl rfl (by kernel_rfl) (fun _ _ _ h => h) (Or.inl ⟨by rfl, ?_⟩) ?_ ?_; rotate_left
         · intro w'; go_simp; (with_reducible rfl)
         rotate_left
         · simp only [Act.put, ua, ub, uc, uh, ui]; rfl
         refine ur (i := 1) (N := some 14) (v := ?_) (a' := ?_) #[Y, Y, X, X, X, X] rfl rfl (by kernel_rfl) (fun _ _ _ h => h) (Or.inl ⟨by rfl, ?_⟩) ?_ ?_; rotate_left
         · intro w'; go_simp; (with_reducible rfl)
         rotate_left
         · simp only [Act.put, ua, ub, uc, uh, ui]; rfl
         refine ur (i := 2) (N := some 15) (v := ?_) (a' := ?_) #[Y, Y, Y, X, X, X] rfl rfl (by kernel_rfl) (fun _ _ _ h => h) (Or.inl ⟨by rfl, ?_⟩) ?_ ?_; rotate_left
         · intro w'; go_simp; (with_reducible rfl)
         rotate_left
         · simp only [Act.put, ua, ub, uc, uh, ui]; rfl
         refine take_ (i := 3) (N := some 16) (v := ?_) (a' := ?_) #[Y, Y, Y, Y, X, X] rfl rfl (by kernel_rfl) (fun _ _ _ h => h) (Or.inl ⟨by rfl, ?_⟩) hHeld ?_ ?_; rotate_left
         · rintro w' ⟨s0, s1, s2, s3⟩; go_simp; (with_reducible rfl)
         rotate_left
         · simp only [Act.put, ua, ub, uc, uh, ui]; rfl
         refine take_ (i := 4) (N := some 17) (v := ?_) (a' := ?_) #[Y, Y, Y, Y, Y, X] rfl rfl (by kernel_rfl) (fun _ _ _ h => h) (Or.inl ⟨by rfl, ?_⟩) hHeld ?_ ?_; rotate_left
         · rintro w' ⟨s0, s1, s2, s3⟩; go_simp; (with_reducible rfl)
         rotate_left
         · simp only [Act.put, ua, ub, uc, uh, ui]; rfl
         refine one_ (i := 5) (N := some 18) #[Y, Y, Y, Y, Y, Y] rfl rfl (by kernel_rfl) (by decide) (fun K hK => ?_); refine goes_ Try.func36 (by kernel_rfl) rfl #[.agg #[.int .u64 ((rd_T33 l0 x6_1).f0), .int .i64 ((rd_T33 l0 x6_1).f1)], .agg #[.int .u64 a1_0, .int .i64 a1_1]] (by rfl) rfl rfl (by (try simp only [um, ut, uy]); first | done | rfl | (simp only [uk, ul]; rfl)) ?_; (with_reducible refine (vergerref5_Less.calls ((rd_T33 l0 x6_1).f0) ((rd_T33 l0 x6_1).f1) a1_0 a1_1 true _ A6.out).mono ?_); rintro e w9 ⟨rfl, hb⟩; refine ⟨_, rfl, ?_⟩; have n0_ := Aside0.mk (vw (g := gb101) (o := .cells #[.int .u64 a1_0, .int .i64 a1_1] 33 (0, 0)) (by (with_reducible repeat (first | refine uu ?_ _ | refine ux ?_ | refine uv ?_ _)); exact BK101.out) hb); have n1_ := Aside0.mk (vl (by repeat (first | (with_reducible first | exact HB.out | apply uf | apply ud | apply ue | refine un ?_ GE101.out) | exact HB.out)) hb); clear BK101 HB; have BK101 := n0_; have HB := n1_; clear n0_ n1_; (try clear hb); (try clear hb2); (try clear hk); (try clear hi); refine hK.out _ _ ⟨(uw BK101.out 0).trans rfl, (uw BK101.out 1).trans rfl, ((HB.out.cell (World.block_lt_of_cell? w _ hw102_0)).trans hw102_0), ((HB.out.cell (World.block_lt_of_cell? w _ hw102_1)).trans hw102_1)⟩ (fun hHeld => ?_); clear hK K; refine xt (a' := ?_) ?_ ?_; rotate_left
         · show Act.put _ (some 18) _ = _
           simp only [Act.put, ua, ub, uc, uh, ui]; rfl
         refine done_ (by kernel_rfl) ?_
         try go_wp2
         go_roundg k1
         case measure => have := HK1.out; omega
         case rel => exact ⟨(wrap64 (x5_1 + 1)), (wrap64 (x6_1 + 1)), (by first | rfl | (simp; done) | (simp [*]; done)), (by first | rfl | (simp; done) | (simp [*]; done)), H', ⟨by have := HK1.out; omega⟩, ⟨by (with_reducible repeat (first | refine uu ?_ _ | refine ux ?_ | refine uv ?_ _)); exact BK101.out⟩, ⟨by repeat (first | (with_reducible first | exact HB.out | apply uf | apply ud | apply ue | refine un ?_ GE101.out) | exact HB.out)⟩⟩
       · replace c7 := Bool.eq_false_iff.mpr c7; subst c7; (have H1 : (vergerref5_Place.l0 k1 l0 x5_1 (wrap64 (x6_1 + 1)) a1_0 a1_1) = some r := by rw [if_neg (show ¬ (false = true) by decide)] at H; exact H); clear H; have H := H1; clear H1; have H' := Aside0.mk H; clear H
         try go_wp2
         have n0_ := Aside0.mk (ux BK101.out); have n1_ := Aside0.mk (ue HB.out); clear BK101 HB; have BK101 := n0_; have HB := n1_; clear n0_ n1_; have p102 : 0 ≤ (x6_1 : Int) := ug (by first | (with_reducible assumption) | assumption); have q102 : x6_1 < (l0.length : Int) := ug (by first | (with_reducible assumption) | assumption); obtain ⟨ad102, e102, hx102_0, hx102_1⟩ := at_T33 HR0.out x6_1 p102 q102; have hw102_1 := hx102_1; have hw102_0 := hx102_0
         cases e102
         replace hx102_0 := (HB.out.cell (World.block_lt_of_cell? w _ hx102_0)).trans hx102_0; replace hx102_1 := (HB.out.cell (World.block_lt_of_cell? w _ hx102_1)).trans hx102_1; replace p102 := eq_true p102; replace q102 := eq_true q102; refine start_ (n := 6) (S := fun w' => w'.cell? ⟨gb101, 0, none⟩ = some (.int .u64 a1_0) ∧ w'.cell? ⟨gb101, 1, none⟩ = some (.int .i64 a1_1) ∧ w'.cell? (ad102.add ((x6_1).toNat * 2)) = some (.int .u64 ((rd_T33 l0 x6_1).f0)) ∧ w'.cell? ⟨(ad102.add ((x6_1).toNat * 2)).block, (ad102.add ((x6_1).toNat * 2)).off + 1, none⟩ = some (.int .i64 ((rd_T33 l0 x6_1).f1))) (ds := []) #[X, X, X, X, X, X] (by kernel_rfl) rfl rfl ⟨(uw BK101.out 0).trans rfl, (uw BK101.out 1).trans rfl, ((HB.out.cell (World.block_lt_of_cell? w _ hw102_0)).trans hw102_0), ((HB.out.cell (World.block_lt_of_cell? w _ hw102_1)).trans hw102_1)⟩ (fun hHeld => ?_); generalize wr.drew = w10 at BK101 HB hx102_0 hx102_1 hHeld ⊢; refine ur (i := 0) (N := some 13) (v := ?_) (a' := ?_) #[Y, X, X, X, X, X] rfl rfl (by kernel_rfl) (fun _ _ _ h => h) (Or.inl ⟨by rfl, ?_⟩) ?_ ?_; rotate_left
         · intro w'; go_simp; (with_reducible rfl)
         rotate_left
         · simp only [Act.put, ua, ub, uc, uh, ui]; rfl
         refine ur (i := 1) (N := some 14) (v := ?_) (a' := ?_) #[Y, Y, X, X, X, X] rfl rfl (by kernel_rfl) (fun _ _ _ h => h) (Or.inl ⟨by rfl, ?_⟩) ?_ ?_; rotate_left
         · intro w'; go_simp; (with_reducible rfl)
         rotate_left
         · simp only [Act.put, ua, ub, uc, uh, ui]; rfl
         refine ur (i := 2) (N := some 15) (v := ?_) (a' := ?_) #[Y, Y, Y, X, X, X] rfl rfl (by kernel_rfl) (fun _ _ _ h => h) (Or.inl ⟨by rfl, ?_⟩) ?_ ?_; rotate_left
         · intro w'; go_simp; (with_reducible rfl)
         rotate_left
         · simp only [Act.put, ua, ub, uc, uh, ui]; rfl
         refine take_ (i := 3) (N := some 16) (v := ?_) (a' := ?_) #[Y, Y, Y, Y, X, X] rfl rfl (by kernel_rfl) (fun _ _ _ h => h) (Or.inl ⟨by rfl, ?_⟩) hHeld ?_ ?_; rotate_left
         · rintro w' ⟨s0, s1, s2, s3⟩; go_simp; (with_reducible rfl)
         rotate_left
         · simp only [Act.put, ua, ub, uc, uh, ui]; rfl
         refine take_ (i := 4) (N := some 17) (v := ?_) (a' := ?_) #[Y, Y, Y, Y, Y, X] rfl rfl (by kernel_rfl) (fun _ _ _ h => h) (Or.inl ⟨by rfl, ?_⟩) hHeld ?_ ?_; rotate_left
         · rintro w' ⟨s0, s1, s2, s3⟩; go_simp; (with_reducible rfl)
         rotate_left
         · simp only [Act.put, ua, ub, uc, uh, ui]; rfl
         refine one_ (i := 5) (N := some 18) #[Y, Y, Y, Y, Y, Y] rfl rfl (by kernel_rfl) (by decide) (fun K hK => ?_); refine goes_ Try.func36 (by kernel_rfl) rfl #[.agg #[.int .u64 ((rd_T33 l0 x6_1).f0), .int .i64 ((rd_T33 l0 x6_1).f1)], .agg #[.int .u64 a1_0, .int .i64 a1_1]] (by rfl) rfl rfl (by (try simp only [um, ut, uy]); first | done | rfl | (simp only [uk, ul]; rfl)) ?_; (with_reducible refine (vergerref5_Less.calls ((rd_T33 l0 x6_1).f0) ((rd_T33 l0 x6_1).f1) a1_0 a1_1 false _ A6.out).mono ?_); rintro e w11 ⟨rfl, hb⟩; refine ⟨_, rfl, ?_⟩; have n0_ := Aside0.mk (vw (g := gb101) (o := .cells #[.int .u64 a1_0, .int .i64 a1_1] 33 (0, 0)) (by (with_reducible repeat (first | refine uu ?_ _ | refine ux ?_ | refine uv ?_ _)); exact BK101.out) hb); have n1_ := Aside0.mk (vl (by repeat (first | (with_reducible first | exact HB.out | apply uf | apply ud | apply ue | refine un ?_ GE101.out) | exact HB.out)) hb); clear BK101 HB; have BK101 := n0_; have HB := n1_; clear n0_ n1_; (try clear hb); (try clear hb2); (try clear hk); (try clear hi); refine hK.out _ _ ⟨(uw BK101.out 0).trans rfl, (uw BK101.out 1).trans rfl, ((HB.out.cell (World.block_lt_of_cell? w _ hw102_0)).trans hw102_0), ((HB.out.cell (World.block_lt_of_cell? w _ hw102_1)).trans hw102_1)⟩ (fun hHeld => ?_); clear hK K; refine xt (a' := ?_) ?_ ?_; rotate_left
         · show Act.put _ (some 18) _ = _
           simp only [Act.put, ua, ub, uc, uh, ui]; rfl
         refine done_ (by kernel_rfl) ?_
         try go_wp2
         go_roundg k1
         case measure => have := HK1.out; omega
         case rel => exact ⟨(x5_1), (wrap64 (x6_1 + 1)), (by first | rfl | (simp; done) | (simp [*]; done)), (by first | rfl | (simp; done) | (simp [*]; done)), H', ⟨by have := HK1.out; omega⟩, ⟨by (with_reducible repeat (first | refine uu ?_ _ | refine ux ?_ | refine uv ?_ _)); exact BK101.out⟩, ⟨by repeat (first | (with_reducible first | exact HB.out | apply uf | apply ud | apply ue | refine un ?_ GE101.out) | exact HB.out)⟩⟩
     · rw [if_neg c5] at H; exact absurd H (by simp)
   · rw [if_neg c4] at H; have c4b0 : decide (x6_1 < (l0.length : Int)) = false := decide_eq_false c4; clear c4; obtain rfl := Option.some.inj H
     go_wp2
     go_ret
     exact ⟨by first | rfl | (simp [errW_none, errW_some] <;> rfl) | (simp [*, errW_none, errW_some] <;> rfl), by repeat (first | (with_reducible first | exact HB.out | apply uf | apply ud | apply ue | refine un ?_ GE101.out) | exact HB.out)⟩
end Go.Proofs.Ytfhapffjnafkbaa.V
end
