-- a text of this work, without what this claim doesn't use (wip/shake.py)
import Derived.Test.YtdfndglenbckhaaYVE46
import Derived.Test.YtdfndglenbckhaaYVPentry1
namespace Go.Proofs.Ytdfndglenbckhaa.V
open Go.RowKit Go.Proofs.YtdfndglenbckhaaW.PrintWords Go.Proofs.YtdfndglenbckhaaW.PrintLast Go.Proofs.YtdfndglenbckhaaW.PrintMore
attribute [local go_sem] max2_int min2_int max_two min_two max_three min_three max_four min_four
set_option linter.unusedVariables false
set_option linter.unusedSimpArgs false
mutual
def api_Entry_131.l0 : Nat → List (S46) → Int → Int → Int → Option ((List (S46)))
 | 0, _, _, _, _ => none
 | k + 1, x0, x1, x2, x8 => if x8 < x2 then (api_Entry_131.l1 k x0 x1 x2 x8 x8) else (some x0)
def api_Entry_131.l1 : Nat → List (S46) → Int → Int → Int → Int → Option ((List (S46)))
 | 0, _, _, _, _, _ => none
 | k + 1, x0, x1, x2, x8, x9 => if x9 > x1 then (if 0 ≤ x9 then (if x9 < (x0.length : Int) then (if 0 ≤ (wrap64 (x9 - 1)) then (if (wrap64 (x9 - 1)) < (x0.length : Int) then ((entry_Sort_1.f k ((rd_T46 x0 x9).f0) ((rd_T46 x0 x9).f1) ((rd_T46 x0 (wrap64 (x9 - 1))).f0) ((rd_T46 x0 (wrap64 (x9 - 1))).f1)).bind fun t103 => (if t103 < 0 then (api_Entry_131.l1 k ((x0.set (x9 : Int).toNat (⟨(rd_T46 x0 (wrap64 (x9 - 1))).f0, (rd_T46 x0 (wrap64 (x9 - 1))).f1⟩ : S46)).set ((wrap64 (x9 - 1)) : Int).toNat (⟨(rd_T46 x0 x9).f0, (rd_T46 x0 x9).f1⟩ : S46)) x1 x2 x8 (wrap64 (x9 - 1))) else (api_Entry_131.l0 k x0 x1 x2 (wrap64 (x8 + 1))))) else (none)) else (none)) else (none)) else (none)) else (api_Entry_131.l0 k x0 x1 x2 (wrap64 (x8 + 1)))
end
def api_Entry_131.f (k : Nat) (l0 : List (S46)) (a1 : Int) (a2 : Int)  : Option ((List (S46))) := api_Entry_131.l0 k l0 a1 a2 (wrap64 (a1 + 1))
def api_Entry_131.T4 : Bool × List (List Nat × List Nat) := (true, [([], []), ([], []), ([0, 1], [0, 1]), ([2], [2]), ([3], [3]), ([3], [3]), ([3], [3]), ([5, 6, 3], [3, 5, 6]), ([7, 3], [3, 7]), ([3], [3]), ([3], [3]), ([10, 3], [3, 10]), ([9, 11, 3], [3, 9, 11]), ([12, 3], [3, 12]), ([4, 8, 13, 3, 3], [3, 4, 8, 13]), ([14, 3], [3, 14]), ([3, 15], [3, 15])])
def api_Entry_131.B4 : List Nat := [0, 0, 3, 7, 15, 15, 15, 111, 239, 15, 15, 1039, 3599, 7695, 16383, 32767, 65535]
theorem api_Entry_131.tab4 : rtab .any (opsOf Try.f131 4) = api_Entry_131.T4 := by kernel_rfl
theorem api_Entry_131.bits4 : waitsOk api_Entry_131.T4.2 api_Entry_131.B4 = true := by kernel_rfl
def api_Entry_131.T6 : Bool × List (List Nat × List Nat) := (true, [([], []), ([], []), ([], []), ([], []), ([3], [3]), ([], []), ([], []), ([6], [6]), ([5, 7], [5, 7]), ([8], [8]), ([], []), ([], []), ([10, 11], [10, 11]), ([12], [12]), ([0, 1, 0, 1, 5, 6, 7, 8, 9, 13], [0, 1]), ([14, 9, 0, 1, 5, 6, 7, 8, 9, 13], [9, 14]), ([2, 4, 0, 1, 2, 3, 4, 5, 6, 7, 8, 9, 10, 11, 12, 13, 14, 15], [2, 4]), ([16, 13, 15, 0, 1, 2, 3, 4, 5, 6, 7, 8, 9, 10, 11, 12, 13, 14, 15], [13, 16])])
def api_Entry_131.B6 : List Nat := [0, 0, 0, 0, 8, 0, 0, 64, 224, 480, 0, 0, 3072, 7168, 16355, 32739, 65535, 131071]
theorem api_Entry_131.tab6 : rtab .any (opsOf Try.f131 6) = api_Entry_131.T6 := by kernel_rfl
theorem api_Entry_131.bits6 : waitsOk api_Entry_131.T6.2 api_Entry_131.B6 = true := by kernel_rfl
set_option maxHeartbeats 8000000 in
set_option maxRecDepth 100000 in
theorem api_Entry_131.calls (k : Nat) (P0_ : Nat → Prop) (u9000_ : Value) (l0 : List (S46)) (a1 : Int) (a2 : Int)  (r : List (S46)) (w0 w : World) (hB : Below w0.heap.size w0 w) (ho0 : Kd.RC k46 46 w w0.heap.size P0_ u9000_ l0) (h : api_Entry_131.f k l0 a1 a2 = some r) :
 Calls Try.prog 131 #[u9000_, .int .i64 a1, .int .i64 a2, .func (.func 115) #[] #[]] w fun e w' => e = .returned (.tuple #[]) ∧ Kd.RC k46 46 w' w0.heap.size (fun k_ => (P0_ k_ ∨ w.heap.size ≤ k_)) u9000_ r ∧ Below w0.heap.size w0 w' ∧ Kept w w' (fun k_ => P0_ k_) := by
 have hu46 := Try.underlying46; have HO0 := Aside0.mk (show Kd.RC k46 46 w w0.heap.size (fun k_ => (P0_ k_ ∨ w.heap.size ≤ k_)) u9000_ l0 from Kd.RC_mono ho0 (fun k_ hk => (.inl hk))); have HK := Aside0.mk (Kept.refl w (fun k_ => P0_ k_)); have HW0 := Aside0.mk hB.size; have HB := Aside0.mk hB; clear hB; have H : (api_Entry_131.l0 k l0 a1 a2 (wrap64 (a1 + 1))) = some r := h; clear h; have H' := Aside0.mk H; clear H; go_enter Try.func131, Try.ntmps131
 go_wp2
 go_loopg [8] k (fun kq v8 w' => ∃ (x0_1 : List (S46)) (x8_1 : Int), v8 = .int .i64 x8_1 ∧ Aside0 (api_Entry_131.l0 kq x0_1 a1 a2 x8_1 = some r) ∧ Aside0 (kq ≤ k) ∧ Aside0 (Kd.RC k46 46 w' w0.heap.size (fun k_ => (P0_ k_ ∨ w.heap.size ≤ k_)) u9000_ x0_1) ∧ Aside0 (Kept w w' (fun k_ => P0_ k_)) ∧ Aside0 (Below w0.heap.size w0 w'))
 case atStart => exact ⟨(l0), (wrap64 (a1 + 1)), (by first | rfl | (simp; done) | (simp [*]; done)), H', ⟨vn _⟩, ⟨by (with_reducible repeat (first | apply vv | apply vu | apply vr)); exact HO0.out⟩, ⟨by repeat (first | (with_reducible first | exact HK.out | apply vq | apply vp | apply vo) | exact HK.out)⟩, ⟨by repeat (first | (with_reducible first | exact HB.out | apply uf | apply ud | apply ue) | exact HB.out)⟩⟩
 case round =>
  clear H'
  try clear c1
  try clear p2
  obtain ⟨x0_1, x8_1, rfl, HA, HK1, HO_0, HK, HB⟩ := hrel
  cases gk with
  | zero => exact absurd HA.out (by simp [api_Entry_131.l0])
  | succ k1 =>
   have H := HA.out; clear HA; simp only [api_Entry_131.l0] at H
   by_cases c5 : x8_1 < a2
   · rw [if_pos c5] at H; have c5b0 : decide (x8_1 < a2) = true := decide_eq_true c5; clear c5; have H' := Aside0.mk H; clear H
     go_wp2
     go_loopg [9] k1 (fun kq v9 w' => ∃ (x0_2 : List (S46)) (x9_2 : Int), v9 = .int .i64 x9_2 ∧ Aside0 (api_Entry_131.l1 kq x0_2 a1 a2 x8_1 x9_2 = some r) ∧ Aside0 (kq ≤ k1) ∧ Aside0 (Kd.RC k46 46 w' w0.heap.size (fun k_ => (P0_ k_ ∨ w.heap.size ≤ k_)) u9000_ x0_2) ∧ Aside0 (Kept w w' (fun k_ => P0_ k_)) ∧ Aside0 (Below w0.heap.size w0 w'))
     case atStart => exact ⟨(x0_1), (x8_1), (by first | rfl | (simp; done) | (simp [*]; done)), H', ⟨vn _⟩, ⟨by (with_reducible repeat (first | apply vv | apply vu | apply vr)); exact HO_0.out⟩, ⟨by repeat (first | (with_reducible first | exact HK.out | apply vq | apply vp | apply vo) | exact HK.out)⟩, ⟨by repeat (first | (with_reducible first | exact HB.out | apply uf | apply ud | apply ue) | exact HB.out)⟩⟩
     case round =>
      clear H'
      try clear c1
      try clear p2
      try clear c5
      try clear c5b0
      try clear p2
      obtain ⟨x0_2, x9_2, rfl, HA, HK2, HO_0, HK, HB⟩ := hrel
      cases gk with
      | zero => exact absurd HA.out (by simp [api_Entry_131.l1])
      | succ k2 =>
       have H := HA.out; clear HA; simp only [api_Entry_131.l1] at H
       by_cases c6 : x9_2 > a1
       · rw [if_pos c6] at H; have c6b0 : decide (a1 < x9_2) = true := decide_eq_true c6; clear c6
         by_cases c7 : 0 ≤ x9_2
         · rw [if_pos c7] at H; have c7b0 : decide (0 ≤ x9_2) = true := decide_eq_true c7; clear c7
           by_cases c8 : x9_2 < (x0_2.length : Int)
           · rw [if_pos c8] at H; have c8b0 : decide (x9_2 < (x0_2.length : Int)) = true := decide_eq_true c8; clear c8; obtain ⟨ji9, hji9⟩ : ∃ j_ : Int, (wrap64 (x9_2 - 1)) = j_ := ⟨_, rfl⟩; (replace H : (if 0 ≤ (ji9) then (if (ji9) < (x0_2.length : Int) then ((entry_Sort_1.f k2 ((rd_T46 x0_2 x9_2).f0) ((rd_T46 x0_2 x9_2).f1) ((rd_T46 x0_2 (ji9)).f0) ((rd_T46 x0_2 (ji9)).f1)).bind fun t103 => (if t103 < 0 then (api_Entry_131.l1 k2 ((x0_2.set (x9_2 : Int).toNat (⟨(rd_T46 x0_2 (ji9)).f0, (rd_T46 x0_2 (ji9)).f1⟩ : S46)).set ((ji9) : Int).toNat (⟨(rd_T46 x0_2 x9_2).f0, (rd_T46 x0_2 x9_2).f1⟩ : S46)) a1 a2 x8_1 ji9) else (api_Entry_131.l0 k2 x0_2 a1 a2 (wrap64 (x8_1 + 1))))) else (none)) else (none)) = some r := by first | (rw [hji9] at H; exact H) | (simp only [hji9] at H ⊢; exact H)); have hji9w : (IntKind.i64.wrap (x9_2 - 1)) = ji9 := (uh _).trans hji9
             by_cases c10 : 0 ≤ (ji9)
             · rw [if_pos c10] at H; have c10b0 : decide (0 ≤ (ji9)) = true := decide_eq_true c10; clear c10
               by_cases c11 : (ji9) < (x0_2.length : Int)
               · rw [if_pos c11] at H; have c11b0 : decide ((ji9) < (x0_2.length : Int)) = true := decide_eq_true c11; clear c11; replace H := Option.bind_eq_some_iff.mp H; obtain ⟨t103, A120, H⟩ := H; replace H : (if t103 < 0 then (api_Entry_131.l1 k2 ((x0_2.set (x9_2 : Int).toNat (⟨(rd_T46 x0_2 (ji9)).f0, (rd_T46 x0_2 (ji9)).f1⟩ : S46)).set ((ji9) : Int).toNat (⟨(rd_T46 x0_2 x9_2).f0, (rd_T46 x0_2 x9_2).f1⟩ : S46)) a1 a2 x8_1 ji9) else (api_Entry_131.l0 k2 x0_2 a1 a2 (wrap64 (x8_1 + 1)))) = some r := H; have A12 := Aside0.mk A120; clear A120
                 by_cases c13 : t103 < 0
                 · rw [if_pos c13] at H; have c13b0 : decide (t103 < 0) = true := decide_eq_true c13; clear c13; obtain ⟨y106, hy106⟩ : ∃ y_ : List (S46), y_ = (x0_2.set (x9_2 : Int).toNat (⟨(rd_T46 x0_2 (ji9)).f0, (rd_T46 x0_2 (ji9)).f1⟩ : S46)) := ⟨_, rfl⟩; (replace H : (api_Entry_131.l1 k2 (y106.set ((ji9) : Int).toNat (⟨(rd_T46 x0_2 x9_2).f0, (rd_T46 x0_2 x9_2).f1⟩ : S46)) a1 a2 x8_1 ji9) = some r := by first | (rw [hy106]; with_reducible exact H) | (have H2_ := (uw _ _).symm.trans H; rw [hy106]; with_reducible exact H2_) | (have H2_ := (uw _ _).symm.trans H; with_reducible exact H2_) | with_reducible exact H | (rw [hy106]; exact H) | exact H); have Ny106 := Aside0.mk hy106; clear hy106; obtain ⟨y107, hy107⟩ : ∃ y_ : List (S46), y_ = (y106.set ((ji9) : Int).toNat (⟨(rd_T46 x0_2 x9_2).f0, (rd_T46 x0_2 x9_2).f1⟩ : S46)) := ⟨_, rfl⟩; (replace H : (api_Entry_131.l1 k2 y107 a1 a2 x8_1 ji9) = some r := by first | (rw [hy107]; with_reducible exact H) | (have H2_ := (uw _ _).symm.trans H; rw [hy107]; with_reducible exact H2_) | (have H2_ := (uw _ _).symm.trans H; with_reducible exact H2_) | with_reducible exact H | (rw [hy107]; exact H) | exact H); have Ny107 := Aside0.mk hy107; clear hy107; have H' := Aside0.mk H; clear H
                   try go_wp2
                   have n0_ := Aside0.mk (vr HO_0.out); have n1_ := Aside0.mk (vo HK.out); have n2_ := Aside0.mk (ue HB.out); clear HO_0 HK HB; have HO_0 := n0_; have HK := n1_; have HB := n2_; clear n0_ n1_ n2_; obtain ⟨Ao17, co17, eo17⟩ := xr HO_0.out; (first | subst eo17 | (injection eo17 with f1_ f2_ f3_; have f4_ := f1_.symm; have f5_ := f3_.symm; clear f1_ f2_ f3_; subst f4_; subst f5_)); have p101 : 0 ≤ (x9_2 : Int) := ug (by first | (with_reducible assumption) | assumption); have q101 : x9_2 < (x0_2.length : Int) := ug (by first | (with_reducible assumption) | assumption); obtain ⟨ad101, e101, hx101_0, hx101_1⟩ := at_T46 (xa HO_0.out).2.2 x9_2 p101 q101
                   cases e101
                   replace p101 := eq_true p101; replace q101 := eq_true q101; have p102 : 0 ≤ ((ji9) : Int) := ug (by first | (with_reducible assumption) | assumption); have q102 : (ji9) < (x0_2.length : Int) := ug (by first | (with_reducible assumption) | assumption); obtain ⟨ad102, e102, hx102_0, hx102_1⟩ := at_T46 (xa HO_0.out).2.2 (ji9) p102 q102; obtain rfl : ad101 = ad102 := (by injection e102); replace p102 := eq_true p102; replace q102 := eq_true q102; refine start_ (n := 17) (S := fun w' => w'.cell? (ad101.add ((x9_2).toNat * 2)) = some (.int .u64 ((rd_T46 x0_2 x9_2).f0)) ∧ w'.cell? ⟨(ad101.add ((x9_2).toNat * 2)).block, (ad101.add ((x9_2).toNat * 2)).off + 1, none⟩ = some (.int .i64 ((rd_T46 x0_2 x9_2).f1)) ∧ w'.cell? (ad101.add (((ji9)).toNat * 2)) = some (.int .u64 ((rd_T46 x0_2 (ji9)).f0)) ∧ w'.cell? ⟨(ad101.add (((ji9)).toNat * 2)).block, (ad101.add (((ji9)).toNat * 2)).off + 1, none⟩ = some (.int .i64 ((rd_T46 x0_2 (ji9)).f1))) (ds := []) #[xX, xX, xX, xX, xX, xX, xX, xX, xX, xX, xX, xX, xX, xX, xX, xX, xX] (by kernel_rfl) rfl rfl ⟨hx101_0, hx101_1, hx102_0, hx102_1⟩ (fun hHeld => ?_); refine xv api_Entry_131.tab4 api_Entry_131.bits4 (fun HT_ HW_ => ?_); generalize wr.drew = w16 at HO_0 HK HB hx101_0 hx101_1 hx102_0 hx102_1 hHeld ⊢; refine uj (i := 0) (N := some 18) (v := ?_) (a' := ?_) (bA 17 1) rfl rfl (ul HT_.out (by kernel_rfl)) (fun _ _ _ h => h) (Or.inl ⟨by rfl, ?_⟩) ?_ ?_; rotate_left
                   · intro w'; go_simp; (with_reducible rfl)
                   rotate_left
                   · simp only [Act.put, ua, ub, uc, uh, ui]; rfl
                   refine uj (i := 1) (N := some 19) (v := ?_) (a' := ?_) (bA 17 3) rfl rfl (ul HT_.out (by kernel_rfl)) (fun _ _ _ h => h) (Or.inl ⟨by rfl, ?_⟩) ?_ ?_; rotate_left
                   · intro w'; go_simp; (with_reducible rfl)
                   rotate_left
                   · simp only [Act.put, ua, ub, uc, uh, ui]; rfl
                   refine uj (i := 2) (N := some 20) (v := ?_) (a' := ?_) (bA 17 7) rfl rfl (ul HT_.out (by kernel_rfl)) (fun _ _ _ h => h) (Or.inl ⟨by rfl, ?_⟩) ?_ ?_; rotate_left
                   · intro w'; go_simp; (with_reducible rfl)
                   rotate_left
                   · simp only [Act.put, ua, ub, uc, uh, ui]; rfl
                   refine uj (i := 3) (N := some 21) (v := ?_) (a' := ?_) (bA 17 15) rfl rfl (ul HT_.out (by kernel_rfl)) (fun _ _ _ h => h) (Or.inl ⟨by rfl, ?_⟩) ?_ ?_; rotate_left
                   · intro w'; go_simp; (with_reducible rfl)
                   rotate_left
                   · simp only [Act.put, ua, ub, uc, uh, ui]; rfl
                   refine uj (i := 4) (N := some 22) (v := ?_) (a' := ?_) (bA 17 31) rfl rfl (ul HT_.out (by kernel_rfl)) (fun _ _ _ h => h) (Or.inl ⟨by rfl, ?_⟩) ?_ ?_; rotate_left
                   · intro w'; go_simp; (with_reducible rfl)
                   rotate_left
                   · simp only [Act.put, ua, ub, uc, uh, ui]; rfl
                   refine uj (i := 5) (N := some 23) (v := ?_) (a' := ?_) (bA 17 63) rfl rfl (ul HT_.out (by kernel_rfl)) (fun _ _ _ h => h) (Or.inl ⟨by rfl, ?_⟩) ?_ ?_; rotate_left
                   · intro w'; go_simp; (with_reducible rfl)
                   rotate_left
                   · simp only [Act.put, ua, ub, uc, uh, ui]; rfl
                   refine uj (i := 6) (N := some 24) (v := ?_) (a' := ?_) (bA 17 127) rfl rfl (ul HT_.out (by kernel_rfl)) (fun _ _ _ h => h) (Or.inl ⟨by rfl, ?_⟩) ?_ ?_; rotate_left
                   · intro w'; go_simp; (with_reducible rfl)
                   rotate_left
                   · simp only [Act.put, ua, ub, uc, uh, ui]; rfl
                   refine uj (i := 7) (N := some 25) (v := ?_) (a' := ?_) (bA 17 255) rfl rfl (ul HT_.out (by kernel_rfl)) (fun _ _ _ h => h) (Or.inl ⟨by rfl, ?_⟩) ?_ ?_; rotate_left
                   · intro w'; go_simp; (with_reducible rfl)
                   rotate_left
                   · simp only [Act.put, ua, ub, uc, uh, ui]; rfl
                   refine uj (i := 9) (N := some 27) (v := ?_) (a' := ?_) (bA 17 767) rfl rfl (ul HT_.out (by kernel_rfl)) (fun _ _ _ h => h) (Or.inl ⟨by rfl, ?_⟩) ?_ ?_; rotate_left
                   · intro w'; go_simp; (with_reducible rfl)
                   rotate_left
                   · simp only [Act.put, ua, ub, uc, uh, ui]; rfl
                   refine uj (i := 10) (N := some 28) (v := ?_) (a' := ?_) (bA 17 1791) rfl rfl (ul HT_.out (by kernel_rfl)) (fun _ _ _ h => h) (Or.inl ⟨by rfl, ?_⟩) ?_ ?_; rotate_left
                   · intro w'; go_simp; (with_reducible rfl)
                   rotate_left
                   · simp only [Act.put, ua, ub, uc, uh, ui]; rfl
                   refine uj (i := 11) (N := some 29) (v := ?_) (a' := ?_) (bA 17 3839) rfl rfl (ul HT_.out (by kernel_rfl)) (fun _ _ _ h => h) (Or.inl ⟨by rfl, ?_⟩) ?_ ?_; rotate_left
                   · intro w'; go_simp; (with_reducible rfl)
                   rotate_left
                   · simp only [Act.put, ua, ub, uc, uh, ui]; rfl
                   refine uj (i := 12) (N := some 30) (v := ?_) (a' := ?_) (bA 17 7935) rfl rfl (ul HT_.out (by kernel_rfl)) (fun _ _ _ h => h) (Or.inl ⟨by rfl, ?_⟩) ?_ ?_; rotate_left
                   · intro w'; go_simp; (with_reducible rfl)
                   rotate_left
                   · simp only [Act.put, ua, ub, uc, uh, ui]; rfl
                   refine xk (i := 8) (N := some 26) (v := ?_) (a' := ?_) (bA 17 8191) rfl rfl (xc HT_.out HW_.out (by kernel_rfl)) (fun _ _ _ h => h) (Or.inl ⟨by rfl, ?_⟩) hHeld ?_ ?_; rotate_left
                   · rintro w' ⟨s0, s1, s2, s3⟩; go_simp; (with_reducible rfl)
                   rotate_left
                   · simp only [Act.put, ua, ub, uc, uh, ui]; rfl
                   refine xk (i := 13) (N := some 31) (v := ?_) (a' := ?_) (bA 17 16383) rfl rfl (xc HT_.out HW_.out (by kernel_rfl)) (fun _ _ _ h => h) (Or.inl ⟨by rfl, ?_⟩) hHeld ?_ ?_; rotate_left
                   · rintro w' ⟨s0, s1, s2, s3⟩; go_simp; (with_reducible rfl)
                   rotate_left
                   · simp only [Act.put, ua, ub, uc, uh, ui]; rfl
                   refine one_ (i := 14) (N := some 32) #[yY, yY, yY, yY, yY, yY, yY, yY, yY, yY, yY, yY, yY, yY, yY, xX, xX] rfl rfl (one_of HT_.out (by kernel_rfl)) (by decide) (fun K hK => ?_); refine goesV_ Try.func115 (by kernel_rfl) rfl #[.agg #[.int .u64 ((rd_T46 x0_2 x9_2).f0), .int .i64 ((rd_T46 x0_2 x9_2).f1)], .agg #[.int .u64 ((rd_T46 x0_2 (ji9)).f0), .int .i64 ((rd_T46 x0_2 (ji9)).f1)]] (by rfl) rfl rfl (by rfl) (by (try simp only [un, uu, uv]); first | done | (simp only [hji9]; rfl) | rfl | (simp only [ur, uq]; rfl)) ?_; (with_reducible refine (entry_Sort_1.calls k2 ((rd_T46 x0_2 x9_2).f0) ((rd_T46 x0_2 x9_2).f1) ((rd_T46 x0_2 (ji9)).f0) ((rd_T46 x0_2 (ji9)).f1) t103 _ A12.out).mono ?_); rintro e w18 ⟨rfl, hb⟩; have HS0_ := (hb.cell (World.block_lt_of_cell? _ _ (hHeld.1))).trans (hHeld.1); have HS1_ := (hb.cell (World.block_lt_of_cell? _ _ (hHeld.2.1))).trans (hHeld.2.1); have HS2_ := (hb.cell (World.block_lt_of_cell? _ _ (hHeld.2.2.1))).trans (hHeld.2.2.1); have HS3_ := (hb.cell (World.block_lt_of_cell? _ _ (hHeld.2.2.2))).trans (hHeld.2.2.2); refine ⟨_, rfl, ?_⟩; have n0_ := Aside0.mk (Kd.RC_below (by (with_reducible repeat (first | apply vv | apply vu | apply vr)); exact HO_0.out) hb); have n1_ := Aside0.mk (Kept.below (S := (fun k_ => P0_ k_)) (by repeat (first | (with_reducible first | exact HK.out | apply vq | apply vp | apply vo) | exact HK.out)) hb); have n2_ := Aside0.mk (uo (by repeat (first | (with_reducible first | exact HB.out | apply uf | apply ud | apply ue) | exact HB.out)) hb); clear HO_0 HK HB; have HO_0 := n0_; have HK := n1_; have HB := n2_; clear n0_ n1_ n2_; (try clear hb); (try clear hb2); (try clear hk); (try clear hi); refine hK.out _ _ ⟨HS0_, HS1_, HS2_, HS3_⟩ (fun hHeld => ?_); clear hK K; refine xj (a' := ?_) ?_ ?_; rotate_left
                   · show Act.put _ (some 32) _ = _
                     simp only [Act.put, ua, ub, uc, uh, ui]; rfl
                   refine uj (i := 15) (N := some 33) (v := ?_) (a' := ?_) (bA 17 65535) rfl rfl (ul HT_.out (by kernel_rfl)) (fun _ _ _ h => h) (Or.inl ⟨by rfl, ?_⟩) ?_ ?_; rotate_left
                   · intro w'; go_simp; (with_reducible rfl)
                   rotate_left
                   · simp only [Act.put, ua, ub, uc, uh, ui]; rfl
                   refine uj (i := 16) (N := some 34) (v := ?_) (a' := ?_) (bA 17 131071) rfl rfl (ul HT_.out (by kernel_rfl)) (fun _ _ _ h => h) (Or.inl ⟨by rfl, ?_⟩) ?_ ?_; rotate_left
                   · intro w'; go_simp; (with_reducible rfl)
                   rotate_left
                   · simp only [Act.put, ua, ub, uc, uh, ui]; rfl
                   refine done_ (done_of HT_.out (by kernel_rfl)) ?_
                   try go_wp2
                   have n0_ := Aside0.mk (vr HO_0.out); have n1_ := Aside0.mk (vo HK.out); have n2_ := Aside0.mk (ue HB.out); clear HO_0 HK HB; have HO_0 := n0_; have HK := n1_; have HB := n2_; clear n0_ n1_ n2_; have p104 : 0 ≤ ((ji9) : Int) := ug (by first | (with_reducible assumption) | assumption); have q104 : (ji9) < (x0_2.length : Int) := ug (by first | (with_reducible assumption) | assumption); obtain ⟨ad104, e104, hx104_0, hx104_1⟩ := at_T46 (xa HO_0.out).2.2 (ji9) p104 q104; obtain rfl : ad101 = ad104 := (by injection e104); replace p104 := eq_true p104; replace q104 := eq_true q104; have p105 : 0 ≤ (x9_2 : Int) := ug (by first | (with_reducible assumption) | assumption); have q105 : x9_2 < (x0_2.length : Int) := ug (by first | (with_reducible assumption) | assumption); obtain ⟨ad105, e105, hx105_0, hx105_1⟩ := at_T46 (xa HO_0.out).2.2 x9_2 p105 q105; obtain rfl : ad101 = ad105 := (by injection e105); replace p105 := eq_true p105; replace q105 := eq_true q105; have p14 : 0 ≤ (x9_2 : Int) := ug (by first | (with_reducible assumption) | assumption); have q14 : (x9_2 : Int) < ((x0_2.length : Int) : Int) := ug (by first | (with_reducible assumption) | assumption); obtain ⟨go14, co14, eo14, gb14, gl14, cl14, HG14⟩ := Kd.RC_form HO_0.out (by omega); (first | cases eo14 | (injection eo14 with ea_ en_ ec_; (first | subst ea_ | (injection ea_ with ea_; subst ea_)); subst ec_; clear en_)); have GB14 := Aside0.mk gb14; have GG14 := Aside0.mk HG14; clear gb14 gl14 HG14; have HMgo14 := Aside0.mk (show (P0_ go14 ∨ w.heap.size ≤ go14) from (HO_0.out.1 _ rfl)); (first | simp only [add_plain] at hx101_0 | skip); (first | simp only [add_plain] at hx101_1 | skip); (first | simp only [add_plain] at hx102_0 | skip); (first | simp only [add_plain] at hx102_1 | skip); (first | simp only [add_plain] at hx104_0 | skip); (first | simp only [add_plain] at hx104_1 | skip); (first | simp only [add_plain] at hx105_0 | skip); (first | simp only [add_plain] at hx105_1 | skip); obtain ⟨ce14, hcl14, hM14, hcc14, hfr14⟩ := Kd.RC_elem HO_0.out z46 (x9_2 : Int) p14 q14; obtain rfl := k46_openM hM14; have hx14_0 : World.cell? _ ⟨go14, (x9_2 : Int).toNat * 2, none⟩ = some (.int .u64 ((rd_T46 x0_2 x9_2).f0)) := hcc14 0 _ rfl; have hx14_1 : World.cell? _ ⟨go14, (x9_2 : Int).toNat * 2 + 1, none⟩ = some (.int .i64 ((rd_T46 x0_2 x9_2).f1)) := hcc14 1 _ rfl; have hf14_0 : World.frozen? _ ⟨go14, (x9_2 : Int).toNat * 2, none⟩ = false := hfr14 0; have hf14_1 : World.frozen? _ ⟨go14, (x9_2 : Int).toNat * 2 + 1, none⟩ = false := hfr14 1; clear hcl14 hcc14 hfr14 hM14; replace p14 := eq_true p14; replace q14 := eq_true q14; obtain ⟨ce20, hcl20, hM20, hcc20, hfr20⟩ := Kd.RC_elem HO_0.out z46 (x9_2 : Int) (ug (by first | (with_reducible assumption) | assumption)) (by have h_ : (x9_2 : Int) < ((x0_2.length : Int) : Int) := ug (by first | (with_reducible assumption) | assumption); first | exact h_ | (have e_ := (xa HO_0.out).1; omega) | simpa using h_); obtain rfl := k46_openM hM20; have HP20 := (Kd.RC_seg HO_0.out (x9_2 : Int) (ug (by first | (with_reducible assumption) | assumption)) (by have h_ : (x9_2 : Int) < ((x0_2.length : Int) : Int) := ug (by first | (with_reducible assumption) | assumption); first | exact h_ | (have e_ := (xa HO_0.out).1; omega) | simpa using h_) (seg := [.int .u64 ((rd_T46 x0_2 (ji9)).f0), .int .i64 ((rd_T46 x0_2 (ji9)).f1)]) (j := 0) hcl20 hcc20 (show 2 ≤ 2 from by decide) (x' := (⟨(rd_T46 x0_2 (ji9)).f0, (rd_T46 x0_2 (ji9)).f1⟩ : S46)) (k46_mkM _ _ _ (⟨(rd_T46 x0_2 (ji9)).f0, (rd_T46 x0_2 (ji9)).f1⟩ : S46) ) (fun _ hk => hk)).1; rw [← Ny106.out] at HP20; have HQ20 := Aside0.mk HP20; clear hcl20 hcc20 hfr20 hM20 HP20; have p15 : 0 ≤ ((ji9) : Int) := ug (by first | (with_reducible assumption) | assumption); have q15 : ((ji9) : Int) < ((x0_2.length : Int) : Int) := ug (by first | (with_reducible assumption) | assumption); obtain ⟨ce15, hcl15, hM15, hcc15, hfr15⟩ := Kd.RC_elem HQ20.out z46 ((ji9) : Int) p15 q15; obtain rfl := k46_openM hM15; have hx15_0 : World.cell? _ ⟨go14, ((ji9) : Int).toNat * 2, none⟩ = some (.int .u64 ((rd_T46 y106 (ji9)).f0)) := hcc15 0 _ rfl; have hx15_1 : World.cell? _ ⟨go14, ((ji9) : Int).toNat * 2 + 1, none⟩ = some (.int .i64 ((rd_T46 y106 (ji9)).f1)) := hcc15 1 _ rfl; have hf15_0 : World.frozen? _ ⟨go14, ((ji9) : Int).toNat * 2, none⟩ = false := hfr15 0; have hf15_1 : World.frozen? _ ⟨go14, ((ji9) : Int).toNat * 2 + 1, none⟩ = false := hfr15 1; clear hcl15 hcc15 hfr15 hM15; replace p15 := eq_true p15; replace q15 := eq_true q15; obtain ⟨ce21, hcl21, hM21, hcc21, hfr21⟩ := Kd.RC_elem HQ20.out z46 ((ji9) : Int) (ug (by first | (with_reducible assumption) | assumption)) (by have h_ : ((ji9) : Int) < ((x0_2.length : Int) : Int) := ug (by first | (with_reducible assumption) | assumption); first | exact h_ | (have e_ := (xa HO_0.out).1; omega) | simpa using h_); obtain rfl := k46_openM hM21; have HP21 := (Kd.RC_seg HQ20.out ((ji9) : Int) (ug (by first | (with_reducible assumption) | assumption)) (by have h_ : ((ji9) : Int) < ((x0_2.length : Int) : Int) := ug (by first | (with_reducible assumption) | assumption); first | exact h_ | (have e_ := (xa HO_0.out).1; omega) | simpa using h_) (seg := [.int .u64 ((rd_T46 x0_2 x9_2).f0), .int .i64 ((rd_T46 x0_2 x9_2).f1)]) (j := 0) hcl21 hcc21 (show 2 ≤ 2 from by decide) (x' := (⟨(rd_T46 x0_2 x9_2).f0, (rd_T46 x0_2 x9_2).f1⟩ : S46)) (k46_mkM _ _ _ (⟨(rd_T46 x0_2 x9_2).f0, (rd_T46 x0_2 x9_2).f1⟩ : S46) ) (fun _ hk => hk)).1; rw [← Ny107.out] at HP21; have HQ21 := Aside0.mk HP21; clear hcl21 hcc21 hfr21 hM21 HP21; refine start_ (n := 18) (S := fun w' => w'.cell? (⟨go14, (((ji9)).toNat * 2), none⟩ : Addr) = some (.int .u64 ((rd_T46 x0_2 (ji9)).f0)) ∧ w'.cell? ⟨(⟨go14, (((ji9)).toNat * 2), none⟩ : Addr).block, (⟨go14, (((ji9)).toNat * 2), none⟩ : Addr).off + 1, none⟩ = some (.int .i64 ((rd_T46 x0_2 (ji9)).f1)) ∧ w'.cell? ⟨go14, ((x9_2).toNat * 2), none⟩ = some (.int .u64 ((rd_T46 x0_2 x9_2).f0)) ∧ w'.cell? ⟨go14, ((x9_2).toNat * 2) + 1, none⟩ = some (.int .i64 ((rd_T46 x0_2 x9_2).f1))) (ds := [15, 17]) #[xX, xX, xX, xX, xX, xX, xX, xX, xX, xX, xX, xX, xX, xX, xX, xX, xX, xX] (by kernel_rfl) rfl rfl ⟨hx104_0, hx104_1, hx105_0, hx105_1⟩ (fun hHeld => ?_); refine xv api_Entry_131.tab6 api_Entry_131.bits6 (fun HT_ HW_ => ?_)
                   generalize w18.drew = w19 at HO_0 HK HB GG14 HQ20 HQ21 hf14_0 hf14_1 hf15_0 hf15_1 hx101_0 hx101_1 hx102_0 hx102_1 hx104_0 hx104_1 hx105_0 hx105_1 hx14_0 hx14_1 hx15_0 hx15_1 hHeld ⊢; have hz15_0 : World.frozen? w19 ⟨go14, ((ji9) : Int).toNat * 2, none⟩ = false := peel_f hf15_0; have hz15_1 : World.frozen? w19 ⟨go14, ((ji9) : Int).toNat * 2 + 1, none⟩ = false := peel_f hf15_1; have hy15_0 : World.cell? (World.setCell w19 ⟨go14, (x9_2 : Int).toNat * 2, none⟩ (.int .u64 ((rd_T46 x0_2 (ji9)).f0))) ⟨go14, ((ji9) : Int).toNat * 2, none⟩ = some (.int .u64 ((rd_T46 y106 (ji9)).f0)) := peel_c0 hx15_0 (by show (x9_2 : Int).toNat * 2 + 1 ≠ _; omega); have hy15_1 : World.cell? ((World.setCell w19 ⟨go14, (x9_2 : Int).toNat * 2, none⟩ (.int .u64 ((rd_T46 x0_2 (ji9)).f0))).setCell ⟨go14, (x9_2 : Int).toNat * 2 + 1, none⟩ (.int .i64 ((rd_T46 x0_2 (ji9)).f1))) ⟨go14, ((ji9) : Int).toNat * 2 + 1, none⟩ = some (.int .i64 ((rd_T46 y106 (ji9)).f1)) := hx15_1; refine uj (i := 0) (N := some 37) (v := ?_) (a' := ?_) (bA 18 1) rfl rfl (ul HT_.out (by kernel_rfl)) (fun _ _ _ h => h) (Or.inl ⟨by rfl, ?_⟩) ?_ ?_; rotate_left
                   · intro w'; go_simp; (with_reducible rfl)
                   rotate_left
                   · simp only [Act.put, ua, ub, uc, uh, ui]; rfl
                   refine uj (i := 1) (N := some 38) (v := ?_) (a' := ?_) (bA 18 3) rfl rfl (ul HT_.out (by kernel_rfl)) (fun _ _ _ h => h) (Or.inl ⟨by rfl, ?_⟩) ?_ ?_; rotate_left
                   · intro w'; go_simp; (with_reducible rfl)
                   rotate_left
                   · simp only [Act.put, ua, ub, uc, uh, ui]; rfl
                   refine uj (i := 2) (N := some 39) (v := ?_) (a' := ?_) (bA 18 7) rfl rfl (ul HT_.out (by kernel_rfl)) (fun _ _ _ h => h) (Or.inl ⟨by rfl, ?_⟩) ?_ ?_; rotate_left
                   · intro w'; go_simp; (with_reducible rfl)
                   rotate_left
                   · simp only [Act.put, ua, ub, uc, uh, ui]; rfl
                   refine uj (i := 3) (N := some 40) (v := ?_) (a' := ?_) (bA 18 15) rfl rfl (ul HT_.out (by kernel_rfl)) (fun _ _ _ h => h) (Or.inl ⟨by rfl, ?_⟩) ?_ ?_; rotate_left
                   · intro w'; go_simp; (with_reducible rfl)
                   rotate_left
                   · simp only [Act.put, ua, ub, uc, uh, ui]; rfl
                   refine uj (i := 4) (N := some 41) (v := ?_) (a' := ?_) (bA 18 31) rfl rfl (ul HT_.out (by kernel_rfl)) (fun _ _ _ h => h) (Or.inl ⟨by rfl, ?_⟩) ?_ ?_; rotate_left
                   · intro w'; go_simp; (with_reducible rfl)
                   rotate_left
                   · simp only [Act.put, ua, ub, uc, uh, ui]; rfl
                   refine uj (i := 5) (N := some 42) (v := ?_) (a' := ?_) (bA 18 63) rfl rfl (ul HT_.out (by kernel_rfl)) (fun _ _ _ h => h) (Or.inl ⟨by rfl, ?_⟩) ?_ ?_; rotate_left
                   · intro w'; go_simp; (with_reducible rfl)
                   rotate_left
                   · simp only [Act.put, ua, ub, uc, uh, ui]; rfl
                   refine uj (i := 6) (N := some 43) (v := ?_) (a' := ?_) (bA 18 127) rfl rfl (ul HT_.out (by kernel_rfl)) (fun _ _ _ h => h) (Or.inl ⟨by rfl, ?_⟩) ?_ ?_; rotate_left
                   · intro w'; go_simp; (with_reducible rfl)
                   rotate_left
                   · simp only [Act.put, ua, ub, uc, uh, ui]; rfl
                   refine uj (i := 7) (N := some 44) (v := ?_) (a' := ?_) (bA 18 255) rfl rfl (ul HT_.out (by kernel_rfl)) (fun _ _ _ h => h) (Or.inl ⟨by rfl, ?_⟩) ?_ ?_; rotate_left
                   · intro w'; go_simp; (with_reducible rfl)
                   rotate_left
                   · simp only [Act.put, ua, ub, uc, uh, ui]; rfl
                   refine uj (i := 8) (N := some 45) (v := ?_) (a' := ?_) (bA 18 511) rfl rfl (ul HT_.out (by kernel_rfl)) (fun _ _ _ h => h) (Or.inl ⟨by rfl, ?_⟩) ?_ ?_; rotate_left
                   · intro w'; go_simp; (with_reducible rfl)
                   rotate_left
                   · simp only [Act.put, ua, ub, uc, uh, ui]; rfl
                   refine uj (i := 10) (N := some 47) (v := ?_) (a' := ?_) (bA 18 1535) rfl rfl (ul HT_.out (by kernel_rfl)) (fun _ _ _ h => h) (Or.inl ⟨by rfl, ?_⟩) ?_ ?_; rotate_left
                   · intro w'; go_simp; (with_reducible rfl)
                   rotate_left
                   · simp only [Act.put, ua, ub, uc, uh, ui]; rfl
                   refine uj (i := 11) (N := some 48) (v := ?_) (a' := ?_) (bA 18 3583) rfl rfl (ul HT_.out (by kernel_rfl)) (fun _ _ _ h => h) (Or.inl ⟨by rfl, ?_⟩) ?_ ?_; rotate_left
                   · intro w'; go_simp; (with_reducible rfl)
                   rotate_left
                   · simp only [Act.put, ua, ub, uc, uh, ui]; rfl
                   refine uj (i := 12) (N := some 49) (v := ?_) (a' := ?_) (bA 18 7679) rfl rfl (ul HT_.out (by kernel_rfl)) (fun _ _ _ h => h) (Or.inl ⟨by rfl, ?_⟩) ?_ ?_; rotate_left
                   · intro w'; go_simp; (with_reducible rfl)
                   rotate_left
                   · simp only [Act.put, ua, ub, uc, uh, ui]; rfl
                   refine xk (i := 9) (N := some 46) (v := ?_) (a' := ?_) (bA 18 8191) rfl rfl (xc HT_.out HW_.out (by kernel_rfl)) (fun _ _ _ h => h) (Or.inl ⟨by rfl, ?_⟩) hHeld ?_ ?_; rotate_left
                   · rintro w' ⟨s0, s1, s2, s3⟩; go_simp; (with_reducible rfl)
                   rotate_left
                   · simp only [Act.put, ua, ub, uc, uh, ui]; rfl
                   refine xk (i := 13) (N := some 50) (v := ?_) (a' := ?_) (bA 18 16383) rfl rfl (xc HT_.out HW_.out (by kernel_rfl)) (fun _ _ _ h => h) (Or.inl ⟨by rfl, ?_⟩) hHeld ?_ ?_; rotate_left
                   · rintro w' ⟨s0, s1, s2, s3⟩; go_simp; (with_reducible rfl)
                   rotate_left
                   · simp only [Act.put, ua, ub, uc, uh, ui]; rfl
                   refine uj (i := 14) (N := some 51) (v := ?_) (a' := ?_) (bA 18 32767) rfl rfl (ul HT_.out (by kernel_rfl)) (fun _ _ _ h => h) (Or.inl ⟨by rfl, ?_⟩) ?_ ?_; rotate_left
                   · intro w'; go_simp; (with_reducible rfl)
                   rotate_left
                   · simp only [Act.put, ua, ub, uc, uh, ui]; rfl
                   refine last_ (i := 15) (N := none) #[yY, yY, yY, yY, yY, yY, yY, yY, yY, yY, yY, yY, yY, yY, yY, yY, xX, xX] rfl rfl (one_of HT_.out (by kernel_rfl)) (by decide) (fun K hK => ?_); refine skip_ (w1 := ?_) (by rfl) rfl ?_ ?_; rotate_left
                   · go_simp; rfl
                   refine hK.out _ _ ?_; clear hK K; refine uj (i := 16) (N := some 52) (v := ?_) (a' := ?_) (bA 18 131071) rfl rfl (ul HT_.out (by kernel_rfl)) (fun _ _ _ h => h) (Or.inl ⟨by rfl, ?_⟩) ?_ ?_; rotate_left
                   · intro w'; go_simp; (with_reducible rfl)
                   rotate_left
                   · simp only [Act.put, ua, ub, uc, uh, ui]; rfl
                   refine last_ (i := 17) (N := none) #[yY, yY, yY, yY, yY, yY, yY, yY, yY, yY, yY, yY, yY, yY, yY, yY, yY, yY] rfl rfl (one_of HT_.out (by kernel_rfl)) (by decide) (fun K hK => ?_); refine skip_ (w1 := ?_) (by rfl) rfl ?_ ?_; rotate_left
                   · go_simp; rfl
                   refine hK.out _ _ ?_; clear hK K; refine done_ (done_of HT_.out (by kernel_rfl)) ?_
                   try go_wp2
                   go_roundg k2
                   case measure => have := HK1.out; have := HK2.out; omega
                   case rel => exact ⟨(y107), (ji9), (by first | rfl | (simp; done) | (simp only [← hji9] <;> (first | rfl | simp)) | (simp [*]; done)), H', ⟨by have := HK1.out; have := HK2.out; omega⟩, ⟨by (with_reducible repeat (first | apply vv | apply vu | apply vr)); exact HQ21.out⟩, ⟨by repeat (first | (with_reducible first | exact HK.out | apply vq | apply vp | apply vo | refine Kept.setCell ?_ HMgo14.out _ | refine Kept.setCell ?_ HMgo14.out _ | refine Kept.setCell ?_ HMgo14.out _ | refine Kept.setCell ?_ HMgo14.out _) | exact HK.out)⟩, ⟨by repeat (first | (with_reducible first | exact HB.out | apply uf | apply ud | apply ue | refine um ?_ GB14.out | refine um ?_ GB14.out | refine um ?_ GB14.out | refine um ?_ GB14.out) | exact HB.out)⟩⟩
                 · rw [if_neg c13] at H; have c13b0 : decide (t103 < 0) = false := decide_eq_false c13; clear c13; have H' := Aside0.mk H; clear H
                   try go_wp2
                   have n0_ := Aside0.mk (vr HO_0.out); have n1_ := Aside0.mk (vo HK.out); have n2_ := Aside0.mk (ue HB.out); clear HO_0 HK HB; have HO_0 := n0_; have HK := n1_; have HB := n2_; clear n0_ n1_ n2_; obtain ⟨Ao23, co23, eo23⟩ := xr HO_0.out; (first | subst eo23 | (injection eo23 with f1_ f2_ f3_; have f4_ := f1_.symm; have f5_ := f3_.symm; clear f1_ f2_ f3_; subst f4_; subst f5_)); have p101 : 0 ≤ (x9_2 : Int) := ug (by first | (with_reducible assumption) | assumption); have q101 : x9_2 < (x0_2.length : Int) := ug (by first | (with_reducible assumption) | assumption); obtain ⟨ad101, e101, hx101_0, hx101_1⟩ := at_T46 (xa HO_0.out).2.2 x9_2 p101 q101
                   cases e101
                   replace p101 := eq_true p101; replace q101 := eq_true q101; have p102 : 0 ≤ ((ji9) : Int) := ug (by first | (with_reducible assumption) | assumption); have q102 : (ji9) < (x0_2.length : Int) := ug (by first | (with_reducible assumption) | assumption); obtain ⟨ad102, e102, hx102_0, hx102_1⟩ := at_T46 (xa HO_0.out).2.2 (ji9) p102 q102; obtain rfl : ad101 = ad102 := (by injection e102); replace p102 := eq_true p102; replace q102 := eq_true q102; refine start_ (n := 17) (S := fun w' => w'.cell? (ad101.add ((x9_2).toNat * 2)) = some (.int .u64 ((rd_T46 x0_2 x9_2).f0)) ∧ w'.cell? ⟨(ad101.add ((x9_2).toNat * 2)).block, (ad101.add ((x9_2).toNat * 2)).off + 1, none⟩ = some (.int .i64 ((rd_T46 x0_2 x9_2).f1)) ∧ w'.cell? (ad101.add (((ji9)).toNat * 2)) = some (.int .u64 ((rd_T46 x0_2 (ji9)).f0)) ∧ w'.cell? ⟨(ad101.add (((ji9)).toNat * 2)).block, (ad101.add (((ji9)).toNat * 2)).off + 1, none⟩ = some (.int .i64 ((rd_T46 x0_2 (ji9)).f1))) (ds := []) #[xX, xX, xX, xX, xX, xX, xX, xX, xX, xX, xX, xX, xX, xX, xX, xX, xX] (by kernel_rfl) rfl rfl ⟨hx101_0, hx101_1, hx102_0, hx102_1⟩ (fun hHeld => ?_); refine xv api_Entry_131.tab4 api_Entry_131.bits4 (fun HT_ HW_ => ?_); generalize wr.drew = w22 at HO_0 HK HB hx101_0 hx101_1 hx102_0 hx102_1 hHeld ⊢; refine uj (i := 0) (N := some 18) (v := ?_) (a' := ?_) (bA 17 1) rfl rfl (ul HT_.out (by kernel_rfl)) (fun _ _ _ h => h) (Or.inl ⟨by rfl, ?_⟩) ?_ ?_; rotate_left
                   · intro w'; go_simp; (with_reducible rfl)
                   rotate_left
                   · simp only [Act.put, ua, ub, uc, uh, ui]; rfl
                   refine uj (i := 1) (N := some 19) (v := ?_) (a' := ?_) (bA 17 3) rfl rfl (ul HT_.out (by kernel_rfl)) (fun _ _ _ h => h) (Or.inl ⟨by rfl, ?_⟩) ?_ ?_; rotate_left
                   · intro w'; go_simp; (with_reducible rfl)
                   rotate_left
                   · simp only [Act.put, ua, ub, uc, uh, ui]; rfl
                   refine uj (i := 2) (N := some 20) (v := ?_) (a' := ?_) (bA 17 7) rfl rfl (ul HT_.out (by kernel_rfl)) (fun _ _ _ h => h) (Or.inl ⟨by rfl, ?_⟩) ?_ ?_; rotate_left
                   · intro w'; go_simp; (with_reducible rfl)
                   rotate_left
                   · simp only [Act.put, ua, ub, uc, uh, ui]; rfl
                   refine uj (i := 3) (N := some 21) (v := ?_) (a' := ?_) (bA 17 15) rfl rfl (ul HT_.out (by kernel_rfl)) (fun _ _ _ h => h) (Or.inl ⟨by rfl, ?_⟩) ?_ ?_; rotate_left
                   · intro w'; go_simp; (with_reducible rfl)
                   rotate_left
                   · simp only [Act.put, ua, ub, uc, uh, ui]; rfl
                   refine uj (i := 4) (N := some 22) (v := ?_) (a' := ?_) (bA 17 31) rfl rfl (ul HT_.out (by kernel_rfl)) (fun _ _ _ h => h) (Or.inl ⟨by rfl, ?_⟩) ?_ ?_; rotate_left
                   · intro w'; go_simp; (with_reducible rfl)
                   rotate_left
                   · simp only [Act.put, ua, ub, uc, uh, ui]; rfl
                   refine uj (i := 5) (N := some 23) (v := ?_) (a' := ?_) (bA 17 63) rfl rfl (ul HT_.out (by kernel_rfl)) (fun _ _ _ h => h) (Or.inl ⟨by rfl, ?_⟩) ?_ ?_; rotate_left
                   · intro w'; go_simp; (with_reducible rfl)
                   rotate_left
                   · simp only [Act.put, ua, ub, uc, uh, ui]; rfl
                   refine uj (i := 6) (N := some 24) (v := ?_) (a' := ?_) (bA 17 127) rfl rfl (ul HT_.out (by kernel_rfl)) (fun _ _ _ h => h) (Or.inl ⟨by rfl, ?_⟩) ?_ ?_; rotate_left
                   · intro w'; go_simp; (with_reducible rfl)
                   rotate_left
                   · simp only [Act.put, ua, ub, uc, uh, ui]; rfl
                   refine uj (i := 7) (N := some 25) (v := ?_) (a' := ?_) (bA 17 255) rfl rfl (ul HT_.out (by kernel_rfl)) (fun _ _ _ h => h) (Or.inl ⟨by rfl, ?_⟩) ?_ ?_; rotate_left
                   · intro w'; go_simp; (with_reducible rfl)
                   rotate_left
                   · simp only [Act.put, ua, ub, uc, uh, ui]; rfl
                   refine uj (i := 9) (N := some 27) (v := ?_) (a' := ?_) (bA 17 767) rfl rfl (ul HT_.out (by kernel_rfl)) (fun _ _ _ h => h) (Or.inl ⟨by rfl, ?_⟩) ?_ ?_; rotate_left
                   · intro w'; go_simp; (with_reducible rfl)
                   rotate_left
                   · simp only [Act.put, ua, ub, uc, uh, ui]; rfl
                   refine uj (i := 10) (N := some 28) (v := ?_) (a' := ?_) (bA 17 1791) rfl rfl (ul HT_.out (by kernel_rfl)) (fun _ _ _ h => h) (Or.inl ⟨by rfl, ?_⟩) ?_ ?_; rotate_left
                   · intro w'; go_simp; (with_reducible rfl)
                   rotate_left
                   · simp only [Act.put, ua, ub, uc, uh, ui]; rfl
                   refine uj (i := 11) (N := some 29) (v := ?_) (a' := ?_) (bA 17 3839) rfl rfl (ul HT_.out (by kernel_rfl)) (fun _ _ _ h => h) (Or.inl ⟨by rfl, ?_⟩) ?_ ?_; rotate_left
                   · intro w'; go_simp; (with_reducible rfl)
                   rotate_left
                   · simp only [Act.put, ua, ub, uc, uh, ui]; rfl
                   refine uj (i := 12) (N := some 30) (v := ?_) (a' := ?_) (bA 17 7935) rfl rfl (ul HT_.out (by kernel_rfl)) (fun _ _ _ h => h) (Or.inl ⟨by rfl, ?_⟩) ?_ ?_; rotate_left
                   · intro w'; go_simp; (with_reducible rfl)
                   rotate_left
                   · simp only [Act.put, ua, ub, uc, uh, ui]; rfl
                   refine xk (i := 8) (N := some 26) (v := ?_) (a' := ?_) (bA 17 8191) rfl rfl (xc HT_.out HW_.out (by kernel_rfl)) (fun _ _ _ h => h) (Or.inl ⟨by rfl, ?_⟩) hHeld ?_ ?_; rotate_left
                   · rintro w' ⟨s0, s1, s2, s3⟩; go_simp; (with_reducible rfl)
                   rotate_left
                   · simp only [Act.put, ua, ub, uc, uh, ui]; rfl
                   refine xk (i := 13) (N := some 31) (v := ?_) (a' := ?_) (bA 17 16383) rfl rfl (xc HT_.out HW_.out (by kernel_rfl)) (fun _ _ _ h => h) (Or.inl ⟨by rfl, ?_⟩) hHeld ?_ ?_; rotate_left
                   · rintro w' ⟨s0, s1, s2, s3⟩; go_simp; (with_reducible rfl)
                   rotate_left
                   · simp only [Act.put, ua, ub, uc, uh, ui]; rfl
                   refine one_ (i := 14) (N := some 32) #[yY, yY, yY, yY, yY, yY, yY, yY, yY, yY, yY, yY, yY, yY, yY, xX, xX] rfl rfl (one_of HT_.out (by kernel_rfl)) (by decide) (fun K hK => ?_); refine goesV_ Try.func115 (by kernel_rfl) rfl #[.agg #[.int .u64 ((rd_T46 x0_2 x9_2).f0), .int .i64 ((rd_T46 x0_2 x9_2).f1)], .agg #[.int .u64 ((rd_T46 x0_2 (ji9)).f0), .int .i64 ((rd_T46 x0_2 (ji9)).f1)]] (by rfl) rfl rfl (by rfl) (by (try simp only [un, uu, uv]); first | done | (simp only [hji9]; rfl) | rfl | (simp only [ur, uq]; rfl)) ?_; (with_reducible refine (entry_Sort_1.calls k2 ((rd_T46 x0_2 x9_2).f0) ((rd_T46 x0_2 x9_2).f1) ((rd_T46 x0_2 (ji9)).f0) ((rd_T46 x0_2 (ji9)).f1) t103 _ A12.out).mono ?_); rintro e w24 ⟨rfl, hb⟩; have HS0_ := (hb.cell (World.block_lt_of_cell? _ _ (hHeld.1))).trans (hHeld.1); have HS1_ := (hb.cell (World.block_lt_of_cell? _ _ (hHeld.2.1))).trans (hHeld.2.1); have HS2_ := (hb.cell (World.block_lt_of_cell? _ _ (hHeld.2.2.1))).trans (hHeld.2.2.1); have HS3_ := (hb.cell (World.block_lt_of_cell? _ _ (hHeld.2.2.2))).trans (hHeld.2.2.2); refine ⟨_, rfl, ?_⟩; have n0_ := Aside0.mk (Kd.RC_below (by (with_reducible repeat (first | apply vv | apply vu | apply vr)); exact HO_0.out) hb); have n1_ := Aside0.mk (Kept.below (S := (fun k_ => P0_ k_)) (by repeat (first | (with_reducible first | exact HK.out | apply vq | apply vp | apply vo) | exact HK.out)) hb); have n2_ := Aside0.mk (uo (by repeat (first | (with_reducible first | exact HB.out | apply uf | apply ud | apply ue) | exact HB.out)) hb); clear HO_0 HK HB; have HO_0 := n0_; have HK := n1_; have HB := n2_; clear n0_ n1_ n2_; (try clear hb); (try clear hb2); (try clear hk); (try clear hi); refine hK.out _ _ ⟨HS0_, HS1_, HS2_, HS3_⟩ (fun hHeld => ?_); clear hK K; refine xj (a' := ?_) ?_ ?_; rotate_left
                   · show Act.put _ (some 32) _ = _
                     simp only [Act.put, ua, ub, uc, uh, ui]; rfl
                   refine uj (i := 15) (N := some 33) (v := ?_) (a' := ?_) (bA 17 65535) rfl rfl (ul HT_.out (by kernel_rfl)) (fun _ _ _ h => h) (Or.inl ⟨by rfl, ?_⟩) ?_ ?_; rotate_left
                   · intro w'; go_simp; (with_reducible rfl)
                   rotate_left
                   · simp only [Act.put, ua, ub, uc, uh, ui]; rfl
                   refine uj (i := 16) (N := some 34) (v := ?_) (a' := ?_) (bA 17 131071) rfl rfl (ul HT_.out (by kernel_rfl)) (fun _ _ _ h => h) (Or.inl ⟨by rfl, ?_⟩) ?_ ?_; rotate_left
                   · intro w'; go_simp; (with_reducible rfl)
                   rotate_left
                   · simp only [Act.put, ua, ub, uc, uh, ui]; rfl
                   refine done_ (done_of HT_.out (by kernel_rfl)) ?_
                   try go_wp2
                   go_roundg k2
                   case measure => have := HK1.out; have := HK2.out; omega
                   case rel => exact ⟨(x0_2), (wrap64 (x8_1 + 1)), (by first | rfl | (simp; done) | (simp [*]; done)), H', ⟨by have := HK1.out; have := HK2.out; omega⟩, ⟨by (with_reducible repeat (first | apply vv | apply vu | apply vr)); exact HO_0.out⟩, ⟨by repeat (first | (with_reducible first | exact HK.out | apply vq | apply vp | apply vo) | exact HK.out)⟩, ⟨by repeat (first | (with_reducible first | exact HB.out | apply uf | apply ud | apply ue) | exact HB.out)⟩⟩
               · rw [if_neg c11] at H; exact absurd H (by simp)
             · rw [if_neg c10] at H; exact absurd H (by simp)
           · rw [if_neg c8] at H; exact absurd H (by simp)
         · rw [if_neg c7] at H; exact absurd H (by simp)
       · rw [if_neg c6] at H; have c6b0 : decide (a1 < x9_2) = false := decide_eq_false c6; clear c6; have H' := Aside0.mk H; clear H
         try go_wp2
         have n0_ := Aside0.mk (vr HO_0.out); have n1_ := Aside0.mk (vo HK.out); have n2_ := Aside0.mk (ue HB.out); clear HO_0 HK HB; have HO_0 := n0_; have HK := n1_; have HB := n2_; clear n0_ n1_ n2_; refine start_ (n := 17) (S := fun w' => True) (ds := []) #[xX, xX, xX, xX, xX, xX, xX, xX, xX, xX, xX, xX, xX, xX, xX, xX, xX] (by kernel_rfl) rfl rfl trivial (fun hHeld => ?_); refine xv api_Entry_131.tab4 api_Entry_131.bits4 (fun HT_ HW_ => ?_); generalize wr.drew = w25 at HO_0 HK HB hHeld ⊢; refine uj (i := 0) (N := some 18) (v := ?_) (a' := ?_) (bA 17 1) rfl rfl (ul HT_.out (by kernel_rfl)) (fun _ _ _ h => h) (Or.inl ⟨by rfl, ?_⟩) ?_ ?_; rotate_left
         · intro w'; go_simp; (with_reducible rfl)
         rotate_left
         · simp only [Act.put, ua, ub, uc, uh, ui]; rfl
         refine uj (i := 1) (N := some 19) (v := ?_) (a' := ?_) (bA 17 3) rfl rfl (ul HT_.out (by kernel_rfl)) (fun _ _ _ h => h) (Or.inl ⟨by rfl, ?_⟩) ?_ ?_; rotate_left
         · intro w'; go_simp; (with_reducible rfl)
         rotate_left
         · simp only [Act.put, ua, ub, uc, uh, ui]; rfl
         refine uj (i := 2) (N := some 20) (v := ?_) (a' := ?_) (bA 17 7) rfl rfl (ul HT_.out (by kernel_rfl)) (fun _ _ _ h => h) (Or.inl ⟨by rfl, ?_⟩) ?_ ?_; rotate_left
         · intro w'; go_simp; (with_reducible rfl)
         rotate_left
         · simp only [Act.put, ua, ub, uc, uh, ui]; rfl
         refine uj (i := 3) (N := some 21) (v := ?_) (a' := ?_) (bA 17 15) rfl rfl (ul HT_.out (by kernel_rfl)) (fun _ _ _ h => h) (Or.inl ⟨by rfl, ?_⟩) ?_ ?_; rotate_left
         · intro w'; go_simp; (with_reducible rfl)
         rotate_left
         · simp only [Act.put, ua, ub, uc, uh, ui]; rfl
         refine uj (i := 4) (N := some 22) (v := undef) (a' := ?_) (bA 17 31) rfl rfl (ul HT_.out (by kernel_rfl)) (fun _ _ _ h => h) (Or.inr ⟨by rfl, rfl⟩) ?_ ?_; rotate_left
         · simp only [Act.put, ua, ub, uc, uh, ui]; rfl
         refine uj (i := 5) (N := some 23) (v := undef) (a' := ?_) (bA 17 63) rfl rfl (ul HT_.out (by kernel_rfl)) (fun _ _ _ h => h) (Or.inr ⟨by rfl, rfl⟩) ?_ ?_; rotate_left
         · simp only [Act.put, ua, ub, uc, uh, ui]; rfl
         refine uj (i := 6) (N := some 24) (v := undef) (a' := ?_) (bA 17 127) rfl rfl (ul HT_.out (by kernel_rfl)) (fun _ _ _ h => h) (Or.inr ⟨by rfl, rfl⟩) ?_ ?_; rotate_left
         · simp only [Act.put, ua, ub, uc, uh, ui]; rfl
         refine uj (i := 7) (N := some 25) (v := undef) (a' := ?_) (bA 17 255) rfl rfl (ul HT_.out (by kernel_rfl)) (fun _ _ _ h => h) (Or.inr ⟨by rfl, rfl⟩) ?_ ?_; rotate_left
         · simp only [Act.put, ua, ub, uc, uh, ui]; rfl
         refine uj (i := 8) (N := some 26) (v := undef) (a' := ?_) (bA 17 511) rfl rfl (ul HT_.out (by kernel_rfl)) (fun _ _ _ h => h) (Or.inr ⟨by rfl, rfl⟩) ?_ ?_; rotate_left
         · simp only [Act.put, ua, ub, uc, uh, ui]; rfl
         refine uj (i := 9) (N := some 27) (v := undef) (a' := ?_) (bA 17 1023) rfl rfl (ul HT_.out (by kernel_rfl)) (fun _ _ _ h => h) (Or.inr ⟨by rfl, rfl⟩) ?_ ?_; rotate_left
         · simp only [Act.put, ua, ub, uc, uh, ui]; rfl
         refine uj (i := 10) (N := some 28) (v := undef) (a' := ?_) (bA 17 2047) rfl rfl (ul HT_.out (by kernel_rfl)) (fun _ _ _ h => h) (Or.inr ⟨by rfl, rfl⟩) ?_ ?_; rotate_left
         · simp only [Act.put, ua, ub, uc, uh, ui]; rfl
         refine uj (i := 11) (N := some 29) (v := undef) (a' := ?_) (bA 17 4095) rfl rfl (ul HT_.out (by kernel_rfl)) (fun _ _ _ h => h) (Or.inr ⟨by rfl, rfl⟩) ?_ ?_; rotate_left
         · simp only [Act.put, ua, ub, uc, uh, ui]; rfl
         refine uj (i := 12) (N := some 30) (v := undef) (a' := ?_) (bA 17 8191) rfl rfl (ul HT_.out (by kernel_rfl)) (fun _ _ _ h => h) (Or.inr ⟨by rfl, rfl⟩) ?_ ?_; rotate_left
         · simp only [Act.put, ua, ub, uc, uh, ui]; rfl
         refine uj (i := 13) (N := some 31) (v := undef) (a' := ?_) (bA 17 16383) rfl rfl (ul HT_.out (by kernel_rfl)) (fun _ _ _ h => h) (Or.inr ⟨by rfl, rfl⟩) ?_ ?_; rotate_left
         · simp only [Act.put, ua, ub, uc, uh, ui]; rfl
         refine uj (i := 14) (N := some 32) (v := undef) (a' := ?_) (bA 17 32767) rfl rfl (ul HT_.out (by kernel_rfl)) (fun _ _ _ h => h) (Or.inr ⟨by rfl, rfl⟩) ?_ ?_; rotate_left
         · simp only [Act.put, ua, ub, uc, uh, ui]; rfl
         refine uj (i := 15) (N := some 33) (v := undef) (a' := ?_) (bA 17 65535) rfl rfl (ul HT_.out (by kernel_rfl)) (fun _ _ _ h => h) (Or.inr ⟨by rfl, rfl⟩) ?_ ?_; rotate_left
         · simp only [Act.put, ua, ub, uc, uh, ui]; rfl
         refine uj (i := 16) (N := some 34) (v := ?_) (a' := ?_) (bA 17 131071) rfl rfl (ul HT_.out (by kernel_rfl)) (fun _ _ _ h => h) (Or.inl ⟨by rfl, ?_⟩) ?_ ?_; rotate_left
         · intro w'; go_simp; (with_reducible rfl)
         rotate_left
         · simp only [Act.put, ua, ub, uc, uh, ui]; rfl
         refine done_ (done_of HT_.out (by kernel_rfl)) ?_
         try go_wp2
         go_roundg k2
         case measure => have := HK1.out; have := HK2.out; omega
         case rel => exact ⟨(x0_2), (wrap64 (x8_1 + 1)), (by first | rfl | (simp; done) | (simp [*]; done)), H', ⟨by have := HK1.out; have := HK2.out; omega⟩, ⟨by (with_reducible repeat (first | apply vv | apply vu | apply vr)); exact HO_0.out⟩, ⟨by repeat (first | (with_reducible first | exact HK.out | apply vq | apply vp | apply vo) | exact HK.out)⟩, ⟨by repeat (first | (with_reducible first | exact HB.out | apply uf | apply ud | apply ue) | exact HB.out)⟩⟩
   · rw [if_neg c5] at H; have c5b0 : decide (x8_1 < a2) = false := decide_eq_false c5; clear c5; obtain rfl := Option.some.inj H
     go_wp2
     first | go_end0 | ((try simp only [Exit.inBlock, Exit.then]); refine bodyPost_ret (results_none rfl _ _ _) rfl ?_)
     exact ⟨by first | rfl | (simp [errW_none, errW_some] <;> rfl) | (simp [*, errW_none, errW_some] <;> rfl), by (with_reducible repeat (first | apply vv | apply vu | apply vr)); exact HO_0.out, by repeat (first | (with_reducible first | exact HB.out | apply uf | apply ud | apply ue) | exact HB.out), by repeat (first | (with_reducible first | exact HK.out | apply vq | apply vp | apply vo) | exact HK.out)⟩
def api_Entry_136.l0 : Nat → List (S46) → Int → Int → Int → Int → Option ((List (S46)))
  | 0, _, _, _, _, _ => none
  | k + 1, x0, x1, x2, x3, x10 => if x10 < x3 then (if 0 ≤ (wrap64 (x2 + x10)) then (if (wrap64 (x2 + x10)) < (x0.length : Int) then (if 0 ≤ (wrap64 (x1 + x10)) then (if (wrap64 (x1 + x10)) < (x0.length : Int) then (api_Entry_136.l0 k ((x0.set ((wrap64 (x1 + x10)) : Int).toNat (⟨(rd_T46 x0 (wrap64 (x2 + x10))).f0, (rd_T46 x0 (wrap64 (x2 + x10))).f1⟩ : S46)).set ((wrap64 (x2 + x10)) : Int).toNat (⟨(rd_T46 x0 (wrap64 (x1 + x10))).f0, (rd_T46 x0 (wrap64 (x1 + x10))).f1⟩ : S46)) x1 x2 x3 (wrap64 (x10 + 1))) else (none)) else (none)) else (none)) else (none)) else (some x0)
def api_Entry_136.f (k : Nat) (l0 : List (S46)) (a1 : Int) (a2 : Int) (a3 : Int)  : Option ((List (S46))) := api_Entry_136.l0 k l0 a1 a2 a3 0
def api_Entry_136.T3 : Bool × List (List Nat × List Nat) := (true, [([], []), ([], []), ([], []), ([1, 2], [1, 2]), ([], []), ([], []), ([], []), ([5, 6], [5, 6]), ([], []), ([], []), ([], []), ([9, 10], [9, 10]), ([8, 11], [8, 11]), ([12], [12]), ([], []), ([], []), ([], []), ([15, 16], [15, 16]), ([14, 17], [14, 17]), ([18], [18]), ([0, 3, 0, 1, 2, 3, 8, 9, 10, 11, 12, 13, 19], [0, 3]), ([20, 13, 0, 1, 2, 3, 8, 9, 10, 11, 12, 13, 19], [13, 20]), ([4, 7, 0, 1, 2, 3, 4, 5, 6, 7, 8, 9, 10, 11, 12, 13, 14, 15, 16, 17, 18, 19, 20, 21], [4, 7]), ([22, 19, 21, 0, 1, 2, 3, 4, 5, 6, 7, 8, 9, 10, 11, 12, 13, 14, 15, 16, 17, 18, 19, 20, 21], [19, 22])])
def api_Entry_136.B3 : List Nat := [0, 0, 0, 6, 0, 0, 0, 96, 0, 0, 0, 1536, 3840, 7936, 0, 0, 0, 98304, 245760, 507904, 1048335, 2096911, 4194303, 8388607]
theorem api_Entry_136.tab3 : rtab .any (opsOf Try.f136 3) = api_Entry_136.T3 := by kernel_rfl
theorem api_Entry_136.bits3 : waitsOk api_Entry_136.T3.2 api_Entry_136.B3 = true := by kernel_rfl
set_option maxHeartbeats 8000000 in
set_option maxRecDepth 100000 in
theorem api_Entry_136.calls (k : Nat) (P0_ : Nat → Prop) (u9000_ : Value) (l0 : List (S46)) (a1 : Int) (a2 : Int) (a3 : Int)  (r : List (S46)) (w0 w : World) (hB : Below w0.heap.size w0 w) (ho0 : Kd.RC k46 46 w w0.heap.size P0_ u9000_ l0) (h : api_Entry_136.f k l0 a1 a2 a3 = some r) :
 Calls Try.prog 136 #[u9000_, .int .i64 a1, .int .i64 a2, .int .i64 a3, .func (.func 115) #[] #[]] w fun e w' => e = .returned (.tuple #[]) ∧ Kd.RC k46 46 w' w0.heap.size (fun k_ => (P0_ k_ ∨ w.heap.size ≤ k_)) u9000_ r ∧ Below w0.heap.size w0 w' ∧ Kept w w' (fun k_ => P0_ k_) := by
 have hu46 := Try.underlying46; have HO0 := Aside0.mk (show Kd.RC k46 46 w w0.heap.size (fun k_ => (P0_ k_ ∨ w.heap.size ≤ k_)) u9000_ l0 from Kd.RC_mono ho0 (fun k_ hk => (.inl hk))); have HK := Aside0.mk (Kept.refl w (fun k_ => P0_ k_)); have HW0 := Aside0.mk hB.size; have HB := Aside0.mk hB; clear hB; have H : (api_Entry_136.l0 k l0 a1 a2 a3 0) = some r := h; clear h; have H' := Aside0.mk H; clear H; go_enter Try.func136, Try.ntmps136
 go_wp2
 go_loopg [10] k (fun kq v10 w' => ∃ (x0_1 : List (S46)) (x10_1 : Int), v10 = .int .i64 x10_1 ∧ Aside0 (api_Entry_136.l0 kq x0_1 a1 a2 a3 x10_1 = some r) ∧ Aside0 (kq ≤ k) ∧ Aside0 (Kd.RC k46 46 w' w0.heap.size (fun k_ => (P0_ k_ ∨ w.heap.size ≤ k_)) u9000_ x0_1) ∧ Aside0 (Kept w w' (fun k_ => P0_ k_)) ∧ Aside0 (Below w0.heap.size w0 w'))
 case atStart => exact ⟨(l0), (0), (by first | rfl | (simp; done) | (simp [*]; done)), H', ⟨vn _⟩, ⟨by (with_reducible repeat (first | apply vv | apply vu | apply vr)); exact HO0.out⟩, ⟨by repeat (first | (with_reducible first | exact HK.out | apply vq | apply vp | apply vo) | exact HK.out)⟩, ⟨by repeat (first | (with_reducible first | exact HB.out | apply uf | apply ud | apply ue) | exact HB.out)⟩⟩
 case round =>
  clear H'
  try clear c1
  try clear p2
  obtain ⟨x0_1, x10_1, rfl, HA, HK1, HO_0, HK, HB⟩ := hrel
  cases gk with
  | zero => exact absurd HA.out (by simp [api_Entry_136.l0])
  | succ k1 =>
   have H := HA.out; clear HA; simp only [api_Entry_136.l0] at H
   by_cases c6 : x10_1 < a3
   · rw [if_pos c6] at H; have c6b0 : decide (x10_1 < a3) = true := decide_eq_true c6; clear c6; obtain ⟨ji7, hji7⟩ : ∃ j_ : Int, (wrap64 (a2 + x10_1)) = j_ := ⟨_, rfl⟩; (replace H : (if 0 ≤ (ji7) then (if (ji7) < (x0_1.length : Int) then (if 0 ≤ (wrap64 (a1 + x10_1)) then (if (wrap64 (a1 + x10_1)) < (x0_1.length : Int) then (api_Entry_136.l0 k1 ((x0_1.set ((wrap64 (a1 + x10_1)) : Int).toNat (⟨(rd_T46 x0_1 (ji7)).f0, (rd_T46 x0_1 (ji7)).f1⟩ : S46)).set ((ji7) : Int).toNat (⟨(rd_T46 x0_1 (wrap64 (a1 + x10_1))).f0, (rd_T46 x0_1 (wrap64 (a1 + x10_1))).f1⟩ : S46)) a1 a2 a3 (wrap64 (x10_1 + 1))) else (none)) else (none)) else (none)) else (none)) = some r := by first | (rw [hji7] at H; exact H) | (simp only [hji7] at H ⊢; exact H)); have hji7w : (IntKind.i64.wrap (a2 + x10_1)) = ji7 := (uh _).trans hji7
     by_cases c8 : 0 ≤ (ji7)
     · rw [if_pos c8] at H; have c8b0 : decide (0 ≤ (ji7)) = true := decide_eq_true c8; clear c8
       by_cases c9 : (ji7) < (x0_1.length : Int)
       · rw [if_pos c9] at H; have c9b0 : decide ((ji7) < (x0_1.length : Int)) = true := decide_eq_true c9; clear c9; obtain ⟨ji10, hji10⟩ : ∃ j_ : Int, (wrap64 (a1 + x10_1)) = j_ := ⟨_, rfl⟩; (replace H : (if 0 ≤ (ji10) then (if (ji10) < (x0_1.length : Int) then (api_Entry_136.l0 k1 ((x0_1.set ((ji10) : Int).toNat (⟨(rd_T46 x0_1 (ji7)).f0, (rd_T46 x0_1 (ji7)).f1⟩ : S46)).set ((ji7) : Int).toNat (⟨(rd_T46 x0_1 (ji10)).f0, (rd_T46 x0_1 (ji10)).f1⟩ : S46)) a1 a2 a3 (wrap64 (x10_1 + 1))) else (none)) else (none)) = some r := by first | (rw [hji10] at H; exact H) | (simp only [hji10] at H ⊢; exact H)); have hji10w : (IntKind.i64.wrap (a1 + x10_1)) = ji10 := (uh _).trans hji10
         by_cases c11 : 0 ≤ (ji10)
         · rw [if_pos c11] at H; have c11b0 : decide (0 ≤ (ji10)) = true := decide_eq_true c11; clear c11
           by_cases c12 : (ji10) < (x0_1.length : Int)
           · rw [if_pos c12] at H; have c12b0 : decide ((ji10) < (x0_1.length : Int)) = true := decide_eq_true c12; clear c12; obtain ⟨y103, hy103⟩ : ∃ y_ : List (S46), y_ = (x0_1.set ((ji10) : Int).toNat (⟨(rd_T46 x0_1 (ji7)).f0, (rd_T46 x0_1 (ji7)).f1⟩ : S46)) := ⟨_, rfl⟩; (replace H : (api_Entry_136.l0 k1 (y103.set ((ji7) : Int).toNat (⟨(rd_T46 x0_1 (ji10)).f0, (rd_T46 x0_1 (ji10)).f1⟩ : S46)) a1 a2 a3 (wrap64 (x10_1 + 1))) = some r := by first | (rw [hy103]; with_reducible exact H) | (have H2_ := (uw _ _).symm.trans H; rw [hy103]; with_reducible exact H2_) | (have H2_ := (uw _ _).symm.trans H; with_reducible exact H2_) | with_reducible exact H | (rw [hy103]; exact H) | exact H); have Ny103 := Aside0.mk hy103; clear hy103; obtain ⟨y104, hy104⟩ : ∃ y_ : List (S46), y_ = (y103.set ((ji7) : Int).toNat (⟨(rd_T46 x0_1 (ji10)).f0, (rd_T46 x0_1 (ji10)).f1⟩ : S46)) := ⟨_, rfl⟩; (replace H : (api_Entry_136.l0 k1 y104 a1 a2 a3 (wrap64 (x10_1 + 1))) = some r := by first | (rw [hy104]; with_reducible exact H) | (have H2_ := (uw _ _).symm.trans H; rw [hy104]; with_reducible exact H2_) | (have H2_ := (uw _ _).symm.trans H; with_reducible exact H2_) | with_reducible exact H | (rw [hy104]; exact H) | exact H); have Ny104 := Aside0.mk hy104; clear hy104; have H' := Aside0.mk H; clear H
             try go_wp2
             have n0_ := Aside0.mk (vr HO_0.out); have n1_ := Aside0.mk (vo HK.out); have n2_ := Aside0.mk (ue HB.out); clear HO_0 HK HB; have HO_0 := n0_; have HK := n1_; have HB := n2_; clear n0_ n1_ n2_; obtain ⟨Ao16, co16, eo16⟩ := xr HO_0.out; (first | subst eo16 | (injection eo16 with f1_ f2_ f3_; have f4_ := f1_.symm; have f5_ := f3_.symm; clear f1_ f2_ f3_; subst f4_; subst f5_)); have p101 : 0 ≤ ((ji7) : Int) := ug (by first | (with_reducible assumption) | assumption); have q101 : (ji7) < (x0_1.length : Int) := ug (by first | (with_reducible assumption) | assumption); obtain ⟨ad101, e101, hx101_0, hx101_1⟩ := at_T46 (xa HO_0.out).2.2 (ji7) p101 q101
             cases e101
             replace p101 := eq_true p101; replace q101 := eq_true q101; have p102 : 0 ≤ ((ji10) : Int) := ug (by first | (with_reducible assumption) | assumption); have q102 : (ji10) < (x0_1.length : Int) := ug (by first | (with_reducible assumption) | assumption); obtain ⟨ad102, e102, hx102_0, hx102_1⟩ := at_T46 (xa HO_0.out).2.2 (ji10) p102 q102; obtain rfl : ad101 = ad102 := (by injection e102); replace p102 := eq_true p102; replace q102 := eq_true q102; have p13 : 0 ≤ ((ji10) : Int) := ug (by first | (with_reducible assumption) | assumption); have q13 : ((ji10) : Int) < ((x0_1.length : Int) : Int) := ug (by first | (with_reducible assumption) | assumption); obtain ⟨go13, co13, eo13, gb13, gl13, cl13, HG13⟩ := Kd.RC_form HO_0.out (by omega); (first | cases eo13 | (injection eo13 with ea_ en_ ec_; (first | subst ea_ | (injection ea_ with ea_; subst ea_)); subst ec_; clear en_)); have GB13 := Aside0.mk gb13; have GG13 := Aside0.mk HG13; clear gb13 gl13 HG13; have HMgo13 := Aside0.mk (show (P0_ go13 ∨ w.heap.size ≤ go13) from (HO_0.out.1 _ rfl)); (first | simp only [add_plain] at hx101_0 | skip); (first | simp only [add_plain] at hx101_1 | skip); (first | simp only [add_plain] at hx102_0 | skip); (first | simp only [add_plain] at hx102_1 | skip); obtain ⟨ce13, hcl13, hM13, hcc13, hfr13⟩ := Kd.RC_elem HO_0.out z46 ((ji10) : Int) p13 q13; obtain rfl := k46_openM hM13; have hx13_0 : World.cell? _ ⟨go13, ((ji10) : Int).toNat * 2, none⟩ = some (.int .u64 ((rd_T46 x0_1 (ji10)).f0)) := hcc13 0 _ rfl; have hx13_1 : World.cell? _ ⟨go13, ((ji10) : Int).toNat * 2 + 1, none⟩ = some (.int .i64 ((rd_T46 x0_1 (ji10)).f1)) := hcc13 1 _ rfl; have hf13_0 : World.frozen? _ ⟨go13, ((ji10) : Int).toNat * 2, none⟩ = false := hfr13 0; have hf13_1 : World.frozen? _ ⟨go13, ((ji10) : Int).toNat * 2 + 1, none⟩ = false := hfr13 1; clear hcl13 hcc13 hfr13 hM13; replace p13 := eq_true p13; replace q13 := eq_true q13; obtain ⟨ce17, hcl17, hM17, hcc17, hfr17⟩ := Kd.RC_elem HO_0.out z46 ((ji10) : Int) (ug (by first | (with_reducible assumption) | assumption)) (by have h_ : ((ji10) : Int) < ((x0_1.length : Int) : Int) := ug (by first | (with_reducible assumption) | assumption); first | exact h_ | (have e_ := (xa HO_0.out).1; omega) | simpa using h_); obtain rfl := k46_openM hM17; have HP17 := (Kd.RC_seg HO_0.out ((ji10) : Int) (ug (by first | (with_reducible assumption) | assumption)) (by have h_ : ((ji10) : Int) < ((x0_1.length : Int) : Int) := ug (by first | (with_reducible assumption) | assumption); first | exact h_ | (have e_ := (xa HO_0.out).1; omega) | simpa using h_) (seg := [.int .u64 ((rd_T46 x0_1 (ji7)).f0), .int .i64 ((rd_T46 x0_1 (ji7)).f1)]) (j := 0) hcl17 hcc17 (show 2 ≤ 2 from by decide) (x' := (⟨(rd_T46 x0_1 (ji7)).f0, (rd_T46 x0_1 (ji7)).f1⟩ : S46)) (k46_mkM _ _ _ (⟨(rd_T46 x0_1 (ji7)).f0, (rd_T46 x0_1 (ji7)).f1⟩ : S46) ) (fun _ hk => hk)).1; rw [← Ny103.out] at HP17; have HQ17 := Aside0.mk HP17; clear hcl17 hcc17 hfr17 hM17 HP17; have p14 : 0 ≤ ((ji7) : Int) := ug (by first | (with_reducible assumption) | assumption); have q14 : ((ji7) : Int) < ((x0_1.length : Int) : Int) := ug (by first | (with_reducible assumption) | assumption); obtain ⟨ce14, hcl14, hM14, hcc14, hfr14⟩ := Kd.RC_elem HQ17.out z46 ((ji7) : Int) p14 q14; obtain rfl := k46_openM hM14; have hx14_0 : World.cell? _ ⟨go13, ((ji7) : Int).toNat * 2, none⟩ = some (.int .u64 ((rd_T46 y103 (ji7)).f0)) := hcc14 0 _ rfl; have hx14_1 : World.cell? _ ⟨go13, ((ji7) : Int).toNat * 2 + 1, none⟩ = some (.int .i64 ((rd_T46 y103 (ji7)).f1)) := hcc14 1 _ rfl; have hf14_0 : World.frozen? _ ⟨go13, ((ji7) : Int).toNat * 2, none⟩ = false := hfr14 0; have hf14_1 : World.frozen? _ ⟨go13, ((ji7) : Int).toNat * 2 + 1, none⟩ = false := hfr14 1; clear hcl14 hcc14 hfr14 hM14; replace p14 := eq_true p14; replace q14 := eq_true q14; obtain ⟨ce18, hcl18, hM18, hcc18, hfr18⟩ := Kd.RC_elem HQ17.out z46 ((ji7) : Int) (ug (by first | (with_reducible assumption) | assumption)) (by have h_ : ((ji7) : Int) < ((x0_1.length : Int) : Int) := ug (by first | (with_reducible assumption) | assumption); first | exact h_ | (have e_ := (xa HO_0.out).1; omega) | simpa using h_); obtain rfl := k46_openM hM18; have HP18 := (Kd.RC_seg HQ17.out ((ji7) : Int) (ug (by first | (with_reducible assumption) | assumption)) (by have h_ : ((ji7) : Int) < ((x0_1.length : Int) : Int) := ug (by first | (with_reducible assumption) | assumption); first | exact h_ | (have e_ := (xa HO_0.out).1; omega) | simpa using h_) (seg := [.int .u64 ((rd_T46 x0_1 (ji10)).f0), .int .i64 ((rd_T46 x0_1 (ji10)).f1)]) (j := 0) hcl18 hcc18 (show 2 ≤ 2 from by decide) (x' := (⟨(rd_T46 x0_1 (ji10)).f0, (rd_T46 x0_1 (ji10)).f1⟩ : S46)) (k46_mkM _ _ _ (⟨(rd_T46 x0_1 (ji10)).f0, (rd_T46 x0_1 (ji10)).f1⟩ : S46) ) (fun _ hk => hk)).1; rw [← Ny104.out] at HP18; have HQ18 := Aside0.mk HP18; clear hcl18 hcc18 hfr18 hM18 HP18; refine start_ (n := 24) (S := fun w' => w'.cell? (⟨go13, (((ji7)).toNat * 2), none⟩ : Addr) = some (.int .u64 ((rd_T46 x0_1 (ji7)).f0)) ∧ w'.cell? ⟨(⟨go13, (((ji7)).toNat * 2), none⟩ : Addr).block, (⟨go13, (((ji7)).toNat * 2), none⟩ : Addr).off + 1, none⟩ = some (.int .i64 ((rd_T46 x0_1 (ji7)).f1)) ∧ w'.cell? (⟨go13, (((ji10)).toNat * 2), none⟩ : Addr) = some (.int .u64 ((rd_T46 x0_1 (ji10)).f0)) ∧ w'.cell? ⟨(⟨go13, (((ji10)).toNat * 2), none⟩ : Addr).block, (⟨go13, (((ji10)).toNat * 2), none⟩ : Addr).off + 1, none⟩ = some (.int .i64 ((rd_T46 x0_1 (ji10)).f1))) (ds := [21, 23]) #[xX, xX, xX, xX, xX, xX, xX, xX, xX, xX, xX, xX, xX, xX, xX, xX, xX, xX, xX, xX, xX, xX, xX, xX] (by kernel_rfl) rfl rfl ⟨hx101_0, hx101_1, hx102_0, hx102_1⟩ (fun hHeld => ?_); refine xv api_Entry_136.tab3 api_Entry_136.bits3 (fun HT_ HW_ => ?_)
             generalize wr.drew = w15 at HO_0 HK HB GG13 HQ17 HQ18 hf13_0 hf13_1 hf14_0 hf14_1 hx101_0 hx101_1 hx102_0 hx102_1 hx13_0 hx13_1 hx14_0 hx14_1 hHeld ⊢; have hz14_0 : World.frozen? w15 ⟨go13, ((ji7) : Int).toNat * 2, none⟩ = false := peel_f hf14_0; have hz14_1 : World.frozen? w15 ⟨go13, ((ji7) : Int).toNat * 2 + 1, none⟩ = false := peel_f hf14_1; have hy14_0 : World.cell? (World.setCell w15 ⟨go13, ((ji10) : Int).toNat * 2, none⟩ (.int .u64 ((rd_T46 x0_1 (ji7)).f0))) ⟨go13, ((ji7) : Int).toNat * 2, none⟩ = some (.int .u64 ((rd_T46 y103 (ji7)).f0)) := peel_c0 hx14_0 (by show ((ji10) : Int).toNat * 2 + 1 ≠ _; omega); have hy14_1 : World.cell? ((World.setCell w15 ⟨go13, ((ji10) : Int).toNat * 2, none⟩ (.int .u64 ((rd_T46 x0_1 (ji7)).f0))).setCell ⟨go13, ((ji10) : Int).toNat * 2 + 1, none⟩ (.int .i64 ((rd_T46 x0_1 (ji7)).f1))) ⟨go13, ((ji7) : Int).toNat * 2 + 1, none⟩ = some (.int .i64 ((rd_T46 y103 (ji7)).f1)) := hx14_1; refine uj (i := 0) (N := some 16) (v := ?_) (a' := ?_) (bA 24 1) rfl rfl (ul HT_.out (by kernel_rfl)) (fun _ _ _ h => h) (Or.inl ⟨by rfl, ?_⟩) ?_ ?_; rotate_left
             · intro w'; go_simp; (with_reducible rfl)
             rotate_left
             · simp only [Act.put, ua, ub, uc, uh, ui]; rfl
             refine uj (i := 1) (N := some 17) (v := ?_) (a' := ?_) (bA 24 3) rfl rfl (ul HT_.out (by kernel_rfl)) (fun _ _ _ h => h) (Or.inl ⟨by rfl, ?_⟩) ?_ ?_; rotate_left
             · intro w'; go_simp; (with_reducible rfl)
             rotate_left
             · simp only [Act.put, ua, ub, uc, uh, ui]; rfl
             refine uj (i := 2) (N := some 18) (v := ?_) (a' := ?_) (bA 24 7) rfl rfl (ul HT_.out (by kernel_rfl)) (fun _ _ _ h => h) (Or.inl ⟨by rfl, ?_⟩) ?_ ?_; rotate_left
             · intro w'; go_simp; (with_reducible rfl)
             rotate_left
             · simp only [Act.put, ua, ub, uc, uh, ui]; rfl
             refine uj (i := 3) (N := some 19) (v := ?_) (a' := ?_) (bA 24 15) rfl rfl (ul HT_.out (by kernel_rfl)) (fun _ _ _ h => h) (Or.inl ⟨by rfl, ?_⟩) ?_ ?_; rotate_left
             · intro w'; go_simp; (with_reducible rfl)
             rotate_left
             · simp only [Act.put, ua, ub, uc, uh, ui]; rfl
             refine uj (i := 4) (N := some 20) (v := ?_) (a' := ?_) (bA 24 31) rfl rfl (ul HT_.out (by kernel_rfl)) (fun _ _ _ h => h) (Or.inl ⟨by rfl, ?_⟩) ?_ ?_; rotate_left
             · intro w'; go_simp; (with_reducible rfl)
             rotate_left
             · simp only [Act.put, ua, ub, uc, uh, ui]; rfl
             refine uj (i := 5) (N := some 21) (v := ?_) (a' := ?_) (bA 24 63) rfl rfl (ul HT_.out (by kernel_rfl)) (fun _ _ _ h => h) (Or.inl ⟨by rfl, ?_⟩) ?_ ?_; rotate_left
             · intro w'; go_simp; (with_reducible rfl)
             rotate_left
             · simp only [Act.put, ua, ub, uc, uh, ui]; rfl
             refine uj (i := 6) (N := some 22) (v := ?_) (a' := ?_) (bA 24 127) rfl rfl (ul HT_.out (by kernel_rfl)) (fun _ _ _ h => h) (Or.inl ⟨by rfl, ?_⟩) ?_ ?_; rotate_left
             · intro w'; go_simp; (with_reducible rfl)
             rotate_left
             · simp only [Act.put, ua, ub, uc, uh, ui]; rfl
             refine uj (i := 7) (N := some 23) (v := ?_) (a' := ?_) (bA 24 255) rfl rfl (ul HT_.out (by kernel_rfl)) (fun _ _ _ h => h) (Or.inl ⟨by rfl, ?_⟩) ?_ ?_; rotate_left
             · intro w'; go_simp; (with_reducible rfl)
             rotate_left
             · simp only [Act.put, ua, ub, uc, uh, ui]; rfl
             refine uj (i := 8) (N := some 24) (v := ?_) (a' := ?_) (bA 24 511) rfl rfl (ul HT_.out (by kernel_rfl)) (fun _ _ _ h => h) (Or.inl ⟨by rfl, ?_⟩) ?_ ?_; rotate_left
             · intro w'; go_simp; (with_reducible rfl)
             rotate_left
             · simp only [Act.put, ua, ub, uc, uh, ui]; rfl
             refine uj (i := 9) (N := some 25) (v := ?_) (a' := ?_) (bA 24 1023) rfl rfl (ul HT_.out (by kernel_rfl)) (fun _ _ _ h => h) (Or.inl ⟨by rfl, ?_⟩) ?_ ?_; rotate_left
             · intro w'; go_simp; (with_reducible rfl)
             rotate_left
             · simp only [Act.put, ua, ub, uc, uh, ui]; rfl
             refine uj (i := 10) (N := some 26) (v := ?_) (a' := ?_) (bA 24 2047) rfl rfl (ul HT_.out (by kernel_rfl)) (fun _ _ _ h => h) (Or.inl ⟨by rfl, ?_⟩) ?_ ?_; rotate_left
             · intro w'; go_simp; (with_reducible rfl)
             rotate_left
             · simp only [Act.put, ua, ub, uc, uh, ui]; rfl
             refine uj (i := 11) (N := some 27) (v := ?_) (a' := ?_) (bA 24 4095) rfl rfl (ul HT_.out (by kernel_rfl)) (fun _ _ _ h => h) (Or.inl ⟨by rfl, ?_⟩) ?_ ?_; rotate_left
             · intro w'; go_simp; (with_reducible rfl)
             rotate_left
             · simp only [Act.put, ua, ub, uc, uh, ui]; rfl
             refine uj (i := 12) (N := some 28) (v := ?_) (a' := ?_) (bA 24 8191) rfl rfl (ul HT_.out (by kernel_rfl)) (fun _ _ _ h => h) (Or.inl ⟨by rfl, ?_⟩) ?_ ?_; rotate_left
             · intro w'; go_simp; (with_reducible rfl)
             rotate_left
             · simp only [Act.put, ua, ub, uc, uh, ui]; rfl
             refine uj (i := 14) (N := some 30) (v := ?_) (a' := ?_) (bA 24 24575) rfl rfl (ul HT_.out (by kernel_rfl)) (fun _ _ _ h => h) (Or.inl ⟨by rfl, ?_⟩) ?_ ?_; rotate_left
             · intro w'; go_simp; (with_reducible rfl)
             rotate_left
             · simp only [Act.put, ua, ub, uc, uh, ui]; rfl
             refine uj (i := 15) (N := some 31) (v := ?_) (a' := ?_) (bA 24 57343) rfl rfl (ul HT_.out (by kernel_rfl)) (fun _ _ _ h => h) (Or.inl ⟨by rfl, ?_⟩) ?_ ?_; rotate_left
             · intro w'; go_simp; (with_reducible rfl)
             rotate_left
             · simp only [Act.put, ua, ub, uc, uh, ui]; rfl
             refine uj (i := 16) (N := some 32) (v := ?_) (a' := ?_) (bA 24 122879) rfl rfl (ul HT_.out (by kernel_rfl)) (fun _ _ _ h => h) (Or.inl ⟨by rfl, ?_⟩) ?_ ?_; rotate_left
             · intro w'; go_simp; (with_reducible rfl)
             rotate_left
             · simp only [Act.put, ua, ub, uc, uh, ui]; rfl
             refine uj (i := 17) (N := some 33) (v := ?_) (a' := ?_) (bA 24 253951) rfl rfl (ul HT_.out (by kernel_rfl)) (fun _ _ _ h => h) (Or.inl ⟨by rfl, ?_⟩) ?_ ?_; rotate_left
             · intro w'; go_simp; (with_reducible rfl)
             rotate_left
             · simp only [Act.put, ua, ub, uc, uh, ui]; rfl
             refine uj (i := 18) (N := some 34) (v := ?_) (a' := ?_) (bA 24 516095) rfl rfl (ul HT_.out (by kernel_rfl)) (fun _ _ _ h => h) (Or.inl ⟨by rfl, ?_⟩) ?_ ?_; rotate_left
             · intro w'; go_simp; (with_reducible rfl)
             rotate_left
             · simp only [Act.put, ua, ub, uc, uh, ui]; rfl
             refine xk (i := 13) (N := some 29) (v := ?_) (a' := ?_) (bA 24 524287) rfl rfl (xc HT_.out HW_.out (by kernel_rfl)) (fun _ _ _ h => h) (Or.inl ⟨by rfl, ?_⟩) hHeld ?_ ?_; rotate_left
             · rintro w' ⟨s0, s1, s2, s3⟩; go_simp; (with_reducible rfl)
             rotate_left
             · simp only [Act.put, ua, ub, uc, uh, ui]; rfl
             refine xk (i := 19) (N := some 35) (v := ?_) (a' := ?_) (bA 24 1048575) rfl rfl (xc HT_.out HW_.out (by kernel_rfl)) (fun _ _ _ h => h) (Or.inl ⟨by rfl, ?_⟩) hHeld ?_ ?_; rotate_left
             · rintro w' ⟨s0, s1, s2, s3⟩; go_simp; (with_reducible rfl)
             rotate_left
             · simp only [Act.put, ua, ub, uc, uh, ui]; rfl
             refine uj (i := 20) (N := some 36) (v := ?_) (a' := ?_) (bA 24 2097151) rfl rfl (ul HT_.out (by kernel_rfl)) (fun _ _ _ h => h) (Or.inl ⟨by rfl, ?_⟩) ?_ ?_; rotate_left
             · intro w'; go_simp; (with_reducible rfl)
             rotate_left
             · simp only [Act.put, ua, ub, uc, uh, ui]; rfl
             refine last_ (i := 21) (N := none) #[yY, yY, yY, yY, yY, yY, yY, yY, yY, yY, yY, yY, yY, yY, yY, yY, yY, yY, yY, yY, yY, yY, xX, xX] rfl rfl (one_of HT_.out (by kernel_rfl)) (by decide) (fun K hK => ?_); refine skip_ (w1 := ?_) (by rfl) rfl ?_ ?_; rotate_left
             · go_simp; rfl
             refine hK.out _ _ ?_; clear hK K; refine uj (i := 22) (N := some 37) (v := ?_) (a' := ?_) (bA 24 8388607) rfl rfl (ul HT_.out (by kernel_rfl)) (fun _ _ _ h => h) (Or.inl ⟨by rfl, ?_⟩) ?_ ?_; rotate_left
             · intro w'; go_simp; (with_reducible rfl)
             rotate_left
             · simp only [Act.put, ua, ub, uc, uh, ui]; rfl
             refine last_ (i := 23) (N := none) #[yY, yY, yY, yY, yY, yY, yY, yY, yY, yY, yY, yY, yY, yY, yY, yY, yY, yY, yY, yY, yY, yY, yY, yY] rfl rfl (one_of HT_.out (by kernel_rfl)) (by decide) (fun K hK => ?_); refine skip_ (w1 := ?_) (by rfl) rfl ?_ ?_; rotate_left
             · go_simp; rfl
             refine hK.out _ _ ?_; clear hK K; refine done_ (done_of HT_.out (by kernel_rfl)) ?_
             try go_wp2
             go_roundg k1
             case measure => have := HK1.out; omega
             case rel => exact ⟨(y104), (wrap64 (x10_1 + 1)), (by first | rfl | (simp; done) | (simp [*]; done)), H', ⟨by have := HK1.out; omega⟩, ⟨by (with_reducible repeat (first | apply vv | apply vu | apply vr)); exact HQ18.out⟩, ⟨by repeat (first | (with_reducible first | exact HK.out | apply vq | apply vp | apply vo | refine Kept.setCell ?_ HMgo13.out _ | refine Kept.setCell ?_ HMgo13.out _ | refine Kept.setCell ?_ HMgo13.out _ | refine Kept.setCell ?_ HMgo13.out _) | exact HK.out)⟩, ⟨by repeat (first | (with_reducible first | exact HB.out | apply uf | apply ud | apply ue | refine um ?_ GB13.out | refine um ?_ GB13.out | refine um ?_ GB13.out | refine um ?_ GB13.out) | exact HB.out)⟩⟩
           · rw [if_neg c12] at H; exact absurd H (by simp)
         · rw [if_neg c11] at H; exact absurd H (by simp)
       · rw [if_neg c9] at H; exact absurd H (by simp)
     · rw [if_neg c8] at H; exact absurd H (by simp)
   · rw [if_neg c6] at H; have c6b0 : decide (x10_1 < a3) = false := decide_eq_false c6; clear c6; obtain rfl := Option.some.inj H
     go_wp2
     first | go_end0 | ((try simp only [Exit.inBlock, Exit.then]); refine bodyPost_ret (results_none rfl _ _ _) rfl ?_)
     exact ⟨by first | rfl | (simp [errW_none, errW_some] <;> rfl) | (simp [*, errW_none, errW_some] <;> rfl), by (with_reducible repeat (first | apply vv | apply vu | apply vr)); exact HO_0.out, by repeat (first | (with_reducible first | exact HB.out | apply uf | apply ud | apply ue) | exact HB.out), by repeat (first | (with_reducible first | exact HK.out | apply vq | apply vp | apply vo) | exact HK.out)⟩
def api_Entry_134.l0 : Nat → List (S46) → Int → Int → Int → Option ((List (S46)))
  | 0, _, _, _, _ => none
  | k + 1, x0, x2, x10, x11 => if x10 = x11 then ((api_Entry_136.f k x0 (wrap64 (x2 - x10)) x2 x10).bind fun t101 => (some t101)) else (if x10 > x11 then ((api_Entry_136.f k x0 (wrap64 (x2 - x10)) x2 x11).bind fun t102 => (api_Entry_134.l0 k t102 x2 (wrap64 (x10 - x11)) x11)) else ((api_Entry_136.f k x0 (wrap64 (x2 - x10)) (wrap64 ((wrap64 (x2 + x11)) - x10)) x10).bind fun t103 => (api_Entry_134.l0 k t103 x2 x10 (wrap64 (x11 - x10)))))
def api_Entry_134.f (k : Nat) (l0 : List (S46)) (a1 : Int) (a2 : Int) (a3 : Int)  : Option ((List (S46))) := api_Entry_134.l0 k l0 a2 (wrap64 (a2 - a1)) (wrap64 (a3 - a2))
set_option maxHeartbeats 8000000 in
set_option maxRecDepth 100000 in
theorem api_Entry_134.calls (k : Nat) (P0_ : Nat → Prop) (u9000_ : Value) (l0 : List (S46)) (a1 : Int) (a2 : Int) (a3 : Int)  (r : List (S46)) (w0 w : World) (hB : Below w0.heap.size w0 w) (ho0 : Kd.RC k46 46 w w0.heap.size P0_ u9000_ l0) (h : api_Entry_134.f k l0 a1 a2 a3 = some r) :
 Calls Try.prog 134 #[u9000_, .int .i64 a1, .int .i64 a2, .int .i64 a3, .func (.func 115) #[] #[]] w fun e w' => e = .returned (.tuple #[]) ∧ Kd.RC k46 46 w' w0.heap.size (fun k_ => (P0_ k_ ∨ w.heap.size ≤ k_)) u9000_ r ∧ Below w0.heap.size w0 w' ∧ Kept w w' (fun k_ => P0_ k_) := by
 have HO0 := Aside0.mk (show Kd.RC k46 46 w w0.heap.size (fun k_ => (P0_ k_ ∨ w.heap.size ≤ k_)) u9000_ l0 from Kd.RC_mono ho0 (fun k_ hk => (.inl hk))); have HK := Aside0.mk (Kept.refl w (fun k_ => P0_ k_)); have HW0 := Aside0.mk hB.size; have HB := Aside0.mk hB; clear hB; have H : (api_Entry_134.l0 k l0 a2 (wrap64 (a2 - a1)) (wrap64 (a3 - a2))) = some r := h; clear h; have H' := Aside0.mk H; clear H; go_enter Try.func134, Try.ntmps134
 go_wp2
 go_loopg [10, 11] k (fun kq v10 v11 w' => ∃ (x0_1 : List (S46)) (x10_1 : Int) (x11_1 : Int), v10 = .int .i64 x10_1 ∧ v11 = .int .i64 x11_1 ∧ Aside0 (api_Entry_134.l0 kq x0_1 a2 x10_1 x11_1 = some r) ∧ Aside0 (kq ≤ k) ∧ Aside0 (Kd.RC k46 46 w' w0.heap.size (fun k_ => (P0_ k_ ∨ w.heap.size ≤ k_)) u9000_ x0_1) ∧ Aside0 (Kept w w' (fun k_ => P0_ k_)) ∧ Aside0 (Below w0.heap.size w0 w'))
 case atStart => exact ⟨(l0), (wrap64 (a2 - a1)), (wrap64 (a3 - a2)), (by first | rfl | (simp; done) | (simp [*]; done)), (by first | rfl | (simp; done) | (simp [*]; done)), H', ⟨vn _⟩, ⟨by (with_reducible repeat (first | apply vv | apply vu | apply vr)); exact HO0.out⟩, ⟨by repeat (first | (with_reducible first | exact HK.out | apply vq | apply vp | apply vo) | exact HK.out)⟩, ⟨by repeat (first | (with_reducible first | exact HB.out | apply uf | apply ud | apply ue) | exact HB.out)⟩⟩
 case round =>
  clear H'
  try clear c1
  try clear p2
  obtain ⟨x0_1, x10_1, x11_1, rfl, rfl, HA, HK1, HO_0, HK, HB⟩ := hrel
  cases gk with
  | zero => exact absurd HA.out (by simp [api_Entry_134.l0])
  | succ k1 =>
   have H := HA.out; clear HA; simp only [api_Entry_134.l0] at H
   by_cases c6 : x10_1 = x11_1
   · rw [if_pos c6] at H; have c6b0 : (x10_1 == x11_1) = true := beq_iff_eq.mpr c6; have c6b1 : (x10_1 != x11_1) = false := bne_eq_false_iff_eq.mpr c6; clear c6; replace H := Option.bind_eq_some_iff.mp H; obtain ⟨t101, A70, H⟩ := H; replace H : (some t101) = some r := H; have A7 := Aside0.mk A70; clear A70; obtain rfl := Option.some.inj H; obtain ⟨Ao8, co8, eo8⟩ := xr HO_0.out; subst eo8
     go_wp2_with (first | ((with_reducible refine vz (f := 136) rfl ?_); refine xq (some 57) rfl rfl Try.func136 (by kernel_rfl) rfl #[.slice Ao8 x0_1.length co8, .int .i64 (wrap64 (a2 - x10_1)), .int .i64 a2, .int .i64 x10_1, .func (.func 115) #[] #[]] rfl (by (try simp only [un, uu, uv]); first | done | rfl | (simp only [ur, uq]; rfl)) ?_; (with_reducible refine (api_Entry_136.calls k1 (fun k_ => some k_ = (.slice Ao8 x0_1.length co8 : Value).ownBlock) (.slice Ao8 x0_1.length co8) x0_1 (wrap64 (a2 - x10_1)) a2 x10_1  t101 w0 _ ?side1 ?side2 A7.out).mono ?_); (case side1 => repeat (first | (with_reducible first | exact HB.out | apply uf | apply ud | apply ue) | exact HB.out)); (case side2 => exact Kd.RC_tight rfl HO_0.out); rintro e w9 ⟨rfl, hy0, hb, hkp⟩; refine ⟨_, rfl, ?_⟩; have n0_ := Aside0.mk (Kd.RC_reok rfl hy0 (fun k_ e_ => HO_0.out.1 k_ e_)); have n1_ := Aside0.mk (Kept.then_ (S := (fun k_ => P0_ k_)) (by repeat (first | (with_reducible first | exact HK.out | apply vq | apply vp | apply vo) | exact HK.out)) hkp (fun k_ hs_ => (fun e_ => (HO_0.out.1 k_ e_.symm)) hs_)); have n2_ := Aside0.mk (hb); clear HO_0; clear HK; clear HB; have HO_0 := n0_; have HK := n1_; have HB := n2_; clear n0_ n1_ n2_; (try clear hb); (try clear hkp); (try clear hy0)))
     first | go_end0 | ((try simp only [Exit.inBlock, Exit.then]); refine bodyPost_ret (results_none rfl _ _ _) rfl ?_)
     exact ⟨by first | rfl | (simp [errW_none, errW_some] <;> rfl) | (simp [*, errW_none, errW_some] <;> rfl), by (with_reducible repeat (first | apply vv | apply vu | apply vr)); exact HO_0.out, by repeat (first | (with_reducible first | exact HB.out | apply uf | apply ud | apply ue) | exact HB.out), by repeat (first | (with_reducible first | exact HK.out | apply vq | apply vp | apply vo) | exact HK.out)⟩
   · rw [if_neg c6] at H; have c6b0 : (x10_1 == x11_1) = false := beq_eq_false_iff_ne.mpr c6; have c6b1 : (x10_1 != x11_1) = true := bne_iff_ne.mpr c6
     by_cases c10 : x10_1 > x11_1
     · rw [if_pos c10] at H; have c10b0 : decide (x11_1 < x10_1) = true := decide_eq_true c10; clear c10; replace H := Option.bind_eq_some_iff.mp H; obtain ⟨t102, A110, H⟩ := H; replace H : (api_Entry_134.l0 k1 t102 a2 (wrap64 (x10_1 - x11_1)) x11_1) = some r := H; have A11 := Aside0.mk A110; clear A110; have H' := Aside0.mk H; clear H; obtain ⟨Ao12, co12, eo12⟩ := xr HO_0.out; subst eo12
       go_wp2_with (first | ((with_reducible refine vz (f := 136) rfl ?_); refine xq (some 31) rfl rfl Try.func136 (by kernel_rfl) rfl #[.slice Ao12 x0_1.length co12, .int .i64 (wrap64 (a2 - x10_1)), .int .i64 a2, .int .i64 x11_1, .func (.func 115) #[] #[]] rfl (by (try simp only [un, uu, uv]); first | done | rfl | (simp only [ur, uq]; rfl)) ?_; (with_reducible refine (api_Entry_136.calls k1 (fun k_ => some k_ = (.slice Ao12 x0_1.length co12 : Value).ownBlock) (.slice Ao12 x0_1.length co12) x0_1 (wrap64 (a2 - x10_1)) a2 x11_1  t102 w0 _ ?side1 ?side2 A11.out).mono ?_); (case side1 => repeat (first | (with_reducible first | exact HB.out | apply uf | apply ud | apply ue) | exact HB.out)); (case side2 => exact Kd.RC_tight rfl HO_0.out); rintro e w13 ⟨rfl, hy0, hb, hkp⟩; refine ⟨_, rfl, ?_⟩; have n0_ := Aside0.mk (Kd.RC_reok rfl hy0 (fun k_ e_ => HO_0.out.1 k_ e_)); have n1_ := Aside0.mk (Kept.then_ (S := (fun k_ => P0_ k_)) (by repeat (first | (with_reducible first | exact HK.out | apply vq | apply vp | apply vo) | exact HK.out)) hkp (fun k_ hs_ => (fun e_ => (HO_0.out.1 k_ e_.symm)) hs_)); have n2_ := Aside0.mk (hb); clear HO_0; clear HK; clear HB; have HO_0 := n0_; have HK := n1_; have HB := n2_; clear n0_ n1_ n2_; (try clear hb); (try clear hkp); (try clear hy0)))
       go_roundg k1
       case measure => have := HK1.out; omega
       case rel => exact ⟨(t102), (wrap64 (x10_1 - x11_1)), (x11_1), (by first | rfl | (simp; done) | (simp [*]; done)), (by first | rfl | (simp; done) | (simp [*]; done)), H', ⟨by have := HK1.out; omega⟩, ⟨by (with_reducible repeat (first | apply vv | apply vu | apply vr)); exact HO_0.out⟩, ⟨by repeat (first | (with_reducible first | exact HK.out | apply vq | apply vp | apply vo) | exact HK.out)⟩, ⟨by repeat (first | (with_reducible first | exact HB.out | apply uf | apply ud | apply ue) | exact HB.out)⟩⟩
     · rw [if_neg c10] at H; have c10b0 : decide (x11_1 < x10_1) = false := decide_eq_false c10; clear c10; replace H := Option.bind_eq_some_iff.mp H; obtain ⟨t103, A140, H⟩ := H; replace H : (api_Entry_134.l0 k1 t103 a2 x10_1 (wrap64 (x11_1 - x10_1))) = some r := H; have A14 := Aside0.mk A140; clear A140; have H' := Aside0.mk H; clear H; obtain ⟨Ao15, co15, eo15⟩ := xr HO_0.out; subst eo15
       go_wp2_with (first | ((with_reducible refine vz (f := 136) rfl ?_); refine xq (some 46) rfl rfl Try.func136 (by kernel_rfl) rfl #[.slice Ao15 x0_1.length co15, .int .i64 (wrap64 (a2 - x10_1)), .int .i64 (wrap64 ((wrap64 (a2 + x11_1)) - x10_1)), .int .i64 x10_1, .func (.func 115) #[] #[]] rfl (by (try simp only [un, uu, uv]); first | done | rfl | (simp only [ur, uq]; rfl)) ?_; (with_reducible refine (api_Entry_136.calls k1 (fun k_ => some k_ = (.slice Ao15 x0_1.length co15 : Value).ownBlock) (.slice Ao15 x0_1.length co15) x0_1 (wrap64 (a2 - x10_1)) (wrap64 ((wrap64 (a2 + x11_1)) - x10_1)) x10_1  t103 w0 _ ?side1 ?side2 A14.out).mono ?_); (case side1 => repeat (first | (with_reducible first | exact HB.out | apply uf | apply ud | apply ue) | exact HB.out)); (case side2 => exact Kd.RC_tight rfl HO_0.out); rintro e w16 ⟨rfl, hy0, hb, hkp⟩; refine ⟨_, rfl, ?_⟩; have n0_ := Aside0.mk (Kd.RC_reok rfl hy0 (fun k_ e_ => HO_0.out.1 k_ e_)); have n1_ := Aside0.mk (Kept.then_ (S := (fun k_ => P0_ k_)) (by repeat (first | (with_reducible first | exact HK.out | apply vq | apply vp | apply vo) | exact HK.out)) hkp (fun k_ hs_ => (fun e_ => (HO_0.out.1 k_ e_.symm)) hs_)); have n2_ := Aside0.mk (hb); clear HO_0; clear HK; clear HB; have HO_0 := n0_; have HK := n1_; have HB := n2_; clear n0_ n1_ n2_; (try clear hb); (try clear hkp); (try clear hy0)))
       go_roundg k1
       case measure => have := HK1.out; omega
       case rel => exact ⟨(t103), (x10_1), (wrap64 (x11_1 - x10_1)), (by first | rfl | (simp; done) | (simp [*]; done)), (by first | rfl | (simp; done) | (simp [*]; done)), H', ⟨by have := HK1.out; omega⟩, ⟨by (with_reducible repeat (first | apply vv | apply vu | apply vr)); exact HO_0.out⟩, ⟨by repeat (first | (with_reducible first | exact HK.out | apply vq | apply vp | apply vo) | exact HK.out)⟩, ⟨by repeat (first | (with_reducible first | exact HB.out | apply uf | apply ud | apply ue) | exact HB.out)⟩⟩
end Go.Proofs.Ytdfndglenbckhaa.V
