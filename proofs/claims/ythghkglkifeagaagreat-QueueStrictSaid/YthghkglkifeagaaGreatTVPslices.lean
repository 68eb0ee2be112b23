-- a text of this work, without what this claim doesn't use (wip/shake.py)
import Derived.Test.YthghkglkifeagaaGreatTVPentry
namespace Go.Proofs.YthghkglkifeagaaGreat.V
open Go.RowKit Go.Proofs.YthghkglkifeagaaGreatW.PrintWords Go.Proofs.YthghkglkifeagaaGreatW.PrintLast Go.Proofs.YthghkglkifeagaaGreatW.PrintMore
attribute [local go_sem] max2_int min2_int max_two min_two max_three min_three max_four min_four
set_option linter.unusedVariables false
set_option linter.unusedSimpArgs false
def api_Entry_128.l0 : Nat → List (S33) → Int → Option (Bool)
  | 0, _, _ => none
  | k + 1, x0, x5 => if x5 > 0 then (if 0 ≤ x5 then (if x5 < (x0.length : Int) then (if 0 ≤ (wrap64 (x5 - 1)) then (if (wrap64 (x5 - 1)) < (x0.length : Int) then ((entry_compare.f k ((rd_T33 x0 x5).f0) ((rd_T33 x0 x5).f1) ((rd_T33 x0 (wrap64 (x5 - 1))).f0) ((rd_T33 x0 (wrap64 (x5 - 1))).f1)).bind fun t103 => (if t103 < 0 then (some false) else (api_Entry_128.l0 k x0 (wrap64 (x5 - 1))))) else (none)) else (none)) else (none)) else (none)) else (some true)
def api_Entry_128.f (k : Nat) (l0 : List (S33))  : Option (Bool) := api_Entry_128.l0 k l0 (wrap64 ((l0.length : Int) - 1))
def api_Entry_128.T4 : Bool × List (List Nat × List Nat) := (true, [([], []), ([], []), ([], []), ([1, 2], [1, 2]), ([3], [3]), ([], []), ([], []), ([6], [6]), ([5, 7], [5, 7]), ([8], [8]), ([0, 4, 9], [0, 4, 9]), ([10], [10])])
def api_Entry_128.B4 : List Nat := [0, 0, 0, 6, 14, 0, 0, 64, 224, 480, 1023, 2047]
theorem api_Entry_128.tab4 : rtab .any (opsOf Tryz.f128 4) = api_Entry_128.T4 := by kernel_rfl
theorem api_Entry_128.bits4 : waitsOk api_Entry_128.T4.2 api_Entry_128.B4 = true := by kernel_rfl
set_option maxHeartbeats 8000000 in
set_option maxRecDepth 100000 in
theorem api_Entry_128.calls (k : Nat) (A0 : Option Addr) (c0 : Nat) (l0 : List (S33))  (r : Bool) (w : World) (hr0 : Kd.C k33 w A0 l0.length l0) (hc0 : l0.length ≤ c0) (h : api_Entry_128.f k l0 = some r) :
 Calls Tryz.prog 128 #[.slice A0 l0.length c0, .func (.func 86) #[] #[]] w fun e w' => e = .returned (.bool r) ∧ Below w.heap.size w w' := by
 have hu33 := Tryz.underlying33; have HR0 := Aside0.mk hr0; have HC0 := Aside0.mk hc0; clear hr0 hc0; have HB := Aside0.mk (Below.refl w.heap.size w); have H : (api_Entry_128.l0 k l0 (wrap64 ((l0.length : Int) - 1))) = some r := h; clear h; have H' := Aside0.mk H; clear H; go_enter Tryz.func128, Tryz.ntmps128
 go_wp2
 go_loopg [5] k (fun kq v5 w' => ∃ (x5_1 : Int), v5 = .int .i64 x5_1 ∧ Aside0 (api_Entry_128.l0 kq l0 x5_1 = some r) ∧ Aside0 (kq ≤ k) ∧ Aside0 (Below w.heap.size w w'))
 case atStart => exact ⟨(wrap64 ((l0.length : Int) - 1)), (by first | rfl | (simp; done) | (simp [*]; done)), H', ⟨vx _⟩, ⟨by repeat (first | (with_reducible first | exact HB.out | apply uf | apply ud | apply ue) | exact HB.out)⟩⟩
 case round =>
  clear H'
  try clear c1
  try clear p2
  obtain ⟨x5_1, rfl, HA, HK1, HB⟩ := hrel
  cases gk with
  | zero => exact absurd HA.out (by simp [api_Entry_128.l0])
  | succ k1 =>
   have H := HA.out; clear HA; simp only [api_Entry_128.l0] at H
   by_cases c3 : x5_1 > 0
   · rw [if_pos c3] at H; have c3b0 : decide (0 < x5_1) = true := decide_eq_true c3; clear c3
     by_cases c4 : 0 ≤ x5_1
     · rw [if_pos c4] at H; have c4b0 : decide (0 ≤ x5_1) = true := decide_eq_true c4; clear c4
       by_cases c5 : x5_1 < (l0.length : Int)
       · rw [if_pos c5] at H; have c5b0 : decide (x5_1 < (l0.length : Int)) = true := decide_eq_true c5; clear c5; obtain ⟨ji6, hji6⟩ : ∃ j_ : Int, (wrap64 (x5_1 - 1)) = j_ := ⟨_, rfl⟩; (replace H : (if 0 ≤ (ji6) then (if (ji6) < (l0.length : Int) then ((entry_compare.f k1 ((rd_T33 l0 x5_1).f0) ((rd_T33 l0 x5_1).f1) ((rd_T33 l0 (ji6)).f0) ((rd_T33 l0 (ji6)).f1)).bind fun t103 => (if t103 < 0 then (some false) else (api_Entry_128.l0 k1 l0 ji6))) else (none)) else (none)) = some r := by first | (rw [hji6] at H; exact H) | (simp only [hji6] at H ⊢; exact H)); have hji6w : (IntKind.i64.wrap (x5_1 - 1)) = ji6 := (uh _).trans hji6
         by_cases c7 : 0 ≤ (ji6)
         · rw [if_pos c7] at H; have c7b0 : decide (0 ≤ (ji6)) = true := decide_eq_true c7; clear c7
           by_cases c8 : (ji6) < (l0.length : Int)
           · rw [if_pos c8] at H; have c8b0 : decide ((ji6) < (l0.length : Int)) = true := decide_eq_true c8; clear c8; replace H := Option.bind_eq_some_iff.mp H; obtain ⟨t103, A90, H⟩ := H; replace H : (if t103 < 0 then (some false) else (api_Entry_128.l0 k1 l0 ji6)) = some r := H; have A9 := Aside0.mk A90; clear A90
             by_cases c10 : t103 < 0
             · rw [if_pos c10] at H; have c10b0 : decide (t103 < 0) = true := decide_eq_true c10; clear c10; obtain rfl := Option.some.inj H
               try go_wp2
               have n0_ := Aside0.mk (ue HB.out); clear HB; have HB := n0_; clear n0_; have p101 : 0 ≤ (x5_1 : Int) := ug (by first | (with_reducible assumption) | assumption); have q101 : x5_1 < (l0.length : Int) := ug (by first | (with_reducible assumption) | assumption); obtain ⟨ad101, e101, hx101_0, hx101_1⟩ := at_T33 HR0.out x5_1 p101 q101; have hw101_1 := hx101_1; have hw101_0 := hx101_0
               cases e101
               replace hx101_0 := (HB.out.cell (World.block_lt_of_cell? w _ hx101_0)).trans hx101_0; replace hx101_1 := (HB.out.cell (World.block_lt_of_cell? w _ hx101_1)).trans hx101_1; replace p101 := eq_true p101; replace q101 := eq_true q101; have p102 : 0 ≤ ((ji6) : Int) := ug (by first | (with_reducible assumption) | assumption); have q102 : (ji6) < (l0.length : Int) := ug (by first | (with_reducible assumption) | assumption); obtain ⟨ad102, e102, hx102_0, hx102_1⟩ := at_T33 HR0.out (ji6) p102 q102; have hw102_1 := hx102_1; have hw102_0 := hx102_0; obtain rfl : ad101 = ad102 := (by injection e102); replace hx102_0 := (HB.out.cell (World.block_lt_of_cell? w _ hx102_0)).trans hx102_0; replace hx102_1 := (HB.out.cell (World.block_lt_of_cell? w _ hx102_1)).trans hx102_1; replace p102 := eq_true p102; replace q102 := eq_true q102; refine start_ (n := 12) (S := fun w' => w'.cell? (ad101.add ((x5_1).toNat * 2)) = some (.int .u64 ((rd_T33 l0 x5_1).f0)) ∧ w'.cell? ⟨(ad101.add ((x5_1).toNat * 2)).block, (ad101.add ((x5_1).toNat * 2)).off + 1, none⟩ = some (.int .i64 ((rd_T33 l0 x5_1).f1)) ∧ w'.cell? (ad101.add (((ji6)).toNat * 2)) = some (.int .u64 ((rd_T33 l0 (ji6)).f0)) ∧ w'.cell? ⟨(ad101.add (((ji6)).toNat * 2)).block, (ad101.add (((ji6)).toNat * 2)).off + 1, none⟩ = some (.int .i64 ((rd_T33 l0 (ji6)).f1))) (ds := []) #[xX, xX, xX, xX, xX, xX, xX, xX, xX, xX, xX, xX] (by kernel_rfl) rfl rfl ⟨((HB.out.cell (World.block_lt_of_cell? w _ hw101_0)).trans hw101_0), ((HB.out.cell (World.block_lt_of_cell? w _ hw101_1)).trans hw101_1), ((HB.out.cell (World.block_lt_of_cell? w _ hw102_0)).trans hw102_0), ((HB.out.cell (World.block_lt_of_cell? w _ hw102_1)).trans hw102_1)⟩ (fun hHeld => ?_); refine xj api_Entry_128.tab4 api_Entry_128.bits4 (fun HT_ HW_ => ?_); generalize wr.drew = w11 at HB hx101_0 hx101_1 hx102_0 hx102_1 hHeld ⊢; refine pU (i := 0) (N := some 13) (bA 12 1) (uj HT_.out (by kernel_rfl)) rfl ?_
               refine pU (i := 1) (N := some 14) (bA 12 3) (uj HT_.out (by kernel_rfl)) rfl ?_
               refine pU (i := 2) (N := some 15) (bA 12 7) (uj HT_.out (by kernel_rfl)) rfl ?_
               refine pU (i := 3) (N := some 16) (bA 12 15) (uj HT_.out (by kernel_rfl)) rfl ?_
               refine pU (i := 5) (N := some 18) (bA 12 47) (uj HT_.out (by kernel_rfl)) rfl ?_
               refine pU (i := 6) (N := some 19) (bA 12 111) (uj HT_.out (by kernel_rfl)) rfl ?_
               refine pU (i := 7) (N := some 20) (bA 12 239) (uj HT_.out (by kernel_rfl)) rfl ?_
               refine pU (i := 8) (N := some 21) (bA 12 495) (uj HT_.out (by kernel_rfl)) rfl ?_
               refine tU (i := 4) (N := some 17) (bA 12 511) (vy HT_.out HW_.out (by kernel_rfl)) rfl hHeld (by (constructor; (rintro w' ⟨s0, s1, s2, s3⟩; go_simp; (with_reducible rfl)); (simp only [Act.put, ua, ub, uc, uh, ui]; rfl))) ?_
               refine tU (i := 9) (N := some 22) (bA 12 1023) (vy HT_.out HW_.out (by kernel_rfl)) rfl hHeld (by (constructor; (rintro w' ⟨s0, s1, s2, s3⟩; go_simp; (with_reducible rfl)); (simp only [Act.put, ua, ub, uc, uh, ui]; rfl))) ?_
               refine one_ (i := 10) (N := some 23) #[yY, yY, yY, yY, yY, yY, yY, yY, yY, yY, yY, xX] rfl rfl (one_of HT_.out (by kernel_rfl)) (by decide) (fun K hK => ?_); refine goesV_ Tryz.func86 (by kernel_rfl) rfl #[.agg #[.int .u64 ((rd_T33 l0 x5_1).f0), .int .i64 ((rd_T33 l0 x5_1).f1)], .agg #[.int .u64 ((rd_T33 l0 (ji6)).f0), .int .i64 ((rd_T33 l0 (ji6)).f1)]] (by rfl) rfl rfl (by rfl) (by (try simp only [uk, ur, us]); first | done | (simp only [hji6]; rfl) | rfl | (simp only [um, uo]; rfl)) ?_; (with_reducible refine (entry_compare.calls k1 ((rd_T33 l0 x5_1).f0) ((rd_T33 l0 x5_1).f1) ((rd_T33 l0 (ji6)).f0) ((rd_T33 l0 (ji6)).f1) t103 _ A9.out).mono ?_); rintro e w12 ⟨rfl, hb⟩; refine ⟨_, rfl, ?_⟩; have n0_ := Aside0.mk (vp (by repeat (first | (with_reducible first | exact HB.out | apply uf | apply ud | apply ue) | exact HB.out)) hb); clear HB; have HB := n0_; clear n0_; (try clear hb); (try clear hb2); (try clear hk); (try clear hi); refine hK.out _ _ ⟨((HB.out.cell (World.block_lt_of_cell? w _ hw101_0)).trans hw101_0), ((HB.out.cell (World.block_lt_of_cell? w _ hw101_1)).trans hw101_1), ((HB.out.cell (World.block_lt_of_cell? w _ hw102_0)).trans hw102_0), ((HB.out.cell (World.block_lt_of_cell? w _ hw102_1)).trans hw102_1)⟩ (fun hHeld => ?_); clear hK K; refine norm_ (a' := ?_) ?_ ?_; rotate_left
               · show Act.put _ (some 23) _ = _
                 simp only [Act.put, ua, ub, uc, uh, ui]; rfl
               refine pU (i := 11) (N := some 24) (bA 12 4095) (uj HT_.out (by kernel_rfl)) rfl ?_
               refine done_ (done_of HT_.out (by kernel_rfl)) ?_
               try go_wp2
               go_ret
               exact ⟨by first | rfl | (simp [errW_none, errW_some] <;> rfl) | (simp only [← hji6]; first | rfl | (simp [errW_none, errW_some] <;> rfl)) | (simp [*, errW_none, errW_some] <;> rfl), by repeat (first | (with_reducible first | exact HB.out | apply uf | apply ud | apply ue) | exact HB.out)⟩
             · rw [if_neg c10] at H; have c10b0 : decide (t103 < 0) = false := decide_eq_false c10; clear c10; have H' := Aside0.mk H; clear H
               try go_wp2
               have n0_ := Aside0.mk (ue HB.out); clear HB; have HB := n0_; clear n0_; have p101 : 0 ≤ (x5_1 : Int) := ug (by first | (with_reducible assumption) | assumption); have q101 : x5_1 < (l0.length : Int) := ug (by first | (with_reducible assumption) | assumption); obtain ⟨ad101, e101, hx101_0, hx101_1⟩ := at_T33 HR0.out x5_1 p101 q101; have hw101_1 := hx101_1; have hw101_0 := hx101_0
               cases e101
               replace hx101_0 := (HB.out.cell (World.block_lt_of_cell? w _ hx101_0)).trans hx101_0; replace hx101_1 := (HB.out.cell (World.block_lt_of_cell? w _ hx101_1)).trans hx101_1; replace p101 := eq_true p101; replace q101 := eq_true q101; have p102 : 0 ≤ ((ji6) : Int) := ug (by first | (with_reducible assumption) | assumption); have q102 : (ji6) < (l0.length : Int) := ug (by first | (with_reducible assumption) | assumption); obtain ⟨ad102, e102, hx102_0, hx102_1⟩ := at_T33 HR0.out (ji6) p102 q102; have hw102_1 := hx102_1; have hw102_0 := hx102_0; obtain rfl : ad101 = ad102 := (by injection e102); replace hx102_0 := (HB.out.cell (World.block_lt_of_cell? w _ hx102_0)).trans hx102_0; replace hx102_1 := (HB.out.cell (World.block_lt_of_cell? w _ hx102_1)).trans hx102_1; replace p102 := eq_true p102; replace q102 := eq_true q102; refine start_ (n := 12) (S := fun w' => w'.cell? (ad101.add ((x5_1).toNat * 2)) = some (.int .u64 ((rd_T33 l0 x5_1).f0)) ∧ w'.cell? ⟨(ad101.add ((x5_1).toNat * 2)).block, (ad101.add ((x5_1).toNat * 2)).off + 1, none⟩ = some (.int .i64 ((rd_T33 l0 x5_1).f1)) ∧ w'.cell? (ad101.add (((ji6)).toNat * 2)) = some (.int .u64 ((rd_T33 l0 (ji6)).f0)) ∧ w'.cell? ⟨(ad101.add (((ji6)).toNat * 2)).block, (ad101.add (((ji6)).toNat * 2)).off + 1, none⟩ = some (.int .i64 ((rd_T33 l0 (ji6)).f1))) (ds := []) #[xX, xX, xX, xX, xX, xX, xX, xX, xX, xX, xX, xX] (by kernel_rfl) rfl rfl ⟨((HB.out.cell (World.block_lt_of_cell? w _ hw101_0)).trans hw101_0), ((HB.out.cell (World.block_lt_of_cell? w _ hw101_1)).trans hw101_1), ((HB.out.cell (World.block_lt_of_cell? w _ hw102_0)).trans hw102_0), ((HB.out.cell (World.block_lt_of_cell? w _ hw102_1)).trans hw102_1)⟩ (fun hHeld => ?_); refine xj api_Entry_128.tab4 api_Entry_128.bits4 (fun HT_ HW_ => ?_); generalize wr.drew = w13 at HB hx101_0 hx101_1 hx102_0 hx102_1 hHeld ⊢; refine pU (i := 0) (N := some 13) (bA 12 1) (uj HT_.out (by kernel_rfl)) rfl ?_
               refine pU (i := 1) (N := some 14) (bA 12 3) (uj HT_.out (by kernel_rfl)) rfl ?_
               refine pU (i := 2) (N := some 15) (bA 12 7) (uj HT_.out (by kernel_rfl)) rfl ?_
               refine pU (i := 3) (N := some 16) (bA 12 15) (uj HT_.out (by kernel_rfl)) rfl ?_
               refine pU (i := 5) (N := some 18) (bA 12 47) (uj HT_.out (by kernel_rfl)) rfl ?_
               refine pU (i := 6) (N := some 19) (bA 12 111) (uj HT_.out (by kernel_rfl)) rfl ?_
               refine pU (i := 7) (N := some 20) (bA 12 239) (uj HT_.out (by kernel_rfl)) rfl ?_
               refine pU (i := 8) (N := some 21) (bA 12 495) (uj HT_.out (by kernel_rfl)) rfl ?_
               refine tU (i := 4) (N := some 17) (bA 12 511) (vy HT_.out HW_.out (by kernel_rfl)) rfl hHeld (by (constructor; (rintro w' ⟨s0, s1, s2, s3⟩; go_simp; (with_reducible rfl)); (simp only [Act.put, ua, ub, uc, uh, ui]; rfl))) ?_
               refine tU (i := 9) (N := some 22) (bA 12 1023) (vy HT_.out HW_.out (by kernel_rfl)) rfl hHeld (by (constructor; (rintro w' ⟨s0, s1, s2, s3⟩; go_simp; (with_reducible rfl)); (simp only [Act.put, ua, ub, uc, uh, ui]; rfl))) ?_
               refine one_ (i := 10) (N := some 23) #[yY, yY, yY, yY, yY, yY, yY, yY, yY, yY, yY, xX] rfl rfl (one_of HT_.out (by kernel_rfl)) (by decide) (fun K hK => ?_); refine goesV_ Tryz.func86 (by kernel_rfl) rfl #[.agg #[.int .u64 ((rd_T33 l0 x5_1).f0), .int .i64 ((rd_T33 l0 x5_1).f1)], .agg #[.int .u64 ((rd_T33 l0 (ji6)).f0), .int .i64 ((rd_T33 l0 (ji6)).f1)]] (by rfl) rfl rfl (by rfl) (by (try simp only [uk, ur, us]); first | done | (simp only [hji6]; rfl) | rfl | (simp only [um, uo]; rfl)) ?_; (with_reducible refine (entry_compare.calls k1 ((rd_T33 l0 x5_1).f0) ((rd_T33 l0 x5_1).f1) ((rd_T33 l0 (ji6)).f0) ((rd_T33 l0 (ji6)).f1) t103 _ A9.out).mono ?_); rintro e w14 ⟨rfl, hb⟩; refine ⟨_, rfl, ?_⟩; have n0_ := Aside0.mk (vp (by repeat (first | (with_reducible first | exact HB.out | apply uf | apply ud | apply ue) | exact HB.out)) hb); clear HB; have HB := n0_; clear n0_; (try clear hb); (try clear hb2); (try clear hk); (try clear hi); refine hK.out _ _ ⟨((HB.out.cell (World.block_lt_of_cell? w _ hw101_0)).trans hw101_0), ((HB.out.cell (World.block_lt_of_cell? w _ hw101_1)).trans hw101_1), ((HB.out.cell (World.block_lt_of_cell? w _ hw102_0)).trans hw102_0), ((HB.out.cell (World.block_lt_of_cell? w _ hw102_1)).trans hw102_1)⟩ (fun hHeld => ?_); clear hK K; refine norm_ (a' := ?_) ?_ ?_; rotate_left
               · show Act.put _ (some 23) _ = _
                 simp only [Act.put, ua, ub, uc, uh, ui]; rfl
               refine pU (i := 11) (N := some 24) (bA 12 4095) (uj HT_.out (by kernel_rfl)) rfl ?_
               refine done_ (done_of HT_.out (by kernel_rfl)) ?_
               try go_wp2
               go_roundg k1
               case measure => have := HK1.out; omega
               case rel => exact ⟨(ji6), (by first | rfl | (simp; done) | (simp only [← hji6] <;> (first | rfl | simp)) | (simp [*]; done)), H', ⟨by have := HK1.out; omega⟩, ⟨by repeat (first | (with_reducible first | exact HB.out | apply uf | apply ud | apply ue) | exact HB.out)⟩⟩
           · rw [if_neg c8] at H; exact absurd H (by simp)
         · rw [if_neg c7] at H; exact absurd H (by simp)
       · rw [if_neg c5] at H; exact absurd H (by simp)
     · rw [if_neg c4] at H; exact absurd H (by simp)
   · rw [if_neg c3] at H; have c3b0 : decide (0 < x5_1) = false := decide_eq_false c3; clear c3; obtain rfl := Option.some.inj H
     go_wp2
     go_ret
     exact ⟨by first | rfl | (simp [errW_none, errW_some] <;> rfl) | (simp [*, errW_none, errW_some] <;> rfl), by repeat (first | (with_reducible first | exact HB.out | apply uf | apply ud | apply ue) | exact HB.out)⟩
end Go.Proofs.YthghkglkifeagaaGreat.V
