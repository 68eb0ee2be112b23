-- a text of this work, without what this claim doesn't use (wip/shake.py)
import Derived.Test.YtdfndglenbckhaaLVE46
import Derived.Test.YtdfndglenbckhaaLVPvergerref5
import Derived.WalkSpells
import Derived.Lib.SliceRun
section
namespace Go.Proofs.Ytdfndglenbckhaa.V
open Go.RowKit Go.Proofs.YtdfndglenbckhaaW.PrintWords Go.Proofs.YtdfndglenbckhaaW.PrintLast Go.Proofs.YtdfndglenbckhaaW.PrintMore
attribute [local go_sem] max2_int min2_int max_two min_two max_three min_three max_four min_four
set_option linter.unusedVariables false
set_option linter.unusedSimpArgs false
attribute [local go_sem high] eqA46
def vergerref5_Has.l0 : Nat → List (S46) → Int → Int → Option (Bool)
  | 0, _, _, _ => none
  | k + 1, x0, x1, x5 => if x5 < (x0.length : Int) then (if 0 ≤ x5 then (if ((rd_T46 x0 x5).f1) = x1 then (some true) else (vergerref5_Has.l0 k x0 x1 (wrap64 (x5 + 1)))) else (none)) else (some false)
def vergerref5_Has.f (k : Nat) (l0 : List (S46)) (a1 : Int) : Option (Bool) := vergerref5_Has.l0 k l0 a1 0
set_option maxHeartbeats 8000000 in
set_option maxRecDepth 100000 in
theorem vergerref5_Has.calls (k : Nat) (A0 : Option Addr) (c0 : Nat) (l0 : List (S46)) (a1 : Int) (r : Bool) (w : World) (hr0 : Kd.C k46 w A0 l0.length l0) (hc0 : l0.length ≤ c0) (h : vergerref5_Has.f k l0 a1 = some r) :
 Calls Try.prog 65 #[.slice A0 l0.length c0, .int .i64 a1] w fun e w' => e = .returned (.bool r) ∧ Drawn0 w w' := by
 have HR0 := Aside0.mk hr0; have HC0 := Aside0.mk hc0; clear hr0 hc0; have H : (vergerref5_Has.l0 k l0 a1 0) = some r := h; clear h; have H' := Aside0.mk H; clear H; go_enter Try.func65, Try.ntmps65
 go_wp2
 go_loopg [5] k (fun kq v5 w' => ∃ (x5_1 : Int), v5 = .int .i64 x5_1 ∧ Aside0 (vergerref5_Has.l0 kq l0 a1 x5_1 = some r) ∧ Aside0 (kq ≤ k) ∧ Drawn0 w w')
 case atStart => exact ⟨(0), (by first | rfl | (simp; done) | (simp [*]; done)), H', ⟨vn _⟩, by repeat (first | exact xg _ | apply xe)⟩
 case round =>
  clear H'
  try clear p2
  obtain ⟨x5_1, rfl, HA, HK1, ⟨m1, rfl⟩⟩ := hrel
  cases gk with
  | zero => exact absurd HA.out (by simp [vergerref5_Has.l0])
  | succ k1 =>
   have H := HA.out; clear HA; simp only [vergerref5_Has.l0] at H
   by_cases c3 : x5_1 < (l0.length : Int)
   · rw [if_pos c3] at H; have c3b0 : decide (x5_1 < (l0.length : Int)) = true := decide_eq_true c3; clear c3
     by_cases c4 : 0 ≤ x5_1
     · rw [if_pos c4] at H; have c4b0 : decide (0 ≤ x5_1) = true := decide_eq_true c4; clear c4
       by_cases c5 : ((rd_T46 l0 x5_1).f1) = a1
       · rw [if_pos c5] at H; have c5b0 : (((rd_T46 l0 x5_1).f1) == a1) = true := beq_iff_eq.mpr c5; have c5b1 : (((rd_T46 l0 x5_1).f1) != a1) = false := bne_eq_false_iff_eq.mpr c5; clear c5; obtain rfl := Option.some.inj H; have p101 : 0 ≤ (x5_1 : Int) := ug (by first | (with_reducible assumption) | assumption); have q101 : x5_1 < (l0.length : Int) := ug (by first | (with_reducible assumption) | assumption); obtain ⟨ad101, e101, hx101_0, hx101_1⟩ := at_T46 HR0.out x5_1 p101 q101
         cases e101
         replace p101 := eq_true p101; replace q101 := eq_true q101
         go_wp2
         go_ret
         exact ⟨by first | rfl | (simp; done) | (simp [*]; done), by repeat (first | exact xg _ | apply xe)⟩
       · rw [if_neg c5] at H; have c5b0 : (((rd_T46 l0 x5_1).f1) == a1) = false := beq_eq_false_iff_ne.mpr c5; have c5b1 : (((rd_T46 l0 x5_1).f1) != a1) = true := bne_iff_ne.mpr c5; have H' := Aside0.mk H; clear H; have p101 : 0 ≤ (x5_1 : Int) := ug (by first | (with_reducible assumption) | assumption); have q101 : x5_1 < (l0.length : Int) := ug (by first | (with_reducible assumption) | assumption); obtain ⟨ad101, e101, hx101_0, hx101_1⟩ := at_T46 HR0.out x5_1 p101 q101
         cases e101
         replace p101 := eq_true p101; replace q101 := eq_true q101
         go_wp2
         go_roundg k1
         case measure => have := HK1.out; omega
         case rel => exact ⟨(wrap64 (x5_1 + 1)), (by first | rfl | (simp; done) | (simp [*]; done)), H', ⟨by have := HK1.out; omega⟩, by repeat (first | exact xg _ | apply xe)⟩
     · rw [if_neg c4] at H; exact absurd H (by simp)
   · rw [if_neg c3] at H; have c3b0 : decide (x5_1 < (l0.length : Int)) = false := decide_eq_false c3; clear c3; obtain rfl := Option.some.inj H
     go_wp2
     go_ret
     exact ⟨by first | rfl | (simp; done) | (simp [*]; done), by repeat (first | exact xg _ | apply xe)⟩
def vergerref5_Without.l0 : Nat → List (S46) → Int → List (S46) → Int → Option ((List (S46)))
  | 0, _, _, _, _ => none
  | k + 1, x0, x1, x5, x6 => if x6 < (x0.length : Int) then (if 0 ≤ x6 then (if ((rd_T46 x0 x6).f1) = x1 then (vergerref5_Without.l0 k x0 x1 x5 (wrap64 (x6 + 1))) else (if x5.length < 8796093022208 then (vergerref5_Without.l0 k x0 x1 (x5 ++ [(⟨(rd_T46 x0 x6).f0, (rd_T46 x0 x6).f1⟩ : S46)]) (wrap64 (x6 + 1))) else (none))) else (none)) else (some x5)
def vergerref5_Without.f (k : Nat) (l0 : List (S46)) (a1 : Int) : Option ((List (S46))) := vergerref5_Without.l0 k l0 a1 ([] : List (S46)) 0
set_option maxHeartbeats 8000000 in
set_option maxRecDepth 100000 in
theorem vergerref5_Without.calls (k : Nat) (A0 : Option Addr) (c0 : Nat) (l0 : List (S46)) (a1 : Int) (r : List (S46)) (w : World) (hr0 : Kd.C k46 w A0 l0.length l0) (hc0 : l0.length ≤ c0) (h : vergerref5_Without.f k l0 a1 = some r) :
 Calls Try.prog 66 #[.slice A0 l0.length c0, .int .i64 a1] w fun e w' => ∃ v0_ : Value, e = .returned (v0_) ∧ Kd.R k46 46 w' w.heap.size (fun _ => True) v0_ r ∧ Below w.heap.size w w' := by
 have hu46 := Try.underlying46; have HR0 := Aside0.mk hr0; have HC0 := Aside0.mk hc0; clear hr0 hc0; have HB := Aside0.mk (Below.refl w.heap.size w); have H : (vergerref5_Without.l0 k l0 a1 ([] : List (S46)) 0) = some r := h; clear h; have H' := Aside0.mk H; clear H; go_enter Try.func66, Try.ntmps66
 go_wp2
 go_loopg [5, 6] k (fun kq v5 v6 w' => ∃ (x5_1 : List (S46)) (x6_1 : Int), v6 = .int .i64 x6_1 ∧ Aside0 (vergerref5_Without.l0 kq l0 a1 x5_1 x6_1 = some r) ∧ Aside0 (kq ≤ k) ∧ Aside0 (Kd.R k46 46 w' w.heap.size (fun _ => True) v5 x5_1) ∧ Aside0 (Below w.heap.size w w'))
 case atStart => exact ⟨(([] : List (S46))), (0), (by first | rfl | (simp; done) | (simp [*]; done)), H', ⟨vn _⟩, ⟨by first | exact Kd.R_nil _ _ _ _ _ | exact Kd.N_nil _ _ _ _ _ | exact Kd.V_nil _ _ _ _ _ | exact Kd.Q_nil _ _ _ _ _ | exact Kd.S_nil _ _ _ _ _⟩, ⟨by repeat (first | (with_reducible first | exact HB.out | apply uf | apply ud | apply ue) | exact HB.out)⟩⟩
 case round =>
  clear H'
  try clear p2
  obtain ⟨x5_1, x6_1, rfl, HA, HK1, HO_5, HB⟩ := hrel
  cases gk with
  | zero => exact absurd HA.out (by simp [vergerref5_Without.l0])
  | succ k1 =>
   have H := HA.out; clear HA; simp only [vergerref5_Without.l0] at H
   by_cases c3 : x6_1 < (l0.length : Int)
   · rw [if_pos c3] at H; have c3b0 : decide (x6_1 < (l0.length : Int)) = true := decide_eq_true c3; clear c3
     by_cases c4 : 0 ≤ x6_1
     · rw [if_pos c4] at H; have c4b0 : decide (0 ≤ x6_1) = true := decide_eq_true c4; clear c4
       by_cases c5 : ((rd_T46 l0 x6_1).f1) = a1
       · rw [if_pos c5] at H; have c5b0 : (((rd_T46 l0 x6_1).f1) == a1) = true := beq_iff_eq.mpr c5; have c5b1 : (((rd_T46 l0 x6_1).f1) != a1) = false := bne_eq_false_iff_eq.mpr c5; clear c5; have H' := Aside0.mk H; clear H; have p101 : 0 ≤ (x6_1 : Int) := ug (by first | (with_reducible assumption) | assumption); have q101 : x6_1 < (l0.length : Int) := ug (by first | (with_reducible assumption) | assumption); obtain ⟨ad101, e101, hx101_0, hx101_1⟩ := at_T46 HR0.out x6_1 p101 q101
         cases e101
         replace hx101_0 := (HB.out.cell (World.block_lt_of_cell? w _ hx101_0)).trans hx101_0; replace hx101_1 := (HB.out.cell (World.block_lt_of_cell? w _ hx101_1)).trans hx101_1; replace p101 := eq_true p101; replace q101 := eq_true q101
         go_wp2
         go_roundg k1
         case measure => have := HK1.out; omega
         case rel => exact ⟨(x5_1), (wrap64 (x6_1 + 1)), (by first | rfl | (simp; done) | (simp [*]; done)), H', ⟨by have := HK1.out; omega⟩, ⟨by (with_reducible repeat (first | apply vl | apply vk | apply vm)); exact HO_5.out⟩, ⟨by repeat (first | (with_reducible first | exact HB.out | apply uf | apply ud | apply ue) | exact HB.out)⟩⟩
       · rw [if_neg c5] at H; have c5b0 : (((rd_T46 l0 x6_1).f1) == a1) = false := beq_eq_false_iff_ne.mpr c5; have c5b1 : (((rd_T46 l0 x6_1).f1) != a1) = true := bne_iff_ne.mpr c5
         by_cases c6 : x5_1.length < 8796093022208
         · rw [if_pos c6] at H; have LMc6 := Aside0.mk c6; clear c6; obtain ⟨y103, hy103⟩ : ∃ y_ : List (S46), y_ = (x5_1 ++ [(⟨(rd_T46 l0 x6_1).f0, (rd_T46 l0 x6_1).f1⟩ : S46)]) := ⟨_, rfl⟩; (replace H : (vergerref5_Without.l0 k1 l0 a1 y103 (wrap64 (x6_1 + 1))) = some r := by first | (rw [hy103]; with_reducible exact H) | (have H2_ := (us _ _).symm.trans H; rw [hy103]; with_reducible exact H2_) | (have H2_ := (us _ _).symm.trans H; with_reducible exact H2_) | with_reducible exact H | (rw [hy103]; exact H) | exact H); have Ny103 := Aside0.mk hy103; clear hy103; have H' := Aside0.mk H; clear H; have p101 : 0 ≤ (x6_1 : Int) := ug (by first | (with_reducible assumption) | assumption); have q101 : x6_1 < (l0.length : Int) := ug (by first | (with_reducible assumption) | assumption); obtain ⟨ad101, e101, hx101_0, hx101_1⟩ := at_T46 HR0.out x6_1 p101 q101
           cases e101
           replace hx101_0 := (HB.out.cell (World.block_lt_of_cell? w _ hx101_0)).trans hx101_0; replace hx101_1 := (HB.out.cell (World.block_lt_of_cell? w _ hx101_1)).trans hx101_1; replace p101 := eq_true p101; replace q101 := eq_true q101; have p102 : 0 ≤ (x6_1 : Int) := ug (by first | (with_reducible assumption) | assumption); have q102 : x6_1 < (l0.length : Int) := ug (by first | (with_reducible assumption) | assumption); obtain ⟨ad102, e102, hx102_0, hx102_1⟩ := at_T46 HR0.out x6_1 p102 q102; obtain rfl : ad101 = ad102 := (by injection e102); replace hx102_0 := (HB.out.cell (World.block_lt_of_cell? w _ hx102_0)).trans hx102_0; replace hx102_1 := (HB.out.cell (World.block_lt_of_cell? w _ hx102_1)).trans hx102_1; replace p102 := eq_true p102; replace q102 := eq_true q102
           go_wp2_with (first | ((with_reducible refine gate_builtin (b := .append) (xs := #[.tmp 20, .tmp 25]) rfl ?_); at_builtin; refine Kd.R_append k46 (w0 := w) w.heap.size rfl (.tmp 20) (.tmp 25) 30 46 (.agg #[(.int .u64 0), (.int .i64 0)]) 16 rfl Try.underlying30 info46 rfl (by decide) (by omega) u5 x5_1 (⟨(rd_T46 l0 x6_1).f0, (rd_T46 l0 x6_1).f1⟩ : S46) [.int .u64 ((rd_T46 l0 x6_1).f0), .int .i64 ((rd_T46 l0 x6_1).f1)] (fun _ => True) (fun _ => False) rfl rfl ?aP (fun _ hk => hk.elim) ?aF ?aO ?aB ?aS ?aL ?_; (case aP => exact k46_mkM _ _ _ (⟨(rd_T46 l0 x6_1).f0, (rd_T46 l0 x6_1).f1⟩ : S46)); (case aB => exact (by repeat (first | (with_reducible first | exact HB.out | apply uf | apply ud | apply ue) | exact HB.out))); (case aF => exact (fun _ _ => trivial)); (case aO => exact (by (with_reducible repeat (first | apply vl | apply vk | apply vm)); exact HO_5.out)); (case aS => exact (uy (by repeat (first | (with_reducible first | exact HB.out | apply uf | apply ud | apply ue) | exact HB.out)))); (case aL => have := LMc6.out; omega); intro v104 w7 ho hb hg hat; rw [← Ny103.out] at ho; have n0_ := Aside0.mk (hb); have n1_ := Aside0.mk (ho); clear HB; clear HO_5; have HB := n0_; have HO105 := n1_; clear n0_ n1_; clear ho hb hg hat))
           go_roundg k1
           case measure => have := HK1.out; omega
           case rel => exact ⟨(y103), (wrap64 (x6_1 + 1)), (by first | rfl | (simp; done) | (simp [*]; done)), H', ⟨by have := HK1.out; omega⟩, ⟨by (with_reducible repeat (first | apply vl | apply vk | apply vm)); exact HO105.out⟩, ⟨by repeat (first | (with_reducible first | exact HB.out | apply uf | apply ud | apply ue) | exact HB.out)⟩⟩
         · rw [if_neg c6] at H; exact absurd H (by simp)
     · rw [if_neg c4] at H; exact absurd H (by simp)
   · rw [if_neg c3] at H; have c3b0 : decide (x6_1 < (l0.length : Int)) = false := decide_eq_false c3; clear c3; obtain rfl := Option.some.inj H
     go_wp2
     go_ret
     exact ⟨_, by first | rfl | (simp [errW_none, errW_some] <;> rfl) | (simp [*, errW_none, errW_some] <;> rfl), by (with_reducible repeat (first | apply vl | apply vk | apply vm)); exact HO_5.out, by repeat (first | (with_reducible first | exact HB.out | apply uf | apply ud | apply ue) | exact HB.out)⟩
def vergerref5_Same.l0 : Nat → List (S46) → List (S46) → Int → Option (Bool)
  | 0, _, _, _ => none
  | k + 1, x0, x1, x5 => if x5 < (x0.length : Int) then (if 0 ≤ x5 then (if x5 < (x1.length : Int) then (if (!(((rd_T46 x0 x5).f0) == ((rd_T46 x1 x5).f0)) || (!(((rd_T46 x0 x5).f1) == ((rd_T46 x1 x5).f1)))) = true then (some false) else (vergerref5_Same.l0 k x0 x1 (wrap64 (x5 + 1)))) else (none)) else (none)) else (some true)
def vergerref5_Same.f (k : Nat) (l0 : List (S46)) (l1 : List (S46)) : Option (Bool) := if (l0.length : Int) = (l1.length : Int) then (vergerref5_Same.l0 k l0 l1 0) else (some false)
set_option maxHeartbeats 8000000 in
set_option maxRecDepth 100000 in
theorem vergerref5_Same.calls (k : Nat) (A0 : Option Addr) (c0 : Nat) (l0 : List (S46)) (A1 : Option Addr) (c1 : Nat) (l1 : List (S46)) (r : Bool) (w : World) (hr0 : Kd.C k46 w A0 l0.length l0) (hc0 : l0.length ≤ c0) (hr1 : Kd.C k46 w A1 l1.length l1) (hc1 : l1.length ≤ c1) (h : vergerref5_Same.f k l0 l1 = some r) :
 Calls Try.prog 22 #[.slice A0 l0.length c0, .slice A1 l1.length c1] w fun e w' => e = .returned (.bool r) ∧ Drawn0 w w' := by
 have hu46 := Try.underlying46; have HR0 := Aside0.mk hr0; have HC0 := Aside0.mk hc0; clear hr0 hc0; have HR1 := Aside0.mk hr1; have HC1 := Aside0.mk hc1; clear hr1 hc1; have H : (if (l0.length : Int) = (l1.length : Int) then (vergerref5_Same.l0 k l0 l1 0) else (some false)) = some r := h; clear h
 by_cases c3 : (l0.length : Int) = (l1.length : Int)
 · rw [if_pos c3] at H; have c3b0 : ((l0.length : Int) == (l1.length : Int)) = true := beq_iff_eq.mpr c3; have c3b1 : ((l0.length : Int) != (l1.length : Int)) = false := bne_eq_false_iff_eq.mpr c3; (have c3b2 : (l0.length == l1.length) = true := by first | simpa using c3 | (simp at c3 ⊢; omega)); clear c3; have H' := Aside0.mk H; clear H; go_enter Try.func22, Try.ntmps22
   go_wp2
   repeat (go_quiet (fail); try go_wp2)
   go_loopg [5] k (fun kq v5 w' => ∃ (x5_1 : Int), v5 = .int .i64 x5_1 ∧ Aside0 (vergerref5_Same.l0 kq l0 l1 x5_1 = some r) ∧ Aside0 (kq ≤ k) ∧ Drawn0 w w')
   case atStart => exact ⟨(0), (by first | rfl | (simp; done) | (simp [*]; done)), H', ⟨vn _⟩, by repeat (first | exact xg _ | apply xe)⟩
   case round =>
    clear H'
    try clear c1
    try clear c2
    try clear p2
    try clear c3
    try clear c3b0
    try clear c3b1
    try clear c3b2
    obtain ⟨x5_1, rfl, HA, HK1, ⟨m1, rfl⟩⟩ := hrel
    cases gk with
    | zero => exact absurd HA.out (by simp [vergerref5_Same.l0])
    | succ k1 =>
     have H := HA.out; clear HA; simp only [vergerref5_Same.l0] at H
     by_cases c4 : x5_1 < (l0.length : Int)
     · rw [if_pos c4] at H; have c4b0 : decide (x5_1 < (l0.length : Int)) = true := decide_eq_true c4; clear c4
       by_cases c5 : 0 ≤ x5_1
       · rw [if_pos c5] at H; have c5b0 : decide (0 ≤ x5_1) = true := decide_eq_true c5; clear c5
         by_cases c6 : x5_1 < (l1.length : Int)
         · rw [if_pos c6] at H; have c6b0 : decide (x5_1 < (l1.length : Int)) = true := decide_eq_true c6; clear c6
           by_cases c7 : (!(((rd_T46 l0 x5_1).f0) == ((rd_T46 l1 x5_1).f0)) || (!(((rd_T46 l0 x5_1).f1) == ((rd_T46 l1 x5_1).f1)))) = true
           · rw [if_pos c7] at H; have c7b0 : (!(((rd_T46 l0 x5_1).f0) == ((rd_T46 l1 x5_1).f0)) || (!(((rd_T46 l0 x5_1).f1) == ((rd_T46 l1 x5_1).f1)))) = true := c7; clear c7; obtain rfl := Option.some.inj H; have p101 : 0 ≤ (x5_1 : Int) := ug (by first | (with_reducible assumption) | assumption); have q101 : x5_1 < (l0.length : Int) := ug (by first | (with_reducible assumption) | assumption); obtain ⟨ad101, e101, hx101_0, hx101_1⟩ := at_T46 HR0.out x5_1 p101 q101
             cases e101
             replace p101 := eq_true p101; replace q101 := eq_true q101; have p102 : 0 ≤ (x5_1 : Int) := ug (by first | (with_reducible assumption) | assumption); have q102 : x5_1 < (l1.length : Int) := ug (by first | (with_reducible assumption) | assumption); obtain ⟨ad102, e102, hx102_0, hx102_1⟩ := at_T46 HR1.out x5_1 p102 q102
             cases e102
             replace p102 := eq_true p102; replace q102 := eq_true q102
             go_wp2
             repeat (go_quiet (fail); try go_wp2)
             go_ret
             exact ⟨by first | rfl | (simp; done) | (simp [*]; done), by repeat (first | exact xg _ | apply xe)⟩
           · rw [if_neg c7] at H; (have c7b0 : (!(((rd_T46 l0 x5_1).f0) == ((rd_T46 l1 x5_1).f0)) || (!(((rd_T46 l0 x5_1).f1) == ((rd_T46 l1 x5_1).f1)))) = false := by simpa using c7); clear c7; have H' := Aside0.mk H; clear H; have p101 : 0 ≤ (x5_1 : Int) := ug (by first | (with_reducible assumption) | assumption); have q101 : x5_1 < (l0.length : Int) := ug (by first | (with_reducible assumption) | assumption); obtain ⟨ad101, e101, hx101_0, hx101_1⟩ := at_T46 HR0.out x5_1 p101 q101
             cases e101
             replace p101 := eq_true p101; replace q101 := eq_true q101; have p102 : 0 ≤ (x5_1 : Int) := ug (by first | (with_reducible assumption) | assumption); have q102 : x5_1 < (l1.length : Int) := ug (by first | (with_reducible assumption) | assumption); obtain ⟨ad102, e102, hx102_0, hx102_1⟩ := at_T46 HR1.out x5_1 p102 q102
             cases e102
             replace p102 := eq_true p102; replace q102 := eq_true q102
             go_wp2
             repeat (go_quiet (fail); try go_wp2)
             go_roundg k1
             case measure => have := HK1.out; omega
             case rel => exact ⟨(wrap64 (x5_1 + 1)), (by first | rfl | (simp; done) | (simp [*]; done)), H', ⟨by have := HK1.out; omega⟩, by repeat (first | exact xg _ | apply xe)⟩
         · rw [if_neg c6] at H; exact absurd H (by simp)
       · rw [if_neg c5] at H; exact absurd H (by simp)
     · rw [if_neg c4] at H; have c4b0 : decide (x5_1 < (l0.length : Int)) = false := decide_eq_false c4; clear c4; obtain rfl := Option.some.inj H
       go_wp2
       repeat (go_quiet (fail); try go_wp2)
       go_ret
       exact ⟨by first | rfl | (simp; done) | (simp [*]; done), by repeat (first | exact xg _ | apply xe)⟩
 · rw [if_neg c3] at H; have c3b0 : ((l0.length : Int) == (l1.length : Int)) = false := beq_eq_false_iff_ne.mpr c3; have c3b1 : ((l0.length : Int) != (l1.length : Int)) = true := bne_iff_ne.mpr c3; (have c3b2 : (l0.length == l1.length) = false := by first | simpa using c3 | (simp at c3 ⊢; omega)); obtain rfl := Option.some.inj H; go_enter Try.func22, Try.ntmps22
   go_wp2
   repeat (go_quiet (fail); try go_wp2)
   go_ret
   exact ⟨by first | rfl | (simp; done) | (simp [*]; done), by repeat (first | exact xg _ | apply xe)⟩
end Go.Proofs.Ytdfndglenbckhaa.V
end
section
set_option linter.unusedVariables false
set_option linter.unusedSimpArgs false
namespace Go.Proofs.Ytdfndglenbckhaa.V
open Go.RowKit Go.Proofs.YtdfndglenbckhaaW.PrintWords
abbrev E := S46
theorem E.ext' {a b : E} (h0 : a.f0 = b.f0) (h1 : a.f1 = b.f1) : a = b := by cases a; cases b; simp_all
def ltE (a b : E) : Bool := decide (a.f0 < b.f0) || (decide (a.f0 = b.f0) && decide (a.f1 < b.f1))
def leE (a b : E) : Bool := !ltE b a
theorem ltE_iff (a b : E) : ltE a b = true ↔ a.f0 < b.f0 ∨ (a.f0 = b.f0 ∧ a.f1 < b.f1) := by simp [ltE]
theorem ltE_false (a b : E) : ltE a b = false ↔ b.f0 < a.f0 ∨ (a.f0 = b.f0 ∧ b.f1 ≤ a.f1) := by
 rw [← Bool.not_eq_true, ltE_iff]; omega
theorem leE_iff (a b : E) : leE a b = true ↔ a.f0 < b.f0 ∨ (a.f0 = b.f0 ∧ a.f1 ≤ b.f1) := by
 unfold leE; rw [Bool.not_eq_true', ltE_false]; omega
theorem ltE_asymm {a b : E} (h : ltE a b = true) : ltE b a = false := by rw [ltE_iff] at h; rw [ltE_false]; omega
theorem leE_trans (a b c : E) (h : leE a b = true) (k : leE b c = true) : leE a c = true := by rw [leE_iff] at *; omega
theorem leE_total (a b : E) : (leE a b || leE b a) = true := by
 rw [Bool.or_eq_true, leE_iff, leE_iff]; omega
theorem leE_refl (a : E) : leE a a = true := by rw [leE_iff]; omega
theorem leE_antisymm {a b : E} (h : leE a b = true) (k : leE b a = true) : a = b := by
 rw [leE_iff] at h k; exact E.ext' (by omega) (by omega)
theorem leE_of_ltE {a b : E} (h : ltE a b = true) : leE a b = true := by simp [leE, ltE_asymm h]
theorem ltE_of_lt_le {a b c : E} (h : ltE a b = true) (k : leE b c = true) : ltE a c = true := by rw [ltE_iff] at *; rw [leE_iff] at k; omega
theorem ltE_of_le_lt {a b c : E} (h : leE a b = true) (k : ltE b c = true) : ltE a c = true := by rw [ltE_iff] at *; rw [leE_iff] at h; omega
def SortedE (l : List E) : Prop := l.Pairwise fun a b => leE a b = true
def sortE (l : List E) : List E := l.mergeSort leE
theorem sortE_perm (l : List E) : (sortE l).Perm l := List.mergeSort_perm l leE
theorem sortE_sorted (l : List E) : SortedE (sortE l) := List.pairwise_mergeSort leE_trans leE_total l
theorem sorted_eq {l m : List E} (hl : SortedE l) (hm : SortedE m) (h : l.Perm m) : l = m := h.eq_of_pairwise (fun a b _ _ h1 h2 => leE_antisymm h1 h2) hl hm
theorem sortE_eq {l m : List E} (hm : SortedE m) (h : m.Perm l) : sortE l = m := sorted_eq (sortE_sorted l) hm ((sortE_perm l).trans h.symm)
theorem sortE_of_perm {l m : List E} (h : l.Perm m) : sortE l = sortE m := sorted_eq (sortE_sorted l) (sortE_sorted m) ((sortE_perm l).trans (h.trans (sortE_perm m).symm))
theorem sortE_of_sorted {l : List E} (h : SortedE l) : sortE l = l := sortE_eq h (List.Perm.refl _)
theorem sortE_length (l : List E) : (sortE l).length = l.length := (sortE_perm l).length_eq
theorem sortE_nil : sortE [] = [] := by simp [sortE]
theorem sortE_mem {l : List E} {x : E} : x ∈ sortE l ↔ x ∈ l := (sortE_perm l).mem_iff
theorem sorted_nil : SortedE [] := List.Pairwise.nil
theorem sorted_append {l m : List E} : SortedE (l ++ m) ↔ SortedE l ∧ SortedE m ∧ ∀ a ∈ l, ∀ b ∈ m, leE a b = true := List.pairwise_append
theorem sorted_cons {a : E} {l : List E} : SortedE (a :: l) ↔ (∀ b ∈ l, leE a b = true) ∧ SortedE l := List.pairwise_cons
theorem sorted_take {l : List E} (h : SortedE l) (n : Nat) : SortedE (l.take n) := h.sublist (List.take_sublist n l)
theorem sorted_get {l : List E} (h : SortedE l) {i j : Nat} (hij : i < j) {a b : E} (ha : l[i]? = some a) (hb : l[j]? = some b) : leE a b = true := by
 obtain ⟨hi, rfl⟩ := List.getElem?_eq_some_iff.1 ha
 obtain ⟨hj, rfl⟩ := List.getElem?_eq_some_iff.1 hb
 exact List.pairwise_iff_getElem.1 h i j hi hj hij
def putE (l : List E) (e : E) : List E := (l.takeWhile fun x => leE x e) ++ e :: (l.dropWhile fun x => leE x e)
theorem putE_perm (l : List E) (e : E) : (putE l e).Perm (e :: l) := by
 unfold putE
 refine List.perm_middle.trans (List.Perm.cons _ ?_)
 rw [List.takeWhile_append_dropWhile]
theorem takeWhile_mem (l : List E) (p : E → Bool) : ∀ a ∈ l.takeWhile p, p a = true := by
 induction l with
 | nil => simp
 | cons b l ih =>
  intro a ha
  rw [List.takeWhile_cons] at ha
  split at ha
  · rename_i hb
    rcases List.mem_cons.1 ha with rfl | ha
    · exact hb
    · exact ih a ha
  · simp at ha
theorem dropWhile_gt {l : List E} (h : SortedE l) (e : E) : ∀ x ∈ l.dropWhile (fun x => leE x e), ltE e x = true := by
 induction l with
 | nil => simp
 | cons a l ih =>
  obtain ⟨h1, h2⟩ := sorted_cons.1 h
  rw [List.dropWhile_cons]
  split
  · exact ih h2
  · rename_i hn
    have hl : ltE e a = true := by simpa [leE] using hn
    intro x hx
    rcases List.mem_cons.1 hx with rfl | hx
    · exact hl
    · exact ltE_of_lt_le hl (h1 x hx)
theorem putE_sorted {l : List E} (h : SortedE l) (e : E) : SortedE (putE l e) := by
 unfold putE
 have hsub : SortedE (l.takeWhile fun x => leE x e) := h.sublist (List.takeWhile_sublist _)
 have hd : SortedE (l.dropWhile fun x => leE x e) := h.sublist (List.dropWhile_sublist _)
 have hle : ∀ a ∈ l.takeWhile (fun x => leE x e), leE a e = true := takeWhile_mem l _
 have hgt := dropWhile_gt h e
 refine sorted_append.2 ⟨hsub, sorted_cons.2 ⟨fun b hb => leE_of_ltE (hgt b hb), hd⟩, fun a ha b hb => ?_⟩
 rcases List.mem_cons.1 hb with rfl | hb
 · exact hle a ha
 · exact leE_trans _ _ _ (hle a ha) (leE_of_ltE (hgt b hb))
theorem putE_sort (l : List E) (e : E) : putE (sortE l) e = sortE (e :: l) := by
 refine sorted_eq (putE_sorted (sortE_sorted l) e) (sortE_sorted _) ((putE_perm _ _).trans ?_)
 exact (List.Perm.cons e (sortE_perm l)).trans (sortE_perm _).symm
end Go.Proofs.Ytdfndglenbckhaa.V
end
section
set_option linter.unusedVariables false
set_option linter.unusedSimpArgs false
namespace Go.Proofs.Ytdfndglenbckhaa.V
open Go.RowKit Go.Proofs.YtdfndglenbckhaaW.PrintWords Go.Proofs.YtdfndglenbckhaaW.PrintLast Go.Proofs.YtdfndglenbckhaaW.PrintMore
def api_Entry_82.f (l0 : List E) : Option (List E) := some l0
set_option maxHeartbeats 400000 in
theorem api_Entry_82.calls (P0_ : Nat → Prop) (A0 : Option Addr) (c0 : Nat) (l0 : List E) (r : List E) (w : World) (hs0 : Kd.V k46 46 w w.heap.size (fun k_ => P0_ k_) (.slice A0 l0.length c0) l0) (h : api_Entry_82.f l0 = some r) :
 Calls Try.prog 82 #[.slice A0 l0.length c0] w fun e w' => ∃ v0_ : Value, e = .returned (v0_) ∧ Kd.V k46 46 w' w.heap.size (fun k_ => (P0_ k_ ∨ w.heap.size ≤ k_)) v0_ r ∧ Below w.heap.size w w' := by
 obtain rfl := Option.some.inj h
 clear h
 have HS := Aside0.mk hs0
 have HL := Aside0.mk (Kd.V_at hs0).2.1
 have hm : l0.length ≤ 9223372036854775807 := by have := (Kd.F_now (Kd.V_at hs0).2.2).2.1; omega
 clear hs0
 have hl := HL.out
 go_enter Try.func82, Try.ntmps82
 go_wp2
 go_ret
 exact ⟨_, rfl, ⟨A0, l0.length, rfl, Nat.le_refl _, Kd.F_mono (Kd.V_at HS.out).2.2 (fun k hk => .inl hk)⟩, Below.refl _ _⟩
def api_Entry_97.f (l0 : List E) : Option (List E) := if l0.length < 8796093022208 then some l0 else none
set_option maxHeartbeats 400000 in
theorem api_Entry_97.calls (A0 : Option Addr) (c0 : Nat) (l0 : List E) (r : List E) (w : World) (hr0 : Kd.C k46 w A0 l0.length l0) (hc0 : l0.length ≤ c0) (h : api_Entry_97.f l0 = some r) :
 Calls Try.prog 97 #[.slice A0 l0.length c0] w fun e w' => ∃ v0_ : Value, e = .returned (v0_) ∧ Kd.R k46 46 w' w.heap.size (fun _ => True) v0_ r ∧ Below w.heap.size w w' := by
 unfold api_Entry_97.f at h
 by_cases hlt : l0.length < 8796093022208
 · rw [if_pos hlt] at h
   obtain rfl := Option.some.inj h
   clear h
   have HL := Aside0.mk hlt
   clear hlt
   have HR0 := Aside0.mk hr0
   clear hr0
   have HB := Aside0.mk (Below.refl w.heap.size w)
   cases A0 with
   | none =>
    have hl0 : l0 = [] := by
     have h1 := HR0.out.2.2
     cases l0 with
     | nil => rfl
     | cons a l => obtain ⟨ad, h2, _⟩ := h1 (by simp); cases h2
    have H0 := Aside0.mk hl0
    clear hl0
    have he := Lib.run_eql_slice_nil (P := Try.prog) w 30 46 none l0.length c0 0 0 Try.underlying30
    go_enter Try.func97, Try.ntmps97
    go_wp2
    go_ret
    exact ⟨_, rfl, by rw [H0.out]; exact Kd.R_nil _ _ _ _ _, Below.refl _ _⟩
   | some ad =>
    have he := Lib.run_eql_slice_nil (P := Try.prog) w 30 46 (some ad) l0.length c0 0 0 Try.underlying30
    go_enter Try.func97, Try.ntmps97
    go_wp2_with (first
     | ((with_reducible refine gate_dst (N := 5) rfl ?_); refine Kd.R_lit k46 _ 46 ?hg (N := 5) ?hd (xs := ([] : List E)) (inner := []) (ok := fun _ => True) (okp := fun _ => True) ?hr ?hp (fun _ hk => hk) trivial (Below.refl _ _) (Nat.le_refl _) (by simp) ?_; (case hd => rfl); (case hg => rfl); (case hr => first | (go_simp; done) | (go_simp; rfl)); (case hp => exact (Reps.none _ _)); intro v1 w1 ho hb hg_ hnew_; clear hg_ hnew_; have n0_ := Aside0.mk ho; have n1_ := Aside0.mk (below_step HB.out hb); clear HB; have HO := n0_; have HB := n1_; clear n0_ n1_; clear hb ho)
     | ((with_reducible refine gate_builtin (b := .append) (xs := #[.tmp 5, .tmp 6]) rfl ?_); at_builtin; refine Kd.R_append_rows k46 (w0 := w) w.heap.size rfl (.tmp 5) (.tmp 6) 30 46 (.agg #[(.int .u64 0), (.int .i64 0)]) 16 rfl Try.underlying30 info46 rfl (by decide) (by omega) v1 [] l0 _ _ _ (fun _ => True) (fun _ => False) rfl rfl ?aO ?aR (fun _ _ h => h) (fun _ h => h.elim) ?aF ?aB ?aS ?aL ?_; (case aR => exact (Kd.C_below HR0.out HB.out)); (case aB => exact HB.out); (case aF => exact (fun _ _ => trivial)); (case aO => exact HO.out); (case aS => exact HB.out.size); (case aL => have := HL.out; simp only [List.length_nil]; omega); intro v2 w2 ho hb hg hat; rw [List.nil_append] at ho; have n0_ := Aside0.mk (hb); have n1_ := Aside0.mk (ho); clear HB; clear HO; have HB := n0_; have HO := n1_; clear n0_ n1_; clear ho hb hg hat))
    go_ret
    exact ⟨_, rfl, Kd.R_mono HO.out (fun _ hk => trivial), HB.out⟩
 · rw [if_neg hlt] at h
   cases h
end Go.Proofs.Ytdfndglenbckhaa.V
end
section
namespace Go.Proofs.Ytdfndglenbckhaa.V
open Go.RowKit Go.Proofs.YtdfndglenbckhaaW.PrintWords Go.Proofs.YtdfndglenbckhaaW.PrintLast Go.Proofs.YtdfndglenbckhaaW.PrintMore
attribute [local go_sem] max2_int min2_int max_two min_two max_three min_three max_four min_four
set_option linter.unusedVariables false
set_option linter.unusedSimpArgs false
def cmp_Or_int.l0 : Nat → Int → List Int → Int → Int → Option (Int)
  | 0, _, _, _, _ => none
  | k + 1, x3, x6, x7, x8 => if x8 < x7 then (if 0 ≤ x8 then (if x8 < (x6.length : Int) then (if (rd x6 x8) = x3 then (cmp_Or_int.l0 k x3 x6 x7 (wrap64 (x8 + 1))) else (some (rd x6 x8))) else (none)) else (none)) else (some x3)
def cmp_Or_int.f (k : Nat) (l0 : List Int) : Option (Int) := cmp_Or_int.l0 k 0 l0 (l0.length : Int) 0
set_option maxHeartbeats 8000000 in
set_option maxRecDepth 100000 in
theorem cmp_Or_int.calls (k : Nat) (A0 : Option Addr) (c0 : Nat) (l0 : List Int) (r : Int) (w : World) (hr0 : Kd.C (Kd.int .i64) w A0 l0.length l0) (hc0 : l0.length ≤ c0) (h : cmp_Or_int.f k l0 = some r) :
 Calls Try.prog 122 #[.slice A0 l0.length c0] w fun e w' => e = .returned (.int .i64 r) ∧ Drawn0 w w' := by
 have HR0 := Aside0.mk hr0; have HC0 := Aside0.mk hc0; clear hr0 hc0; have H : (cmp_Or_int.l0 k 0 l0 (l0.length : Int) 0) = some r := h; clear h; have H' := Aside0.mk H; clear H; go_enter Try.func122, Try.ntmps122
 go_wp2
 go_loopg [8] k (fun kq v8 w' => ∃ (x8_1 : Int), v8 = .int .i64 x8_1 ∧ Aside0 (cmp_Or_int.l0 kq 0 l0 (l0.length : Int) x8_1 = some r) ∧ Aside0 (kq ≤ k) ∧ Drawn0 w w')
 case atStart => exact ⟨(0), (by first | rfl | (simp; done) | (simp [*]; done)), H', ⟨vn _⟩, by repeat (first | exact xg _ | apply xe)⟩
 case round =>
  clear H'
  try clear c1
  obtain ⟨x8_1, rfl, HA, HK1, ⟨m1, rfl⟩⟩ := hrel
  cases gk with
  | zero => exact absurd HA.out (by simp [cmp_Or_int.l0])
  | succ k1 =>
   have H := HA.out; clear HA; simp only [cmp_Or_int.l0] at H
   by_cases c2 : x8_1 < (l0.length : Int)
   · rw [if_pos c2] at H; have c2b0 : decide (x8_1 < (l0.length : Int)) = true := decide_eq_true c2; clear c2
     by_cases c3 : 0 ≤ x8_1
     · rw [if_pos c3] at H; have c3b0 : decide (0 ≤ x8_1) = true := decide_eq_true c3; clear c3
       by_cases c4 : x8_1 < (l0.length : Int)
       · rw [if_pos c4] at H; have c4b0 : decide (x8_1 < (l0.length : Int)) = true := decide_eq_true c4; clear c4
         by_cases c5 : (rd l0 x8_1) = 0
         · rw [if_pos c5] at H; have c5b0 : ((rd l0 x8_1) == 0) = true := beq_iff_eq.mpr c5; have c5b1 : ((rd l0 x8_1) != 0) = false := bne_eq_false_iff_eq.mpr c5; clear c5; have H' := Aside0.mk H; clear H; have p101 : 0 ≤ (x8_1 : Int) := ug (by first | (with_reducible assumption) | assumption); have q101 : x8_1 < (l0.length : Int) := ug (by first | (with_reducible assumption) | assumption); obtain ⟨ad101, e101, hx101_0⟩ := Kd.at_int HR0.out x8_1 p101 q101
           cases e101
           replace p101 := eq_true p101; replace q101 := eq_true q101
           go_wp2
           go_roundg k1
           case measure => have := HK1.out; omega
           case rel => exact ⟨(wrap64 (x8_1 + 1)), (by first | rfl | (simp; done) | (simp [*]; done)), H', ⟨by have := HK1.out; omega⟩, by repeat (first | exact xg _ | apply xe)⟩
         · rw [if_neg c5] at H; have c5b0 : ((rd l0 x8_1) == 0) = false := beq_eq_false_iff_ne.mpr c5; have c5b1 : ((rd l0 x8_1) != 0) = true := bne_iff_ne.mpr c5; obtain rfl := Option.some.inj H; have p101 : 0 ≤ (x8_1 : Int) := ug (by first | (with_reducible assumption) | assumption); have q101 : x8_1 < (l0.length : Int) := ug (by first | (with_reducible assumption) | assumption); obtain ⟨ad101, e101, hx101_0⟩ := Kd.at_int HR0.out x8_1 p101 q101
           cases e101
           replace p101 := eq_true p101; replace q101 := eq_true q101
           go_wp2
           go_ret
           exact ⟨by first | rfl | (simp; done) | (simp [*]; done), by repeat (first | exact xg _ | apply xe)⟩
       · rw [if_neg c4] at H; exact absurd H (by simp)
     · rw [if_neg c3] at H; exact absurd H (by simp)
   · rw [if_neg c2] at H; have c2b0 : decide (x8_1 < (l0.length : Int)) = false := decide_eq_false c2; clear c2; obtain rfl := Option.some.inj H
     go_wp2
     go_ret
     exact ⟨by first | rfl | (simp; done) | (simp [*]; done), by repeat (first | exact xg _ | apply xe)⟩
def cmp_isNaN_uint64.f (a0 : Int) : Option (Bool) := some (a0 != a0)
set_option maxHeartbeats 8000000 in
set_option maxRecDepth 100000 in
theorem cmp_isNaN_uint64.calls (a0 : Int) (r : Bool) (w : World) (h : cmp_isNaN_uint64.f a0 = some r) :
 Calls Try.prog 129 #[.int .u64 a0] w fun e w' => e = .returned (.bool r) ∧ Drawn0 w w' := by
 have H : (some (a0 != a0)) = some r := h; clear h; obtain rfl := Option.some.inj H; go_enter Try.func129, Try.ntmps129
 go_wp2
 go_ret
 exact ⟨by first | rfl | (simp; done) | (simp [*]; done), by repeat (first | exact xg _ | apply xe)⟩
def cmp_Compare_uint64.f (a0 : Int) (a1 : Int) : Option (Int) := (cmp_isNaN_uint64.f a0).bind fun t101 => ((cmp_isNaN_uint64.f a1).bind fun t102 => (if t101 = true then (if t102 = true then (some 0) else (some (-1))) else (if t102 = true then (some 1) else (if a0 < a1 then (some (-1)) else (if a0 > a1 then (some 1) else (some 0))))))
set_option maxHeartbeats 8000000 in
set_option maxRecDepth 100000 in
theorem cmp_Compare_uint64.calls (a0 : Int) (a1 : Int) (r : Int) (w : World) (h : cmp_Compare_uint64.f a0 a1 = some r) :
 Calls Try.prog 123 #[.int .u64 a0, .int .u64 a1] w fun e w' => e = .returned (.int .i64 r) ∧ Drawn0 w w' := by
 have H : ((cmp_isNaN_uint64.f a0).bind fun t101 => ((cmp_isNaN_uint64.f a1).bind fun t102 => (if t101 = true then (if t102 = true then (some 0) else (some (-1))) else (if t102 = true then (some 1) else (if a0 < a1 then (some (-1)) else (if a0 > a1 then (some 1) else (some 0))))))) = some r := h; clear h; replace H := Option.bind_eq_some_iff.mp H; obtain ⟨t101, A30, H⟩ := H; replace H : ((cmp_isNaN_uint64.f a1).bind fun t102 => (if t101 = true then (if t102 = true then (some 0) else (some (-1))) else (if t102 = true then (some 1) else (if a0 < a1 then (some (-1)) else (if a0 > a1 then (some 1) else (some 0)))))) = some r := H; have A3 := Aside0.mk A30; clear A30; replace H := Option.bind_eq_some_iff.mp H; obtain ⟨t102, A40, H⟩ := H; replace H : (if t101 = true then (if t102 = true then (some 0) else (some (-1))) else (if t102 = true then (some 1) else (if a0 < a1 then (some (-1)) else (if a0 > a1 then (some 1) else (some 0))))) = some r := H; have A4 := Aside0.mk A40; clear A40
 by_cases c5 : t101 = true
 · subst c5; (have H1 : (if t102 = true then (some 0) else (some (-1))) = some r := by rw [if_pos rfl] at H; exact H); clear H; have H := H1; clear H1
   by_cases c6 : t102 = true
   · subst c6; (have H1 : (some 0) = some r := by rw [if_pos rfl] at H; exact H); clear H; have H := H1; clear H1; obtain rfl := Option.some.inj H; go_enter Try.func123, Try.ntmps123
     go_wp2_with (first | ((with_reducible refine vv (f := 129) rfl ?_); refine xq (some 8) rfl rfl Try.func129 (by kernel_rfl) rfl #[.int .u64 a0] rfl (by (try simp only [ul, ut, uu]); first | done | rfl | (simp only [uo, uq]; rfl)) ?_; (with_reducible refine (cmp_isNaN_uint64.calls a0 true _ A3.out).mono ?_); rintro e w' ⟨rfl, ⟨nd, rfl⟩⟩; refine ⟨_, rfl, ?_⟩) | ((with_reducible refine vv (f := 129) rfl ?_); refine xq (some 10) rfl rfl Try.func129 (by kernel_rfl) rfl #[.int .u64 a1] rfl (by (try simp only [ul, ut, uu]); first | done | rfl | (simp only [uo, uq]; rfl)) ?_; (with_reducible refine (cmp_isNaN_uint64.calls a1 true _ A4.out).mono ?_); rintro e w' ⟨rfl, ⟨nd, rfl⟩⟩; refine ⟨_, rfl, ?_⟩))
     go_ret
     exact ⟨by first | rfl | (simp; done) | (simp [*]; done), by repeat (first | exact xg _ | apply xe)⟩
   · replace c6 := Bool.eq_false_iff.mpr c6; subst c6; (have H1 : (some (-1)) = some r := by rw [if_neg (show ¬ (false = true) by decide)] at H; exact H); clear H; have H := H1; clear H1; obtain rfl := Option.some.inj H; go_enter Try.func123, Try.ntmps123
     go_wp2_with (first | ((with_reducible refine vv (f := 129) rfl ?_); refine xq (some 8) rfl rfl Try.func129 (by kernel_rfl) rfl #[.int .u64 a0] rfl (by (try simp only [ul, ut, uu]); first | done | rfl | (simp only [uo, uq]; rfl)) ?_; (with_reducible refine (cmp_isNaN_uint64.calls a0 true _ A3.out).mono ?_); rintro e w' ⟨rfl, ⟨nd, rfl⟩⟩; refine ⟨_, rfl, ?_⟩) | ((with_reducible refine vv (f := 129) rfl ?_); refine xq (some 10) rfl rfl Try.func129 (by kernel_rfl) rfl #[.int .u64 a1] rfl (by (try simp only [ul, ut, uu]); first | done | rfl | (simp only [uo, uq]; rfl)) ?_; (with_reducible refine (cmp_isNaN_uint64.calls a1 false _ A4.out).mono ?_); rintro e w' ⟨rfl, ⟨nd, rfl⟩⟩; refine ⟨_, rfl, ?_⟩))
     go_ret
     exact ⟨by first | rfl | (simp; done) | (simp [*]; done), by repeat (first | exact xg _ | apply xe)⟩
 · replace c5 := Bool.eq_false_iff.mpr c5; subst c5; (have H1 : (if t102 = true then (some 1) else (if a0 < a1 then (some (-1)) else (if a0 > a1 then (some 1) else (some 0)))) = some r := by rw [if_neg (show ¬ (false = true) by decide)] at H; exact H); clear H; have H := H1; clear H1
   by_cases c7 : t102 = true
   · subst c7; (have H1 : (some 1) = some r := by rw [if_pos rfl] at H; exact H); clear H; have H := H1; clear H1; obtain rfl := Option.some.inj H; go_enter Try.func123, Try.ntmps123
     go_wp2_with (first | ((with_reducible refine vv (f := 129) rfl ?_); refine xq (some 8) rfl rfl Try.func129 (by kernel_rfl) rfl #[.int .u64 a0] rfl (by (try simp only [ul, ut, uu]); first | done | rfl | (simp only [uo, uq]; rfl)) ?_; (with_reducible refine (cmp_isNaN_uint64.calls a0 false _ A3.out).mono ?_); rintro e w' ⟨rfl, ⟨nd, rfl⟩⟩; refine ⟨_, rfl, ?_⟩) | ((with_reducible refine vv (f := 129) rfl ?_); refine xq (some 10) rfl rfl Try.func129 (by kernel_rfl) rfl #[.int .u64 a1] rfl (by (try simp only [ul, ut, uu]); first | done | rfl | (simp only [uo, uq]; rfl)) ?_; (with_reducible refine (cmp_isNaN_uint64.calls a1 true _ A4.out).mono ?_); rintro e w' ⟨rfl, ⟨nd, rfl⟩⟩; refine ⟨_, rfl, ?_⟩))
     go_ret
     exact ⟨by first | rfl | (simp; done) | (simp [*]; done), by repeat (first | exact xg _ | apply xe)⟩
   · replace c7 := Bool.eq_false_iff.mpr c7; subst c7; (have H1 : (if a0 < a1 then (some (-1)) else (if a0 > a1 then (some 1) else (some 0))) = some r := by rw [if_neg (show ¬ (false = true) by decide)] at H; exact H); clear H; have H := H1; clear H1
     by_cases c8 : a0 < a1
     · rw [if_pos c8] at H; have c8b0 : decide (a0 < a1) = true := decide_eq_true c8; clear c8; obtain rfl := Option.some.inj H; go_enter Try.func123, Try.ntmps123
       go_wp2_with (first | ((with_reducible refine vv (f := 129) rfl ?_); refine xq (some 8) rfl rfl Try.func129 (by kernel_rfl) rfl #[.int .u64 a0] rfl (by (try simp only [ul, ut, uu]); first | done | rfl | (simp only [uo, uq]; rfl)) ?_; (with_reducible refine (cmp_isNaN_uint64.calls a0 false _ A3.out).mono ?_); rintro e w' ⟨rfl, ⟨nd, rfl⟩⟩; refine ⟨_, rfl, ?_⟩) | ((with_reducible refine vv (f := 129) rfl ?_); refine xq (some 10) rfl rfl Try.func129 (by kernel_rfl) rfl #[.int .u64 a1] rfl (by (try simp only [ul, ut, uu]); first | done | rfl | (simp only [uo, uq]; rfl)) ?_; (with_reducible refine (cmp_isNaN_uint64.calls a1 false _ A4.out).mono ?_); rintro e w' ⟨rfl, ⟨nd, rfl⟩⟩; refine ⟨_, rfl, ?_⟩))
       go_ret
       exact ⟨by first | rfl | (simp; done) | (simp [*]; done), by repeat (first | exact xg _ | apply xe)⟩
     · rw [if_neg c8] at H; have c8b0 : decide (a0 < a1) = false := decide_eq_false c8; clear c8
       by_cases c9 : a0 > a1
       · rw [if_pos c9] at H; have c9b0 : decide (a1 < a0) = true := decide_eq_true c9; clear c9; obtain rfl := Option.some.inj H; go_enter Try.func123, Try.ntmps123
         go_wp2_with (first | ((with_reducible refine vv (f := 129) rfl ?_); refine xq (some 8) rfl rfl Try.func129 (by kernel_rfl) rfl #[.int .u64 a0] rfl (by (try simp only [ul, ut, uu]); first | done | rfl | (simp only [uo, uq]; rfl)) ?_; (with_reducible refine (cmp_isNaN_uint64.calls a0 false _ A3.out).mono ?_); rintro e w' ⟨rfl, ⟨nd, rfl⟩⟩; refine ⟨_, rfl, ?_⟩) | ((with_reducible refine vv (f := 129) rfl ?_); refine xq (some 10) rfl rfl Try.func129 (by kernel_rfl) rfl #[.int .u64 a1] rfl (by (try simp only [ul, ut, uu]); first | done | rfl | (simp only [uo, uq]; rfl)) ?_; (with_reducible refine (cmp_isNaN_uint64.calls a1 false _ A4.out).mono ?_); rintro e w' ⟨rfl, ⟨nd, rfl⟩⟩; refine ⟨_, rfl, ?_⟩))
         go_ret
         exact ⟨by first | rfl | (simp; done) | (simp [*]; done), by repeat (first | exact xg _ | apply xe)⟩
       · rw [if_neg c9] at H; have c9b0 : decide (a1 < a0) = false := decide_eq_false c9; clear c9; obtain rfl := Option.some.inj H; go_enter Try.func123, Try.ntmps123
         go_wp2_with (first | ((with_reducible refine vv (f := 129) rfl ?_); refine xq (some 8) rfl rfl Try.func129 (by kernel_rfl) rfl #[.int .u64 a0] rfl (by (try simp only [ul, ut, uu]); first | done | rfl | (simp only [uo, uq]; rfl)) ?_; (with_reducible refine (cmp_isNaN_uint64.calls a0 false _ A3.out).mono ?_); rintro e w' ⟨rfl, ⟨nd, rfl⟩⟩; refine ⟨_, rfl, ?_⟩) | ((with_reducible refine vv (f := 129) rfl ?_); refine xq (some 10) rfl rfl Try.func129 (by kernel_rfl) rfl #[.int .u64 a1] rfl (by (try simp only [ul, ut, uu]); first | done | rfl | (simp only [uo, uq]; rfl)) ?_; (with_reducible refine (cmp_isNaN_uint64.calls a1 false _ A4.out).mono ?_); rintro e w' ⟨rfl, ⟨nd, rfl⟩⟩; refine ⟨_, rfl, ?_⟩))
         go_ret
         exact ⟨by first | rfl | (simp; done) | (simp [*]; done), by repeat (first | exact xg _ | apply xe)⟩
def cmp_isNaN_int.f (a0 : Int) : Option (Bool) := some (a0 != a0)
set_option maxHeartbeats 8000000 in
set_option maxRecDepth 100000 in
theorem cmp_isNaN_int.calls (a0 : Int) (r : Bool) (w : World) (h : cmp_isNaN_int.f a0 = some r) :
 Calls Try.prog 130 #[.int .i64 a0] w fun e w' => e = .returned (.bool r) ∧ Drawn0 w w' := by
 have H : (some (a0 != a0)) = some r := h; clear h; obtain rfl := Option.some.inj H; go_enter Try.func130, Try.ntmps130
 go_wp2
 go_ret
 exact ⟨by first | rfl | (simp; done) | (simp [*]; done), by repeat (first | exact xg _ | apply xe)⟩
def cmp_Compare_int.f (a0 : Int) (a1 : Int) : Option (Int) := (cmp_isNaN_int.f a0).bind fun t101 => ((cmp_isNaN_int.f a1).bind fun t102 => (if t101 = true then (if t102 = true then (some 0) else (some (-1))) else (if t102 = true then (some 1) else (if a0 < a1 then (some (-1)) else (if a0 > a1 then (some 1) else (some 0))))))
set_option maxHeartbeats 8000000 in
set_option maxRecDepth 100000 in
theorem cmp_Compare_int.calls (a0 : Int) (a1 : Int) (r : Int) (w : World) (h : cmp_Compare_int.f a0 a1 = some r) :
 Calls Try.prog 124 #[.int .i64 a0, .int .i64 a1] w fun e w' => e = .returned (.int .i64 r) ∧ Drawn0 w w' := by
 have H : ((cmp_isNaN_int.f a0).bind fun t101 => ((cmp_isNaN_int.f a1).bind fun t102 => (if t101 = true then (if t102 = true then (some 0) else (some (-1))) else (if t102 = true then (some 1) else (if a0 < a1 then (some (-1)) else (if a0 > a1 then (some 1) else (some 0))))))) = some r := h; clear h; replace H := Option.bind_eq_some_iff.mp H; obtain ⟨t101, A30, H⟩ := H; replace H : ((cmp_isNaN_int.f a1).bind fun t102 => (if t101 = true then (if t102 = true then (some 0) else (some (-1))) else (if t102 = true then (some 1) else (if a0 < a1 then (some (-1)) else (if a0 > a1 then (some 1) else (some 0)))))) = some r := H; have A3 := Aside0.mk A30; clear A30; replace H := Option.bind_eq_some_iff.mp H; obtain ⟨t102, A40, H⟩ := H; replace H : (if t101 = true then (if t102 = true then (some 0) else (some (-1))) else (if t102 = true then (some 1) else (if a0 < a1 then (some (-1)) else (if a0 > a1 then (some 1) else (some 0))))) = some r := H; have A4 := Aside0.mk A40; clear A40
 by_cases c5 : t101 = true
 · subst c5; (have H1 : (if t102 = true then (some 0) else (some (-1))) = some r := by rw [if_pos rfl] at H; exact H); clear H; have H := H1; clear H1
   by_cases c6 : t102 = true
   · subst c6; (have H1 : (some 0) = some r := by rw [if_pos rfl] at H; exact H); clear H; have H := H1; clear H1; obtain rfl := Option.some.inj H; go_enter Try.func124, Try.ntmps124
     go_wp2_with (first | ((with_reducible refine vv (f := 130) rfl ?_); refine xq (some 8) rfl rfl Try.func130 (by kernel_rfl) rfl #[.int .i64 a0] rfl (by (try simp only [ul, ut, uu]); first | done | rfl | (simp only [uo, uq]; rfl)) ?_; (with_reducible refine (cmp_isNaN_int.calls a0 true _ A3.out).mono ?_); rintro e w' ⟨rfl, ⟨nd, rfl⟩⟩; refine ⟨_, rfl, ?_⟩) | ((with_reducible refine vv (f := 130) rfl ?_); refine xq (some 10) rfl rfl Try.func130 (by kernel_rfl) rfl #[.int .i64 a1] rfl (by (try simp only [ul, ut, uu]); first | done | rfl | (simp only [uo, uq]; rfl)) ?_; (with_reducible refine (cmp_isNaN_int.calls a1 true _ A4.out).mono ?_); rintro e w' ⟨rfl, ⟨nd, rfl⟩⟩; refine ⟨_, rfl, ?_⟩))
     go_ret
     exact ⟨by first | rfl | (simp; done) | (simp [*]; done), by repeat (first | exact xg _ | apply xe)⟩
   · replace c6 := Bool.eq_false_iff.mpr c6; subst c6; (have H1 : (some (-1)) = some r := by rw [if_neg (show ¬ (false = true) by decide)] at H; exact H); clear H; have H := H1; clear H1; obtain rfl := Option.some.inj H; go_enter Try.func124, Try.ntmps124
     go_wp2_with (first | ((with_reducible refine vv (f := 130) rfl ?_); refine xq (some 8) rfl rfl Try.func130 (by kernel_rfl) rfl #[.int .i64 a0] rfl (by (try simp only [ul, ut, uu]); first | done | rfl | (simp only [uo, uq]; rfl)) ?_; (with_reducible refine (cmp_isNaN_int.calls a0 true _ A3.out).mono ?_); rintro e w' ⟨rfl, ⟨nd, rfl⟩⟩; refine ⟨_, rfl, ?_⟩) | ((with_reducible refine vv (f := 130) rfl ?_); refine xq (some 10) rfl rfl Try.func130 (by kernel_rfl) rfl #[.int .i64 a1] rfl (by (try simp only [ul, ut, uu]); first | done | rfl | (simp only [uo, uq]; rfl)) ?_; (with_reducible refine (cmp_isNaN_int.calls a1 false _ A4.out).mono ?_); rintro e w' ⟨rfl, ⟨nd, rfl⟩⟩; refine ⟨_, rfl, ?_⟩))
     go_ret
     exact ⟨by first | rfl | (simp; done) | (simp [*]; done), by repeat (first | exact xg _ | apply xe)⟩
 · replace c5 := Bool.eq_false_iff.mpr c5; subst c5; (have H1 : (if t102 = true then (some 1) else (if a0 < a1 then (some (-1)) else (if a0 > a1 then (some 1) else (some 0)))) = some r := by rw [if_neg (show ¬ (false = true) by decide)] at H; exact H); clear H; have H := H1; clear H1
   by_cases c7 : t102 = true
   · subst c7; (have H1 : (some 1) = some r := by rw [if_pos rfl] at H; exact H); clear H; have H := H1; clear H1; obtain rfl := Option.some.inj H; go_enter Try.func124, Try.ntmps124
     go_wp2_with (first | ((with_reducible refine vv (f := 130) rfl ?_); refine xq (some 8) rfl rfl Try.func130 (by kernel_rfl) rfl #[.int .i64 a0] rfl (by (try simp only [ul, ut, uu]); first | done | rfl | (simp only [uo, uq]; rfl)) ?_; (with_reducible refine (cmp_isNaN_int.calls a0 false _ A3.out).mono ?_); rintro e w' ⟨rfl, ⟨nd, rfl⟩⟩; refine ⟨_, rfl, ?_⟩) | ((with_reducible refine vv (f := 130) rfl ?_); refine xq (some 10) rfl rfl Try.func130 (by kernel_rfl) rfl #[.int .i64 a1] rfl (by (try simp only [ul, ut, uu]); first | done | rfl | (simp only [uo, uq]; rfl)) ?_; (with_reducible refine (cmp_isNaN_int.calls a1 true _ A4.out).mono ?_); rintro e w' ⟨rfl, ⟨nd, rfl⟩⟩; refine ⟨_, rfl, ?_⟩))
     go_ret
     exact ⟨by first | rfl | (simp; done) | (simp [*]; done), by repeat (first | exact xg _ | apply xe)⟩
   · replace c7 := Bool.eq_false_iff.mpr c7; subst c7; (have H1 : (if a0 < a1 then (some (-1)) else (if a0 > a1 then (some 1) else (some 0))) = some r := by rw [if_neg (show ¬ (false = true) by decide)] at H; exact H); clear H; have H := H1; clear H1
     by_cases c8 : a0 < a1
     · rw [if_pos c8] at H; have c8b0 : decide (a0 < a1) = true := decide_eq_true c8; clear c8; obtain rfl := Option.some.inj H; go_enter Try.func124, Try.ntmps124
       go_wp2_with (first | ((with_reducible refine vv (f := 130) rfl ?_); refine xq (some 8) rfl rfl Try.func130 (by kernel_rfl) rfl #[.int .i64 a0] rfl (by (try simp only [ul, ut, uu]); first | done | rfl | (simp only [uo, uq]; rfl)) ?_; (with_reducible refine (cmp_isNaN_int.calls a0 false _ A3.out).mono ?_); rintro e w' ⟨rfl, ⟨nd, rfl⟩⟩; refine ⟨_, rfl, ?_⟩) | ((with_reducible refine vv (f := 130) rfl ?_); refine xq (some 10) rfl rfl Try.func130 (by kernel_rfl) rfl #[.int .i64 a1] rfl (by (try simp only [ul, ut, uu]); first | done | rfl | (simp only [uo, uq]; rfl)) ?_; (with_reducible refine (cmp_isNaN_int.calls a1 false _ A4.out).mono ?_); rintro e w' ⟨rfl, ⟨nd, rfl⟩⟩; refine ⟨_, rfl, ?_⟩))
       go_ret
       exact ⟨by first | rfl | (simp; done) | (simp [*]; done), by repeat (first | exact xg _ | apply xe)⟩
     · rw [if_neg c8] at H; have c8b0 : decide (a0 < a1) = false := decide_eq_false c8; clear c8
       by_cases c9 : a0 > a1
       · rw [if_pos c9] at H; have c9b0 : decide (a1 < a0) = true := decide_eq_true c9; clear c9; obtain rfl := Option.some.inj H; go_enter Try.func124, Try.ntmps124
         go_wp2_with (first | ((with_reducible refine vv (f := 130) rfl ?_); refine xq (some 8) rfl rfl Try.func130 (by kernel_rfl) rfl #[.int .i64 a0] rfl (by (try simp only [ul, ut, uu]); first | done | rfl | (simp only [uo, uq]; rfl)) ?_; (with_reducible refine (cmp_isNaN_int.calls a0 false _ A3.out).mono ?_); rintro e w' ⟨rfl, ⟨nd, rfl⟩⟩; refine ⟨_, rfl, ?_⟩) | ((with_reducible refine vv (f := 130) rfl ?_); refine xq (some 10) rfl rfl Try.func130 (by kernel_rfl) rfl #[.int .i64 a1] rfl (by (try simp only [ul, ut, uu]); first | done | rfl | (simp only [uo, uq]; rfl)) ?_; (with_reducible refine (cmp_isNaN_int.calls a1 false _ A4.out).mono ?_); rintro e w' ⟨rfl, ⟨nd, rfl⟩⟩; refine ⟨_, rfl, ?_⟩))
         go_ret
         exact ⟨by first | rfl | (simp; done) | (simp [*]; done), by repeat (first | exact xg _ | apply xe)⟩
       · rw [if_neg c9] at H; have c9b0 : decide (a1 < a0) = false := decide_eq_false c9; clear c9; obtain rfl := Option.some.inj H; go_enter Try.func124, Try.ntmps124
         go_wp2_with (first | ((with_reducible refine vv (f := 130) rfl ?_); refine xq (some 8) rfl rfl Try.func130 (by kernel_rfl) rfl #[.int .i64 a0] rfl (by (try simp only [ul, ut, uu]); first | done | rfl | (simp only [uo, uq]; rfl)) ?_; (with_reducible refine (cmp_isNaN_int.calls a0 false _ A3.out).mono ?_); rintro e w' ⟨rfl, ⟨nd, rfl⟩⟩; refine ⟨_, rfl, ?_⟩) | ((with_reducible refine vv (f := 130) rfl ?_); refine xq (some 10) rfl rfl Try.func130 (by kernel_rfl) rfl #[.int .i64 a1] rfl (by (try simp only [ul, ut, uu]); first | done | rfl | (simp only [uo, uq]; rfl)) ?_; (with_reducible refine (cmp_isNaN_int.calls a1 false _ A4.out).mono ?_); rintro e w' ⟨rfl, ⟨nd, rfl⟩⟩; refine ⟨_, rfl, ?_⟩))
         go_ret
         exact ⟨by first | rfl | (simp; done) | (simp [*]; done), by repeat (first | exact xg _ | apply xe)⟩
end Go.Proofs.Ytdfndglenbckhaa.V
end
