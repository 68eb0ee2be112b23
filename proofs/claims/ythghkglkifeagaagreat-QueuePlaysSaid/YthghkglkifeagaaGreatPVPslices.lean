-- a text of this work, without what this claim doesn't use (wip/shake.py)
import Derived.Test.YthghkglkifeagaaGreatPVPvergerref5
set_option maxRecDepth 100000
set_option maxHeartbeats 8000000
namespace Go.Proofs.YthghkglkifeagaaGreat.V
open Go.RowKit Go.Proofs.YthghkglkifeagaaGreatW.PrintWords Go.Proofs.YthghkglkifeagaaGreatW.PrintLast Go.Proofs.YthghkglkifeagaaGreatW.PrintMore
attribute [local go_sem] max2_int min2_int max_two min_two max_three min_three max_four min_four
set_option linter.unusedVariables false
set_option linter.unusedSimpArgs false
def cmp_Or_int.l0 : Nat → Int → List Int → Int → Int → Option (Int)
  | 0, _, _, _, _ => none
  | k + 1, x3, x6, x7, x8 => if x8 < x7 then (if 0 ≤ x8 then (if x8 < (x6.length : Int) then (if (rd x6 x8) = x3 then (cmp_Or_int.l0 k x3 x6 x7 (wrap64 (x8 + 1))) else (some (rd x6 x8))) else (none)) else (none)) else (some x3)
def cmp_Or_int.f (k : Nat) (l0 : List Int) : Option (Int) := cmp_Or_int.l0 k 0 l0 (l0.length : Int) 0
theorem cmp_Or_int.calls (k : Nat) (A0 : Option Addr) (c0 : Nat) (l0 : List Int) (r : Int) (w : World) (hr0 : Kd.C (Kd.int .i64) w A0 l0.length l0) (hc0 : l0.length ≤ c0) (h : cmp_Or_int.f k l0 = some r) :
 Calls Tryz.prog 113 #[.slice A0 l0.length c0] w fun e w' => e = .returned (.int .i64 r) ∧ Drawn0 w w' := by
 have HR0 := za hr0; have HC0 := za hc0; clear hr0 hc0; have H : (cmp_Or_int.l0 k 0 l0 (l0.length : Int) 0) = some r := h; clear h; have H' := za H; clear H; go_enter Tryz.func113, Tryz.ntmps113
 go_wp2
 go_loopg [8] k (fun kq v8 w' => ∃ (x8_1 : Int), v8 = .int .i64 x8_1 ∧ Aside0 (cmp_Or_int.l0 kq 0 l0 (l0.length : Int) x8_1 = some r) ∧ Aside0 (kq ≤ k) ∧ Drawn0 w w')
 case atStart => exact ⟨(0), rfl, H', ⟨ut _⟩, by repeat (first | exact vm _ | apply vl)⟩
 case round =>
  clear H'
  obtain ⟨x8_1, rfl, HA, HK1, ⟨m1, rfl⟩⟩ := hrel
  cases gk with
  | zero => exact absurd HA.out (by simp [cmp_Or_int.l0])
  | succ k1 =>
   have H := HA.out; clear HA; simp only [cmp_Or_int.l0] at H
   by_cases c2 : x8_1 < (l0.length : Int)
   · rw [if_pos c2] at H; have c2b0 : decide (x8_1 < (l0.length : Int)) = true := decide_eq_true c2; clear c2
     by_cases c3 : 0 ≤ x8_1
     · rw [if_pos c3] at H; have c3b0 : decide (0 ≤ x8_1) = true := decide_eq_true c3; clear c3
       by_cases c4 : x8_1 < (l0.length : Int)
       · rw [if_pos c4] at H; have c4b0 : decide (x8_1 < (l0.length : Int)) = true := decide_eq_true c4; clear c4
         by_cases c5 : (rd l0 x8_1) = 0
         · rw [if_pos c5] at H; have c5b0 : ((rd l0 x8_1) == 0) = true := beq_iff_eq.mpr c5; have c5b1 : ((rd l0 x8_1) != 0) = false := bne_eq_false_iff_eq.mpr c5; clear c5; have H' := za H; clear H; have p101 : 0 ≤ (x8_1 : Int) := ud (by assumption); have q101 : x8_1 < (l0.length : Int) := ud (by assumption); obtain ⟨ad101, e101, hx101_0⟩ := Kd.at_int HR0.out x8_1 p101 q101
           cases e101
           replace p101 := eq_true p101; replace q101 := eq_true q101
           go_wp2
           go_roundg k1
           case measure => have := HK1.out; omega
           case rel => exact ⟨(wrap64 (x8_1 + 1)), rfl, H', ⟨by have := HK1.out; omega⟩, by repeat (first | exact vm _ | apply vl)⟩
         · rw [if_neg c5] at H; have c5b0 : ((rd l0 x8_1) == 0) = false := beq_eq_false_iff_ne.mpr c5; have c5b1 : ((rd l0 x8_1) != 0) = true := bne_iff_ne.mpr c5; obtain rfl := Option.some.inj H; have p101 : 0 ≤ (x8_1 : Int) := ud (by assumption); have q101 : x8_1 < (l0.length : Int) := ud (by assumption); obtain ⟨ad101, e101, hx101_0⟩ := Kd.at_int HR0.out x8_1 p101 q101
           cases e101
           replace p101 := eq_true p101; replace q101 := eq_true q101
           go_wp2
           go_ret
           exact ⟨by first | rfl | (simp; done) | (simp [*]; done), by repeat (first | exact vm _ | apply vl)⟩
       · rw [if_neg c4] at H; exact absurd H (by simp)
     · rw [if_neg c3] at H; exact absurd H (by simp)
   · rw [if_neg c2] at H; have c2b0 : decide (x8_1 < (l0.length : Int)) = false := decide_eq_false c2; clear c2; obtain rfl := Option.some.inj H
     go_wp2
     go_ret
     exact ⟨by first | rfl | (simp; done) | (simp [*]; done), by repeat (first | exact vm _ | apply vl)⟩
def cmp_isNaN_uint64.f (a0 : Int) : Option (Bool) := some (a0 != a0)
theorem cmp_isNaN_uint64.calls (a0 : Int) (r : Bool) (w : World) (h : cmp_isNaN_uint64.f a0 = some r) :
 Calls Tryz.prog 124 #[.int .u64 a0] w fun e w' => e = .returned (.bool r) ∧ Drawn0 w w' := by
 have H : (some (a0 != a0)) = some r := h; clear h; obtain rfl := Option.some.inj H; go_enter Tryz.func124, Tryz.ntmps124
 go_wp2
 go_ret
 exact ⟨by first | rfl | (simp; done) | (simp [*]; done), by repeat (first | exact vm _ | apply vl)⟩
def cmp_Compare_uint64.f (a0 : Int) (a1 : Int) : Option (Int) := (cmp_isNaN_uint64.f a0).bind fun t101 => ((cmp_isNaN_uint64.f a1).bind fun t102 => (if t101 = true then (if t102 = true then (some 0) else (some (-1))) else (if t102 = true then (some 1) else (if a0 < a1 then (some (-1)) else (if a0 > a1 then (some 1) else (some 0))))))
theorem cmp_Compare_uint64.calls (a0 : Int) (a1 : Int) (r : Int) (w : World) (h : cmp_Compare_uint64.f a0 a1 = some r) :
 Calls Tryz.prog 114 #[.int .u64 a0, .int .u64 a1] w fun e w' => e = .returned (.int .i64 r) ∧ Drawn0 w w' := by
 have H : ((cmp_isNaN_uint64.f a0).bind fun t101 => ((cmp_isNaN_uint64.f a1).bind fun t102 => (if t101 = true then (if t102 = true then (some 0) else (some (-1))) else (if t102 = true then (some 1) else (if a0 < a1 then (some (-1)) else (if a0 > a1 then (some 1) else (some 0))))))) = some r := h; clear h; replace H := Option.bind_eq_some_iff.mp H; obtain ⟨t101, A30, H⟩ := H; replace H : ((cmp_isNaN_uint64.f a1).bind fun t102 => (if t101 = true then (if t102 = true then (some 0) else (some (-1))) else (if t102 = true then (some 1) else (if a0 < a1 then (some (-1)) else (if a0 > a1 then (some 1) else (some 0)))))) = some r := H; have A3 := za A30; clear A30; replace H := Option.bind_eq_some_iff.mp H; obtain ⟨t102, A40, H⟩ := H; replace H : (if t101 = true then (if t102 = true then (some 0) else (some (-1))) else (if t102 = true then (some 1) else (if a0 < a1 then (some (-1)) else (if a0 > a1 then (some 1) else (some 0))))) = some r := H; have A4 := za A40; clear A40
 by_cases c5 : t101 = true
 · subst c5; (have H1 : (if t102 = true then (some 0) else (some (-1))) = some r := by rw [if_pos rfl] at H; exact H); clear H; have H := H1; clear H1
   by_cases c6 : t102 = true
   · subst c6; (have H1 : (some 0) = some r := by rw [if_pos rfl] at H; exact H); clear H; have H := H1; clear H1; obtain rfl := Option.some.inj H; go_enter Tryz.func114, Tryz.ntmps114
     go_wp2_with (first | ((with_reducible refine ux (f := 124) rfl ?_); refine vx (some 8) rfl rfl Tryz.func124 (by kernel_rfl) rfl #[.int .u64 a0] rfl (by (try simp only [ug, ul, uo]); first | done | rfl | (simp only [uk, uj]; rfl)) ?_; (with_reducible refine (cmp_isNaN_uint64.calls a0 true _ A3.out).mono ?_); rintro e w' ⟨rfl, ⟨nd, rfl⟩⟩; refine ⟨_, rfl, ?_⟩) | ((with_reducible refine ux (f := 124) rfl ?_); refine vx (some 10) rfl rfl Tryz.func124 (by kernel_rfl) rfl #[.int .u64 a1] rfl (by (try simp only [ug, ul, uo]); first | done | rfl | (simp only [uk, uj]; rfl)) ?_; (with_reducible refine (cmp_isNaN_uint64.calls a1 true _ A4.out).mono ?_); rintro e w' ⟨rfl, ⟨nd, rfl⟩⟩; refine ⟨_, rfl, ?_⟩))
     go_ret
     exact ⟨by first | rfl | (simp; done) | (simp [*]; done), by repeat (first | exact vm _ | apply vl)⟩
   · replace c6 := Bool.eq_false_iff.mpr c6; subst c6; (have H1 : (some (-1)) = some r := by rw [if_neg (show ¬ (false = true) by decide)] at H; exact H); clear H; have H := H1; clear H1; obtain rfl := Option.some.inj H; go_enter Tryz.func114, Tryz.ntmps114
     go_wp2_with (first | ((with_reducible refine ux (f := 124) rfl ?_); refine vx (some 8) rfl rfl Tryz.func124 (by kernel_rfl) rfl #[.int .u64 a0] rfl (by (try simp only [ug, ul, uo]); first | done | rfl | (simp only [uk, uj]; rfl)) ?_; (with_reducible refine (cmp_isNaN_uint64.calls a0 true _ A3.out).mono ?_); rintro e w' ⟨rfl, ⟨nd, rfl⟩⟩; refine ⟨_, rfl, ?_⟩) | ((with_reducible refine ux (f := 124) rfl ?_); refine vx (some 10) rfl rfl Tryz.func124 (by kernel_rfl) rfl #[.int .u64 a1] rfl (by (try simp only [ug, ul, uo]); first | done | rfl | (simp only [uk, uj]; rfl)) ?_; (with_reducible refine (cmp_isNaN_uint64.calls a1 false _ A4.out).mono ?_); rintro e w' ⟨rfl, ⟨nd, rfl⟩⟩; refine ⟨_, rfl, ?_⟩))
     go_ret
     exact ⟨by first | rfl | (simp; done) | (simp [*]; done), by repeat (first | exact vm _ | apply vl)⟩
 · replace c5 := Bool.eq_false_iff.mpr c5; subst c5; (have H1 : (if t102 = true then (some 1) else (if a0 < a1 then (some (-1)) else (if a0 > a1 then (some 1) else (some 0)))) = some r := by rw [if_neg (show ¬ (false = true) by decide)] at H; exact H); clear H; have H := H1; clear H1
   by_cases c7 : t102 = true
   · subst c7; (have H1 : (some 1) = some r := by rw [if_pos rfl] at H; exact H); clear H; have H := H1; clear H1; obtain rfl := Option.some.inj H; go_enter Tryz.func114, Tryz.ntmps114
     go_wp2_with (first | ((with_reducible refine ux (f := 124) rfl ?_); refine vx (some 8) rfl rfl Tryz.func124 (by kernel_rfl) rfl #[.int .u64 a0] rfl (by (try simp only [ug, ul, uo]); first | done | rfl | (simp only [uk, uj]; rfl)) ?_; (with_reducible refine (cmp_isNaN_uint64.calls a0 false _ A3.out).mono ?_); rintro e w' ⟨rfl, ⟨nd, rfl⟩⟩; refine ⟨_, rfl, ?_⟩) | ((with_reducible refine ux (f := 124) rfl ?_); refine vx (some 10) rfl rfl Tryz.func124 (by kernel_rfl) rfl #[.int .u64 a1] rfl (by (try simp only [ug, ul, uo]); first | done | rfl | (simp only [uk, uj]; rfl)) ?_; (with_reducible refine (cmp_isNaN_uint64.calls a1 true _ A4.out).mono ?_); rintro e w' ⟨rfl, ⟨nd, rfl⟩⟩; refine ⟨_, rfl, ?_⟩))
     go_ret
     exact ⟨by first | rfl | (simp; done) | (simp [*]; done), by repeat (first | exact vm _ | apply vl)⟩
   · replace c7 := Bool.eq_false_iff.mpr c7; subst c7; (have H1 : (if a0 < a1 then (some (-1)) else (if a0 > a1 then (some 1) else (some 0))) = some r := by rw [if_neg (show ¬ (false = true) by decide)] at H; exact H); clear H; have H := H1; clear H1
     by_cases c8 : a0 < a1
     · rw [if_pos c8] at H; have c8b0 : decide (a0 < a1) = true := decide_eq_true c8; clear c8; obtain rfl := Option.some.inj H; go_enter Tryz.func114, Tryz.ntmps114
       go_wp2_with (first | ((with_reducible refine ux (f := 124) rfl ?_); refine vx (some 8) rfl rfl Tryz.func124 (by kernel_rfl) rfl #[.int .u64 a0] rfl (by (try simp only [ug, ul, uo]); first | done | rfl | (simp only [uk, uj]; rfl)) ?_; (with_reducible refine (cmp_isNaN_uint64.calls a0 false _ A3.out).mono ?_); rintro e w' ⟨rfl, ⟨nd, rfl⟩⟩; refine ⟨_, rfl, ?_⟩) | ((with_reducible refine ux (f := 124) rfl ?_); refine vx (some 10) rfl rfl Tryz.func124 (by kernel_rfl) rfl #[.int .u64 a1] rfl (by (try simp only [ug, ul, uo]); first | done | rfl | (simp only [uk, uj]; rfl)) ?_; (with_reducible refine (cmp_isNaN_uint64.calls a1 false _ A4.out).mono ?_); rintro e w' ⟨rfl, ⟨nd, rfl⟩⟩; refine ⟨_, rfl, ?_⟩))
       go_ret
       exact ⟨by first | rfl | (simp; done) | (simp [*]; done), by repeat (first | exact vm _ | apply vl)⟩
     · rw [if_neg c8] at H; have c8b0 : decide (a0 < a1) = false := decide_eq_false c8; clear c8
       by_cases c9 : a0 > a1
       · rw [if_pos c9] at H; have c9b0 : decide (a1 < a0) = true := decide_eq_true c9; clear c9; obtain rfl := Option.some.inj H; go_enter Tryz.func114, Tryz.ntmps114
         go_wp2_with (first | ((with_reducible refine ux (f := 124) rfl ?_); refine vx (some 8) rfl rfl Tryz.func124 (by kernel_rfl) rfl #[.int .u64 a0] rfl (by (try simp only [ug, ul, uo]); first | done | rfl | (simp only [uk, uj]; rfl)) ?_; (with_reducible refine (cmp_isNaN_uint64.calls a0 false _ A3.out).mono ?_); rintro e w' ⟨rfl, ⟨nd, rfl⟩⟩; refine ⟨_, rfl, ?_⟩) | ((with_reducible refine ux (f := 124) rfl ?_); refine vx (some 10) rfl rfl Tryz.func124 (by kernel_rfl) rfl #[.int .u64 a1] rfl (by (try simp only [ug, ul, uo]); first | done | rfl | (simp only [uk, uj]; rfl)) ?_; (with_reducible refine (cmp_isNaN_uint64.calls a1 false _ A4.out).mono ?_); rintro e w' ⟨rfl, ⟨nd, rfl⟩⟩; refine ⟨_, rfl, ?_⟩))
         go_ret
         exact ⟨by first | rfl | (simp; done) | (simp [*]; done), by repeat (first | exact vm _ | apply vl)⟩
       · rw [if_neg c9] at H; have c9b0 : decide (a1 < a0) = false := decide_eq_false c9; clear c9; obtain rfl := Option.some.inj H; go_enter Tryz.func114, Tryz.ntmps114
         go_wp2_with (first | ((with_reducible refine ux (f := 124) rfl ?_); refine vx (some 8) rfl rfl Tryz.func124 (by kernel_rfl) rfl #[.int .u64 a0] rfl (by (try simp only [ug, ul, uo]); first | done | rfl | (simp only [uk, uj]; rfl)) ?_; (with_reducible refine (cmp_isNaN_uint64.calls a0 false _ A3.out).mono ?_); rintro e w' ⟨rfl, ⟨nd, rfl⟩⟩; refine ⟨_, rfl, ?_⟩) | ((with_reducible refine ux (f := 124) rfl ?_); refine vx (some 10) rfl rfl Tryz.func124 (by kernel_rfl) rfl #[.int .u64 a1] rfl (by (try simp only [ug, ul, uo]); first | done | rfl | (simp only [uk, uj]; rfl)) ?_; (with_reducible refine (cmp_isNaN_uint64.calls a1 false _ A4.out).mono ?_); rintro e w' ⟨rfl, ⟨nd, rfl⟩⟩; refine ⟨_, rfl, ?_⟩))
         go_ret
         exact ⟨by first | rfl | (simp; done) | (simp [*]; done), by repeat (first | exact vm _ | apply vl)⟩
def cmp_isNaN_int.f (a0 : Int) : Option (Bool) := some (a0 != a0)
theorem cmp_isNaN_int.calls (a0 : Int) (r : Bool) (w : World) (h : cmp_isNaN_int.f a0 = some r) :
 Calls Tryz.prog 125 #[.int .i64 a0] w fun e w' => e = .returned (.bool r) ∧ Drawn0 w w' := by
 have H : (some (a0 != a0)) = some r := h; clear h; obtain rfl := Option.some.inj H; go_enter Tryz.func125, Tryz.ntmps125
 go_wp2
 go_ret
 exact ⟨by first | rfl | (simp; done) | (simp [*]; done), by repeat (first | exact vm _ | apply vl)⟩
def cmp_Compare_int.f (a0 : Int) (a1 : Int) : Option (Int) := (cmp_isNaN_int.f a0).bind fun t101 => ((cmp_isNaN_int.f a1).bind fun t102 => (if t101 = true then (if t102 = true then (some 0) else (some (-1))) else (if t102 = true then (some 1) else (if a0 < a1 then (some (-1)) else (if a0 > a1 then (some 1) else (some 0))))))
theorem cmp_Compare_int.calls (a0 : Int) (a1 : Int) (r : Int) (w : World) (h : cmp_Compare_int.f a0 a1 = some r) :
 Calls Tryz.prog 115 #[.int .i64 a0, .int .i64 a1] w fun e w' => e = .returned (.int .i64 r) ∧ Drawn0 w w' := by
 have H : ((cmp_isNaN_int.f a0).bind fun t101 => ((cmp_isNaN_int.f a1).bind fun t102 => (if t101 = true then (if t102 = true then (some 0) else (some (-1))) else (if t102 = true then (some 1) else (if a0 < a1 then (some (-1)) else (if a0 > a1 then (some 1) else (some 0))))))) = some r := h; clear h; replace H := Option.bind_eq_some_iff.mp H; obtain ⟨t101, A30, H⟩ := H; replace H : ((cmp_isNaN_int.f a1).bind fun t102 => (if t101 = true then (if t102 = true then (some 0) else (some (-1))) else (if t102 = true then (some 1) else (if a0 < a1 then (some (-1)) else (if a0 > a1 then (some 1) else (some 0)))))) = some r := H; have A3 := za A30; clear A30; replace H := Option.bind_eq_some_iff.mp H; obtain ⟨t102, A40, H⟩ := H; replace H : (if t101 = true then (if t102 = true then (some 0) else (some (-1))) else (if t102 = true then (some 1) else (if a0 < a1 then (some (-1)) else (if a0 > a1 then (some 1) else (some 0))))) = some r := H; have A4 := za A40; clear A40
 by_cases c5 : t101 = true
 · subst c5; (have H1 : (if t102 = true then (some 0) else (some (-1))) = some r := by rw [if_pos rfl] at H; exact H); clear H; have H := H1; clear H1
   by_cases c6 : t102 = true
   · subst c6; (have H1 : (some 0) = some r := by rw [if_pos rfl] at H; exact H); clear H; have H := H1; clear H1; obtain rfl := Option.some.inj H; go_enter Tryz.func115, Tryz.ntmps115
     go_wp2_with (first | ((with_reducible refine ux (f := 125) rfl ?_); refine vx (some 8) rfl rfl Tryz.func125 (by kernel_rfl) rfl #[.int .i64 a0] rfl (by (try simp only [ug, ul, uo]); first | done | rfl | (simp only [uk, uj]; rfl)) ?_; (with_reducible refine (cmp_isNaN_int.calls a0 true _ A3.out).mono ?_); rintro e w' ⟨rfl, ⟨nd, rfl⟩⟩; refine ⟨_, rfl, ?_⟩) | ((with_reducible refine ux (f := 125) rfl ?_); refine vx (some 10) rfl rfl Tryz.func125 (by kernel_rfl) rfl #[.int .i64 a1] rfl (by (try simp only [ug, ul, uo]); first | done | rfl | (simp only [uk, uj]; rfl)) ?_; (with_reducible refine (cmp_isNaN_int.calls a1 true _ A4.out).mono ?_); rintro e w' ⟨rfl, ⟨nd, rfl⟩⟩; refine ⟨_, rfl, ?_⟩))
     go_ret
     exact ⟨by first | rfl | (simp; done) | (simp [*]; done), by repeat (first | exact vm _ | apply vl)⟩
   · replace c6 := Bool.eq_false_iff.mpr c6; subst c6; (have H1 : (some (-1)) = some r := by rw [if_neg (show ¬ (false = true) by decide)] at H; exact H); clear H; have H := H1; clear H1; obtain rfl := Option.some.inj H; go_enter Tryz.func115, Tryz.ntmps115
     go_wp2_with (first | ((with_reducible refine ux (f := 125) rfl ?_); refine vx (some 8) rfl rfl Tryz.func125 (by kernel_rfl) rfl #[.int .i64 a0] rfl (by (try simp only [ug, ul, uo]); first | done | rfl | (simp only [uk, uj]; rfl)) ?_; (with_reducible refine (cmp_isNaN_int.calls a0 true _ A3.out).mono ?_); rintro e w' ⟨rfl, ⟨nd, rfl⟩⟩; refine ⟨_, rfl, ?_⟩) | ((with_reducible refine ux (f := 125) rfl ?_); refine vx (some 10) rfl rfl Tryz.func125 (by kernel_rfl) rfl #[.int .i64 a1] rfl (by (try simp only [ug, ul, uo]); first | done | rfl | (simp only [uk, uj]; rfl)) ?_; (with_reducible refine (cmp_isNaN_int.calls a1 false _ A4.out).mono ?_); rintro e w' ⟨rfl, ⟨nd, rfl⟩⟩; refine ⟨_, rfl, ?_⟩))
     go_ret
     exact ⟨by first | rfl | (simp; done) | (simp [*]; done), by repeat (first | exact vm _ | apply vl)⟩
 · replace c5 := Bool.eq_false_iff.mpr c5; subst c5; (have H1 : (if t102 = true then (some 1) else (if a0 < a1 then (some (-1)) else (if a0 > a1 then (some 1) else (some 0)))) = some r := by rw [if_neg (show ¬ (false = true) by decide)] at H; exact H); clear H; have H := H1; clear H1
   by_cases c7 : t102 = true
   · subst c7; (have H1 : (some 1) = some r := by rw [if_pos rfl] at H; exact H); clear H; have H := H1; clear H1; obtain rfl := Option.some.inj H; go_enter Tryz.func115, Tryz.ntmps115
     go_wp2_with (first | ((with_reducible refine ux (f := 125) rfl ?_); refine vx (some 8) rfl rfl Tryz.func125 (by kernel_rfl) rfl #[.int .i64 a0] rfl (by (try simp only [ug, ul, uo]); first | done | rfl | (simp only [uk, uj]; rfl)) ?_; (with_reducible refine (cmp_isNaN_int.calls a0 false _ A3.out).mono ?_); rintro e w' ⟨rfl, ⟨nd, rfl⟩⟩; refine ⟨_, rfl, ?_⟩) | ((with_reducible refine ux (f := 125) rfl ?_); refine vx (some 10) rfl rfl Tryz.func125 (by kernel_rfl) rfl #[.int .i64 a1] rfl (by (try simp only [ug, ul, uo]); first | done | rfl | (simp only [uk, uj]; rfl)) ?_; (with_reducible refine (cmp_isNaN_int.calls a1 true _ A4.out).mono ?_); rintro e w' ⟨rfl, ⟨nd, rfl⟩⟩; refine ⟨_, rfl, ?_⟩))
     go_ret
     exact ⟨by first | rfl | (simp; done) | (simp [*]; done), by repeat (first | exact vm _ | apply vl)⟩
   · replace c7 := Bool.eq_false_iff.mpr c7; subst c7; (have H1 : (if a0 < a1 then (some (-1)) else (if a0 > a1 then (some 1) else (some 0))) = some r := by rw [if_neg (show ¬ (false = true) by decide)] at H; exact H); clear H; have H := H1; clear H1
     by_cases c8 : a0 < a1
     · rw [if_pos c8] at H; have c8b0 : decide (a0 < a1) = true := decide_eq_true c8; clear c8; obtain rfl := Option.some.inj H; go_enter Tryz.func115, Tryz.ntmps115
       go_wp2_with (first | ((with_reducible refine ux (f := 125) rfl ?_); refine vx (some 8) rfl rfl Tryz.func125 (by kernel_rfl) rfl #[.int .i64 a0] rfl (by (try simp only [ug, ul, uo]); first | done | rfl | (simp only [uk, uj]; rfl)) ?_; (with_reducible refine (cmp_isNaN_int.calls a0 false _ A3.out).mono ?_); rintro e w' ⟨rfl, ⟨nd, rfl⟩⟩; refine ⟨_, rfl, ?_⟩) | ((with_reducible refine ux (f := 125) rfl ?_); refine vx (some 10) rfl rfl Tryz.func125 (by kernel_rfl) rfl #[.int .i64 a1] rfl (by (try simp only [ug, ul, uo]); first | done | rfl | (simp only [uk, uj]; rfl)) ?_; (with_reducible refine (cmp_isNaN_int.calls a1 false _ A4.out).mono ?_); rintro e w' ⟨rfl, ⟨nd, rfl⟩⟩; refine ⟨_, rfl, ?_⟩))
       go_ret
       exact ⟨by first | rfl | (simp; done) | (simp [*]; done), by repeat (first | exact vm _ | apply vl)⟩
     · rw [if_neg c8] at H; have c8b0 : decide (a0 < a1) = false := decide_eq_false c8; clear c8
       by_cases c9 : a0 > a1
       · rw [if_pos c9] at H; have c9b0 : decide (a1 < a0) = true := decide_eq_true c9; clear c9; obtain rfl := Option.some.inj H; go_enter Tryz.func115, Tryz.ntmps115
         go_wp2_with (first | ((with_reducible refine ux (f := 125) rfl ?_); refine vx (some 8) rfl rfl Tryz.func125 (by kernel_rfl) rfl #[.int .i64 a0] rfl (by (try simp only [ug, ul, uo]); first | done | rfl | (simp only [uk, uj]; rfl)) ?_; (with_reducible refine (cmp_isNaN_int.calls a0 false _ A3.out).mono ?_); rintro e w' ⟨rfl, ⟨nd, rfl⟩⟩; refine ⟨_, rfl, ?_⟩) | ((with_reducible refine ux (f := 125) rfl ?_); refine vx (some 10) rfl rfl Tryz.func125 (by kernel_rfl) rfl #[.int .i64 a1] rfl (by (try simp only [ug, ul, uo]); first | done | rfl | (simp only [uk, uj]; rfl)) ?_; (with_reducible refine (cmp_isNaN_int.calls a1 false _ A4.out).mono ?_); rintro e w' ⟨rfl, ⟨nd, rfl⟩⟩; refine ⟨_, rfl, ?_⟩))
         go_ret
         exact ⟨by first | rfl | (simp; done) | (simp [*]; done), by repeat (first | exact vm _ | apply vl)⟩
       · rw [if_neg c9] at H; have c9b0 : decide (a1 < a0) = false := decide_eq_false c9; clear c9; obtain rfl := Option.some.inj H; go_enter Tryz.func115, Tryz.ntmps115
         go_wp2_with (first | ((with_reducible refine ux (f := 125) rfl ?_); refine vx (some 8) rfl rfl Tryz.func125 (by kernel_rfl) rfl #[.int .i64 a0] rfl (by (try simp only [ug, ul, uo]); first | done | rfl | (simp only [uk, uj]; rfl)) ?_; (with_reducible refine (cmp_isNaN_int.calls a0 false _ A3.out).mono ?_); rintro e w' ⟨rfl, ⟨nd, rfl⟩⟩; refine ⟨_, rfl, ?_⟩) | ((with_reducible refine ux (f := 125) rfl ?_); refine vx (some 10) rfl rfl Tryz.func125 (by kernel_rfl) rfl #[.int .i64 a1] rfl (by (try simp only [ug, ul, uo]); first | done | rfl | (simp only [uk, uj]; rfl)) ?_; (with_reducible refine (cmp_isNaN_int.calls a1 false _ A4.out).mono ?_); rintro e w' ⟨rfl, ⟨nd, rfl⟩⟩; refine ⟨_, rfl, ?_⟩))
         go_ret
         exact ⟨by first | rfl | (simp; done) | (simp [*]; done), by repeat (first | exact vm _ | apply vl)⟩
def entry_compare.f (k : Nat) (a0_0 : Int) (a0_1 : Int) (a1_0 : Int) (a1_1 : Int) : Option (Int) := (cmp_Compare_uint64.f a0_0 a1_0).bind fun t103 => ((cmp_Compare_int.f a0_1 a1_1).bind fun t104 => ((cmp_Or_int.f k (([t103, t104] : List Int))).bind fun t108 => (some t108)))
def entry_compare.T1 : Bool × List (List Nat × List Nat) := (true, [([], []), ([0], [0]), ([], []), ([2], [2]), ([1, 3], [1, 3]), ([], []), ([5], [5]), ([], []), ([7], [7]), ([6, 8, 4], [6, 8]), ([4, 9], [4, 9]), ([10, 9], [10]), ([11, 11, 0, 1, 2, 3, 4, 5, 6, 7, 8, 9, 10, 11], [11])])
def entry_compare.B1 : List Nat := [0, 1, 0, 4, 15, 0, 32, 0, 128, 511, 1023, 2047, 4095]
theorem entry_compare.tab1 : rtab .any (opsOf Tryz.f86 1) = entry_compare.T1 := by kernel_rfl
theorem entry_compare.bits1 : waitsOk entry_compare.T1.2 entry_compare.B1 = true := by kernel_rfl
theorem entry_compare.calls (k : Nat) (a0_0 : Int) (a0_1 : Int) (a1_0 : Int) (a1_1 : Int) (r : Int) (w : World) (h : entry_compare.f k a0_0 a0_1 a1_0 a1_1 = some r) :
 Calls Tryz.prog 86 #[.agg #[.int .u64 a0_0, .int .i64 a0_1], .agg #[.int .u64 a1_0, .int .i64 a1_1]] w fun e w' => e = .returned (.int .i64 r) ∧ Below w.heap.size w w' := by
 have hu33 := Tryz.underlying33; have HB := za (Below.refl w.heap.size w); have H : ((cmp_Compare_uint64.f a0_0 a1_0).bind fun t103 => ((cmp_Compare_int.f a0_1 a1_1).bind fun t104 => ((cmp_Or_int.f k (([t103, t104] : List Int))).bind fun t108 => (some t108)))) = some r := h; clear h; replace H := Option.bind_eq_some_iff.mp H; obtain ⟨t103, A30, H⟩ := H; replace H : ((cmp_Compare_int.f a0_1 a1_1).bind fun t104 => ((cmp_Or_int.f k (([t103, t104] : List Int))).bind fun t108 => (some t108))) = some r := H; have A3 := za A30; clear A30; replace H := Option.bind_eq_some_iff.mp H; obtain ⟨t104, A40, H⟩ := H; replace H : ((cmp_Or_int.f k (([t103, t104] : List Int))).bind fun t108 => (some t108)) = some r := H; have A4 := za A40; clear A40; obtain ⟨y105, hy105⟩ : ∃ y_ : List Int, y_ = (([t103, t104] : List Int)) := ⟨_, rfl⟩; (replace H : ((cmp_Or_int.f k y105).bind fun t108 => (some t108)) = some r := by first | (rw [hy105]; with_reducible exact H) | (have H2_ := (ui _ _).symm.trans H; rw [hy105]; with_reducible exact H2_) | (have H2_ := (ui _ _).symm.trans H; with_reducible exact H2_) | with_reducible exact H | (rw [hy105]; exact H) | exact H); have Ny105 := za hy105; clear hy105; replace H := Option.bind_eq_some_iff.mp H; obtain ⟨t108, A50, H⟩ := H; replace H : (some t108) = some r := H; have A5 := za A50; clear A50; obtain rfl := Option.some.inj H; go_enter Tryz.func86, Tryz.ntmps86
 try go_wp2_with (first | ((with_reducible refine gate_dst (N := 2) rfl ?_); refine box_event ?hg (N := 2) ?hd (cs := #[.int .u64 a0_0, .int .i64 a0_1]) (t := 33) ?hr ?_; (case hd => rfl); (case hg => rfl); (case hr => first | (go_simp; done) | (go_simp; rfl)); intro gb101 hg w6 hbox hb; have n0_ := za (ur (by repeat (first | (with_reducible first | exact HB.out | apply uv | apply uw | apply us) | exact HB.out)) hb); have n1_ := za (hbox); have n2_ := za ((by rw [hg]; exact (uu (by repeat (first | (with_reducible first | exact HB.out | apply uv | apply uw | apply us) | exact HB.out))) : w.heap.size ≤ gb101)); have n3_ := za ((by rw [hg]; exact (uu (by repeat (first | (with_reducible first | exact HB.out | apply uv | apply uw | apply us) | exact HB.out))) : w.heap.size ≤ gb101)); clear HB; have HB := n0_; have BK101 := n1_; have GW101 := n2_; have GE101 := n3_; clear n0_ n1_ n2_ n3_; clear hb hbox hg) | ((with_reducible refine gate_dst (N := 3) rfl ?_); refine box_event ?hg (N := 3) ?hd (cs := #[.int .u64 a1_0, .int .i64 a1_1]) (t := 33) ?hr ?_; (case hd => rfl); (case hg => rfl); (case hr => first | (go_simp; done) | (go_simp; rfl)); intro gb102 hg w7 hbox hb; have n0_ := za (vo (g := gb101) (o := .cells #[.int .u64 a0_0, .int .i64 a0_1] 33 (0, 0)) (by (with_reducible repeat (first | refine blk_drewN ?_ _ | refine blk_drew ?_ | refine blk_alloc ?_ _)); exact BK101.out) hb); have n1_ := za (ur (by repeat (first | (with_reducible first | exact HB.out | apply uv | apply uw | apply us | refine vn ?_ GE101.out) | exact HB.out)) hb); have n2_ := za (hbox); have n3_ := za ((by rw [hg]; exact (uu (by repeat (first | (with_reducible first | exact HB.out | apply uv | apply uw | apply us | refine vn ?_ GE101.out) | exact HB.out))) : w.heap.size ≤ gb102)); have n4_ := za ((by rw [hg]; exact (uu (by repeat (first | (with_reducible first | exact HB.out | apply uv | apply uw | apply us | refine vn ?_ GE101.out) | exact HB.out))) : w.heap.size ≤ gb102)); have n5_ := za ((by rw [hg]; exact Nat.ne_of_lt (blk_lt (g := gb101) (o := .cells #[.int .u64 a0_0, .int .i64 a0_1] 33 (0, 0)) (by (with_reducible repeat (first | refine blk_drewN ?_ _ | refine blk_drew ?_ | refine blk_alloc ?_ _)); exact BK101.out)) : gb101 ≠ gb102)); have n6_ := za ((by rw [hg]; exact Nat.ne_of_gt (blk_lt (g := gb101) (o := .cells #[.int .u64 a0_0, .int .i64 a0_1] 33 (0, 0)) (by (with_reducible repeat (first | refine blk_drewN ?_ _ | refine blk_drew ?_ | refine blk_alloc ?_ _)); exact BK101.out)) : gb102 ≠ gb101)); clear BK101; clear HB; have BK101 := n0_; have HB := n1_; have BK102 := n2_; have GW102 := n3_; have GE102 := n4_; have NB101_102 := n5_; have NB102_101 := n6_; clear n0_ n1_ n2_ n3_ n4_ n5_ n6_; clear hb hbox hg))
 have n0_ := za (blk_drew BK101.out); have n1_ := za (blk_drew BK102.out); have n2_ := za (us HB.out); clear BK101 BK102 HB; have BK101 := n0_; have BK102 := n1_; have HB := n2_; clear n0_ n1_ n2_; refine start_ (n := 13) (S := fun w' => w'.cell? ⟨gb101, 0, none⟩ = some (.int .u64 a0_0) ∧ w'.cell? ⟨gb101, 1, none⟩ = some (.int .i64 a0_1) ∧ w'.cell? ⟨gb102, 0, none⟩ = some (.int .u64 a1_0) ∧ w'.cell? ⟨gb102, 1, none⟩ = some (.int .i64 a1_1)) (ds := []) #[xX, xX, xX, xX, xX, xX, xX, xX, xX, xX, xX, xX, xX] (by kernel_rfl) rfl rfl ⟨(uq BK101.out 0).trans rfl, (uq BK101.out 1).trans rfl, (uq BK102.out 0).trans rfl, (uq BK102.out 1).trans rfl⟩ (fun hHeld => ?_); refine with_tabW entry_compare.tab1 entry_compare.bits1 (fun HT_ HW_ => ?_); generalize w7.drew = w8 at BK101 BK102 HB hHeld ⊢; refine pU (i := 0) (N := some 5) (bA 13 1) (um HT_.out (by kernel_rfl)) rfl ?_
 refine pU (i := 2) (N := some 7) (bA 13 5) (um HT_.out (by kernel_rfl)) rfl ?_
 refine pU (i := 5) (N := some 10) (bA 13 37) (um HT_.out (by kernel_rfl)) rfl ?_
 refine pU (i := 7) (N := some 12) (bA 13 165) (um HT_.out (by kernel_rfl)) rfl ?_
 refine tU (i := 1) (N := some 6) (bA 13 167) (vp HT_.out HW_.out (by kernel_rfl)) rfl hHeld (by (constructor; (rintro w' ⟨s0, s1, s2, s3⟩; go_simp; (with_reducible rfl)); (simp only [Act.put, ua, ub, uc, ue, uf]; rfl))) ?_
 refine tU (i := 3) (N := some 8) (bA 13 175) (vp HT_.out HW_.out (by kernel_rfl)) rfl hHeld (by (constructor; (rintro w' ⟨s0, s1, s2, s3⟩; go_simp; (with_reducible rfl)); (simp only [Act.put, ua, ub, uc, ue, uf]; rfl))) ?_
 refine tU (i := 6) (N := some 11) (bA 13 239) (vp HT_.out HW_.out (by kernel_rfl)) rfl hHeld (by (constructor; (rintro w' ⟨s0, s1, s2, s3⟩; go_simp; (with_reducible rfl)); (simp only [Act.put, ua, ub, uc, ue, uf]; rfl))) ?_
 refine tU (i := 8) (N := some 13) (bA 13 495) (vp HT_.out HW_.out (by kernel_rfl)) rfl hHeld (by (constructor; (rintro w' ⟨s0, s1, s2, s3⟩; go_simp; (with_reducible rfl)); (simp only [Act.put, ua, ub, uc, ue, uf]; rfl))) ?_
 refine one_ (i := 4) (N := some 9) (bA 13 511) rfl rfl (one_of HT_.out (by kernel_rfl)) (by decide) (fun K hK => ?_); refine goes_ Tryz.func114 (by kernel_rfl) rfl #[.int .u64 a0_0, .int .u64 a1_0] (by rfl) rfl rfl (by (try simp only [ug, ul, uo]); first | done | rfl | (simp only [uk, uj]; rfl)) ?_; (with_reducible refine (cmp_Compare_uint64.calls a0_0 a1_0 t103 _ A3.out).mono ?_); rintro e w' ⟨rfl, ⟨nd, rfl⟩⟩; refine ⟨_, rfl, ?_⟩; refine hK.out _ _ ⟨(uq BK101.out 0).trans rfl, (uq BK101.out 1).trans rfl, (uq BK102.out 0).trans rfl, (uq BK102.out 1).trans rfl⟩ (fun hHeld => ?_); clear hK K; refine vv (a' := ?_) ?_ ?_; rotate_left
 · show Act.put _ (some 9) _ = _
   simp only [Act.put, ua, ub, uc, ue, uf]; rfl
 refine one_ (i := 9) (N := some 14) (bA 13 1023) rfl rfl (one_of HT_.out (by kernel_rfl)) (by decide) (fun K hK => ?_); refine goes_ Tryz.func115 (by kernel_rfl) rfl #[.int .i64 a0_1, .int .i64 a1_1] (by rfl) rfl rfl (by (try simp only [ug, ul, uo]); first | done | rfl | (simp only [uk, uj]; rfl)) ?_; (with_reducible refine (cmp_Compare_int.calls a0_1 a1_1 t104 _ A4.out).mono ?_); rintro e w' ⟨rfl, ⟨nd, rfl⟩⟩; refine ⟨_, rfl, ?_⟩; refine hK.out _ _ ⟨(uq BK101.out 0).trans rfl, (uq BK101.out 1).trans rfl, (uq BK102.out 0).trans rfl, (uq BK102.out 1).trans rfl⟩ (fun hHeld => ?_); clear hK K; refine vv (a' := ?_) ?_ ?_; rotate_left
 · show Act.put _ (some 14) _ = _
   simp only [Act.put, ua, ub, uc, ue, uf]; rfl
 refine one_ (i := 10) (N := some 15) (bA 13 2047) rfl rfl (one_of HT_.out (by kernel_rfl)) (by decide) (fun K hK => ?_); refine Kd.R_lit_step (Kd.int .i64) _ 3 ?hg (N := 15) ?hd (xs := ([t103, t104] : List Int)) (inner := [.int .i64 t103, .int .i64 t104]) (ok := fun _ => True) (okp := fun _ => True) ?hr ?hp (fun _ hk => hk) trivial (Below.refl _ _) (ut _) (by simp) ?_; (case hd => rfl); (case hg => rfl); (case hr => first | (go_simp; done) | (go_simp; rfl)); (case hp => exact (Reps.one (show Kd.M (Kd.int .i64) _ _ _ t103 [.int .i64 t103] from rfl) (Reps.one (show Kd.M (Kd.int .i64) _ _ _ t104 [.int .i64 t104] from rfl) (Reps.none _ _)))); intro v106 w9 ho10 hb hg_ hnew_; clear hg_ hnew_; (first | rw [← Ny105.out] at ho10 | (simp only [Int.reduceToNat] at ho10; rw [← Ny105.out] at ho10)); have n0_ := za (Kd.R_lower ho10 (uu (by repeat (first | (with_reducible first | exact HB.out | apply uv | apply uw | apply us | refine vn ?_ GE101.out | refine vn ?_ GE102.out) | exact HB.out)))); have n1_ := za (vo (g := gb101) (o := .cells #[.int .u64 a0_0, .int .i64 a0_1] 33 (0, 0)) (by (with_reducible repeat (first | refine blk_drewN ?_ _ | refine blk_drew ?_ | refine blk_alloc ?_ _)); exact BK101.out) hb); have n2_ := za (vo (g := gb102) (o := .cells #[.int .u64 a1_0, .int .i64 a1_1] 33 (0, 0)) (by (with_reducible repeat (first | refine blk_drewN ?_ _ | refine blk_drew ?_ | refine blk_alloc ?_ _)); exact BK102.out) hb); have n3_ := za (ur (by repeat (first | (with_reducible first | exact HB.out | apply uv | apply uw | apply us | refine vn ?_ GE101.out | refine vn ?_ GE102.out) | exact HB.out)) hb); clear BK101 BK102 HB; have HO107 := n0_; have BK101 := n1_; have BK102 := n2_; have HB := n3_; clear n0_ n1_ n2_ n3_ hb ho10; obtain ⟨Ao11, co11, eo11⟩ := Kd.R_slice HO107.out; (first | subst eo11 | (injection eo11 with f1_ f2_ f3_; have f4_ := f1_.symm; have f5_ := f3_.symm; clear f1_ f2_ f3_; subst f4_; subst f5_)); refine hK.out _ _ ⟨(uq BK101.out 0).trans rfl, (uq BK101.out 1).trans rfl, (uq BK102.out 0).trans rfl, (uq BK102.out 1).trans rfl⟩ (fun hHeld => ?_); clear hK K; refine vv (a' := ?_) ?_ ?_; rotate_left
 · show Act.put _ (some 15) _ = _
   simp only [Act.put, ua, ub, uc, ue, uf]; rfl
 refine one_ (i := 11) (N := some 16) (bA 13 4095) rfl rfl (one_of HT_.out (by kernel_rfl)) (by decide) (fun K hK => ?_); refine goes_ Tryz.func113 (by kernel_rfl) rfl #[.slice Ao11 y105.length co11] (by rfl) rfl rfl (by (try simp only [ug, ul, uo]); first | done | rfl | (simp only [uk, uj]; rfl)) ?_; (with_reducible refine (cmp_Or_int.calls k _ _ y105 t108 _ ?side1 ?side2 A5.out).mono ?_); (case side1 => repeat (first | exact (Kd.R_reads' HO107.out).2.2 | (with_reducible refine Kd.C_alloc ?_ _) | (with_reducible refine Kd.C_drewN ?_ _) | (with_reducible refine Kd.C_drew ?_))); (case side2 => exact (Kd.R_reads' HO107.out).2.1); rintro e w' ⟨rfl, ⟨nd, rfl⟩⟩; refine ⟨_, rfl, ?_⟩; refine hK.out _ _ ⟨(uq BK101.out 0).trans rfl, (uq BK101.out 1).trans rfl, (uq BK102.out 0).trans rfl, (uq BK102.out 1).trans rfl⟩ (fun hHeld => ?_); clear hK K; refine vv (a' := ?_) ?_ ?_; rotate_left
 · show Act.put _ (some 16) _ = _
   simp only [Act.put, ua, ub, uc, ue, uf]; rfl
 refine pU (i := 12) (N := some 4) (bA 13 8191) (um HT_.out (by kernel_rfl)) rfl ?_
 refine done_ (done_of HT_.out (by kernel_rfl)) ?_
 try go_wp2
 go_ret
 exact ⟨by first | rfl | (simp [a2k, a2n] <;> rfl) | (simp [*, a2k, a2n] <;> rfl), by repeat (first | (with_reducible first | exact HB.out | apply uv | apply uw | apply us | refine vn ?_ GE101.out | refine vn ?_ GE102.out) | exact HB.out)⟩
def api_Entry_128.l0 : Nat → List (S33) → Int → Option (Bool)
  | 0, _, _ => none
  | k + 1, x0, x5 => if x5 > 0 then (if 0 ≤ x5 then (if x5 < (x0.length : Int) then (if 0 ≤ (wrap64 (x5 - 1)) then (if (wrap64 (x5 - 1)) < (x0.length : Int) then ((entry_compare.f k ((a0a x0 x5).f0) ((a0a x0 x5).f1) ((a0a x0 (wrap64 (x5 - 1))).f0) ((a0a x0 (wrap64 (x5 - 1))).f1)).bind fun t103 => (if t103 < 0 then (some false) else (api_Entry_128.l0 k x0 (wrap64 (x5 - 1))))) else (none)) else (none)) else (none)) else (none)) else (some true)
def api_Entry_128.f (k : Nat) (l0 : List (S33))  : Option (Bool) := api_Entry_128.l0 k l0 (wrap64 ((l0.length : Int) - 1))
def api_Entry_128.T4 : Bool × List (List Nat × List Nat) := (true, [([], []), ([], []), ([], []), ([1, 2], [1, 2]), ([3], [3]), ([], []), ([], []), ([6], [6]), ([5, 7], [5, 7]), ([8], [8]), ([0, 4, 9], [0, 4, 9]), ([10], [10])])
def api_Entry_128.B4 : List Nat := [0, 0, 0, 6, 14, 0, 0, 64, 224, 480, 1023, 2047]
theorem api_Entry_128.tab4 : rtab .any (opsOf Tryz.f128 4) = api_Entry_128.T4 := by kernel_rfl
theorem api_Entry_128.bits4 : waitsOk api_Entry_128.T4.2 api_Entry_128.B4 = true := by kernel_rfl
theorem api_Entry_128.calls (k : Nat) (A0 : Option Addr) (c0 : Nat) (l0 : List (S33))  (r : Bool) (w : World) (hr0 : Kd.C k33 w A0 l0.length l0) (hc0 : l0.length ≤ c0) (h : api_Entry_128.f k l0 = some r) :
 Calls Tryz.prog 128 #[.slice A0 l0.length c0, .func (.func 86) #[] #[]] w fun e w' => e = .returned (.bool r) ∧ Below w.heap.size w w' := by
 have hu33 := Tryz.underlying33; have HR0 := za hr0; have HC0 := za hc0; clear hr0 hc0; have HB := za (Below.refl w.heap.size w); have H : (api_Entry_128.l0 k l0 (wrap64 ((l0.length : Int) - 1))) = some r := h; clear h; have H' := za H; clear H; go_enter Tryz.func128, Tryz.ntmps128
 go_wp2
 go_loopg [5] k (fun kq v5 w' => ∃ (x5_1 : Int), v5 = .int .i64 x5_1 ∧ Aside0 (api_Entry_128.l0 kq l0 x5_1 = some r) ∧ Aside0 (kq ≤ k) ∧ Aside0 (Below w.heap.size w w'))
 case atStart => exact ⟨(wrap64 ((l0.length : Int) - 1)), rfl, H', ⟨ut _⟩, ⟨HB.out⟩⟩
 case round =>
  clear H'
  obtain ⟨x5_1, rfl, HA, HK1, HB⟩ := hrel
  cases gk with
  | zero => exact absurd HA.out (by simp [api_Entry_128.l0])
  | succ k1 =>
   have H := HA.out; clear HA; simp only [api_Entry_128.l0] at H
   by_cases c3 : x5_1 > 0
   · rw [if_pos c3] at H; have c3b0 : decide (0 < x5_1) = true := decide_eq_true c3; clear c3
     by_cases c4 : 0 ≤ x5_1
     · rw [if_pos c4] at H; have c4b0 : decide (0 ≤ x5_1) = true := decide_eq_true c4; clear c4
       by_cases c5 : x5_1 < (l0.length : Int)
       · rw [if_pos c5] at H; have c5b0 : decide (x5_1 < (l0.length : Int)) = true := decide_eq_true c5; clear c5; obtain ⟨ji6, hji6⟩ : ∃ j_ : Int, (wrap64 (x5_1 - 1)) = j_ := ⟨_, rfl⟩; (replace H : (if 0 ≤ (ji6) then (if (ji6) < (l0.length : Int) then ((entry_compare.f k1 ((a0a l0 x5_1).f0) ((a0a l0 x5_1).f1) ((a0a l0 (ji6)).f0) ((a0a l0 (ji6)).f1)).bind fun t103 => (if t103 < 0 then (some false) else (api_Entry_128.l0 k1 l0 ji6))) else (none)) else (none)) = some r := by first | (rw [hji6] at H; exact H) | (simp only [hji6] at H ⊢; exact H)); have hji6w : (IntKind.i64.wrap (x5_1 - 1)) = ji6 := (ue _).trans hji6
         by_cases c7 : 0 ≤ (ji6)
         · rw [if_pos c7] at H; have c7b0 : decide (0 ≤ (ji6)) = true := decide_eq_true c7; clear c7
           by_cases c8 : (ji6) < (l0.length : Int)
           · rw [if_pos c8] at H; have c8b0 : decide ((ji6) < (l0.length : Int)) = true := decide_eq_true c8; clear c8; replace H := Option.bind_eq_some_iff.mp H; obtain ⟨t103, A90, H⟩ := H; replace H : (if t103 < 0 then (some false) else (api_Entry_128.l0 k1 l0 ji6)) = some r := H; have A9 := za A90; clear A90
             by_cases c10 : t103 < 0
             · rw [if_pos c10] at H; have c10b0 : decide (t103 < 0) = true := decide_eq_true c10; clear c10; obtain rfl := Option.some.inj H
               try go_wp2
               have n0_ := za (us HB.out); clear HB; have HB := n0_; clear n0_; have p101 : 0 ≤ (x5_1 : Int) := ud (by assumption); have q101 : x5_1 < (l0.length : Int) := ud (by assumption); obtain ⟨ad101, e101, hx101_0, hx101_1⟩ := a0e HR0.out x5_1 p101 q101; have hw101_1 := hx101_1; have hw101_0 := hx101_0
               cases e101
               replace hx101_0 := (HB.out.cell (World.block_lt_of_cell? w _ hx101_0)).trans hx101_0; replace hx101_1 := (HB.out.cell (World.block_lt_of_cell? w _ hx101_1)).trans hx101_1; replace p101 := eq_true p101; replace q101 := eq_true q101; have p102 : 0 ≤ ((ji6) : Int) := ud (by assumption); have q102 : (ji6) < (l0.length : Int) := ud (by assumption); obtain ⟨ad102, e102, hx102_0, hx102_1⟩ := a0e HR0.out (ji6) p102 q102; have hw102_1 := hx102_1; have hw102_0 := hx102_0; obtain rfl : ad101 = ad102 := (by injection e102); replace hx102_0 := (HB.out.cell (World.block_lt_of_cell? w _ hx102_0)).trans hx102_0; replace hx102_1 := (HB.out.cell (World.block_lt_of_cell? w _ hx102_1)).trans hx102_1; replace p102 := eq_true p102; replace q102 := eq_true q102; refine start_ (n := 12) (S := fun w' => w'.cell? (ad101.add ((x5_1).toNat * 2)) = some (.int .u64 ((a0a l0 x5_1).f0)) ∧ w'.cell? ⟨(ad101.add ((x5_1).toNat * 2)).block, (ad101.add ((x5_1).toNat * 2)).off + 1, none⟩ = some (.int .i64 ((a0a l0 x5_1).f1)) ∧ w'.cell? (ad101.add (((ji6)).toNat * 2)) = some (.int .u64 ((a0a l0 (ji6)).f0)) ∧ w'.cell? ⟨(ad101.add (((ji6)).toNat * 2)).block, (ad101.add (((ji6)).toNat * 2)).off + 1, none⟩ = some (.int .i64 ((a0a l0 (ji6)).f1))) (ds := []) #[xX, xX, xX, xX, xX, xX, xX, xX, xX, xX, xX, xX] (by kernel_rfl) rfl rfl ⟨((HB.out.cell (World.block_lt_of_cell? w _ hw101_0)).trans hw101_0), ((HB.out.cell (World.block_lt_of_cell? w _ hw101_1)).trans hw101_1), ((HB.out.cell (World.block_lt_of_cell? w _ hw102_0)).trans hw102_0), ((HB.out.cell (World.block_lt_of_cell? w _ hw102_1)).trans hw102_1)⟩ (fun hHeld => ?_); refine with_tabW api_Entry_128.tab4 api_Entry_128.bits4 (fun HT_ HW_ => ?_); generalize wr.drew = w11 at HB hx101_0 hx101_1 hx102_0 hx102_1 hHeld ⊢; refine pU (i := 0) (N := some 13) (bA 12 1) (um HT_.out (by kernel_rfl)) rfl ?_
               refine pU (i := 1) (N := some 14) (bA 12 3) (um HT_.out (by kernel_rfl)) rfl ?_
               refine pU (i := 2) (N := some 15) (bA 12 7) (um HT_.out (by kernel_rfl)) rfl ?_
               refine pU (i := 3) (N := some 16) (bA 12 15) (um HT_.out (by kernel_rfl)) rfl ?_
               refine pU (i := 5) (N := some 18) (bA 12 47) (um HT_.out (by kernel_rfl)) rfl ?_
               refine pU (i := 6) (N := some 19) (bA 12 111) (um HT_.out (by kernel_rfl)) rfl ?_
               refine pU (i := 7) (N := some 20) (bA 12 239) (um HT_.out (by kernel_rfl)) rfl ?_
               refine pU (i := 8) (N := some 21) (bA 12 495) (um HT_.out (by kernel_rfl)) rfl ?_
               refine tU (i := 4) (N := some 17) (bA 12 511) (vp HT_.out HW_.out (by kernel_rfl)) rfl hHeld (by (constructor; (rintro w' ⟨s0, s1, s2, s3⟩; go_simp; (with_reducible rfl)); (simp only [Act.put, ua, ub, uc, ue, uf]; rfl))) ?_
               refine tU (i := 9) (N := some 22) (bA 12 1023) (vp HT_.out HW_.out (by kernel_rfl)) rfl hHeld (by (constructor; (rintro w' ⟨s0, s1, s2, s3⟩; go_simp; (with_reducible rfl)); (simp only [Act.put, ua, ub, uc, ue, uf]; rfl))) ?_
               refine one_ (i := 10) (N := some 23) (bA 12 2047) rfl rfl (one_of HT_.out (by kernel_rfl)) (by decide) (fun K hK => ?_); refine goesV_ Tryz.func86 (by kernel_rfl) rfl #[.agg #[.int .u64 ((a0a l0 x5_1).f0), .int .i64 ((a0a l0 x5_1).f1)], .agg #[.int .u64 ((a0a l0 (ji6)).f0), .int .i64 ((a0a l0 (ji6)).f1)]] (by rfl) rfl rfl (by rfl) (by (try simp only [ug, ul, uo]); first | done | (simp only [hji6]; rfl) | rfl | (simp only [uk, uj]; rfl)) ?_; (with_reducible refine (entry_compare.calls k1 ((a0a l0 x5_1).f0) ((a0a l0 x5_1).f1) ((a0a l0 (ji6)).f0) ((a0a l0 (ji6)).f1) t103 _ A9.out).mono ?_); rintro e w12 ⟨rfl, hb⟩; refine ⟨_, rfl, ?_⟩; have n0_ := za (ur HB.out hb); clear HB; have HB := n0_; clear n0_; (try clear hb); (try clear hk); (try clear hi); refine hK.out _ _ ⟨((HB.out.cell (World.block_lt_of_cell? w _ hw101_0)).trans hw101_0), ((HB.out.cell (World.block_lt_of_cell? w _ hw101_1)).trans hw101_1), ((HB.out.cell (World.block_lt_of_cell? w _ hw102_0)).trans hw102_0), ((HB.out.cell (World.block_lt_of_cell? w _ hw102_1)).trans hw102_1)⟩ (fun hHeld => ?_); clear hK K; refine vv (a' := ?_) ?_ ?_; rotate_left
               · show Act.put _ (some 23) _ = _
                 simp only [Act.put, ua, ub, uc, ue, uf]; rfl
               refine pU (i := 11) (N := some 24) (bA 12 4095) (um HT_.out (by kernel_rfl)) rfl ?_
               refine done_ (done_of HT_.out (by kernel_rfl)) ?_
               try go_wp2
               go_ret
               exact ⟨by first | rfl | (simp [a2k, a2n] <;> rfl) | (simp only [← hji6]; first | rfl | (simp [a2k, a2n] <;> rfl)) | (simp [*, a2k, a2n] <;> rfl), HB.out⟩
             · rw [if_neg c10] at H; have c10b0 : decide (t103 < 0) = false := decide_eq_false c10; clear c10; have H' := za H; clear H
               try go_wp2
               have n0_ := za (us HB.out); clear HB; have HB := n0_; clear n0_; have p101 : 0 ≤ (x5_1 : Int) := ud (by assumption); have q101 : x5_1 < (l0.length : Int) := ud (by assumption); obtain ⟨ad101, e101, hx101_0, hx101_1⟩ := a0e HR0.out x5_1 p101 q101; have hw101_1 := hx101_1; have hw101_0 := hx101_0
               cases e101
               replace hx101_0 := (HB.out.cell (World.block_lt_of_cell? w _ hx101_0)).trans hx101_0; replace hx101_1 := (HB.out.cell (World.block_lt_of_cell? w _ hx101_1)).trans hx101_1; replace p101 := eq_true p101; replace q101 := eq_true q101; have p102 : 0 ≤ ((ji6) : Int) := ud (by assumption); have q102 : (ji6) < (l0.length : Int) := ud (by assumption); obtain ⟨ad102, e102, hx102_0, hx102_1⟩ := a0e HR0.out (ji6) p102 q102; have hw102_1 := hx102_1; have hw102_0 := hx102_0; obtain rfl : ad101 = ad102 := (by injection e102); replace hx102_0 := (HB.out.cell (World.block_lt_of_cell? w _ hx102_0)).trans hx102_0; replace hx102_1 := (HB.out.cell (World.block_lt_of_cell? w _ hx102_1)).trans hx102_1; replace p102 := eq_true p102; replace q102 := eq_true q102; refine start_ (n := 12) (S := fun w' => w'.cell? (ad101.add ((x5_1).toNat * 2)) = some (.int .u64 ((a0a l0 x5_1).f0)) ∧ w'.cell? ⟨(ad101.add ((x5_1).toNat * 2)).block, (ad101.add ((x5_1).toNat * 2)).off + 1, none⟩ = some (.int .i64 ((a0a l0 x5_1).f1)) ∧ w'.cell? (ad101.add (((ji6)).toNat * 2)) = some (.int .u64 ((a0a l0 (ji6)).f0)) ∧ w'.cell? ⟨(ad101.add (((ji6)).toNat * 2)).block, (ad101.add (((ji6)).toNat * 2)).off + 1, none⟩ = some (.int .i64 ((a0a l0 (ji6)).f1))) (ds := []) #[xX, xX, xX, xX, xX, xX, xX, xX, xX, xX, xX, xX] (by kernel_rfl) rfl rfl ⟨((HB.out.cell (World.block_lt_of_cell? w _ hw101_0)).trans hw101_0), ((HB.out.cell (World.block_lt_of_cell? w _ hw101_1)).trans hw101_1), ((HB.out.cell (World.block_lt_of_cell? w _ hw102_0)).trans hw102_0), ((HB.out.cell (World.block_lt_of_cell? w _ hw102_1)).trans hw102_1)⟩ (fun hHeld => ?_); refine with_tabW api_Entry_128.tab4 api_Entry_128.bits4 (fun HT_ HW_ => ?_); generalize wr.drew = w13 at HB hx101_0 hx101_1 hx102_0 hx102_1 hHeld ⊢; refine pU (i := 0) (N := some 13) (bA 12 1) (um HT_.out (by kernel_rfl)) rfl ?_
               refine pU (i := 1) (N := some 14) (bA 12 3) (um HT_.out (by kernel_rfl)) rfl ?_
               refine pU (i := 2) (N := some 15) (bA 12 7) (um HT_.out (by kernel_rfl)) rfl ?_
               refine pU (i := 3) (N := some 16) (bA 12 15) (um HT_.out (by kernel_rfl)) rfl ?_
               refine pU (i := 5) (N := some 18) (bA 12 47) (um HT_.out (by kernel_rfl)) rfl ?_
               refine pU (i := 6) (N := some 19) (bA 12 111) (um HT_.out (by kernel_rfl)) rfl ?_
               refine pU (i := 7) (N := some 20) (bA 12 239) (um HT_.out (by kernel_rfl)) rfl ?_
               refine pU (i := 8) (N := some 21) (bA 12 495) (um HT_.out (by kernel_rfl)) rfl ?_
               refine tU (i := 4) (N := some 17) (bA 12 511) (vp HT_.out HW_.out (by kernel_rfl)) rfl hHeld (by (constructor; (rintro w' ⟨s0, s1, s2, s3⟩; go_simp; (with_reducible rfl)); (simp only [Act.put, ua, ub, uc, ue, uf]; rfl))) ?_
               refine tU (i := 9) (N := some 22) (bA 12 1023) (vp HT_.out HW_.out (by kernel_rfl)) rfl hHeld (by (constructor; (rintro w' ⟨s0, s1, s2, s3⟩; go_simp; (with_reducible rfl)); (simp only [Act.put, ua, ub, uc, ue, uf]; rfl))) ?_
               refine one_ (i := 10) (N := some 23) (bA 12 2047) rfl rfl (one_of HT_.out (by kernel_rfl)) (by decide) (fun K hK => ?_); refine goesV_ Tryz.func86 (by kernel_rfl) rfl #[.agg #[.int .u64 ((a0a l0 x5_1).f0), .int .i64 ((a0a l0 x5_1).f1)], .agg #[.int .u64 ((a0a l0 (ji6)).f0), .int .i64 ((a0a l0 (ji6)).f1)]] (by rfl) rfl rfl (by rfl) (by (try simp only [ug, ul, uo]); first | done | (simp only [hji6]; rfl) | rfl | (simp only [uk, uj]; rfl)) ?_; (with_reducible refine (entry_compare.calls k1 ((a0a l0 x5_1).f0) ((a0a l0 x5_1).f1) ((a0a l0 (ji6)).f0) ((a0a l0 (ji6)).f1) t103 _ A9.out).mono ?_); rintro e w14 ⟨rfl, hb⟩; refine ⟨_, rfl, ?_⟩; have n0_ := za (ur HB.out hb); clear HB; have HB := n0_; clear n0_; (try clear hb); (try clear hk); (try clear hi); refine hK.out _ _ ⟨((HB.out.cell (World.block_lt_of_cell? w _ hw101_0)).trans hw101_0), ((HB.out.cell (World.block_lt_of_cell? w _ hw101_1)).trans hw101_1), ((HB.out.cell (World.block_lt_of_cell? w _ hw102_0)).trans hw102_0), ((HB.out.cell (World.block_lt_of_cell? w _ hw102_1)).trans hw102_1)⟩ (fun hHeld => ?_); clear hK K; refine vv (a' := ?_) ?_ ?_; rotate_left
               · show Act.put _ (some 23) _ = _
                 simp only [Act.put, ua, ub, uc, ue, uf]; rfl
               refine pU (i := 11) (N := some 24) (bA 12 4095) (um HT_.out (by kernel_rfl)) rfl ?_
               refine done_ (done_of HT_.out (by kernel_rfl)) ?_
               try go_wp2
               go_roundg k1
               case measure => have := HK1.out; omega
               case rel => exact ⟨(ji6), (by first | rfl | (simp; done) | (simp only [← hji6] <;> (first | rfl | simp)) | (simp [*]; done)), H', ⟨by have := HK1.out; omega⟩, ⟨HB.out⟩⟩
           · rw [if_neg c8] at H; exact absurd H (by simp)
         · rw [if_neg c7] at H; exact absurd H (by simp)
       · rw [if_neg c5] at H; exact absurd H (by simp)
     · rw [if_neg c4] at H; exact absurd H (by simp)
   · rw [if_neg c3] at H; have c3b0 : decide (0 < x5_1) = false := decide_eq_false c3; clear c3; obtain rfl := Option.some.inj H
     go_wp2
     go_ret
     exact ⟨rfl, HB.out⟩
end Go.Proofs.YthghkglkifeagaaGreat.V
