-- a text of this work, without what this claim doesn't use (wip/shake.py)
import Derived.Test.YtgjimhjceholaaaProg
import Derived.Below
import Derived.Deep.Draws
import Derived.Deep.AppendLies
import Derived.Maps.AppendAt
import Derived.OwnWalk
import Derived.Laws.BytesArg
import Derived.Laws.MakeOwn
import Derived.Laws.OwnMore
import Derived.Deep.OwnRows
import Derived.Tactics
import Derived.Lib.ConvBytes
import Derived.Laws.Slices
import Derived.WalkKit
import Derived.KernelRfl
import Derived.RowKit3
import Derived.Deep.LoopGhost
import Derived.Deep.QuietTactic
import Derived.BigQuiet
import Derived.WideLaws
import Derived.Deep.DeepCutAuto
import Derived.Deep.CutBlock
import Derived.Deep.RegionHeld3
import Derived.Laws.Rows
import Derived.Lib.AppendStr
import Derived.ArgAppend
import Derived.Laws.IdiomCopy
import Derived.OrdersHeld
import Derived.Laws.BitsLemmas
import Derived.RowKit
import Derived.Test.YtgjimhjceholaaaHVCall
import Derived.Laws.StructEq
import Derived.Laws.Bits64b
section
namespace Go.Proofs.Ytgjimhjceholaaa.V
open Go.RowKit Go.Proofs.YtgjimhjceholaaaW.PrintWords Go.Proofs.YtgjimhjceholaaaW.PrintLast Go.Proofs.YtgjimhjceholaaaW.PrintMore
attribute [local go_sem] max2_int min2_int max_two min_two max_three min_three max_four min_four
set_option linter.unusedVariables false
set_option linter.unusedSimpArgs false
def errW : Option Int → Value
  | none => .nilIface
  | some c => .iface 0 (.int .i64 c)
theorem errW_none : errW none = .nilIface := rfl
theorem errW_some (c : Int) : errW (some c) = .iface 0 (.int .i64 c) := rfl
structure S25 where
  f0 : Int
  f1 : Int
  f2 : Int
  f3 : Int
  f4 : Int
  f5 : Int
def k25 : Kd S25 := Kd.iso (Kd.pair (Kd.int .i64) (Kd.pair (Kd.int .i64) (Kd.pair (Kd.int .i64) (Kd.pair (Kd.int .u64) (Kd.pair (Kd.int .u64) (Kd.int .u64)))))) (fun x : S25 => (x.f0, x.f1, x.f2, x.f3, x.f4, x.f5))
abbrev Y : Bool := true
abbrev X : Bool := false
abbrev ua := @pw_below_drewN
abbrev ub := @below_drew1
abbrev uc := @below_alloc
abbrev ud := @below_step
abbrev ue := @List.map_toArray
abbrev uf := @List.length_take
abbrev ug := @List.length_drop
abbrev uh := @List.map_cons
end Go.Proofs.Ytgjimhjceholaaa.V
end
section
set_option linter.unusedVariables false
set_option linter.unusedSimpArgs false
namespace Go.Proofs.Ytgjimhjceholaaa.V
open Go.RowKit Go.Proofs.YtgjimhjceholaaaW.PrintWords Go.Proofs.YtgjimhjceholaaaW.PrintLast Go.Proofs.YtgjimhjceholaaaW.PrintMore
def bound_Rho.f : List (S25) → Option Int
  | [] => some 0
  | _ :: _ => none
def bound_Passed.f : List (S25) → Int → Option Int
  | [], _ => some (-1)
  | _ :: _, _ => none
def bound_Waited.f : List (S25) → Int → Option Int
  | [], _ => some (-1)
  | _ :: _, _ => none
set_option maxHeartbeats 400000 in
theorem bound_Rho.calls (A0 : Option Addr) (c0 : Nat) (l0 : List (S25)) (r : Int) (w : World) (hr0 : Kd.C k25 w A0 l0.length l0) (hc0 : l0.length ≤ c0) (h : bound_Rho.f l0 = some r) :
 Calls Try.prog 8 #[.slice A0 l0.length c0] w fun e w' => e = .returned (.int .i64 r) ∧ Drawn0 w w' := by
 cases l0 with
 | cons a t => cases h
 | nil =>
  obtain rfl := Option.some.inj h
  clear h hr0 hc0
  go_enter Try.func8, Try.ntmps8
  go_wp2
  go_loop [3, 7] (fun n i => n = .int .i64 0 ∧ i = .int .i64 0) (fun _ _ => 0)
  case atStart => exact ⟨rfl, rfl⟩
  case round =>
   obtain ⟨rfl, rfl⟩ := hrel
   go_wp2
   go_ret
   exact ⟨rfl, Drawn0.refl _⟩
set_option maxHeartbeats 400000 in
theorem bound_is_no (k : IntKind) (c n : Int) (w : World) :
 Calls Try.prog 15 #[.slice none 0 0, .int .i64 0, .int .i64 n] w fun e w' => e = .returned (.bool false) ∧ w = w' := by
 go_enter Try.func15, Try.ntmps15
 go_wp2
 go_ret
 exact ⟨rfl, rfl⟩
set_option maxHeartbeats 400000 in
theorem bound_Passed.calls (i : Int) (r : Int) (w : World) (h : bound_Passed.f [] i = some r) (h0 : i = 0 := by rfl) :
 Calls Try.prog 7 #[.slice none 0 0, .int .i64 i] w fun e w' => e = .returned (.int .i64 r) ∧ Drawn0 w w' := by
 subst h0
 obtain rfl := Option.some.inj h
 clear h
 go_enter Try.func7, Try.ntmps7
 go_wp2_with (first | (go_at_call 15; (refine (bound_is_no .i64 0 _ _).mono ?_); rintro e w' ⟨rfl, rfl⟩))
 go_ret
 exact ⟨rfl, Drawn0.refl _⟩
set_option maxHeartbeats 400000 in
theorem bound_Waited.calls (i : Int) (r : Int) (w : World) (h : bound_Waited.f [] i = some r) (h0 : i = 0 := by rfl) :
 Calls Try.prog 9 #[.slice none 0 0, .int .i64 i] w fun e w' => e = .returned (.int .i64 r) ∧ Drawn0 w w' := by
 subst h0
 obtain rfl := Option.some.inj h
 clear h
 go_enter Try.func9, Try.ntmps9
 go_wp2_with (first | (go_at_call 15; (refine (bound_is_no .i64 0 _ _).mono ?_); rintro e w' ⟨rfl, rfl⟩))
 go_ret
 exact ⟨rfl, Drawn0.refl _⟩
end Go.Proofs.Ytgjimhjceholaaa.V
end
section
namespace Go.Proofs.Ytgjimhjceholaaa.V
open Go.RowKit Go.Proofs.YtgjimhjceholaaaW.PrintWords Go.Proofs.YtgjimhjceholaaaW.PrintLast Go.Proofs.YtgjimhjceholaaaW.PrintMore
attribute [local go_sem] max2_int min2_int max_two min_two max_three min_three max_four min_four
set_option linter.unusedVariables false
set_option linter.unusedSimpArgs false
def bound_Phi_1.f (a0 : Int) : Option (Int) := some (mn (mx a0 0) 1000)
set_option maxHeartbeats 8000000 in
set_option maxRecDepth 100000 in
theorem bound_Phi_1.calls (a0 : Int) (r : Int) (w : World) (h : bound_Phi_1.f a0 = some r) :
 Calls Try.prog 20 #[.int .i64 a0] w fun e w' => e = .returned (.int .i64 r) ∧ Below w.heap.size w w' := by
 have HB := Aside0.mk (Below.refl w.heap.size w); have H : (some (mn (mx a0 0) 1000)) = some r := h; clear h; obtain ⟨ji2, hji2⟩ : ∃ j_ : Int, (mx a0 0) = j_ := ⟨_, rfl⟩; (replace H : (some (mn (ji2) 1000)) = some r := by first | (rw [hji2] at H; exact H) | (simp only [hji2] at H ⊢; exact H)); (try (have hji2l : 0 ≤ ji2 := by (rw [← hji2]; unfold mx; (repeat' split) <;> omega))); (try (have hji2m : 0 ≤ ji2 := by omega)); have hji2_ : (if a0 < 0 then 0 else a0) = ji2 := hji2; obtain ⟨ji3, hji3⟩ : ∃ j_ : Int, (mn (ji2) 1000) = j_ := ⟨_, rfl⟩; (replace H : (some ji3) = some r := by first | (rw [hji3] at H; exact H) | (simp only [hji3] at H ⊢; exact H)); have hji3_ : (if 1000 < (ji2) then 1000 else (ji2)) = ji3 := hji3; obtain rfl := Option.some.inj H; go_enter Try.func20, Try.ntmps20
 go_wp2
 go_ret
 exact ⟨by first | rfl | (simp [errW_none, errW_some] <;> rfl) | (simp only [← hji2, ← hji3]; first | rfl | (simp [errW_none, errW_some] <;> rfl)) | (simp [*, errW_none, errW_some] <;> rfl), by repeat (first | (with_reducible first | exact HB.out | apply uc | apply ua | apply ub) | exact HB.out)⟩
def bound_Phi.f (a0 : Int) (a1 : Int) (a2 : Int) : Option (Int) := (bound_Phi_1.f a0).bind fun t101 => ((bound_Phi_1.f a1).bind fun t102 => ((bound_Phi_1.f a2).bind fun t103 => (some (wrap64 (t101 * (wrap64 ((wrap64 (t102 * (wrap64 (t103 + 5)))) + 5)))))))
set_option maxHeartbeats 8000000 in
set_option maxRecDepth 100000 in
theorem bound_Phi.calls (a0 : Int) (a1 : Int) (a2 : Int) (r : Int) (w : World) (h : bound_Phi.f a0 a1 a2 = some r) :
 Calls Try.prog 11 #[.int .i64 a0, .int .i64 a1, .int .i64 a2] w fun e w' => e = .returned (.int .i64 r) ∧ Below w.heap.size w w' := by
 have HB := Aside0.mk (Below.refl w.heap.size w); have H : ((bound_Phi_1.f a0).bind fun t101 => ((bound_Phi_1.f a1).bind fun t102 => ((bound_Phi_1.f a2).bind fun t103 => (some (wrap64 (t101 * (wrap64 ((wrap64 (t102 * (wrap64 (t103 + 5)))) + 5)))))))) = some r := h; clear h; replace H := Option.bind_eq_some_iff.mp H; obtain ⟨t101, A40, H⟩ := H; replace H : ((bound_Phi_1.f a1).bind fun t102 => ((bound_Phi_1.f a2).bind fun t103 => (some (wrap64 (t101 * (wrap64 ((wrap64 (t102 * (wrap64 (t103 + 5)))) + 5))))))) = some r := H; have A4 := Aside0.mk A40; clear A40; replace H := Option.bind_eq_some_iff.mp H; obtain ⟨t102, A50, H⟩ := H; replace H : ((bound_Phi_1.f a2).bind fun t103 => (some (wrap64 (t101 * (wrap64 ((wrap64 (t102 * (wrap64 (t103 + 5)))) + 5)))))) = some r := H; have A5 := Aside0.mk A50; clear A50; replace H := Option.bind_eq_some_iff.mp H; obtain ⟨t103, A60, H⟩ := H; replace H : (some (wrap64 (t101 * (wrap64 ((wrap64 (t102 * (wrap64 (t103 + 5)))) + 5))))) = some r := H; have A6 := Aside0.mk A60; clear A60; obtain rfl := Option.some.inj H; go_enter Try.func11, Try.ntmps11
 go_wp2_with (first | ((with_reducible refine gate_dst (N := 10) rfl ?_); refine goesLV_ (some 10) rfl rfl Try.func20 (by kernel_rfl) rfl #[.int .i64 a0] rfl rfl (by (try simp only [ue, uh, List.map_nil]); first | done | rfl | (simp only [ug, uf]; rfl)) ?_; (with_reducible refine (bound_Phi_1.calls a0 t101 _ A4.out).mono ?_); rintro e w7 ⟨rfl, hb⟩; refine ⟨_, rfl, ?_⟩; have n0_ := Aside0.mk (ud (by repeat (first | (with_reducible first | exact HB.out | apply uc | apply ua | apply ub) | exact HB.out)) hb); clear HB; have HB := n0_; clear n0_; (try clear hb); (try clear hb2); (try clear hk); (try clear hi)) | ((with_reducible refine gate_dst (N := 13) rfl ?_); refine goesLV_ (some 13) rfl rfl Try.func20 (by kernel_rfl) rfl #[.int .i64 a1] rfl rfl (by (try simp only [ue, uh, List.map_nil]); first | done | rfl | (simp only [ug, uf]; rfl)) ?_; (with_reducible refine (bound_Phi_1.calls a1 t102 _ A5.out).mono ?_); rintro e w8 ⟨rfl, hb⟩; refine ⟨_, rfl, ?_⟩; have n0_ := Aside0.mk (ud (by repeat (first | (with_reducible first | exact HB.out | apply uc | apply ua | apply ub) | exact HB.out)) hb); clear HB; have HB := n0_; clear n0_; (try clear hb); (try clear hb2); (try clear hk); (try clear hi)) | ((with_reducible refine gate_dst (N := 16) rfl ?_); refine goesLV_ (some 16) rfl rfl Try.func20 (by kernel_rfl) rfl #[.int .i64 a2] rfl rfl (by (try simp only [ue, uh, List.map_nil]); first | done | rfl | (simp only [ug, uf]; rfl)) ?_; (with_reducible refine (bound_Phi_1.calls a2 t103 _ A6.out).mono ?_); rintro e w9 ⟨rfl, hb⟩; refine ⟨_, rfl, ?_⟩; have n0_ := Aside0.mk (ud (by repeat (first | (with_reducible first | exact HB.out | apply uc | apply ua | apply ub) | exact HB.out)) hb); clear HB; have HB := n0_; clear n0_; (try clear hb); (try clear hb2); (try clear hk); (try clear hi)))
 go_ret
 exact ⟨by first | rfl | (simp [errW_none, errW_some] <;> rfl) | (simp [*, errW_none, errW_some] <;> rfl), by repeat (first | (with_reducible first | exact HB.out | apply uc | apply ua | apply ub) | exact HB.out)⟩
end Go.Proofs.Ytgjimhjceholaaa.V
end
section
namespace Go.Proofs.Ytgjimhjceholaaa.V
open Go.RowKit Go.Proofs.YtgjimhjceholaaaW.PrintWords Go.Proofs.YtgjimhjceholaaaW.PrintLast Go.Proofs.YtgjimhjceholaaaW.PrintMore
attribute [local go_sem] max2_int min2_int max_two min_two max_three min_three max_four min_four
set_option linter.unusedVariables false
set_option linter.unusedSimpArgs false
def vergerlaw22_awake.f  : Option (Bool) := (bound_Phi.f 1 1 0).bind fun t101 => (if t101 = 10 then ((bound_Rho.f ([] : List (S25))).bind fun t102 => (if t102 = 0 then ((bound_Passed.f ([] : List (S25)) 0).bind fun t103 => (if t103 = (-1) then ((bound_Waited.f ([] : List (S25)) 0).bind fun t104 => (some (t104 == (-1)))) else (some false))) else (some false))) else (some false))
set_option maxHeartbeats 8000000 in
set_option maxRecDepth 100000 in
theorem vergerlaw22_awake.calls  (r : Bool) (w : World) (h : vergerlaw22_awake.f  = some r) :
 Calls Try.prog 10 #[] w fun e w' => e = .returned (.bool r) ∧ Below w.heap.size w w' := by
 have HB := Aside0.mk (Below.refl w.heap.size w); have H : ((bound_Phi.f 1 1 0).bind fun t101 => (if t101 = 10 then ((bound_Rho.f ([] : List (S25))).bind fun t102 => (if t102 = 0 then ((bound_Passed.f ([] : List (S25)) 0).bind fun t103 => (if t103 = (-1) then ((bound_Waited.f ([] : List (S25)) 0).bind fun t104 => (some (t104 == (-1)))) else (some false))) else (some false))) else (some false))) = some r := h; clear h; replace H := Option.bind_eq_some_iff.mp H; obtain ⟨t101, A10, H⟩ := H; replace H : (if t101 = 10 then ((bound_Rho.f ([] : List (S25))).bind fun t102 => (if t102 = 0 then ((bound_Passed.f ([] : List (S25)) 0).bind fun t103 => (if t103 = (-1) then ((bound_Waited.f ([] : List (S25)) 0).bind fun t104 => (some (t104 == (-1)))) else (some false))) else (some false))) else (some false)) = some r := H; have A1 := Aside0.mk A10; clear A10
 by_cases c2 : t101 = 10
 · rw [if_pos c2] at H; have c2b0 : (t101 == 10) = true := beq_iff_eq.mpr c2; have c2b1 : (t101 != 10) = false := bne_eq_false_iff_eq.mpr c2; clear c2; replace H := Option.bind_eq_some_iff.mp H; obtain ⟨t102, A30, H⟩ := H; replace H : (if t102 = 0 then ((bound_Passed.f ([] : List (S25)) 0).bind fun t103 => (if t103 = (-1) then ((bound_Waited.f ([] : List (S25)) 0).bind fun t104 => (some (t104 == (-1)))) else (some false))) else (some false)) = some r := H; have A3 := Aside0.mk A30; clear A30
   by_cases c4 : t102 = 0
   · rw [if_pos c4] at H; have c4b0 : (t102 == 0) = true := beq_iff_eq.mpr c4; have c4b1 : (t102 != 0) = false := bne_eq_false_iff_eq.mpr c4; clear c4; replace H := Option.bind_eq_some_iff.mp H; obtain ⟨t103, A50, H⟩ := H; replace H : (if t103 = (-1) then ((bound_Waited.f ([] : List (S25)) 0).bind fun t104 => (some (t104 == (-1)))) else (some false)) = some r := H; have A5 := Aside0.mk A50; clear A50
     by_cases c6 : t103 = (-1)
     · rw [if_pos c6] at H; have c6b0 : (t103 == (-1)) = true := beq_iff_eq.mpr c6; have c6b1 : (t103 != (-1)) = false := bne_eq_false_iff_eq.mpr c6; clear c6; replace H := Option.bind_eq_some_iff.mp H; obtain ⟨t104, A70, H⟩ := H; replace H : (some (t104 == (-1))) = some r := H; have A7 := Aside0.mk A70; clear A70; obtain rfl := Option.some.inj H; go_enter Try.func10, Try.ntmps10
       go_wp2_with (first | ((with_reducible refine gate_callee (f := 11) rfl ?_); refine goesL_ (some 1) rfl rfl Try.func11 (by kernel_rfl) rfl #[.int .i64 1, .int .i64 1, .int .i64 0] rfl (by (try simp only [ue, uh, List.map_nil]); first | done | rfl | (simp only [ug, uf]; rfl)) ?_; (with_reducible refine (bound_Phi.calls 1 1 0 t101 _ A1.out).mono ?_); rintro e w8 ⟨rfl, hb⟩; refine ⟨_, rfl, ?_⟩; have n0_ := Aside0.mk (ud (by repeat (first | (with_reducible first | exact HB.out | apply uc | apply ua | apply ub) | exact HB.out)) hb); clear HB; have HB := n0_; clear n0_; (try clear hb); (try clear hb2); (try clear hk); (try clear hi)) | (go_at_call 8; (refine (bound_Rho.calls _ _ ([] : List (S25)) t102 _ ?side1 ?side2 A3.out).mono ?_); (case side1 => exact Kd.C_nil _ _); (case side2 => exact Nat.le_refl _); rintro e w' ⟨rfl, ⟨nd, rfl⟩⟩) | (go_at_call 7; (refine (bound_Passed.calls 0 t103 _ A5.out).mono ?_); rintro e w' ⟨rfl, ⟨nd, rfl⟩⟩) | (go_at_call 9; (refine (bound_Waited.calls 0 t104 _ A7.out).mono ?_); rintro e w' ⟨rfl, ⟨nd, rfl⟩⟩))
       go_ret
       exact ⟨by first | rfl | (simp [errW_none, errW_some] <;> rfl) | (simp [*, errW_none, errW_some] <;> rfl), by repeat (first | (with_reducible first | exact HB.out | apply uc | apply ua | apply ub) | exact HB.out)⟩
     · rw [if_neg c6] at H; have c6b0 : (t103 == (-1)) = false := beq_eq_false_iff_ne.mpr c6; have c6b1 : (t103 != (-1)) = true := bne_iff_ne.mpr c6; obtain rfl := Option.some.inj H; go_enter Try.func10, Try.ntmps10
       go_wp2_with (first | ((with_reducible refine gate_callee (f := 11) rfl ?_); refine goesL_ (some 1) rfl rfl Try.func11 (by kernel_rfl) rfl #[.int .i64 1, .int .i64 1, .int .i64 0] rfl (by (try simp only [ue, uh, List.map_nil]); first | done | rfl | (simp only [ug, uf]; rfl)) ?_; (with_reducible refine (bound_Phi.calls 1 1 0 t101 _ A1.out).mono ?_); rintro e w9 ⟨rfl, hb⟩; refine ⟨_, rfl, ?_⟩; have n0_ := Aside0.mk (ud (by repeat (first | (with_reducible first | exact HB.out | apply uc | apply ua | apply ub) | exact HB.out)) hb); clear HB; have HB := n0_; clear n0_; (try clear hb); (try clear hb2); (try clear hk); (try clear hi)) | (go_at_call 8; (refine (bound_Rho.calls _ _ ([] : List (S25)) t102 _ ?side1 ?side2 A3.out).mono ?_); (case side1 => exact Kd.C_nil _ _); (case side2 => exact Nat.le_refl _); rintro e w' ⟨rfl, ⟨nd, rfl⟩⟩) | (go_at_call 7; (refine (bound_Passed.calls 0 t103 _ A5.out).mono ?_); rintro e w' ⟨rfl, ⟨nd, rfl⟩⟩))
       go_ret
       exact ⟨by first | rfl | (simp [errW_none, errW_some] <;> rfl) | (simp [*, errW_none, errW_some] <;> rfl), by repeat (first | (with_reducible first | exact HB.out | apply uc | apply ua | apply ub) | exact HB.out)⟩
   · rw [if_neg c4] at H; have c4b0 : (t102 == 0) = false := beq_eq_false_iff_ne.mpr c4; have c4b1 : (t102 != 0) = true := bne_iff_ne.mpr c4; obtain rfl := Option.some.inj H; go_enter Try.func10, Try.ntmps10
     go_wp2_with (first | ((with_reducible refine gate_callee (f := 11) rfl ?_); refine goesL_ (some 1) rfl rfl Try.func11 (by kernel_rfl) rfl #[.int .i64 1, .int .i64 1, .int .i64 0] rfl (by (try simp only [ue, uh, List.map_nil]); first | done | rfl | (simp only [ug, uf]; rfl)) ?_; (with_reducible refine (bound_Phi.calls 1 1 0 t101 _ A1.out).mono ?_); rintro e w10 ⟨rfl, hb⟩; refine ⟨_, rfl, ?_⟩; have n0_ := Aside0.mk (ud (by repeat (first | (with_reducible first | exact HB.out | apply uc | apply ua | apply ub) | exact HB.out)) hb); clear HB; have HB := n0_; clear n0_; (try clear hb); (try clear hb2); (try clear hk); (try clear hi)) | (go_at_call 8; (refine (bound_Rho.calls _ _ ([] : List (S25)) t102 _ ?side1 ?side2 A3.out).mono ?_); (case side1 => exact Kd.C_nil _ _); (case side2 => exact Nat.le_refl _); rintro e w' ⟨rfl, ⟨nd, rfl⟩⟩))
     go_ret
     exact ⟨by first | rfl | (simp [errW_none, errW_some] <;> rfl) | (simp [*, errW_none, errW_some] <;> rfl), by repeat (first | (with_reducible first | exact HB.out | apply uc | apply ua | apply ub) | exact HB.out)⟩
 · rw [if_neg c2] at H; have c2b0 : (t101 == 10) = false := beq_eq_false_iff_ne.mpr c2; have c2b1 : (t101 != 10) = true := bne_iff_ne.mpr c2; obtain rfl := Option.some.inj H; go_enter Try.func10, Try.ntmps10
   go_wp2_with (first | ((with_reducible refine gate_callee (f := 11) rfl ?_); refine goesL_ (some 1) rfl rfl Try.func11 (by kernel_rfl) rfl #[.int .i64 1, .int .i64 1, .int .i64 0] rfl (by (try simp only [ue, uh, List.map_nil]); first | done | rfl | (simp only [ug, uf]; rfl)) ?_; (with_reducible refine (bound_Phi.calls 1 1 0 t101 _ A1.out).mono ?_); rintro e w11 ⟨rfl, hb⟩; refine ⟨_, rfl, ?_⟩; have n0_ := Aside0.mk (ud (by repeat (first | (with_reducible first | exact HB.out | apply uc | apply ua | apply ub) | exact HB.out)) hb); clear HB; have HB := n0_; clear n0_; (try clear hb); (try clear hb2); (try clear hk); (try clear hi)))
   go_ret
   exact ⟨by first | rfl | (simp [errW_none, errW_some] <;> rfl) | (simp [*, errW_none, errW_some] <;> rfl), by repeat (first | (with_reducible first | exact HB.out | apply uc | apply ua | apply ub) | exact HB.out)⟩
end Go.Proofs.Ytgjimhjceholaaa.V
end
section
namespace Go.Proofs.Ytgjimhjceholaaa.V
open Go.RowKit Go.Proofs.YtgjimhjceholaaaW.PrintWords Go.Proofs.YtgjimhjceholaaaW.PrintLast Go.Proofs.YtgjimhjceholaaaW.PrintMore
attribute [local go_sem] max2_int min2_int max_two min_two max_three min_three max_four min_four
set_option linter.unusedVariables false
set_option linter.unusedSimpArgs false
def vergerlaw22_BoundPhi.f (a0 : Int) (a1 : Int) (a2 : Int) (a3 : Int) : Option (Bool) := (bound_Phi.f (wrap64 ((Go.bits .and .i64 a0 511) + 1)) (Go.bits .and .i64 a1 511) (Go.bits .and .i64 a2 511)).bind fun t101 => (if t101 = (wrap64 ((wrap64 ((wrap64 ((wrap64 ((Go.bits .and .i64 a0 511) + 1)) * (Go.bits .and .i64 a1 511))) * (wrap64 ((Go.bits .and .i64 a2 511) + 5)))) + (wrap64 (5 * (wrap64 ((Go.bits .and .i64 a0 511) + 1)))))) then ((bound_Phi.f (wrap64 ((wrap64 ((Go.bits .and .i64 a0 511) + 1)) + (Go.bits .and .i64 a3 255))) (Go.bits .and .i64 a1 511) (Go.bits .and .i64 a2 511)).bind fun t102 => (if t102 ≥ t101 then ((bound_Phi.f (wrap64 ((Go.bits .and .i64 a0 511) + 1)) (wrap64 ((Go.bits .and .i64 a1 511) + (Go.bits .and .i64 a3 255))) (Go.bits .and .i64 a2 511)).bind fun t103 => (if t103 ≥ t101 then ((bound_Phi.f (wrap64 ((Go.bits .and .i64 a0 511) + 1)) (Go.bits .and .i64 a1 511) (wrap64 ((Go.bits .and .i64 a2 511) + (Go.bits .and .i64 a3 255)))).bind fun t104 => (if t104 ≥ t101 then ((bound_Phi.f (-1) (Go.bits .and .i64 a1 511) (Go.bits .and .i64 a2 511)).bind fun t105 => (if t105 = 0 then ((bound_Phi.f 5000 1 0).bind fun t106 => ((bound_Phi.f 1000 1 0).bind fun t107 => (if t106 = t107 then ((vergerlaw22_awake.f).bind fun t108 => (some t108)) else (some false)))) else (some false))) else (some false))) else (some false))) else (some false))) else (some false))
set_option maxHeartbeats 8000000 in
set_option maxRecDepth 100000 in
theorem vergerlaw22_BoundPhi.calls (a0 : Int) (a1 : Int) (a2 : Int) (a3 : Int) (r : Bool) (w : World) (h : vergerlaw22_BoundPhi.f a0 a1 a2 a3 = some r) :
 Calls Try.prog 4 #[.int .i64 a0, .int .i64 a1, .int .i64 a2, .int .i64 a3] w fun e w' => e = .returned (.bool r) ∧ Below w.heap.size w w' := by
 have HB := Aside0.mk (Below.refl w.heap.size w); have H : ((bound_Phi.f (wrap64 ((Go.bits .and .i64 a0 511) + 1)) (Go.bits .and .i64 a1 511) (Go.bits .and .i64 a2 511)).bind fun t101 => (if t101 = (wrap64 ((wrap64 ((wrap64 ((wrap64 ((Go.bits .and .i64 a0 511) + 1)) * (Go.bits .and .i64 a1 511))) * (wrap64 ((Go.bits .and .i64 a2 511) + 5)))) + (wrap64 (5 * (wrap64 ((Go.bits .and .i64 a0 511) + 1)))))) then ((bound_Phi.f (wrap64 ((wrap64 ((Go.bits .and .i64 a0 511) + 1)) + (Go.bits .and .i64 a3 255))) (Go.bits .and .i64 a1 511) (Go.bits .and .i64 a2 511)).bind fun t102 => (if t102 ≥ t101 then ((bound_Phi.f (wrap64 ((Go.bits .and .i64 a0 511) + 1)) (wrap64 ((Go.bits .and .i64 a1 511) + (Go.bits .and .i64 a3 255))) (Go.bits .and .i64 a2 511)).bind fun t103 => (if t103 ≥ t101 then ((bound_Phi.f (wrap64 ((Go.bits .and .i64 a0 511) + 1)) (Go.bits .and .i64 a1 511) (wrap64 ((Go.bits .and .i64 a2 511) + (Go.bits .and .i64 a3 255)))).bind fun t104 => (if t104 ≥ t101 then ((bound_Phi.f (-1) (Go.bits .and .i64 a1 511) (Go.bits .and .i64 a2 511)).bind fun t105 => (if t105 = 0 then ((bound_Phi.f 5000 1 0).bind fun t106 => ((bound_Phi.f 1000 1 0).bind fun t107 => (if t106 = t107 then ((vergerlaw22_awake.f).bind fun t108 => (some t108)) else (some false)))) else (some false))) else (some false))) else (some false))) else (some false))) else (some false))) = some r := h; clear h; replace H := Option.bind_eq_some_iff.mp H; obtain ⟨t101, A50, H⟩ := H; replace H : (if t101 = (wrap64 ((wrap64 ((wrap64 ((wrap64 ((Go.bits .and .i64 a0 511) + 1)) * (Go.bits .and .i64 a1 511))) * (wrap64 ((Go.bits .and .i64 a2 511) + 5)))) + (wrap64 (5 * (wrap64 ((Go.bits .and .i64 a0 511) + 1)))))) then ((bound_Phi.f (wrap64 ((wrap64 ((Go.bits .and .i64 a0 511) + 1)) + (Go.bits .and .i64 a3 255))) (Go.bits .and .i64 a1 511) (Go.bits .and .i64 a2 511)).bind fun t102 => (if t102 ≥ t101 then ((bound_Phi.f (wrap64 ((Go.bits .and .i64 a0 511) + 1)) (wrap64 ((Go.bits .and .i64 a1 511) + (Go.bits .and .i64 a3 255))) (Go.bits .and .i64 a2 511)).bind fun t103 => (if t103 ≥ t101 then ((bound_Phi.f (wrap64 ((Go.bits .and .i64 a0 511) + 1)) (Go.bits .and .i64 a1 511) (wrap64 ((Go.bits .and .i64 a2 511) + (Go.bits .and .i64 a3 255)))).bind fun t104 => (if t104 ≥ t101 then ((bound_Phi.f (-1) (Go.bits .and .i64 a1 511) (Go.bits .and .i64 a2 511)).bind fun t105 => (if t105 = 0 then ((bound_Phi.f 5000 1 0).bind fun t106 => ((bound_Phi.f 1000 1 0).bind fun t107 => (if t106 = t107 then ((vergerlaw22_awake.f).bind fun t108 => (some t108)) else (some false)))) else (some false))) else (some false))) else (some false))) else (some false))) else (some false)) = some r := H; have A5 := Aside0.mk A50; clear A50
 by_cases c6 : t101 = (wrap64 ((wrap64 ((wrap64 ((wrap64 ((Go.bits .and .i64 a0 511) + 1)) * (Go.bits .and .i64 a1 511))) * (wrap64 ((Go.bits .and .i64 a2 511) + 5)))) + (wrap64 (5 * (wrap64 ((Go.bits .and .i64 a0 511) + 1))))))
 · rw [if_pos c6] at H; have c6b0 : (t101 == (wrap64 ((wrap64 ((wrap64 ((wrap64 ((Go.bits .and .i64 a0 511) + 1)) * (Go.bits .and .i64 a1 511))) * (wrap64 ((Go.bits .and .i64 a2 511) + 5)))) + (wrap64 (5 * (wrap64 ((Go.bits .and .i64 a0 511) + 1))))))) = true := beq_iff_eq.mpr c6; have c6b1 : (t101 != (wrap64 ((wrap64 ((wrap64 ((wrap64 ((Go.bits .and .i64 a0 511) + 1)) * (Go.bits .and .i64 a1 511))) * (wrap64 ((Go.bits .and .i64 a2 511) + 5)))) + (wrap64 (5 * (wrap64 ((Go.bits .and .i64 a0 511) + 1))))))) = false := bne_eq_false_iff_eq.mpr c6; clear c6; replace H := Option.bind_eq_some_iff.mp H; obtain ⟨t102, A70, H⟩ := H; replace H : (if t102 ≥ t101 then ((bound_Phi.f (wrap64 ((Go.bits .and .i64 a0 511) + 1)) (wrap64 ((Go.bits .and .i64 a1 511) + (Go.bits .and .i64 a3 255))) (Go.bits .and .i64 a2 511)).bind fun t103 => (if t103 ≥ t101 then ((bound_Phi.f (wrap64 ((Go.bits .and .i64 a0 511) + 1)) (Go.bits .and .i64 a1 511) (wrap64 ((Go.bits .and .i64 a2 511) + (Go.bits .and .i64 a3 255)))).bind fun t104 => (if t104 ≥ t101 then ((bound_Phi.f (-1) (Go.bits .and .i64 a1 511) (Go.bits .and .i64 a2 511)).bind fun t105 => (if t105 = 0 then ((bound_Phi.f 5000 1 0).bind fun t106 => ((bound_Phi.f 1000 1 0).bind fun t107 => (if t106 = t107 then ((vergerlaw22_awake.f).bind fun t108 => (some t108)) else (some false)))) else (some false))) else (some false))) else (some false))) else (some false)) = some r := H; have A7 := Aside0.mk A70; clear A70
   by_cases c8 : t102 ≥ t101
   · rw [if_pos c8] at H; have c8b0 : decide (t101 ≤ t102) = true := decide_eq_true c8; clear c8; replace H := Option.bind_eq_some_iff.mp H; obtain ⟨t103, A90, H⟩ := H; replace H : (if t103 ≥ t101 then ((bound_Phi.f (wrap64 ((Go.bits .and .i64 a0 511) + 1)) (Go.bits .and .i64 a1 511) (wrap64 ((Go.bits .and .i64 a2 511) + (Go.bits .and .i64 a3 255)))).bind fun t104 => (if t104 ≥ t101 then ((bound_Phi.f (-1) (Go.bits .and .i64 a1 511) (Go.bits .and .i64 a2 511)).bind fun t105 => (if t105 = 0 then ((bound_Phi.f 5000 1 0).bind fun t106 => ((bound_Phi.f 1000 1 0).bind fun t107 => (if t106 = t107 then ((vergerlaw22_awake.f).bind fun t108 => (some t108)) else (some false)))) else (some false))) else (some false))) else (some false)) = some r := H; have A9 := Aside0.mk A90; clear A90
     by_cases c10 : t103 ≥ t101
     · rw [if_pos c10] at H; have c10b0 : decide (t101 ≤ t103) = true := decide_eq_true c10; clear c10; replace H := Option.bind_eq_some_iff.mp H; obtain ⟨t104, A110, H⟩ := H; replace H : (if t104 ≥ t101 then ((bound_Phi.f (-1) (Go.bits .and .i64 a1 511) (Go.bits .and .i64 a2 511)).bind fun t105 => (if t105 = 0 then ((bound_Phi.f 5000 1 0).bind fun t106 => ((bound_Phi.f 1000 1 0).bind fun t107 => (if t106 = t107 then ((vergerlaw22_awake.f).bind fun t108 => (some t108)) else (some false)))) else (some false))) else (some false)) = some r := H; have A11 := Aside0.mk A110; clear A110
       by_cases c12 : t104 ≥ t101
       · rw [if_pos c12] at H; have c12b0 : decide (t101 ≤ t104) = true := decide_eq_true c12; clear c12; replace H := Option.bind_eq_some_iff.mp H; obtain ⟨t105, A130, H⟩ := H; replace H : (if t105 = 0 then ((bound_Phi.f 5000 1 0).bind fun t106 => ((bound_Phi.f 1000 1 0).bind fun t107 => (if t106 = t107 then ((vergerlaw22_awake.f).bind fun t108 => (some t108)) else (some false)))) else (some false)) = some r := H; have A13 := Aside0.mk A130; clear A130
         by_cases c14 : t105 = 0
         · rw [if_pos c14] at H; have c14b0 : (t105 == 0) = true := beq_iff_eq.mpr c14; have c14b1 : (t105 != 0) = false := bne_eq_false_iff_eq.mpr c14; clear c14; replace H := Option.bind_eq_some_iff.mp H; obtain ⟨t106, A150, H⟩ := H; replace H : ((bound_Phi.f 1000 1 0).bind fun t107 => (if t106 = t107 then ((vergerlaw22_awake.f).bind fun t108 => (some t108)) else (some false))) = some r := H; have A15 := Aside0.mk A150; clear A150; replace H := Option.bind_eq_some_iff.mp H; obtain ⟨t107, A160, H⟩ := H; replace H : (if t106 = t107 then ((vergerlaw22_awake.f).bind fun t108 => (some t108)) else (some false)) = some r := H; have A16 := Aside0.mk A160; clear A160
           by_cases c17 : t106 = t107
           · rw [if_pos c17] at H; have c17b0 : (t106 == t107) = true := beq_iff_eq.mpr c17; have c17b1 : (t106 != t107) = false := bne_eq_false_iff_eq.mpr c17; clear c17; replace H := Option.bind_eq_some_iff.mp H; obtain ⟨t108, A180, H⟩ := H; replace H : (some t108) = some r := H; have A18 := Aside0.mk A180; clear A180; obtain rfl := Option.some.inj H; go_enter Try.func4, Try.ntmps4
             go_wp2_with (first | ((with_reducible refine gate_callee (f := 11) rfl ?_); refine goesL_ (some 22) rfl rfl Try.func11 (by kernel_rfl) rfl #[.int .i64 (wrap64 ((Go.bits .and .i64 a0 511) + 1)), .int .i64 (Go.bits .and .i64 a1 511), .int .i64 (Go.bits .and .i64 a2 511)] rfl (by (try simp only [ue, uh, List.map_nil]); first | done | rfl | (simp only [ug, uf]; rfl)) ?_; (with_reducible refine (bound_Phi.calls (wrap64 ((Go.bits .and .i64 a0 511) + 1)) (Go.bits .and .i64 a1 511) (Go.bits .and .i64 a2 511) t101 _ A5.out).mono ?_); rintro e w19 ⟨rfl, hb⟩; refine ⟨_, rfl, ?_⟩; have n0_ := Aside0.mk (ud (by repeat (first | (with_reducible first | exact HB.out | apply uc | apply ua | apply ub) | exact HB.out)) hb); clear HB; have HB := n0_; clear n0_; (try clear hb); (try clear hb2); (try clear hk); (try clear hi)) | (go_at_call 11; (with_reducible refine (bound_Phi.calls (wrap64 ((wrap64 ((Go.bits .and .i64 a0 511) + 1)) + (Go.bits .and .i64 a3 255))) (Go.bits .and .i64 a1 511) (Go.bits .and .i64 a2 511) t102 _ A7.out).mono ?_); rintro e w20 ⟨rfl, hb⟩; have n0_ := Aside0.mk (ud (by repeat (first | (with_reducible first | exact HB.out | apply uc | apply ua | apply ub) | exact HB.out)) hb); clear HB; have HB := n0_; clear n0_; (try clear hb); (try clear hb2); (try clear hk); (try clear hi)) | (go_at_call 11; (with_reducible refine (bound_Phi.calls (wrap64 ((Go.bits .and .i64 a0 511) + 1)) (wrap64 ((Go.bits .and .i64 a1 511) + (Go.bits .and .i64 a3 255))) (Go.bits .and .i64 a2 511) t103 _ A9.out).mono ?_); rintro e w21 ⟨rfl, hb⟩; have n0_ := Aside0.mk (ud (by repeat (first | (with_reducible first | exact HB.out | apply uc | apply ua | apply ub) | exact HB.out)) hb); clear HB; have HB := n0_; clear n0_; (try clear hb); (try clear hb2); (try clear hk); (try clear hi)) | (go_at_call 11; (with_reducible refine (bound_Phi.calls (wrap64 ((Go.bits .and .i64 a0 511) + 1)) (Go.bits .and .i64 a1 511) (wrap64 ((Go.bits .and .i64 a2 511) + (Go.bits .and .i64 a3 255))) t104 _ A11.out).mono ?_); rintro e w22 ⟨rfl, hb⟩; have n0_ := Aside0.mk (ud (by repeat (first | (with_reducible first | exact HB.out | apply uc | apply ua | apply ub) | exact HB.out)) hb); clear HB; have HB := n0_; clear n0_; (try clear hb); (try clear hb2); (try clear hk); (try clear hi)) | (go_at_call 11; (with_reducible refine (bound_Phi.calls (-1) (Go.bits .and .i64 a1 511) (Go.bits .and .i64 a2 511) t105 _ A13.out).mono ?_); rintro e w23 ⟨rfl, hb⟩; have n0_ := Aside0.mk (ud (by repeat (first | (with_reducible first | exact HB.out | apply uc | apply ua | apply ub) | exact HB.out)) hb); clear HB; have HB := n0_; clear n0_; (try clear hb); (try clear hb2); (try clear hk); (try clear hi)) | (go_at_call 11; (with_reducible refine (bound_Phi.calls 5000 1 0 t106 _ A15.out).mono ?_); rintro e w24 ⟨rfl, hb⟩; have n0_ := Aside0.mk (ud (by repeat (first | (with_reducible first | exact HB.out | apply uc | apply ua | apply ub) | exact HB.out)) hb); clear HB; have HB := n0_; clear n0_; (try clear hb); (try clear hb2); (try clear hk); (try clear hi)) | (go_at_call 11; (with_reducible refine (bound_Phi.calls 1000 1 0 t107 _ A16.out).mono ?_); rintro e w25 ⟨rfl, hb⟩; have n0_ := Aside0.mk (ud (by repeat (first | (with_reducible first | exact HB.out | apply uc | apply ua | apply ub) | exact HB.out)) hb); clear HB; have HB := n0_; clear n0_; (try clear hb); (try clear hb2); (try clear hk); (try clear hi)) | (go_at_call 10; (with_reducible refine (vergerlaw22_awake.calls  t108 _ A18.out).mono ?_); rintro e w26 ⟨rfl, hb⟩; have n0_ := Aside0.mk (ud (by repeat (first | (with_reducible first | exact HB.out | apply uc | apply ua | apply ub) | exact HB.out)) hb); clear HB; have HB := n0_; clear n0_; (try clear hb); (try clear hb2); (try clear hk); (try clear hi)))
             go_ret
             exact ⟨by first | rfl | (simp [errW_none, errW_some] <;> rfl) | (simp [*, errW_none, errW_some] <;> rfl), by repeat (first | (with_reducible first | exact HB.out | apply uc | apply ua | apply ub) | exact HB.out)⟩
           · rw [if_neg c17] at H; have c17b0 : (t106 == t107) = false := beq_eq_false_iff_ne.mpr c17; have c17b1 : (t106 != t107) = true := bne_iff_ne.mpr c17; obtain rfl := Option.some.inj H; go_enter Try.func4, Try.ntmps4
             go_wp2_with (first | ((with_reducible refine gate_callee (f := 11) rfl ?_); refine goesL_ (some 22) rfl rfl Try.func11 (by kernel_rfl) rfl #[.int .i64 (wrap64 ((Go.bits .and .i64 a0 511) + 1)), .int .i64 (Go.bits .and .i64 a1 511), .int .i64 (Go.bits .and .i64 a2 511)] rfl (by (try simp only [ue, uh, List.map_nil]); first | done | rfl | (simp only [ug, uf]; rfl)) ?_; (with_reducible refine (bound_Phi.calls (wrap64 ((Go.bits .and .i64 a0 511) + 1)) (Go.bits .and .i64 a1 511) (Go.bits .and .i64 a2 511) t101 _ A5.out).mono ?_); rintro e w27 ⟨rfl, hb⟩; refine ⟨_, rfl, ?_⟩; have n0_ := Aside0.mk (ud (by repeat (first | (with_reducible first | exact HB.out | apply uc | apply ua | apply ub) | exact HB.out)) hb); clear HB; have HB := n0_; clear n0_; (try clear hb); (try clear hb2); (try clear hk); (try clear hi)) | (go_at_call 11; (with_reducible refine (bound_Phi.calls (wrap64 ((wrap64 ((Go.bits .and .i64 a0 511) + 1)) + (Go.bits .and .i64 a3 255))) (Go.bits .and .i64 a1 511) (Go.bits .and .i64 a2 511) t102 _ A7.out).mono ?_); rintro e w28 ⟨rfl, hb⟩; have n0_ := Aside0.mk (ud (by repeat (first | (with_reducible first | exact HB.out | apply uc | apply ua | apply ub) | exact HB.out)) hb); clear HB; have HB := n0_; clear n0_; (try clear hb); (try clear hb2); (try clear hk); (try clear hi)) | (go_at_call 11; (with_reducible refine (bound_Phi.calls (wrap64 ((Go.bits .and .i64 a0 511) + 1)) (wrap64 ((Go.bits .and .i64 a1 511) + (Go.bits .and .i64 a3 255))) (Go.bits .and .i64 a2 511) t103 _ A9.out).mono ?_); rintro e w29 ⟨rfl, hb⟩; have n0_ := Aside0.mk (ud (by repeat (first | (with_reducible first | exact HB.out | apply uc | apply ua | apply ub) | exact HB.out)) hb); clear HB; have HB := n0_; clear n0_; (try clear hb); (try clear hb2); (try clear hk); (try clear hi)) | (go_at_call 11; (with_reducible refine (bound_Phi.calls (wrap64 ((Go.bits .and .i64 a0 511) + 1)) (Go.bits .and .i64 a1 511) (wrap64 ((Go.bits .and .i64 a2 511) + (Go.bits .and .i64 a3 255))) t104 _ A11.out).mono ?_); rintro e w30 ⟨rfl, hb⟩; have n0_ := Aside0.mk (ud (by repeat (first | (with_reducible first | exact HB.out | apply uc | apply ua | apply ub) | exact HB.out)) hb); clear HB; have HB := n0_; clear n0_; (try clear hb); (try clear hb2); (try clear hk); (try clear hi)) | (go_at_call 11; (with_reducible refine (bound_Phi.calls (-1) (Go.bits .and .i64 a1 511) (Go.bits .and .i64 a2 511) t105 _ A13.out).mono ?_); rintro e w31 ⟨rfl, hb⟩; have n0_ := Aside0.mk (ud (by repeat (first | (with_reducible first | exact HB.out | apply uc | apply ua | apply ub) | exact HB.out)) hb); clear HB; have HB := n0_; clear n0_; (try clear hb); (try clear hb2); (try clear hk); (try clear hi)) | (go_at_call 11; (with_reducible refine (bound_Phi.calls 5000 1 0 t106 _ A15.out).mono ?_); rintro e w32 ⟨rfl, hb⟩; have n0_ := Aside0.mk (ud (by repeat (first | (with_reducible first | exact HB.out | apply uc | apply ua | apply ub) | exact HB.out)) hb); clear HB; have HB := n0_; clear n0_; (try clear hb); (try clear hb2); (try clear hk); (try clear hi)) | (go_at_call 11; (with_reducible refine (bound_Phi.calls 1000 1 0 t107 _ A16.out).mono ?_); rintro e w33 ⟨rfl, hb⟩; have n0_ := Aside0.mk (ud (by repeat (first | (with_reducible first | exact HB.out | apply uc | apply ua | apply ub) | exact HB.out)) hb); clear HB; have HB := n0_; clear n0_; (try clear hb); (try clear hb2); (try clear hk); (try clear hi)))
             go_ret
             exact ⟨by first | rfl | (simp [errW_none, errW_some] <;> rfl) | (simp [*, errW_none, errW_some] <;> rfl), by repeat (first | (with_reducible first | exact HB.out | apply uc | apply ua | apply ub) | exact HB.out)⟩
         · rw [if_neg c14] at H; have c14b0 : (t105 == 0) = false := beq_eq_false_iff_ne.mpr c14; have c14b1 : (t105 != 0) = true := bne_iff_ne.mpr c14; obtain rfl := Option.some.inj H; go_enter Try.func4, Try.ntmps4
           go_wp2_with (first | ((with_reducible refine gate_callee (f := 11) rfl ?_); refine goesL_ (some 22) rfl rfl Try.func11 (by kernel_rfl) rfl #[.int .i64 (wrap64 ((Go.bits .and .i64 a0 511) + 1)), .int .i64 (Go.bits .and .i64 a1 511), .int .i64 (Go.bits .and .i64 a2 511)] rfl (by (try simp only [ue, uh, List.map_nil]); first | done | rfl | (simp only [ug, uf]; rfl)) ?_; (with_reducible refine (bound_Phi.calls (wrap64 ((Go.bits .and .i64 a0 511) + 1)) (Go.bits .and .i64 a1 511) (Go.bits .and .i64 a2 511) t101 _ A5.out).mono ?_); rintro e w34 ⟨rfl, hb⟩; refine ⟨_, rfl, ?_⟩; have n0_ := Aside0.mk (ud (by repeat (first | (with_reducible first | exact HB.out | apply uc | apply ua | apply ub) | exact HB.out)) hb); clear HB; have HB := n0_; clear n0_; (try clear hb); (try clear hb2); (try clear hk); (try clear hi)) | (go_at_call 11; (with_reducible refine (bound_Phi.calls (wrap64 ((wrap64 ((Go.bits .and .i64 a0 511) + 1)) + (Go.bits .and .i64 a3 255))) (Go.bits .and .i64 a1 511) (Go.bits .and .i64 a2 511) t102 _ A7.out).mono ?_); rintro e w35 ⟨rfl, hb⟩; have n0_ := Aside0.mk (ud (by repeat (first | (with_reducible first | exact HB.out | apply uc | apply ua | apply ub) | exact HB.out)) hb); clear HB; have HB := n0_; clear n0_; (try clear hb); (try clear hb2); (try clear hk); (try clear hi)) | (go_at_call 11; (with_reducible refine (bound_Phi.calls (wrap64 ((Go.bits .and .i64 a0 511) + 1)) (wrap64 ((Go.bits .and .i64 a1 511) + (Go.bits .and .i64 a3 255))) (Go.bits .and .i64 a2 511) t103 _ A9.out).mono ?_); rintro e w36 ⟨rfl, hb⟩; have n0_ := Aside0.mk (ud (by repeat (first | (with_reducible first | exact HB.out | apply uc | apply ua | apply ub) | exact HB.out)) hb); clear HB; have HB := n0_; clear n0_; (try clear hb); (try clear hb2); (try clear hk); (try clear hi)) | (go_at_call 11; (with_reducible refine (bound_Phi.calls (wrap64 ((Go.bits .and .i64 a0 511) + 1)) (Go.bits .and .i64 a1 511) (wrap64 ((Go.bits .and .i64 a2 511) + (Go.bits .and .i64 a3 255))) t104 _ A11.out).mono ?_); rintro e w37 ⟨rfl, hb⟩; have n0_ := Aside0.mk (ud (by repeat (first | (with_reducible first | exact HB.out | apply uc | apply ua | apply ub) | exact HB.out)) hb); clear HB; have HB := n0_; clear n0_; (try clear hb); (try clear hb2); (try clear hk); (try clear hi)) | (go_at_call 11; (with_reducible refine (bound_Phi.calls (-1) (Go.bits .and .i64 a1 511) (Go.bits .and .i64 a2 511) t105 _ A13.out).mono ?_); rintro e w38 ⟨rfl, hb⟩; have n0_ := Aside0.mk (ud (by repeat (first | (with_reducible first | exact HB.out | apply uc | apply ua | apply ub) | exact HB.out)) hb); clear HB; have HB := n0_; clear n0_; (try clear hb); (try clear hb2); (try clear hk); (try clear hi)))
           go_ret
           exact ⟨by first | rfl | (simp [errW_none, errW_some] <;> rfl) | (simp [*, errW_none, errW_some] <;> rfl), by repeat (first | (with_reducible first | exact HB.out | apply uc | apply ua | apply ub) | exact HB.out)⟩
       · rw [if_neg c12] at H; have c12b0 : decide (t101 ≤ t104) = false := decide_eq_false c12; clear c12; obtain rfl := Option.some.inj H; go_enter Try.func4, Try.ntmps4
         go_wp2_with (first | ((with_reducible refine gate_callee (f := 11) rfl ?_); refine goesL_ (some 22) rfl rfl Try.func11 (by kernel_rfl) rfl #[.int .i64 (wrap64 ((Go.bits .and .i64 a0 511) + 1)), .int .i64 (Go.bits .and .i64 a1 511), .int .i64 (Go.bits .and .i64 a2 511)] rfl (by (try simp only [ue, uh, List.map_nil]); first | done | rfl | (simp only [ug, uf]; rfl)) ?_; (with_reducible refine (bound_Phi.calls (wrap64 ((Go.bits .and .i64 a0 511) + 1)) (Go.bits .and .i64 a1 511) (Go.bits .and .i64 a2 511) t101 _ A5.out).mono ?_); rintro e w39 ⟨rfl, hb⟩; refine ⟨_, rfl, ?_⟩; have n0_ := Aside0.mk (ud (by repeat (first | (with_reducible first | exact HB.out | apply uc | apply ua | apply ub) | exact HB.out)) hb); clear HB; have HB := n0_; clear n0_; (try clear hb); (try clear hb2); (try clear hk); (try clear hi)) | (go_at_call 11; (with_reducible refine (bound_Phi.calls (wrap64 ((wrap64 ((Go.bits .and .i64 a0 511) + 1)) + (Go.bits .and .i64 a3 255))) (Go.bits .and .i64 a1 511) (Go.bits .and .i64 a2 511) t102 _ A7.out).mono ?_); rintro e w40 ⟨rfl, hb⟩; have n0_ := Aside0.mk (ud (by repeat (first | (with_reducible first | exact HB.out | apply uc | apply ua | apply ub) | exact HB.out)) hb); clear HB; have HB := n0_; clear n0_; (try clear hb); (try clear hb2); (try clear hk); (try clear hi)) | (go_at_call 11; (with_reducible refine (bound_Phi.calls (wrap64 ((Go.bits .and .i64 a0 511) + 1)) (wrap64 ((Go.bits .and .i64 a1 511) + (Go.bits .and .i64 a3 255))) (Go.bits .and .i64 a2 511) t103 _ A9.out).mono ?_); rintro e w41 ⟨rfl, hb⟩; have n0_ := Aside0.mk (ud (by repeat (first | (with_reducible first | exact HB.out | apply uc | apply ua | apply ub) | exact HB.out)) hb); clear HB; have HB := n0_; clear n0_; (try clear hb); (try clear hb2); (try clear hk); (try clear hi)) | (go_at_call 11; (with_reducible refine (bound_Phi.calls (wrap64 ((Go.bits .and .i64 a0 511) + 1)) (Go.bits .and .i64 a1 511) (wrap64 ((Go.bits .and .i64 a2 511) + (Go.bits .and .i64 a3 255))) t104 _ A11.out).mono ?_); rintro e w42 ⟨rfl, hb⟩; have n0_ := Aside0.mk (ud (by repeat (first | (with_reducible first | exact HB.out | apply uc | apply ua | apply ub) | exact HB.out)) hb); clear HB; have HB := n0_; clear n0_; (try clear hb); (try clear hb2); (try clear hk); (try clear hi)))
         go_ret
         exact ⟨by first | rfl | (simp [errW_none, errW_some] <;> rfl) | (simp [*, errW_none, errW_some] <;> rfl), by repeat (first | (with_reducible first | exact HB.out | apply uc | apply ua | apply ub) | exact HB.out)⟩
     · rw [if_neg c10] at H; have c10b0 : decide (t101 ≤ t103) = false := decide_eq_false c10; clear c10; obtain rfl := Option.some.inj H; go_enter Try.func4, Try.ntmps4
       go_wp2_with (first | ((with_reducible refine gate_callee (f := 11) rfl ?_); refine goesL_ (some 22) rfl rfl Try.func11 (by kernel_rfl) rfl #[.int .i64 (wrap64 ((Go.bits .and .i64 a0 511) + 1)), .int .i64 (Go.bits .and .i64 a1 511), .int .i64 (Go.bits .and .i64 a2 511)] rfl (by (try simp only [ue, uh, List.map_nil]); first | done | rfl | (simp only [ug, uf]; rfl)) ?_; (with_reducible refine (bound_Phi.calls (wrap64 ((Go.bits .and .i64 a0 511) + 1)) (Go.bits .and .i64 a1 511) (Go.bits .and .i64 a2 511) t101 _ A5.out).mono ?_); rintro e w43 ⟨rfl, hb⟩; refine ⟨_, rfl, ?_⟩; have n0_ := Aside0.mk (ud (by repeat (first | (with_reducible first | exact HB.out | apply uc | apply ua | apply ub) | exact HB.out)) hb); clear HB; have HB := n0_; clear n0_; (try clear hb); (try clear hb2); (try clear hk); (try clear hi)) | (go_at_call 11; (with_reducible refine (bound_Phi.calls (wrap64 ((wrap64 ((Go.bits .and .i64 a0 511) + 1)) + (Go.bits .and .i64 a3 255))) (Go.bits .and .i64 a1 511) (Go.bits .and .i64 a2 511) t102 _ A7.out).mono ?_); rintro e w44 ⟨rfl, hb⟩; have n0_ := Aside0.mk (ud (by repeat (first | (with_reducible first | exact HB.out | apply uc | apply ua | apply ub) | exact HB.out)) hb); clear HB; have HB := n0_; clear n0_; (try clear hb); (try clear hb2); (try clear hk); (try clear hi)) | (go_at_call 11; (with_reducible refine (bound_Phi.calls (wrap64 ((Go.bits .and .i64 a0 511) + 1)) (wrap64 ((Go.bits .and .i64 a1 511) + (Go.bits .and .i64 a3 255))) (Go.bits .and .i64 a2 511) t103 _ A9.out).mono ?_); rintro e w45 ⟨rfl, hb⟩; have n0_ := Aside0.mk (ud (by repeat (first | (with_reducible first | exact HB.out | apply uc | apply ua | apply ub) | exact HB.out)) hb); clear HB; have HB := n0_; clear n0_; (try clear hb); (try clear hb2); (try clear hk); (try clear hi)))
       go_ret
       exact ⟨by first | rfl | (simp [errW_none, errW_some] <;> rfl) | (simp [*, errW_none, errW_some] <;> rfl), by repeat (first | (with_reducible first | exact HB.out | apply uc | apply ua | apply ub) | exact HB.out)⟩
   · rw [if_neg c8] at H; have c8b0 : decide (t101 ≤ t102) = false := decide_eq_false c8; clear c8; obtain rfl := Option.some.inj H; go_enter Try.func4, Try.ntmps4
     go_wp2_with (first | ((with_reducible refine gate_callee (f := 11) rfl ?_); refine goesL_ (some 22) rfl rfl Try.func11 (by kernel_rfl) rfl #[.int .i64 (wrap64 ((Go.bits .and .i64 a0 511) + 1)), .int .i64 (Go.bits .and .i64 a1 511), .int .i64 (Go.bits .and .i64 a2 511)] rfl (by (try simp only [ue, uh, List.map_nil]); first | done | rfl | (simp only [ug, uf]; rfl)) ?_; (with_reducible refine (bound_Phi.calls (wrap64 ((Go.bits .and .i64 a0 511) + 1)) (Go.bits .and .i64 a1 511) (Go.bits .and .i64 a2 511) t101 _ A5.out).mono ?_); rintro e w46 ⟨rfl, hb⟩; refine ⟨_, rfl, ?_⟩; have n0_ := Aside0.mk (ud (by repeat (first | (with_reducible first | exact HB.out | apply uc | apply ua | apply ub) | exact HB.out)) hb); clear HB; have HB := n0_; clear n0_; (try clear hb); (try clear hb2); (try clear hk); (try clear hi)) | (go_at_call 11; (with_reducible refine (bound_Phi.calls (wrap64 ((wrap64 ((Go.bits .and .i64 a0 511) + 1)) + (Go.bits .and .i64 a3 255))) (Go.bits .and .i64 a1 511) (Go.bits .and .i64 a2 511) t102 _ A7.out).mono ?_); rintro e w47 ⟨rfl, hb⟩; have n0_ := Aside0.mk (ud (by repeat (first | (with_reducible first | exact HB.out | apply uc | apply ua | apply ub) | exact HB.out)) hb); clear HB; have HB := n0_; clear n0_; (try clear hb); (try clear hb2); (try clear hk); (try clear hi)))
     go_ret
     exact ⟨by first | rfl | (simp [errW_none, errW_some] <;> rfl) | (simp [*, errW_none, errW_some] <;> rfl), by repeat (first | (with_reducible first | exact HB.out | apply uc | apply ua | apply ub) | exact HB.out)⟩
 · rw [if_neg c6] at H; have c6b0 : (t101 == (wrap64 ((wrap64 ((wrap64 ((wrap64 ((Go.bits .and .i64 a0 511) + 1)) * (Go.bits .and .i64 a1 511))) * (wrap64 ((Go.bits .and .i64 a2 511) + 5)))) + (wrap64 (5 * (wrap64 ((Go.bits .and .i64 a0 511) + 1))))))) = false := beq_eq_false_iff_ne.mpr c6; have c6b1 : (t101 != (wrap64 ((wrap64 ((wrap64 ((wrap64 ((Go.bits .and .i64 a0 511) + 1)) * (Go.bits .and .i64 a1 511))) * (wrap64 ((Go.bits .and .i64 a2 511) + 5)))) + (wrap64 (5 * (wrap64 ((Go.bits .and .i64 a0 511) + 1))))))) = true := bne_iff_ne.mpr c6; obtain rfl := Option.some.inj H; go_enter Try.func4, Try.ntmps4
   go_wp2_with (first | ((with_reducible refine gate_callee (f := 11) rfl ?_); refine goesL_ (some 22) rfl rfl Try.func11 (by kernel_rfl) rfl #[.int .i64 (wrap64 ((Go.bits .and .i64 a0 511) + 1)), .int .i64 (Go.bits .and .i64 a1 511), .int .i64 (Go.bits .and .i64 a2 511)] rfl (by (try simp only [ue, uh, List.map_nil]); first | done | rfl | (simp only [ug, uf]; rfl)) ?_; (with_reducible refine (bound_Phi.calls (wrap64 ((Go.bits .and .i64 a0 511) + 1)) (Go.bits .and .i64 a1 511) (Go.bits .and .i64 a2 511) t101 _ A5.out).mono ?_); rintro e w48 ⟨rfl, hb⟩; refine ⟨_, rfl, ?_⟩; have n0_ := Aside0.mk (ud (by repeat (first | (with_reducible first | exact HB.out | apply uc | apply ua | apply ub) | exact HB.out)) hb); clear HB; have HB := n0_; clear n0_; (try clear hb); (try clear hb2); (try clear hk); (try clear hi)))
   go_ret
   exact ⟨by first | rfl | (simp [errW_none, errW_some] <;> rfl) | (simp [*, errW_none, errW_some] <;> rfl), by repeat (first | (with_reducible first | exact HB.out | apply uc | apply ua | apply ub) | exact HB.out)⟩
end Go.Proofs.Ytgjimhjceholaaa.V
end
section
set_option linter.unusedVariables false
set_option linter.unusedSimpArgs false
namespace Go.Proofs.Ytgjimhjceholaaa.V
open Go.RowKit Go.Proofs.YtgjimhjceholaaaW.PrintWords Go.Proofs.YtgjimhjceholaaaW.PrintLast Go.Proofs.YtgjimhjceholaaaW.PrintMore
theorem wrapP {i : Int} (h0 : -9223372036854775808 ≤ i) (h1 : i ≤ 9223372036854775807) : wrap64 i = i := by unfold wrap64; omega
theorem and_maskP (x : Int) (m : Nat) (hm : m < 4611686018427387904) : 0 ≤ Go.bits .and .i64 x (m : Int) ∧ Go.bits .and .i64 x (m : Int) ≤ (m : Int) := by
 have h2 : (BitVec.ofInt 64 (m : Int)).toNat = m := by
  rw [BitVec.ofInt_natCast, BitVec.toNat_ofNat]; exact Nat.mod_eq_of_lt (by omega)
 have h3 : ((BitVec.ofInt 64 x) &&& (BitVec.ofInt 64 (m : Int))).toNat ≤ m := by
  rw [BitVec.toNat_and, h2]
  exact Nat.and_le_right
 show 0 ≤ IntKind.i64.wrap ((BitVec.ofInt 64 x &&& BitVec.ofInt 64 (m : Int)).toNat : Int) ∧ IntKind.i64.wrap ((BitVec.ofInt 64 x &&& BitVec.ofInt 64 (m : Int)).toNat : Int) ≤ _
 rw [i64_w]
 rw [wrapP (by omega) (by omega)]
 omega
def inP (n : Int) : Int := mn (mx n 0) 1000
theorem inP_r (n : Int) : 0 ≤ inP n ∧ inP n ≤ 1000 := by unfold inP mn mx; omega
theorem inP_id {n : Int} (h0 : 0 ≤ n) (h1 : n ≤ 1000) : inP n = n := by unfold inP mn mx; omega
theorem inP_mono {a b : Int} (h : a ≤ b) : inP a ≤ inP b := by unfold inP mn mx; omega
def phiP (t n o : Int) : Int := inP t * (inP n * (inP o + 5) + 5)
theorem mul_r {a b A B : Int} (ha : 0 ≤ a) (ha2 : a ≤ A) (hb : 0 ≤ b) (hb2 : b ≤ B) : 0 ≤ a * b ∧ a * b ≤ A * B :=
 ⟨Int.mul_nonneg ha hb, Int.mul_le_mul ha2 hb2 hb (by omega)⟩
theorem phi_told (t n o : Int) : bound_Phi.f t n o = some (phiP t n o) := by
 have ht := inP_r t
 have hn := inP_r n
 have ho := inP_r o
 unfold bound_Phi.f bound_Phi_1.f
 simp only [Option.bind_some]
 have e1 : wrap64 (mn (mx o 0) 1000 + 5) = inP o + 5 := wrapP (by unfold inP at *; omega) (by unfold inP at *; omega)
 have m1 := mul_r hn.1 hn.2 (show 0 ≤ inP o + 5 by omega) (show inP o + 5 ≤ 1005 by omega)
 have e2 : wrap64 (mn (mx n 0) 1000 * (inP o + 5)) = inP n * (inP o + 5) := wrapP (by show _ ≤ inP n * _; omega) (by show inP n * _ ≤ _; omega)
 have e3 : wrap64 (inP n * (inP o + 5) + 5) = inP n * (inP o + 5) + 5 := wrapP (by omega) (by omega)
 have m2 := mul_r ht.1 ht.2 (show 0 ≤ inP n * (inP o + 5) + 5 by omega) (show inP n * (inP o + 5) + 5 ≤ 1005005 by omega)
 have e4 : wrap64 (mn (mx t 0) 1000 * (inP n * (inP o + 5) + 5)) = phiP t n o := wrapP (by show _ ≤ inP t * _; omega) (by show inP t * _ ≤ _; omega)
 rw [e1, e2, e3, e4]
theorem phi_mono {t n o t' n' o' : Int} (h1 : t ≤ t') (h2 : n ≤ n') (h3 : o ≤ o') : phiP t n o ≤ phiP t' n' o' := by
 have a1 := inP_r t
 have a2 := inP_r n
 have a3 := inP_r o
 have b1 := inP_r t'
 have b2 := inP_r n'
 have b3 := inP_r o'
 have c1 := inP_mono h1
 have c2 := inP_mono h2
 have c3 := inP_mono h3
 have m1 := mul_r a2.1 c2 (show 0 ≤ inP o + 5 by omega) (show inP o + 5 ≤ inP o' + 5 by omega)
 exact (mul_r a1.1 c1 (show 0 ≤ inP n * (inP o + 5) + 5 by omega) (show inP n * (inP o + 5) + 5 ≤ inP n' * (inP o' + 5) + 5 by omega)).2
theorem awake22 : vergerlaw22_awake.f = some true := by
 unfold vergerlaw22_awake.f
 rw [phi_told]
 rfl
theorem phi_at {t n o m : Int} (ht : 0 ≤ t) (ht2 : t ≤ 511) (hn : 0 ≤ n) (hn2 : n ≤ 511) (ho : 0 ≤ o) (ho2 : o ≤ 511) :
 phiP (t + 1) n o = wrap64 (wrap64 (wrap64 ((t + 1) * n) * (o + 5)) + wrap64 (5 * (t + 1))) := by
 unfold phiP
 rw [inP_id (by omega) (by omega), inP_id hn (by omega), inP_id ho (by omega)]
 have m1 := mul_r (show 0 ≤ t + 1 by omega) (show t + 1 ≤ 512 by omega) hn hn2
 have m2 := mul_r m1.1 m1.2 (show 0 ≤ o + 5 by omega) (show o + 5 ≤ 516 by omega)
 have w1 : wrap64 ((t + 1) * n) = (t + 1) * n := wrapP (by omega) (by omega)
 have w2 : wrap64 ((t + 1) * n * (o + 5)) = (t + 1) * n * (o + 5) := wrapP (by omega) (by omega)
 have w3 : wrap64 (5 * (t + 1)) = 5 * (t + 1) := wrapP (by omega) (by omega)
 have w4 : wrap64 ((t + 1) * n * (o + 5) + 5 * (t + 1)) = (t + 1) * n * (o + 5) + 5 * (t + 1) := wrapP (by omega) (by omega)
 rw [w1, w2, w3, w4]
 rw [Int.mul_add, Int.mul_assoc]
 omega
theorem BoundPhi_pure (a b c d : Int) {P Q R S : Prop} (_ : P) (_ : Q) (_ : R) (_ : S) : vergerlaw22_BoundPhi.f a b c d = some true := by
 have ma := and_maskP a 511 (by omega)
 have mb := and_maskP b 511 (by omega)
 have mc := and_maskP c 511 (by omega)
 have md := and_maskP d 255 (by omega)
 rw [show ((511 : Nat) : Int) = 511 from rfl] at ma mb mc
 rw [show ((255 : Nat) : Int) = 255 from rfl] at md
 unfold vergerlaw22_BoundPhi.f
 generalize Go.bits .and .i64 a 511 = t at *
 generalize Go.bits .and .i64 b 511 = n at *
 generalize Go.bits .and .i64 c 511 = o at *
 generalize Go.bits .and .i64 d 255 = m at *
 have e1 : wrap64 (t + 1) = t + 1 := wrapP (by omega) (by omega)
 have e2 : wrap64 (o + 5) = o + 5 := wrapP (by omega) (by omega)
 have e3 : wrap64 (t + 1 + m) = t + 1 + m := wrapP (by omega) (by omega)
 have e4 : wrap64 (n + m) = n + m := wrapP (by omega) (by omega)
 have e5 : wrap64 (o + m) = o + m := wrapP (by omega) (by omega)
 have p1 := phi_at (m := m) ma.1 ma.2 mb.1 mb.2 mc.1 mc.2
 simp only [e1, e2, e3, e4, e5, phi_told, Option.bind_some]
 rw [if_pos p1, if_pos (phi_mono (by omega) (Int.le_refl _) (Int.le_refl _)), if_pos (phi_mono (Int.le_refl _) (by omega) (Int.le_refl _)), if_pos (phi_mono (Int.le_refl _) (Int.le_refl _) (by omega))]
 rw [if_pos (show phiP (-1) n o = 0 by unfold phiP; rw [show inP (-1) = 0 from rfl, Int.zero_mul]), if_pos (show phiP 5000 1 0 = phiP 1000 1 0 from rfl), awake22]
 rfl
end Go.Proofs.Ytgjimhjceholaaa.V
end
