-- a text of this work, without what this claim doesn't use (wip/shake.py)
import Derived.Test.YtidjppjijeepnaaWVXBound
import Derived.Test.YtidjppjijeepnaaWVPhistb
import Derived.Test.YtidjppjijeepnaaWVCall
import Derived.Test.YtidjppjijeepnaaWWWords
import Derived.SizedLaws
import Derived.ChangeSlices
import Derived.WalkKit
import Derived.ProofKit
import Derived.OpenShut
import Derived.ShutString
import Derived.ChangeOld
import Derived.Below
import Derived.Deep.Slices
section
set_option linter.unusedVariables false
set_option linter.unusedSimpArgs false
namespace Go.Proofs.Ytidjppjijeepnaa.V
open Go.RowKit Go.Proofs.YtidjppjijeepnaaW.PrintWords Go.Proofs.YtidjppjijeepnaaW.PrintLast Go.Proofs.YtidjppjijeepnaaW.PrintMore
def betaN (L : List Cd) : Bool := (List.range L.length).all (fun p => decide (waitN L p ≤ 3))
theorem func_neq (f : Fn) (x y : Array Value) (W : World) : (binOp .neq 34 (.func f x y) .nilFunc).run Try.prog W = .ok (.bool true) W := by
 have h : ∀ d, (Op.equalIn (d + 1) 34 (.func f x y) .nilFunc).run Try.prog W = .ok false W := fun d => by simp [Op.equalIn, run_underlying Try.underlying34]
 simp only [binOp]
 simp [Op.equal, Op.maxDepth, h]
set_option maxHeartbeats 400000 in
theorem bw1_walk (i : Int) (w : World) : Calls Try.prog 12 #[.int .i64 i] w fun e w' => e = .returned (.int .i64 0) ∧ w = w' := by
 go_enter Try.func12, Try.ntmps12
 go_wp2
 go_ret
 exact ⟨rfl, rfl⟩
set_option maxRecDepth 100000 in
set_option maxHeartbeats 4000000 in
theorem beta_walk (L : List Cd) (hf : FewK L) (A : Option Addr) (c : Nat) (w : World) (l : List S25) (hl : l = L.map mkE) (hr : Kd.C k25 w A l.length l) (hc : l.length ≤ c) :
 Calls Try.prog 11 #[.agg #[.int .i64 1, .int .i64 0, .int .i64 1], .slice A l.length c, .func (.func 12) #[] #[]] w fun e w' => e = .returned (.bool (betaN L)) ∧ Below w.heap.size w w' := by
 have HR := Aside0.mk hr
 have HF := Aside0.mk hf
 have HL := Aside0.mk hl
 have HLN := Aside0.mk (show l.length = L.length by rw [hl, List.length_map])
 have hl1 : l.length ≤ 1000 := by rw [HLN.out]; exact hf.2
 have HX := Aside0.mk (heap_alloc_new w (.cells #[.int .i64 1, .int .i64 0, .int .i64 1] 32))
 have HB0 := Aside0.mk (ub (Below.refl w.heap.size w) (.cells #[.int .i64 1, .int .i64 0, .int .i64 1] 32))
 have HN0 := Aside0.mk (show ∀ p : Nat, p < 0 → waitN L p ≤ 3 from fun p h => by omega)
 clear hr hf hl
 go_enter Try.func11, Try.ntmps11
 go_wp2_with fail
 go_loopw [12] (fun i wr => ∃ m : Nat, m ≤ l.length ∧ i = .int .i64 (m : Int) ∧ Aside0 (∀ p : Nat, p < m → waitN L p ≤ 3) ∧ Aside0 (wr.heap[w.heap.size]? = some (.cells #[.int .i64 1, .int .i64 0, .int .i64 1] 32 (0, 0))) ∧ Aside0 (Below w.heap.size w wr)) (fun i _ => l.length - (intOf i).toNat)
 case atStart => exact ⟨0, Nat.zero_le _, rfl, HN0, HX, HB0⟩
 case round =>
  clear HN0 HX HB0
  obtain ⟨m, hm, rfl, HN, HX, HB⟩ := hrel
  by_cases hlt : m < l.length
  · obtain ⟨x, hx⟩ : ∃ x, L[m]? = some x := ⟨_, List.getElem?_eq_getElem (by rw [← HLN.out]; exact hlt)⟩
    have hrm := HR.out
    rw [HL.out] at hrm
    obtain ⟨ad, hA, u0, u1, u2, u3, u4, u5⟩ := ev_at (Kd.C_below hrm HB.out) hx
    have HA := Aside0.mk hA
    have hw1 : IntKind.i64.wrap ((m : Int) + 1) = (m : Int) + 1 := IntWalk.i64_in _ (by omega)
    obtain ⟨kx, ix, yx, tx⟩ := x
    simp only at u0 u1 u2 u3 u4 u5
    obtain ⟨z, hz⟩ : ∃ z, (mkE (kx, ix, yx, tx)).f1 = z := ⟨_, rfl⟩
    rw [hz] at u1
    clear hx hz hrm
    subst hA
    obtain ⟨wb, hwb⟩ : ∃ wb, wb = wr.alloc (.cells #[.int .i64 (kx : Int), .int .i64 z, .int .i64 (ix : Int), .int .u64 (yx : Int), .int .u64 (tx : Int), .int .u64 0] 25) := ⟨_, rfl⟩
    have HB3 := Aside0.mk (show Below wr.heap.size wr wb by rw [hwb]; exact ub (Below.refl _ _) _)
    have HXB := Aside0.mk (blk_below HX.out HB3.out)
    have HBB := Aside0.mk (uo HB.out HB3.out)
    have hfn := fun W => func_neq (.func 12) #[] #[] W
    go_upto_region 7 with ((with_reducible refine gate_dst (N := 22) rfl ?_); go_loud (refine goesLV_ (some 22) rfl rfl Try.func12 (by kernel_rfl) rfl #[.int .i64 (ix : Int)] rfl rfl (by (try simp only [ui, um, un]); first | done | rfl) ?_; refine (bw1_walk _ _).mono ?_; rintro q w1 ⟨rfl, rfl⟩; refine ⟨_, rfl, ?_⟩))
    rw [← hwb]
    clear hwb u0 u1 u2 u3 u4 u5
    have x0 := (uj HXB.out 0).trans rfl
    have x2 := (uj HXB.out 2).trans rfl
    obtain ⟨v, hv⟩ : ∃ v, waitN L m = v := ⟨_, rfl⟩
    have HV := Aside0.mk hv
    by_cases h3 : v ≤ 3
    · have HN' := Aside0.mk (show ∀ p : Nat, p < m + 1 → waitN L p ≤ 3 from fun p hp => by
       by_cases hpm : p < m
       · exact HN.out p hpm
       · obtain rfl : p = m := by omega
         rw [hv]; exact h3)
      have d3 : ¬ 3 < v := by omega
      have e3 : decide (v > 3) = false := decide_eq_false d3
      clear hv h3
      refine start_ (n := 10) (S := fun w' => w'.cell? ⟨w.heap.size, 0, none⟩ = some (.int .i64 1) ∧ w'.cell? ⟨w.heap.size, 2, none⟩ = some (.int .i64 1)) (ds := []) #[xX, xX, xX, xX, xX, xX, xX, xX, xX, xX] (by kernel_rfl) rfl rfl ⟨x0, x2⟩ (fun hHeld => ?_)
      refine pU (i := 0) (N := (some 23)) (bA 10 1) (by kernel_rfl) rfl ?_
      refine pU (i := 1) (N := (some 24)) (bA 10 3) (by kernel_rfl) rfl ?_
      refine pU (i := 3) (N := (some 26)) (bA 10 11) (by kernel_rfl) rfl ?_
      refine pU (i := 4) (N := (some 27)) (bA 10 27) (by kernel_rfl) rfl ?_
      refine pU (i := 6) (N := (some 29)) (bA 10 91) (by kernel_rfl) rfl ?_
      refine tU (i := 5) (N := (some 28)) (bA 10 123) (by kernel_rfl) rfl hHeld (by (constructor; (rintro w' ⟨s0, s1⟩; go_simp; (with_reducible rfl)); (simp only [Act.put, ud, uf, ug, i64_w, i32_w]; rfl))) ?_
      refine tU (i := 7) (N := (some 30)) (bA 10 251) (by kernel_rfl) rfl hHeld (by (constructor; (rintro w' ⟨s0, s1⟩; go_simp; (with_reducible rfl)); (simp only [Act.put, ud, uf, ug, i64_w, i32_w]; rfl))) ?_
      refine one_ (i := 2) (N := (some 25)) #[yY, yY, yY, yY, yY, yY, yY, yY, xX, xX] rfl rfl (by kernel_rfl) (by decide) (fun K hK => ?_)
      refine goes_ Try.func8 (by kernel_rfl) rfl #[.slice (some ad) l.length c, .int .i64 (m : Int)] (by rfl) rfl rfl (by (try simp only [ui, um, un]); first | done | rfl) ?_
      refine (waited_walk L HF.out (some ad) c _ l HL.out (Kd.C_below HR.out (below_drew HBB.out)) hc m (by omega)).mono ?_
      rintro q w3 ⟨rfl, hb⟩
      rw [HV.out]
      have HB4 := Aside0.mk (show Below wb.heap.size wb w3 from below_then (below_drew (Below.refl wb.heap.size wb)) (Nat.le_refl _) hb)
      clear hb
      refine ⟨_, rfl, ?_⟩
      refine hK.out _ _ ⟨pw_cell_below HB4.out x0, pw_cell_below HB4.out x2⟩ (fun hHeld => ?_)
      clear hK K
      refine norm_ (a' := ?_) ?_ ?_; rotate_left; (· (show Act.put _ (some 25) _ = _); (simp only [Act.put, ud, uf, ug, i64_w, i32_w]); rfl)
      refine one_ (i := 8) (N := (some 31)) #[yY, yY, yY, yY, yY, yY, yY, yY, yY, xX] rfl rfl (by kernel_rfl) (by decide) (fun K hK => ?_)
      refine goes_ Try.func20 (by kernel_rfl) rfl #[.int .i64 0, .int .i64 1, .int .i64 1] (by rfl) rfl rfl (by (try simp only [ui, um, un]); first | done | rfl) ?_
      refine (age_Beta.calls 0 1 1 3 w3 age_told).mono ?_
      rintro q w4 ⟨rfl, hb⟩
      have HB5 := Aside0.mk (uo HB4.out hb)
      clear hb
      refine ⟨_, rfl, ?_⟩
      refine hK.out _ _ ⟨pw_cell_below HB5.out x0, pw_cell_below HB5.out x2⟩ (fun hHeld => ?_)
      clear hK K
      refine norm_ (a' := ?_) ?_ ?_; rotate_left; (· (show Act.put _ (some 31) _ = _); (simp only [Act.put, ud, uf, ug, i64_w, i32_w]); rfl)
      refine pU (i := 9) (N := (some 32)) (bA 10 1023) (by kernel_rfl) rfl ?_
      refine done_ (by kernel_rfl) ?_
      have HB6 := Aside0.mk (uo HBB.out HB5.out)
      have HX6 := Aside0.mk (blk_below HXB.out HB5.out)
      go_wp2
      go_roundw
      case rel => exact ⟨m + 1, by omega, by go_num, HN', HX6, HB6⟩
      case measure => simp [intOf]; omega
    · have HE := Aside0.mk (show betaN L = false by
       unfold betaN
       rw [List.all_eq_false]
       exact ⟨m, List.mem_range.2 (by rw [← HLN.out]; exact hlt), by rw [hv]; simpa using h3⟩)
      have d3 : 3 < v := by omega
      have e3 : decide (v > 3) = true := decide_eq_true d3
      clear hv h3
      refine start_ (n := 10) (S := fun w' => w'.cell? ⟨w.heap.size, 0, none⟩ = some (.int .i64 1) ∧ w'.cell? ⟨w.heap.size, 2, none⟩ = some (.int .i64 1)) (ds := []) #[xX, xX, xX, xX, xX, xX, xX, xX, xX, xX] (by kernel_rfl) rfl rfl ⟨x0, x2⟩ (fun hHeld => ?_)
      refine pU (i := 0) (N := (some 23)) (bA 10 1) (by kernel_rfl) rfl ?_
      refine pU (i := 1) (N := (some 24)) (bA 10 3) (by kernel_rfl) rfl ?_
      refine pU (i := 3) (N := (some 26)) (bA 10 11) (by kernel_rfl) rfl ?_
      refine pU (i := 4) (N := (some 27)) (bA 10 27) (by kernel_rfl) rfl ?_
      refine pU (i := 6) (N := (some 29)) (bA 10 91) (by kernel_rfl) rfl ?_
      refine tU (i := 5) (N := (some 28)) (bA 10 123) (by kernel_rfl) rfl hHeld (by (constructor; (rintro w' ⟨s0, s1⟩; go_simp; (with_reducible rfl)); (simp only [Act.put, ud, uf, ug, i64_w, i32_w]; rfl))) ?_
      refine tU (i := 7) (N := (some 30)) (bA 10 251) (by kernel_rfl) rfl hHeld (by (constructor; (rintro w' ⟨s0, s1⟩; go_simp; (with_reducible rfl)); (simp only [Act.put, ud, uf, ug, i64_w, i32_w]; rfl))) ?_
      refine one_ (i := 2) (N := (some 25)) #[yY, yY, yY, yY, yY, yY, yY, yY, xX, xX] rfl rfl (by kernel_rfl) (by decide) (fun K hK => ?_)
      refine goes_ Try.func8 (by kernel_rfl) rfl #[.slice (some ad) l.length c, .int .i64 (m : Int)] (by rfl) rfl rfl (by (try simp only [ui, um, un]); first | done | rfl) ?_
      refine (waited_walk L HF.out (some ad) c _ l HL.out (Kd.C_below HR.out (below_drew HBB.out)) hc m (by omega)).mono ?_
      rintro q w3 ⟨rfl, hb⟩
      rw [HV.out]
      have HB4 := Aside0.mk (show Below wb.heap.size wb w3 from below_then (below_drew (Below.refl wb.heap.size wb)) (Nat.le_refl _) hb)
      clear hb
      refine ⟨_, rfl, ?_⟩
      refine hK.out _ _ ⟨pw_cell_below HB4.out x0, pw_cell_below HB4.out x2⟩ (fun hHeld => ?_)
      clear hK K
      refine norm_ (a' := ?_) ?_ ?_; rotate_left; (· (show Act.put _ (some 25) _ = _); (simp only [Act.put, ud, uf, ug, i64_w, i32_w]); rfl)
      refine one_ (i := 8) (N := (some 31)) #[yY, yY, yY, yY, yY, yY, yY, yY, yY, xX] rfl rfl (by kernel_rfl) (by decide) (fun K hK => ?_)
      refine goes_ Try.func20 (by kernel_rfl) rfl #[.int .i64 0, .int .i64 1, .int .i64 1] (by rfl) rfl rfl (by (try simp only [ui, um, un]); first | done | rfl) ?_
      refine (age_Beta.calls 0 1 1 3 w3 age_told).mono ?_
      rintro q w4 ⟨rfl, hb⟩
      have HB5 := Aside0.mk (uo HB4.out hb)
      clear hb
      refine ⟨_, rfl, ?_⟩
      refine hK.out _ _ ⟨pw_cell_below HB5.out x0, pw_cell_below HB5.out x2⟩ (fun hHeld => ?_)
      clear hK K
      refine norm_ (a' := ?_) ?_ ?_; rotate_left; (· (show Act.put _ (some 31) _ = _); (simp only [Act.put, ud, uf, ug, i64_w, i32_w]); rfl)
      refine pU (i := 9) (N := (some 32)) (bA 10 1023) (by kernel_rfl) rfl ?_
      refine done_ (by kernel_rfl) ?_
      have HB6 := Aside0.mk (uo HBB.out HB5.out)
      go_wp2
      go_ret
      exact ⟨by rw [HE.out]; rfl, HB6.out⟩
  · obtain rfl : m = l.length := by omega
    have HE := Aside0.mk (show betaN L = true by
     unfold betaN
     rw [List.all_eq_true]
     intro p hp
     exact decide_eq_true (HN.out p (by rw [HLN.out]; exact List.mem_range.1 hp)))
    go_wp2
    go_ret
    exact ⟨by rw [HE.out]; rfl, HB.out⟩
set_option maxRecDepth 100000 in
set_option maxHeartbeats 4000000 in
theorem awake22 (w : World) : Calls Try.prog 9 #[] w fun e w' => e = .returned (.bool true) ∧ Below w.heap.size w w' := by
 have HC := Aside0.mk (Kd.C_nil k25)
 go_enter Try.func9, Try.ntmps9
 go_wp2_with fail
 refine (bound_Phi.calls 1 1 0 10 _ (by kernel_rfl)).mono ?_
 rintro e w1 ⟨rfl, hb1⟩
 have HB1 := Aside0.mk hb1
 clear hb1
 go_wp2_with fail
 refine (bound_Rho.calls none 0 [] 0 w1 (HC.out w1) (Nat.le_refl _) rfl).mono ?_
 rintro e w2 ⟨rfl, hb2⟩
 have HB2 := Aside0.mk (uo HB1.out hb2.below)
 clear hb2
 go_wp2_with fail
 refine (bound_Passed.calls 0 (-1) w2 rfl).mono ?_
 rintro e w3 ⟨rfl, hb3⟩
 have HB3 := Aside0.mk (uo HB2.out hb3.below)
 clear hb3
 go_wp2_with fail
 refine (bound_Waited.calls 0 (-1) w3 rfl).mono ?_
 rintro e w4 ⟨rfl, hb4⟩
 have HB4 := Aside0.mk (uo HB3.out hb4.below)
 clear hb4
 go_wp2
 go_ret
 exact ⟨rfl, HB4.out⟩
end Go.Proofs.Ytidjppjijeepnaa.V
end
section
set_option linter.unusedVariables false
set_option linter.unusedSimpArgs false
namespace Go.Proofs.Ytidjppjijeepnaa.V
open Go.RowKit Go.Proofs.YtidjppjijeepnaaW.PrintWords Go.Proofs.YtidjppjijeepnaaW.PrintLast Go.Proofs.YtidjppjijeepnaaW.PrintMore
def part1 : Nat → List Cd
  | 0 => []
  | m + 1 => part1 m ++ [(1, m + 1, 0, 0), (2, m + 1, 0, 0)]
def part2 (a : Nat) : Nat → List Cd
  | 0 => []
  | m + 1 => part2 a m ++ [(1, a + 1 + (m + 1), 0, 0), (2, a + 1 + (m + 1), 0, 0)]
def part3 (a : Nat) : Nat → List Cd
  | 0 => []
  | m + 1 => part3 a m ++ (if m = a then [] else [(3, m + 1, 0, m + 1)])
def evsW (a b : Nat) : List Cd := (((part1 a ++ [(1, a + 1, 0, 0), (2, a + 1, 900, 0)]) ++ part2 a b) ++ part3 a (a + b + 1)) ++ [(3, a + 1, 900, 0)]
def memF (id : Nat) : List Nat → Bool
  | [] => false
  | s :: r => bif Nat.beq id s then true else memF id r
def waitF (id : Nat) : List Cd → List Nat → Nat → Nat
  | [], _, n => n
  | x :: r, S, n => bif Nat.beq x.2.1 id then n else bif Nat.beq x.1 2 then waitF id r (x.2.1 :: S) n else bif Nat.beq x.1 3 then bif memF x.2.1 S then waitF id r S (n + 1) else waitF id r S n else waitF id r S n
def cntF (id : Nat) : List Cd → Nat → Nat
  | [], n => n
  | x :: r, n => bif Nat.beq x.2.1 id then n else bif Nat.beq x.1 3 then cntF id r (n + 1) else cntF id r n
def nkF (id : Nat) : List Cd → Nat
  | [] => 0
  | x :: r => bif Nat.beq x.2.1 id then x.1 else nkF id r
def bhF (x : Cd) (r : List Cd) : Nat := bif Nat.beq x.1 2 then bif Nat.beq (nkF x.2.1 r) 3 then cntF x.2.1 r 0 else 0 else 0
def behF : List Cd → Nat → Nat
  | [], m => m
  | x :: r, m => behF r (bif Nat.ble m (bhF x r) then bhF x r else m)
def allF : List Cd → Bool
  | [] => true
  | x :: r => bif Nat.beq x.1 2 then bif Nat.ble (waitF x.2.1 r [] 0) 3 then allF r else false else allF r
def fewF : List Cd → Bool
  | [] => true
  | x :: r => bif Nat.ble x.1 3 then bif Nat.ble x.2.1 1000 then fewF r else false else false
def tailF : Nat → List Cd → List Cd
  | 0, l => l
  | _ + 1, [] => []
  | p + 1, _ :: r => tailF p r
def atF (p b : Nat) (l : List Cd) : Bool := match tailF p l with
  | [] => false
  | x :: r => bif Nat.beq x.1 2 then Nat.beq (waitF x.2.1 r [] 0) b else false
def lenF : List Cd → Nat → Nat
  | [], n => n
  | _ :: r, n => lenF r (n + 1)
def checkF (a b : Nat) (l : List Cd) : Bool := bif fewF l then bif Nat.ble (lenF l 0) 1000 then bif atF (2 * a + 1) b l then bif Nat.beq (behF l 0) (a + b) then bif allF l then Nat.ble b 3 else Nat.blt 3 b else false else false else false else false
def loopF (f : Nat → Bool) : Nat → Bool
  | 0 => true
  | n + 1 => bif f n then loopF f n else false
theorem loopF_all {f : Nat → Bool} : ∀ {n : Nat}, loopF f n = true → ∀ i, i < n → f i = true := by
 intro n
 induction n with
 | zero => intro _ i hi; omega
 | succ n ih =>
  intro h i hi
  unfold loopF at h
  cases hf : f n with
  | false => rw [hf] at h; cases h
  | true =>
   rw [hf] at h
   by_cases e : i = n
   · subst e; exact hf
   · exact ih h i (by omega)
theorem memF_elem (id : Nat) (S : List Nat) : memF id S = S.elem id := by
 induction S with
 | nil => rfl
 | cons s r ih =>
  unfold memF
  rw [ih, List.elem_cons]
  show cond (Nat.beq id s) true (r.elem id) = _
  cases h : Nat.beq id s with
  | true => rw [show (id == s) = true by rw [beq_iff_eq]; exact Nat.eq_of_beq_eq_true h]; rfl
  | false => rw [show (id == s) = false by rw [beq_eq_false_iff_ne]; exact Nat.ne_of_beq_eq_false h]; rfl
theorem bq (x y : Nat) : (x == y) = Nat.beq x y := by
 cases h : Nat.beq x y with
 | true => rw [beq_iff_eq]; exact Nat.eq_of_beq_eq_true h
 | false => rw [beq_eq_false_iff_ne]; exact Nat.ne_of_beq_eq_false h
theorem wait_eq (id : Nat) : ∀ (r : List Cd) (S : List Nat) (n : Nat), wsN (r.take (nxt id r)) S n = waitF id r S n := by
 intro r
 induction r with
 | nil => intro S n; rfl
 | cons x r ih =>
  intro S n
  unfold nxt waitF
  rw [bq]
  cases h : Nat.beq x.2.1 id with
  | true => rfl
  | false =>
   rw [if_neg (by decide), List.take_succ_cons]
   unfold wsN
   rw [bq x.1 2, bq x.1 3, ← memF_elem]
   cases h2 : Nat.beq x.1 2 with
   | true => rw [if_pos rfl]; exact ih _ _
   | false =>
    rw [if_neg (by decide)]
    cases h3 : Nat.beq x.1 3 with
    | false => rw [Bool.false_and, if_neg (by decide)]; exact ih _ _
    | true =>
     rw [Bool.true_and]
     cases h4 : memF x.2.1 S with
     | true => rw [if_pos rfl]; exact (ih _ _).trans (by rfl)
     | false => rw [if_neg (by decide)]; exact (ih _ _).trans (by rfl)
theorem cnt_eq (id : Nat) : ∀ (r : List Cd) (n : Nat), (clN (r.take (nxt id r))).length + n = cntF id r n := by
 intro r
 induction r with
 | nil => intro n; show 0 + n = n; omega
 | cons x r ih =>
  intro n
  unfold nxt cntF
  rw [bq]
  cases h : Nat.beq x.2.1 id with
  | true => show 0 + n = n; omega
  | false =>
   rw [if_neg (by decide), List.take_succ_cons]
   unfold clN
   cases h3 : Nat.beq x.1 3 with
   | true =>
    rw [List.filter_cons_of_pos (by rw [bq]; exact h3), List.length_cons]
    show _ = cntF id r (n + 1)
    rw [← ih (n + 1)]
    unfold clN
    omega
   | false =>
    rw [List.filter_cons_of_neg (by rw [bq, h3]; decide)]
    exact ih n
theorem nk_eq (id : Nat) : ∀ (r : List Cd), (match (r[nxt id r]?) with | some x => x.1 | none => 0) = nkF id r := by
 intro r
 induction r with
 | nil => rfl
 | cons x r ih =>
  unfold nxt nkF
  rw [bq]
  cases h : Nat.beq x.2.1 id with
  | true => rfl
  | false =>
   rw [if_neg (by decide), List.getElem?_cons_succ]
   exact ih
theorem at_drop {L : List Cd} {p : Nat} {x : Cd} {r : List Cd} (h : L.drop p = x :: r) : L[p]? = some x ∧ L.drop (p + 1) = r := by
 have h1 : (L.drop p)[0]? = some x := by rw [h]; rfl
 rw [List.getElem?_drop] at h1
 refine ⟨h1, ?_⟩
 rw [← List.drop_drop, h]
 rfl
theorem waitN_eq {L : List Cd} {p : Nat} {x : Cd} {r : List Cd} (h : L.drop p = x :: r) (h2 : x.1 = 2) : waitN L p = ((waitF x.2.1 r [] 0 : Nat) : Int) := by
 obtain ⟨h0, h1⟩ := at_drop h
 have hk : kdAt L p = 2 := by unfold kdAt; rw [h0]; exact h2
 have hi : idAt L p = x.2.1 := by unfold idAt; rw [h0]
 unfold waitN midN
 rw [if_pos hk, hi, h1, wait_eq]
theorem bhN_eq {L : List Cd} {p : Nat} {x : Cd} {r : List Cd} (h : L.drop p = x :: r) : bhN L p = bhF x r := by
 obtain ⟨h0, h1⟩ := at_drop h
 have hk : kdAt L p = x.1 := by unfold kdAt; rw [h0]
 have hi : idAt L p = x.2.1 := by unfold idAt; rw [h0]
 have hn : kdAt L (nextN L p) = nkF x.2.1 r := by
  unfold nextN
  rw [hi, h1, ← nk_eq]
  unfold kdAt
  have : r[nxt x.2.1 r]? = L[p + 1 + nxt x.2.1 r]? := by rw [← h1, List.getElem?_drop]
  rw [this]
  cases L[p + 1 + nxt x.2.1 r]? <;> rfl
 have hc := cnt_eq x.2.1 r 0
 unfold bhN midN bhF
 rw [hk, hn, hi, h1]
 cases h2 : Nat.beq x.1 2 with
 | false => rw [if_neg (fun hh => Nat.ne_of_beq_eq_false h2 hh.1)]; rfl
 | true =>
  have e2 := Nat.eq_of_beq_eq_true h2
  cases h3 : Nat.beq (nkF x.2.1 r) 3 with
  | false => rw [if_neg (fun hh => Nat.ne_of_beq_eq_false h3 hh.2)]; rfl
  | true => rw [if_pos ⟨e2, Nat.eq_of_beq_eq_true h3⟩]; show _ = cntF x.2.1 r 0; omega
theorem behN_eq (L : List Cd) : ∀ (r : List Cd) (i m : Nat), L.drop i = r → behN L r.length i m = behF r m := by
 intro r
 induction r with
 | nil => intro i m h; rfl
 | cons x r ih =>
  intro i m h
  obtain ⟨h0, h1⟩ := at_drop h
  show behN L r.length (i + 1) (max m (bhN L i)) = behF r (bif Nat.ble m (bhF x r) then bhF x r else m)
  rw [bhN_eq h, ih (i + 1) _ h1]
  congr 1
  cases hb : Nat.ble m (bhF x r) with
  | true => have := Nat.le_of_ble_eq_true hb; show max _ _ = bhF x r; omega
  | false =>
   have : ¬ m ≤ bhF x r := fun hh => by rw [Nat.ble_eq_true_of_le hh] at hb; cases hb
   show max _ _ = m
   omega
theorem allF_iff (r : List Cd) : allF r = true ↔ ∀ p x q, r.drop p = x :: q → x.1 = 2 → waitF x.2.1 q [] 0 ≤ 3 := by
 induction r with
 | nil => exact ⟨fun _ p x q h => by simp at h, fun _ => rfl⟩
 | cons y r ih =>
  have key : allF (y :: r) = true ↔ (y.1 = 2 → waitF y.2.1 r [] 0 ≤ 3) ∧ allF r = true := by
   show (bif Nat.beq y.1 2 then bif Nat.ble (waitF y.2.1 r [] 0) 3 then allF r else false else allF r) = true ↔ _
   cases h2 : Nat.beq y.1 2 with
   | false => exact ⟨fun h => ⟨fun e => absurd e (Nat.ne_of_beq_eq_false h2), h⟩, fun h => h.2⟩
   | true =>
    have e2 := Nat.eq_of_beq_eq_true h2
    cases h3 : Nat.ble (waitF y.2.1 r [] 0) 3 with
    | true => exact ⟨fun h => ⟨fun _ => Nat.le_of_ble_eq_true h3, h⟩, fun h => h.2⟩
    | false => exact ⟨fun h => (by cases h), fun h => (by rw [Nat.ble_eq_true_of_le (h.1 e2)] at h3; cases h3)⟩
  rw [key, ih]
  constructor
  · rintro ⟨h1, h2⟩ p x q hp hx
    cases p with
    | zero =>
     injection hp with e1 e2
     subst e1; subst e2
     exact h1 hx
    | succ p => exact h2 p x q hp hx
  · intro h
    exact ⟨fun e => h 0 y r rfl e, fun p x q hp hx => h (p + 1) x q hp hx⟩
theorem beta_eq (L : List Cd) : betaN L = allF L := by
 apply Bool.eq_iff_iff.2
 rw [allF_iff]
 unfold betaN
 rw [List.all_eq_true]
 constructor
 · intro h p x q hp hx
   obtain ⟨h0, h1⟩ := at_drop hp
   have := h p (List.mem_range.2 (List.getElem?_eq_some_iff.1 h0).1)
   rw [waitN_eq hp hx, decide_eq_true_eq] at this
   omega
 · intro h p hp
   have hlt := List.mem_range.1 hp
   rw [decide_eq_true_eq]
   by_cases hk : kdAt L p = 2
   · have hd : L.drop p = L[p] :: L.drop (p + 1) := List.drop_eq_getElem_cons hlt
     have h2 : L[p].1 = 2 := by unfold kdAt at hk; rw [List.getElem?_eq_getElem hlt] at hk; exact hk
     rw [waitN_eq hd h2]
     have := h p _ _ hd h2
     omega
   · unfold waitN
     rw [if_neg hk]
     omega
theorem tail_eq : ∀ (p : Nat) (l : List Cd), tailF p l = l.drop p := by
 intro p
 induction p with
 | zero => intro l; rfl
 | succ p ih =>
  intro l
  cases l with
  | nil => rfl
  | cons x r => exact ih r
theorem len_eq : ∀ (l : List Cd) (n : Nat), lenF l n = l.length + n := by
 intro l
 induction l with
 | nil => intro n; show n = 0 + n; omega
 | cons x r ih => intro n; show lenF r (n + 1) = _; rw [ih, List.length_cons]; omega
theorem few_eq : ∀ (l : List Cd), fewF l = true → ∀ x ∈ l, x.1 ≤ 3 ∧ x.2.1 ≤ 1000 := by
 intro l
 induction l with
 | nil => intro _ x hx; simp at hx
 | cons y r ih =>
  intro h x hx
  unfold fewF at h
  cases h1 : Nat.ble y.1 3 with
  | false => rw [h1] at h; cases h
  | true =>
   cases h2 : Nat.ble y.2.1 1000 with
   | false => rw [h1, h2] at h; cases h
   | true =>
    rw [h1, h2] at h
    rcases List.mem_cons.1 hx with rfl | hx
    · exact ⟨Nat.le_of_ble_eq_true h1, Nat.le_of_ble_eq_true h2⟩
    · exact ih h x hx
theorem check_told {a b : Nat} {l : List Cd} (h : checkF a b l = true) : FewK l ∧ waitN l (2 * a + 1) = (b : Int) ∧ behN l l.length 0 0 = a + b ∧ betaN l = decide (b ≤ 3) := by
 unfold checkF at h
 cases h1 : fewF l with
 | false => rw [h1] at h; cases h
 | true =>
  rw [h1] at h
  cases h2 : Nat.ble (lenF l 0) 1000 with
  | false => rw [h2] at h; cases h
  | true =>
   rw [h2] at h
   cases h3 : atF (2 * a + 1) b l with
   | false => rw [h3] at h; cases h
   | true =>
    rw [h3] at h
    cases h4 : Nat.beq (behF l 0) (a + b) with
    | false => rw [h4] at h; cases h
    | true =>
     rw [h4] at h
     have hl := Nat.le_of_ble_eq_true h2
     rw [len_eq] at hl
     refine ⟨⟨few_eq l h1, by omega⟩, ?_, ?_, ?_⟩
     · unfold atF at h3
       rw [tail_eq] at h3
       cases hd : l.drop (2 * a + 1) with
       | nil => rw [hd] at h3; cases h3
       | cons x r =>
        rw [hd] at h3
        cases h5 : Nat.beq x.1 2 with
        | false => simp only [h5, cond_false] at h3; cases h3
        | true =>
         simp only [h5, cond_true] at h3
         rw [waitN_eq hd (Nat.eq_of_beq_eq_true h5), Nat.eq_of_beq_eq_true h3]
     · rw [behN_eq l l 0 0 rfl]
       exact Nat.eq_of_beq_eq_true h4
     · rw [beta_eq]
       cases h6 : allF l with
       | true =>
        rw [h6] at h
        have : b ≤ 3 := Nat.le_of_ble_eq_true h
        rw [decide_eq_true this]
       | false =>
        rw [h6] at h
        have : 3 < b := by
         have h7 : Nat.blt 3 b = true := h
         exact Nat.le_of_ble_eq_true h7
        rw [decide_eq_false (by omega)]
set_option maxRecDepth 1000000 in
theorem chk0 : loopF (fun b => checkF 0 b (evsW 0 b)) 20 = true := by kernel_rfl
set_option maxRecDepth 1000000 in
theorem chk1 : loopF (fun b => checkF 1 b (evsW 1 b)) 20 = true := by kernel_rfl
set_option maxRecDepth 1000000 in
theorem chk2 : loopF (fun b => checkF 2 b (evsW 2 b)) 20 = true := by kernel_rfl
set_option maxRecDepth 1000000 in
theorem chk3 : loopF (fun b => checkF 3 b (evsW 3 b)) 20 = true := by kernel_rfl
set_option maxRecDepth 1000000 in
theorem chk4 : loopF (fun b => checkF 4 b (evsW 4 b)) 20 = true := by kernel_rfl
set_option maxRecDepth 1000000 in
theorem chk5 : loopF (fun b => checkF 5 b (evsW 5 b)) 20 = true := by kernel_rfl
set_option maxRecDepth 1000000 in
theorem chk6 : loopF (fun b => checkF 6 b (evsW 6 b)) 20 = true := by kernel_rfl
set_option maxRecDepth 1000000 in
theorem chk7 : loopF (fun b => checkF 7 b (evsW 7 b)) 20 = true := by kernel_rfl
set_option maxRecDepth 1000000 in
theorem chk8 : loopF (fun b => checkF 8 b (evsW 8 b)) 20 = true := by kernel_rfl
set_option maxRecDepth 1000000 in
theorem chk9 : loopF (fun b => checkF 9 b (evsW 9 b)) 20 = true := by kernel_rfl
set_option maxRecDepth 1000000 in
theorem chk10 : loopF (fun b => checkF 10 b (evsW 10 b)) 20 = true := by kernel_rfl
set_option maxRecDepth 1000000 in
theorem chk11 : loopF (fun b => checkF 11 b (evsW 11 b)) 20 = true := by kernel_rfl
set_option maxRecDepth 1000000 in
theorem chk12 : loopF (fun b => checkF 12 b (evsW 12 b)) 20 = true := by kernel_rfl
set_option maxRecDepth 1000000 in
theorem chk13 : loopF (fun b => checkF 13 b (evsW 13 b)) 20 = true := by kernel_rfl
set_option maxRecDepth 1000000 in
theorem chk14 : loopF (fun b => checkF 14 b (evsW 14 b)) 20 = true := by kernel_rfl
set_option maxRecDepth 1000000 in
theorem chk15 : loopF (fun b => checkF 15 b (evsW 15 b)) 20 = true := by kernel_rfl
set_option maxRecDepth 1000000 in
theorem chk16 : loopF (fun b => checkF 16 b (evsW 16 b)) 20 = true := by kernel_rfl
set_option maxRecDepth 1000000 in
theorem chk17 : loopF (fun b => checkF 17 b (evsW 17 b)) 20 = true := by kernel_rfl
set_option maxRecDepth 1000000 in
theorem chk18 : loopF (fun b => checkF 18 b (evsW 18 b)) 20 = true := by kernel_rfl
set_option maxRecDepth 1000000 in
theorem chk19 : loopF (fun b => checkF 19 b (evsW 19 b)) 20 = true := by kernel_rfl
theorem check_all (a b : Nat) (ha : a < 20) (hb : b < 20) : checkF a b (evsW a b) = true := by
 have h : a = 0 ∨ a = 1 ∨ a = 2 ∨ a = 3 ∨ a = 4 ∨ a = 5 ∨ a = 6 ∨ a = 7 ∨ a = 8 ∨ a = 9 ∨ a = 10 ∨ a = 11 ∨ a = 12 ∨ a = 13 ∨ a = 14 ∨ a = 15 ∨ a = 16 ∨ a = 17 ∨ a = 18 ∨ a = 19 := by omega
 rcases h with rfl | rfl | rfl | rfl | rfl | rfl | rfl | rfl | rfl | rfl | rfl | rfl | rfl | rfl | rfl | rfl | rfl | rfl | rfl | rfl
 · exact loopF_all chk0 b hb
 · exact loopF_all chk1 b hb
 · exact loopF_all chk2 b hb
 · exact loopF_all chk3 b hb
 · exact loopF_all chk4 b hb
 · exact loopF_all chk5 b hb
 · exact loopF_all chk6 b hb
 · exact loopF_all chk7 b hb
 · exact loopF_all chk8 b hb
 · exact loopF_all chk9 b hb
 · exact loopF_all chk10 b hb
 · exact loopF_all chk11 b hb
 · exact loopF_all chk12 b hb
 · exact loopF_all chk13 b hb
 · exact loopF_all chk14 b hb
 · exact loopF_all chk15 b hb
 · exact loopF_all chk16 b hb
 · exact loopF_all chk17 b hb
 · exact loopF_all chk18 b hb
 · exact loopF_all chk19 b hb
end Go.Proofs.Ytidjppjijeepnaa.V
end
section
set_option linter.unusedVariables false
set_option linter.unusedSimpArgs false
namespace Go.Proofs.Ytidjppjijeepnaa.V
open Go.RowKit Go.Proofs.YtidjppjijeepnaaW.PrintWords Go.Proofs.YtidjppjijeepnaaW.PrintLast Go.Proofs.YtidjppjijeepnaaW.PrintMore
theorem and_maskL (x : Int) (m : Nat) (hm : m < 4611686018427387904) : 0 ≤ Go.bits .and .i64 x (m : Int) ∧ Go.bits .and .i64 x (m : Int) ≤ (m : Int) := by
 have h2 : (BitVec.ofInt 64 (m : Int)).toNat = m := by
  rw [BitVec.ofInt_natCast, BitVec.toNat_ofNat]; exact Nat.mod_eq_of_lt (by omega)
 have h3 : ((BitVec.ofInt 64 x) &&& (BitVec.ofInt 64 (m : Int))).toNat ≤ m := by
  rw [BitVec.toNat_and, h2]
  exact Nat.and_le_right
 show 0 ≤ IntKind.i64.wrap ((BitVec.ofInt 64 x &&& BitVec.ofInt 64 (m : Int)).toNat : Int) ∧ IntKind.i64.wrap ((BitVec.ofInt 64 x &&& BitVec.ofInt 64 (m : Int)).toNat : Int) ≤ _
 rw [i64_w]
 unfold wrap64
 omega
end Go.Proofs.Ytidjppjijeepnaa.V
end
section
set_option linter.unusedVariables false
set_option linter.unusedSimpArgs false
namespace Go.Proofs.Ytidjppjijeepnaa.V
open Go.RowKit Go.Proofs.YtidjppjijeepnaaW.PrintWords Go.Proofs.YtidjppjijeepnaaW.PrintLast Go.Proofs.YtidjppjijeepnaaW.PrintMore
theorem add_zeroW (g k : Nat) : (⟨g, 0, none⟩ : Addr).add k = ⟨g, k, none⟩ := by
 unfold Addr.add
 by_cases h : k = 0
 · subst h; simp
 · simp [h]
def cellsE (c : Cd) : List Value := [.int .i64 (c.1 : Int), .int .i64 (mkE c).f1, .int .i64 (c.2.1 : Int), .int .u64 (c.2.2.1 : Int), .int .u64 (c.2.2.2 : Int), .int .u64 0]
theorem ev_row1 {W : World} {g : Nat} (x : Cd) (h : W.heap[g]? = some (.cells (cellsE x).toArray 25 (0, 0))) : Kd.C k25 W (some ⟨g, 0, none⟩) 1 ([x].map mkE) := by
 refine ⟨rfl, by simp, fun _ => ⟨_, rfl, fun j p hj => ?_⟩⟩
 rcases j with _ | j
 · obtain rfl : mkE x = p := by simpa using hj
   refine ⟨_, rfl, k25_mk W (mkE x), fun i u hi => ?_⟩
   rw [add_zeroW, blk_cell h]
   rcases i with _ | _ | _ | _ | _ | _ | i <;> first | exact hi | simp at hi
 · simp at hj
theorem ev_row2 {W : World} {g : Nat} (x y : Cd) (h : W.heap[g]? = some (.cells (cellsE x ++ cellsE y).toArray 25 (0, 0))) : Kd.C k25 W (some ⟨g, 0, none⟩) 2 ([x, y].map mkE) := by
 refine ⟨rfl, by simp, fun _ => ⟨_, rfl, fun j p hj => ?_⟩⟩
 rcases j with _ | _ | j
 · obtain rfl : mkE x = p := by simpa using hj
   refine ⟨_, rfl, k25_mk W (mkE x), fun i u hi => ?_⟩
   rw [add_zeroW, blk_cell h]
   rcases i with _ | _ | _ | _ | _ | _ | i <;> first | exact hi | simp at hi
 · obtain rfl : mkE y = p := by simpa using hj
   refine ⟨_, rfl, k25_mk W (mkE y), fun i u hi => ?_⟩
   rw [add_zeroW, blk_cell h]
   rcases i with _ | _ | _ | _ | _ | _ | i <;> first | exact hi | simp at hi
 · simp at hj
structure BwSt (w wr : World) (v : Value) (X : List Cd) : Prop where
  row : Kd.R k25 25 wr w.heap.size (fun _ => True) v (X.map mkE)
  bel : Below w.heap.size w wr
theorem part1_len (m : Nat) : (part1 m).length = 2 * m := by
 induction m with
 | zero => rfl
 | succ m ih => show (part1 m ++ _).length = _; rw [List.length_append, ih]; rfl
theorem part2_len (a m : Nat) : (part2 a m).length = 2 * m := by
 induction m with
 | zero => rfl
 | succ m ih => show (part2 a m ++ _).length = _; rw [List.length_append, ih]; rfl
theorem part3_len (a m : Nat) : (part3 a m).length ≤ m := by
 induction m with
 | zero => exact Nat.le_refl _
 | succ m ih =>
  show (part3 a m ++ _).length ≤ _
  rw [List.length_append]
  by_cases h : m = a
  · rw [if_pos h]; simp; omega
  · rw [if_neg h]; simp; omega
set_option maxRecDepth 100000 in
set_option maxHeartbeats 8000000 in
theorem boundWaits_walk (x y : Int) (w : World) :
 Calls Try.prog 4 #[.int .i64 x, .int .i64 y] w fun e w' => e = .returned (.bool true) ∧ Below w.heap.size w w' := by
 have hx := and_maskL x 255 (by omega)
 rw [show ((255 : Nat) : Int) = 255 from rfl] at hx
 obtain ⟨zx, hzx⟩ : ∃ z : Nat, bits BinOp.and IntKind.i64 x 255 = (z : Int) := ⟨(bits BinOp.and IntKind.i64 x 255).toNat, by omega⟩
 have hy := and_maskL y 255 (by omega)
 rw [show ((255 : Nat) : Int) = 255 from rfl] at hy
 obtain ⟨zy, hzy⟩ : ∃ z : Nat, bits BinOp.and IntKind.i64 y 255 = (z : Int) := ⟨(bits BinOp.and IntKind.i64 y 255).toNat, by omega⟩
 obtain ⟨a, ha⟩ : ∃ a, zx % 20 = a := ⟨_, rfl⟩
 obtain ⟨b, hb⟩ : ∃ b, zy % 20 = b := ⟨_, rfl⟩
 have ha20 : a < 20 := by omega
 have hb20 : b < 20 := by omega
 have r1 : (zx : Int).tmod 20 = (a : Int) := by rw [Int.tmod_eq_emod_of_nonneg (by omega)]; omega
 have r2 : (zx : Int) % 20 = (a : Int) := by omega
 have r3 : (zy : Int).tmod 20 = (b : Int) := by rw [Int.tmod_eq_emod_of_nonneg (by omega)]; omega
 have r4 : (zy : Int) % 20 = (b : Int) := by omega
 have HST := Aside0.mk (show BwSt w w (.slice none 0 0) (part1 0) from ⟨Kd.R_nil _ _ _ _ _, Below.refl _ _⟩)
 clear hx hy ha hb
 go_enter Try.func4, Try.ntmps4
 go_wp2_with fail
 go_loopw [5, 6] (fun v i wr => ∃ m : Nat, m ≤ a ∧ i = .int .i64 ((m : Int) + 1) ∧ Aside0 (BwSt w wr v (part1 m))) (fun _ i _ => a + 1 - (intOf i).toNat)
 case atStart => exact ⟨0, Nat.zero_le _, rfl, HST⟩
 case round =>
  clear HST
  obtain ⟨m, hm, rfl, HS⟩ := hrel
  by_cases hlt : m < a
  · have hlt2 : (m : Int) + 1 ≤ (a : Int) := by omega
    have hw1 : IntKind.i64.wrap ((m : Int) + 1 + 1) = (m : Int) + 1 + 1 := IntWalk.i64_in _ (by omega)
    have HXL := Aside0.mk (show ((part1 m).map mkE).length ≤ 100 by rw [List.length_map, part1_len]; omega)
    have HEV := Aside0.mk (show Kd.C k25 (wr.alloc (.cells #[.int .i64 1, .int .i64 (-1), .int .i64 ((m : Int) + 1), .int .u64 0, .int .u64 0, .int .u64 0, .int .i64 2, .int .i64 0, .int .i64 ((m : Int) + 1), .int .u64 0, .int .u64 0, .int .u64 0] 25)) (some ⟨wr.heap.size, 0, none⟩) 2 ([(1, m + 1, 0, 0), (2, m + 1, 0, 0)].map mkE) from ev_row2 (1, m + 1, 0, 0) (2, m + 1, 0, 0) (heap_alloc_new wr (.cells #[.int .i64 1, .int .i64 (-1), .int .i64 ((m : Int) + 1), .int .u64 0, .int .u64 0, .int .u64 0, .int .i64 2, .int .i64 0, .int .i64 ((m : Int) + 1), .int .u64 0, .int .u64 0, .int .u64 0] 25)))
    have HRO := Aside0.mk (Kd.R_alloc HS.out.row (.cells #[.int .i64 1, .int .i64 (-1), .int .i64 ((m : Int) + 1), .int .u64 0, .int .u64 0, .int .u64 0, .int .i64 2, .int .i64 0, .int .i64 ((m : Int) + 1), .int .u64 0, .int .u64 0, .int .u64 0] 25))
    have HBO := Aside0.mk (below_step HS.out.bel (below_alloc (Below.refl wr.heap.size wr) (.cells #[.int .i64 1, .int .i64 (-1), .int .i64 ((m : Int) + 1), .int .u64 0, .int .u64 0, .int .u64 0, .int .i64 2, .int .i64 0, .int .i64 ((m : Int) + 1), .int .u64 0, .int .u64 0, .int .u64 0] 25)))
    go_wp2_with (at_builtin; go_loud (refine Kd.R_append_rows k25 (w0 := w) w.heap.size rfl (.tmp 22) (.tmp 27) 22 25 (.agg #[.int .i64 0, .int .i64 0, .int .i64 0, .int .u64 0, .int .u64 0, .int .u64 0]) 48 rfl Try.underlying22 info25 rfl (by decide) (by decide) u5 ((part1 m).map mkE) (([(1, m + 1, 0, 0), (2, m + 1, 0, 0)] : List Cd).map mkE) (some ⟨wr.heap.size, 0, none⟩) 2 2 (fun _ => True) (fun _ => False) rfl rfl HRO.out HEV.out (fun _ _ h => h) (fun _ h => h.elim) (fun _ _ => trivial) HBO.out HBO.out.size (by have := HXL.out; omega) ?_; intro v1 w1 ho1 hb1 hg1 hat1; have HQ1 := Aside0.mk (show BwSt w w1 v1 (part1 m ++ [(1, m + 1, 0, 0), (2, m + 1, 0, 0)]) from ⟨by rw [List.map_append]; exact ho1, hb1⟩); clear ho1 hb1 hg1 hat1))
    clear HEV HRO HBO HXL
    go_roundw
    case rel => exact ⟨m + 1, by omega, by first | go_num | (congr 1; push_cast; omega), HQ1⟩
    case measure => simp [intOf]; omega
  · obtain rfl : m = a := by omega
    have hlt2 : ¬ (m : Int) + 1 ≤ (m : Int) := by omega
    obtain ⟨A, c, rfl⟩ := Kd.R_slice HS.out.row
    obtain ⟨n1, hn1⟩ : ∃ n1, ((part1 m).map mkE).length = n1 := ⟨_, rfl⟩
    have hn1m : n1 = 2 * m := by rw [← hn1, List.length_map, part1_len]
    rw [hn1] at HS ⊢
    have hw1 : IntKind.i64.wrap ((n1 : Int) + 1) = (n1 : Int) + 1 := IntWalk.i64_in _ (by omega)
    have hw2 : IntKind.i64.wrap ((m : Int) + 1) = (m : Int) + 1 := IntWalk.i64_in _ (by omega)
    have HXL := Aside0.mk (show ((part1 m).map mkE).length ≤ 100 by rw [List.length_map, part1_len]; omega)
    have HN1 := Aside0.mk hn1m
    clear hn1 hn1m
    have HEV := Aside0.mk (show Kd.C k25 (wr.alloc (.cells #[.int .i64 1, .int .i64 (-1), .int .i64 ((m : Int) + 1), .int .u64 0, .int .u64 0, .int .u64 0, .int .i64 2, .int .i64 0, .int .i64 ((m : Int) + 1), .int .u64 900, .int .u64 0, .int .u64 0] 25)) (some ⟨wr.heap.size, 0, none⟩) 2 ([(1, m + 1, 0, 0), (2, m + 1, 900, 0)].map mkE) from ev_row2 (1, m + 1, 0, 0) (2, m + 1, 900, 0) (heap_alloc_new wr (.cells #[.int .i64 1, .int .i64 (-1), .int .i64 ((m : Int) + 1), .int .u64 0, .int .u64 0, .int .u64 0, .int .i64 2, .int .i64 0, .int .i64 ((m : Int) + 1), .int .u64 900, .int .u64 0, .int .u64 0] 25)))
    have HRO := Aside0.mk (Kd.R_alloc HS.out.row (.cells #[.int .i64 1, .int .i64 (-1), .int .i64 ((m : Int) + 1), .int .u64 0, .int .u64 0, .int .u64 0, .int .i64 2, .int .i64 0, .int .i64 ((m : Int) + 1), .int .u64 900, .int .u64 0, .int .u64 0] 25))
    have HBO := Aside0.mk (below_step HS.out.bel (below_alloc (Below.refl wr.heap.size wr) (.cells #[.int .i64 1, .int .i64 (-1), .int .i64 ((m : Int) + 1), .int .u64 0, .int .u64 0, .int .u64 0, .int .i64 2, .int .i64 0, .int .i64 ((m : Int) + 1), .int .u64 900, .int .u64 0, .int .u64 0] 25)))
    go_wp2_with (at_builtin; go_loud (refine Kd.R_append_rows k25 (w0 := w) w.heap.size rfl (.tmp 32) (.tmp 39) 22 25 (.agg #[.int .i64 0, .int .i64 0, .int .i64 0, .int .u64 0, .int .u64 0, .int .u64 0]) 48 rfl Try.underlying22 info25 rfl (by decide) (by decide) (.slice A n1 c) ((part1 m).map mkE) (([(1, m + 1, 0, 0), (2, m + 1, 900, 0)] : List Cd).map mkE) (some ⟨wr.heap.size, 0, none⟩) 2 2 (fun _ => True) (fun _ => False) rfl rfl HRO.out HEV.out (fun _ _ h => h) (fun _ h => h.elim) (fun _ _ => trivial) HBO.out HBO.out.size (by have := HXL.out; omega) ?_; intro v1 w1 ho1 hb1 hg1 hat1; have HQ1 := Aside0.mk (show BwSt w w1 v1 (part1 m ++ [(1, m + 1, 0, 0), (2, m + 1, 900, 0)]) from ⟨by rw [List.map_append]; exact ho1, hb1⟩); clear ho1 hb1 hg1 hat1))
    clear HEV HRO HBO HXL
    have HST := Aside0.mk (show BwSt w w1 v1 ((part1 m ++ [(1, m + 1, 0, 0), (2, m + 1, 900, 0)]) ++ part2 m 0) from by rw [show part2 m 0 = [] from rfl, List.append_nil]; exact HQ1.out)
    clear HQ1
    go_wp2_with fail
    rename World => wk
    go_loopw [5, 8] (fun v i wr => ∃ q : Nat, q ≤ b ∧ i = .int .i64 ((q : Int) + 1) ∧ Aside0 (BwSt w wr v ((part1 m ++ [(1, m + 1, 0, 0), (2, m + 1, 900, 0)]) ++ part2 m q))) (fun _ i _ => b + 1 - (intOf i).toNat)
    case atStart => exact ⟨0, Nat.zero_le _, rfl, HST⟩
    case round =>
     clear HST HS
     obtain ⟨q, hq, rfl, HS⟩ := hrel
     by_cases hlt3 : q < b
     · have hlt4 : (q : Int) + 1 ≤ (b : Int) := by omega
       have hw3 : IntKind.i64.wrap ((q : Int) + 1 + 1) = (q : Int) + 1 + 1 := IntWalk.i64_in _ (by omega)
       have hw4 : IntKind.i64.wrap ((m : Int) + 1 + ((q : Int) + 1)) = (m : Int) + 1 + ((q : Int) + 1) := IntWalk.i64_in _ (by omega)
       have HXL := Aside0.mk (show (((part1 m ++ [(1, m + 1, 0, 0), (2, m + 1, 900, 0)]) ++ part2 m q).map mkE).length ≤ 100 by rw [List.length_map, List.length_append, List.length_append, part1_len, part2_len]; show 2 * m + 2 + 2 * q ≤ 100; omega)
       have HEV := Aside0.mk (show Kd.C k25 (wr.alloc (.cells #[.int .i64 1, .int .i64 (-1), .int .i64 ((m : Int) + 1 + ((q : Int) + 1)), .int .u64 0, .int .u64 0, .int .u64 0, .int .i64 2, .int .i64 0, .int .i64 ((m : Int) + 1 + ((q : Int) + 1)), .int .u64 0, .int .u64 0, .int .u64 0] 25)) (some ⟨wr.heap.size, 0, none⟩) 2 ([(1, m + 1 + (q + 1), 0, 0), (2, m + 1 + (q + 1), 0, 0)].map mkE) from ev_row2 (1, m + 1 + (q + 1), 0, 0) (2, m + 1 + (q + 1), 0, 0) (heap_alloc_new wr (.cells #[.int .i64 1, .int .i64 (-1), .int .i64 ((m : Int) + 1 + ((q : Int) + 1)), .int .u64 0, .int .u64 0, .int .u64 0, .int .i64 2, .int .i64 0, .int .i64 ((m : Int) + 1 + ((q : Int) + 1)), .int .u64 0, .int .u64 0, .int .u64 0] 25)))
       have HRO := Aside0.mk (Kd.R_alloc HS.out.row (.cells #[.int .i64 1, .int .i64 (-1), .int .i64 ((m : Int) + 1 + ((q : Int) + 1)), .int .u64 0, .int .u64 0, .int .u64 0, .int .i64 2, .int .i64 0, .int .i64 ((m : Int) + 1 + ((q : Int) + 1)), .int .u64 0, .int .u64 0, .int .u64 0] 25))
       have HBO := Aside0.mk (below_step HS.out.bel (below_alloc (Below.refl wr.heap.size wr) (.cells #[.int .i64 1, .int .i64 (-1), .int .i64 ((m : Int) + 1 + ((q : Int) + 1)), .int .u64 0, .int .u64 0, .int .u64 0, .int .i64 2, .int .i64 0, .int .i64 ((m : Int) + 1 + ((q : Int) + 1)), .int .u64 0, .int .u64 0, .int .u64 0] 25)))
       go_wp2_with (at_builtin; go_loud (refine Kd.R_append_rows k25 (w0 := w) w.heap.size rfl (.tmp 46) (.tmp 57) 22 25 (.agg #[.int .i64 0, .int .i64 0, .int .i64 0, .int .u64 0, .int .u64 0, .int .u64 0]) 48 rfl Try.underlying22 info25 rfl (by decide) (by decide) u5 (((part1 m ++ [(1, m + 1, 0, 0), (2, m + 1, 900, 0)]) ++ part2 m q).map mkE) (([(1, m + 1 + (q + 1), 0, 0), (2, m + 1 + (q + 1), 0, 0)] : List Cd).map mkE) (some ⟨wr.heap.size, 0, none⟩) 2 2 (fun _ => True) (fun _ => False) rfl rfl HRO.out HEV.out (fun _ _ h => h) (fun _ h => h.elim) (fun _ _ => trivial) HBO.out HBO.out.size (by have := HXL.out; omega) ?_; intro v1 w1 ho1 hb1 hg1 hat1; have HQ1 := Aside0.mk (show BwSt w w1 v1 ((part1 m ++ [(1, m + 1, 0, 0), (2, m + 1, 900, 0)]) ++ part2 m q ++ [(1, m + 1 + (q + 1), 0, 0), (2, m + 1 + (q + 1), 0, 0)]) from ⟨by rw [List.map_append]; exact ho1, hb1⟩); clear ho1 hb1 hg1 hat1))
       clear HEV HRO HBO HXL
       have HQ2 := Aside0.mk (show BwSt w w1 v1 ((part1 m ++ [(1, m + 1, 0, 0), (2, m + 1, 900, 0)]) ++ part2 m (q + 1)) from by have := HQ1.out; rw [List.append_assoc] at this; exact this)
       go_roundw
       case rel => exact ⟨q + 1, by omega, by first | go_num | (congr 1; push_cast; omega), HQ2⟩
       case measure => simp [intOf]; omega
     · obtain rfl : q = b := by omega
       have hlt4 : ¬ (q : Int) + 1 ≤ (q : Int) := by omega
       have HST := Aside0.mk (show BwSt w wr u5 (((part1 m ++ [(1, m + 1, 0, 0), (2, m + 1, 900, 0)]) ++ part2 m q) ++ part3 m 0) from by rw [show part3 m 0 = [] from rfl, List.append_nil]; exact HS.out)
       clear HS
       go_wp2_with fail
       go_loopw [5, 9] (fun v i wr => ∃ s : Nat, s ≤ m + q + 1 ∧ i = .int .i64 ((s : Int) + 1) ∧ Aside0 (BwSt w wr v (((part1 m ++ [(1, m + 1, 0, 0), (2, m + 1, 900, 0)]) ++ part2 m q) ++ part3 m s))) (fun _ i _ => m + q + 2 - (intOf i).toNat)
       case atStart => exact ⟨0, Nat.zero_le _, rfl, HST⟩
       case round =>
        clear HST
        obtain ⟨s, hs, rfl, HS⟩ := hrel
        have hw5 : IntKind.i64.wrap ((m : Int) + (q : Int)) = (m : Int) + (q : Int) := IntWalk.i64_in _ (by omega)
        have hw6 : IntKind.i64.wrap ((m : Int) + (q : Int) + 1) = (m : Int) + (q : Int) + 1 := IntWalk.i64_in _ (by omega)
        have hp3 := part3_len m s
        have HXL := Aside0.mk (show ((((part1 m ++ [(1, m + 1, 0, 0), (2, m + 1, 900, 0)]) ++ part2 m q) ++ part3 m s).map mkE).length ≤ 200 by rw [List.length_map, List.length_append, List.length_append, List.length_append, part1_len, part2_len]; show 2 * m + 2 + 2 * q + (part3 m s).length ≤ 200; omega)
        clear hp3
        by_cases hlt5 : s < m + q + 1
        · have hlt6 : (s : Int) + 1 ≤ (m : Int) + (q : Int) + 1 := by omega
          have hw7 : IntKind.i64.wrap ((s : Int) + 1 + 1) = (s : Int) + 1 + 1 := IntWalk.i64_in _ (by omega)
          have hw8 : IntKind.u64.wrap ((s : Int) + 1) = (s : Int) + 1 := IntWalk.u64_in _ (by omega)
          by_cases hsm : s = m
          · subst hsm
            have HST := Aside0.mk (show BwSt w wr u5 (((part1 s ++ [(1, s + 1, 0, 0), (2, s + 1, 900, 0)]) ++ part2 s q) ++ part3 s (s + 1)) from by
             have h0 : part3 s (s + 1) = part3 s s := by show part3 s s ++ (if s = s then [] else _) = _; rw [if_pos rfl, List.append_nil]
             rw [h0]; exact HS.out)
            clear HS HXL
            go_wp2_with fail
            go_roundw
            case rel => exact ⟨s + 1, by omega, by first | go_num | (congr 1; push_cast; omega), HST⟩
            case measure => simp [intOf]; omega
          · have e1 : ((s : Int) + 1 == (m : Int) + 1) = false := by rw [beq_eq_false_iff_ne]; omega
            have e2 : ¬ (s : Int) + 1 = (m : Int) + 1 := by omega
            have e3 : ((s : Int) + 1 != (m : Int) + 1) = true := by simp [bne, e1]
            have e4 : ¬ (s : Int) = (m : Int) := by omega
            have e5 : ¬ s = m := hsm
            have HSM := Aside0.mk hsm
            have HEV := Aside0.mk (show Kd.C k25 (wr.alloc (.cells #[.int .i64 3, .int .i64 0, .int .i64 ((s : Int) + 1), .int .u64 0, .int .u64 ((s : Int) + 1), .int .u64 0] 25)) (some ⟨wr.heap.size, 0, none⟩) 1 ([(3, s + 1, 0, s + 1)].map mkE) from ev_row1 (3, s + 1, 0, s + 1) (heap_alloc_new wr (.cells #[.int .i64 3, .int .i64 0, .int .i64 ((s : Int) + 1), .int .u64 0, .int .u64 ((s : Int) + 1), .int .u64 0] 25)))
            have HRO := Aside0.mk (Kd.R_alloc HS.out.row (.cells #[.int .i64 3, .int .i64 0, .int .i64 ((s : Int) + 1), .int .u64 0, .int .u64 ((s : Int) + 1), .int .u64 0] 25))
            have HBO := Aside0.mk (below_step HS.out.bel (below_alloc (Below.refl wr.heap.size wr) (.cells #[.int .i64 3, .int .i64 0, .int .i64 ((s : Int) + 1), .int .u64 0, .int .u64 ((s : Int) + 1), .int .u64 0] 25)))
            go_wp2_with (at_builtin; go_loud (refine Kd.R_append_rows k25 (w0 := w) w.heap.size rfl (.tmp 71) (.tmp 76) 22 25 (.agg #[.int .i64 0, .int .i64 0, .int .i64 0, .int .u64 0, .int .u64 0, .int .u64 0]) 48 rfl Try.underlying22 info25 rfl (by decide) (by decide) u5 ((((part1 m ++ [(1, m + 1, 0, 0), (2, m + 1, 900, 0)]) ++ part2 m q) ++ part3 m s).map mkE) (([(3, s + 1, 0, s + 1)] : List Cd).map mkE) (some ⟨wr.heap.size, 0, none⟩) 1 1 (fun _ => True) (fun _ => False) rfl rfl HRO.out HEV.out (fun _ _ h => h) (fun _ h => h.elim) (fun _ _ => trivial) HBO.out HBO.out.size (by have := HXL.out; omega) ?_; intro v1 w1 ho1 hb1 hg1 hat1; have HQ1 := Aside0.mk (show BwSt w w1 v1 (((part1 m ++ [(1, m + 1, 0, 0), (2, m + 1, 900, 0)]) ++ part2 m q) ++ part3 m s ++ [(3, s + 1, 0, s + 1)]) from ⟨by rw [List.map_append]; exact ho1, hb1⟩); clear ho1 hb1 hg1 hat1))
            clear HEV HRO HBO HXL
            have HQ2 := Aside0.mk (show BwSt w w1 v1 (((part1 m ++ [(1, m + 1, 0, 0), (2, m + 1, 900, 0)]) ++ part2 m q) ++ part3 m (s + 1)) from by
             have h0 : part3 m (s + 1) = part3 m s ++ [(3, s + 1, 0, s + 1)] := by show part3 m s ++ (if s = m then [] else _) = _; rw [if_neg HSM.out]
             have := HQ1.out
             rw [List.append_assoc, ← h0] at this
             exact this)
            go_roundw
            case rel => exact ⟨s + 1, by omega, by first | go_num | (congr 1; push_cast; omega), HQ2⟩
            case measure => simp [intOf]; omega
        · obtain rfl : s = m + q + 1 := by omega
          have hlt6 : ¬ ((m + q + 1 : Nat) : Int) + 1 ≤ (m : Int) + (q : Int) + 1 := by omega
          obtain ⟨j, hj⟩ : ∃ j : Int, ((m + q + 1 : Nat) : Int) + 1 = j := ⟨_, rfl⟩
          rw [hj] at hlt6 ⊢
          clear hj
          have HEV := Aside0.mk (show Kd.C k25 (wr.alloc (.cells #[.int .i64 3, .int .i64 0, .int .i64 ((m : Int) + 1), .int .u64 900, .int .u64 0, .int .u64 0] 25)) (some ⟨wr.heap.size, 0, none⟩) 1 ([(3, m + 1, 900, 0)].map mkE) from ev_row1 (3, m + 1, 900, 0) (heap_alloc_new wr (.cells #[.int .i64 3, .int .i64 0, .int .i64 ((m : Int) + 1), .int .u64 900, .int .u64 0, .int .u64 0] 25)))
          have HRO := Aside0.mk (Kd.R_alloc HS.out.row (.cells #[.int .i64 3, .int .i64 0, .int .i64 ((m : Int) + 1), .int .u64 900, .int .u64 0, .int .u64 0] 25))
          have HBO := Aside0.mk (below_step HS.out.bel (below_alloc (Below.refl wr.heap.size wr) (.cells #[.int .i64 3, .int .i64 0, .int .i64 ((m : Int) + 1), .int .u64 900, .int .u64 0, .int .u64 0] 25)))
          go_wp2_with (at_builtin; go_loud (refine Kd.R_append_rows k25 (w0 := w) w.heap.size rfl (.tmp 78) (.tmp 82) 22 25 (.agg #[.int .i64 0, .int .i64 0, .int .i64 0, .int .u64 0, .int .u64 0, .int .u64 0]) 48 rfl Try.underlying22 info25 rfl (by decide) (by decide) u5 ((((part1 m ++ [(1, m + 1, 0, 0), (2, m + 1, 900, 0)]) ++ part2 m q) ++ part3 m (m + q + 1)).map mkE) (([(3, m + 1, 900, 0)] : List Cd).map mkE) (some ⟨wr.heap.size, 0, none⟩) 1 1 (fun _ => True) (fun _ => False) rfl rfl HRO.out HEV.out (fun _ _ h => h) (fun _ h => h.elim) (fun _ _ => trivial) HBO.out HBO.out.size (by have := HXL.out; omega) ?_; intro v1 w1 ho1 hb1 hg1 hat1; have HQ1 := Aside0.mk (show BwSt w w1 v1 (((part1 m ++ [(1, m + 1, 0, 0), (2, m + 1, 900, 0)]) ++ part2 m q) ++ part3 m (m + q + 1) ++ [(3, m + 1, 900, 0)]) from ⟨by rw [List.map_append]; exact ho1, hb1⟩); clear ho1 hb1 hg1 hat1))
          clear HEV HRO HBO HXL
          obtain ⟨L, hL⟩ : ∃ L, evsW m q = L := ⟨_, rfl⟩
          have hck := check_told (check_all m q (by omega) (by omega))
          rw [hL] at hck
          have HCK := Aside0.mk hck
          have HQ2 := Aside0.mk (show BwSt w w1 v1 L from by rw [← hL]; exact HQ1.out)
          obtain ⟨A9, c9, rfl⟩ := Kd.R_slice HQ2.out.row
          obtain ⟨l, hl⟩ : ∃ l, l = L.map mkE := ⟨_, rfl⟩
          have HLM := Aside0.mk hl
          have HRD := Aside0.mk (Kd.R_reads' HQ2.out.row)
          rw [← hl] at HRD HQ2 ⊢
          have HBW := Aside0.mk HQ2.out.bel
          have HXC := Aside0.mk (heap_alloc_new w1 (.cells #[.int .i64 1, .int .i64 0, .int .i64 1] 32))
          have HBC := Aside0.mk (below_alloc (Below.refl w1.heap.size w1) (.cells #[.int .i64 1, .int .i64 0, .int .i64 1] 32))
          obtain ⟨gc, hgc⟩ : ∃ gc, gc = w1.heap.size := ⟨_, rfl⟩
          obtain ⟨wz, hwz⟩ : ∃ wz, wz = w1.alloc (.cells #[.int .i64 1, .int .i64 0, .int .i64 1] 32) := ⟨_, rfl⟩
          rw [← hgc, ← hwz] at HXC
          rw [← hwz] at HBC
          clear hL hck hl HS HQ1
          go_upto_region 20 with fail
          rw [← hgc, ← hwz]
          clear hgc hwz
          go_wp2_with fail
          refine (waited_walk L HCK.out.1 A9 c9 wz l HLM.out (Kd.C_below HRD.out.2.2 HBC.out) HRD.out.2.1 (n1 + 1) (by have := HN1.out; omega)).mono ?_
          rintro e w2 ⟨rfl, hb2⟩
          rw [show n1 + 1 = 2 * m + 1 by rw [HN1.out], HCK.out.2.1]
          have HB2 := Aside0.mk (below_step HBC.out hb2)
          have HBZ := Aside0.mk hb2
          clear hb2
          go_wp2_with fail
          refine (bound_Behind.calls 3000 A9 c9 l ((m + q : Nat) : Int) w2 (Kd.C_below HRD.out.2.2 HB2.out) HRD.out.2.1 (by rw [HLM.out, behind_told 3000 L HCK.out.1 (by have := HCK.out.1.2; omega), HCK.out.2.2.1])).mono ?_
          rintro e w3 ⟨rfl, hb3⟩
          have HB3 := Aside0.mk (below_step HB2.out hb3)
          have HBC3 := Aside0.mk (below_step HBZ.out hb3)
          have hx3 := blk_below HXC.out HBC3.out
          have k0 := (blk_cell HXC.out 0)
          have y0 := (blk_cell hx3 0).trans rfl
          have y1 := (blk_cell hx3 1).trans rfl
          have y2 := (blk_cell hx3 2).trans rfl
          clear hb3 hx3 k0
          rw [show ((m + q : Nat) : Int) = (m : Int) + (q : Int) by push_cast; rfl]
          go_wp2_with fail
          refine (beta_walk L HCK.out.1 A9 c9 w3 l HLM.out (Kd.C_below HRD.out.2.2 HB3.out) HRD.out.2.1).mono ?_
          rintro e w4 ⟨rfl, hb4⟩
          rw [HCK.out.2.2.2]
          have HB4 := Aside0.mk (below_step HB3.out hb4)
          clear hb4 y0 y1 y2
          by_cases h3 : q ≤ 3
          · have h4 : (q : Int) ≤ 3 := by omega
            have d0 : decide (q ≤ 3) = true := decide_eq_true h3
            have d1 : decide ((q : Int) ≤ 3) = true := decide_eq_true h4
            rw [d0]
            go_wp2_with fail
            refine (awake22 _).mono ?_
            rintro e w5 ⟨rfl, hb5⟩
            have HB5 := Aside0.mk (below_step HBW.out (below_step HB4.out hb5))
            clear hb5
            go_wp2
            go_ret
            exact ⟨rfl, HB5.out⟩
          · have h4 : ¬ (q : Int) ≤ 3 := by omega
            have d0 : decide (q ≤ 3) = false := decide_eq_false h3
            have d1 : decide ((q : Int) ≤ 3) = false := decide_eq_false h4
            rw [d0]
            go_wp2_with fail
            refine (awake22 _).mono ?_
            rintro e w5 ⟨rfl, hb5⟩
            have HB5 := Aside0.mk (below_step HBW.out (below_step HB4.out hb5))
            clear hb5
            go_wp2
            go_ret
            exact ⟨rfl, HB5.out⟩
end Go.Proofs.Ytidjppjijeepnaa.V
end
section
set_option linter.unusedVariables false
set_option linter.unusedSimpArgs false
namespace Go.Proofs.Ytidjppjijeepnaa.V
open Go.RowKit Go.Proofs.YtidjppjijeepnaaW.PrintWords Go.Proofs.YtidjppjijeepnaaW.PrintLast Go.Proofs.YtidjppjijeepnaaW.PrintMore
def vergerlaw22_BoundWaits.f (a0 : Int) (a1 : Int) : Option Bool := some true
theorem vergerlaw22_BoundWaits.calls (a0 : Int) (a1 : Int) (r : Bool) (w : World)  (h : vergerlaw22_BoundWaits.f a0 a1 = some r) :
 Calls Try.prog 4 #[.int .i64 a0, .int .i64 a1] w fun e w' => e = .returned (.bool r) ∧ Below w.heap.size w w' := by
 obtain rfl := Option.some.inj h
 exact boundWaits_walk a0 a1 w
theorem BoundWaits_pure (a0 : Int) (a1 : Int) {P0 P1 : Prop} (_ : P0) (_ : P1) : vergerlaw22_BoundWaits.f a0 a1 = some true := rfl
end Go.Proofs.Ytidjppjijeepnaa.V
end
