-- a text of this work, without what this claim doesn't use (wip/shake.py)
import Derived.Test.YtidjppjijeepnaaBVY4
import Derived.Test.YtidjppjijeepnaaBVCall
import Derived.Test.YtidjppjijeepnaaBVPcmp
import Derived.Test.YtidjppjijeepnaaBVW1
import Derived.Test.YtidjppjijeepnaaBWWords
import Derived.SizedLaws
import Derived.ChangeSlices
import Derived.WalkKit
import Derived.ProofKit
import Derived.OpenShut
import Derived.ShutString
import Derived.ChangeOld
import Derived.Below
import Derived.Deep.Slices
section
set_option linter.unusedVariables false
set_option linter.unusedSimpArgs false
namespace Go.Proofs.Ytidjppjijeepnaa.V
open Go.RowKit Go.Proofs.YtidjppjijeepnaaW.PrintWords Go.Proofs.YtidjppjijeepnaaW.PrintLast Go.Proofs.YtidjppjijeepnaaW.PrintMore
theorem add_zeroR (g k : Nat) : (⟨g, 0, none⟩ : Addr).add k = ⟨g, k, none⟩ := by
 unfold Addr.add
 by_cases h : k = 0
 · subst h; simp
 · simp [h]
def cellsR (c : Cr) : List Value := [.int .i64 (c.1 : Int), .int .i64 (mkR c).f1, .int .i64 (c.2.1 : Int), .int .u64 (c.2.2 : Int), .int .u64 0, .int .u64 0]
theorem evR_row1 {W : World} {g : Nat} (x : Cr) (h : W.heap[g]? = some (.cells (cellsR x).toArray 25 (0, 0))) : Kd.C k25 W (some ⟨g, 0, none⟩) 1 ([x].map mkR) := by
 refine ⟨rfl, by simp, fun _ => ⟨_, rfl, fun j p hj => ?_⟩⟩
 rcases j with _ | j
 · obtain rfl : mkR x = p := by simpa using hj
   refine ⟨_, rfl, k25_mk W (mkR x), fun i u hi => ?_⟩
   rw [add_zeroR, blk_cell h]
   rcases i with _ | _ | _ | _ | _ | _ | i <;> first | exact hi | simp at hi
 · simp at hj
theorem evR_row2 {W : World} {g : Nat} (x y : Cr) (h : W.heap[g]? = some (.cells (cellsR x ++ cellsR y).toArray 25 (0, 0))) : Kd.C k25 W (some ⟨g, 0, none⟩) 2 ([x, y].map mkR) := by
 refine ⟨rfl, by simp, fun _ => ⟨_, rfl, fun j p hj => ?_⟩⟩
 rcases j with _ | _ | j
 · obtain rfl : mkR x = p := by simpa using hj
   refine ⟨_, rfl, k25_mk W (mkR x), fun i u hi => ?_⟩
   rw [add_zeroR, blk_cell h]
   rcases i with _ | _ | _ | _ | _ | _ | i <;> first | exact hi | simp at hi
 · obtain rfl : mkR y = p := by simpa using hj
   refine ⟨_, rfl, k25_mk W (mkR y), fun i u hi => ?_⟩
   rw [add_zeroR, blk_cell h]
   rcases i with _ | _ | _ | _ | _ | _ | i <;> first | exact hi | simp at hi
 · simp at hj
structure RwSt (w wr : World) (gi gl : Nat) (v : Value) (X : List Cr) (n : Nat) : Prop where
  hi : wr.heap[gi]? = some (.cells #[.int .i64 (n : Int)] 3 (0, 0))
  hl : wr.heap[gl]? = some (.cells #[v] 22 (0, 0))
  ne : gi ≠ gl
  row : Kd.R k25 25 wr w.heap.size (fun k_ => k_ ≠ gi ∧ k_ ≠ gl) v (X.map mkR)
  bel : Below w.heap.size w wr
  lo : w.heap.size ≤ gi ∧ w.heap.size ≤ gl
namespace RwSt
variable {w wr w1 : World} {gi gl : Nat} {v : Value} {X : List Cr} {n : Nat}
theorem fresh (h : RwSt w wr gi gl v X n) {m : Nat} (hm : wr.heap.size ≤ m) : ∀ k_, m ≤ k_ → k_ ≠ gi ∧ k_ ≠ gl := fun k hk => by
 have h1 := (Array.getElem?_eq_some_iff.1 h.hi).1
 have h2 := (Array.getElem?_eq_some_iff.1 h.hl).1
 omega
theorem below (h : RwSt w wr gi gl v X n) (hb : Below wr.heap.size wr w1) : RwSt w w1 gi gl v X n := ⟨blk_below h.hi hb, blk_below h.hl hb, h.ne, Kd.R_below h.row hb, below_step h.bel hb, h.lo⟩
theorem setId (h : RwSt w wr gi gl v X n) (m : Nat) : RwSt w (wr.setCell ⟨gi, 0, none⟩ (.int .i64 (m : Int))) gi gl v X m :=
 ⟨blk_put h.hi 0 _ rfl, (Below.heap_setCell wr _ _ gl (fun e => h.ne e.symm)).trans h.hl, h.ne, Kd.R_far h.row (p := ⟨gi, 0, none⟩) (fun k hk => hk.1) _, h.bel.setCell h.lo.1 _, h.lo⟩
theorem setRow (hi : w1.heap[gi]? = some (.cells #[.int .i64 (n : Int)] 3 (0, 0))) (hl : w1.heap[gl]? = some (.cells #[v] 22 (0, 0))) (ne : gi ≠ gl) {v1 : Value} (row : Kd.R k25 25 w1 w.heap.size (fun k_ => k_ ≠ gi ∧ k_ ≠ gl) v1 (X.map mkR)) (bel : Below w.heap.size w w1) (lo : w.heap.size ≤ gi ∧ w.heap.size ≤ gl) :
 RwSt w (w1.setCell ⟨gl, 0, none⟩ v1) gi gl v1 X n :=
 ⟨(Below.heap_setCell w1 _ _ gi ne).trans hi, blk_put hl 0 _ rfl, ne, Kd.R_far row (p := ⟨gl, 0, none⟩) (fun k hk => hk.2) _, bel.setCell lo.2 _, lo⟩
theorem keep {W : World} {g : Nat} {o : Obj} (hg : W.grownBy w1 v.ownBlock) (hr : Kd.R k25 25 W w.heap.size (fun k_ => k_ ≠ gi ∧ k_ ≠ gl) v (X.map mkR)) (h : W.heap[g]? = some o) (he : g = gi ∨ g = gl) : w1.heap[g]? = some o := by
 refine (hg.block g (Array.getElem?_eq_some_iff.1 h).1 (fun e => ?_)).trans h
 have := hr.1 g e.symm
 omega
end RwSt
set_option maxRecDepth 100000 in
set_option maxHeartbeats 4000000 in
theorem put_walk (w wr : World) (gi gl : Nat) (v : Value) (X : List Cr) (n key : Nat) (h : RwSt w wr gi gl v X n) (hn : n ≤ 100) (hX : X.length ≤ 400) (hk : key ≤ 1000) :
 Calls Try.prog 5 #[.int .u64 key, .pointer (some ⟨gi, 0, none⟩), .pointer (some ⟨gl, 0, none⟩)] wr fun e w' => e = .returned (.tuple #[]) ∧ ∃ v', RwSt w w' gi gl v' (X ++ [(1, n + 1, 0), (2, n + 1, key)]) (n + 1) := by
 have HS0 := Aside0.mk h
 have hw1 : IntKind.i64.wrap ((n : Int) + 1) = (n : Int) + 1 := IntWalk.i64_in _ (by omega)
 have HXL := Aside0.mk (show (X.map mkR).length ≤ 400 by rw [List.length_map]; exact hX)
 have x0 := (blk_cell h.hi 0).trans rfl
 have x1 := blk_frozen h.hi 0
 clear h
 go_enter Try.func5, Try.ntmps5
 go_upto_region 1 with fail
 have HS := Aside0.mk (HS0.out.setId (n + 1))
 obtain ⟨wb, hwb⟩ : ∃ wb, wb = wr.setCell ⟨gi, 0, none⟩ (.int .i64 ((n : Int) + 1)) := ⟨_, rfl⟩
 have HS := Aside0.mk (show RwSt w wb gi gl v X (n + 1) from by rw [hwb]; exact HS.out)
 rw [← hwb]
 clear hwb x0 x1
 have x0 : wb.cell? ⟨gi, 0, none⟩ = some (.int .i64 ((n : Int) + 1)) := (blk_cell HS.out.hi 0).trans rfl
 have y0 : wb.cell? ⟨gl, 0, none⟩ = some v := (blk_cell HS.out.hl 0).trans rfl
 have HEV := Aside0.mk (show Kd.C k25 (wb.alloc (.cells #[.int .i64 1, .int .i64 (-1), .int .i64 ((n : Int) + 1), .int .u64 0, .int .u64 0, .int .u64 0, .int .i64 2, .int .i64 0, .int .i64 ((n : Int) + 1), .int .u64 (key : Int), .int .u64 0, .int .u64 0] 25)) (some ⟨wb.heap.size, 0, none⟩) 2 (([(1, n + 1, 0), (2, n + 1, key)] : List Cr).map mkR) from evR_row2 _ _ (heap_alloc_new wb (.cells #[.int .i64 1, .int .i64 (-1), .int .i64 ((n : Int) + 1), .int .u64 0, .int .u64 0, .int .u64 0, .int .i64 2, .int .i64 0, .int .i64 ((n : Int) + 1), .int .u64 (key : Int), .int .u64 0, .int .u64 0] 25)))
 have HBA := Aside0.mk (below_alloc (Below.refl wb.heap.size wb) (.cells #[.int .i64 1, .int .i64 (-1), .int .i64 ((n : Int) + 1), .int .u64 0, .int .u64 0, .int .u64 0, .int .i64 2, .int .i64 0, .int .i64 ((n : Int) + 1), .int .u64 (key : Int), .int .u64 0, .int .u64 0] 25))
 have HRO := Aside0.mk (Kd.R_alloc HS.out.row (.cells #[.int .i64 1, .int .i64 (-1), .int .i64 ((n : Int) + 1), .int .u64 0, .int .u64 0, .int .u64 0, .int .i64 2, .int .i64 0, .int .i64 ((n : Int) + 1), .int .u64 (key : Int), .int .u64 0, .int .u64 0] 25))
 have HBO := Aside0.mk (below_step HS.out.bel HBA.out)
 have HFR := Aside0.mk (HS.out.fresh HBA.out.size)
 have HHI := Aside0.mk (blk_below HS.out.hi HBA.out)
 have HHL := Aside0.mk (blk_below HS.out.hl HBA.out)
 go_wp2_with (at_builtin; go_loud (refine Kd.R_append_rows k25 (w0 := w) w.heap.size rfl (.tmp 6) (.tmp 12) 22 25 (.agg #[.int .i64 0, .int .i64 0, .int .i64 0, .int .u64 0, .int .u64 0, .int .u64 0]) 48 rfl Try.underlying22 info25 rfl (by decide) (by decide) v ((X).map mkR) (([(1, n + 1, 0), (2, n + 1, key)] : List Cr).map mkR) (some ⟨wb.heap.size, 0, none⟩) 2 2 (fun k_ => k_ ≠ gi ∧ k_ ≠ gl) (fun _ => False) rfl rfl HRO.out HEV.out (fun _ _ h => h) (fun _ h => h.elim) HFR.out HBO.out HBO.out.size (by have := HXL.out; omega) ?_; intro v1 w1 ho1 hb1 hg1 hat1; obtain ⟨A1, c1, hv1⟩ := Kd.R_slice ho1; generalize hnl_ : List.length (_ ++ _) = nl_ at hv1; subst hv1; clear hnl_; have HQ1 := Aside0.mk (show Kd.R k25 25 w1 w.heap.size (fun k_ => k_ ≠ gi ∧ k_ ≠ gl) (.slice A1 nl_ c1) ((X ++ [(1, n + 1, 0), (2, n + 1, key)]).map mkR) from by rw [List.map_append]; exact ho1); have HB1 := Aside0.mk hb1; have HI1 := Aside0.mk (RwSt.keep hg1 HRO.out HHI.out (.inl rfl)); have HL1 := Aside0.mk (RwSt.keep hg1 HRO.out HHL.out (.inr rfl)); have f0 := blk_frozen HL1.out 0; have f1 := (blk_cell HL1.out 0).trans rfl; clear ho1 hb1 hg1 hat1))
 have HFN := Aside0.mk (show RwSt w (w1.setCell ⟨gl, 0, none⟩ (.slice A1 nl_ c1)) gi gl (.slice A1 nl_ c1) (X ++ [(1, n + 1, 0), (2, n + 1, key)]) (n + 1) from RwSt.setRow HI1.out HL1.out HS.out.ne HQ1.out HB1.out HS.out.lo)
 go_wp2
 first
  | exact ⟨rfl, .tuple #[], by rfl, rfl, _, HFN.out⟩
  | exact ⟨rfl, .tuple #[], by simp [results, show Try.f5.results = #[] from rfl, go_sem], rfl, _, HFN.out⟩
  | exact ⟨rfl, .tuple #[], by unfold results; rfl, rfl, _, HFN.out⟩
end Go.Proofs.Ytidjppjijeepnaa.V
end
section
set_option linter.unusedVariables false
set_option linter.unusedSimpArgs false
namespace Go.Proofs.Ytidjppjijeepnaa.V
open Go.RowKit Go.Proofs.YtidjppjijeepnaaW.PrintWords Go.Proofs.YtidjppjijeepnaaW.PrintLast Go.Proofs.YtidjppjijeepnaaW.PrintMore
def bound_Rho.f : List (S25) → Option Int
  | [] => some 0
  | _ :: _ => none
def bound_Passed.f : List (S25) → Int → Option Int
  | [], _ => some (-1)
  | _ :: _, _ => none
def bound_Waited.f : List (S25) → Int → Option Int
  | [], _ => some (-1)
  | _ :: _, _ => none
set_option maxHeartbeats 400000 in
theorem bound_Rho.calls (A0 : Option Addr) (c0 : Nat) (l0 : List (S25)) (r : Int) (w : World) (hr0 : Kd.C k25 w A0 l0.length l0) (hc0 : l0.length ≤ c0) (h : bound_Rho.f l0 = some r) :
 Calls Try.prog 7 #[.slice A0 l0.length c0] w fun e w' => e = .returned (.int .i64 r) ∧ Drawn0 w w' := by
 cases l0 with
 | cons a t => cases h
 | nil =>
  obtain rfl := Option.some.inj h
  clear h hr0 hc0
  go_enter Try.func7, Try.ntmps7
  go_wp2
  go_loop [3, 7] (fun n i => n = .int .i64 0 ∧ i = .int .i64 0) (fun _ _ => 0)
  case atStart => exact ⟨rfl, rfl⟩
  case round =>
   obtain ⟨rfl, rfl⟩ := hrel
   go_wp2
   go_ret
   exact ⟨rfl, Drawn0.refl _⟩
set_option maxHeartbeats 400000 in
theorem bound_is_no (k : IntKind) (c n : Int) (w : World) :
 Calls Try.prog 13 #[.slice none 0 0, .int .i64 0, .int .i64 n] w fun e w' => e = .returned (.bool false) ∧ w = w' := by
 go_enter Try.func13, Try.ntmps13
 go_wp2
 go_ret
 exact ⟨rfl, rfl⟩
set_option maxHeartbeats 400000 in
theorem bound_Passed.calls (i : Int) (r : Int) (w : World) (h : bound_Passed.f [] i = some r) (h0 : i = 0 := by rfl) :
 Calls Try.prog 6 #[.slice none 0 0, .int .i64 i] w fun e w' => e = .returned (.int .i64 r) ∧ Drawn0 w w' := by
 subst h0
 obtain rfl := Option.some.inj h
 clear h
 go_enter Try.func6, Try.ntmps6
 go_wp2_with (first | (go_at_call 13; (refine (bound_is_no .i64 0 _ _).mono ?_); rintro e w' ⟨rfl, rfl⟩))
 go_ret
 exact ⟨rfl, Drawn0.refl _⟩
set_option maxHeartbeats 400000 in
theorem bound_Waited.calls (i : Int) (r : Int) (w : World) (h : bound_Waited.f [] i = some r) (h0 : i = 0 := by rfl) :
 Calls Try.prog 8 #[.slice none 0 0, .int .i64 i] w fun e w' => e = .returned (.int .i64 r) ∧ Drawn0 w w' := by
 subst h0
 obtain rfl := Option.some.inj h
 clear h
 go_enter Try.func8, Try.ntmps8
 go_wp2_with (first | (go_at_call 13; (refine (bound_is_no .i64 0 _ _).mono ?_); rintro e w' ⟨rfl, rfl⟩))
 go_ret
 exact ⟨rfl, Drawn0.refl _⟩
end Go.Proofs.Ytidjppjijeepnaa.V
end
section
set_option linter.unusedVariables false
set_option linter.unusedSimpArgs false
namespace Go.Proofs.Ytidjppjijeepnaa.V
open Go.RowKit Go.Proofs.YtidjppjijeepnaaW.PrintWords Go.Proofs.YtidjppjijeepnaaW.PrintLast Go.Proofs.YtidjppjijeepnaaW.PrintMore
set_option maxRecDepth 100000 in
set_option maxHeartbeats 4000000 in
theorem awake22 (w : World) : Calls Try.prog 9 #[] w fun e w' => e = .returned (.bool true) ∧ Below w.heap.size w w' := by
 have HC := Aside0.mk (Kd.C_nil k25)
 go_enter Try.func9, Try.ntmps9
 go_wp2_with fail
 refine (bound_Phi.calls 1 1 0 10 _ (by kernel_rfl)).mono ?_
 rintro e w1 ⟨rfl, hb1⟩
 have HB1 := Aside0.mk hb1
 clear hb1
 go_wp2_with fail
 refine (bound_Rho.calls none 0 [] 0 w1 (HC.out w1) (Nat.le_refl _) rfl).mono ?_
 rintro e w2 ⟨rfl, hb2⟩
 have HB2 := Aside0.mk (below_step HB1.out hb2.below)
 clear hb2
 go_wp2_with fail
 refine (bound_Passed.calls 0 (-1) w2 rfl).mono ?_
 rintro e w3 ⟨rfl, hb3⟩
 have HB3 := Aside0.mk (below_step HB2.out hb3.below)
 clear hb3
 go_wp2_with fail
 refine (bound_Waited.calls 0 (-1) w3 rfl).mono ?_
 rintro e w4 ⟨rfl, hb4⟩
 have HB4 := Aside0.mk (below_step HB3.out hb4.below)
 clear hb4
 go_wp2
 go_ret
 exact ⟨rfl, HB4.out⟩
end Go.Proofs.Ytidjppjijeepnaa.V
end
section
set_option linter.unusedVariables false
set_option linter.unusedSimpArgs false
namespace Go.Proofs.Ytidjppjijeepnaa.V
open Go.RowKit Go.Proofs.YtidjppjijeepnaaW.PrintWords Go.Proofs.YtidjppjijeepnaaW.PrintLast Go.Proofs.YtidjppjijeepnaaW.PrintMore
def memF (id : Nat) : List Nat → Bool
  | [] => false
  | s :: r => bif Nat.beq id s then true else memF id r
def waitF (id : Nat) : List Cd → List Nat → Nat → Nat
  | [], _, n => n
  | x :: r, S, n => bif (Nat.beq x.2.1 id && !Nat.beq x.1 10) then n else bif Nat.beq x.1 2 then waitF id r (x.2.1 :: S) n else bif Nat.beq x.1 3 then bif memF x.2.1 S then waitF id r S (n + 1) else waitF id r S n else waitF id r S n
def tailF : Nat → List Cd → List Cd
  | 0, l => l
  | _ + 1, [] => []
  | p + 1, _ :: r => tailF p r
def atF (p b : Nat) (l : List Cd) : Bool := match tailF p l with
  | [] => false
  | x :: r => bif Nat.beq x.1 2 then Nat.beq (waitF x.2.1 r [] 0) b else false
def loopF (f : Nat → Bool) : Nat → Bool
  | 0 => true
  | n + 1 => bif f n then loopF f n else false
theorem loopF_all {f : Nat → Bool} : ∀ {n : Nat}, loopF f n = true → ∀ i, i < n → f i = true := by
 intro n
 induction n with
 | zero => intro _ i hi; omega
 | succ n ih =>
  intro h i hi
  unfold loopF at h
  cases hf : f n with
  | false => rw [hf] at h; cases h
  | true =>
   rw [hf] at h
   by_cases e : i = n
   · subst e; exact hf
   · exact ih h i (by omega)
theorem memF_elem (id : Nat) (S : List Nat) : memF id S = S.elem id := by
 induction S with
 | nil => rfl
 | cons s r ih =>
  unfold memF
  rw [ih, List.elem_cons]
  show cond (Nat.beq id s) true (r.elem id) = _
  cases h : Nat.beq id s with
  | true => rw [show (id == s) = true by rw [beq_iff_eq]; exact Nat.eq_of_beq_eq_true h]; rfl
  | false => rw [show (id == s) = false by rw [beq_eq_false_iff_ne]; exact Nat.ne_of_beq_eq_false h]; rfl
theorem bq (x y : Nat) : (x == y) = Nat.beq x y := by
 cases h : Nat.beq x y with
 | true => rw [beq_iff_eq]; exact Nat.eq_of_beq_eq_true h
 | false => rw [beq_eq_false_iff_ne]; exact Nat.ne_of_beq_eq_false h
theorem bqn (x : Cd) (id : Nat) : (x.2.1 == id && x.1 != 10) = (Nat.beq x.2.1 id && !Nat.beq x.1 10) := by
 unfold bne
 rw [bq, bq]
theorem wait_eq (id : Nat) : ∀ (r : List Cd) (S : List Nat) (n : Nat), wsN (r.take (nxt id r)) S n = waitF id r S n := by
 intro r
 induction r with
 | nil => intro S n; rfl
 | cons x r ih =>
  intro S n
  unfold nxt waitF
  rw [bqn]
  cases h : (Nat.beq x.2.1 id && !Nat.beq x.1 10) with
  | true => rfl
  | false =>
   rw [if_neg (by decide), List.take_succ_cons]
   unfold wsN
   rw [bq x.1 2, bq x.1 3, ← memF_elem]
   cases h2 : Nat.beq x.1 2 with
   | true => rw [if_pos rfl]; exact ih _ _
   | false =>
    rw [if_neg (by decide)]
    cases h3 : Nat.beq x.1 3 with
    | false => rw [Bool.false_and, if_neg (by decide)]; exact ih _ _
    | true =>
     rw [Bool.true_and]
     cases h4 : memF x.2.1 S with
     | true => rw [if_pos rfl]; exact (ih _ _).trans (by rfl)
     | false => rw [if_neg (by decide)]; exact (ih _ _).trans (by rfl)
theorem at_drop {L : List Cd} {p : Nat} {x : Cd} {r : List Cd} (h : L.drop p = x :: r) : L[p]? = some x ∧ L.drop (p + 1) = r := by
 have h1 : (L.drop p)[0]? = some x := by rw [h]; rfl
 rw [List.getElem?_drop] at h1
 refine ⟨h1, ?_⟩
 rw [← List.drop_drop, h]
 rfl
theorem waitN_eq {L : List Cd} {p : Nat} {x : Cd} {r : List Cd} (h : L.drop p = x :: r) (h2 : x.1 = 2) : waitN L p = ((waitF x.2.1 r [] 0 : Nat) : Int) := by
 obtain ⟨h0, h1⟩ := at_drop h
 have hk : kdAt L p = 2 := by unfold kdAt; rw [h0]; exact h2
 have hi : idAt L p = x.2.1 := by unfold idAt; rw [h0]
 unfold waitN midN
 rw [if_pos hk, hi, h1, wait_eq]
theorem tail_eq : ∀ (p : Nat) (l : List Cd), tailF p l = l.drop p := by
 intro p
 induction p with
 | zero => intro l; rfl
 | succ p ih =>
  intro l
  cases l with
  | nil => rfl
  | cons x r => exact ih r
end Go.Proofs.Ytidjppjijeepnaa.V
end
section
set_option linter.unusedVariables false
set_option linter.unusedSimpArgs false
namespace Go.Proofs.Ytidjppjijeepnaa.V
open Go.RowKit Go.Proofs.YtidjppjijeepnaaW.PrintWords Go.Proofs.YtidjppjijeepnaaW.PrintLast Go.Proofs.YtidjppjijeepnaaW.PrintMore
def partA : Nat → List Cr
  | 0 => [(1, 1, 0), (2, 1, 50)]
  | m + 1 => partA m ++ [(1, m + 1 + 1, 0), (2, m + 1 + 1, m)]
def partB (a : Nat) : Nat → List Cr
  | 0 => partA a ++ [(10, 1, 50)]
  | m + 1 => partB a m ++ [(1, a + 1 + m + 1, 0), (2, a + 1 + m + 1, 20 + m)]
def evsR (a b : Nat) : List Cr := (partB a b ++ [(1, a + 1 + b + 1, 0), (2, a + 1 + b + 1, 77)]) ++ [(3, 1, 50)]
def toCd (c : Cr) : Cd := (c.1, c.2.1, c.2.2, 0)
def oneF (B : Nat) (x : Cr) : Bool := (Nat.beq x.1 1 || Nat.beq x.1 2 || Nat.beq x.1 10 || (Nat.beq x.1 3 && Nat.beq x.2.2 50)) && Nat.ble x.2.1 B && Nat.ble x.2.2 1000
def fewRF (B : Nat) : List Cr → Bool
  | [] => true
  | x :: r => bif oneF B x then fewRF B r else false
def eqF (x : Cr) (k i y : Nat) : Bool := Nat.beq x.1 k && Nat.beq x.2.1 i && Nat.beq x.2.2 y
def tailShape : List Cr → Bool
  | [] => false
  | x :: r => match r with
    | [] => eqF x 3 1 50
    | _ :: _ => bif Nat.beq x.1 3 || Nat.beq x.1 10 then false else tailShape r
def headShape : Nat → List Cr → Bool
  | _, [] => false
  | 0, x :: r => bif eqF x 10 1 50 then tailShape r else false
  | n + 1, x :: r => bif Nat.beq x.1 3 then false else headShape n r
def lastG : List Cr → Nat → Nat → Option (Nat × Cr) → Option (Nat × Cr)
  | [], _, _, acc => acc
  | c :: r, k, x, acc => lastG r (k + 1) x (bif !Nat.beq c.1 10 && Nat.beq c.2.1 x then some (k, c) else acc)
def passG (l : List Cr) (j x : Nat) : Bool := match lastG l 0 x none with
  | some (i, c) => Nat.blt i j && Nat.beq c.1 2 && (Nat.blt c.2.2 50 || (Nat.beq c.2.2 50 && Nat.blt x 1))
  | none => false
def cntG (l : List Cr) (j : Nat) : Nat → Nat
  | 0 => 0
  | n + 1 => bif passG l j n then cntG l j n + 1 else cntG l j n
def initF : List Cr → List Cr
  | [] => []
  | x :: r => match r with
    | [] => []
    | _ :: _ => x :: initF r
def checkR (a b : Nat) (l : List Cr) : Bool := bif fewRF (a + b + 2) l then bif headShape (2 * a + 2) l then bif Nat.beq (cntG (initF l) (2 * a + 2) (a + b + 3)) a then bif atF 1 0 (l.map toCd) then Nat.beq l.length (2 * a + 2 * b + 6) else false else false else false else false
theorem eqF_told {x : Cr} {k i y : Nat} (h : eqF x k i y = true) : x = (k, i, y) := by
 unfold eqF at h
 rw [Bool.and_eq_true, Bool.and_eq_true] at h
 obtain ⟨⟨h1, h2⟩, h3⟩ := h
 obtain ⟨a, b, c⟩ := x
 rw [show a = k from Nat.eq_of_beq_eq_true h1, show b = i from Nat.eq_of_beq_eq_true h2, show c = y from Nat.eq_of_beq_eq_true h3]
theorem beq_no {x y : Nat} (h : Nat.beq x y = false) : x ≠ y := Nat.ne_of_beq_eq_false h
theorem few_told {B : Nat} (hB : B ≤ 1000) : ∀ {l : List Cr}, fewRF B l = true → ∀ x ∈ l, (x.1 = 1 ∨ x.1 = 2 ∨ x.1 = 3 ∨ x.1 = 10) ∧ x.2.1 ≤ B ∧ x.2.2 ≤ 1000 ∧ (x.1 = 3 → x.2.2 = 50) := by
 intro l
 induction l with
 | nil => intro _ x hx; simp at hx
 | cons y r ih =>
  intro h x hx
  unfold fewRF at h
  cases h1 : oneF B y with
  | false => rw [h1] at h; cases h
  | true =>
   rw [h1] at h
   rcases List.mem_cons.1 hx with rfl | hx
   · unfold oneF at h1
     simp only [Bool.and_eq_true, Bool.or_eq_true] at h1
     obtain ⟨⟨h2, h3⟩, h4⟩ := h1
     have e3 := Nat.le_of_ble_eq_true h3
     have e4 := Nat.le_of_ble_eq_true h4
     refine ⟨?_, e3, e4, ?_⟩
     · rcases h2 with ((h2 | h2) | h2) | ⟨h2, _⟩
       · exact .inl (Nat.eq_of_beq_eq_true h2)
       · exact .inr (.inl (Nat.eq_of_beq_eq_true h2))
       · exact .inr (.inr (.inr (Nat.eq_of_beq_eq_true h2)))
       · exact .inr (.inr (.inl (Nat.eq_of_beq_eq_true h2)))
     · intro e
       rcases h2 with ((h2 | h2) | h2) | ⟨_, h2⟩
       · have := Nat.eq_of_beq_eq_true h2; omega
       · have := Nat.eq_of_beq_eq_true h2; omega
       · have := Nat.eq_of_beq_eq_true h2; omega
       · exact Nat.eq_of_beq_eq_true h2
   · exact ih h x hx
theorem tail_told : ∀ {l : List Cr}, tailShape l = true → ∃ n, l.length = n + 1 ∧ l[n]? = some (3, 1, 50) ∧ ∀ q, q < n → kdR l q ≠ 3 ∧ kdR l q ≠ 10 := by
 intro l
 induction l with
 | nil => intro h; cases h
 | cons x r ih =>
  intro h
  cases r with
  | nil =>
   have h : eqF x 3 1 50 = true := h
   exact ⟨0, rfl, by rw [eqF_told h]; rfl, fun q hq => by omega⟩
  | cons y r =>
   have h : (bif Nat.beq x.1 3 || Nat.beq x.1 10 then false else tailShape (y :: r)) = true := h
   cases h1 : Nat.beq x.1 3 with
   | true => rw [h1] at h; cases h
   | false =>
    cases h2 : Nat.beq x.1 10 with
    | true => rw [h1, h2] at h; cases h
    | false =>
     rw [h1, h2] at h
     obtain ⟨n, e1, e2, e3⟩ := ih h
     refine ⟨n + 1, by rw [List.length_cons, e1], e2, fun q hq => ?_⟩
     cases q with
     | zero => exact ⟨beq_no h1, beq_no h2⟩
     | succ q => exact e3 q (by omega)
theorem head_told : ∀ {j : Nat} {l : List Cr}, headShape j l = true → ∃ n, l.length = j + 1 + n + 1 ∧ l[j]? = some (10, 1, 50) ∧ l[j + 1 + n]? = some (3, 1, 50) ∧ ∀ q, q < j + 1 + n → kdR l q ≠ 3 ∧ (j < q → kdR l q ≠ 10) := by
 intro j
 induction j with
 | zero =>
  intro l h
  cases l with
  | nil => cases h
  | cons x r =>
   have h : (bif eqF x 10 1 50 then tailShape r else false) = true := h
   cases h1 : eqF x 10 1 50 with
   | false => rw [h1] at h; cases h
   | true =>
    rw [h1] at h
    obtain ⟨n, e1, e2, e3⟩ := tail_told h
    obtain rfl := eqF_told h1
    refine ⟨n, by rw [List.length_cons, e1]; omega, rfl, by rw [show 0 + 1 + n = n + 1 by omega]; exact e2, fun q hq => ?_⟩
    cases q with
    | zero => exact ⟨by show (10 : Nat) ≠ 3; omega, fun h => by omega⟩
    | succ q =>
     have := e3 q (by omega)
     exact ⟨this.1, fun _ => this.2⟩
 | succ j ih =>
  intro l h
  cases l with
  | nil => cases h
  | cons x r =>
   have h : (bif Nat.beq x.1 3 then false else headShape j r) = true := h
   cases h1 : Nat.beq x.1 3 with
   | true => rw [h1] at h; cases h
   | false =>
    rw [h1] at h
    obtain ⟨n, e1, e2, e3, e4⟩ := ih h
    refine ⟨n, by rw [List.length_cons, e1]; omega, e2, by rw [show j + 1 + 1 + n = (j + 1 + n) + 1 by omega]; exact e3, fun q hq => ?_⟩
    cases q with
    | zero => exact ⟨beq_no h1, fun h => by omega⟩
    | succ q =>
     have := e4 q (by omega)
     exact ⟨this.1, fun h => this.2 (by omega)⟩
theorem lastG_snoc (x : Nat) (c : Cr) : ∀ (l : List Cr) (k : Nat) (acc : Option (Nat × Cr)), lastG (l ++ [c]) k x acc = bif !Nat.beq c.1 10 && Nat.beq c.2.1 x then some (k + l.length, c) else lastG l k x acc := by
 intro l
 induction l with
 | nil => intro k acc; rfl
 | cons y r ih =>
  intro k acc
  show lastG (r ++ [c]) (k + 1) x _ = _
  rw [ih, List.length_cons, show k + 1 + r.length = k + (r.length + 1) by omega]
  rfl
theorem last_eq (L : List Cr) (x : Nat) : ∀ (p : Nat), p ≤ L.length → (match lastG (L.take p) 0 x none with | some (i, c) => lastR L p (x : Int) = some i ∧ L[i]? = some c | none => lastR L p (x : Int) = none) := by
 intro p
 induction p with
 | zero => intro _; rw [List.take_zero]; exact rfl
 | succ p ih =>
  intro hp
  obtain ⟨c, hc⟩ : ∃ c, L[p]? = some c := ⟨_, List.getElem?_eq_getElem (by omega)⟩
  have ht : L.take (p + 1) = L.take p ++ [c] := by rw [List.take_add_one, hc]; rfl
  have hl : (L.take p).length = p := by rw [List.length_take]; omega
  have hR : lastR L (p + 1) (x : Int) = if c.1 ≠ 10 ∧ (x : Int) = (c.2.1 : Int) then some p else lastR L p (x : Int) := by
   show (match L[p]? with | some c => _ | none => _) = _
   rw [hc]
  have hih := ih (by omega)
  rw [ht, lastG_snoc, hl, Nat.zero_add]
  cases h1 : Nat.beq c.1 10 with
  | true =>
   have e1 := Nat.eq_of_beq_eq_true h1
   rw [hR, if_neg (fun h => h.1 e1)]
   exact hih
  | false =>
   cases h2 : Nat.beq c.2.1 x with
   | false =>
    have e2 := beq_no h2
    rw [hR, if_neg (fun h => e2 (by omega))]
    exact hih
   | true =>
    have e2 := Nat.eq_of_beq_eq_true h2
    rw [hR, if_pos ⟨beq_no h1, by omega⟩]
    exact ⟨rfl, hc⟩
theorem pass_eq (L : List Cr) (p j x : Nat) (hp : p ≤ L.length) : passP L p j 1 50 x = passG (L.take p) j x := by
 have h := last_eq L x p hp
 unfold passG passP
 cases hg : lastG (L.take p) 0 x none with
 | none => rw [hg] at h; simp only at h; rw [h]
 | some ic =>
  obtain ⟨i, c⟩ := ic
  rw [hg] at h
  simp only at h
  rw [h.1]
  simp only [h.2]
  have b1 : ∀ u v : Nat, decide (u < v) = Nat.blt u v := fun u v => by
   cases hb : Nat.blt u v with
   | true => exact decide_eq_true (Nat.le_of_ble_eq_true hb)
   | false => exact decide_eq_false (fun hh => by have : Nat.blt u v = true := Nat.ble_eq_true_of_le hh; rw [this] at hb; cases hb)
  rw [b1, b1, b1, bq, bq]
theorem cnt_range (P : Nat → Bool) (l : List Cr) (j : Nat) (h : ∀ x, P x = passG l j x) : ∀ n, (List.range n).countP P = cntG l j n := by
 intro n
 induction n with
 | zero => rfl
 | succ n ih =>
  rw [List.range_succ, List.countP_append, ih]
  show _ = bif passG l j n then cntG l j n + 1 else cntG l j n
  rw [← h n, List.countP_cons, List.countP_nil]
  cases P n <;> rfl
theorem cnt_more (P : Nat → Bool) (B : Nat) (h : ∀ x, B ≤ x → P x = false) : ∀ d, (List.range (B + d)).countP P = (List.range B).countP P := by
 intro d
 induction d with
 | zero => rfl
 | succ d ih =>
  rw [show B + (d + 1) = (B + d) + 1 by omega, List.range_succ, List.countP_append, ih, List.countP_cons, List.countP_nil, h (B + d) (by omega)]
  rfl
theorem init_eq : ∀ (l : List Cr), initF l = l.take (l.length - 1) := by
 intro l
 induction l with
 | nil => rfl
 | cons x r ih =>
  cases r with
  | nil => rfl
  | cons y r =>
   show x :: initF (y :: r) = _
   rw [ih]
   rfl
theorem at_told {p b : Nat} {l : List Cd} (h : atF p b l = true) : waitN l p = (b : Int) := by
 unfold atF at h
 rw [tail_eq] at h
 cases hd : l.drop p with
 | nil => rw [hd] at h; cases h
 | cons x r =>
  rw [hd] at h
  cases h5 : Nat.beq x.1 2 with
  | false => simp only [h5, cond_false] at h; cases h
  | true =>
   simp only [h5, cond_true] at h
   rw [waitN_eq hd (Nat.eq_of_beq_eq_true h5), Nat.eq_of_beq_eq_true h]
structure RowsOk (L : List Cr) (a p : Nat) : Prop where
  few : FewR L
  look : LookR L p (2 * a + 2) 1 50 50
  len : p + 1 = L.length
  no3 : ∀ q, q < p → kdR L q ≠ 3
  cnt : passN L p (2 * a + 2) 1 50 = a
  fewK : FewK (L.map toCd)
  wt : waitN (L.map toCd) 1 = 0
  same : (L.map toCd).map mkE = L.map mkR
theorem checkR_told {a b : Nat} (ha : a ≤ 100) (hb : b ≤ 100) {l : List Cr} (h : checkR a b l = true) : RowsOk l a (2 * a + 2 * b + 5) := by
 unfold checkR at h
 cases h1 : fewRF (a + b + 2) l with
 | false => rw [h1] at h; cases h
 | true =>
  rw [h1] at h
  cases h2 : headShape (2 * a + 2) l with
  | false => rw [h2] at h; cases h
  | true =>
   rw [h2] at h
   cases h3 : Nat.beq (cntG (initF l) (2 * a + 2) (a + b + 3)) a with
   | false => rw [h3] at h; cases h
   | true =>
    rw [h3] at h
    cases h4 : atF 1 0 (l.map toCd) with
    | false => rw [h4] at h; cases h
    | true =>
     rw [h4] at h
     have hlen : l.length = 2 * a + 2 * b + 6 := Nat.eq_of_beq_eq_true h
     obtain ⟨n, e1, e2, e3, e4⟩ := head_told h2
     obtain rfl : n = 2 * b + 2 := by omega
     have hf := few_told (B := a + b + 2) (by omega) h1
     have hp : 2 * a + 2 + 1 + (2 * b + 2) = 2 * a + 2 * b + 5 := by omega
     rw [hp] at e3 e4
     refine ⟨⟨fun x hx => ⟨(hf x hx).1, by have := (hf x hx).2.1; omega, (hf x hx).2.2.1⟩, by omega⟩, ⟨by omega, by omega, e3, e2, fun q h1 h2 => (e4 q h2).2 h1⟩, by omega, fun q hq => (e4 q hq).1, ?_, ⟨fun y hy => ?_, by rw [List.length_map]; omega⟩, ?_, ?_⟩
     · have hpl : 2 * a + 2 * b + 5 ≤ l.length := by omega
       have hno : ∀ x, a + b + 3 ≤ x → passP l (2 * a + 2 * b + 5) (2 * a + 2) 1 50 x = false := fun x hx => by
        unfold passP
        cases hl : lastR l (2 * a + 2 * b + 5) (x : Int) with
        | none => rfl
        | some i =>
         obtain ⟨_, c, hc, _, hxc⟩ := last_some hl
         have := (hf c (List.mem_of_getElem? hc)).2.1
         omega
       unfold passN
       have h5 := cnt_more _ (a + b + 3) hno (1001 - (a + b + 3))
       rw [show a + b + 3 + (1001 - (a + b + 3)) = 1001 by omega] at h5
       rw [h5, cnt_range _ (l.take (2 * a + 2 * b + 5)) (2 * a + 2) (fun x => pass_eq l _ _ x hpl)]
       have h6 := Nat.eq_of_beq_eq_true h3
       rw [init_eq, hlen] at h6
       exact h6
     · obtain ⟨c, hc, rfl⟩ := List.mem_map.1 hy
       have h7 := hf c hc
       exact ⟨by show c.1 ≤ 3 ∨ c.1 = 10; omega, by show c.2.1 ≤ 1000; have := h7.2.1; omega⟩
     · have := at_told h4
       exact this
     · rw [List.map_map]
       refine List.map_congr_left (fun c hc => ?_)
       have h7 := hf c hc
       obtain ⟨k, i, y⟩ := c
       show mkE (k, i, y, 0) = mkR (k, i, y)
       unfold mkE mkR
       simp only at h7 ⊢
       congr 1
       by_cases k1 : k = 1
       · rw [if_pos k1, if_pos k1]
       · by_cases k2 : k = 2
         · rw [if_neg k1, if_neg k1, if_pos k2, if_neg (by omega)]
         · rw [if_neg k1, if_neg k1, if_neg k2, if_pos (by omega)]
set_option maxRecDepth 1000000 in
theorem chkR0 : loopF (fun b => checkR 0 b (evsR 0 b)) 20 = true := by kernel_rfl
set_option maxRecDepth 1000000 in
theorem chkR1 : loopF (fun b => checkR 1 b (evsR 1 b)) 20 = true := by kernel_rfl
set_option maxRecDepth 1000000 in
theorem chkR2 : loopF (fun b => checkR 2 b (evsR 2 b)) 20 = true := by kernel_rfl
set_option maxRecDepth 1000000 in
theorem chkR3 : loopF (fun b => checkR 3 b (evsR 3 b)) 20 = true := by kernel_rfl
set_option maxRecDepth 1000000 in
theorem chkR4 : loopF (fun b => checkR 4 b (evsR 4 b)) 20 = true := by kernel_rfl
set_option maxRecDepth 1000000 in
theorem chkR5 : loopF (fun b => checkR 5 b (evsR 5 b)) 20 = true := by kernel_rfl
set_option maxRecDepth 1000000 in
theorem chkR6 : loopF (fun b => checkR 6 b (evsR 6 b)) 20 = true := by kernel_rfl
set_option maxRecDepth 1000000 in
theorem chkR7 : loopF (fun b => checkR 7 b (evsR 7 b)) 20 = true := by kernel_rfl
set_option maxRecDepth 1000000 in
theorem chkR8 : loopF (fun b => checkR 8 b (evsR 8 b)) 20 = true := by kernel_rfl
set_option maxRecDepth 1000000 in
theorem chkR9 : loopF (fun b => checkR 9 b (evsR 9 b)) 20 = true := by kernel_rfl
set_option maxRecDepth 1000000 in
theorem chkR10 : loopF (fun b => checkR 10 b (evsR 10 b)) 20 = true := by kernel_rfl
set_option maxRecDepth 1000000 in
theorem chkR11 : loopF (fun b => checkR 11 b (evsR 11 b)) 20 = true := by kernel_rfl
set_option maxRecDepth 1000000 in
theorem chkR12 : loopF (fun b => checkR 12 b (evsR 12 b)) 20 = true := by kernel_rfl
set_option maxRecDepth 1000000 in
theorem chkR13 : loopF (fun b => checkR 13 b (evsR 13 b)) 20 = true := by kernel_rfl
set_option maxRecDepth 1000000 in
theorem chkR14 : loopF (fun b => checkR 14 b (evsR 14 b)) 20 = true := by kernel_rfl
set_option maxRecDepth 1000000 in
theorem chkR15 : loopF (fun b => checkR 15 b (evsR 15 b)) 20 = true := by kernel_rfl
set_option maxRecDepth 1000000 in
theorem chkR16 : loopF (fun b => checkR 16 b (evsR 16 b)) 20 = true := by kernel_rfl
set_option maxRecDepth 1000000 in
theorem chkR17 : loopF (fun b => checkR 17 b (evsR 17 b)) 20 = true := by kernel_rfl
set_option maxRecDepth 1000000 in
theorem chkR18 : loopF (fun b => checkR 18 b (evsR 18 b)) 20 = true := by kernel_rfl
set_option maxRecDepth 1000000 in
theorem chkR19 : loopF (fun b => checkR 19 b (evsR 19 b)) 20 = true := by kernel_rfl
theorem rows_ok (a b : Nat) (ha : a < 20) (hb : b < 20) : RowsOk (evsR a b) a (2 * a + 2 * b + 5) := by
 refine checkR_told (by omega) (by omega) ?_
 have h : a = 0 ∨ a = 1 ∨ a = 2 ∨ a = 3 ∨ a = 4 ∨ a = 5 ∨ a = 6 ∨ a = 7 ∨ a = 8 ∨ a = 9 ∨ a = 10 ∨ a = 11 ∨ a = 12 ∨ a = 13 ∨ a = 14 ∨ a = 15 ∨ a = 16 ∨ a = 17 ∨ a = 18 ∨ a = 19 := by omega
 rcases h with rfl | rfl | rfl | rfl | rfl | rfl | rfl | rfl | rfl | rfl | rfl | rfl | rfl | rfl | rfl | rfl | rfl | rfl | rfl | rfl
 · exact loopF_all chkR0 b hb
 · exact loopF_all chkR1 b hb
 · exact loopF_all chkR2 b hb
 · exact loopF_all chkR3 b hb
 · exact loopF_all chkR4 b hb
 · exact loopF_all chkR5 b hb
 · exact loopF_all chkR6 b hb
 · exact loopF_all chkR7 b hb
 · exact loopF_all chkR8 b hb
 · exact loopF_all chkR9 b hb
 · exact loopF_all chkR10 b hb
 · exact loopF_all chkR11 b hb
 · exact loopF_all chkR12 b hb
 · exact loopF_all chkR13 b hb
 · exact loopF_all chkR14 b hb
 · exact loopF_all chkR15 b hb
 · exact loopF_all chkR16 b hb
 · exact loopF_all chkR17 b hb
 · exact loopF_all chkR18 b hb
 · exact loopF_all chkR19 b hb
end Go.Proofs.Ytidjppjijeepnaa.V
end
section
set_option linter.unusedVariables false
set_option linter.unusedSimpArgs false
namespace Go.Proofs.Ytidjppjijeepnaa.V
open Go.RowKit Go.Proofs.YtidjppjijeepnaaW.PrintWords Go.Proofs.YtidjppjijeepnaaW.PrintLast Go.Proofs.YtidjppjijeepnaaW.PrintMore
theorem and_maskL (x : Int) (m : Nat) (hm : m < 4611686018427387904) : 0 ≤ Go.bits .and .i64 x (m : Int) ∧ Go.bits .and .i64 x (m : Int) ≤ (m : Int) := by
 have h2 : (BitVec.ofInt 64 (m : Int)).toNat = m := by
  rw [BitVec.ofInt_natCast, BitVec.toNat_ofNat]; exact Nat.mod_eq_of_lt (by omega)
 have h3 : ((BitVec.ofInt 64 x) &&& (BitVec.ofInt 64 (m : Int))).toNat ≤ m := by
  rw [BitVec.toNat_and, h2]
  exact Nat.and_le_right
 show 0 ≤ IntKind.i64.wrap ((BitVec.ofInt 64 x &&& BitVec.ofInt 64 (m : Int)).toNat : Int) ∧ IntKind.i64.wrap ((BitVec.ofInt 64 x &&& BitVec.ofInt 64 (m : Int)).toNat : Int) ≤ _
 rw [i64_w]
 unfold wrap64
 omega
end Go.Proofs.Ytidjppjijeepnaa.V
end
section
set_option linter.unusedVariables false
set_option linter.unusedSimpArgs false
namespace Go.Proofs.Ytidjppjijeepnaa.V
open Go.RowKit Go.Proofs.YtidjppjijeepnaaW.PrintWords Go.Proofs.YtidjppjijeepnaaW.PrintLast Go.Proofs.YtidjppjijeepnaaW.PrintMore
theorem partA_len (m : Nat) : (partA m).length = 2 + 2 * m := by
 induction m with
 | zero => rfl
 | succ m ih => show (partA m ++ _).length = _; rw [List.length_append, ih]; show 2 + 2 * m + 2 = _; omega
theorem partB_len (a m : Nat) : (partB a m).length = 3 + 2 * a + 2 * m := by
 induction m with
 | zero => show (partA a ++ _).length = _; rw [List.length_append, partA_len]; show 2 + 2 * a + 1 = _; omega
 | succ m ih => show (partB a m ++ _).length = _; rw [List.length_append, ih]; show 3 + 2 * a + 2 * m + 2 = _; omega
set_option maxRecDepth 100000 in
set_option maxHeartbeats 8000000 in
theorem boundRows_walk (x y : Int) (w : World) :
 Calls Try.prog 3 #[.int .i64 x, .int .i64 y] w fun e w' => e = .returned (.bool true) ∧ Below w.heap.size w w' := by
 have hx := and_maskL x 255 (by omega)
 rw [show ((255 : Nat) : Int) = 255 from rfl] at hx
 obtain ⟨zx, hzx⟩ : ∃ z : Nat, bits BinOp.and IntKind.i64 x 255 = (z : Int) := ⟨(bits BinOp.and IntKind.i64 x 255).toNat, by omega⟩
 have hy := and_maskL y 255 (by omega)
 rw [show ((255 : Nat) : Int) = 255 from rfl] at hy
 obtain ⟨zy, hzy⟩ : ∃ z : Nat, bits BinOp.and IntKind.i64 y 255 = (z : Int) := ⟨(bits BinOp.and IntKind.i64 y 255).toNat, by omega⟩
 obtain ⟨a, ha⟩ : ∃ a, zx % 20 = a := ⟨_, rfl⟩
 obtain ⟨b, hb⟩ : ∃ b, zy % 20 = b := ⟨_, rfl⟩
 have ha20 : a < 20 := by omega
 have hb20 : b < 20 := by omega
 have r1 : (zx : Int).tmod 20 = (a : Int) := by rw [Int.tmod_eq_emod_of_nonneg (by omega)]; omega
 have r2 : (zx : Int) % 20 = (a : Int) := by omega
 have r3 : (zy : Int).tmod 20 = (b : Int) := by rw [Int.tmod_eq_emod_of_nonneg (by omega)]; omega
 have r4 : (zy : Int) % 20 = (b : Int) := by omega
 have hB0 := below_alloc (below_alloc (Below.refl w.heap.size w) (.cells #[.slice none 0 0] 22)) (.cells #[.int .i64 0] 3)
 have hX1 := heap_alloc_new (w.alloc (.cells #[.slice none 0 0] 22)) (.cells #[.int .i64 0] 3)
 have hX0 := blk_below (heap_alloc_new w (.cells #[.slice none 0 0] 22)) (below_alloc (Below.refl (w.alloc (.cells #[.slice none 0 0] 22)).heap.size (w.alloc (.cells #[.slice none 0 0] 22))) (.cells #[.int .i64 0] 3))
 rw [World.size_alloc] at hX1
 obtain ⟨gl, hgl⟩ : ∃ gl, gl = w.heap.size := ⟨_, rfl⟩
 obtain ⟨gi, hgi⟩ : ∃ gi, gi = w.heap.size + 1 := ⟨_, rfl⟩
 obtain ⟨wz, hwz⟩ : ∃ wz, wz = (w.alloc (.cells #[.slice none 0 0] 22)).alloc (.cells #[.int .i64 0] 3) := ⟨_, rfl⟩
 rw [← hwz] at hB0 hX1 hX0
 have HS := Aside0.mk (show RwSt w wz gi gl (.slice none 0 0) [] 0 from ⟨by rw [hgi]; exact hX1, by rw [hgl]; exact hX0, by omega, Kd.R_nil _ _ _ _ _, hB0, by omega⟩)
 have HXL := Aside0.mk (show ([] : List Cr).length ≤ 300 from by simp)
 clear hx hy ha hb hB0 hX0 hX1
 go_enter Try.func3, Try.ntmps3
 go_upto_region 4 with fail
 rw [← hgi, ← hgl, ← hwz]
 clear hgi hgl hwz
 go_upto_block 0 with ((with_reducible refine gate_dst (N := 19) rfl ?_); go_loud (refine goesLC_ (some 19) rfl rfl Try.func5 (by kernel_rfl) rfl #[.int .u64 50, .pointer (some ⟨gi, 0, none⟩), .pointer (some ⟨gl, 0, none⟩)] rfl rfl (by (try simp only [List.map_toArray, List.map_cons, List.map_nil]); first | done | rfl) ?_; refine (put_walk w _ gi gl _ _ _ 50 HS.out (by omega) (by have := HXL.out; omega) (by omega)).mono ?_; rintro q w1 ⟨rfl, v1, h1⟩; have HS1 := Aside0.mk h1; clear h1; refine ⟨_, rfl, ?_⟩))
 have HST := Aside0.mk (show RwSt w w1 gi gl v1 (partA 0) (0 + 1) from HS1.out)
 clear HS HXL HS1
 go_wp2_with fail
 rename World => wk
 go_loopw [8] (fun i wr => ∃ (m : Nat) (v : Value), m ≤ a ∧ i = .int .i64 (m : Int) ∧ Aside0 (RwSt w wr gi gl v (partA m) (m + 1))) (fun i _ => a - (intOf i).toNat)
 case atStart => exact ⟨0, _, Nat.zero_le _, rfl, HST⟩
 case round =>
  clear HST
  obtain ⟨m, v, hm, rfl, HS⟩ := hrel
  by_cases hlt : m < a
  · have hlt2 : (m : Int) < (a : Int) := by omega
    have hw1 : IntKind.i64.wrap ((m : Int) + 1) = (m : Int) + 1 := IntWalk.i64_in _ (by omega)
    have hw2 : IntKind.u64.wrap (m : Int) = (m : Int) := IntWalk.u64_in _ (by omega)
    have HXL := Aside0.mk (show (partA m).length ≤ 300 by rw [partA_len]; omega)
    go_wp2_with ((with_reducible refine gate_dst (N := 28) rfl ?_); go_loud (refine goesLC_ (some 28) rfl rfl Try.func5 (by kernel_rfl) rfl #[.int .u64 (m : Int), .pointer (some ⟨gi, 0, none⟩), .pointer (some ⟨gl, 0, none⟩)] rfl rfl (by (try simp only [List.map_toArray, List.map_cons, List.map_nil]); first | done | rfl) ?_; refine (put_walk w _ gi gl _ _ _ m HS.out (by omega) (by have := HXL.out; omega) (by omega)).mono ?_; rintro q w1 ⟨rfl, v1, h1⟩; have HS1 := Aside0.mk h1; clear h1; refine ⟨_, rfl, ?_⟩))
    have HST := Aside0.mk (show RwSt w w1 gi gl v1 (partA (m + 1)) (m + 1 + 1) from HS1.out)
    go_roundw
    case rel => exact ⟨m + 1, _, by omega, by go_num, HST⟩
    case measure => simp [intOf]; omega
  · obtain rfl : m = a := by omega
    have HXL := Aside0.mk (show ((partA m).map mkR).length ≤ 300 by rw [List.length_map, partA_len]; omega)
    have hlt2 : ¬ (m : Int) < (m : Int) := by omega
    have y0 : wr.cell? ⟨gl, 0, none⟩ = some v := (blk_cell HS.out.hl 0).trans rfl
    have HEV := Aside0.mk (show Kd.C k25 (wr.alloc (.cells #[.int .i64 10, .int .i64 1, .int .i64 1, .int .u64 50, .int .u64 0, .int .u64 0] 25)) (some ⟨wr.heap.size, 0, none⟩) 1 (([(10, 1, 50)] : List Cr).map mkR) from evR_row1 _ (heap_alloc_new wr (.cells #[.int .i64 10, .int .i64 1, .int .i64 1, .int .u64 50, .int .u64 0, .int .u64 0] 25)))
    have HBA := Aside0.mk (below_alloc (Below.refl wr.heap.size wr) (.cells #[.int .i64 10, .int .i64 1, .int .i64 1, .int .u64 50, .int .u64 0, .int .u64 0] 25))
    have HRO := Aside0.mk (Kd.R_alloc HS.out.row (.cells #[.int .i64 10, .int .i64 1, .int .i64 1, .int .u64 50, .int .u64 0, .int .u64 0] 25))
    have HBO := Aside0.mk (below_step HS.out.bel HBA.out)
    have HFR := Aside0.mk (HS.out.fresh HBA.out.size)
    have HHI := Aside0.mk (blk_below HS.out.hi HBA.out)
    have HHL := Aside0.mk (blk_below HS.out.hl HBA.out)
    go_wp2_with (at_builtin; go_loud (refine Kd.R_append_rows k25 (w0 := w) w.heap.size rfl (.tmp 29) (.tmp 31) 22 25 (.agg #[.int .i64 0, .int .i64 0, .int .i64 0, .int .u64 0, .int .u64 0, .int .u64 0]) 48 rfl Try.underlying22 info25 rfl (by decide) (by decide) v ((partA m).map mkR) (([(10, 1, 50)] : List Cr).map mkR) (some ⟨wr.heap.size, 0, none⟩) 1 1 (fun k_ => k_ ≠ gi ∧ k_ ≠ gl) (fun _ => False) rfl rfl HRO.out HEV.out (fun _ _ h => h) (fun _ h => h.elim) HFR.out HBO.out HBO.out.size (by have := HXL.out; omega) ?_; intro v1 w1 ho1 hb1 hg1 hat1; obtain ⟨A1, c1, hv1⟩ := Kd.R_slice ho1; generalize hnl_ : List.length (_ ++ _) = nl_ at hv1; subst hv1; clear hnl_; have HQ1 := Aside0.mk (show Kd.R k25 25 w1 w.heap.size (fun k_ => k_ ≠ gi ∧ k_ ≠ gl) (.slice A1 nl_ c1) ((partA m ++ [(10, 1, 50)]).map mkR) from by rw [List.map_append]; exact ho1); have HB1 := Aside0.mk hb1; have HI1 := Aside0.mk (RwSt.keep hg1 HRO.out HHI.out (.inl rfl)); have HL1 := Aside0.mk (RwSt.keep hg1 HRO.out HHL.out (.inr rfl)); have f0 := blk_frozen HL1.out 0; have f1 := (blk_cell HL1.out 0).trans rfl; clear ho1 hb1 hg1 hat1))
    have HST := Aside0.mk (show RwSt w (w1.setCell ⟨gl, 0, none⟩ (.slice A1 nl_ c1)) gi gl (.slice A1 nl_ c1) (partB m 0) (m + 1 + 0) from RwSt.setRow HI1.out HL1.out HS.out.ne HQ1.out HB1.out HS.out.lo)
    obtain ⟨we, hwe⟩ : ∃ we, we = w1.setCell ⟨gl, 0, none⟩ (.slice A1 nl_ c1) := ⟨_, rfl⟩
    obtain ⟨ve, hve⟩ : ∃ ve, ve = Value.slice A1 nl_ c1 := ⟨_, rfl⟩
    rw [← hwe, ← hve] at HST
    rw [← hwe]
    clear hwe hve HQ1 HB1 HI1 HL1 f0 f1 y0 HS HEV HRO HBO HFR HHI HHL HBA HXL
    go_wp2_with fail
    go_loopw [9] (fun i wr => ∃ (q : Nat) (v : Value), q ≤ b ∧ i = .int .i64 (q : Int) ∧ Aside0 (RwSt w wr gi gl v (partB m q) (m + 1 + q))) (fun i _ => b - (intOf i).toNat)
    case atStart => exact ⟨0, _, Nat.zero_le _, rfl, HST⟩
    case round =>
     clear HST
     obtain ⟨q, v, hq, rfl, HS⟩ := hrel
     by_cases hlt3 : q < b
     · have hlt4 : (q : Int) < (b : Int) := by omega
       have hw3 : IntKind.i64.wrap ((q : Int) + 1) = (q : Int) + 1 := IntWalk.i64_in _ (by omega)
       have hw4 : IntKind.i64.wrap (20 + (q : Int)) = 20 + (q : Int) := IntWalk.i64_in _ (by omega)
       have hw5 : IntKind.u64.wrap (20 + (q : Int)) = 20 + (q : Int) := IntWalk.u64_in _ (by omega)
       have HXL := Aside0.mk (show (partB m q).length ≤ 300 by rw [partB_len]; omega)
       go_wp2_with ((with_reducible refine gate_dst (N := 42) rfl ?_); go_loud (refine goesLC_ (some 42) rfl rfl Try.func5 (by kernel_rfl) rfl #[.int .u64 (20 + (q : Int)), .pointer (some ⟨gi, 0, none⟩), .pointer (some ⟨gl, 0, none⟩)] rfl rfl (by (try simp only [List.map_toArray, List.map_cons, List.map_nil]); first | done | rfl) ?_; refine (put_walk w _ gi gl _ _ _ (20 + q) HS.out (by omega) (by have := HXL.out; omega) (by omega)).mono ?_; rintro q w1 ⟨rfl, v1, h1⟩; have HS1 := Aside0.mk h1; clear h1; refine ⟨_, rfl, ?_⟩))
       have HST := Aside0.mk (show RwSt w w1 gi gl v1 (partB m (q + 1)) (m + 1 + (q + 1)) from HS1.out)
       go_roundw
       case rel => exact ⟨q + 1, _, by omega, by go_num, HST⟩
       case measure => simp [intOf]; omega
     · obtain rfl : q = b := by omega
       have hlt4 : ¬ (q : Int) < (q : Int) := by omega
       have HXL := Aside0.mk (show (partB m q).length ≤ 300 by rw [partB_len]; omega)
       go_upto_region 16 with ((with_reducible refine gate_dst (N := 44) rfl ?_); go_loud (refine goesLC_ (some 44) rfl rfl Try.func5 (by kernel_rfl) rfl #[.int .u64 77, .pointer (some ⟨gi, 0, none⟩), .pointer (some ⟨gl, 0, none⟩)] rfl rfl (by (try simp only [List.map_toArray, List.map_cons, List.map_nil]); first | done | rfl) ?_; refine (put_walk w _ gi gl _ _ _ 77 HS.out (by omega) (by have := HXL.out; omega) (by omega)).mono ?_; rintro q w1 ⟨rfl, v1, h1⟩; have HS1 := Aside0.mk h1; clear h1; refine ⟨_, rfl, ?_⟩))
       have HS2 := Aside0.mk (show RwSt w w1 gi gl v1 (partB m q ++ [(1, m + 1 + q + 1, 0), (2, m + 1 + q + 1, 77)]) (m + 1 + q + 1) from HS1.out)
       clear HS HXL HS1
       have HS := HS2
       clear HS2
       rename World => wk
       have HXL := Aside0.mk (show ((partB m q ++ [(1, m + 1 + q + 1, 0), (2, m + 1 + q + 1, 77)]).map mkR).length ≤ 300 by rw [List.length_map, List.length_append, partB_len]; show 3 + 2 * m + 2 * q + 2 ≤ 300; omega)
       have y0 : wk.cell? ⟨gl, 0, none⟩ = some v1 := (blk_cell HS.out.hl 0).trans rfl
       have HEV := Aside0.mk (show Kd.C k25 (wk.alloc (.cells #[.int .i64 3, .int .i64 1, .int .i64 1, .int .u64 50, .int .u64 0, .int .u64 0] 25)) (some ⟨wk.heap.size, 0, none⟩) 1 (([(3, 1, 50)] : List Cr).map mkR) from evR_row1 _ (heap_alloc_new wk (.cells #[.int .i64 3, .int .i64 1, .int .i64 1, .int .u64 50, .int .u64 0, .int .u64 0] 25)))
       have HBA := Aside0.mk (below_alloc (Below.refl wk.heap.size wk) (.cells #[.int .i64 3, .int .i64 1, .int .i64 1, .int .u64 50, .int .u64 0, .int .u64 0] 25))
       have HRO := Aside0.mk (Kd.R_alloc HS.out.row (.cells #[.int .i64 3, .int .i64 1, .int .i64 1, .int .u64 50, .int .u64 0, .int .u64 0] 25))
       have HBO := Aside0.mk (below_step HS.out.bel HBA.out)
       have HFR := Aside0.mk (HS.out.fresh HBA.out.size)
       have HHI := Aside0.mk (blk_below HS.out.hi HBA.out)
       have HHL := Aside0.mk (blk_below HS.out.hl HBA.out)
       go_upto_region 17 with (at_builtin; go_loud (refine Kd.R_append_rows k25 (w0 := w) w.heap.size rfl (.tmp 45) (.tmp 47) 22 25 (.agg #[.int .i64 0, .int .i64 0, .int .i64 0, .int .u64 0, .int .u64 0, .int .u64 0]) 48 rfl Try.underlying22 info25 rfl (by decide) (by decide) v1 ((partB m q ++ [(1, m + 1 + q + 1, 0), (2, m + 1 + q + 1, 77)]).map mkR) (([(3, 1, 50)] : List Cr).map mkR) (some ⟨wk.heap.size, 0, none⟩) 1 1 (fun k_ => k_ ≠ gi ∧ k_ ≠ gl) (fun _ => False) rfl rfl HRO.out HEV.out (fun _ _ h => h) (fun _ h => h.elim) HFR.out HBO.out HBO.out.size (by have := HXL.out; omega) ?_; intro v2 w1 ho1 hb1 hg1 hat1; obtain ⟨A1, c1, hv1⟩ := Kd.R_slice ho1; generalize hnl_ : List.length (_ ++ _) = nl_ at hv1; subst hv1; clear hnl_; have HQ1 := Aside0.mk (show Kd.R k25 25 w1 w.heap.size (fun k_ => k_ ≠ gi ∧ k_ ≠ gl) (.slice A1 nl_ c1) ((partB m q ++ [(1, m + 1 + q + 1, 0), (2, m + 1 + q + 1, 77)] ++ [(3, 1, 50)]).map mkR) from by rw [List.map_append]; exact ho1); have HB1 := Aside0.mk hb1; have HI1 := Aside0.mk (RwSt.keep hg1 HRO.out HHI.out (.inl rfl)); have HL1 := Aside0.mk (RwSt.keep hg1 HRO.out HHL.out (.inr rfl)); have f0 := blk_frozen HL1.out 0; have f1 := (blk_cell HL1.out 0).trans rfl; clear ho1 hb1 hg1 hat1))
       obtain ⟨L, hL⟩ : ∃ L, evsR m q = L := ⟨_, rfl⟩
       have HOK := Aside0.mk (show RowsOk L m (2 * m + 2 * q + 5) by rw [← hL]; exact rows_ok m q (by omega) (by omega))
       have HST := Aside0.mk (show RwSt w (w1.setCell ⟨gl, 0, none⟩ (.slice A1 nl_ c1)) gi gl (.slice A1 nl_ c1) L (m + 1 + q + 1) from by rw [← hL]; exact RwSt.setRow HI1.out HL1.out HS.out.ne HQ1.out HB1.out HS.out.lo)
       obtain ⟨we, hwe⟩ : ∃ we, we = w1.setCell ⟨gl, 0, none⟩ (.slice A1 nl_ c1) := ⟨_, rfl⟩
       rw [← hwe] at HST
       clear HQ1 HB1 HI1 HL1 f0 f1 y0 HS HEV HRO HBO HFR HHI HHL HBA HXL hL
       obtain ⟨l, hl⟩ : ∃ l, l = L.map mkR := ⟨_, rfl⟩
       have HLM := Aside0.mk hl
       have hrd := Kd.R_reads' HST.out.row
       rw [← hl] at hrd
       obtain ⟨hnl, hc1, hC⟩ := hrd
       subst hnl
       have HRD := Aside0.mk hC
       have HC1 := Aside0.mk hc1
       have hll : l.length = 2 * m + 2 * q + 6 := by rw [hl, List.length_map, ← HOK.out.len]
       obtain ⟨p, hp⟩ : ∃ p, p = 2 * m + 2 * q + 5 := ⟨_, rfl⟩
       have hw6 : IntKind.i64.wrap ((l.length : Int) - 1) = (p : Int) := by rw [hll, show ((2 * m + 2 * q + 6 : Nat) : Int) - 1 = (p : Int) by omega]; exact IntWalk.i64_in _ (by omega)
       have hw7 : IntKind.i64.wrap ((p : Int) - 1) = ((p - 1 : Nat) : Int) := by rw [show (p : Int) - 1 = ((p - 1 : Nat) : Int) by omega]; exact IntWalk.i64_in _ (by omega)
       rw [← hp] at HOK
       have HP := Aside0.mk hp
       have z0 : we.cell? ⟨gl, 0, none⟩ = some (.slice A1 l.length c1) := (blk_cell HST.out.hl 0).trans rfl
       clear hl hC hc1 hll hp
       go_upto_region 17 with fail
       rw [← hwe]
       clear hwe
       go_wp2_with fail
       refine (passed_yes L HOK.out.few A1 c1 we l HLM.out HRD.out HC1.out p (2 * m + 2) 1 50 50 HOK.out.look).mono ?_
       rintro e w2 ⟨rfl, hb2⟩
       rw [HOK.out.cnt]
       have HB2 := Aside0.mk hb2
       have z2 := pw_cell_below hb2 z0
       clear hb2
       go_wp2_with fail
       refine (rho_walk L HOK.out.few A1 c1 w2 l HLM.out (Kd.C_below HRD.out HB2.out) HC1.out p (2 * m + 2) 1 50 50 m HOK.out.look HOK.out.len HOK.out.no3 HOK.out.cnt).mono ?_
       rintro e w3 ⟨rfl, hb3⟩
       have HB3 := Aside0.mk (below_step HB2.out hb3)
       have z3 := pw_cell_below hb3 z2
       clear hb3 z2
       go_wp2_with fail
       refine (passed_no L A1 c1 w3 l HLM.out (Kd.C_below HRD.out HB3.out) HC1.out (p - 1) (HOK.out.no3 (p - 1) (by have := HP.out; omega))).mono ?_
       rintro e w4 ⟨rfl, hb4⟩
       have HB4 := Aside0.mk (below_step HB3.out hb4)
       have z4 := pw_cell_below hb4 z3
       clear hb4 z3
       go_wp2_with fail
       refine (waited_walk (L.map toCd) HOK.out.fewK A1 c1 w4 l (by rw [HLM.out, HOK.out.same]) (Kd.C_below HRD.out HB4.out) HC1.out 1 (by omega)).mono ?_
       rintro e w5 ⟨rfl, hb5⟩
       rw [HOK.out.wt]
       have HB5 := Aside0.mk (below_step HB4.out hb5)
       clear hb5 z4
       go_wp2_with fail
       refine (awake22 _).mono ?_
       rintro e w6 ⟨rfl, hb6⟩
       have HB6 := Aside0.mk (below_step HST.out.bel (below_step HB5.out hb6))
       clear hb6
       go_wp2
       go_ret
       exact ⟨rfl, HB6.out⟩
end Go.Proofs.Ytidjppjijeepnaa.V
end
section
set_option linter.unusedVariables false
set_option linter.unusedSimpArgs false
namespace Go.Proofs.Ytidjppjijeepnaa.V
open Go.RowKit Go.Proofs.YtidjppjijeepnaaW.PrintWords Go.Proofs.YtidjppjijeepnaaW.PrintLast Go.Proofs.YtidjppjijeepnaaW.PrintMore
def vergerlaw22_BoundRows.f (a0 : Int) (a1 : Int) : Option Bool := some true
theorem vergerlaw22_BoundRows.calls (a0 : Int) (a1 : Int) (r : Bool) (w : World)  (h : vergerlaw22_BoundRows.f a0 a1 = some r) :
 Calls Try.prog 3 #[.int .i64 a0, .int .i64 a1] w fun e w' => e = .returned (.bool r) ∧ Below w.heap.size w w' := by
 obtain rfl := Option.some.inj h
 exact boundRows_walk a0 a1 w
theorem BoundRows_pure (a0 : Int) (a1 : Int) {P0 P1 : Prop} (_ : P0) (_ : P1) : vergerlaw22_BoundRows.f a0 a1 = some true := rfl
end Go.Proofs.Ytidjppjijeepnaa.V
end
