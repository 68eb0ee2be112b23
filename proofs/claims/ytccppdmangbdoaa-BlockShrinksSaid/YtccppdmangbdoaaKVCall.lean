-- a text of this work, without what this claim doesn't use (wip/shake.py)
import Derived.Test.YtccppdmangbdoaaKWMore
import Derived.Below
set_option linter.unusedVariables false
set_option linter.unusedSimpArgs false
namespace Go.Proofs.YtccppdmangbdoaaW.PrintLast
section
variable {P : Program} {ops : Array Oper} {Q : Exit → Act → World → Prop}
theorem goesLC_ {rest : List Oper} {oi : Oper} {a : Act} {w : World} (N : Option Tmp) (hd : oi.dst = N) (hg : oi.guard = none) {f : FuncId} {fn : Func} {as : Array Operand} {ts : Array TypeId} {x : Operand} {cb : Array Value} (hf : P.funcs[f]? = some fn) (hname : (fn.name == "runtime.NumGoroutine") = false) (hb : fn.body.isSome = true) (args : Array Value)
 (hop : oi.op = .call { callee := .value x, args := as, argTypes := ts }) (hx : a.eval x = .func (.func f) #[] cb) (hargs : as.map a.eval ++ cb = args)
 (h : Calls P f args w fun e w' => ∃ v, e = .returned v ∧ wpList P ops Q rest (a.put N v) w') : wpList P ops Q (oi :: rest) a w := by
 refine wpList_plain hg fun K hK => ?_
 have he := enters_ hf hname hb args w
 have hrun : (execOp a.eval oi).run P w = .ok (.enter f args) w := by
  unfold execOp
  simp [hop, resolve, Deferred.ofValue, invoke, hx, hargs, he]
 unfold Oper.wp
 rw [hrun, Oper.upon_enter]
 refine h.mono fun e w'' hh => ?_
 obtain ⟨v, rfl, hk⟩ := hh
 subst hd
 exact hK _ _ hk
theorem goesV_ {oi : Oper} {N : Option Tmp} {a : Act} {w : World} {K : Act → World → Prop} {f : FuncId} {fn : Func} {as : Array Operand} {ts : Array TypeId} {x : Operand} (hf : P.funcs[f]? = some fn) (hname : (fn.name == "runtime.NumGoroutine") = false) (hb : fn.body.isSome = true) (args : Array Value)
 (hw : Region.wanted oi (yielded ops a.tmps) = true) (hN : oi.dst = N) (hop : oi.op = .call { callee := .value x, args := as, argTypes := ts }) (hx : a.eval x = .func (.func f) #[] #[]) (hargs : as.map a.eval = args)
 (h : Calls P f args w fun e w' => ∃ v, e = .returned v ∧ K (a.put N v) w') : if Region.wanted oi (yielded ops a.tmps) = true then Oper.wp P oi a w K Q else K (a.put N undef) w := by
 refine call_ f args hw hN ?_ h
 have he := enters_ hf hname hb args w
 unfold execOp
 simp [hop, resolve, Deferred.ofValue, invoke, hx, hargs, he]
end
end Go.Proofs.YtccppdmangbdoaaW.PrintLast
namespace Go.Proofs.YtccppdmangbdoaaW.PrintWords
open Go.RowKit
theorem peel_f {W : World} {g s : Nat} {seg : List Value} {a : Addr} (h : World.frozen? (W.setCells g s seg) a = false) : World.frozen? W a = false := by
 induction seg generalizing s W with
 | nil => exact h
 | cons u r ih =>
  have := ih (W := W.setCell ⟨g, s, none⟩ u) (s := s + 1) h
  rwa [World.frozen?_setCell] at this
theorem peel_c0 {W : World} {g s t : Nat} {A B v : Value} (h : World.cell? (W.setCells g s [A, B]) ⟨g, t, none⟩ = some v) (hp : s + 1 ≠ t) : World.cell? (W.setCell ⟨g, s, none⟩ A) ⟨g, t, none⟩ = some v := by
 have h2 : World.cell? ((W.setCell ⟨g, s, none⟩ A).setCell ⟨g, s + 1, none⟩ B) ⟨g, t, none⟩ = some v := h
 rwa [World.cell?_setCell_other] at h2
 simp only [ne_eq, Addr.mk.injEq, not_and, true_and, and_true]
 intro he
 exact absurd he hp
namespace Kd
section
variable {α : Type} {d : Kd α} {e base g n c cap : Nat} {ok ok' ok1 okp : Nat → Prop} {w w1 W : World} {v : Value} {xs : List α} {A : Option Addr}
def RC (d : Kd α) (e : Nat) (w : World) (base : Nat) (ok : Nat → Prop) (v : Value) (xs : List α) : Prop :=
  (∀ k, v.ownBlock = some k → ok k) ∧ ∃ A n c c', v = .slice A n c ∧ n ≤ c ∧ c ≤ c' ∧ d.R e w base ok (.slice A n c') xs
theorem RC_mk {c' : Nat} (h1 : n ≤ c) (h2 : c ≤ c') (h3 : d.R e w base ok (.slice A n c') xs) : d.RC e w base ok (.slice A n c) xs :=
 ⟨fun k hk => h3.1 k (by cases A with | none => simp [Value.ownBlock] at hk | some a => exact hk), A, n, c, c', rfl, h1, h2, h3⟩
theorem RC_cut (h : d.R e w base ok (.slice A n c) xs) (hn : n ≤ cap) (hc : cap ≤ c) : d.RC e w base ok (.slice A n cap) xs := RC_mk hn hc h
theorem own_cap (A : Option Addr) (n c n' c' : Nat) : (Value.slice A n c).ownBlock = (Value.slice A n' c').ownBlock := by cases A <;> rfl
theorem RC_map (h : d.RC e w base ok v xs) (hm : ∀ A n c, d.R e w base ok (.slice A n c) xs → d.R e w1 base ok' (.slice A n c) xs) : d.RC e w1 base ok' v xs := by
 obtain ⟨_, A, n, c, c', rfl, h1, h2, h3⟩ := h
 exact RC_mk h1 h2 (hm _ _ _ h3)
theorem RC_below (h : d.RC e w base ok v xs) (hb : Below w.heap.size w w1) : d.RC e w1 base ok v xs := RC_map h (fun _ _ _ h => R_below h hb)
theorem RC_drew (h : d.RC e w base ok v xs) : d.RC e w.drew base ok v xs := RC_map h (fun _ _ _ h => R_drew h)
theorem RC_drewN (h : d.RC e w base ok v xs) (m : Nat) : d.RC e (w.drewN m) base ok v xs := RC_map h (fun _ _ _ h => R_drewN h m)
theorem RC_alloc (h : d.RC e w base ok v xs) (o : Obj) : d.RC e (w.alloc o) base ok v xs := RC_map h (fun _ _ _ h => R_alloc h o)
theorem RC_mono (h : d.RC e w base ok v xs) (hok : ∀ k, ok k → ok' k) : d.RC e w base ok' v xs := RC_map h (fun _ _ _ h => R_mono h hok)
theorem RC_reads' {A : Option Addr} {n c : Nat} (h : d.RC e w base ok (.slice A n c) xs) : n = xs.length ∧ n ≤ c ∧ d.C w A xs.length xs := by
 obtain ⟨_, A1, n1, c1, c', hv, h1, h2, h3⟩ := h
 injection hv with hA hn hc
 subst hA; subst hn; subst hc
 have := R_reads' h3
 exact ⟨this.1, h1, this.2.2⟩
theorem RC_slice (h : d.RC e w base ok v xs) : ∃ A c, v = .slice A xs.length c := by
 obtain ⟨_, A, n, c, c', rfl, h1, h2, h3⟩ := h
 have := (R_reads' h3).1
 subst this
 exact ⟨A, c, rfl⟩
theorem RC_elem (h : d.RC e W base ok (.slice (some ⟨g, 0, none⟩) n cap) xs) (z : α) (i : Int) (h0 : 0 ≤ i) (h1 : i < n) :
 ∃ c, c.length = d.sz ∧ d.M W base (fun k => ok k ∧ k ≠ g) (xs.getD i.toNat z) c ∧ (∀ j u, c[j]? = some u → W.cell? ⟨g, i.toNat * d.sz + j, none⟩ = some u) ∧ ∀ j, W.frozen? ⟨g, i.toNat * d.sz + j, none⟩ = false := by
 obtain ⟨_, A1, n1, c1, c', hv, h2, h3, h4⟩ := h
 injection hv with hA hn hc
 subst hA; subst hn; subst hc
 exact R_elem h4 z i h0 h1
theorem RC_tight (hE : d.E = []) (h : d.RC e w base ok v xs) : d.RC e w base (fun k => some k = v.ownBlock) v xs := by
 obtain ⟨_, A, n, c, c', rfl, h1, h2, h3⟩ := h
 exact RC_mk h1 h2 (R_mono (R_tight hE h3) (fun k hk => hk.trans (own_cap A n c' n c)))
theorem RC_reok (hE : d.E = []) (h : d.RC e W base ok1 v xs) (hok : ∀ k, v.ownBlock = some k → ok k) : d.RC e W base ok v xs := RC_mono (RC_tight hE h) (fun k hk => hok k hk.symm)
theorem RC_seg (h : d.RC e W base ok (.slice (some ⟨g, 0, none⟩) n cap) xs) (i : Int) (h0 : 0 ≤ i) (h1 : i < n) {c seg : List Value} {j : Nat} (hcl : c.length = d.sz) (hcc : ∀ j u, c[j]? = some u → W.cell? ⟨g, i.toNat * d.sz + j, none⟩ = some u)
 (hj : j + seg.length ≤ d.sz) {x' : α} (hM : d.M W base okp x' (c.take j ++ seg ++ c.drop (j + seg.length))) (hokp : ∀ k, okp k → ok k ∧ k ≠ g) :
 d.RC e (W.setCells g (i.toNat * d.sz + j) seg) base ok (.slice (some ⟨g, 0, none⟩) n cap) (xs.set i.toNat x') ∧ W.grownBy (W.setCells g (i.toNat * d.sz + j) seg) (some g) := by
 obtain ⟨_, A1, n1, c1, c', hv, h2, h3, h4⟩ := h
 injection hv with hA hn hc
 subst hA; subst hn; subst hc
 have := R_seg h4 i h0 h1 hcl hcc hj hM hokp
 exact ⟨RC_mk h2 h3 this.1, this.2⟩
theorem RC_form (h : d.RC e w base ok v xs) (hp : 0 < xs.length) : ∃ g cap, v = .slice (some ⟨g, 0, none⟩) xs.length cap ∧ base ≤ g ∧ g < w.heap.size ∧ ∃ cells, w.heap[g]? = some (.cells cells e (0, 0)) := by
 obtain ⟨_, A, n, c, c', rfl, h1, h2, h3⟩ := h
 obtain ⟨g, cap, hv, r⟩ := R_form h3 hp
 injection hv with hA hn hc
 subst hA; subst hn
 exact ⟨g, c, rfl, r⟩
end
end Kd
end Go.Proofs.YtccppdmangbdoaaW.PrintWords
