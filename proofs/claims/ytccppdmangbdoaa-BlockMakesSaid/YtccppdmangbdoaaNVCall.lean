-- a text of this work, without what this claim doesn't use (wip/shake.py)
import Derived.Test.YtccppdmangbdoaaNWWords
import Derived.Test.YtccppdmangbdoaaNWGuard
import Derived.Below
section
namespace Go.Proofs.YtccppdmangbdoaaW.PrintMore
open Go.RowKit Go.Proofs.YtccppdmangbdoaaW.PrintWords
namespace Kd
open Go.Proofs.YtccppdmangbdoaaW.PrintWords.Kd
end Kd
namespace Kd
open Go.Proofs.YtccppdmangbdoaaW.PrintWords.Kd
section
variable {α : Type} {d : Kd α} {e base g N : Nat} {ok : Nat → Prop} {W w1 : World} {u v : Value} {xs : List α}
end
end Kd
theorem max2_int (k k' : IntKind) (x y : Int) : Builtin.max2 (.int k x) (.int k' y) = pure (.int k (if x < y then y else x)) := by simp only [Builtin.max2, gt_iff_lt]
theorem min2_int (k k' : IntKind) (x y : Int) : Builtin.min2 (.int k x) (.int k' y) = pure (.int k (if y < x then y else x)) := by simp only [Builtin.min2]
theorem max_two (ats : Array TypeId) (ty : TypeId) (a b : Value) : Builtin.max_ ats ty #[a, b] = (Builtin.max2 a b >>= fun s => pure s) := by simp only [Builtin.max_, List.foldlM_cons, List.foldlM_nil]
theorem min_two (ats : Array TypeId) (ty : TypeId) (a b : Value) : Builtin.min_ ats ty #[a, b] = (Builtin.min2 a b >>= fun s => pure s) := by simp only [Builtin.min_, List.foldlM_cons, List.foldlM_nil]
theorem max_three (ats : Array TypeId) (ty : TypeId) (a b c : Value) : Builtin.max_ ats ty #[a, b, c] = (Builtin.max2 a b >>= fun s => Builtin.max2 s c >>= fun s => pure s) := by simp only [Builtin.max_, List.foldlM_cons, List.foldlM_nil]
theorem min_three (ats : Array TypeId) (ty : TypeId) (a b c : Value) : Builtin.min_ ats ty #[a, b, c] = (Builtin.min2 a b >>= fun s => Builtin.min2 s c >>= fun s => pure s) := by simp only [Builtin.min_, List.foldlM_cons, List.foldlM_nil]
theorem max_four (ats : Array TypeId) (ty : TypeId) (a b c d : Value) : Builtin.max_ ats ty #[a, b, c, d] = (Builtin.max2 a b >>= fun s => Builtin.max2 s c >>= fun s => Builtin.max2 s d >>= fun s => pure s) := by simp only [Builtin.max_, List.foldlM_cons, List.foldlM_nil]
theorem min_four (ats : Array TypeId) (ty : TypeId) (a b c d : Value) : Builtin.min_ ats ty #[a, b, c, d] = (Builtin.min2 a b >>= fun s => Builtin.min2 s c >>= fun s => Builtin.min2 s d >>= fun s => pure s) := by simp only [Builtin.min_, List.foldlM_cons, List.foldlM_nil]
end Go.Proofs.YtccppdmangbdoaaW.PrintMore
namespace Go.Proofs.YtccppdmangbdoaaW.PrintWords
open Go.RowKit
section
variable {P : Program} {ops : Array Oper} {rest : List Oper} {o : Oper} {a : Act} {Q : Exit → Act → World → Prop} {W : World}
theorem gate_callee {f : FuncId} {as : Array Operand} {ts : Array TypeId} (_ho : o.op = .call { callee := .value (.func f), args := as, argTypes := ts }) (h : wpList P ops Q (o :: rest) a W) : wpList P ops Q (o :: rest) a W := h
theorem gate_builtin {b : Builtin} {xs : Array Operand} {ts : Array TypeId} (_ho : o.op = .call { callee := .builtin b, args := xs, argTypes := ts }) (h : wpList P ops Q (o :: rest) a W) : wpList P ops Q (o :: rest) a W := h
end
def shl (k : IntKind) (x y : Int) : Int := k.wrap (x * 2 ^ min y.toNat k.bits)
theorem shl_small {k : IntKind} {x y j : Int} (h : shl k x y = j) (hy : y ≤ k.bits) : k.wrap (x * 2 ^ y.toNat) = j := by rw [← h]; unfold shl; rw [Nat.min_eq_left (by omega)]
theorem drewN_self (w : World) (n : Nat) : w.drewN n = w.drewN n := rfl
namespace Kd
section
variable {α : Type} {d : Kd α} {e base : Nat} {ok : Nat → Prop} {W w1 : World} {v : Value} {xs : List α}
end
section
variable {α : Type} {d : Kd α} {e base g n cap : Nat} {ok oki okp : Nat → Prop} {W : World} {xs : List α} {i : Int} {c : List Value}
end
section
variable {α : Type} {d : Kd α} {e base b b' g N : Nat} {ok ok1 : Nat → Prop} {W W2 w1 : World} {u v : Value} {xs ys : List α} {S : Nat → Prop}
end
end Kd
end Go.Proofs.YtccppdmangbdoaaW.PrintWords
namespace Go.Proofs.YtccppdmangbdoaaW.PrintWords
open Go.RowKit
namespace Kd
def V {α : Type} (d : Kd α) (_e : Nat) (W : World) (_base : Nat) (ok : Nat → Prop) (v : Value) (xs : List α) : Prop := ∃ A c, v = .slice A xs.length c ∧ xs.length ≤ c ∧ F d W ok A xs.length xs
section
variable {α β : Type} {d : Kd α} {e base base' n m c g N' lo hi : Nat} {ok ok' S : Nat → Prop} {w W w1 : World} {A : Option Addr} {ad : Addr} {u v v1 : Value} {xs : List α}
theorem V_map (h : V d e W base ok v xs) (hF : ∀ A, F d W ok A xs.length xs → F d w1 ok' A xs.length xs) : V d e w1 base' ok' v xs := by
 obtain ⟨A, c, hv, hl, hf⟩ := h
 exact ⟨A, c, hv, hl, hF A hf⟩
theorem V_slice (h : V d e W base ok v xs) : ∃ A c, v = .slice A xs.length c := by
 obtain ⟨A, c, hv, _⟩ := h
 exact ⟨A, c, hv⟩
theorem V_at (h : V d e W base ok (.slice A n c) xs) : n = xs.length ∧ n ≤ c ∧ F d W ok A xs.length xs := by
 obtain ⟨A', c', hv, hl, hf⟩ := h
 injection hv with ha hn hc
 subst ha; subst hc
 exact ⟨hn, by rw [hn]; exact hl, hf⟩
theorem V_reads' (h : V d e W base ok (.slice A n c) xs) : n = xs.length ∧ n ≤ c ∧ d.C W A xs.length xs := ⟨(V_at h).1, (V_at h).2.1, F_now (V_at h).2.2⟩
theorem V_nil (d : Kd α) (e : Nat) (W : World) (base : Nat) (ok : Nat → Prop) : V d e W base ok (.slice none 0 0) [] := ⟨none, 0, rfl, Nat.le_refl _, F_nil d W ok⟩
theorem R_V (h : d.R e W base ok v xs) : V d e W base' ok v xs := by
 obtain ⟨A, c, rfl⟩ := R_slice h
 exact ⟨A, c, rfl, (R_reads' h).2.1, R_F h⟩
theorem V_mono (h : V d e W base ok v xs) (hok : ∀ k, ok k → ok' k) : V d e W base ok' v xs := V_map h (fun _ hf => F_mono hf hok)
theorem V_lower (h : V d e W base ok v xs) (_ : base' ≤ base) : V d e W base' ok v xs := h
theorem V_below (h : V d e W base ok v xs) (hb : Below W.heap.size W w1) : V d e w1 base ok v xs := V_map h (fun _ hf => F_below hf hb)
theorem V_alloc (h : V d e W base ok v xs) (o : Obj) : V d e (W.alloc o) base ok v xs := V_map h (fun _ hf => F_alloc hf o)
theorem V_drew (h : V d e W base ok v xs) : V d e W.drew base ok v xs := V_map h (fun _ hf => F_drew hf)
theorem V_drewN (h : V d e W base ok v xs) (m : Nat) : V d e (W.drewN m) base ok v xs := V_map h (fun _ hf => F_drewN hf m)
theorem V_far (h : V d e W base ok v xs) {p : Addr} (hok : ∀ k, ok k → k ≠ p.block) (u : Value) : V d e (W.setCell p u) base ok v xs := V_map h (fun _ hf => F_far hf hok u)
theorem V_elderB (h : V d e W base ok v xs) (a : Nat) (ha : W.heap.size ≤ a) : V d e W base (fun k => ok k ∧ k ≠ a) v xs := V_map h (fun _ hf => F_elderB hf a ha)
end
end Kd
end Go.Proofs.YtccppdmangbdoaaW.PrintWords
end
section
set_option linter.unusedVariables false
set_option linter.unusedSimpArgs false
namespace Go.Proofs.YtccppdmangbdoaaW.PrintLast
section
variable {P : Program} {ops : Array Oper} {Q : Exit → Act → World → Prop}
theorem goesV_ {oi : Oper} {N : Option Tmp} {a : Act} {w : World} {K : Act → World → Prop} {f : FuncId} {fn : Func} {as : Array Operand} {ts : Array TypeId} {x : Operand} (hf : P.funcs[f]? = some fn) (hname : (fn.name == "runtime.NumGoroutine") = false) (hb : fn.body.isSome = true) (args : Array Value)
 (hw : Region.wanted oi (yielded ops a.tmps) = true) (hN : oi.dst = N) (hop : oi.op = .call { callee := .value x, args := as, argTypes := ts }) (hx : a.eval x = .func (.func f) #[] #[]) (hargs : as.map a.eval = args)
 (h : Calls P f args w fun e w' => ∃ v, e = .returned v ∧ K (a.put N v) w') : if Region.wanted oi (yielded ops a.tmps) = true then Oper.wp P oi a w K Q else K (a.put N undef) w := by
 refine call_ f args hw hN ?_ h
 have he := enters_ hf hname hb args w
 unfold execOp
 simp [hop, resolve, Deferred.ofValue, invoke, hx, hargs, he]
end
end Go.Proofs.YtccppdmangbdoaaW.PrintLast
namespace Go.Proofs.YtccppdmangbdoaaW.PrintWords
open Go.RowKit
theorem peel_f {W : World} {g s : Nat} {seg : List Value} {a : Addr} (h : World.frozen? (W.setCells g s seg) a = false) : World.frozen? W a = false := by
 induction seg generalizing s W with
 | nil => exact h
 | cons u r ih =>
  have := ih (W := W.setCell ⟨g, s, none⟩ u) (s := s + 1) h
  rwa [World.frozen?_setCell] at this
theorem peel_c0 {W : World} {g s t : Nat} {A B v : Value} (h : World.cell? (W.setCells g s [A, B]) ⟨g, t, none⟩ = some v) (hp : s + 1 ≠ t) : World.cell? (W.setCell ⟨g, s, none⟩ A) ⟨g, t, none⟩ = some v := by
 have h2 : World.cell? ((W.setCell ⟨g, s, none⟩ A).setCell ⟨g, s + 1, none⟩ B) ⟨g, t, none⟩ = some v := h
 rwa [World.cell?_setCell_other] at h2
 simp only [ne_eq, Addr.mk.injEq, not_and, true_and, and_true]
 intro he
 exact absurd he hp
namespace Kd
section
variable {α : Type} {d : Kd α} {e base g n c cap : Nat} {ok ok' ok1 okp : Nat → Prop} {w w1 W : World} {v : Value} {xs : List α} {A : Option Addr}
def RC (d : Kd α) (e : Nat) (w : World) (base : Nat) (ok : Nat → Prop) (v : Value) (xs : List α) : Prop :=
  (∀ k, v.ownBlock = some k → ok k) ∧ ∃ A n c c', v = .slice A n c ∧ n ≤ c ∧ c ≤ c' ∧ d.R e w base ok (.slice A n c') xs
theorem RC_mk {c' : Nat} (h1 : n ≤ c) (h2 : c ≤ c') (h3 : d.R e w base ok (.slice A n c') xs) : d.RC e w base ok (.slice A n c) xs :=
 ⟨fun k hk => h3.1 k (by cases A with | none => simp [Value.ownBlock] at hk | some a => exact hk), A, n, c, c', rfl, h1, h2, h3⟩
theorem RC_cut (h : d.R e w base ok (.slice A n c) xs) (hn : n ≤ cap) (hc : cap ≤ c) : d.RC e w base ok (.slice A n cap) xs := RC_mk hn hc h
theorem own_cap (A : Option Addr) (n c n' c' : Nat) : (Value.slice A n c).ownBlock = (Value.slice A n' c').ownBlock := by cases A <;> rfl
theorem RC_map (h : d.RC e w base ok v xs) (hm : ∀ A n c, d.R e w base ok (.slice A n c) xs → d.R e w1 base ok' (.slice A n c) xs) : d.RC e w1 base ok' v xs := by
 obtain ⟨_, A, n, c, c', rfl, h1, h2, h3⟩ := h
 exact RC_mk h1 h2 (hm _ _ _ h3)
theorem RC_below (h : d.RC e w base ok v xs) (hb : Below w.heap.size w w1) : d.RC e w1 base ok v xs := RC_map h (fun _ _ _ h => R_below h hb)
theorem RC_drew (h : d.RC e w base ok v xs) : d.RC e w.drew base ok v xs := RC_map h (fun _ _ _ h => R_drew h)
theorem RC_drewN (h : d.RC e w base ok v xs) (m : Nat) : d.RC e (w.drewN m) base ok v xs := RC_map h (fun _ _ _ h => R_drewN h m)
theorem RC_alloc (h : d.RC e w base ok v xs) (o : Obj) : d.RC e (w.alloc o) base ok v xs := RC_map h (fun _ _ _ h => R_alloc h o)
theorem RC_mono (h : d.RC e w base ok v xs) (hok : ∀ k, ok k → ok' k) : d.RC e w base ok' v xs := RC_map h (fun _ _ _ h => R_mono h hok)
theorem RC_reads' {A : Option Addr} {n c : Nat} (h : d.RC e w base ok (.slice A n c) xs) : n = xs.length ∧ n ≤ c ∧ d.C w A xs.length xs := by
 obtain ⟨_, A1, n1, c1, c', hv, h1, h2, h3⟩ := h
 injection hv with hA hn hc
 subst hA; subst hn; subst hc
 have := R_reads' h3
 exact ⟨this.1, h1, this.2.2⟩
theorem RC_slice (h : d.RC e w base ok v xs) : ∃ A c, v = .slice A xs.length c := by
 obtain ⟨_, A, n, c, c', rfl, h1, h2, h3⟩ := h
 have := (R_reads' h3).1
 subst this
 exact ⟨A, c, rfl⟩
theorem RC_elem (h : d.RC e W base ok (.slice (some ⟨g, 0, none⟩) n cap) xs) (z : α) (i : Int) (h0 : 0 ≤ i) (h1 : i < n) :
 ∃ c, c.length = d.sz ∧ d.M W base (fun k => ok k ∧ k ≠ g) (xs.getD i.toNat z) c ∧ (∀ j u, c[j]? = some u → W.cell? ⟨g, i.toNat * d.sz + j, none⟩ = some u) ∧ ∀ j, W.frozen? ⟨g, i.toNat * d.sz + j, none⟩ = false := by
 obtain ⟨_, A1, n1, c1, c', hv, h2, h3, h4⟩ := h
 injection hv with hA hn hc
 subst hA; subst hn; subst hc
 exact R_elem h4 z i h0 h1
theorem RC_tight (hE : d.E = []) (h : d.RC e w base ok v xs) : d.RC e w base (fun k => some k = v.ownBlock) v xs := by
 obtain ⟨_, A, n, c, c', rfl, h1, h2, h3⟩ := h
 exact RC_mk h1 h2 (R_mono (R_tight hE h3) (fun k hk => hk.trans (own_cap A n c' n c)))
theorem RC_reok (hE : d.E = []) (h : d.RC e W base ok1 v xs) (hok : ∀ k, v.ownBlock = some k → ok k) : d.RC e W base ok v xs := RC_mono (RC_tight hE h) (fun k hk => hok k hk.symm)
theorem RC_seg (h : d.RC e W base ok (.slice (some ⟨g, 0, none⟩) n cap) xs) (i : Int) (h0 : 0 ≤ i) (h1 : i < n) {c seg : List Value} {j : Nat} (hcl : c.length = d.sz) (hcc : ∀ j u, c[j]? = some u → W.cell? ⟨g, i.toNat * d.sz + j, none⟩ = some u)
 (hj : j + seg.length ≤ d.sz) {x' : α} (hM : d.M W base okp x' (c.take j ++ seg ++ c.drop (j + seg.length))) (hokp : ∀ k, okp k → ok k ∧ k ≠ g) :
 d.RC e (W.setCells g (i.toNat * d.sz + j) seg) base ok (.slice (some ⟨g, 0, none⟩) n cap) (xs.set i.toNat x') ∧ W.grownBy (W.setCells g (i.toNat * d.sz + j) seg) (some g) := by
 obtain ⟨_, A1, n1, c1, c', hv, h2, h3, h4⟩ := h
 injection hv with hA hn hc
 subst hA; subst hn; subst hc
 have := R_seg h4 i h0 h1 hcl hcc hj hM hokp
 exact ⟨RC_mk h2 h3 this.1, this.2⟩
theorem RC_form (h : d.RC e w base ok v xs) (hp : 0 < xs.length) : ∃ g cap, v = .slice (some ⟨g, 0, none⟩) xs.length cap ∧ base ≤ g ∧ g < w.heap.size ∧ ∃ cells, w.heap[g]? = some (.cells cells e (0, 0)) := by
 obtain ⟨_, A, n, c, c', rfl, h1, h2, h3⟩ := h
 obtain ⟨g, cap, hv, r⟩ := R_form h3 hp
 injection hv with hA hn hc
 subst hA; subst hn
 exact ⟨g, c, rfl, r⟩
end
end Kd
end Go.Proofs.YtccppdmangbdoaaW.PrintWords
end
