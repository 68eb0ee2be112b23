-- a text of this work, without what this claim doesn't use (wip/shake.py)
import Derived.Test.YtfhapffjnafkbaaYWMore
import Derived.Below
set_option linter.unusedVariables false
set_option linter.unusedSimpArgs false
namespace Go.Proofs.YtfhapffjnafkbaaW.PrintLast
section
variable {P : Program} {ops : Array Oper} {Q : Exit → Act → World → Prop}
theorem goesLC_ {rest : List Oper} {oi : Oper} {a : Act} {w : World} (N : Option Tmp) (hd : oi.dst = N) (hg : oi.guard = none) {f : FuncId} {fn : Func} {as : Array Operand} {ts : Array TypeId} {x : Operand} {cb : Array Value} (hf : P.funcs[f]? = some fn) (hname : (fn.name == "runtime.NumGoroutine") = false) (hb : fn.body.isSome = true) (args : Array Value)
 (hop : oi.op = .call { callee := .value x, args := as, argTypes := ts }) (hx : a.eval x = .func (.func f) #[] cb) (hargs : as.map a.eval ++ cb = args)
 (h : Calls P f args w fun e w' => ∃ v, e = .returned v ∧ wpList P ops Q rest (a.put N v) w') : wpList P ops Q (oi :: rest) a w := by
 refine wpList_plain hg fun K hK => ?_
 have he := enters_ hf hname hb args w
 have hrun : (execOp a.eval oi).run P w = .ok (.enter f args) w := by
  unfold execOp
  simp [hop, resolve, Deferred.ofValue, invoke, hx, hargs, he]
 unfold Oper.wp
 rw [hrun, Oper.upon_enter]
 refine h.mono fun e w'' hh => ?_
 obtain ⟨v, rfl, hk⟩ := hh
 subst hd
 exact hK _ _ hk
end
end Go.Proofs.YtfhapffjnafkbaaW.PrintLast
namespace Go.Proofs.YtfhapffjnafkbaaW.PrintWords
open Go.RowKit
namespace Kd
section
variable {α : Type} {d : Kd α} {e base g n c cap : Nat} {ok ok' ok1 okp : Nat → Prop} {w w1 W : World} {v : Value} {xs : List α} {A : Option Addr}
def RC (d : Kd α) (e : Nat) (w : World) (base : Nat) (ok : Nat → Prop) (v : Value) (xs : List α) : Prop :=
  (∀ k, v.ownBlock = some k → ok k) ∧ ∃ A n c c', v = .slice A n c ∧ n ≤ c ∧ c ≤ c' ∧ d.R e w base ok (.slice A n c') xs
theorem RC_mk {c' : Nat} (h1 : n ≤ c) (h2 : c ≤ c') (h3 : d.R e w base ok (.slice A n c') xs) : d.RC e w base ok (.slice A n c) xs :=
 ⟨fun k hk => h3.1 k (by cases A with | none => simp [Value.ownBlock] at hk | some a => exact hk), A, n, c, c', rfl, h1, h2, h3⟩
theorem RC_cut (h : d.R e w base ok (.slice A n c) xs) (hn : n ≤ cap) (hc : cap ≤ c) : d.RC e w base ok (.slice A n cap) xs := RC_mk hn hc h
end
end Kd
end Go.Proofs.YtfhapffjnafkbaaW.PrintWords
