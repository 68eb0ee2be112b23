-- a text of this work, without what this claim doesn't use (wip/shake.py)
import Derived.Test.YtdfndglenbckhaaLVShP
import Derived.Test.YtdfndglenbckhaaLVPblockb
import Derived.Deep.DeepCutAuto
import Derived.Deep.CutBlock
import Derived.IntWalk
import Derived.Test.YtdfndglenbckhaaLVE46
import Derived.Test.YtdfndglenbckhaaLVPcmp
import Derived.Test.YtdfndglenbckhaaLVLsm5
import Derived.Test.YtdfndglenbckhaaLVPvergerref5
import Derived.Test.YtdfndglenbckhaaLVCall
import Derived.Test.YtdfndglenbckhaaLVP5T
section
set_option linter.unusedVariables false
set_option linter.unusedSimpArgs false
namespace Go.Proofs.Ytdfndglenbckhaa.V
open Go.RowKit Go.Proofs.YtdfndglenbckhaaW.PrintWords Go.Proofs.YtdfndglenbckhaaW.PrintLast Go.Proofs.YtdfndglenbckhaaW.PrintMore
section
variable {P : Program} {ops : Array Oper} {Q : Exit → Act → World → Prop}
theorem step_N_delete {α : Type} (d : Kd α) {o : Oper} {a : Act} {W : World} {K : Act → World → Prop} {X : Prop} (base : Nat) (hg : o.guard = none) (s x : Operand) (t e : TypeId) (ho : o.op = .call { callee := .builtin .append, args := #[s, x], argTypes := #[t, t] })
 (ht : P.underlying t = some (.slice e)) (hinfo : (P.info? e).map (·.size) = some d.sz) {g n c k m c2 : Nat} {A : Option Addr} {xs : List α} {ok : Nat → Prop}
 (hs : a.eval s = .slice (some ⟨g, 0, none⟩) k c) (hx : a.eval x = .slice A m c2) (hA : A = if c = k + 1 then some ⟨g, 0, none⟩ else (some (⟨g, 0, none⟩ : Addr)).map (·.add ((k + 1) * d.sz))) (hm : m = n - (k + 1))
 (HO : Kd.N d e W base ok (.slice (some ⟨g, 0, none⟩) n c) xs) (hk : k < n) (hbase : base ≤ W.heap.size)
 (h : ∀ w1, Kd.N d e w1 base ok (.slice (some ⟨g, 0, none⟩) (n - 1) c) (xs.eraseIdx k) → W.grownBy w1 (some g) → K (a.put o.dst (.slice (some ⟨g, 0, none⟩) (n - 1) c)) w1) :
 if Region.wanted o (yielded ops a.tmps) = true then Oper.wp P o a W K Q else X := by
 have hw : Region.wanted o (yielded ops a.tmps) = true := by simp [Region.wanted, hg]
 have := Kd.N_delete_step (Q := Q) (ops := ops) (Kc := K) (w0 := W) d base hw s x t e ho ht hinfo hs hx hA hm HO hk (Below.refl _ _) hbase (fun w1 h1 _ h3 => h w1 h1 h3)
 rw [if_pos hw] at this ⊢
 exact this
end
theorem bk_tail {W : World} {base g n cap : Nat} {ok : Nat → Prop} {bs : List Bk} (h : Kd.N k84 84 W base ok (.slice (some ⟨g, 0, none⟩) n cap) bs) (u v : Value) :
 Kd.N k84 84 (W.setCells g (n * 2) [u, v]) base ok (.slice (some ⟨g, 0, none⟩) n cap) bs := by
 have hnl := (Kd.N_reads' h).1
 obtain ⟨cur, rows, T, hg, hs, hnc, hcm, hb, hok, hl, hrow, ht, hf⟩ := bk_open h
 have hfl : rows.flatten.length = n * 2 := by rw [flat_len (fun c hc => (hrow c hc).1)]; omega
 obtain ⟨T', hT'⟩ := set2_list rows.flatten T u v
 have hcur : cur = (rows.flatten ++ T).toArray := by rw [← ht]
 rw [hfl, ← hcur] at hT'
 exact bk_final ((OnlyG.refl W g).set2 _ _ _) (set2_row hg) (by simp [hs]) hnc hcm hb hok hl hnl hrow hT' hf
set_option maxRecDepth 100000 in
set_option maxHeartbeats 4000000 in
theorem bdel (base g n cap i : Nat) (ok : Nat → Prop) (bs : List Bk) (w : World) (hN : Kd.N k84 84 w base ok (.slice (some ⟨g, 0, none⟩) n cap) bs) (hi : i < n) (hn : n ≤ 1000) (hbase : base ≤ w.heap.size) :
 Calls Try.prog 56 #[.slice (some ⟨g, 0, none⟩) n cap, .int .i64 (i : Int), .int .i64 ((i : Int) + 1)] w fun e w' => e = .returned (.slice (some ⟨g, 0, none⟩) (n - 1) cap) ∧ Kd.N k84 84 w' base ok (.slice (some ⟨g, 0, none⟩) (n - 1) cap) (bs.eraseIdx i) ∧ w.grownBy w' (some g) := by
 have hnc := (Kd.N_reads' hN).2.1
 have HN := Aside0.mk (show Kd.N k84 84 w.drew base ok (.slice (some ⟨g, 0, none⟩) n cap) bs from Kd.N_drew hN)
 have HB := Aside0.mk (show base ≤ w.drew.heap.size from hbase)
 have mixed : Try.prog.follows .mixedOrders = true := by kernel_rfl
 have hszB : (Try.prog.info? 84).map (·.size) = some 2 := by kernel_rfl
 have HSZ := Aside0.mk hszB
 clear hN hszB hbase
 have d1 : ((i : Int) == (i : Int) + 1) = false := by rw [beq_eq_false_iff_ne]; omega
 have b1 : (0 : Int) ≤ (i : Int) := by omega
 have b2 : (i : Int) ≤ (i : Int) + 1 := by omega
 have b3 : (i : Int) + 1 ≤ (n : Int) := by omega
 have b4 : (n : Int) ≤ (cap : Int) := by omega
 have b5 : i ≤ cap := by omega
 have b6 : ((i : Int) + 1).toNat = i + 1 := by omega
 have b7 : (0 : Int) ≤ (i : Int) + 1 := by omega
 have b8 : ¬ (cap = n - 1) := by omega
 have b9 : n - 1 ≤ n := by omega
 have c1 : n - (n - 1) = 1 := by omega
 have c2 : ((n - 1 : Nat) : Int) ≤ (n : Int) := by omega
 have c3 : i + 1 ≤ n := by omega
 have c4 : ¬ (n = i) := by omega
 have HIN := Aside0.mk hi
 have HNC := Aside0.mk (show n - 1 + 1 ≤ cap by omega)
 by_cases hcap : cap = i + 1
 · obtain rfl : n = i + 1 := by omega
   subst hcap
   clear hi hn d1 b1 b2 b3 b4 b5 b6 b7 b8 b9 c1 c2 c3 c4 hnc
   have d1 : ((i : Int) == (i : Int) + 1) = false := by rw [beq_eq_false_iff_ne]; omega
   have b1 : (0 : Int) ≤ (i : Int) := by omega
   have b2 : (i : Int) ≤ (i : Int) + 1 := by omega
   have b6 : ((i : Int) + 1).toNat = i + 1 := by omega
   have b7 : (0 : Int) ≤ (i : Int) + 1 := by omega
   have b8 : ¬ (i + 1 = i) := by omega
   have c1 : i + 1 - i = 1 := by omega
   go_enter Try.func56, Try.ntmps56
   go_wp2_with fail
   go_region_law_o ((with_reducible refine gate_step (.call { callee := .builtin .append, args := #[.tmp 22, .tmp 25], argTypes := #[34, 34] }) rfl ?_); go_loud (refine step_N_delete k84 base rfl (.tmp 22) (.tmp 25) 34 84 rfl Try.underlying34 HSZ.out (k := i) (m := 0) (c2 := 0) (A := some ⟨g, 0, none⟩) (by simp [Act.eval, Act.put]) (by simp [Act.eval, Act.put]) (by rw [if_pos rfl]) (Nat.sub_self (i + 1)).symm HN.out HIN.out HB.out ?_; intro w1 hn1 hg1; have HN1 := Aside0.mk hn1; have HG1 := Aside0.mk hg1; clear hn1 hg1))
   have hclr : ∀ ty c, (Builtin.clear_ #[34] ty #[.slice (some ⟨g, i * 2, none⟩) 1 c]).run Try.prog w1 = .ok (.tuple #[]) (w1.setCells g (i * 2) [.int .i64 0, .slice none 0 0]) := fun ty c => by
    obtain ⟨cur, rows, T, hg, hs, _⟩ := bk_open HN1.out
    exact run_clear_one w1 g (i * 2) c ty cur hg (by omega)
   have HCLR := Aside0.mk hclr
   clear hclr
   go_wp2_with (first | ((with_reducible refine gate_builtin (b := .clear) (xs := #[.tmp 31]) rfl ?_); go_loud (refine wpList_clear_run _ rfl (.tmp 31) 34 rfl (.slice (some ⟨g, i * 2, none⟩) 1 1) (by simp [Act.eval, Act.put, c1]) (HCLR.out _ _) ?_)))
   go_ret
   exact ⟨rfl, bk_tail HN1.out _ _, (OnlyG.refl w1 g).set2 (i * 2) (.int .i64 0) (.slice none 0 0) |>.grown |> fun h => ⟨h.os.trans HG1.out.os, h.tape.trans HG1.out.tape, h.output.trans HG1.out.output, Nat.le_trans HG1.out.size h.size, fun k hk hne => (h.block k (Nat.lt_of_lt_of_le hk HG1.out.size) hne).trans (HG1.out.block k hk hne)⟩⟩
 · have hcap2 : ¬ (cap = i) := by omega
   clear hi hn
   go_enter Try.func56, Try.ntmps56
   go_wp2_with fail
   go_region_law_o ((with_reducible refine gate_step (.call { callee := .builtin .append, args := #[.tmp 22, .tmp 25], argTypes := #[34, 34] }) rfl ?_); go_loud (refine step_N_delete k84 base rfl (.tmp 22) (.tmp 25) 34 84 rfl Try.underlying34 HSZ.out (k := i) (m := n - (i + 1)) (c2 := cap - (i + 1)) (A := some ⟨g, (i + 1) * 2, none⟩) (by simp [Act.eval, Act.put]) (by simp [Act.eval, Act.put]) (by rw [if_neg hcap]; simp [add_plain]; rfl) rfl HN.out HIN.out HB.out ?_; intro w1 hn1 hg1; have HN1 := Aside0.mk hn1; have HG1 := Aside0.mk hg1; clear hn1 hg1))
   have hclr : ∀ ty c, (Builtin.clear_ #[34] ty #[.slice (some ⟨g, (n - 1) * 2, none⟩) 1 c]).run Try.prog w1 = .ok (.tuple #[]) (w1.setCells g ((n - 1) * 2) [.int .i64 0, .slice none 0 0]) := fun ty c => by
    obtain ⟨cur, rows, T, hg, hs, _⟩ := bk_open HN1.out
    exact run_clear_one w1 g ((n - 1) * 2) c ty cur hg (by have := HNC.out; omega)
   have HCLR := Aside0.mk hclr
   clear hclr
   go_wp2_with (first | ((with_reducible refine gate_builtin (b := .clear) (xs := #[.tmp 31]) rfl ?_); go_loud (refine wpList_clear_run _ rfl (.tmp 31) 34 rfl (.slice (some ⟨g, (n - 1) * 2, none⟩) 1 (cap - (n - 1))) (by simp [Act.eval, Act.put, c1]) (HCLR.out _ _) ?_)))
   go_ret
   exact ⟨rfl, bk_tail HN1.out _ _, (OnlyG.refl w1 g).set2 ((n - 1) * 2) (.int .i64 0) (.slice none 0 0) |>.grown |> fun h => ⟨h.os.trans HG1.out.os, h.tape.trans HG1.out.tape, h.output.trans HG1.out.output, Nat.le_trans HG1.out.size h.size, fun k hk hne => (h.block k (Nat.lt_of_lt_of_le hk HG1.out.size) hne).trans (HG1.out.block k hk hne)⟩⟩
end Go.Proofs.Ytdfndglenbckhaa.V
end
section
set_option linter.unusedVariables false
set_option linter.unusedSimpArgs false
namespace Go.Proofs.Ytdfndglenbckhaa.V
open Go.RowKit Go.Proofs.YtdfndglenbckhaaW.PrintWords Go.Proofs.YtdfndglenbckhaaW.PrintLast Go.Proofs.YtdfndglenbckhaaW.PrintMore
def BoxB (W : World) (g : Nat) (x : Bk) (u : Value) : Prop := W.heap[g]? = some (.cells #[.int .i64 x.f0, u] 84 (0, 0))
theorem BoxB.below {W W1 : World} {g : Nat} {x : Bk} {u : Value} (h : BoxB W g x u) (hb : Below W.heap.size W W1) : BoxB W1 g x u := blk_below h hb
theorem BoxB.c0 {W : World} {g : Nat} {x : Bk} {u : Value} (h : BoxB W g x u) : W.cell? ⟨g, 0, none⟩ = some (.int .i64 x.f0) := (blk_cell h 0).trans rfl
theorem BoxB.c1 {W : World} {g : Nat} {x : Bk} {u : Value} (h : BoxB W g x u) : W.cell? ⟨g, 1, none⟩ = some u := (blk_cell h 1).trans rfl
def lenOf : Value → Nat
  | .slice _ n _ => n
  | _ => 0
structure AddSt (w wr : World) (p g : Nat) (A : Option Addr) (c : Nat) (x : Bk) (u : Value) (cs fin : List Bk) : Prop where
  row : Kd.N k84 84 wr w.heap.size (fun k => k ≠ p ∧ k ≠ g) (.slice A cs.length c) cs
  box : BoxB wr g x u
  val : Kd.FK k84 wr (fun k => (k ≠ p ∧ k ≠ g) ∧ some k ≠ (Value.slice A cs.length c).ownBlock) x [.int .i64 x.f0, u]
  fin : addS cs.length x cs = fin
  ok : ∀ b ∈ cs, okB b = true
  xok : okB x = true
  tot : (allB cs).length + x.f1.length ≤ 1000000
  len : cs.length ≤ 900
  bel : Below w.heap.size w wr
  g4 : w.heap.size ≤ g ∧ g < wr.heap.size
namespace AddSt
variable {w wr w1 : World} {p g c : Nat} {A : Option Addr} {x : Bk} {u : Value} {cs fin : List Bk}
theorem below (h : AddSt w wr p g A c x u cs fin) (hb : Below wr.heap.size wr w1) : AddSt w w1 p g A c x u cs fin :=
 ⟨Kd.N_below h.row hb, h.box.below hb, Kd.FK_below h.val hb, h.fin, h.ok, h.xok, h.tot, h.len, below_then h.bel h.bel.size hb, ⟨h.g4.1, Nat.lt_of_lt_of_le h.g4.2 hb.size⟩⟩
theorem all (h : AddSt w wr p g A c x u cs fin) : (allB cs).length ≤ 1000000 := by have := h.tot; omega
end AddSt
end Go.Proofs.Ytdfndglenbckhaa.V
end
section
set_option linter.unusedVariables false
set_option linter.unusedSimpArgs false
namespace Go.Proofs.Ytdfndglenbckhaa.V
open Go.RowKit Go.Proofs.YtdfndglenbckhaaW.PrintWords Go.Proofs.YtdfndglenbckhaaW.PrintLast Go.Proofs.YtdfndglenbckhaaW.PrintMore
theorem below_grown {w w1 w2 : World} {row : Option Nat} (hb : Below w.heap.size w w1) (hg : w1.grownBy w2 row) (hr : ∀ k, row = some k → w.heap.size ≤ k) : Below w.heap.size w w2 :=
 ⟨hg.os.trans hb.os, hg.tape.trans hb.tape, hg.output.trans hb.output, Nat.le_trans hb.size hg.size, fun i hi => (hg.block i (Nat.lt_of_lt_of_le hi hb.size) (fun e => by have := hr i e.symm; omega)).trans (hb.block i hi)⟩
namespace AddSt
variable {w wr w1 w2 : World} {p g c : Nat} {A : Option Addr} {x : Bk} {u : Value} {cs fin : List Bk}
theorem own (h : AddSt w wr p g A c x u cs fin) : ∀ k, (Value.slice A cs.length c).ownBlock = some k → w.heap.size ≤ k ∧ k < wr.heap.size ∧ k ≠ p ∧ k ≠ g := fun k hk => ⟨Kd.N_base h.row k hk, Kd.N_lt h.row k hk, h.row.1 k hk⟩
theorem step {q i : Nat} {b : Bk} (h : AddSt w wr p g (some ⟨q, 0, none⟩) c x u cs fin) (hf : cs.findIdx? (lvlEq x) = some i) (hb : cs[i]? = some b) {w5 : World} (hb5 : Below wr.heap.size wr w5) {A5 : Option Addr} {c5 : Nat}
 (hV : Kd.V k46 46 w5 0 (fun k => (k ≠ p ∧ k ≠ g) ∧ k ≠ q) (.slice A5 (joinB b x).f1.length c5) (joinB b x).f1) :
 Kd.N k84 84 ((w5.setCell ⟨g, 0, none⟩ (.int .i64 (joinB b x).f0)).setCell ⟨g, 1, none⟩ (.slice A5 (joinB b x).f1.length c5)) w.heap.size (fun k => k ≠ p ∧ k ≠ g) (.slice (some ⟨q, 0, none⟩) cs.length c) cs ∧
 ∀ w7, Kd.N k84 84 w7 w.heap.size (fun k => k ≠ p ∧ k ≠ g) (.slice (some ⟨q, 0, none⟩) (cs.length - 1) c) (cs.eraseIdx i) → ((w5.setCell ⟨g, 0, none⟩ (.int .i64 (joinB b x).f0)).setCell ⟨g, 1, none⟩ (.slice A5 (joinB b x).f1.length c5)).grownBy w7 (some q) →
  AddSt w w7 p g (some ⟨q, 0, none⟩) c (joinB b x) (.slice A5 (joinB b x).f1.length c5) (cs.eraseIdx i) fin := by
 have hlt := (List.getElem?_eq_some_iff.1 hb).1
 have hel : (cs.eraseIdx i).length = cs.length - 1 := by rw [List.length_eraseIdx, if_pos hlt]
 have hq := h.own q rfl
 have hg5 := Nat.lt_of_lt_of_le h.g4.2 hb5.size
 have hall := (erase_all hb).length_eq
 rw [List.length_append] at hall
 have hj := (joinB_all b x).length_eq
 rw [List.length_append] at hj
 have hsz : ((w5.setCell ⟨g, 0, none⟩ (.int .i64 (joinB b x).f0)).setCell ⟨g, 1, none⟩ (.slice A5 (joinB b x).f1.length c5)).heap.size = w5.heap.size := by simp
 refine ⟨Kd.N_far (Kd.N_far (Kd.N_below h.row hb5) (p := ⟨g, 0, none⟩) (fun k hk => hk.2) _) (p := ⟨g, 1, none⟩) (fun k hk => hk.2) _, fun w7 hn hg => ?_⟩
 have hfk := Kd.FK_step (Kd.FK_step (k84_mkF w5 _ (joinB b x) (Kd.V_at hV).2.1 (Kd.V_at hV).2.2) (W1 := w5.setCell ⟨g, 0, none⟩ (.int .i64 (joinB b x).f0)) (fun k hk _ => Below.heap_setCell w5 ⟨g, 0, none⟩ _ k hk.1.2)) (W1 := (w5.setCell ⟨g, 0, none⟩ (.int .i64 (joinB b x).f0)).setCell ⟨g, 1, none⟩ (.slice A5 (joinB b x).f1.length c5)) (fun k hk _ => Below.heap_setCell _ ⟨g, 1, none⟩ _ k hk.1.2)
 refine ⟨by rw [hel]; exact hn, ?_, ?_, ?_, fun q hq => h.ok q (List.mem_of_mem_eraseIdx hq), okB_mk _, ?_, by have := h.len; omega, ?_, ⟨h.g4.1, by have := hg.size; omega⟩⟩
 · have hb0 := (hb5.block g h.g4.2).trans h.box
   exact (hg.block g (by rw [hsz]; exact hg5) (fun e => hq.2.2.2 (by injection e with e; exact e.symm))).trans (blk_put (blk_put hb0 0 _ rfl) 1 _ rfl)
 · exact Kd.FK_mono (Kd.FK_grown hfk hg (fun k hk e => hk.2 (by injection e))) (fun k hk => ⟨hk.1, fun e => hk.2 (by injection e)⟩)
 · rw [← h.fin, addS_some hf hb]
 · have := h.tot; omega
 · refine below_grown (w1 := (w5.setCell ⟨g, 0, none⟩ (.int .i64 (joinB b x).f0)).setCell ⟨g, 1, none⟩ (.slice A5 (joinB b x).f1.length c5)) (below_set (below_set (below_then h.bel h.bel.size hb5) h.g4.1) h.g4.1) hg (fun k hk => by injection hk with hk; omega)
end AddSt
end Go.Proofs.Ytdfndglenbckhaa.V
end
section
set_option linter.unusedVariables false
set_option linter.unusedSimpArgs false
namespace Go.Proofs.Ytdfndglenbckhaa.V
open Go.RowKit Go.Proofs.YtdfndglenbckhaaW.PrintWords Go.Proofs.YtdfndglenbckhaaW.PrintLast Go.Proofs.YtdfndglenbckhaaW.PrintMore
structure SOk (w0 wr : World) (p : Nat) (ver : Int) (v : Value) (bs : List Bk) (es : List E) : Prop where
  hat : ShAt wr w0.heap.size p ver v bs
  ok : ∀ b ∈ bs, okB b = true
  all : (allB bs).Perm es
  bel : Below w0.heap.size w0 wr
namespace SOk
variable {w0 wr w2 : World} {p : Nat} {ver : Int} {v v2 : Value} {bs cs : List Bk} {es : List E}
theorem below (h : SOk w0 wr p ver v bs es) (hb : Below wr.heap.size wr w2) : SOk w0 w2 p ver v bs es := ⟨h.hat.below hb, h.ok, h.all, below_step h.bel hb⟩
theorem cnt (h : SOk w0 wr p ver v bs es) : (allB bs).length = es.length := h.all.length_eq
theorem step (h : SOk w0 wr p ver v bs es) (hg : wr.grownBy w2 (some p)) : Below w0.heap.size w0 w2 := below_grown h.bel hg (fun k hk => by injection hk with hk; have := h.hat.lo; omega)
theorem drewN (h : SOk w0 wr p ver v bs es) (m : Nat) : SOk w0 (wr.drewN m) p ver v bs es := h.below (pw_below_drewN (Below.refl _ _) m)
end SOk
end Go.Proofs.Ytdfndglenbckhaa.V
end
section
set_option linter.unusedVariables false
set_option linter.unusedSimpArgs false
namespace Go.Proofs.Ytdfndglenbckhaa.V
open Go.RowKit Go.Proofs.YtdfndglenbckhaaW.PrintWords Go.Proofs.YtdfndglenbckhaaW.PrintLast Go.Proofs.YtdfndglenbckhaaW.PrintMore
abbrev RBk := S70
def toR (b : Bk) : RBk := ⟨b.f0, b.f1⟩
structure RShAt (w : World) (base p : Nat) (ver : Int) (v : Value) (bs : List RBk) : Prop where
  hd : w.heap[p]? = some (.cells #[.int .u64 ver, v] 29 (0, 0))
  row : Kd.V k70 70 w 0 (fun k => k ≠ p) v bs
  lo : base ≤ p
namespace RShAt
variable {w w1 : World} {base p : Nat} {ver : Int} {v : Value} {bs : List RBk}
theorem lt (h : RShAt w base p ver v bs) : p < w.heap.size := (Array.getElem?_eq_some_iff.1 h.hd).1
theorem below (h : RShAt w base p ver v bs) (hb : Below w.heap.size w w1) : RShAt w1 base p ver v bs := ⟨(hb.block p h.lt).trans h.hd, Kd.V_below h.row hb, h.lo⟩
theorem cell0 (h : RShAt w base p ver v bs) : w.cell? ⟨p, 0, none⟩ = some (.int .u64 ver) := by simp [World.cell?, h.hd]
theorem froz (h : RShAt w base p ver v bs) (j : Nat) : w.frozen? ⟨p, j, none⟩ = false := frozen_row h.hd j
theorem reads (h : RShAt w base p ver v bs) : ∃ A c, v = .slice A bs.length c ∧ bs.length ≤ c ∧ Kd.F k70 w (fun k => k ≠ p) A bs.length bs := by
 obtain ⟨A, c, rfl⟩ := Kd.V_slice h.row
 have := Kd.V_at h.row
 exact ⟨A, c, rfl, this.2.1, this.2.2⟩
end RShAt
theorem infoRB : (Try.prog.info? 70).map (fun i => (i.zero, i.size, i.bytes)) = some (some (.agg #[.int .i64 0, .slice none 0 0]), 2, 32) := by kernel_rfl
end Go.Proofs.Ytdfndglenbckhaa.V
end
section
set_option linter.unusedVariables false
set_option linter.unusedSimpArgs false
namespace Go.Proofs.Ytdfndglenbckhaa.V
open Go.RowKit Go.Proofs.YtdfndglenbckhaaW.PrintWords Go.Proofs.YtdfndglenbckhaaW.PrintLast Go.Proofs.YtdfndglenbckhaaW.PrintMore
theorem rb_at {w : World} {A : Option Addr} {bs : List RBk} (h : k70.C w A bs.length bs) {i : Nat} {b : RBk} (hb : bs[i]? = some b) :
 ∃ ad A1 c1, A = some ad ∧ w.cell? (ad.add (i * 2)) = some (.int .i64 b.f0) ∧ w.cell? ⟨(ad.add (i * 2)).block, (ad.add (i * 2)).off + 1, none⟩ = some (.slice A1 b.f1.length c1) ∧ b.f1.length ≤ c1 ∧ k46.C w A1 b.f1.length b.f1 := by
 obtain ⟨hlt, rfl⟩ := List.getElem?_eq_some_iff.1 hb
 obtain ⟨ad, A1, c1, e1, e2, e3, e4, e5⟩ := at_T70 h (i : Int) (by omega) (by omega)
 have hr : rd_T70 bs (i : Int) = bs[i] := by unfold rd_T70; rw [Int.toNat_natCast, List.getD_eq_getElem?_getD, List.getElem?_eq_getElem hlt]; rfl
 rw [hr, Int.toNat_natCast] at e2 e3
 rw [hr] at e4 e5
 exact ⟨ad, A1, c1, e1, e2, e3, e4, e5⟩
end Go.Proofs.Ytdfndglenbckhaa.V
end
section
set_option linter.unusedVariables false
set_option linter.unusedSimpArgs false
namespace Go.Proofs.Ytdfndglenbckhaa.V
open Go.RowKit Go.Proofs.YtdfndglenbckhaaW.PrintWords Go.Proofs.YtdfndglenbckhaaW.PrintLast Go.Proofs.YtdfndglenbckhaaW.PrintMore
def allR (bs : List S70) : List E := bs.flatMap fun b => b.f1
theorem rdR_get {l : List S70} {i : Nat} (h : i < l.length) : rd_T70 l (i : Int) = l[i] := by unfold rd_T70; simp [List.getD_eq_getElem?_getD, List.getElem?_eq_getElem h]
theorem allR_take {bs : List S70} {i : Nat} (h : i < bs.length) : allR (bs.take (i + 1)) = allR (bs.take i) ++ bs[i].f1 := by
 unfold allR
 rw [List.take_succ_eq_append_getElem h, List.flatMap_append]
 simp
theorem allR_take_le (bs : List S70) (i : Nat) : (allR (bs.take i)).length ≤ (allR bs).length := by
 have : allR bs = allR (bs.take i) ++ allR (bs.drop i) := by unfold allR; rw [← List.flatMap_append, List.take_append_drop]
 rw [this, List.length_append]
 omega
theorem refall_loop (bs : List S70) (hb : bs.length < 1000000000) (hl : (allR bs).length < 1000000000) : ∀ (d k i : Nat), bs.length - i = d → i ≤ bs.length → d + 2 * (allR bs).length < k →
 vergerref5_All.l0 k bs (sortE (allR (bs.take i))) (i : Int) = some (sortE (allR bs)) := by
 intro d
 induction d with
 | zero =>
  intro k i hd hi hk
  obtain ⟨k, rfl, _⟩ := succ_of hk
  obtain rfl : i = bs.length := by omega
  simp only [vergerref5_All.l0]
  rw [if_neg (by omega), List.take_length]
 | succ d ih =>
  intro k i hd hi hk
  obtain ⟨k, rfl, hk'⟩ := succ_of hk
  have hlt : i < bs.length := by omega
  have ht := allR_take hlt
  have hle := allR_take_le bs (i + 1)
  rw [ht, List.length_append] at hle
  simp only [vergerref5_All.l0, rdR_get hlt]
  rw [if_pos (by omega), if_pos (by omega), refmerge_told k _ _ (by rw [sortE_length]; omega) (by rw [sortE_length]; omega)]
  simp only [Option.bind_some]
  rw [show sortE (sortE (allR (bs.take i)) ++ bs[i].f1) = sortE (allR (bs.take (i + 1))) from sortE_of_perm (by rw [ht]; exact (sortE_perm _).append_right _), wrap_nat (by omega)]
  exact ih k (i + 1) (by omega) (by omega) (by omega)
theorem refall_told (k : Nat) (bs : List S70) (hb : bs.length < 1000000000) (hl : (allR bs).length < 1000000000) (hk : bs.length + 2 * (allR bs).length < k) : vergerref5_All.f k bs = some (sortE (allR bs)) := by
 have := refall_loop bs hb hl bs.length k 0 (by omega) (by omega) hk
 rw [show sortE (allR (bs.take 0)) = [] from sortE_nil] at this
 exact this
end Go.Proofs.Ytdfndglenbckhaa.V
end
section
set_option linter.unusedVariables false
set_option linter.unusedSimpArgs false
namespace Go.Proofs.Ytdfndglenbckhaa.V
open Go.RowKit Go.Proofs.YtdfndglenbckhaaW.PrintWords Go.Proofs.YtdfndglenbckhaaW.PrintLast Go.Proofs.YtdfndglenbckhaaW.PrintMore
def BoxI (W : World) (g : Nat) (id : Int) : Prop := W.heap[g]? = some (.cells #[.int .i64 id] 3 (0, 0))
theorem BoxI.below {W W1 : World} {g : Nat} {id : Int} (h : BoxI W g id) (hb : Below W.heap.size W W1) : BoxI W1 g id := blk_below h hb
theorem BoxI.c0 {W : World} {g : Nat} {id : Int} (h : BoxI W g id) : W.cell? ⟨g, 0, none⟩ = some (.int .i64 id) := (blk_cell h 0).trans rfl
def BoxF (W : World) (f g : Nat) (id : Int) : Prop := W.heap[f]? = some (.cells #[.func (.func 60) #[] #[.pointer (some ⟨g, 0, none⟩)]] 92 (0, 0)) ∧ BoxI W g id
theorem BoxF.below {W W1 : World} {f g : Nat} {id : Int} (h : BoxF W f g id) (hb : Below W.heap.size W W1) : BoxF W1 f g id := ⟨blk_below h.1 hb, h.2.below hb⟩
theorem BoxF.c0 {W : World} {f g : Nat} {id : Int} (h : BoxF W f g id) : W.cell? ⟨f, 0, none⟩ = some (.func (.func 60) #[] #[.pointer (some ⟨g, 0, none⟩)]) := (blk_cell h.1 0).trans rfl
def isId (id : Int) (e : E) : Bool := decide (e.f1 = id)
def hasId (id : Int) (b : Bk) : Bool := b.f1.any (isId id)
theorem run_store_funcS (P : Program) (w : World) (a : Addr) (m : Mode) (f : Fn) (x y : Array Value) : (store a (.func f x y) m).run P w = stored P w a (.func f x y) m := run_store P w a _ m rfl
attribute [local go_sem] run_store_funcS
end Go.Proofs.Ytdfndglenbckhaa.V
end
section
set_option linter.unusedVariables false
set_option linter.unusedSimpArgs false
namespace Go.Proofs.Ytdfndglenbckhaa.V
open Go.RowKit Go.Proofs.YtdfndglenbckhaaW.PrintWords Go.Proofs.YtdfndglenbckhaaW.PrintLast Go.Proofs.YtdfndglenbckhaaW.PrintMore
theorem without_loop (l : List E) (id : Int) (hl : l.length < 1000000000) : ∀ (n k i : Nat) (acc : List E), n + i = l.length → n < k → acc.length ≤ i →
 vergerref5_Without.l0 k l id acc (i : Int) = some (acc ++ (l.drop i).filter (fun e => decide (e.f1 ≠ id))) := by
 intro n
 induction n with
 | zero =>
  intro k i acc h hk ha
  obtain ⟨k, rfl⟩ : ∃ q, k = q + 1 := ⟨k - 1, by omega⟩
  simp only [vergerref5_Without.l0]
  rw [if_neg (by omega), List.drop_eq_nil_of_le (by omega)]
  simp
 | succ n ih =>
  intro k i acc h hk ha
  obtain ⟨k, rfl⟩ : ∃ q, k = q + 1 := ⟨k - 1, by omega⟩
  have hlt : i < l.length := by omega
  simp only [vergerref5_Without.l0]
  have hrd : rd_T46 l (i : Int) = l[i] := by unfold rd_T46; rw [Int.toNat_natCast, List.getD_eq_getElem?_getD, List.getElem?_eq_getElem hlt]; rfl
  have hw : wrap64 ((i : Int) + 1) = ((i + 1 : Nat) : Int) := by unfold wrap64; omega
  rw [if_pos (by omega), if_pos (by omega), hrd, hw, List.drop_eq_getElem_cons hlt]
  by_cases he : (l[i]).f1 = id
  · rw [if_pos he, ih k (i + 1) acc (by omega) (by omega) (by omega), List.filter_cons, if_neg (by simp [he])]
  · rw [if_neg he, if_pos (by omega), ih k (i + 1) _ (by omega) (by omega) (by rw [List.length_append]; simp; omega), List.filter_cons, if_pos (by simp [he])]
    simp
theorem without_told (k : Nat) (b : Bk) (id : Int) (hl : b.f1.length < 1000000000) (hk : b.f1.length < k) : vergerref5_Without.f k b.f1 id = some (outB id b) := by
 unfold vergerref5_Without.f outB
 have := without_loop b.f1 id hl b.f1.length k 0 [] (by omega) hk (by simp)
 simpa using this
end Go.Proofs.Ytdfndglenbckhaa.V
end
section
set_option linter.unusedVariables false
set_option linter.unusedSimpArgs false
namespace Go.Proofs.Ytdfndglenbckhaa.V
open Go.RowKit Go.Proofs.YtdfndglenbckhaaW.PrintWords Go.Proofs.YtdfndglenbckhaaW.PrintLast Go.Proofs.YtdfndglenbckhaaW.PrintMore
def fstId (l : List E) (id : Int) : Nat := l.findIdx fun e => e.f1 == id
theorem fstId_le (l : List E) (id : Int) : fstId l id ≤ l.length := List.findIdx_le_length
theorem fstId_at {l : List E} {id : Int} {i : Nat} (hi : i < l.length) (hle : i ≤ fstId l id) (h : (l[i]).f1 = id) : fstId l id = i := by
 rcases Nat.lt_or_ge i (fstId l id) with hlt | hge
 · have := List.not_of_lt_findIdx hlt
   simp [h] at this
 · omega
theorem fstId_past {l : List E} {id : Int} {i : Nat} (hi : i < l.length) (hle : i ≤ fstId l id) (h : ¬ (l[i]).f1 = id) : i + 1 ≤ fstId l id := by
 rcases Nat.lt_or_ge i (fstId l id) with hlt | hge
 · exact hlt
 · have he : fstId l id = i := by omega
   have h2 := (List.findIdx_eq hi).1 (show l.findIdx (fun e => e.f1 == id) = i from he)
   exact absurd (by simpa using h2.1) h
theorem has_loop (l : List E) (id : Int) (hl : l.length < 1000000000) : ∀ (d k i : Nat), l.length - i = d → i ≤ fstId l id → d < k → vergerref5_Has.l0 k l id (i : Int) = some (decide (fstId l id < l.length)) := by
 have hfl := fstId_le l id
 intro d
 induction d with
 | zero =>
  intro k i hd hi hk
  obtain ⟨k, rfl, _⟩ := succ_of hk
  simp only [vergerref5_Has.l0]
  rw [if_neg (by omega), decide_eq_false (by omega)]
 | succ d ih =>
  intro k i hd hi hk
  obtain ⟨k, rfl, hk'⟩ := succ_of hk
  have hlt : i < l.length := by omega
  have hz : (i : Int) < (l.length : Int) := by omega
  have h0 : (0 : Int) ≤ (i : Int) := by omega
  simp only [vergerref5_Has.l0, if_pos hz, if_pos h0, rd_get hlt, wrap_nat (show i ≤ 4611686018427387904 by omega)]
  by_cases hc : (l[i]).f1 = id
  · rw [if_pos hc, fstId_at hlt hi hc, decide_eq_true hlt]
  · rw [if_neg hc]
    exact ih k (i + 1) (by omega) (fstId_past hlt hi hc) (by omega)
theorem has_told (k : Nat) (l : List E) (id : Int) (hl : l.length < 1000000000) (hk : l.length < k) : vergerref5_Has.f k l id = some (decide (fstId l id < l.length)) := by
 have := has_loop l id hl l.length k 0 (by omega) (by omega) hk
 unfold vergerref5_Has.f
 exact this
theorem fstId_iff (l : List E) (id : Int) : fstId l id < l.length ↔ ∃ e ∈ l, e.f1 = id := by
 unfold fstId
 rw [List.findIdx_lt_length]
 simp
end Go.Proofs.Ytdfndglenbckhaa.V
end
section
set_option linter.unusedVariables false
set_option linter.unusedSimpArgs false
namespace Go.Proofs.Ytdfndglenbckhaa.V
open Go.RowKit Go.Proofs.YtdfndglenbckhaaW.PrintWords Go.Proofs.YtdfndglenbckhaaW.PrintLast Go.Proofs.YtdfndglenbckhaaW.PrintMore
theorem rcut_to (A : Option Addr) (n c i : Nat) (h : i ≤ n) (hc : n ≤ c) : ∀ W : World, (Instr.slice 27 (.slice A n c) none (some (.int .i64 (i : Int))) none).run Try.prog W = .ok (.slice A i c) W := by
 intro W
 obtain ⟨inf, h1, h2⟩ := Option.map_eq_some_iff.1 infoRB
 have := cut_to (P := Try.prog) 27 70 .i64 Try.underlying27 h1 A n c (i : Int) (by omega) (by omega) hc W
 rw [Int.toNat_natCast] at this
 exact this
theorem rcut_from (A : Option Addr) (n c i : Nat) (h : i + 1 ≤ n) : ∀ W : World, (Instr.slice 27 (.slice A n c) (some (.int .i64 ((i : Int) + 1))) none none).run Try.prog W = .ok (.slice (if c = i + 1 then A else A.map (·.add ((i + 1) * 2))) (n - (i + 1)) (c - (i + 1))) W := by
 intro W
 obtain ⟨inf, h1, h2⟩ := Option.map_eq_some_iff.1 infoRB
 simp only [Prod.mk.injEq] at h2
 have := cut_from (P := Try.prog) 27 70 .i64 Try.underlying27 h1 2 h2.2.1 A n c ((i : Int) + 1) (by omega) (by omega) W
 rw [show ((i : Int) + 1).toNat = i + 1 by omega] at this
 exact this
theorem rcut_at (A : Option Addr) (n c i : Nat) (h : i ≤ n) : ∀ W : World, (Instr.slice 27 (.slice A n c) (some (.int .i64 (i : Int))) none none).run Try.prog W = .ok (.slice (if c = i then A else A.map (·.add (i * 2))) (n - i) (c - i)) W := by
 intro W
 obtain ⟨inf, h1, h2⟩ := Option.map_eq_some_iff.1 infoRB
 simp only [Prod.mk.injEq] at h2
 have := cut_from (P := Try.prog) 27 70 .i64 Try.underlying27 h1 2 h2.2.1 A n c (i : Int) (by omega) (by omega) W
 rw [Int.toNat_natCast] at this
 exact this
theorem rcuts {w : World} {ok : Nat → Prop} {A : Option Addr} {c i : Nat} {rs : List RBk} (h : Kd.V k70 70 w 0 ok (.slice A rs.length c) rs) (hi : i < rs.length) :
 ∃ T D AD cD, T = rs.take i ∧ D = rs.drop (i + 1) ∧ (∀ W : World, (Instr.slice 27 (.slice A rs.length c) none (some (.int .i64 (i : Int))) none).run Try.prog W = .ok (.slice A T.length c) W) ∧ (∀ W : World, (Instr.slice 27 (.slice A rs.length c) (some (.int .i64 ((i : Int) + 1))) none none).run Try.prog W = .ok (.slice AD D.length cD) W) ∧ Kd.F k70 w ok A T.length T ∧ Kd.F k70 w ok AD D.length D ∧ D.length ≤ cD := by
 have hc := (Kd.V_at h).2.1
 refine ⟨rs.take i, rs.drop (i + 1), (if c = i + 1 then A else A.map (·.add ((i + 1) * 2))), c - (i + 1), rfl, rfl, fun W => ?_, fun W => ?_, Kd.F_take (Kd.V_F h) (by omega), Kd.F_cut (m := i + 1) (Kd.V_F h) (by omega) hc, ?_⟩
 · rw [rcut_to A rs.length c i (by omega) hc W, List.length_take, Nat.min_eq_left (by omega)]
 · rw [rcut_from A rs.length c i (by omega) W, List.length_drop]
 · rw [List.length_drop]; omega
theorem rcutsAt {w : World} {ok : Nat → Prop} {A : Option Addr} {c i : Nat} {rs : List RBk} (h : Kd.V k70 70 w 0 ok (.slice A rs.length c) rs) (hi : i ≤ rs.length) :
 ∃ T D AD cD, T = rs.take i ∧ D = rs.drop i ∧ (∀ W : World, (Instr.slice 27 (.slice A rs.length c) none (some (.int .i64 (i : Int))) none).run Try.prog W = .ok (.slice A T.length c) W) ∧ (∀ W : World, (Instr.slice 27 (.slice A rs.length c) (some (.int .i64 (i : Int))) none none).run Try.prog W = .ok (.slice AD D.length cD) W) ∧ Kd.F k70 w ok A T.length T ∧ Kd.F k70 w ok AD D.length D ∧ D.length ≤ cD := by
 have hc := (Kd.V_at h).2.1
 refine ⟨rs.take i, rs.drop i, (if c = i then A else A.map (·.add (i * 2))), c - i, rfl, rfl, fun W => ?_, fun W => ?_, Kd.F_take (Kd.V_F h) (by omega), Kd.F_cut (m := i) (Kd.V_F h) (by omega) hc, ?_⟩
 · rw [rcut_to A rs.length c i (by omega) hc W, List.length_take, Nat.min_eq_left (by omega)]
 · rw [rcut_at A rs.length c i (by omega) W, List.length_drop]
 · rw [List.length_drop]; omega
theorem has_id (k : Nat) (id : Int) (b : Bk) (hl : b.f1.length < 1000000000) (hk : b.f1.length < k) : vergerref5_Has.f k b.f1 id = some (hasId id b) := by
 rw [has_told k b.f1 id hl hk]
 congr 1
 unfold hasId
 apply Bool.eq_iff_iff.2
 rw [decide_eq_true_eq, fstId_iff, List.any_eq_true]
 simp [isId]
theorem refof_mkR (k : Nat) (l : List E) (hl : l.length < 1000000000) (hk : 2 * l.length + 63 ≤ k) : vergerref5_Of.f k l = some ((mkB l).f0, (mkB l).f1) := refof_told k l hl hk
theorem reps_oneR {W : World} {ok : Nat → Prop} {b : RBk} {a u : Value} (h : Kd.FK k70 W ok b [a, u]) : Reps (Kd.FK k70 W ok) k70.sz [b] [a, u] := by
 refine ⟨rfl, fun j q hj => ?_⟩
 cases j with
 | zero => simp at hj; subst hj; exact h
 | succ j => simp at hj
end Go.Proofs.Ytdfndglenbckhaa.V
end
section
set_option linter.unusedVariables false
set_option linter.unusedSimpArgs false
namespace Go.Proofs.Ytdfndglenbckhaa.V
open Go.RowKit Go.Proofs.YtdfndglenbckhaaW.PrintWords Go.Proofs.YtdfndglenbckhaaW.PrintLast Go.Proofs.YtdfndglenbckhaaW.PrintMore
structure RAdd (w wr : World) (p g : Nat) (A : Option Addr) (c : Nat) (Au : Option Addr) (cu : Nat) (x : Bk) (rs : List RBk) : Prop where
  row : Kd.V k70 70 wr 0 (fun k => k ≠ p ∧ k ≠ g) (.slice A rs.length c) rs
  box : wr.heap[g]? = some (.cells #[.int .i64 x.f0, .slice Au x.f1.length cu] 70 (0, 0))
  val : Kd.V k46 46 wr 0 (fun k => k ≠ p ∧ k ≠ g) (.slice Au x.f1.length cu) x.f1
  bel : Below w.heap.size w wr
  g4 : w.heap.size ≤ g ∧ g < wr.heap.size
  pl : p < w.heap.size
namespace RAdd
variable {w wr w1 w8 : World} {p g c cu c8 : Nat} {A Au A8 : Option Addr} {x y : Bk} {rs : List RBk}
theorem below (h : RAdd w wr p g A c Au cu x rs) (hb : Below wr.heap.size wr w1) : RAdd w w1 p g A c Au cu x rs :=
 ⟨Kd.V_below h.row hb, blk_below h.box hb, Kd.V_below h.val hb, below_then h.bel h.bel.size hb, ⟨h.g4.1, Nat.lt_of_lt_of_le h.g4.2 hb.size⟩, h.pl⟩
theorem c0 (h : RAdd w wr p g A c Au cu x rs) : wr.cell? ⟨g, 0, none⟩ = some (.int .i64 x.f0) := (blk_cell h.box 0).trans rfl
theorem c1 (h : RAdd w wr p g A c Au cu x rs) : wr.cell? ⟨g, 1, none⟩ = some (.slice Au x.f1.length cu) := (blk_cell h.box 1).trans rfl
theorem put (h : RAdd w wr p g A c Au cu x rs) (hv : Kd.V k46 46 wr 0 (fun k => k ≠ p ∧ k ≠ g) (.slice A8 y.f1.length c8) y.f1) :
 RAdd w ((wr.setCell ⟨g, 0, none⟩ (.int .i64 y.f0)).setCell ⟨g, 1, none⟩ (.slice A8 y.f1.length c8)) p g A c A8 c8 y rs :=
 ⟨Kd.V_far (Kd.V_far h.row (p := ⟨g, 0, none⟩) (fun k hk => hk.2) _) (p := ⟨g, 1, none⟩) (fun k hk => hk.2) _,
  blk_put (blk_put h.box 0 (.int .i64 y.f0) rfl) 1 (.slice A8 y.f1.length c8) rfl,
  Kd.V_far (Kd.V_far hv (p := ⟨g, 0, none⟩) (fun k hk => hk.2) _) (p := ⟨g, 1, none⟩) (fun k hk => hk.2) _,
  below_set (below_set h.bel h.g4.1) h.g4.1, ⟨h.g4.1, by simp only [World.setCell, Array.size_modify]; exact h.g4.2⟩, h.pl⟩
end RAdd
structure PAdd (x : Bk) (cs : List Bk) (rs : List RBk) (fin : List Bk) : Prop where
  rs : rs = cs.map toR
  fin : addS cs.length x cs = fin
  tot : (allB cs).length + x.f1.length ≤ 1000000
  len : cs.length ≤ 900
namespace PAdd
variable {x b : Bk} {cs fin : List Bk} {rs : List RBk} {i : Nat}
theorem n (h : PAdd x cs rs fin) : rs.length = cs.length := by rw [h.rs, List.length_map]
theorem done (h : PAdd x cs rs fin) (hf : cs.findIdx? (lvlEq x) = none) : fin.map toR = (rs.take (placeAt x cs) ++ [toR x]) ++ rs.drop (placeAt x cs) := by
 rw [← h.fin, addS_none hf, h.rs]
 unfold place
 rw [List.map_append, List.map_cons, List.map_take, List.map_drop, List.append_assoc]
 rfl
end PAdd
end Go.Proofs.Ytdfndglenbckhaa.V
end
