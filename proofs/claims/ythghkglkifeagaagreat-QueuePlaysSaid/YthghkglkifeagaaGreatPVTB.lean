-- a text of this work, without what this claim doesn't use (wip/shake.py)
import Derived.Test.YthghkglkifeagaaGreatPVLsm6b
import Derived.Test.YthghkglkifeagaaGreatPVPblockb
import Derived.Shelf.Spec.SlicesInsert
import Derived.Deep.RegionWith
import Derived.IntWalk
import Derived.Test.YthghkglkifeagaaGreatPVPblock
import Derived.Test.YthghkglkifeagaaGreatPVPentry1
import Derived.Test.YthghkglkifeagaaGreatPVLsmP
import Derived.Test.YthghkglkifeagaaGreatPVPvergerref5
set_option maxRecDepth 100000
set_option maxHeartbeats 8000000
set_option linter.unusedVariables false
set_option linter.unusedSimpArgs false
namespace Go.Proofs.YthghkglkifeagaaGreat.V
open Go.RowKit Go.Proofs.YthghkglkifeagaaGreatW.PrintWords Go.Proofs.YthghkglkifeagaaGreatW.PrintLast Go.Proofs.YthghkglkifeagaaGreatW.PrintMore
theorem c0f (A : Option Addr) (c : Nat) (w : World) :
 Calls Tryz.prog 126 #[.slice A 0 c, .int .i64 0, .int .i64 0, .func (.func 95) #[] #[]] w fun e w' => e = .returned (.tuple #[]) ∧ w = w' := by
 go_enter Tryz.func126, Tryz.ntmps126
 go_wp2
 go_loopw [8] (fun i wr => i = .int .i64 1 ∧ w = wr) (fun i _ => (intOf i).toNat)
 case atStart => exact ⟨rfl, rfl⟩
 case round =>
  obtain ⟨rfl, rfl⟩ := hrel
  go_wp2
  exact ⟨rfl, .tuple #[], by simp [results, Tryz.results126, go_sem], rfl, rfl⟩
theorem b5i (base : Nat) (ok : Nat → Prop) (A : Option Addr) (n c : Nat) (bs : List Bk) (w : World) (hN : Kd.N k109 109 w base ok (.slice A n c) bs) (hs : ∀ b ∈ bs, Sound b) (hn : n ≤ 19) :
 Calls Tryz.prog 116 #[.slice A n c, .int .i64 (n : Int), .func (.func 95) #[] #[]] w fun e w' => e = .returned (.tuple #[]) ∧ Kd.N k109 109 w' base ok (.slice A n c) (a0f bs) ∧ w.grownBy w' (Value.slice A n c).ownBlock := by
 have hnl := (Kd.N_reads' hN).1
 have d1 : decide (20 ≤ n) = false := decide_eq_false (by omega)
 have d2 : decide (20 < n) = false := decide_eq_false (by omega)
 have hcall : Calls Tryz.prog 126 #[.slice A n c, .int .i64 0, .int .i64 (n : Int), .func (.func 95) #[] #[]] w fun e w' => e = .returned (.tuple #[]) ∧ Kd.N k109 109 w' base ok (.slice A n c) (a0f bs) ∧ w.grownBy w' (Value.slice A n c).ownBlock := by
  by_cases h0 : n = 0
  · subst h0
    obtain rfl : bs = [] := List.length_eq_zero_iff.1 hnl.symm
    refine (c0f A c w).mono ?_
    rintro e w' ⟨rfl, rfl⟩
    exact ⟨rfl, hN, grown_of_below (Below.refl _ _) _⟩
  · obtain ⟨g, cap, hv, _⟩ := Kd.N_form hN (by omega)
    injection hv with e1 e2 e3
    subst e1
    exact b9j base g n c ok bs w hN hs (by omega)
 have HCALL := za hcall
 clear hcall hN hs hnl
 go_enter Tryz.func116, Tryz.ntmps116
 go_wp2
 go_loopw [7, 8] (fun a b wr => a = .int .i64 0 ∧ b = .int .i64 20 ∧ w = wr) (fun a _ _ => (intOf a).toNat)
 case atStart => exact ⟨rfl, rfl, rfl⟩
 case round =>
  obtain ⟨rfl, rfl, rfl⟩ := hrel
  go_wp2_with fail
  refine HCALL.out.mono ?_
  rintro e w1 ⟨rfl, hN1, hg1⟩
  have HN1 := za hN1
  have HG1 := za hg1
  clear hN1 hg1
  go_wp2
  go_loopw [6] (fun a wr => a = .int .i64 20 ∧ w1 = wr) (fun a _ => (intOf a).toNat)
  case atStart => exact ⟨rfl, rfl⟩
  case round =>
   obtain ⟨rfl, rfl⟩ := hrel
   go_wp2
   exact ⟨rfl, .tuple #[], by simp [results, Tryz.results116, go_sem], rfl, HN1.out, HG1.out⟩
theorem c2o (base : Nat) (ok : Nat → Prop) (v : Value) (bs : List Bk) (w : World) (hN : Kd.N k109 109 w base ok v bs) (hs : ∀ b ∈ bs, Sound b) (hn : bs.length ≤ 19) :
 Calls Tryz.prog 94 #[v, .func (.func 95) #[] #[]] w fun e w' => e = .returned (.tuple #[]) ∧ Kd.N k109 109 w' base ok v (a0f bs) ∧ w.grownBy w' v.ownBlock := by
 obtain ⟨A, c, rfl⟩ := Kd.N_slice hN
 have HN := za hN
 have HS := za hs
 clear hN hs
 go_enter Tryz.func94, Tryz.ntmps94
 go_wp2_with fail
 refine (b5i base ok A bs.length c bs w HN.out HS.out hn).mono ?_
 rintro e w1 ⟨rfl, hN1, hg1⟩
 have HN1 := za hN1
 have HG1 := za hg1
 clear hN1 hg1
 go_wp2
 exact ⟨rfl, .tuple #[], by simp [results, Tryz.results94, go_sem], rfl, HN1.out, HG1.out⟩
theorem c2c (A : Option Addr) (c : Nat) (w : World) :
 Calls Tryz.prog 126 #[.slice A 0 c, .int .i64 0, .int .i64 0, .func (.func 97) #[] #[]] w fun e w' => e = .returned (.tuple #[]) ∧ w = w' := by
 go_enter Tryz.func126, Tryz.ntmps126
 go_wp2
 go_loopw [8] (fun i wr => i = .int .i64 1 ∧ w = wr) (fun i _ => (intOf i).toNat)
 case atStart => exact ⟨rfl, rfl⟩
 case round =>
  obtain ⟨rfl, rfl⟩ := hrel
  go_wp2
  exact ⟨rfl, .tuple #[], by simp [results, Tryz.results126, go_sem], rfl, rfl⟩
theorem c2p (base : Nat) (ok : Nat → Prop) (A : Option Addr) (n c : Nat) (bs : List Bk) (w : World) (hN : Kd.N k109 109 w base ok (.slice A n c) bs) (hs : ∀ b ∈ bs, Sound b) (hn : n ≤ 19) :
 Calls Tryz.prog 116 #[.slice A n c, .int .i64 (n : Int), .func (.func 97) #[] #[]] w fun e w' => e = .returned (.tuple #[]) ∧ Kd.N k109 109 w' base ok (.slice A n c) (a0f bs) ∧ w.grownBy w' (Value.slice A n c).ownBlock := by
 have hnl := (Kd.N_reads' hN).1
 have d1 : decide (20 ≤ n) = false := decide_eq_false (by omega)
 have d2 : decide (20 < n) = false := decide_eq_false (by omega)
 have hcall : Calls Tryz.prog 126 #[.slice A n c, .int .i64 0, .int .i64 (n : Int), .func (.func 97) #[] #[]] w fun e w' => e = .returned (.tuple #[]) ∧ Kd.N k109 109 w' base ok (.slice A n c) (a0f bs) ∧ w.grownBy w' (Value.slice A n c).ownBlock := by
  by_cases h0 : n = 0
  · subst h0
    obtain rfl : bs = [] := List.length_eq_zero_iff.1 hnl.symm
    refine (c2c A c w).mono ?_
    rintro e w' ⟨rfl, rfl⟩
    exact ⟨rfl, hN, grown_of_below (Below.refl _ _) _⟩
  · obtain ⟨g, cap, hv, _⟩ := Kd.N_form hN (by omega)
    injection hv with e1 e2 e3
    subst e1
    exact c2k base g n c ok bs w hN hs (by omega)
 have HCALL := za hcall
 clear hcall hN hs hnl
 go_enter Tryz.func116, Tryz.ntmps116
 go_wp2
 go_loopw [7, 8] (fun a b wr => a = .int .i64 0 ∧ b = .int .i64 20 ∧ w = wr) (fun a _ _ => (intOf a).toNat)
 case atStart => exact ⟨rfl, rfl, rfl⟩
 case round =>
  obtain ⟨rfl, rfl, rfl⟩ := hrel
  go_wp2_with fail
  refine HCALL.out.mono ?_
  rintro e w1 ⟨rfl, hN1, hg1⟩
  have HN1 := za hN1
  have HG1 := za hg1
  clear hN1 hg1
  go_wp2
  go_loopw [6] (fun a wr => a = .int .i64 20 ∧ w1 = wr) (fun a _ => (intOf a).toNat)
  case atStart => exact ⟨rfl, rfl⟩
  case round =>
   obtain ⟨rfl, rfl⟩ := hrel
   go_wp2
   exact ⟨rfl, .tuple #[], by simp [results, Tryz.results116, go_sem], rfl, HN1.out, HG1.out⟩
theorem b9z (base : Nat) (ok : Nat → Prop) (v : Value) (bs : List Bk) (w : World) (hN : Kd.N k109 109 w base ok v bs) (hs : ∀ b ∈ bs, Sound b) (hn : bs.length ≤ 19) :
 Calls Tryz.prog 94 #[v, .func (.func 97) #[] #[]] w fun e w' => e = .returned (.tuple #[]) ∧ Kd.N k109 109 w' base ok v (a0f bs) ∧ w.grownBy w' v.ownBlock := by
 obtain ⟨A, c, rfl⟩ := Kd.N_slice hN
 have HN := za hN
 have HS := za hs
 clear hN hs
 go_enter Tryz.func94, Tryz.ntmps94
 go_wp2_with fail
 refine (c2p base ok A bs.length c bs w HN.out HS.out hn).mono ?_
 rintro e w1 ⟨rfl, hN1, hg1⟩
 have HN1 := za hN1
 have HG1 := za hg1
 clear hN1 hg1
 go_wp2
 exact ⟨rfl, .tuple #[], by simp [results, Tryz.results94, go_sem], rfl, HN1.out, HG1.out⟩
section
variable {P : Program} {ops : Array Oper} {rest : List Oper} {o : Oper} {a : Act} {Q : Exit → Act → World → Prop}
theorem a5w (w : World) (hgd : o.guard = none) (x : Operand) (t : TypeId) (ho : o.op = .call { callee := .builtin .clear, args := #[x], argTypes := #[t] }) (v : Value) (hx : a.eval x = v) {v' : Value} {w' : World}
 (hr : (Builtin.clear_ #[t] o.type #[v]).run P w = .ok v' w') (h : wpList P ops Q rest (a.put o.dst v') w') : wpList P ops Q (o :: rest) a w :=
 wpList_plain hgd fun K hK => by
  unfold Oper.wp
  simp [execOp, ho, resolve, invoke, builtin, hx, hr, Result.andThen]
  exact hK _ _ h
theorem wpList_append_run (w : World) (hgd : o.guard = none) (s x : Operand) (t : TypeId) (ho : o.op = .call { callee := .builtin .append, args := #[s, x], argTypes := #[t, t] }) (v u : Value) (hs : a.eval s = v) (hx : a.eval x = u) {v' : Value} {w' : World}
 (hr : (Builtin.append_ #[t, t] o.type #[v, u]).run P w = .ok v' w') (h : wpList P ops Q rest (a.put o.dst v') w') : wpList P ops Q (o :: rest) a w :=
 wpList_plain hgd fun K hK => by
  unfold Oper.wp
  simp [execOp, ho, resolve, invoke, builtin, hs, hx, hr, Result.andThen]
  exact hK _ _ h
end
theorem a2t {rows : List (List Value)} (h : ∀ c ∈ rows, c.length = 2) : rows.flatten.length = rows.length * 2 := by
 induction rows with
 | nil => rfl
 | cons c r ih => rw [List.flatten_cons, List.length_append, h c (by simp), ih (fun q hq => h q (by simp [hq])), List.length_cons]; omega
theorem a4b {W : World} {base g n cap : Nat} {ok : Nat → Prop} {bs : List Bk} (h : Kd.N k109 109 W base ok (.slice (some ⟨g, 0, none⟩) n cap) bs) :
 ∃ (cur : Array Value) (rows : List (List Value)) (T : List Value), W.heap[g]? = some (.cells cur 109 (0, 0)) ∧ cur.size = cap * 2 ∧ n ≤ cap ∧ cap ≤ 9223372036854775807 ∧ base ≤ g ∧ ok g ∧ rows.length = bs.length ∧ (∀ c ∈ rows, c.length = 2 ∧ ∀ u ∈ c, u.oneCell' = true) ∧ cur.toList = rows.flatten ++ T ∧
  ∀ (j : Nat) (b : Bk) (c : List Value), bs[j]? = some b → rows[j]? = some c → Kd.FK k109 W (fun k => ok k ∧ k ≠ g) b c := by
 have hn := (Kd.N_reads' h).1
 obtain ⟨hok, rows, hl, ⟨_, inner, ⟨h1, h2⟩, hr⟩, hf⟩ := h
 have hown : (Value.slice (some ⟨g, 0, none⟩) n cap).ownBlock = some g := rfl
 have hrow : ∀ c ∈ rows, c.length = 2 ∧ ∀ u ∈ c, u.oneCell' = true := by
  intro c hc
  obtain ⟨j, hj, rfl⟩ := List.getElem_of_mem hc
  have := hr.2 j _ (List.getElem?_eq_getElem hj)
  obtain ⟨e1, e2, e3⟩ := this
  rw [e1] at e2 e3
  exact ⟨e2, e3⟩
 have hfl : inner = rows.flatten := by
  have : ∀ (rows : List (List Value)) (inner : List Value), inner.length = rows.length * 2 → (∀ (j : Nat) (c : List Value), rows[j]? = some c → c = (inner.drop (j * 2)).take 2) → inner = rows.flatten := by
   intro rows
   induction rows with
   | nil => intro inner hi _; exact List.length_eq_zero_iff.1 (by simpa using hi)
   | cons c r ih =>
    intro inner hi hc
    have h0 := hc 0 c rfl
    rw [Nat.zero_mul, List.drop_zero] at h0
    rw [List.flatten_cons, ← ih (inner.drop 2) (by rw [List.length_drop, hi, List.length_cons]; omega) (fun j d hd => by
     have := hc (j + 1) d hd
     rw [List.drop_drop]
     rwa [Nat.succ_mul, Nat.add_comm (j * 2) 2] at this), h0, List.take_append_drop]
  refine this rows inner hr.1 (fun j c hc => ?_)
  exact (hr.2 j c hc).1.symm
 rcases h2 with ⟨he, h0⟩ | ⟨g', cap', cur, he, hb, hh, hnc, hcm, hcs, ht⟩
 · cases he
 · injection he with ha hn' hc
   injection ha with ha
   injection ha with ha
   subst ha; subst hc
   refine ⟨cur, rows, cur.toList.drop (rows.length * 2), hh, hcs, by omega, by unfold maxLen at hcm; omega, hb, hok _ rfl, hl, hrow, ?_, ?_⟩
   · have ht' : cur.toList.take (rows.length * 2) = inner := ht
     rw [← hfl, ← ht', List.take_append_drop]
   · intro j b c hb hc
     exact Kd.FK_mono (hf j b c hb hc) (fun k hk => ⟨hk.1, fun e => hk.2 (by rw [e, hown])⟩)
theorem a6w {W : World} {base g n cap : Nat} {ok : Nat → Prop} {bs : List Bk} {cur : Array Value} {rows : List (List Value)} {T : List Value} (hh : W.heap[g]? = some (.cells cur 109 (0, 0))) (hs : cur.size = cap * 2) (hn : n ≤ cap) (hc : cap ≤ 9223372036854775807) (hb : base ≤ g) (hok : ok g)
 (hl : rows.length = bs.length) (hnb : n = bs.length) (hrow : ∀ c ∈ rows, c.length = 2 ∧ ∀ u ∈ c, u.oneCell' = true) (ht : cur.toList = rows.flatten ++ T)
 (hf : ∀ (j : Nat) (b : Bk) (c : List Value), bs[j]? = some b → rows[j]? = some c → Kd.FK k109 W (fun k => ok k ∧ k ≠ g) b c) :
 Kd.N k109 109 W base ok (.slice (some ⟨g, 0, none⟩) n cap) bs := by
 have hown : (Value.slice (some ⟨g, 0, none⟩) n cap).ownBlock = some g := rfl
 have hfl := a2t (fun c hc => (hrow c hc).1)
 refine ⟨fun k hk => (by simpa [Value.ownBlock] using hk : g = k) ▸ hok, rows, hl, ⟨fun k hk => hk.symm, rows.flatten, ⟨hfl, .inr ⟨g, cap, cur, ?_, hb, hh, by omega, by unfold maxLen; omega, hs, ?_⟩⟩, ⟨hfl, fun j c hj => ?_⟩⟩, fun j b c hb hc => ?_⟩
 · rw [show rows.length = n by omega]
 · show cur.toList.take (rows.length * 2) = _
   rw [ht, List.take_append_of_le_length (by omega), List.take_of_length_le (by omega)]
 · obtain ⟨hjl, rfl⟩ := List.getElem?_eq_some_iff.1 hj
   have hd : rows.flatten = (rows.take j).flatten ++ (rows[j] ++ (rows.drop (j + 1)).flatten) := by
    conv => lhs; rw [← List.take_append_drop j rows, List.flatten_append, List.drop_eq_getElem_cons hjl, List.flatten_cons]
   have hlen : (rows.take j).flatten.length = j * 2 := by
    rw [a2t (fun c hc => (hrow c (List.mem_of_mem_take hc)).1), List.length_take]
    omega
   have hch : (rows.flatten.drop (j * 2)).take 2 = rows[j] := by
    rw [hd, List.drop_append_of_le_length (by omega), List.drop_of_length_le (by omega), List.nil_append, List.take_append_of_le_length (by rw [(hrow _ (List.getElem_mem hjl)).1]; omega), List.take_of_length_le (by rw [(hrow _ (List.getElem_mem hjl)).1]; omega)]
   have h2 := hrow _ (List.getElem_mem hjl)
   rw [← hch] at h2
   exact ⟨hch, h2.1, h2.2⟩
 · exact Kd.FK_mono (hf j b c hb hc) (fun k hk => ⟨hk.1, fun e => hk.2 (by rw [hown] at e; injection e)⟩)
theorem zeroB : ∀ w, (zeroValue 109).run Tryz.prog w = .ok (.agg #[.int .i64 0, .slice none 0 0]) w := by
 intro w
 have h : (Tryz.prog.info? 109).bind (fun i => i.zero) = some (.agg #[.int .i64 0, .slice none 0 0]) := by kernel_rfl
 obtain ⟨i, hi, hz⟩ := Option.bind_eq_some_iff.1 h
 simp [zeroValue, typeInfo, hi, hz]
theorem a5m (w : World) (g o c : Nat) (ty : TypeId) (cur : Array Value) (hg : w.heap[g]? = some (.cells cur 109 (0, 0))) (ho : o + 2 ≤ cur.size) :
 (Builtin.clear_ #[96] ty #[.slice (some ⟨g, o, none⟩) 1 c]).run Tryz.prog w = .ok (.tuple #[]) (w.setCells g o [.int .i64 0, .slice none 0 0]) := by
 have hst := run_storeCells_cells (P := Tryz.prog) g o [.int .i64 0, .slice none 0 0] 0 w
  (by intro j hj; rw [a1e hg]; simp at hj; simp; omega) (by intro j hj; exact a1h hg _) (by intro v hv; simp at hv; rcases hv with rfl | rfl <;> rfl)
 simp only [Nat.add_zero] at hst
 have hzc : (Builtin.zeroCells (Value.agg #[.int .i64 0, .slice none 0 0]).cells 1).toList = [.int .i64 0, .slice none 0 0] := by
  simp [Builtin.zeroCells, Value.cells, Array.toList_map, Array.toList_range, List.range, List.range.loop]
 simp [Builtin.clear_, run_underlying Tryz.underlying96, zeroB, hzc, hst]
structure OnlyG (w W : World) (g : Nat) : Prop where
  os : W.os = w.os
  tape : W.tape = w.tape
  output : W.output = w.output
  size : W.heap.size = w.heap.size
  other : ∀ k, k ≠ g → W.heap[k]? = w.heap[k]?
namespace OnlyG
variable {w W : World} {g : Nat}
theorem refl (w : World) (g : Nat) : OnlyG w w g := ⟨rfl, rfl, rfl, rfl, fun _ _ => rfl⟩
theorem drew (h : OnlyG w W g) : OnlyG w W.drew g := ⟨h.os, h.tape, h.output, h.size, h.other⟩
theorem drewN (h : OnlyG w W g) (m : Nat) : OnlyG w (W.drewN m) g := ⟨h.os, h.tape, h.output, h.size, h.other⟩
theorem setRow (h : OnlyG w W g) (cs : Array Value) : OnlyG w (W.setRow g cs) g := ⟨h.os, h.tape, h.output, by simp [World.setRow, h.size], fun k hk => (setRow_other _ _ _ _ hk).trans (h.other k hk)⟩
theorem setCell (h : OnlyG w W g) (j : Nat) (u : Value) : OnlyG w (W.setCell ⟨g, j, none⟩ u) g := ⟨h.os, h.tape, h.output, by simp [World.setCell, h.size], fun k hk => (Below.heap_setCell W ⟨g, j, none⟩ u k hk).trans (h.other k hk)⟩
theorem set2 (h : OnlyG w W g) (j : Nat) (u v : Value) : OnlyG w (W.setCells g j [u, v]) g := (h.setCell j u).setCell (j + 1) v
theorem grown (h : OnlyG w W g) : w.grownBy W (some g) := ⟨h.os, h.tape, h.output, by rw [h.size]; exact Nat.le_refl _, fun i _ hne => h.other i (fun e => hne (by rw [e]))⟩
end OnlyG
theorem a4h {W : World} {g o : Nat} {cur : Array Value} {t : TypeId} {u v : Value} (h : W.heap[g]? = some (.cells cur t (0, 0))) : (W.setCells g o [u, v]).heap[g]? = some (.cells ((cur.setIfInBounds o u).setIfInBounds (o + 1) v) t (0, 0)) :=
 blk_put (blk_put h o u rfl) (o + 1) v rfl
theorem a8d (X T : List Value) (u v : Value) : ∃ T', ((((X ++ T).toArray.setIfInBounds X.length u).setIfInBounds (X.length + 1) v)).toList = X ++ T' := by
 refine ⟨(T.set 0 u).set 1 v, ?_⟩
 simp only [List.setIfInBounds_toArray]
 rw [List.set_append_right _ _ (Nat.le_refl _), Nat.sub_self, List.set_append_right _ _ (by omega), show X.length + 1 - X.length = 1 by omega]
theorem a7f {w W : World} {base g n cap : Nat} {ok : Nat → Prop} {bs : List Bk} {cur : Array Value} {rows : List (List Value)} {T : List Value} (ho : OnlyG w W g) (hh : W.heap[g]? = some (.cells cur 109 (0, 0))) (hs : cur.size = cap * 2) (hn : n ≤ cap) (hc : cap ≤ 9223372036854775807) (hb : base ≤ g) (hok : ok g)
 (hl : rows.length = bs.length) (hnb : n = bs.length) (hrow : ∀ c ∈ rows, c.length = 2 ∧ ∀ u ∈ c, u.oneCell' = true) (ht : cur.toList = rows.flatten ++ T)
 (hf : ∀ (j : Nat) (b : Bk) (c : List Value), bs[j]? = some b → rows[j]? = some c → Kd.FK k109 w (fun k => ok k ∧ k ≠ g) b c) :
 Kd.N k109 109 W base ok (.slice (some ⟨g, 0, none⟩) n cap) bs :=
 a6w hh hs hn hc hb hok hl hnb hrow ht (fun j b c h1 h2 => Kd.FK_step (hf j b c h1 h2) (fun k hk _ => ho.other k hk.2))
theorem b3c {α β : Type} {R : α → β → Prop} {xs : List α} {ys : List β} {q : Nat} {x : α} {y : β} (hl : ys.length = xs.length) (hq : q + 2 ≤ xs.length) (h : ∀ (j : Nat) (a : α) (b : β), xs[j]? = some a → ys[j]? = some b → R a b) (hxy : R x y) :
 ∀ (j : Nat) (a : α) (b : β), (xs.take q ++ x :: xs.drop (q + 2))[j]? = some a → (ys.take q ++ y :: ys.drop (q + 2))[j]? = some b → R a b := by
 intro j a b ha hb
 have l1 : (xs.take q).length = q := by rw [List.length_take]; omega
 have l2 : (ys.take q).length = q := by rw [List.length_take]; omega
 by_cases h1 : j < q
 · rw [List.getElem?_append_left (by omega), List.getElem?_take, if_pos h1] at ha hb
   exact h j a b ha hb
 · rw [List.getElem?_append_right (by omega), l1] at ha
   rw [List.getElem?_append_right (by omega), l2] at hb
   obtain ⟨d, hd⟩ : ∃ d, j - q = d := ⟨_, rfl⟩
   rw [hd] at ha hb
   cases d with
   | zero =>
    obtain rfl : x = a := by simpa using ha
    obtain rfl : y = b := by simpa using hb
    exact hxy
   | succ d =>
    rw [List.getElem?_cons_succ, List.getElem?_drop] at ha hb
    exact h _ a b ha hb
theorem c0r (base g n cap q vb vc : Nat) (ok : Nat → Prop) (bs : List Bk) (m : Bk) (u : Value) (w : World) (hN : Kd.N k109 109 w base ok (.slice (some ⟨g, 0, none⟩) n cap) bs) (hq : q + 2 < n) (hn : n ≤ 1000)
 (hv : w.heap[vb]? = some (.cells #[.int .i64 m.f0, u] 109 (0, 0))) (hne : vb ≠ g) (hM : Kd.FK k109 w (fun k => ok k ∧ k ≠ g) m [.int .i64 m.f0, u]) :
 Calls Tryz.prog 96 #[.slice (some ⟨g, 0, none⟩) n cap, .int .i64 (q : Int), .int .i64 ((q : Int) + 2), .slice (some ⟨vb, 0, none⟩) 1 vc] w fun e w' => e = .returned (.slice (some ⟨g, 0, none⟩) (n - 1) cap) ∧ Kd.N k109 109 w' base ok (.slice (some ⟨g, 0, none⟩) (n - 1) cap) (bs.take q ++ m :: bs.drop (q + 2)) ∧ w.grownBy w' (some g) := by
 have hnl := (Kd.N_reads' hN).1
 obtain ⟨cur, rows, T, hg, hs, hnc, hcm, hb, hok, hl, hrow, ht, hf⟩ := a4b hN
 have hmr : ([.int .i64 m.f0, u] : List Value).length = 2 ∧ ∀ x ∈ ([.int .i64 m.f0, u] : List Value), x.oneCell' = true := (Kd.FK_raw hM).2
 have hsz : (Tryz.prog.info? 109).map (·.size) = some 2 := by kernel_rfl
 have hX : (rows.take q).flatten.length = q * 2 := by rw [a2t (fun c hc => (hrow c (List.mem_of_mem_take hc)).1), List.length_take]; omega
 have hY : (rows.drop (q + 2)).flatten.length = (n - (q + 2)) * 2 := by rw [a2t (fun c hc => (hrow c (List.mem_of_mem_drop hc)).1), List.length_drop]; omega
 have hZ : ((rows.drop q).take 2).flatten.length = 2 * 2 := by rw [a2t (fun c hc => (hrow c (List.mem_of_mem_drop (List.mem_of_mem_take hc))).1), List.length_take, List.length_drop]; omega
 have hsplit : rows.flatten = (rows.take q).flatten ++ (((rows.drop q).take 2).flatten ++ (rows.drop (q + 2)).flatten) := by
  rw [← List.flatten_append, ← List.flatten_append, show rows.drop (q + 2) = (rows.drop q).drop 2 by rw [List.drop_drop], List.take_append_drop, List.take_append_drop]
 have hR' : (rows.take q ++ [.int .i64 m.f0, u] :: rows.drop (q + 2)).flatten = (rows.take q).flatten ++ ([.int .i64 m.f0, u] ++ (rows.drop (q + 2)).flatten) := by rw [List.flatten_append, List.flatten_cons]
 have hrow' : ∀ c ∈ rows.take q ++ [.int .i64 m.f0, u] :: rows.drop (q + 2), c.length = 2 ∧ ∀ x ∈ c, x.oneCell' = true := by
  intro c hc
  rcases List.mem_append.1 hc with hc | hc
  · exact hrow c (List.mem_of_mem_take hc)
  · rcases List.mem_cons.1 hc with rfl | hc
    · exact hmr
    · exact hrow c (List.mem_of_mem_drop hc)
 have hf' := b3c (q := q) (R := fun b c => Kd.FK k109 w (fun k => ok k ∧ k ≠ g) b c) hl (by omega) hf hM
 have hl' : (rows.take q ++ [.int .i64 m.f0, u] :: rows.drop (q + 2)).length = (bs.take q ++ m :: bs.drop (q + 2)).length := by simp only [List.length_append, List.length_take, List.length_cons, List.length_drop, hl]
 have hnb' : n - 1 = (bs.take q ++ m :: bs.drop (q + 2)).length := by simp only [List.length_append, List.length_take, List.length_cons, List.length_drop]; omega
 have hYo : ∀ x ∈ (rows.drop (q + 2)).flatten, x.oneCell' = true := by
  intro x hx
  obtain ⟨c, hc, hxc⟩ := List.mem_flatten.1 hx
  exact (hrow c (List.mem_of_mem_drop hc)).2 x hxc
 rw [hsplit] at ht
 have hcl : cur.toList.length = cap * 2 := by rw [Array.length_toList, hs]
 generalize (rows.take q).flatten = X at *
 generalize ((rows.drop q).take 2).flatten = Z at *
 generalize (rows.drop (q + 2)).flatten = Y at *
 obtain ⟨C1, hC1⟩ : ∃ C1 : List Value, C1 = X ++ ([.int .i64 m.f0, u] ++ (Z.drop 2 ++ (Y ++ T))) := ⟨_, rfl⟩
 obtain ⟨C2, hC2⟩ : ∃ C2 : List Value, C2 = X ++ ([.int .i64 m.f0, u] ++ (Y ++ ((Z.drop 2 ++ (Y ++ T)).drop Y.length))) := ⟨_, rfl⟩
 have hTl : X.length + (Z.length + (Y.length + T.length)) = cap * 2 := by
  rw [← hcl, ht]; simp only [List.length_append]; omega
 have hC1l : C1.length = cap * 2 := by rw [hC1]; simp only [List.length_append, List.length_cons, List.length_nil, List.length_drop]; omega
 have hC2l : C2.length = cap * 2 := by rw [hC2]; simp only [List.length_append, List.length_cons, List.length_nil, List.length_drop]; omega
 have hcp1 : ∀ (W : World) ty, W.heap[g]? = some (.cells cur 109 (0, 0)) → W.heap[vb]? = some (.cells #[.int .i64 m.f0, u] 109 (0, 0)) → (Builtin.copy_ #[96, 96] ty #[.slice (some ⟨g, q * 2, none⟩) (n - 1 - q) (cap - q), .slice (some ⟨vb, 0, none⟩) 1 vc]).run Tryz.prog W = .ok (goInt 1) (W.setRow g C1.toArray) := fun W ty hW hV => by
  have h1 : Nat.min 1 (n - 1 - q) = 1 := by simp only [Nat.min_def]; split <;> omega
  have := a3p (P := Tryz.prog) W 96 96 ty 109 g (q * 2) (n - 1 - q) (cap - q) ⟨vb, 0, none⟩ 1 vc cur 109 [.int .i64 m.f0, u] Tryz.underlying96 hsz hW (by rw [h1]; rfl)
   (fun j v hj => by rw [Addr.add_lit, Nat.zero_add, a1e hV]; simpa using hj) (by rw [hs]; show q * 2 + 2 ≤ _; omega) hmr.2
  rw [this, h1, hC1, ht]
  congr 3
  show ((X ++ (Z ++ Y) ++ T).take (q * 2) ++ [.int .i64 m.f0, u] ++ (X ++ (Z ++ Y) ++ T).drop (q * 2 + 2)) = _
  have e1 : (X ++ (Z ++ Y) ++ T).take (q * 2) = X := by rw [List.append_assoc]; exact List.take_left' hX
  have e2 : (X ++ (Z ++ Y) ++ T).drop (q * 2 + 2) = Z.drop 2 ++ (Y ++ T) := by
   rw [List.append_assoc, List.append_assoc, List.drop_append, List.drop_of_length_le (by omega), List.nil_append, show q * 2 + 2 - X.length = 2 by omega, List.drop_append_of_le_length (by omega)]
  rw [e1, e2]
  simp
 have hcp2 : ∀ (W : World) ty dc sc, W.heap[g]? = some (.cells C1.toArray 109 (0, 0)) → (Builtin.copy_ #[96, 96] ty #[.slice (some ⟨g, (q + 1) * 2, none⟩) (n - 1 - (q + 1)) dc, .slice (some ⟨g, (q + 2) * 2, none⟩) (n - (q + 2)) sc]).run Tryz.prog W = .ok (goInt ((n - (q + 2) : Nat) : Int)) (W.setRow g C2.toArray) := fun W ty dc sc hW => by
  have h1 : Nat.min (n - (q + 2)) (n - 1 - (q + 1)) = n - (q + 2) := by simp only [Nat.min_def]; split <;> omega
  have := a3p (P := Tryz.prog) W 96 96 ty 109 g ((q + 1) * 2) (n - 1 - (q + 1)) dc ⟨g, (q + 2) * 2, none⟩ (n - (q + 2)) sc C1.toArray 109 Y Tryz.underlying96 hsz hW (by rw [h1, hY])
   (fun j v hj => by
    rw [Addr.add_lit, a1e hW, List.getElem?_toArray, hC1]
    rw [List.getElem?_append_right (by omega), List.getElem?_append_right (by simp; omega), List.getElem?_append_right (by simp; omega), List.getElem?_append_left (by
     have := (List.getElem?_eq_some_iff.1 hj).1
     simp; omega)]
    rw [← hj]
    congr 1
    simp
    omega) (by simp only [List.size_toArray, hC1l]; omega) hYo
  rw [this, h1, hC2]
  congr 3
  have e1 : C1.take ((q + 1) * 2) = X ++ [.int .i64 m.f0, u] := by
   rw [hC1, ← List.append_assoc]
   exact List.take_left' (by simp; omega)
  have e2 : C1.drop ((q + 1) * 2 + Y.length) = (Z.drop 2 ++ (Y ++ T)).drop Y.length := by
   rw [hC1, ← List.append_assoc, List.drop_append, List.drop_of_length_le (by simp; omega), List.nil_append]
   congr 1
   simp
   omega
  show C1.take ((q + 1) * 2) ++ Y ++ C1.drop ((q + 1) * 2 + Y.length) = _
  rw [e1, e2]
  simp
 have hclr : ∀ (W : World) ty c, W.heap[g]? = some (.cells C2.toArray 109 (0, 0)) → (Builtin.clear_ #[96] ty #[.slice (some ⟨g, (n - 1) * 2, none⟩) 1 c]).run Tryz.prog W = .ok (.tuple #[]) (W.setCells g ((n - 1) * 2) [.int .i64 0, .slice none 0 0]) := fun W ty c hW =>
  a5m W g ((n - 1) * 2) c ty C2.toArray hW (by simp only [List.size_toArray, hC2l]; omega)
 have hend : ∀ W, OnlyG w W g → W.heap[g]? = some (.cells C2.toArray 109 (0, 0)) → Kd.N k109 109 (W.setCells g ((n - 1) * 2) [.int .i64 0, .slice none 0 0]) base ok (.slice (some ⟨g, 0, none⟩) (n - 1) cap) (bs.take q ++ m :: bs.drop (q + 2)) ∧ w.grownBy (W.setCells g ((n - 1) * 2) [.int .i64 0, .slice none 0 0]) (some g) := fun W hO hW => by
  have hlen : (X ++ ([.int .i64 m.f0, u] ++ Y)).length = (n - 1) * 2 := by simp; omega
  obtain ⟨T', hT'⟩ := a8d (X ++ ([.int .i64 m.f0, u] ++ Y)) ((Z.drop 2 ++ (Y ++ T)).drop Y.length) (.int .i64 0) (.slice none 0 0)
  have hC2' : C2 = (X ++ ([.int .i64 m.f0, u] ++ Y)) ++ ((Z.drop 2 ++ (Y ++ T)).drop Y.length) := by rw [hC2]; simp
  rw [← hC2', hlen] at hT'
  refine ⟨a7f (hO.set2 _ _ _) (a4h hW) (by simp [hC2l]) (by omega) hcm hb hok hl' hnb' hrow' (by rw [hT', hR']) hf', (hO.set2 _ _ _).grown⟩
 have HCP1 := za hcp1
 have HCP2 := za hcp2
 have HCLR := za hclr
 have HEND := za hend
 have HG := za hg
 have HV := za hv
 have mixed : Tryz.prog.follows .mixedOrders = true := by kernel_rfl
 have b10 : (0 : Int) ≤ (q : Int) + 2 := by omega
 have d1 : ((q : Int) == (q : Int) + 2) = false := by rw [beq_eq_false_iff_ne]; omega
 have d2 : ((q : Int) + 2 == (n : Int)) = false := by rw [beq_eq_false_iff_ne]; omega
 have d3 : decide (cap < n - 1) = false := decide_eq_false (by omega)
 have d4 : decide ((q : Int) + 1 ≤ (q : Int) + 2) = true := decide_eq_true (by omega)
 have b1 : (0 : Int) ≤ (q : Int) := by omega
 have b2 : (q : Int) ≤ (q : Int) + 2 := by omega
 have b3 : (q : Int) + 2 ≤ (n : Int) := by omega
 have b4 : (q : Int) + 2 ≤ (cap : Int) := by omega
 have b5 : q ≤ cap := by omega
 have b6 : ¬ (cap = q) := by omega
 have b7 : ((q : Int) + 2).toNat = q + 2 := by omega
 have b8 : ¬ (cap = q + 2) := by omega
 have b9 : n - 1 ≤ cap := by omega
 have c1 : q ≤ n - 1 := by omega
 have c2 : ((q : Int) + 1).toNat = q + 1 := by omega
 have c3 : ¬ (cap = q + 1) := by omega
 have c4 : (0 : Int) ≤ (q : Int) + 1 := by omega
 have c5 : (q : Int) + 1 ≤ ((n - 1 : Nat) : Int) := by omega
 have c6 : ¬ (cap = n - 1) := by omega
 have c7 : n - 1 ≤ n := by omega
 have c8 : n - (n - 1) = 1 := by omega
 have s1 : IntKind.i64.wrap ((q : Int) + 1) = (q : Int) + 1 := IntWalk.i64_in _ (by omega)
 have s2 : IntKind.i64.wrap ((q : Int) + 1 + ((n - (q + 2) : Nat) : Int)) = ((n - 1 : Nat) : Int) := by rw [show (q : Int) + 1 + ((n - (q + 2) : Nat) : Int) = ((n - 1 : Nat) : Int) by omega]; exact IntWalk.i64_in _ (by omega)
 have HCU := za hs
 clear hN hnl hg hs hnc hcm hb hl hrow ht hf hv hM hcp1 hcp2 hclr hend hX hY hZ hsplit hR' hrow' hf' hl' hnb' hYo hcl hTl hC1l hC2l hmr hn hC1 hC2
 go_enter Tryz.func96, Tryz.ntmps96
 go_wp2_with fail
 go_quiet (fail)
 go_wp2_with (first | ((with_reducible refine gate_builtin (b := .copy) (xs := #[.tmp 95, .tmp 96]) rfl ?_); go_loud (refine wpList_copy_runI _ rfl _ _ 96 96 rfl _ _ rfl rfl (HCP1.out _ _ HG.out HV.out) ?_)))
 have hw1 := setRow_heap (w.drewN nq) g cur C1.toArray 109 (0, 0) HG.out
 have HW1 := za hw1
 clear hw1
 go_region_law_o (go_loud (refine step_copy_runI rfl (.tmp 103) (.tmp 106) 96 96 rfl (.slice (some ⟨g, (q + 1) * 2, none⟩) (n - 1 - (q + 1)) (cap - (q + 1))) (.slice (some ⟨g, (q + 2) * 2, none⟩) (n - (q + 2)) (cap - (q + 2))) ?h1 ?h2 (HCP2.out ((w.drewN nq).setRow g C1.toArray).drew _ _ _ HW1.out) ?_; (case h1 => (simp [Act.eval, Act.put]; done)); (case h2 => (simp [Act.eval, Act.put]; done))))
 have hw2 := setRow_heap ((w.drewN nq).setRow g C1.toArray).drew g C1.toArray C2.toArray 109 (0, 0) HW1.out
 have HW2 := za hw2
 clear hw2
 go_wp2_with (first | ((with_reducible refine gate_builtin (b := .clear) (xs := #[.tmp 110]) rfl ?_); go_loud (refine a5w _ rfl _ 96 rfl _ rfl (HCLR.out _ _ _ HW2.out) ?_)))
 go_ret
 have := HEND.out _ ((((OnlyG.refl w g).drewN nq).setRow C1.toArray).drew.setRow C2.toArray) HW2.out
 exact ⟨rfl, this.1, this.2⟩
theorem b4e (base g n cap q vb vc : Nat) (ok : Nat → Prop) (bs : List Bk) (m : Bk) (u : Value) (w : World) (hN : Kd.N k109 109 w base ok (.slice (some ⟨g, 0, none⟩) n cap) bs) (hq : q + 2 = n) (hn : n ≤ 1000)
 (hv : w.heap[vb]? = some (.cells #[.int .i64 m.f0, u] 109 (0, 0))) (hne : vb ≠ g) (hM : Kd.FK k109 w (fun k => ok k ∧ k ≠ g) m [.int .i64 m.f0, u]) :
 Calls Tryz.prog 96 #[.slice (some ⟨g, 0, none⟩) n cap, .int .i64 (q : Int), .int .i64 ((q : Int) + 2), .slice (some ⟨vb, 0, none⟩) 1 vc] w fun e w' => e = .returned (.slice (some ⟨g, 0, none⟩) (n - 1) cap) ∧ Kd.N k109 109 w' base ok (.slice (some ⟨g, 0, none⟩) (n - 1) cap) (bs.take q ++ m :: bs.drop (q + 2)) ∧ w.grownBy w' (some g) := by
 have hnl := (Kd.N_reads' hN).1
 obtain ⟨cur, rows, T, hg, hs, hnc, hcm, hb, hok, hl, hrow, ht, hf⟩ := a4b hN
 have hmr : ([.int .i64 m.f0, u] : List Value).length = 2 ∧ ∀ x ∈ ([.int .i64 m.f0, u] : List Value), x.oneCell' = true := (Kd.FK_raw hM).2
 have hX : (rows.take q).flatten.length = q * 2 := by rw [a2t (fun c hc => (hrow c (List.mem_of_mem_take hc)).1), List.length_take]; omega
 have hZ : (rows.drop q).flatten.length = 2 * 2 := by rw [a2t (fun c hc => (hrow c (List.mem_of_mem_drop hc)).1), List.length_drop]; omega
 have hY0 : rows.drop (q + 2) = [] := List.drop_eq_nil_of_le (by omega)
 have hsplit : rows.flatten = (rows.take q).flatten ++ (rows.drop q).flatten := by rw [← List.flatten_append, List.take_append_drop]
 have hR' : (rows.take q ++ [.int .i64 m.f0, u] :: rows.drop (q + 2)).flatten = (rows.take q).flatten ++ [.int .i64 m.f0, u] := by rw [hY0, List.flatten_append]; simp
 have hrow' : ∀ c ∈ rows.take q ++ [.int .i64 m.f0, u] :: rows.drop (q + 2), c.length = 2 ∧ ∀ x ∈ c, x.oneCell' = true := by
  intro c hc
  rcases List.mem_append.1 hc with hc | hc
  · exact hrow c (List.mem_of_mem_take hc)
  · rcases List.mem_cons.1 hc with rfl | hc
    · exact hmr
    · exact hrow c (List.mem_of_mem_drop hc)
 have hf' := b3c (q := q) (R := fun b c => Kd.FK k109 w (fun k => ok k ∧ k ≠ g) b c) hl (by omega) hf hM
 have hl' : (rows.take q ++ [.int .i64 m.f0, u] :: rows.drop (q + 2)).length = (bs.take q ++ m :: bs.drop (q + 2)).length := by simp only [List.length_append, List.length_take, List.length_cons, List.length_drop, hl]
 have hnb' : q + 1 = (bs.take q ++ m :: bs.drop (q + 2)).length := by simp only [List.length_append, List.length_take, List.length_cons, List.length_drop]; omega
 rw [hsplit] at ht
 have hcl : cur.toList.length = cap * 2 := by rw [Array.length_toList, hs]
 generalize (rows.take q).flatten = X at *
 generalize (rows.drop q).flatten = Z at *
 have hTl : X.length + (Z.length + T.length) = cap * 2 := by rw [← hcl, ht]; simp only [List.length_append]; omega
 have hi0 : ∃ i, Tryz.prog.info? 109 = some i ∧ i.size = 2 := by
  have h : (Tryz.prog.info? 109).map (·.size) = some 2 := by kernel_rfl
  obtain ⟨i, h1, h2⟩ := Option.map_eq_some_iff.1 h
  exact ⟨i, h1, h2⟩
 obtain ⟨i0, hi0, hi2⟩ := hi0
 obtain ⟨C1, hC1⟩ : ∃ C1 : Array Value, C1 = (cur.setIfInBounds (q * 2) (.int .i64 m.f0)).setIfInBounds (q * 2 + 1) u := ⟨_, rfl⟩
 have hC1s : C1.size = cap * 2 := by rw [hC1]; simp [hs]
 have hC1l : ∃ T1, C1.toList = X ++ ([.int .i64 m.f0, u] ++ T1) := by
  refine ⟨(Z ++ T).drop 2, ?_⟩
  have hcur : cur = (X ++ (Z ++ T)).toArray := by rw [← List.append_assoc, ← ht]
  obtain ⟨z0, z1, R, hzr⟩ : ∃ z0 z1 R, Z ++ T = z0 :: z1 :: R := by
   match hz : Z ++ T with
   | [] => have := congrArg List.length hz; rw [List.length_append] at this; simp only [List.length_nil] at this; omega
   | [_] => have := congrArg List.length hz; rw [List.length_append] at this; simp only [List.length_cons, List.length_nil] at this; omega
   | z0 :: z1 :: R => exact ⟨z0, z1, R, rfl⟩
  rw [hC1, hcur, hzr]
  simp only [List.setIfInBounds_toArray]
  rw [List.set_append_right _ _ (by omega), show q * 2 - X.length = 0 by omega, List.set_append_right _ _ (by omega), show q * 2 + 1 - X.length = 1 by omega]
  rfl
 obtain ⟨T1, hC1l⟩ := hC1l
 have happ : ∀ (W : World) ty, W.heap[g]? = some (.cells cur 109 (0, 0)) → W.heap[vb]? = some (.cells #[.int .i64 m.f0, u] 109 (0, 0)) → (Builtin.append_ #[96, 96] ty #[.slice (some ⟨g, 0, none⟩) q cap, .slice (some ⟨vb, 0, none⟩) 1 vc]).run Tryz.prog W = .ok (.slice (some ⟨g, 0, none⟩) (q + 1) cap) (W.setCells g (q * 2) [.int .i64 m.f0, u]) := fun W ty hW hV => by
  have := run_append_room_cells (P := Tryz.prog) W 96 ty 109 i0 Tryz.underlying96 hi0 g 0 q cap ⟨vb, 0, none⟩ 1 vc [.int .i64 m.f0, u] (by rw [hi2]; rfl)
   (fun j v hj => by rw [Addr.add_lit, Nat.zero_add, a1e hV]; simpa using hj) hmr.2 (by omega)
   (fun j hj => by rw [a1e hW, hi2]; simp at hj; simp; omega) (fun j hj => a1h hW _)
  rw [this, hi2, Nat.zero_add]
 have hclr : ∀ (W : World) ty c, W.heap[g]? = some (.cells C1 109 (0, 0)) → (Builtin.clear_ #[96] ty #[.slice (some ⟨g, (q + 1) * 2, none⟩) 1 c]).run Tryz.prog W = .ok (.tuple #[]) (W.setCells g ((q + 1) * 2) [.int .i64 0, .slice none 0 0]) := fun W ty c hW =>
  a5m W g ((q + 1) * 2) c ty C1 hW (by omega)
 have hend : ∀ W, OnlyG w W g → W.heap[g]? = some (.cells C1 109 (0, 0)) → Kd.N k109 109 (W.setCells g ((q + 1) * 2) [.int .i64 0, .slice none 0 0]) base ok (.slice (some ⟨g, 0, none⟩) (q + 1) cap) (bs.take q ++ m :: bs.drop (q + 2)) ∧ w.grownBy (W.setCells g ((q + 1) * 2) [.int .i64 0, .slice none 0 0]) (some g) := fun W hO hW => by
  have hlen : (X ++ [.int .i64 m.f0, u]).length = (q + 1) * 2 := by simp; omega
  obtain ⟨T', hT'⟩ := a8d (X ++ [.int .i64 m.f0, u]) T1 (.int .i64 0) (.slice none 0 0)
  have hC1' : C1 = ((X ++ [.int .i64 m.f0, u]) ++ T1).toArray := by rw [List.append_assoc, ← hC1l]
  rw [hlen, ← hC1'] at hT'
  refine ⟨a7f (hO.set2 _ _ _) (a4h hW) (by simp [hC1s]) (by omega) hcm hb hok hl' hnb' hrow' (by rw [hT', hR']) hf', (hO.set2 _ _ _).grown⟩
 have HAPP := za happ
 have HCLR := za hclr
 have HEND := za hend
 have HG := za hg
 have HV := za hv
 have HC1 := za hC1
 have hq' : n = q + 2 := hq.symm
 clear hN hnl hs hcm hb hl hrow ht hf hM happ hclr hend hX hZ hsplit hR' hrow' hf' hl' hnb' hcl hTl hC1l hC1s hmr hC1 hi0 hi2 hY0 hg hv
 subst hq'
 have d1 : ((q : Int) == (q : Int) + 2) = false := by rw [beq_eq_false_iff_ne]; omega
 have d2 : ((q : Int) + 2 == ((q + 2 : Nat) : Int)) = true := by rw [beq_iff_eq]; omega
 have d3 : decide (q + 1 < q + 2) = true := decide_eq_true (by omega)
 have b1 : (0 : Int) ≤ (q : Int) := by omega
 have b2 : (q : Int) ≤ (q : Int) + 2 := by omega
 have b4 : (q : Int) + 2 ≤ (cap : Int) := by omega
 have b5 : q ≤ cap := by omega
 have b6 : ¬ (cap = q) := by omega
 have b7 : ((q : Int) + 2).toNat = q + 2 := by omega
 have b8 : ¬ (cap = q + 1) := by omega
 have b9 : (0 : Int) ≤ (q : Int) + 1 := by omega
 have c1 : ((q : Int) + 1).toNat = q + 1 := by omega
 have c2 : q + 1 ≤ q + 2 := by omega
 have c3 : q + 2 - (q + 1) = 1 := by omega
 have c4 : (q : Int) + 1 ≤ (q : Int) + 2 := by omega
 clear hn hnc
 go_enter Tryz.func96, Tryz.ntmps96
 go_wp2_with (first | ((with_reducible refine gate_builtin (b := .append) (xs := #[.tmp 32, .tmp 33]) rfl ?_); go_loud (refine wpList_append_run _ rfl (.tmp 32) (.tmp 33) 96 rfl (.slice (some ⟨g, 0, none⟩) q cap) (.slice (some ⟨vb, 0, none⟩) 1 vc) (by simp [Act.eval, Act.put]) (by simp [Act.eval, Act.put]) (HAPP.out _ _ HG.out HV.out) ?_)) | ((with_reducible refine gate_builtin (b := .clear) (xs := #[.tmp 43]) rfl ?_); go_loud (refine a5w _ rfl (.tmp 43) 96 rfl (.slice (some ⟨g, (q + 1) * 2, none⟩) 1 (cap - (q + 1))) (by simp [Act.eval, Act.put]) (HCLR.out _ _ _ (by rw [HC1.out]; exact a4h HG.out)) ?_)))
 go_ret
 have := HEND.out (w.setCells g (q * 2) [.int .i64 m.f0, u]) ((OnlyG.refl w g).set2 _ _ _) (by rw [HC1.out]; exact a4h HG.out)
 exact ⟨rfl, this.1, this.2⟩
theorem e_at {w : World} {A : Option Addr} {l : List E} (h : Kd.C k33 w A l.length l) {i : Nat} {e : E} (he : l[i]? = some e) :
 ∃ ad, A = some ad ∧ w.cell? (ad.add (i * 2)) = some (.int .u64 e.f0) ∧ w.cell? ⟨(ad.add (i * 2)).block, (ad.add (i * 2)).off + 1, none⟩ = some (.int .i64 e.f1) := by
 obtain ⟨hlt, rfl⟩ := List.getElem?_eq_some_iff.1 he
 obtain ⟨ad, e1, e2, e3⟩ := a0e h (i : Int) (by omega) (by omega)
 have hr : a0a l (i : Int) = l[i] := by unfold a0a; rw [Int.toNat_natCast, List.getD_eq_getElem?_getD, List.getElem?_eq_getElem hlt]; rfl
 rw [hr, Int.toNat_natCast] at e2 e3
 exact ⟨ad, e1, e2, e3⟩
def a2f (l : List E) : Int × Int × Int × Bool := match l with | [] => (0, 0, 0, false) | e :: _ => (e.f0, e.f1, 0, true)
structure LBx (w wr : World) (l : List E) : Prop where
  at_ : wr.heap[w.heap.size]? = some (.cells #[.int .u64 (a2f l).1, .int .i64 (a2f l).2.1] 33 (0, 0))
  bel : Below w.heap.size w wr
theorem b2j (A : Option Addr) (c g : Nat) (l : List E) (w : World) (h : w.heap[g]? = some (.cells #[.slice A l.length c] 35 (0, 0))) (hC : Kd.C k33 w A l.length l) :
 Calls Tryz.prog 88 #[.slice (some ⟨g, 0, none⟩) 1 1] w fun e w' => e = .returned (.tuple #[.agg #[.int .u64 (a2f l).1, .int .i64 (a2f l).2.1], .int .i64 (a2f l).2.2.1, .bool (a2f l).2.2.2]) ∧ Below w.heap.size w w' := by
 have HX := za ((uq h 0).trans rfl : w.cell? ⟨g, 0, none⟩ = some (.slice A l.length c))
 have HC := za hC
 have hz := heap_alloc_new w (.cells #[.int .u64 0, .int .i64 0] 33)
 have hzb := uv (Below.refl w.heap.size w) (.cells #[.int .u64 0, .int .i64 0] 33)
 have HZ := za (show LBx w (w.alloc (.cells #[.int .u64 0, .int .i64 0] 33)) [] from ⟨hz, hzb⟩)
 clear h hC hz hzb
 go_enter Tryz.func88, Tryz.ntmps88
 go_wp2_with fail
 go_loopw [3, 4, 9] (fun a b i wr => ∃ m, a = .int .i64 0 ∧ b = .bool (a2f m).2.2.2 ∧ ((m = [] ∧ i = .int .i64 0) ∨ (m = l ∧ i = .int .i64 1)) ∧ Aside0 (LBx w wr m)) (fun _ _ i _ => 1 - (intOf i).toNat)
 case atStart => exact ⟨[], rfl, rfl, .inl ⟨rfl, rfl⟩, HZ⟩
 case round =>
  clear HZ
  obtain ⟨m, rfl, rfl, hmi, HB⟩ := hrel
  rcases hmi with ⟨rfl, rfl⟩ | ⟨rfl, rfl⟩
  · have k0 := uy HB.out.bel HX.out
    have z0 := (uq HB.out.at_ 0).trans rfl
    have z1 := (uq HB.out.at_ 1).trans rfl
    have z2 := vk HB.out.at_ 0
    have z3 := vk HB.out.at_ 1
    cases l with
    | nil =>
     go_upto_region 4 with fail
     refine start_ (n := 14) (S := fun w' => True) (ds := []) #[xX, xX, xX, xX, xX, xX, xX, xX, xX, xX, xX, xX, xX, xX] (by kernel_rfl) rfl rfl trivial (fun hHeld => ?_)
     refine pU (i := 0) (N := (some 14)) (bA 14 1) (by kernel_rfl) rfl ?_
     refine pU (i := 1) (N := (some 15)) (bA 14 3) (by kernel_rfl) rfl ?_
     refine pU (i := 2) (N := (some 16)) (bA 14 7) (by kernel_rfl) rfl ?_
     refine pU (i := 3) (N := (some 17)) (bA 14 15) (by kernel_rfl) rfl ?_
     refine uh (i := 4) (N := (some 18)) (v := undef) (a' := ?_) (bA 14 31) rfl rfl (by kernel_rfl) (fun _ _ _ h => h) (Or.inr ⟨by rfl, rfl⟩) ?_ ?_
     rotate_left
     · simp only [Act.put, ua, ub, uc, ue, uf]
       rfl
     refine uh (i := 5) (N := (some 19)) (v := undef) (a' := ?_) (bA 14 63) rfl rfl (by kernel_rfl) (fun _ _ _ h => h) (Or.inr ⟨by rfl, rfl⟩) ?_ ?_
     rotate_left
     · simp only [Act.put, ua, ub, uc, ue, uf]
       rfl
     refine uh (i := 6) (N := (some 20)) (v := undef) (a' := ?_) (bA 14 127) rfl rfl (by kernel_rfl) (fun _ _ _ h => h) (Or.inr ⟨by rfl, rfl⟩) ?_ ?_
     rotate_left
     · simp only [Act.put, ua, ub, uc, ue, uf]
       rfl
     refine uh (i := 7) (N := (some 21)) (v := undef) (a' := ?_) (bA 14 255) rfl rfl (by kernel_rfl) (fun _ _ _ h => h) (Or.inr ⟨by rfl, rfl⟩) ?_ ?_
     rotate_left
     · simp only [Act.put, ua, ub, uc, ue, uf]
       rfl
     refine uh (i := 8) (N := (some 22)) (v := undef) (a' := ?_) (bA 14 511) rfl rfl (by kernel_rfl) (fun _ _ _ h => h) (Or.inr ⟨by rfl, rfl⟩) ?_ ?_
     rotate_left
     · simp only [Act.put, ua, ub, uc, ue, uf]
       rfl
     refine uh (i := 9) (N := (some 23)) (v := undef) (a' := ?_) (bA 14 1023) rfl rfl (by kernel_rfl) (fun _ _ _ h => h) (Or.inr ⟨by rfl, rfl⟩) ?_ ?_
     rotate_left
     · simp only [Act.put, ua, ub, uc, ue, uf]
       rfl
     refine uh (i := 10) (N := (some 24)) (v := undef) (a' := ?_) (bA 14 2047) rfl rfl (by kernel_rfl) (fun _ _ _ h => h) (Or.inr ⟨by rfl, rfl⟩) ?_ ?_
     rotate_left
     · simp only [Act.put, ua, ub, uc, ue, uf]
       rfl
     refine uh (i := 11) (N := (some 25)) (v := undef) (a' := ?_) (bA 14 4095) rfl rfl (by kernel_rfl) (fun _ _ _ h => h) (Or.inr ⟨by rfl, rfl⟩) ?_ ?_
     rotate_left
     · simp only [Act.put, ua, ub, uc, ue, uf]
       rfl
     refine uh (i := 12) (N := (some 26)) (v := undef) (a' := ?_) (bA 14 8191) rfl rfl (by kernel_rfl) (fun _ _ _ h => h) (Or.inr ⟨by rfl, rfl⟩) ?_ ?_
     rotate_left
     · simp only [Act.put, ua, ub, uc, ue, uf]
       rfl
     refine pU (i := 13) (N := (some 27)) (bA 14 16383) (by kernel_rfl) rfl ?_
     refine done_ (by kernel_rfl) ?_
     go_wp2
     go_roundw
     case rel => exact ⟨[], rfl, rfl, .inr ⟨rfl, by first | rfl | go_num⟩, ⟨HB.out.at_, vu HB.out.bel⟩⟩
     case measure => simp [intOf]
    | cons e t =>
     obtain ⟨ad, rfl, u0, u1⟩ := e_at (vt HC.out HB.out.bel) (i := 0) (e := e) rfl
     rw [show ad.add (0 * 2) = ad from by simp [Addr.add]] at u0 u1
     have hp : (0 : Int) < ((t.length + 1 : Nat) : Int) := by omega
     have HN := za (fun (x y : Value) => show ((wr.drew.setCell ⟨w.heap.size, 0, none⟩ x).setCell ⟨w.heap.size, 1, none⟩ y).heap[w.heap.size]? = some (.cells #[x, y] 33 (0, 0)) ∧ Below w.heap.size w ((wr.drew.setCell ⟨w.heap.size, 0, none⟩ x).setCell ⟨w.heap.size, 1, none⟩ y) from ⟨blk_put (blk_put (show wr.drew.heap[w.heap.size]? = _ from HB.out.at_) 0 x rfl) 1 y rfl, ((vu HB.out.bel).setCell (ut _) _).setCell (ut _) _⟩)
     go_upto_region 4 with fail
     refine start_ (n := 14) (S := fun w' => True) (ds := []) #[xX, xX, xX, xX, xX, xX, xX, xX, xX, xX, xX, xX, xX, xX] (by kernel_rfl) rfl rfl trivial (fun hHeld => ?_)
     refine pU (i := 0) (N := (some 14)) (bA 14 1) (by kernel_rfl) rfl ?_
     refine pU (i := 1) (N := (some 15)) (bA 14 3) (by kernel_rfl) rfl ?_
     refine pU (i := 2) (N := (some 16)) (bA 14 7) (by kernel_rfl) rfl ?_
     refine pU (i := 3) (N := (some 17)) (bA 14 15) (by kernel_rfl) rfl ?_
     refine pU (i := 4) (N := (some 18)) (bA 14 31) (by kernel_rfl) rfl ?_
     refine pU (i := 5) (N := (some 19)) (bA 14 63) (by kernel_rfl) rfl ?_
     refine pU (i := 6) (N := (some 20)) (bA 14 127) (by kernel_rfl) rfl ?_
     refine uh (i := 7) (N := (some 21)) (v := undef) (a' := ?_) (bA 14 255) rfl rfl (by kernel_rfl) (fun _ _ _ h => h) (Or.inr ⟨by rfl, rfl⟩) ?_ ?_
     rotate_left
     · simp only [Act.put, ua, ub, uc, ue, uf]
       rfl
     refine uh (i := 8) (N := (some 22)) (v := undef) (a' := ?_) (bA 14 511) rfl rfl (by kernel_rfl) (fun _ _ _ h => h) (Or.inr ⟨by rfl, rfl⟩) ?_ ?_
     rotate_left
     · simp only [Act.put, ua, ub, uc, ue, uf]
       rfl
     refine uh (i := 9) (N := (some 23)) (v := undef) (a' := ?_) (bA 14 1023) rfl rfl (by kernel_rfl) (fun _ _ _ h => h) (Or.inr ⟨by rfl, rfl⟩) ?_ ?_
     rotate_left
     · simp only [Act.put, ua, ub, uc, ue, uf]
       rfl
     refine uh (i := 10) (N := (some 24)) (v := undef) (a' := ?_) (bA 14 2047) rfl rfl (by kernel_rfl) (fun _ _ _ h => h) (Or.inr ⟨by rfl, rfl⟩) ?_ ?_
     rotate_left
     · simp only [Act.put, ua, ub, uc, ue, uf]
       rfl
     refine uh (i := 11) (N := (some 25)) (v := undef) (a' := ?_) (bA 14 4095) rfl rfl (by kernel_rfl) (fun _ _ _ h => h) (Or.inr ⟨by rfl, rfl⟩) ?_ ?_
     rotate_left
     · simp only [Act.put, ua, ub, uc, ue, uf]
       rfl
     refine pU (i := 12) (N := (some 26)) (bA 14 8191) (by kernel_rfl) rfl ?_
     refine pU (i := 13) (N := (some 27)) (bA 14 16383) (by kernel_rfl) rfl ?_
     refine done_ (by kernel_rfl) ?_
     go_wp2
     go_roundw
     case rel => exact ⟨e :: t, rfl, rfl, .inr ⟨rfl, by first | rfl | go_num⟩, ⟨(HN.out _ _).1, (HN.out _ _).2⟩⟩
     case measure => simp [intOf]
  · have z0 := (uq HB.out.at_ 0).trans rfl
    have z1 := (uq HB.out.at_ 1).trans rfl
    have z2 := vk HB.out.at_ 0
    have z3 := vk HB.out.at_ 1
    have h0 : (a2f m).2.2.1 = 0 := by cases m <;> rfl
    go_wp2
    exact bodyPost_ret (v := .tuple #[.agg #[.int .u64 (a2f m).1, .int .i64 (a2f m).2.1], .int .i64 0, .bool (a2f m).2.2.2]) (by simp [results, Tryz.results88, go_sem, z0, z1]) rfl ⟨by rw [h0], (HB.out.bel.setCell (ut _) _).setCell (ut _) _⟩
theorem b4d (A : Option Addr) (c : Nat) (l : List E) (w : World) (hr : Kd.C k33 w A l.length l) (hc : l.length ≤ c) (hl : l.length ≤ 1000000) (ho : okTo l (l.length - 1) = true) :
 Calls Tryz.prog 101 #[.agg #[.int .i64 ((lev (l.length : Int) : Nat) : Int), .slice A l.length c]] w fun e w' => e = .returned (.bool true) ∧ Below w.heap.size w w' := by
 have h62 := b2e (l.length : Int)
 have HLV := za (b0l 100 (l.length : Int) (by omega))
 have HST := za (show entry_Sorted.f 2000000 l = some true by rw [b9x 2000000 l (by omega) (by omega), ho])
 obtain ⟨L, hL⟩ : ∃ L : Nat, L = lev (l.length : Int) := ⟨_, rfl⟩
 rw [← hL] at h62 HLV ⊢
 have HB := za (uv (Below.refl w.heap.size w) (.cells #[.int .i64 (L : Int), .slice A l.length c] 109))
 have HX := za (heap_alloc_new w (.cells #[.int .i64 (L : Int), .slice A l.length c] 109))
 have HR := za (vt hr HB.out)
 have c1 : (0 : Int) ≤ (L : Int) := by omega
 have c2 : (L : Int) ≤ 62 := by omega
 clear hL hr ho
 go_enter Tryz.func101, Tryz.ntmps101
 go_upto_region 1 with fail
 obtain ⟨wz, hwz⟩ : ∃ wz : World, wz = w.alloc (.cells #[.int .i64 (L : Int), .slice A l.length c] 109) := ⟨_, rfl⟩
 rw [← hwz] at HX HB HR ⊢
 clear hwz
 have x0 := (uq HX.out 0).trans rfl
 have x1 := (uq HX.out 1).trans rfl
 refine start_ (n := 23) (S := fun w' => w'.cell? ⟨w.heap.size, 0, none⟩ = some (.int .i64 (L : Int)) ∧ w'.cell? ⟨w.heap.size, 1, none⟩ = some (.slice A l.length c)) (ds := []) #[xX, xX, xX, xX, xX, xX, xX, xX, xX, xX, xX, xX, xX, xX, xX, xX, xX, xX, xX, xX, xX, xX, xX] (by kernel_rfl) rfl rfl ⟨x0, x1⟩ (fun hHeld => ?_)
 refine pU (i := 0) (N := (some 3)) (bA 23 1) (by kernel_rfl) rfl ?_
 refine tU (i := 1) (N := (some 4)) (bA 23 3) (by kernel_rfl) rfl hHeld (by (constructor; (rintro w' ⟨s0, s1⟩; go_simp; (with_reducible rfl)); (simp only [Act.put, ua, ub, uc, ue, uf]; rfl))) ?_
 refine pU (i := 2) (N := (some 5)) (bA 23 7) (by kernel_rfl) rfl ?_
 refine pU (i := 3) (N := (some 6)) (bA 23 15) (by kernel_rfl) rfl ?_
 refine pU (i := 4) (N := (some 7)) (bA 23 31) (by kernel_rfl) rfl ?_
 refine tU (i := 5) (N := (some 8)) (bA 23 63) (by kernel_rfl) rfl hHeld (by (constructor; (rintro w' ⟨s0, s1⟩; go_simp; (with_reducible rfl)); (simp only [Act.put, ua, ub, uc, ue, uf]; rfl))) ?_
 refine pU (i := 6) (N := (some 9)) (bA 23 127) (by kernel_rfl) rfl ?_
 refine pU (i := 7) (N := (some 10)) (bA 23 255) (by kernel_rfl) rfl ?_
 refine pU (i := 8) (N := (some 11)) (bA 23 511) (by kernel_rfl) rfl ?_
 refine pU (i := 9) (N := (some 12)) (bA 23 1023) (by kernel_rfl) rfl ?_
 refine pU (i := 11) (N := (some 14)) (bA 23 3071) (by kernel_rfl) rfl ?_
 refine tU (i := 10) (N := (some 13)) (bA 23 4095) (by kernel_rfl) rfl hHeld (by (constructor; (rintro w' ⟨s0, s1⟩; go_simp; (with_reducible rfl)); (simp only [Act.put, ua, ub, uc, ue, uf]; rfl))) ?_
 refine tU (i := 12) (N := (some 15)) (bA 23 8191) (by kernel_rfl) rfl hHeld (by (constructor; (rintro w' ⟨s0, s1⟩; go_simp; (with_reducible rfl)); (simp only [Act.put, ua, ub, uc, ue, uf]; rfl))) ?_
 refine pU (i := 13) (N := (some 16)) (bA 23 16383) (by kernel_rfl) rfl ?_
 refine one_ (i := 14) (N := (some 17)) (bA 23 32767) rfl rfl (by kernel_rfl) (by decide) (fun K hK => ?_)
 refine goes_ Tryz.func93 (by kernel_rfl) rfl #[.int .i64 (l.length : Int)] (by rfl) rfl rfl (by (try simp only [ug, ul, uo]); first | done | rfl) ?_
 refine (block_Level.calls 100 (l.length : Int) (L : Int) wz.drew HLV.out).mono ?_
 rintro q w1 ⟨rfl, hb⟩
 have HB1 := za (show Below wz.heap.size wz w1 from below_then (vu (Below.refl wz.heap.size wz)) (ut _) hb.below)
 clear hb
 refine ⟨_, rfl, ?_⟩
 refine hK.out _ _ ⟨uy HB1.out x0, uy HB1.out x1⟩ (fun hHeld => ?_)
 clear hK K
 refine vv (a' := ?_) ?_ ?_; rotate_left; (· (show Act.put _ (some 17) _ = _); (simp only [Act.put, ua, ub, uc, ue, uf]); rfl)
 refine pU (i := 15) (N := (some 18)) (bA 23 65535) (by kernel_rfl) rfl ?_
 refine pU (i := 16) (N := (some 19)) (bA 23 131071) (by kernel_rfl) rfl ?_
 refine pU (i := 17) (N := (some 20)) (bA 23 262143) (by kernel_rfl) rfl ?_
 refine pU (i := 18) (N := (some 21)) (bA 23 524287) (by kernel_rfl) rfl ?_
 refine tU (i := 19) (N := (some 22)) (bA 23 1048575) (by kernel_rfl) rfl hHeld (by (constructor; (rintro w' ⟨s0, s1⟩; go_simp; (with_reducible rfl)); (simp only [Act.put, ua, ub, uc, ue, uf]; rfl))) ?_
 refine one_ (i := 20) (N := (some 23)) (bA 23 2097151) rfl rfl (by kernel_rfl) (by decide) (fun K hK => ?_)
 refine goes_ Tryz.func119 (by kernel_rfl) rfl #[.slice A l.length c] (by rfl) rfl rfl (by (try simp only [ug, ul, uo]); first | done | rfl) ?_
 refine (entry_Sorted.calls 2000000 A c l true w1 (vt HR.out HB1.out) hc HST.out).mono ?_
 rintro q w2 ⟨rfl, hb⟩
 have HB2 := za (ur HB1.out hb)
 clear hb
 refine ⟨_, rfl, ?_⟩
 refine hK.out _ _ ⟨uy HB2.out x0, uy HB2.out x1⟩ (fun hHeld => ?_)
 clear hK K
 refine vv (a' := ?_) ?_ ?_; rotate_left; (· (show Act.put _ (some 23) _ = _); (simp only [Act.put, ua, ub, uc, ue, uf]); rfl)
 refine pU (i := 21) (N := (some 24)) (bA 23 4194303) (by kernel_rfl) rfl ?_
 refine pU (i := 22) (N := (some 2)) (bA 23 8388607) (by kernel_rfl) rfl ?_
 refine done_ (by kernel_rfl) ?_
 go_wp2
 go_ret
 exact ⟨rfl, by first | exact ur HB.out HB2.out | exact below_then HB.out HB.out.size HB2.out⟩
def OkE (x : Int) (l : List E) : Prop := x = ((lev (l.length : Int) : Nat) : Int) ∧ okTo l (l.length - 1) = true ∧ l.length ≤ 1000000
theorem b4w (x : Int) (A : Option Addr) (c : Nat) (l : List E) (w : World) (hr : Kd.C k33 w A l.length l) (hc : l.length ≤ c) (h : OkE x l) :
 Calls Tryz.prog 101 #[.agg #[.int .i64 x, .slice A l.length c]] w fun e w' => e = .returned (.bool true) ∧ Below w.heap.size w w' := by
 obtain ⟨rfl, h1, h2⟩ := h
 exact b4d A c l w hr hc h2 h1
theorem b3i (A : Option Addr) (c g : Nat) (w : World) (h : w.heap[g]? = some (.cells #[.slice A ([] : List E).length c] 35 (0, 0))) (hC : Kd.C k33 w A ([] : List E).length []) :
 Calls Tryz.prog 88 #[.slice (some ⟨g, 0, none⟩) 1 1] w fun e w' => e = .returned (.tuple #[.agg #[.int .u64 0, .int .i64 0], .int .i64 0, .bool false]) ∧ Below w.heap.size w w' := b2j A c g [] w h hC
theorem b1v (A : Option Addr) (c g : Nat) (e0 : E) (t : List E) (w : World) (h : w.heap[g]? = some (.cells #[.slice A (e0 :: t).length c] 35 (0, 0))) (hC : Kd.C k33 w A (e0 :: t).length (e0 :: t)) :
 Calls Tryz.prog 88 #[.slice (some ⟨g, 0, none⟩) 1 1] w fun e w' => e = .returned (.tuple #[.agg #[.int .u64 e0.f0, .int .i64 e0.f1], .int .i64 0, .bool true]) ∧ Below w.heap.size w w' := b2j A c g (e0 :: t) w h hC
theorem two_CL {W : World} {g c d : Nat} {A B : Option Addr} {l m : List E} (h : W.heap[g]? = some (.cells #[.slice A l.length c, .slice B m.length d] 35 (0, 0))) (hc : l.length ≤ c) (hd : m.length ≤ d) (hC : k33.C W A l.length l) (hD : k33.C W B m.length m) : Kd.C (Kd.slice 33 k33) W (some ⟨g, 0, none⟩) ([l, m] : List (List E)).length [l, m] := by
 refine ⟨rfl, by simp, fun _ => ⟨_, rfl, fun j p hj => ?_⟩⟩
 rcases j with _ | _ | j
 · obtain rfl : l = p := by simpa using hj
   refine ⟨[.slice A l.length c], rfl, ⟨A, c, rfl, hc, hC⟩, fun i u hi => ?_⟩
   rcases i with _ | i
   · obtain rfl : _ = u := by simpa using hi
     exact (uq h 0).trans rfl
   · simp at hi
 · obtain rfl : m = p := by simpa using hj
   refine ⟨[.slice B m.length d], rfl, ⟨B, d, rfl, hd, hD⟩, fun i u hi => ?_⟩
   rcases i with _ | i
   · obtain rfl : _ = u := by simpa using hi
     exact (uq h 1).trans rfl
   · simp at hi
 · simp at hj
theorem b1s (k : Nat) (x : Int) (P0 : Nat → Prop) (A : Option Addr) (c : Nat) (l : List E) (y : Int) (P1 : Nat → Prop) (B : Option Addr) (d : Nat) (m : List E) (r1 : Int) (r2 : List E) (w : World) (hs0 : Kd.V k33 33 w w.heap.size P0 (.slice A l.length c) l) (hs1 : Kd.V k33 33 w w.heap.size P1 (.slice B m.length d) m) (h : block_Merge.f k x l y m = some (r1, r2)) :
 Calls Tryz.prog 73 #[.agg #[.int .i64 x, .slice A l.length c], .agg #[.int .i64 y, .slice B m.length d]] w fun e w' => ∃ v1_ : Value, e = .returned (.agg #[.int .i64 r1, v1_]) ∧ Kd.V k33 33 w' w.heap.size (fun k_ => ((P0 k_ ∨ P1 k_) ∨ w.heap.size ≤ k_)) v1_ r2 ∧ Below w.heap.size w w' := by
 unfold block_Merge.f at h
 obtain ⟨t, ht, h⟩ := Option.bind_eq_some_iff.mp h
 obtain ⟨⟨q1, q2⟩, hq, h⟩ := Option.bind_eq_some_iff.mp h
 obtain ⟨rfl, rfl⟩ : q1 = r1 ∧ q2 = r2 := by simpa using h
 have HT := za ht
 have HQ := za hq
 have hb3 := uv (uv (uv (Below.refl w.heap.size w) (.cells #[.int .i64 x, .slice A l.length c] 109)) (.cells #[.int .i64 y, .slice B m.length d] 109)) (.cells #[.int .i64 0, .slice none 0 0] 109)
 have hx2 := heap_alloc_new ((w.alloc (.cells #[.int .i64 x, .slice A l.length c] 109)).alloc (.cells #[.int .i64 y, .slice B m.length d] 109)) (.cells #[.int .i64 0, .slice none 0 0] 109)
 have hx1 := vo (heap_alloc_new (w.alloc (.cells #[.int .i64 x, .slice A l.length c] 109)) (.cells #[.int .i64 y, .slice B m.length d] 109)) (uv (Below.refl _ _) (.cells #[.int .i64 0, .slice none 0 0] 109))
 have hx0 := vo (heap_alloc_new w (.cells #[.int .i64 x, .slice A l.length c] 109)) (uv (uv (Below.refl _ _) (.cells #[.int .i64 y, .slice B m.length d] 109)) (.cells #[.int .i64 0, .slice none 0 0] 109))
 simp only [World.size_alloc] at hx1 hx2
 have hsz : (((w.alloc (.cells #[.int .i64 x, .slice A l.length c] 109)).alloc (.cells #[.int .i64 y, .slice B m.length d] 109)).alloc (.cells #[.int .i64 0, .slice none 0 0] 109)).heap.size = w.heap.size + 1 + 1 + 1 := by simp only [World.size_alloc]
 obtain ⟨l1, l2, l3⟩ := xa hs0
 obtain ⟨m1, m2, m3⟩ := xa hs1
 clear h ht hq hs0 hs1
 go_enter Tryz.func73, Tryz.ntmps73
 go_upto_region 1 with fail
 generalize ((w.alloc (.cells #[.int .i64 x, .slice A l.length c] 109)).alloc (.cells #[.int .i64 y, .slice B m.length d] 109)).alloc (.cells #[.int .i64 0, .slice none 0 0] 109) = wz at hb3 hx0 hx1 hx2 hsz ⊢
 have y0 := (uq hx0 1).trans rfl
 have y1 := (uq hx1 1).trans rfl
 have HX2 := za hx2
 have HB3 := za hb3
 have hbn := uv (Below.refl wz.heap.size wz) (.cells #[.slice A l.length c, .slice B m.length d] 35)
 have HBN := za hbn
 have HCL := za (two_CL (heap_alloc_new wz (.cells #[.slice A l.length c, .slice B m.length d] 35)) l2 m2 (vt (vt l3 hb3) hbn) (vt (vt m3 hb3) hbn))
 have HSZ := za hsz
 clear hx0 hx1 hx2 hb3 hbn l1 l2 l3 m1 m2 m3 hsz
 go_wp2_with fail
 refine (api_Entry_98.calls k (some ⟨wz.heap.size, 0, none⟩) 2 [l, m] t _ HCL.out (ut _) HT.out).mono ?_
 rintro e w5 ⟨v5, rfl, hv5, hb5⟩
 obtain ⟨A5, c5, rfl⟩ := Kd.R_slice hv5
 have HV5 := za (Kd.R_reads' hv5)
 have HB5 := za (ur HBN.out hb5)
 clear hv5 hb5 y0 y1
 go_wp2_with fail
 refine (block_Of.calls k A5 c5 t q1 q2 w5 HV5.out.2.2 HV5.out.2.1 HQ.out).mono ?_
 rintro e w6 ⟨v6, rfl, hv6, hb6⟩
 obtain ⟨A6, c6, rfl⟩ := xd hv6
 have HB6 := za (ur HB5.out hb6)
 have hx := vo HX2.out HB6.out
 have z0 := (uq hx 0).trans rfl
 have z1 := (uq hx 1).trans rfl
 have z2 := vk hx 0
 have z3 := vk hx 1
 have hlt : w.heap.size + 1 + 1 < w5.heap.size := by have := HSZ.out; have := HB5.out.size; omega
 have HBF := za (show Below w.heap.size w w6 from below_then HB3.out HB3.out.size HB6.out)
 have HV := za (Kd.V_mono (Kd.V_far (p := ⟨w.heap.size + 1 + 1, 1, none⟩) (Kd.V_far (p := ⟨w.heap.size + 1 + 1, 0, none⟩) (Kd.V_mono hv6 (fun k_ hk => (⟨by omega, by omega⟩ : w.heap.size ≤ k_ ∧ k_ ≠ w.heap.size + 1 + 1))) (fun _ hk => hk.2) (.int .i64 q1)) (fun _ hk => hk.2) (.slice A6 q2.length c6)) (fun k_ hk => hk.1))
 clear hv6 hb6 hx hlt
 go_wp2
 exact bodyPost_ret (v := .agg #[.int .i64 q1, .slice A6 q2.length c6]) (by simp [results, Tryz.results73, go_sem, z0, z1]) rfl ⟨_, rfl, Kd.V_mono HV.out (fun _ hk => .inr hk), (HBF.out.setCell (by show w.heap.size ≤ w.heap.size + 1 + 1; omega) _).setCell (by show w.heap.size ≤ w.heap.size + 1 + 1; omega) _⟩
end Go.Proofs.YthghkglkifeagaaGreat.V
