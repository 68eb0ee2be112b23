-- a text of this work, without what this claim doesn't use (wip/shake.py)
import Derived.Test.YthghkglkifeagaaGreatKVMapF
section
set_option linter.unusedVariables false
set_option linter.unusedSimpArgs false
namespace Go.Proofs.YthghkglkifeagaaGreat.V
open Go.RowKit Go.Proofs.YthghkglkifeagaaGreatW.PrintWords Go.Proofs.YthghkglkifeagaaGreatW.PrintLast Go.Proofs.YthghkglkifeagaaGreatW.PrintMore
def kPl : Kd (Nat × Nat) := Kd.iso (Kd.pair (Kd.int .i64) (Kd.int .i64)) (fun p : Nat × Nat => ((p.1 : Int), (p.2 : Int)))
theorem kPl_open {w : World} {p : Nat × Nat} {cs : List Value} (h : kPl.K w p cs) : cs = [.int .i64 (p.1 : Int), .int .i64 (p.2 : Int)] := by
 obtain ⟨c0, c1, h0, h1, h2⟩ := h
 have e0 : c0 = [.int .i64 (p.1 : Int)] := h1
 have e1 : c1 = [.int .i64 (p.2 : Int)] := h2
 rw [h0, e0, e1]; rfl
theorem kPl_mkM (w : World) (base : Nat) (ok : Nat → Prop) (p : Nat × Nat) : kPl.M w base ok p [.int .i64 (p.1 : Int), .int .i64 (p.2 : Int)] := ⟨[.int .i64 (p.1 : Int)], [.int .i64 (p.2 : Int)], rfl, rfl, rfl⟩
theorem infoPl : (Tryz.prog.info? 77).map (fun i => (i.zero, i.size, i.bytes)) = some (some (.agg #[(.int .i64 0), (.int .i64 0)]), 2, 16) := by kernel_rfl
section
variable {ops : Array Oper} {Q : Exit → Act → World → Prop}
theorem wpList_storeF (w : World) {rest : List Oper} {o : Oper} {a : Act} (hg : o.guard = none) (m x y : Operand) (hop : o.op = Op.mapUpdate 72 m x y) (b n : Nat) (f : Nat × Nat → Value) (hm : a.eval m = .map (some b)) (h : MapF w b n f) (hn : n < 1000) (p : Nat × Nat) (h0 : p.1 < 1000) (h1 : p.2 < 1000) (v : Value) (hx : a.eval x = plV p) (hy : a.eval y = v)
 (hK : ∀ w', MapF w' b (n + 1) (fun q => if q = p then v else f q) → w.grownBy w' (some b) → wpList Tryz.prog ops Q rest (a.put o.dst undef) w') : wpList Tryz.prog ops Q (o :: rest) a w := by
 refine wpList_plain hg fun K' hK' => ?_
 obtain ⟨w', hrun, r1, r2⟩ := h.store hn p h0 h1 v
 unfold Oper.wp
 simp [execOp, hop, hm, hx, hy, hrun, Result.andThen]
 exact hK' _ _ (hK w' r1 r2)
end
def ToldF (g1 : Nat) (P : List Nat) (s : Nat) (bx : List (Nat × Nat)) (p : Nat × Nat) (v : Value) : Prop :=
  (p.1 = 1 ∧ ∃ gt, v = .func (.func 79) #[] #[.pointer (some ⟨g1, 0, none⟩), .pointer (some ⟨gt, 0, none⟩)] ∧ (gt, p.2) ∈ bx) ∨
  (p.1 = 2 ∧ ∃ pl, P[p.2]? = some pl ∧ v = .func (.func 80) #[.pointer (some ⟨pl, 0, none⟩)] #[]) ∨ (p.1 = 3 ∧ p.2 = 0 ∧ v = .func (.func 81) #[.pointer (some ⟨s, 0, none⟩)] #[])
theorem ToldF.more {g1 : Nat} {P : List Nat} {s : Nat} {bx bx' : List (Nat × Nat)} {p : Nat × Nat} {v : Value} (h : ToldF g1 P s bx p v) (hb : ∀ x ∈ bx, x ∈ bx') : ToldF g1 P s bx' p v := by
 rcases h with ⟨h1, gt, h2, h3⟩ | h | h
 · exact .inl ⟨h1, gt, h2, hb _ h3⟩
 · exact .inr (.inl h)
 · exact .inr (.inr h)
structure DpSt (w wr : World) (pq : Nat) (P : List Nat) (s : Nat) (l : List (Nat × Nat)) (bx : List (Nat × Nat)) (f : Nat × Nat → Value) : Prop where
  bel : Below w.heap.size w wr
  h1 : wr.heap[w.heap.size]? = some (.cells #[.pointer (some ⟨pq, 0, none⟩)] 23 (0, 0))
  h2 : ∃ v, wr.heap[w.heap.size + 1]? = some (.cells #[v] 71 (0, 0)) ∧ Kd.R kPl 77 wr w.heap.size (fun _ => True) v l
  h3 : wr.heap[w.heap.size + 2]? = some (.cells #[.map (some (w.heap.size + 3))] 72 (0, 0))
  hm : MapF wr (w.heap.size + 3) l.length f
  bxs : ∀ x ∈ bx, wr.heap[x.1]? = some (.cells #[.int .i64 (x.2 : Int)] 3 (0, 0)) ∧ w.heap.size + 3 < x.1
  told : ∀ p ∈ l, p.1 < 1000 ∧ p.2 < 1000 ∧ ToldF w.heap.size P s bx p (f p)
namespace DpSt
variable {w wr w1 : World} {pq : Nat} {P : List Nat} {s : Nat} {l : List (Nat × Nat)} {bx : List (Nat × Nat)} {f : Nat × Nat → Value}
theorem below (h : DpSt w wr pq P s l bx f) (hb : Below wr.heap.size wr w1) : DpSt w w1 pq P s l bx f := by
 obtain ⟨v, e1, e2⟩ := h.h2
 exact ⟨below_step h.bel hb, blk_below h.h1 hb, ⟨v, blk_below e1 hb, Kd.R_below e2 hb⟩, blk_below h.h3 hb, h.hm.move (hb.block _ h.hm.lt), fun x hx => ⟨blk_below (h.bxs x hx).1 hb, (h.bxs x hx).2⟩, h.told⟩
theorem box (h : DpSt w wr pq P s l bx f) (t : Nat) : DpSt w (wr.alloc (.cells #[.int .i64 (t : Int)] 3)) pq P s l ((wr.heap.size, t) :: bx) f := by
 have h1 := h.below (below_alloc (Below.refl wr.heap.size wr) (.cells #[.int .i64 (t : Int)] 3))
 refine ⟨h1.bel, h1.h1, h1.h2, h1.h3, h1.hm, fun x hx => ?_, fun p hp => ⟨(h.told p hp).1, (h.told p hp).2.1, (h.told p hp).2.2.more (fun x hx => List.mem_cons_of_mem _ hx)⟩⟩
 rcases List.mem_cons.1 hx with rfl | hx
 · exact ⟨heap_alloc_new wr _, h.hm.lt⟩
 · exact h1.bxs x hx
theorem lt (h : DpSt w wr pq P s l bx f) : w.heap.size + 3 < wr.heap.size := h.hm.lt
end DpSt
set_option maxRecDepth 100000 in
set_option maxHeartbeats 4000000 in
theorem dp_put {w wr : World} {pq : Nat} {P : List Nat} {s : Nat} {l : List (Nat × Nat)} {bx : List (Nat × Nat)} {f : Nat × Nat → Value} (h : DpSt w wr pq P s l bx f) (p : Nat × Nat) (fv : Value) (hp0 : p.1 < 1000) (hp1 : p.2 < 1000) (hl : l.length ≤ 100) (hnew : ∀ q ∈ l, q ≠ p) (ht : ToldF w.heap.size P s bx p fv) (hfv : ∃ fn a b, fv = .func fn a b) :
 Calls Tryz.prog 78 #[plV p, fv, .pointer (some ⟨w.heap.size + 1, 0, none⟩), .pointer (some ⟨w.heap.size + 2, 0, none⟩)] wr fun e w' => e = .returned (.tuple #[]) ∧ DpSt w w' pq P s (l ++ [p]) bx (fun q => if q = p then fv else f q) := by
 obtain ⟨v, e1, e2⟩ := h.h2
 obtain ⟨A0, c0, hv⟩ := Kd.R_slice e2
 subst hv
 have HH := Aside0.mk h
 have HR := Aside0.mk e2
 have HE1 := Aside0.mk e1
 obtain ⟨fn, fa, fb, rfl⟩ := hfv
 have HT := Aside0.mk ht
 have HN := Aside0.mk hnew
 obtain ⟨p0, p1⟩ := p
 have HB0 := Aside0.mk (below_alloc (Below.refl wr.heap.size wr) (.cells #[.int .i64 (p0 : Int), .int .i64 (p1 : Int)] 77))
 have HX0 := Aside0.mk (heap_alloc_new wr (.cells #[.int .i64 (p0 : Int), .int .i64 (p1 : Int)] 77))
 have x0 : wr.cell? ⟨w.heap.size + 1, 0, none⟩ = some (.slice A0 l.length c0) := (blk_cell e1 0).trans rfl
 have x0a := fun o => pw_cell_below (below_alloc (Below.refl wr.heap.size wr) o) x0
 have HB1 := Aside0.mk (show ∀ o, Below wr.heap.size wr ((wr.alloc (.cells #[.int .i64 (p0 : Int), .int .i64 (p1 : Int)] 77)).alloc o) from fun o => below_alloc HB0.out o)
 have HLEN := Aside0.mk (show (l ++ [(p0, p1)]).length = l.length + 1 by simp)
 show Calls Tryz.prog 78 #[.agg #[.int .i64 (p0 : Int), .int .i64 (p1 : Int)], .func fn fa fb, .pointer (some ⟨w.heap.size + 1, 0, none⟩), .pointer (some ⟨w.heap.size + 2, 0, none⟩)] wr _
 clear h e1 e2 ht hnew
 have HLT := Aside0.mk HH.out.lt
 have hlw := HLT.out
 have hsz0 : (wr.alloc (.cells #[.int .i64 (p0 : Int), .int .i64 (p1 : Int)] 77)).heap.size = wr.heap.size + 1 := World.size_alloc _ _
 have HSZ := Aside0.mk hsz0
 clear hsz0
 have HOWN := Aside0.mk (show some (w.heap.size + 1) ≠ (Value.slice A0 l.length c0).ownBlock ∧ some (w.heap.size + 2) ≠ (Value.slice A0 l.length c0).ownBlock ∧ some w.heap.size ≠ (Value.slice A0 l.length c0).ownBlock ∧ (∀ x ∈ bx, some x.1 ≠ (Value.slice A0 l.length c0).ownBlock) ∧ some (w.heap.size + 3) ≠ (Value.slice A0 l.length c0).ownBlock ∧ ∀ k, (Value.slice A0 l.length c0).ownBlock = some k → w.heap.size ≤ k ∧ k < wr.heap.size from by
  refine ⟨Kd.R_ne HR.out HE1.out (by decide), Kd.R_ne HR.out HH.out.h3 (by decide), Kd.R_ne HR.out HH.out.h1 (by decide), fun x hx => Kd.R_ne HR.out (HH.out.bxs x hx).1 (by decide), fun e => ?_, fun k hk => ?_⟩
  · obtain ⟨inner, ho⟩ := Kd.R_own HR.out
    obtain ⟨cells, hc⟩ := own_typed ho _ e.symm
    obtain ⟨es, ck, hmm⟩ := HH.out.hm.at_
    rw [hc] at hmm
    simp at hmm
  · obtain ⟨inner, ho⟩ := Kd.R_own HR.out
    exact ⟨own_base ho k hk, own_lt ho k hk⟩)
 go_enter Tryz.func78, Tryz.ntmps78
 go_wp2_with (first
  | (at_builtin; go_loud (refine Kd.R_append kPl (w0 := w) w.heap.size rfl (.tmp 6) (.tmp 8) 71 77 (.agg #[(.int .i64 0), (.int .i64 0)]) 16 rfl Tryz.underlying71 infoPl rfl (by decide) (by omega) (.slice A0 l.length c0) l (p0, p1) [.int .i64 (p0 : Int), .int .i64 (p1 : Int)] (fun _ => True) (fun _ => False) rfl ?aX ?aP (fun _ hk => hk.elim) ?aF ?aO ?aB ?aS ?aL ?_; (case aX => simp [Act.eval]); (case aP => exact kPl_mkM _ _ _ (p0, p1)); (case aF => exact fun _ _ => trivial); (case aO => exact Kd.R_below HR.out HB0.out); (case aB => exact below_step HH.out.bel HB0.out); (case aS => exact (below_step HH.out.bel HB0.out).size); (case aL => omega); intro v1 w1 ho1 hb1 hg1 hat1; obtain ⟨A1, c1, hv1⟩ := Kd.R_slice ho1; rw [HLEN.out] at hv1; subst hv1; have HR1 := Aside0.mk ho1; have HG1 := Aside0.mk hg1; have HBW1 := Aside0.mk hb1; have hP2 := (hg1.block (w.heap.size + 1) (by rw [HSZ.out]; omega) HOWN.out.1).trans ((HB0.out.block _ (by omega)).trans HE1.out); have hP3 := (hg1.block (w.heap.size + 2) (by rw [HSZ.out]; omega) HOWN.out.2.1).trans ((HB0.out.block _ (by omega)).trans HH.out.h3); have hP4 := (hg1.block wr.heap.size (by rw [HSZ.out]; omega) (fun e => by have := (HOWN.out.2.2.2.2.2 _ e.symm).2; omega)).trans HX0.out; have HP2 := Aside0.mk hP2; have y0 := (blk_cell hP2 0).trans rfl; have y1 := frozen_row hP2 0; have z3 : ∀ v, (w1.setCell ⟨w.heap.size + 1, 0, none⟩ v).cell? ⟨w.heap.size + 2, 0, none⟩ = some (.map (some (w.heap.size + 3))) := (fun v => (blk_cell ((setc_ne (by omega)).trans hP3) 0).trans rfl); have z4 : ∀ v, (w1.setCell ⟨w.heap.size + 1, 0, none⟩ v).cell? ⟨wr.heap.size, 0, none⟩ = some (.int .i64 (p0 : Int)) := (fun v => (blk_cell ((setc_ne (by omega)).trans hP4) 0).trans rfl); have z5 : ∀ v, (w1.setCell ⟨w.heap.size + 1, 0, none⟩ v).cell? ⟨wr.heap.size, 1, none⟩ = some (.int .i64 (p1 : Int)) := (fun v => (blk_cell ((setc_ne (by omega)).trans hP4) 1).trans rfl); have HM1 := Aside0.mk (show ∀ v, MapF (w1.setCell ⟨w.heap.size + 1, 0, none⟩ v) (w.heap.size + 3) l.length f from fun v => HH.out.hm.move ((setc_ne (by omega)).trans ((hg1.block (w.heap.size + 3) (by rw [HSZ.out]; omega) HOWN.out.2.2.2.2.1).trans (HB0.out.block _ (by omega))))); clear ho1 hg1 hb1 hat1 hP2 hP3 hP4))
  | (refine wpList_storeF _ rfl (.tmp 10) (.tmp 11) (.tmp 12) rfl (w.heap.size + 3) l.length f rfl (HM1.out _) (by omega) (p0, p1) hp0 hp1 (.func fn fa fb) rfl rfl ?_; intro w3 hm3 hg3; have HM3 := Aside0.mk hm3; have HG3 := Aside0.mk hg3; clear hm3 hg3))
 refine ⟨rfl, .tuple #[], by simp [results, Tryz.results78, go_sem], ?_⟩
 have HK : ∀ k, k < wr.heap.size → k ≠ w.heap.size + 1 → k ≠ w.heap.size + 3 → some k ≠ (Value.slice A0 l.length c0).ownBlock → w3.heap[k]? = wr.heap[k]? := fun k hk n1 n2 n3 => by
  have s1 : wr.heap.size ≤ w1.heap.size := by have := HG1.out.size; rw [HSZ.out] at this; omega
  refine (HG3.out.block k (by simp only [World.setCell, Array.size_modify]; omega) (fun e => n2 (by injection e))).trans ?_
  refine (setc_ne n1).trans ?_
  exact (HG1.out.block k (by rw [HSZ.out]; omega) n3).trans (HB0.out.block k hk)
 have s1 : wr.heap.size ≤ w1.heap.size := by have := HG1.out.size; rw [HSZ.out] at this; omega
 refine ⟨rfl, ⟨?_, (HK _ (by omega) (by omega) (by omega) HOWN.out.2.2.1).trans HH.out.h1, ⟨.slice A1 (l.length + 1) c1, ?_, ?_⟩, (HK _ (by omega) (by omega) (by omega) HOWN.out.2.1).trans HH.out.h3, by rw [HLEN.out]; exact HM3.out, fun x hx => ⟨(HK _ (Array.getElem?_eq_some_iff.1 (HH.out.bxs x hx).1).1 (by have := (HH.out.bxs x hx).2; omega) (by have := (HH.out.bxs x hx).2; omega) (HOWN.out.2.2.2.1 x hx)).trans (HH.out.bxs x hx).1, (HH.out.bxs x hx).2⟩, fun q hq => ?_⟩⟩
 · exact pw_below_grown (HBW1.out.setCell (by show w.heap.size ≤ w.heap.size + 1; omega) _) _ (by simp only [World.setCell, Array.size_modify]; omega) HG3.out (fun k hk => by injection hk with hk; omega)
 · exact (HG3.out.block _ (by simp only [World.setCell, Array.size_modify]; omega) (fun e => by injection e with e; omega)).trans (blk_put HP2.out 0 _ rfl)
 · have hr1 := Kd.R_set HR1.out HP2.out (by decide) 0 (.slice A1 (l.length + 1) c1)
   refine Kd.R_mono (Kd.R_step (Kd.R_bound hr1) (fun k hk hlt => HG3.out.block k hlt (fun e => ?_))) (fun _ _ => trivial)
   obtain ⟨_, _, _, q, _, cells, hc⟩ := hk
   injection e with e
   subst e
   obtain ⟨es, ck, hmm⟩ := (HM1.out (.slice A1 (l.length + 1) c1)).at_
   rw [hc] at hmm
   simp at hmm
 · rcases List.mem_append.1 hq with h1 | h1
   · obtain ⟨t1, t2, t3⟩ := HH.out.told q h1
     exact ⟨t1, t2, by rw [if_neg (HN.out q h1)]; exact t3⟩
   · obtain rfl := List.mem_singleton.1 h1
     exact ⟨hp0, hp1, by rw [if_pos rfl]; exact HT.out⟩
end Go.Proofs.YthghkglkifeagaaGreat.V
end
section
set_option linter.unusedVariables false
set_option linter.unusedSimpArgs false
namespace Go.Proofs.YthghkglkifeagaaGreat.V
open Go.RowKit Go.Proofs.YthghkglkifeagaaGreatW.PrintWords Go.Proofs.YthghkglkifeagaaGreatW.PrintLast Go.Proofs.YthghkglkifeagaaGreatW.PrintMore
def plRow (c T : Nat) : List (Nat × Nat) := (List.range T).map fun t => (c, t)
def placesQ (T : Nat) : List (Nat × Nat) := plRow 1 T ++ plRow 2 T ++ [(3, 0)]
theorem plRow_succ (c m : Nat) : plRow c (m + 1) = plRow c m ++ [(c, m)] := by unfold plRow; rw [List.range_succ, List.map_append]; rfl
theorem plRow_len (c m : Nat) : (plRow c m).length = m := by unfold plRow; rw [List.length_map, List.length_range]
theorem plRow_mem {c m : Nat} {p : Nat × Nat} (h : p ∈ plRow c m) : p.1 = c ∧ p.2 < m := by
 unfold plRow at h
 obtain ⟨t, ht, rfl⟩ := List.mem_map.1 h
 exact ⟨rfl, List.mem_range.1 ht⟩
theorem DpSt.same {w wr : World} {pq : Nat} {P : List Nat} {s : Nat} {l : List (Nat × Nat)} {bx : List (Nat × Nat)} {f : Nat × Nat → Value} (h : DpSt w wr pq P s l bx f) {v : Value} (hv : wr.heap[w.heap.size + 1]? = some (.cells #[v] 71 (0, 0))) :
 DpSt w ((wr.setCell ⟨w.heap.size + 1, 0, none⟩ v).setCell ⟨w.heap.size + 1 + 1, 0, none⟩ (.map (some (w.heap.size + 3)))).drew pq P s l bx f := by
 refine h.below ⟨rfl, rfl, rfl, by simp only [World.setCell, World.drew, Array.size_modify]; exact Nat.le_refl _, fun k hk => ?_⟩
 show ((wr.setCell ⟨w.heap.size + 1, 0, none⟩ v).setCell ⟨w.heap.size + 2, 0, none⟩ (.map (some (w.heap.size + 3)))).heap[k]? = wr.heap[k]?
 by_cases h2 : k = w.heap.size + 2
 · subst h2
   exact (blk_put ((setc_ne (by omega)).trans h.h3) 0 _ rfl).trans h.h3.symm
 · rw [setc_ne h2]
   by_cases h1 : k = w.heap.size + 1
   · subst h1
     exact (blk_put hv 0 _ rfl).trans hv.symm
   · exact setc_ne h1
theorem dp_start (w : World) (pq : Nat) (P : List Nat) (s : Nat) :
 DpSt w ((((w.alloc (.cells #[.pointer (some ⟨pq, 0, none⟩)] 23)).alloc (.cells #[.slice none 0 0] 71)).alloc (.cells #[.map (some (w.heap.size + 1 + 1 + 1))] 72)).alloc (.map #[] 0)) pq P s [] [] (fun _ => .nilFunc) := by
 obtain ⟨w1, e1⟩ : ∃ w1, w1 = w.alloc (.cells #[.pointer (some ⟨pq, 0, none⟩)] 23) := ⟨_, rfl⟩
 obtain ⟨w2, e2⟩ : ∃ w2, w2 = w1.alloc (.cells #[.slice none 0 0] 71) := ⟨_, rfl⟩
 obtain ⟨w3, e3⟩ : ∃ w3, w3 = w2.alloc (.cells #[.map (some (w.heap.size + 1 + 1 + 1))] 72) := ⟨_, rfl⟩
 obtain ⟨w4, e4⟩ : ∃ w4, w4 = w3.alloc (.map #[] 0) := ⟨_, rfl⟩
 rw [← e1, ← e2, ← e3, ← e4]
 have s1 : w1.heap.size = w.heap.size + 1 := by rw [e1, World.size_alloc]
 have s2 : w2.heap.size = w.heap.size + 2 := by rw [e2, World.size_alloc, s1]
 have s3 : w3.heap.size = w.heap.size + 3 := by rw [e3, World.size_alloc, s2]
 have s4 : w4.heap.size = w.heap.size + 4 := by rw [e4, World.size_alloc, s3]
 have h1 : w1.heap[w.heap.size]? = some (.cells #[.pointer (some ⟨pq, 0, none⟩)] 23 (0, 0)) := by rw [e1]; exact heap_alloc_new w _
 have h2 : w2.heap[w.heap.size + 1]? = some (.cells #[.slice none 0 0] 71 (0, 0)) := by rw [e2, ← s1]; exact heap_alloc_new w1 _
 have h3 : w3.heap[w.heap.size + 2]? = some (.cells #[.map (some (w.heap.size + 1 + 1 + 1))] 72 (0, 0)) := by rw [e3, ← s2]; exact heap_alloc_new w2 _
 have b1 : Below w.heap.size w w1 := by rw [e1]; exact below_alloc (Below.refl _ _) _
 have b2 : Below w1.heap.size w1 w2 := by rw [e2]; exact below_alloc (Below.refl _ _) _
 have b3 : Below w2.heap.size w2 w3 := by rw [e3]; exact below_alloc (Below.refl _ _) _
 have b4 : Below w3.heap.size w3 w4 := by rw [e4]; exact below_alloc (Below.refl _ _) _
 have hm : MapF w4 (w.heap.size + 3) 0 (fun _ => .nilFunc) := by rw [e4, ← s3]; exact MapF.made w3
 have h4 : w4.heap[w.heap.size]? = _ := blk_below (blk_below (blk_below h1 b2) b3) b4
 have h5 : w4.heap[w.heap.size + 1]? = _ := blk_below (blk_below h2 b3) b4
 have h6 : w4.heap[w.heap.size + 2]? = _ := blk_below h3 b4
 exact ⟨below_step (below_step (below_step b1 b2) b3) b4, h4, ⟨.slice none 0 0, h5, Kd.R_nil _ _ _ _ _⟩, h6, hm, fun x hx => by simp at hx, fun p hp => by simp at hp⟩
set_option maxRecDepth 100000 in
set_option maxHeartbeats 8000000 in
theorem q_drops {w0 w : World} {pq : Nat} {a : Qa} {n : Nat} {B : List (Nat × Obj)} {P : List Nat} {s : Nat} (h : QOkP w0 w pq a n B P s) :
 Calls Tryz.prog 40 #[.pointer (some ⟨pq, 0, none⟩)] w fun e w' => ∃ v bx f, e = .returned (.tuple #[v, .map (some (w.heap.size + 3))]) ∧ DpSt w w' pq P s (placesQ a.loc.length) bx f ∧ w'.heap[w.heap.size + 1]? = some (.cells #[v] 71 (0, 0)) := by
 obtain ⟨f1, f2, f3⟩ := h.ok.few
 obtain ⟨who, q, h1, h2, h3, h4, h5⟩ := h.ex
 have HA := Aside0.mk (show ∀ wr, Below w.heap.size w wr → QAt (upO who 11 w.heap.size) wr w0.heap.size pq q from fun wr hb => h1.below hb 11 (by have := h1.few; omega))
 obtain ⟨g, cap, hv, hc, _, hr⟩ := h1.lists
 have hq2 : ∀ wr, Below w.heap.size w wr → wr.cell? ⟨pq, 2, none⟩ = some (.slice (some ⟨g, 0, none⟩) a.loc.length cap) := fun wr hb => by
  rw [← h2.len, ← hv]; exact (HA.out wr hb).c2
 have HQ2 := Aside0.mk hq2
 have HPT := Aside0.mk (show ∀ t, t < a.loc.length → ∃ pl, P[t]? = some pl ∧ w.cell? ⟨g, t, none⟩ = some (.pointer (some ⟨pl, 0, none⟩)) from fun t ht => by
  obtain ⟨m, hm⟩ : ∃ m, q.ms[t]? = some m := ⟨_, List.getElem?_eq_getElem (by rw [h2.len]; exact ht)⟩
  exact ⟨m.p, by rw [← h4, List.getElem?_map, hm]; rfl, hr t m hm⟩)
 have HS5 := Aside0.mk h5
 have hcap : a.loc.length ≤ cap := by rw [← h2.len]; exact hc
 have hpl := h1.lt
 clear h h1 h2 h3 h4 h5 hv hc hr hq2
 have hmk : ∀ W : World, (Instr.makeMap 72 none).run Tryz.prog W = .ok (.map (some W.heap.size)) (W.alloc (.map #[] 0)) := fun W => rfl
 have HST := Aside0.mk (dp_start w pq P s)
 go_enter Tryz.func40, Tryz.ntmps40
 go_upto_region 3 with fail
 obtain ⟨wz, hwz⟩ : ∃ wz : World, wz = (((w.alloc (.cells #[.pointer (some ⟨pq, 0, none⟩)] 23)).alloc (.cells #[.slice none 0 0] 71)).alloc (.cells #[.map (some (w.heap.size + 1 + 1 + 1))] 72)).alloc (.map #[] 0) := ⟨_, rfl⟩
 rw [← hwz] at HST ⊢
 clear hwz hmk
 have hp := HQ2.out _ HST.out.bel
 have hg1 : wz.cell? ⟨w.heap.size, 0, none⟩ = some (.pointer (some ⟨pq, 0, none⟩)) := (blk_cell HST.out.h1 0).trans rfl
 go_wp2
 go_loopw [15] (fun i wr => ∃ m : Nat, m ≤ a.loc.length ∧ i = .int .i64 m ∧ Aside0 (∃ bx f, DpSt w wr pq P s (plRow 1 m) bx f)) (fun i _ => a.loc.length - (intOf i).toNat)
 case atStart => exact ⟨0, Nat.zero_le _, rfl, ⟨[], _, HST.out⟩⟩
 case round =>
  clear hp hg1 HST
  obtain ⟨m, hm, rfl, HD⟩ := hrel
  obtain ⟨bx, f, hd⟩ := HD.out
  by_cases hlt : m < a.loc.length
  · have HB := Aside0.mk (hd.box m)
    have HX := Aside0.mk (heap_alloc_new wr (.cells #[.int .i64 (m : Int)] 3))
    have hx0 : (wr.alloc (.cells #[.int .i64 (m : Int)] 3)).cell? ⟨wr.heap.size, 0, none⟩ = some (.int .i64 m) := (blk_cell HX.out 0).trans rfl
    clear hd
    go_wp2_with fail
    refine (dp_put HB.out (1, m) (.func (.func 79) #[] #[.pointer (some ⟨w.heap.size, 0, none⟩), .pointer (some ⟨wr.heap.size, 0, none⟩)]) (by omega) (by show m < 1000; omega) (by rw [plRow_len]; omega) (fun q hq e => by have := plRow_mem hq; rw [e] at this; omega) (.inl ⟨rfl, wr.heap.size, rfl, List.mem_cons_self⟩) ⟨_, _, _, rfl⟩).mono ?_
    rintro e w2 ⟨rfl, hd2⟩
    rw [← plRow_succ] at hd2
    have HD2 : Aside0 (∃ bx f, DpSt w w2 pq P s (plRow 1 (m + 1)) bx f) := ⟨_, _, hd2⟩
    clear hd2
    go_wp2
    go_roundw
    case rel => exact ⟨m + 1, by omega, by go_num, HD2⟩
    case measure => simp [intOf]; omega
  · obtain rfl : m = a.loc.length := by omega
    have hp := HQ2.out _ hd.bel
    have hg1 : wr.cell? ⟨w.heap.size, 0, none⟩ = some (.pointer (some ⟨pq, 0, none⟩)) := (blk_cell hd.h1 0).trans rfl
    have HD0 := Aside0.mk (show ∃ bx f, DpSt w wr pq P s (plRow 1 a.loc.length ++ plRow 2 0) bx f from ⟨bx, f, by rw [show plRow 2 0 = [] from rfl, List.append_nil]; exact hd⟩)
    clear hd hlt hm HD
    go_wp2
    rename World => wo
    go_loopw [29] (fun i wr => ∃ m : Nat, m ≤ a.loc.length ∧ i = .int .i64 m ∧ Aside0 (∃ bx f, DpSt w wr pq P s (plRow 1 a.loc.length ++ plRow 2 m) bx f)) (fun i _ => a.loc.length - (intOf i).toNat)
    case atStart => exact ⟨0, Nat.zero_le _, rfl, HD0⟩
    case round =>
     clear hp hg1 HD0
     obtain ⟨m, hm, rfl, HD⟩ := hrel
     obtain ⟨bx, f, hd⟩ := HD.out
     by_cases hlt : m < a.loc.length
     · obtain ⟨pl, hpl, hcell⟩ := HPT.out m hlt
       have x1 := pw_cell_below hd.bel hcell
       have HD1 := Aside0.mk hd
       have HPL := Aside0.mk hpl
       clear hd hcell hpl
       go_wp2_with fail
       refine (dp_put HD1.out (2, m) (.func (.func 80) #[.pointer (some ⟨pl, 0, none⟩)] #[]) (by omega) (by show m < 1000; omega) (by rw [List.length_append, plRow_len, plRow_len]; omega) (fun q hq e => by
        rw [e] at hq
        rcases List.mem_append.1 hq with hq | hq
        · have := plRow_mem hq; omega
        · have := plRow_mem hq; omega) (.inr (.inl ⟨rfl, pl, HPL.out, rfl⟩)) ⟨_, _, _, rfl⟩).mono ?_
       rintro e w2 ⟨rfl, hd2⟩
       rw [List.append_assoc, ← plRow_succ] at hd2
       have HD2 : Aside0 (∃ bx f, DpSt w w2 pq P s (plRow 1 a.loc.length ++ plRow 2 (m + 1)) bx f) := ⟨_, _, hd2⟩
       clear hd2
       go_wp2
       go_roundw
       case rel => exact ⟨m + 1, by omega, by go_num, HD2⟩
       case measure => simp [intOf]; omega
     · obtain rfl : m = a.loc.length := by omega
       have hg1 : wr.cell? ⟨w.heap.size, 0, none⟩ = some (.pointer (some ⟨pq, 0, none⟩)) := (blk_cell hd.h1 0).trans rfl
       have hq3 := (HA.out _ hd.bel).c3
       rw [HS5.out] at hq3
       have HD1 := Aside0.mk hd
       clear hd hlt hm HD
       go_wp2_with fail
       refine (dp_put HD1.out (3, 0) (.func (.func 81) #[.pointer (some ⟨s, 0, none⟩)] #[]) (by omega) (by omega) (by rw [List.length_append, plRow_len, plRow_len]; omega) (fun q hq e => by
        rw [e] at hq
        rcases List.mem_append.1 hq with hq | hq
        · have := plRow_mem hq; omega
        · have := plRow_mem hq; omega) (.inr (.inr ⟨rfl, rfl, rfl⟩)) ⟨_, _, _, rfl⟩).mono ?_
       rintro e w2 ⟨rfl, hd2⟩
       have hd3 : DpSt w w2 pq P s (placesQ a.loc.length) bx _ := hd2
       obtain ⟨v, hv2, hR2⟩ := hd2.h2
       obtain ⟨A2, c2, hvv⟩ := Kd.R_slice hR2
       obtain ⟨N, hN⟩ : ∃ N, (plRow 1 a.loc.length ++ plRow 2 a.loc.length ++ [(3, 0)]).length = N := ⟨_, rfl⟩
       rw [hN] at hvv
       have HSM := Aside0.mk (hd3.same hv2)
       have HV2 := Aside0.mk hv2
       have y2 : w2.cell? ⟨w.heap.size + 1, 0, none⟩ = some v := (blk_cell hv2 0).trans rfl
       have y3 : w2.cell? ⟨w.heap.size + 1 + 1, 0, none⟩ = some (.map (some (w.heap.size + 3))) := (blk_cell hd2.h3 0).trans rfl
       have z2 : w2.frozen? ⟨w.heap.size + 1, 0, none⟩ = false := frozen_row hv2 0
       have z3 : w2.frozen? ⟨w.heap.size + 1 + 1, 0, none⟩ = false := frozen_row hd2.h3 0
       rw [hvv] at y2
       have K2 : ((w2.setCell ⟨w.heap.size + 1, 0, none⟩ v).setCell ⟨w.heap.size + 1 + 1, 0, none⟩ (.map (some (w.heap.size + 3)))).drew.heap[w.heap.size + 1]? = some (.cells #[v] 71 (0, 0)) := (setc_ne (W := w2.setCell ⟨w.heap.size + 1, 0, none⟩ v) (by omega)).trans (blk_put hv2 0 v rfl)
       have k2 := (blk_cell K2 0).trans (show _ = some v from rfl)
       have k3 : ((w2.setCell ⟨w.heap.size + 1, 0, none⟩ v).setCell ⟨w.heap.size + 1 + 1, 0, none⟩ (.map (some (w.heap.size + 3)))).drew.cell? ⟨w.heap.size + 1 + 1, 0, none⟩ = some (.map (some (w.heap.size + 3))) := (blk_cell HSM.out.h3 0).trans rfl
       have HK := Aside0.mk K2
       subst hvv
       clear hd2 hd3 hR2 hv2 K2 hN
       go_wp2_with fail
       go_region
       all_goals (go_wp2_with fail)
       all_goals exact bodyPost_ret (v := .tuple #[.slice A2 N c2, .map (some (w.heap.size + 3))]) (by simp [results, Tryz.results40, go_sem, k2, k3]) rfl ⟨_, _, _, rfl, HSM.out, HK.out⟩
end Go.Proofs.YthghkglkifeagaaGreat.V
end
section
set_option linter.unusedVariables false
set_option linter.unusedSimpArgs false
namespace Go.Proofs.YthghkglkifeagaaGreat.V
open Go.RowKit Go.Proofs.YthghkglkifeagaaGreatW.PrintWords Go.Proofs.YthghkglkifeagaaGreatW.PrintLast Go.Proofs.YthghkglkifeagaaGreatW.PrintMore
theorem QOkP.boxed {w0 w w1 : World} {pq : Nat} {a : Qa} {n : Nat} {B : List (Nat × Obj)} {P : List Nat} {s : Nat} (h : QOkP w0 w pq a n B P s) (hb : Below w.heap.size w w1) (C : List (Nat × Obj)) (hC : ∀ x ∈ C, w.heap.size ≤ x.1 ∧ w1.heap[x.1]? = some x.2) : QOkP w0 w1 pq a n (C ++ B) P s := by
 have hlo := h.ok.lo
 obtain ⟨who, q, h1, h2, h3, h4⟩ := h.ex
 refine ⟨⟨_, q, h1.below hb 11 (by have := h1.few; omega), h2, fun x hx => ?_, h4⟩, below_step h.bel hb⟩
 rcases List.mem_append.1 hx with hx | hx
 · exact ⟨(hC x hx).2, upO_ge (hC x hx).1, Nat.le_trans hlo (hC x hx).1⟩
 · exact QOk.boxes h3 (Keep.below hb 11) x hx
theorem QOkP.unboxed {w0 w : World} {pq : Nat} {a : Qa} {n : Nat} {C B : List (Nat × Obj)} {P : List Nat} {s : Nat} (h : QOkP w0 w pq a n (C ++ B) P s) : QOk w0 w pq a n B := by
 obtain ⟨who, q, h1, h2, h3, h4⟩ := h.ex
 exact ⟨⟨who, q, h1, h2, fun x hx => h3 x (List.mem_append_right _ hx)⟩, h.bel⟩
structure TkCtx (a : Qa) (C : List (Nat × Obj)) (pq : Nat) (P : List Nat) (s : Nat) (l : List (Nat × Nat)) (id : Int) (g1 gm gi gr mb nm : Nat) (arr : Array Value) (es : Array MapEntry) (ck : Nat) (bx : List (Nat × Nat)) (f : Nat × Nat → Value) : Prop where
  hg1 : (g1, bxP pq) ∈ C
  hgm : (gm, .cells #[.map (some mb)] 72 (0, 0)) ∈ C
  hgi : (gi, bxI id) ∈ C
  hgr : (gr, .cells arr 77 (0, 0)) ∈ C
  hmb : (mb, .map es ck) ∈ C
  row : ∀ j p, l[j]? = some p → arr[j * 2]? = some (.int .i64 (p.1 : Int)) ∧ arr[j * 2 + 1]? = some (.int .i64 (p.2 : Int))
  map : ∀ W : World, W.heap[mb]? = some (.map es ck) → MapF W mb nm f
  bxs : ∀ x ∈ bx, (x.1, bxI (x.2 : Int)) ∈ C
  told : ∀ p ∈ l, p.1 < 1000 ∧ p.2 < 1000 ∧ ToldF g1 P s bx p (f p)
  few : ∀ p ∈ l, p.1 = 1 → p.2 < a.loc.length
  few2 : ∀ p ∈ l, p.1 = 2 → p.2 < a.loc.length
  un : Unlike a.sh ∧ ∀ t, Unlike (a.loc.getD t [])
  len : l.length ≤ 1000
set_option maxRecDepth 100000 in
set_option maxHeartbeats 8000000 in
theorem tk_one {w0 w : World} {pq : Nat} {a : Qa} {n : Nat} {C : List (Nat × Obj)} {P : List Nat} {s : Nat} {l : List (Nat × Nat)} {id : Int} {g1 gm gi gr mb nm : Nat} {arr : Array Value} {es : Array MapEntry} {ck : Nat} {bx : List (Nat × Nat)} {f : Nat × Nat → Value}
 (X : TkCtx a C pq P s l id g1 gm gi gr mb nm arr es ck bx f) (h : QOkP w0 w pq a n C P s) (hn : n ≤ 800) (p : Nat × Nat) (hp : p ∈ l) :
 Calls Tryz.prog 42 #[.agg #[.int .i64 (p.1 : Int), .int .i64 (p.2 : Int)], .pointer (some ⟨gm, 0, none⟩), .pointer (some ⟨gi, 0, none⟩)] w (TkPost w0 pq a n C P s id p) := by
 obtain ⟨p0, p1⟩ := p
 obtain ⟨hp0, hp1, ht⟩ := X.told _ hp
 have hw := below_alloc (Below.refl w.heap.size w) (.cells #[.int .i64 (p0 : Int), .int .i64 (p1 : Int)] 77)
 have HX0 := Aside0.mk (heap_alloc_new w (.cells #[.int .i64 (p0 : Int), .int .i64 (p1 : Int)] 77))
 obtain ⟨wb, hwb⟩ : ∃ wb : World, wb = w.alloc (.cells #[.int .i64 (p0 : Int), .int .i64 (p1 : Int)] 77) := ⟨_, rfl⟩
 rw [← hwb] at hw HX0
 have hq := h.below hw
 have HQ := Aside0.mk (show QOkP w0 wb.drew pq a n C P s from hq.below (below_drew (Below.refl _ _)))
 have b1 : wb.cell? ⟨gm, 0, none⟩ = some (.map (some mb)) := (blk_cell (hq.at_ X.hgm) 0).trans rfl
 have b2 : wb.cell? ⟨gi, 0, none⟩ = some (.int .i64 id) := (blk_cell (show wb.heap[gi]? = some (.cells #[.int .i64 id] 3 (0, 0)) from hq.at_ X.hgi) 0).trans rfl
 have b3 : wb.cell? ⟨w.heap.size, 0, none⟩ = some (.int .i64 (p0 : Int)) := (blk_cell HX0.out 0).trans rfl
 have b4 : wb.cell? ⟨w.heap.size, 1, none⟩ = some (.int .i64 (p1 : Int)) := (blk_cell HX0.out 1).trans rfl
 have hlook := (X.map wb.drew (HQ.out.at_ X.hmb)).look (p0, p1) hp0 hp1
 unfold plV at hlook
 rcases ht with ⟨d1, gt, hf, hgt⟩ | ⟨d1, pl, hpl, hf⟩ | ⟨d1, d2, hf⟩
 · have e1 : p0 = 1 := d1
   rw [hf] at hlook
   have HC := Aside0.mk (show Calls Tryz.prog 79 #[.int .i64 id, .pointer (some ⟨g1, 0, none⟩), .pointer (some ⟨gt, 0, none⟩)] wb.drew (TkPost w0 pq a n C P s id (p0, p1)) from by
    rw [e1]
    exact tk_slot HQ.out p1 (X.few _ hp e1) id g1 gt X.hg1 (X.bxs _ hgt))
   clear h hq hf X e1 d1 hp hgt HQ
   go_enter Tryz.func42, Tryz.ntmps42
   go_upto_region 1 with fail
   rw [← hwb]
   clear hwb
   go_cut [4] (fun s4 wx => s4 = .bool (hitQ a id (p0, p1)) ∧ Aside0 (if hitQ a id (p0, p1) = true then QOkP w0 wx pq (outQ a id (p0, p1)) (n + 1) C P s else QOkP w0 wx pq a n C P s))
   case first =>
    go_region_with (first
     | (go_at_call 79; go_loud (refine HC.out.mono ?_; unfold TkPost; rintro x_ w6 ⟨rfl, hq6⟩; have HQ6 := Aside0.mk hq6; clear hq6)))
    all_goals (go_wp2_with fail)
    all_goals go_meet
    all_goals exact ⟨rfl, HQ6⟩
   case rest =>
    obtain ⟨rfl, HQ6⟩ := hcut
    go_wp2_with fail
    go_ret
    exact ⟨rfl, HQ6.out⟩
 · have e1 : p0 = 2 := d1
   rw [hf] at hlook
   have HC := Aside0.mk (show Calls Tryz.prog 80 #[.pointer (some ⟨pl, 0, none⟩), .int .i64 id] wb.drew (TkPost w0 pq a n C P s id (p0, p1)) from by
    rw [e1]
    exact tk_local HQ.out hn p1 (X.few2 _ hp e1) (X.un.2 p1) id pl hpl)
   clear h hq hf X e1 d1 hp hpl HQ
   go_enter Tryz.func42, Tryz.ntmps42
   go_upto_region 1 with fail
   rw [← hwb]
   clear hwb
   go_cut [4] (fun s4 wx => s4 = .bool (hitQ a id (p0, p1)) ∧ Aside0 (if hitQ a id (p0, p1) = true then QOkP w0 wx pq (outQ a id (p0, p1)) (n + 1) C P s else QOkP w0 wx pq a n C P s))
   case first =>
    go_region_with (first
     | (go_at_call 80; go_loud (refine HC.out.mono ?_; unfold TkPost; rintro x_ w6 ⟨rfl, hq6⟩; have HQ6 := Aside0.mk hq6; clear hq6)))
    all_goals (go_wp2_with fail)
    all_goals go_meet
    all_goals exact ⟨rfl, HQ6⟩
   case rest =>
    obtain ⟨rfl, HQ6⟩ := hcut
    go_wp2_with fail
    go_ret
    exact ⟨rfl, HQ6.out⟩
 · have e1 : p0 = 3 := d1
   have e2 : p1 = 0 := d2
   rw [hf] at hlook
   have HC := Aside0.mk (show Calls Tryz.prog 81 #[.pointer (some ⟨s, 0, none⟩), .int .i64 id] wb.drew (TkPost w0 pq a n C P s id (p0, p1)) from by
    rw [e1, e2]
    exact tk_shared HQ.out hn X.un.1 id)
   clear h hq hf X e1 e2 d1 d2 hp HQ
   go_enter Tryz.func42, Tryz.ntmps42
   go_upto_region 1 with fail
   rw [← hwb]
   clear hwb
   go_cut [4] (fun s4 wx => s4 = .bool (hitQ a id (p0, p1)) ∧ Aside0 (if hitQ a id (p0, p1) = true then QOkP w0 wx pq (outQ a id (p0, p1)) (n + 1) C P s else QOkP w0 wx pq a n C P s))
   case first =>
    go_region_with (first
     | (go_at_call 81; go_loud (refine HC.out.mono ?_; unfold TkPost; rintro x_ w6 ⟨rfl, hq6⟩; have HQ6 := Aside0.mk hq6; clear hq6)))
    all_goals (go_wp2_with fail)
    all_goals go_meet
    all_goals exact ⟨rfl, HQ6⟩
   case rest =>
    obtain ⟨rfl, HQ6⟩ := hcut
    go_wp2_with fail
    go_ret
    exact ⟨rfl, HQ6.out⟩
def IdxPost (w0 : World) (pq : Nat) (a : Qa) (n : Nat) (C : List (Nat × Obj)) (P : List Nat) (s : Nat) (l : List (Nat × Nat)) (id : Int) (w' : World) (r : Int) : Prop :=
  (∃ (j : Nat) (p : Nat × Nat), r = (j : Int) ∧ l.find? (hitQ a id) = some p ∧ QOkP w0 w' pq (outQ a id p) (n + 1) C P s) ∨ (r = -1 ∧ l.find? (hitQ a id) = none ∧ QOkP w0 w' pq a n C P s)
theorem find_at {α : Type} {p : α → Bool} : ∀ {l : List α} {m : Nat} {x : α}, l[m]? = some x → p x = true → (∀ j y, j < m → l[j]? = some y → p y = false) → l.find? p = some x := by
 intro l
 induction l with
 | nil => intro m x h; simp at h
 | cons b r ih =>
  intro m x hx he hb
  cases m with
  | zero =>
   simp only [List.getElem?_cons_zero, Option.some.injEq] at hx
   subst hx
   rw [List.find?_cons_of_pos he]
  | succ m =>
   rw [List.find?_cons_of_neg (by rw [hb 0 b (by omega) (by simp)]; simp)]
   exact ih (m := m) (by simpa using hx) he (fun j y hj hy => hb (j + 1) y (by omega) (by simpa using hy))
theorem find_no {α : Type} {p : α → Bool} {l : List α} (hb : ∀ j y, j < l.length → l[j]? = some y → p y = false) : l.find? p = none := by
 rw [List.find?_eq_none]
 intro x hx
 obtain ⟨j, hj, rfl⟩ := List.getElem_of_mem hx
 rw [hb j _ hj (List.getElem?_eq_getElem hj)]
 simp
set_option maxRecDepth 100000 in
set_option maxHeartbeats 4000000 in
theorem pl_idx {w0 w : World} {pq : Nat} {a : Qa} {n : Nat} {C : List (Nat × Obj)} {P : List Nat} {s : Nat} {l : List (Nat × Nat)} {id : Int} {g1 gm gi gr mb nm : Nat} {arr : Array Value} {es : Array MapEntry} {ck : Nat} {bx : List (Nat × Nat)} {f : Nat × Nat → Value}
 (X : TkCtx a C pq P s l id g1 gm gi gr mb nm arr es ck bx f) (h : QOkP w0 w pq a n C P s) (hn : n ≤ 800) (c : Nat) (hc : l.length ≤ c) :
 Calls Tryz.prog 82 #[.slice (some ⟨gr, 0, none⟩) l.length c, .func (.func 42) #[] #[.pointer (some ⟨gm, 0, none⟩), .pointer (some ⟨gi, 0, none⟩)]] w fun e w' => ∃ r, e = .returned (.int .i64 r) ∧ IdxPost w0 pq a n C P s l id w' r := by
 have HX := Aside0.mk X
 have HQ := Aside0.mk h
 have hlen := X.len
 clear h X
 go_enter Tryz.func82, Tryz.ntmps82
 go_wp2
 go_loopw [8] (fun i wr => ∃ m : Nat, m ≤ l.length ∧ i = .int .i64 m ∧ Aside0 (∀ j b, j < m → l[j]? = some b → hitQ a id b = false) ∧ Aside0 (QOkP w0 wr pq a n C P s)) (fun i _ => l.length - (intOf i).toNat)
 case atStart => exact ⟨0, Nat.zero_le _, rfl, ⟨fun j b h => by omega⟩, HQ⟩
 case round =>
  clear HQ
  obtain ⟨m, hm, rfl, HN, HQ⟩ := hrel
  by_cases hlt : m < l.length
  · obtain ⟨p, hp⟩ : ∃ p, l[m]? = some p := ⟨_, List.getElem?_eq_getElem hlt⟩
    have hrw := HQ.out.at_ HX.out.hgr
    have hcl := HX.out.row m p hp
    have y0 : wr.cell? ⟨gr, m * 2, none⟩ = some (.int .i64 (p.1 : Int)) := (cell_row hrw _).trans hcl.1
    have y1 : wr.cell? ⟨gr, m * 2 + 1, none⟩ = some (.int .i64 (p.2 : Int)) := (cell_row hrw _).trans hcl.2
    have HP := Aside0.mk hp
    have HC := Aside0.mk (tk_one HX.out HQ.out hn p (List.mem_of_getElem? hp))
    clear hp hrw hcl
    go_wp2_with fail
    refine HC.out.mono ?_
    unfold TkPost
    rintro e w2 ⟨rfl, hq2⟩
    cases hh : hitQ a id p with
    | true =>
     rw [hh, if_pos rfl] at hq2
     have HPO := Aside0.mk (show IdxPost w0 pq a n C P s l id w2 (m : Int) from .inl ⟨m, p, rfl, find_at HP.out hh HN.out, hq2⟩)
     clear hh hq2
     go_wp2
     go_ret
     exact ⟨_, rfl, HPO.out⟩
    | false =>
     rw [hh, if_neg (by simp)] at hq2
     have HQ2 := Aside0.mk hq2
     have HN2 : Aside0 (∀ j b, j < m + 1 → l[j]? = some b → hitQ a id b = false) := ⟨fun j b hj hb => by
      by_cases h1 : j = m
      · subst h1
        rw [HP.out] at hb
        injection hb with hb
        rw [← hb]; exact hh
      · exact HN.out j b (by omega) hb⟩
     clear hh hq2
     go_wp2
     go_roundw
     case rel => exact ⟨m + 1, by omega, by go_num, HN2, HQ2⟩
     case measure => simp [intOf]; omega
  · obtain rfl : m = l.length := by omega
    have HPO := Aside0.mk (show IdxPost w0 pq a n C P s l id wr (-1) from .inr ⟨rfl, find_no HN.out, HQ.out⟩)
    go_wp2
    go_ret
    exact ⟨_, rfl, HPO.out⟩
end Go.Proofs.YthghkglkifeagaaGreat.V
end
section
set_option linter.unusedVariables false
set_option linter.unusedSimpArgs false
namespace Go.Proofs.YthghkglkifeagaaGreat.V
open Go.RowKit Go.Proofs.YthghkglkifeagaaGreatW.PrintWords Go.Proofs.YthghkglkifeagaaGreatW.PrintLast Go.Proofs.YthghkglkifeagaaGreatW.PrintMore
theorem add_zero0 (g k : Nat) : (⟨g, 0, none⟩ : Addr).add k = ⟨g, k, none⟩ := by
 unfold Addr.add
 by_cases h : k = 0
 · subst h; simp
 · simp [h]
theorem kPl_sz : kPl.sz = 2 := rfl
theorem pl_arr {w : World} {base n c : Nat} {ok : Nat → Prop} {A : Option Addr} {l : List (Nat × Nat)} (h : kPl.R 77 w base ok (.slice A n c) l) (hne : 0 < l.length) :
 ∃ gr arr, A = some ⟨gr, 0, none⟩ ∧ base ≤ gr ∧ w.heap[gr]? = some (.cells arr 77 (0, 0)) ∧ n = l.length ∧ n ≤ c ∧ ∀ j p, l[j]? = some p → arr[j * 2]? = some (.int .i64 (p.1 : Int)) ∧ arr[j * 2 + 1]? = some (.int .i64 (p.2 : Int)) := by
 have hrd := Kd.R_reads' h
 obtain ⟨hok, inner, ⟨h1, h2⟩, hr⟩ := h
 rcases h2 with ⟨he, h0⟩ | ⟨g, cap, cur, he, hb, hh, hnc, hcm, hcs, ht⟩
 · omega
 · injection he with ha hn hc
   subst ha
   refine ⟨g, cur, rfl, hb, hh, hrd.1, hrd.2.1, fun j p hj => ?_⟩
   have hlt := (List.getElem?_eq_some_iff.1 hj).1
   obtain ⟨ad, cs, e1, hl, hK, hcell⟩ := ReadsRow.get_ hrd.2.2 (0, 0) (j : Int) (by omega) (by have := hrd.1; omega)
   rw [Int.toNat_natCast, show l.getD j (0, 0) = p by rw [List.getD_eq_getElem?_getD, hj]; rfl] at hK
   obtain rfl := kPl_open hK
   injection e1 with e1
   subst e1
   rw [Int.toNat_natCast] at hcell
   have c0 := hcell 0 _ rfl
   have c1 := hcell 1 _ rfl
   rw [kPl_sz, Nat.add_zero, add_zero0, cell_row hh] at c0
   rw [kPl_sz, add_zero0, cell_row hh] at c1
   exact ⟨c0, c1⟩
def takeQ (a : Qa) (id : Int) : Bool × Qa := match (placesQ a.loc.length).find? (hitQ a id) with | some p => (true, outQ a id p) | none => (false, a)
def TakePost (w0 : World) (pq : Nat) (a : Qa) (n : Nat) (C : List (Nat × Obj)) (P : List Nat) (s : Nat) (id : Int) (e : Ending) (w' : World) : Prop :=
  e = .returned (.bool (takeQ a id).1) ∧ QOkP w0 w' pq (takeQ a id).2 (n + 1) C P s
set_option maxRecDepth 100000 in
set_option maxHeartbeats 1000000 in
theorem pl_cont {w0 w : World} {pq : Nat} {a : Qa} {n : Nat} {C : List (Nat × Obj)} {P : List Nat} {s : Nat} {id : Int} {g1 gm gi gr mb nm : Nat} {arr : Array Value} {es : Array MapEntry} {ck : Nat} {bx : List (Nat × Nat)} {f : Nat × Nat → Value}
 (X : TkCtx a C pq P s (placesQ a.loc.length) id g1 gm gi gr mb nm arr es ck bx f) (h : QOkP w0 w pq a n C P s) (hn : n ≤ 800) (N c : Nat) (hN : N = (placesQ a.loc.length).length) (hc : N ≤ c) :
 Calls Tryz.prog 41 #[.slice (some ⟨gr, 0, none⟩) N c, .func (.func 42) #[] #[.pointer (some ⟨gm, 0, none⟩), .pointer (some ⟨gi, 0, none⟩)]] w (TakePost w0 pq a n C P s id) := by
 subst hN
 have HX := Aside0.mk X
 have HQ := Aside0.mk h
 clear h X
 go_enter Tryz.func41, Tryz.ntmps41
 go_wp2_with fail
 refine (pl_idx HX.out HQ.out hn c hc).mono ?_
 rintro e w2 ⟨r, rfl, hp⟩
 rcases hp with ⟨j, p, rfl, hf, hq⟩ | ⟨rfl, hf, hq⟩
 · have HPO := Aside0.mk (show TakePost w0 pq a n C P s id (.returned (.bool true)) w2 from by unfold TakePost takeQ; rw [hf]; exact ⟨rfl, hq⟩)
   clear hf hq
   have h0 : decide ((0 : Int) ≤ (j : Int)) = true := decide_eq_true (by omega)
   go_wp2
   go_ret
   first
    | exact HPO.out
    | (have := HPO.out; simpa using this)
 · have HPO := Aside0.mk (show TakePost w0 pq a n C P s id (.returned (.bool false)) w2 from by unfold TakePost takeQ; rw [hf]; exact ⟨rfl, hq.mono (by omega)⟩)
   clear hf hq
   go_wp2
   go_ret
   exact HPO.out
theorem place_few {T : Nat} {p : Nat × Nat} (h : p ∈ placesQ T) : (p.1 = 1 → p.2 < T) ∧ (p.1 = 2 → p.2 < T) := by
 unfold placesQ at h
 rcases List.mem_append.1 h with h | h
 · rcases List.mem_append.1 h with h | h
   · have := plRow_mem h; omega
   · have := plRow_mem h; omega
 · rw [List.mem_singleton.1 h]; omega
theorem places_len (T : Nat) : (placesQ T).length = 2 * T + 1 := by
 unfold placesQ
 rw [List.length_append, List.length_append, plRow_len, plRow_len]
 simp; omega
set_option maxRecDepth 100000 in
set_option maxHeartbeats 2000000 in
theorem qk_take {w0 w : World} {pq : Nat} {a : Qa} {n : Nat} {B : List (Nat × Obj)} (h : QOk w0 w pq a n B) (hn : n ≤ 800) (hu : Unlike a.sh ∧ ∀ t, Unlike (a.loc.getD t [])) (id : Int) :
 Calls Tryz.prog 10 #[.pointer (some ⟨pq, 0, none⟩), .int .i64 id] w fun e w' => e = .returned (.bool (takeQ a id).1) ∧ QOk w0 w' pq (takeQ a id).2 (n + 1) B := by
 obtain ⟨f1, f2, f3⟩ := h.few
 obtain ⟨P, s, hP⟩ : ∃ P s, QOkP w0 w pq a n B P s := by
  obtain ⟨who, q, h1, h2, h3⟩ := h.ex
  exact ⟨_, _, ⟨⟨who, q, h1, h2, h3, rfl, rfl⟩, h.bel⟩⟩
 have HP := Aside0.mk hP
 have HU := Aside0.mk hu
 have HB1 := Aside0.mk (below_alloc (Below.refl w.heap.size w) (.cells #[.int .i64 id] 3))
 have HX1 := Aside0.mk (heap_alloc_new w (.cells #[.int .i64 id] 3))
 clear h hP hu
 go_enter Tryz.func10, Tryz.ntmps10
 go_wp2_with fail
 obtain ⟨w1, hw1⟩ : ∃ w1 : World, w1 = w.alloc (.cells #[.int .i64 id] 3) := ⟨_, rfl⟩
 have hs1 : w1.heap.size = w.heap.size + 1 := by rw [hw1, World.size_alloc]
 rw [← hw1] at HB1 HX1 ⊢
 clear hw1
 refine (q_drops (HP.out.below HB1.out)).mono ?_
 rintro e w2 ⟨v, bx, f, rfl, hd, hv⟩
 obtain ⟨v', e1, hR⟩ := hd.h2
 obtain rfl : v' = v := by
  rw [hv] at e1
  injection e1 with e1
  injection e1 with e1
  injection e1 with e1
  injection e1 with e1
  exact e1.symm
 obtain ⟨A, c, rfl⟩ := Kd.R_slice hR
 obtain ⟨gr, arr, rfl, hgr, hrow, hlen, hcap, harr⟩ := pl_arr hR (by rw [places_len]; omega)
 obtain ⟨es, ck, hmb⟩ := hd.hm.at_
 obtain ⟨N, hN⟩ : ∃ N, (placesQ a.loc.length).length = N := ⟨_, rfl⟩
 rw [hN] at hcap ⊢
 have hN1 := places_len a.loc.length
 have HN := Aside0.mk hN
 have HN1 := Aside0.mk hN1
 have HD := Aside0.mk hd
 have HRW := Aside0.mk (show w2.heap[gr]? = some (.cells arr 77 (0, 0)) ∧ w1.heap.size ≤ gr from ⟨hrow, hgr⟩)
 have HAR := Aside0.mk harr
 have HMB := Aside0.mk hmb
 have HCAP := Aside0.mk hcap
 have HS1 := Aside0.mk hs1
 clear hd hv e1 hR hgr hrow hlen harr hmb hN hN1 hs1 hcap
 go_wp2_with fail
 obtain ⟨w3, hw3⟩ : ∃ w3 : World, w3 = w2.alloc (.cells #[.map (some (w1.heap.size + 3))] 72) := ⟨_, rfl⟩
 have HX3 := Aside0.mk (show w3.heap[w2.heap.size]? = some (.cells #[.map (some (w1.heap.size + 3))] 72 (0, 0)) by rw [hw3]; exact heap_alloc_new w2 _)
 have HB3 := Aside0.mk (show Below w2.heap.size w2 w3 by rw [hw3]; exact below_alloc (Below.refl _ _) _)
 rw [← hw3]
 clear hw3
 obtain ⟨C, hC⟩ : ∃ C : List (Nat × Obj), C = [(w1.heap.size, bxP pq), (w2.heap.size, .cells #[.map (some (w1.heap.size + 3))] 72), (w.heap.size, bxI id), (gr, .cells arr 77), (w1.heap.size + 3, .map es ck)] ++ bx.map (fun x => (x.1, bxI (x.2 : Int))) := ⟨_, rfl⟩
 have HQ3 := Aside0.mk (show QOkP w0 w3 pq a n (C ++ B) P s from by
  have hb2 : Below w.heap.size w w3 := below_step (below_then HB1.out HB1.out.size HD.out.bel) HB3.out
  refine HP.out.boxed hb2 C (fun x hx => ?_)
  have q1 := HB1.out.size
  have q2 := HD.out.bel.size
  rw [hC] at hx
  rcases List.mem_append.1 hx with hx | hx
  · simp only [List.mem_cons, List.not_mem_nil, or_false] at hx
    rcases hx with rfl | rfl | rfl | rfl | rfl
    · exact ⟨by show w.heap.size ≤ w1.heap.size; omega, blk_below HD.out.h1 HB3.out⟩
    · exact ⟨by show w.heap.size ≤ w2.heap.size; omega, HX3.out⟩
    · exact ⟨Nat.le_refl _, blk_below ((HD.out.bel.block _ (by have := HS1.out; omega)).trans HX1.out) HB3.out⟩
    · exact ⟨by have := HRW.out.2; show w.heap.size ≤ gr; omega, blk_below HRW.out.1 HB3.out⟩
    · exact ⟨by show w.heap.size ≤ w1.heap.size + 3; omega, (HB3.out.block _ HD.out.lt).trans HMB.out⟩
  · obtain ⟨y, hy, rfl⟩ := List.mem_map.1 hx
    have := (HD.out.bxs y hy).2
    exact ⟨by show w.heap.size ≤ y.1; omega, blk_below (HD.out.bxs y hy).1 HB3.out⟩)
 have HCX := Aside0.mk (show TkCtx a (C ++ B) pq P s (placesQ a.loc.length) id w1.heap.size w2.heap.size w.heap.size gr (w1.heap.size + 3) _ arr es ck bx f from by
  refine ⟨?_, ?_, ?_, ?_, ?_, HAR.out, fun W hW => HD.out.hm.move (hW.trans HMB.out.symm), fun x hx => ?_, HD.out.told, fun p hp => (place_few hp).1, fun p hp => (place_few hp).2, HU.out, by rw [places_len]; omega⟩
  · rw [hC]; simp
  · rw [hC]; simp
  · rw [hC]; simp
  · rw [hC]; simp
  · rw [hC]; simp
  · rw [hC]
    exact List.mem_append_left _ (List.mem_append_right _ (List.mem_map.2 ⟨x, hx, rfl⟩)))
 clear hC
 refine (pl_cont HCX.out HQ3.out hn N c HN.out.symm HCAP.out).mono ?_
 unfold TakePost
 rintro e w4 ⟨rfl, hq4⟩
 have HQ4 := Aside0.mk hq4.unboxed
 clear hq4
 go_wp2
 go_ret
 exact ⟨rfl, HQ4.out⟩
end Go.Proofs.YthghkglkifeagaaGreat.V
end
