-- a text of this work, without what this claim doesn't use (wip/shake.py)
import Derived.Test.YthghkglkifeagaaGreatPVT3
import Derived.Test.YthghkglkifeagaaGreatPVGenS
import Derived.Test.YthghkglkifeagaaGreatPVSh7
set_option maxRecDepth 100000
set_option maxHeartbeats 8000000
set_option linter.unusedVariables false
set_option linter.unusedSimpArgs false
namespace Go.Proofs.YthghkglkifeagaaGreat.V
open Go.RowKit Go.Proofs.YthghkglkifeagaaGreatW.PrintWords Go.Proofs.YthghkglkifeagaaGreatW.PrintLast Go.Proofs.YthghkglkifeagaaGreatW.PrintMore
def a0q (c T : Nat) : List (Nat × Nat) := (List.range T).map fun t => (c, t)
def a1a (T : Nat) : List (Nat × Nat) := a0q 1 T ++ a0q 2 T ++ [(3, 0)]
theorem b0x (c m : Nat) : a0q c (m + 1) = a0q c m ++ [(c, m)] := by unfold a0q; rw [List.range_succ, List.map_append]; rfl
theorem a3a (c m : Nat) : (a0q c m).length = m := by unfold a0q; rw [List.length_map, List.length_range]
theorem a2q {c m : Nat} {p : Nat × Nat} (h : p ∈ a0q c m) : p.1 = c ∧ p.2 < m := by
 unfold a0q at h
 obtain ⟨t, ht, rfl⟩ := List.mem_map.1 h
 exact ⟨rfl, List.mem_range.1 ht⟩
theorem DpSt.same {w wr : World} {pq : Nat} {P : List Nat} {s : Nat} {l : List (Nat × Nat)} {bx : List (Nat × Nat)} {f : Nat × Nat → Value} (h : DpSt w wr pq P s l bx f) {v : Value} (hv : wr.heap[w.heap.size + 1]? = some (.cells #[v] 71 (0, 0))) :
 DpSt w ((wr.setCell ⟨w.heap.size + 1, 0, none⟩ v).setCell ⟨w.heap.size + 1 + 1, 0, none⟩ (.map (some (w.heap.size + 3)))).drew pq P s l bx f := by
 refine h.below ⟨rfl, rfl, rfl, by simp only [World.setCell, World.drew, Array.size_modify]; exact Nat.le_refl _, fun k hk => ?_⟩
 show ((wr.setCell ⟨w.heap.size + 1, 0, none⟩ v).setCell ⟨w.heap.size + 2, 0, none⟩ (.map (some (w.heap.size + 3)))).heap[k]? = wr.heap[k]?
 by_cases h2 : k = w.heap.size + 2
 · subst h2
   exact (blk_put ((a0z (by omega)).trans h.h3) 0 _ rfl).trans h.h3.symm
 · rw [a0z h2]
   by_cases h1 : k = w.heap.size + 1
   · subst h1
     exact (blk_put hv 0 _ rfl).trans hv.symm
   · exact a0z h1
theorem b5d (w : World) (pq : Nat) (P : List Nat) (s : Nat) :
 DpSt w ((((w.alloc (.cells #[.pointer (some ⟨pq, 0, none⟩)] 23)).alloc (.cells #[.slice none 0 0] 71)).alloc (.cells #[.map (some (w.heap.size + 1 + 1 + 1))] 72)).alloc (.map #[] 0)) pq P s [] [] (fun _ => .nilFunc) := by
 obtain ⟨w1, e1⟩ : ∃ w1, w1 = w.alloc (.cells #[.pointer (some ⟨pq, 0, none⟩)] 23) := ⟨_, rfl⟩
 obtain ⟨w2, e2⟩ : ∃ w2, w2 = w1.alloc (.cells #[.slice none 0 0] 71) := ⟨_, rfl⟩
 obtain ⟨w3, e3⟩ : ∃ w3, w3 = w2.alloc (.cells #[.map (some (w.heap.size + 1 + 1 + 1))] 72) := ⟨_, rfl⟩
 obtain ⟨w4, e4⟩ : ∃ w4, w4 = w3.alloc (.map #[] 0) := ⟨_, rfl⟩
 rw [← e1, ← e2, ← e3, ← e4]
 have s1 : w1.heap.size = w.heap.size + 1 := by rw [e1, World.size_alloc]
 have s2 : w2.heap.size = w.heap.size + 2 := by rw [e2, World.size_alloc, s1]
 have s3 : w3.heap.size = w.heap.size + 3 := by rw [e3, World.size_alloc, s2]
 have s4 : w4.heap.size = w.heap.size + 4 := by rw [e4, World.size_alloc, s3]
 have h1 : w1.heap[w.heap.size]? = some (.cells #[.pointer (some ⟨pq, 0, none⟩)] 23 (0, 0)) := by rw [e1]; exact heap_alloc_new w _
 have h2 : w2.heap[w.heap.size + 1]? = some (.cells #[.slice none 0 0] 71 (0, 0)) := by rw [e2, ← s1]; exact heap_alloc_new w1 _
 have h3 : w3.heap[w.heap.size + 2]? = some (.cells #[.map (some (w.heap.size + 1 + 1 + 1))] 72 (0, 0)) := by rw [e3, ← s2]; exact heap_alloc_new w2 _
 have b1 : Below w.heap.size w w1 := by rw [e1]; exact below_alloc (Below.refl _ _) _
 have b2 : Below w1.heap.size w1 w2 := by rw [e2]; exact below_alloc (Below.refl _ _) _
 have b3 : Below w2.heap.size w2 w3 := by rw [e3]; exact below_alloc (Below.refl _ _) _
 have b4 : Below w3.heap.size w3 w4 := by rw [e4]; exact below_alloc (Below.refl _ _) _
 have hm : MapF w4 (w.heap.size + 3) 0 (fun _ => .nilFunc) := by rw [e4, ← s3]; exact MapF.made w3
 have h4 : w4.heap[w.heap.size]? = _ := blk_below (blk_below (blk_below h1 b2) b3) b4
 have h5 : w4.heap[w.heap.size + 1]? = _ := blk_below (blk_below h2 b3) b4
 have h6 : w4.heap[w.heap.size + 2]? = _ := blk_below h3 b4
 exact ⟨below_step (below_step (below_step b1 b2) b3) b4, h4, ⟨.slice none 0 0, h5, Kd.R_nil _ _ _ _ _⟩, h6, hm, fun x hx => by simp at hx, fun p hp => by simp at hp⟩
theorem b4c {w0 w : World} {pq : Nat} {a : Qa} {n : Nat} {B : List (Nat × Obj)} {P : List Nat} {s : Nat} (h : QOkP w0 w pq a n B P s) :
 Calls Tryz.prog 40 #[.pointer (some ⟨pq, 0, none⟩)] w fun e w' => ∃ v bx f, e = .returned (.tuple #[v, .map (some (w.heap.size + 3))]) ∧ DpSt w w' pq P s (a1a a.loc.length) bx f ∧ w'.heap[w.heap.size + 1]? = some (.cells #[v] 71 (0, 0)) := by
 obtain ⟨f1, f2, f3⟩ := h.ok.few
 obtain ⟨who, q, h1, h2, h3, h4, h5⟩ := h.ex
 have HA := za (show ∀ wr, Below w.heap.size w wr → QAt (upO who 11 w.heap.size) wr w0.heap.size pq q from fun wr hb => h1.below hb 11 (by have := h1.few; omega))
 obtain ⟨g, cap, hv, hc, _, hr⟩ := h1.lists
 have hq2 : ∀ wr, Below w.heap.size w wr → wr.cell? ⟨pq, 2, none⟩ = some (.slice (some ⟨g, 0, none⟩) a.loc.length cap) := fun wr hb => by
  rw [← h2.len, ← hv]; exact (HA.out wr hb).c2
 have HQ2 := za hq2
 have HPT := za (show ∀ t, t < a.loc.length → ∃ pl, P[t]? = some pl ∧ w.cell? ⟨g, t, none⟩ = some (.pointer (some ⟨pl, 0, none⟩)) from fun t ht => by
  obtain ⟨m, hm⟩ : ∃ m, q.ms[t]? = some m := ⟨_, List.getElem?_eq_getElem (by rw [h2.len]; exact ht)⟩
  exact ⟨m.p, by rw [← h4, List.getElem?_map, hm]; rfl, hr t m hm⟩)
 have HS5 := za h5
 have hcap : a.loc.length ≤ cap := by rw [← h2.len]; exact hc
 have hpl := h1.lt
 clear h h1 h2 h3 h4 h5 hv hc hr hq2
 have hmk : ∀ W : World, (Instr.makeMap 72 none).run Tryz.prog W = .ok (.map (some W.heap.size)) (W.alloc (.map #[] 0)) := fun W => rfl
 have HST := za (b5d w pq P s)
 go_enter Tryz.func40, Tryz.ntmps40
 go_upto_region 3 with fail
 obtain ⟨wz, hwz⟩ : ∃ wz : World, wz = (((w.alloc (.cells #[.pointer (some ⟨pq, 0, none⟩)] 23)).alloc (.cells #[.slice none 0 0] 71)).alloc (.cells #[.map (some (w.heap.size + 1 + 1 + 1))] 72)).alloc (.map #[] 0) := ⟨_, rfl⟩
 rw [← hwz] at HST ⊢
 clear hwz hmk
 have hp := HQ2.out _ HST.out.bel
 have hg1 : wz.cell? ⟨w.heap.size, 0, none⟩ = some (.pointer (some ⟨pq, 0, none⟩)) := (blk_cell HST.out.h1 0).trans rfl
 go_wp2
 go_loopw [15] (fun i wr => ∃ m : Nat, m ≤ a.loc.length ∧ i = .int .i64 m ∧ Aside0 (∃ bx f, DpSt w wr pq P s (a0q 1 m) bx f)) (fun i _ => a.loc.length - (intOf i).toNat)
 case atStart => exact ⟨0, Nat.zero_le _, rfl, ⟨[], _, HST.out⟩⟩
 case round =>
  clear hp hg1 HST
  obtain ⟨m, hm, rfl, HD⟩ := hrel
  obtain ⟨bx, f, hd⟩ := HD.out
  by_cases hlt : m < a.loc.length
  · have HB := za (hd.box m)
    have HX := za (heap_alloc_new wr (.cells #[.int .i64 (m : Int)] 3))
    have hx0 : (wr.alloc (.cells #[.int .i64 (m : Int)] 3)).cell? ⟨wr.heap.size, 0, none⟩ = some (.int .i64 m) := (blk_cell HX.out 0).trans rfl
    clear hd
    go_wp2_with fail
    refine (a7x HB.out (1, m) (.func (.func 79) #[] #[.pointer (some ⟨w.heap.size, 0, none⟩), .pointer (some ⟨wr.heap.size, 0, none⟩)]) (by omega) (by show m < 1000; omega) (by rw [a3a]; omega) (fun q hq e => by have := a2q hq; rw [e] at this; omega) (.inl ⟨rfl, wr.heap.size, rfl, List.mem_cons_self⟩) ⟨_, _, _, rfl⟩).mono ?_
    rintro e w2 ⟨rfl, hd2⟩
    rw [← b0x] at hd2
    have HD2 : Aside0 (∃ bx f, DpSt w w2 pq P s (a0q 1 (m + 1)) bx f) := ⟨_, _, hd2⟩
    clear hd2
    go_wp2
    go_roundw
    case rel => exact ⟨m + 1, by omega, by go_num, HD2⟩
    case measure => simp [intOf]; omega
  · obtain rfl : m = a.loc.length := by omega
    have hp := HQ2.out _ hd.bel
    have hg1 : wr.cell? ⟨w.heap.size, 0, none⟩ = some (.pointer (some ⟨pq, 0, none⟩)) := (blk_cell hd.h1 0).trans rfl
    have HD0 := za (show ∃ bx f, DpSt w wr pq P s (a0q 1 a.loc.length ++ a0q 2 0) bx f from ⟨bx, f, by rw [show a0q 2 0 = [] from rfl, List.append_nil]; exact hd⟩)
    clear hd hlt hm HD
    go_wp2
    rename World => wo
    go_loopw [29] (fun i wr => ∃ m : Nat, m ≤ a.loc.length ∧ i = .int .i64 m ∧ Aside0 (∃ bx f, DpSt w wr pq P s (a0q 1 a.loc.length ++ a0q 2 m) bx f)) (fun i _ => a.loc.length - (intOf i).toNat)
    case atStart => exact ⟨0, Nat.zero_le _, rfl, HD0⟩
    case round =>
     clear hp hg1 HD0
     obtain ⟨m, hm, rfl, HD⟩ := hrel
     obtain ⟨bx, f, hd⟩ := HD.out
     by_cases hlt : m < a.loc.length
     · obtain ⟨pl, hpl, hcell⟩ := HPT.out m hlt
       have x1 := pw_cell_below hd.bel hcell
       have HD1 := za hd
       have HPL := za hpl
       clear hd hcell hpl
       go_wp2_with fail
       refine (a7x HD1.out (2, m) (.func (.func 80) #[.pointer (some ⟨pl, 0, none⟩)] #[]) (by omega) (by show m < 1000; omega) (by rw [List.length_append, a3a, a3a]; omega) (fun q hq e => by
        rw [e] at hq
        rcases List.mem_append.1 hq with hq | hq
        · have := a2q hq; omega
        · have := a2q hq; omega) (.inr (.inl ⟨rfl, pl, HPL.out, rfl⟩)) ⟨_, _, _, rfl⟩).mono ?_
       rintro e w2 ⟨rfl, hd2⟩
       rw [List.append_assoc, ← b0x] at hd2
       have HD2 : Aside0 (∃ bx f, DpSt w w2 pq P s (a0q 1 a.loc.length ++ a0q 2 (m + 1)) bx f) := ⟨_, _, hd2⟩
       clear hd2
       go_wp2
       go_roundw
       case rel => exact ⟨m + 1, by omega, by go_num, HD2⟩
       case measure => simp [intOf]; omega
     · obtain rfl : m = a.loc.length := by omega
       have hg1 : wr.cell? ⟨w.heap.size, 0, none⟩ = some (.pointer (some ⟨pq, 0, none⟩)) := (blk_cell hd.h1 0).trans rfl
       have hq3 := (HA.out _ hd.bel).c3
       rw [HS5.out] at hq3
       have HD1 := za hd
       clear hd hlt hm HD
       go_wp2_with fail
       refine (a7x HD1.out (3, 0) (.func (.func 81) #[.pointer (some ⟨s, 0, none⟩)] #[]) (by omega) (by omega) (by rw [List.length_append, a3a, a3a]; omega) (fun q hq e => by
        rw [e] at hq
        rcases List.mem_append.1 hq with hq | hq
        · have := a2q hq; omega
        · have := a2q hq; omega) (.inr (.inr ⟨rfl, rfl, rfl⟩)) ⟨_, _, _, rfl⟩).mono ?_
       rintro e w2 ⟨rfl, hd2⟩
       have hd3 : DpSt w w2 pq P s (a1a a.loc.length) bx _ := hd2
       obtain ⟨v, hv2, hR2⟩ := hd2.h2
       obtain ⟨A2, c2, hvv⟩ := Kd.R_slice hR2
       obtain ⟨N, hN⟩ : ∃ N, (a0q 1 a.loc.length ++ a0q 2 a.loc.length ++ [(3, 0)]).length = N := ⟨_, rfl⟩
       rw [hN] at hvv
       have HSM := za (hd3.same hv2)
       have HV2 := za hv2
       have y2 : w2.cell? ⟨w.heap.size + 1, 0, none⟩ = some v := (blk_cell hv2 0).trans rfl
       have y3 : w2.cell? ⟨w.heap.size + 1 + 1, 0, none⟩ = some (.map (some (w.heap.size + 3))) := (blk_cell hd2.h3 0).trans rfl
       have z2 : w2.frozen? ⟨w.heap.size + 1, 0, none⟩ = false := a1h hv2 0
       have z3 : w2.frozen? ⟨w.heap.size + 1 + 1, 0, none⟩ = false := a1h hd2.h3 0
       rw [hvv] at y2
       have K2 : ((w2.setCell ⟨w.heap.size + 1, 0, none⟩ v).setCell ⟨w.heap.size + 1 + 1, 0, none⟩ (.map (some (w.heap.size + 3)))).drew.heap[w.heap.size + 1]? = some (.cells #[v] 71 (0, 0)) := (a0z (W := w2.setCell ⟨w.heap.size + 1, 0, none⟩ v) (by omega)).trans (blk_put hv2 0 v rfl)
       have k2 := (blk_cell K2 0).trans (show _ = some v from rfl)
       have k3 : ((w2.setCell ⟨w.heap.size + 1, 0, none⟩ v).setCell ⟨w.heap.size + 1 + 1, 0, none⟩ (.map (some (w.heap.size + 3)))).drew.cell? ⟨w.heap.size + 1 + 1, 0, none⟩ = some (.map (some (w.heap.size + 3))) := (blk_cell HSM.out.h3 0).trans rfl
       have HK := za K2
       subst hvv
       clear hd2 hd3 hR2 hv2 K2 hN
       go_wp2_with fail
       go_region
       all_goals (go_wp2_with fail)
       all_goals exact bodyPost_ret (v := .tuple #[.slice A2 N c2, .map (some (w.heap.size + 3))]) (by simp [results, Tryz.results40, go_sem, k2, k3]) rfl ⟨_, _, _, rfl, HSM.out, HK.out⟩
theorem QOkP.boxed {w0 w w1 : World} {pq : Nat} {a : Qa} {n : Nat} {B : List (Nat × Obj)} {P : List Nat} {s : Nat} (h : QOkP w0 w pq a n B P s) (hb : Below w.heap.size w w1) (C : List (Nat × Obj)) (hC : ∀ x ∈ C, w.heap.size ≤ x.1 ∧ w1.heap[x.1]? = some x.2) : QOkP w0 w1 pq a n (C ++ B) P s := by
 have hlo := h.ok.lo
 obtain ⟨who, q, h1, h2, h3, h4⟩ := h.ex
 refine ⟨⟨_, q, h1.below hb 11 (by have := h1.few; omega), h2, fun x hx => ?_, h4⟩, below_step h.bel hb⟩
 rcases List.mem_append.1 hx with hx | hx
 · exact ⟨(hC x hx).2, a1r (hC x hx).1, Nat.le_trans hlo (hC x hx).1⟩
 · exact QOk.boxes h3 (Keep.below hb 11) x hx
theorem QOkP.unboxed {w0 w : World} {pq : Nat} {a : Qa} {n : Nat} {C B : List (Nat × Obj)} {P : List Nat} {s : Nat} (h : QOkP w0 w pq a n (C ++ B) P s) : QOk w0 w pq a n B := by
 obtain ⟨who, q, h1, h2, h3, h4⟩ := h.ex
 exact ⟨⟨who, q, h1, h2, fun x hx => h3 x (List.mem_append_right _ hx)⟩, h.bel⟩
structure TkCtx (a : Qa) (C : List (Nat × Obj)) (pq : Nat) (P : List Nat) (s : Nat) (l : List (Nat × Nat)) (id : Int) (g1 gm gi gr mb nm : Nat) (arr : Array Value) (es : Array MapEntry) (ck : Nat) (bx : List (Nat × Nat)) (f : Nat × Nat → Value) : Prop where
  hg1 : (g1, bxP pq) ∈ C
  hgm : (gm, .cells #[.map (some mb)] 72 (0, 0)) ∈ C
  hgi : (gi, bxI id) ∈ C
  hgr : (gr, .cells arr 77 (0, 0)) ∈ C
  hmb : (mb, .map es ck) ∈ C
  row : ∀ j p, l[j]? = some p → arr[j * 2]? = some (.int .i64 (p.1 : Int)) ∧ arr[j * 2 + 1]? = some (.int .i64 (p.2 : Int))
  map : ∀ W : World, W.heap[mb]? = some (.map es ck) → MapF W mb nm f
  bxs : ∀ x ∈ bx, (x.1, bxI (x.2 : Int)) ∈ C
  told : ∀ p ∈ l, p.1 < 1000 ∧ p.2 < 1000 ∧ ToldF g1 P s bx p (f p)
  few : ∀ p ∈ l, p.1 = 1 → p.2 < a.loc.length
  few2 : ∀ p ∈ l, p.1 = 2 → p.2 < a.loc.length
  un : Unlike a.sh ∧ ∀ t, Unlike (a.loc.getD t [])
  len : l.length ≤ 1000
theorem tk_one {w0 w : World} {pq : Nat} {a : Qa} {n : Nat} {C : List (Nat × Obj)} {P : List Nat} {s : Nat} {l : List (Nat × Nat)} {id : Int} {g1 gm gi gr mb nm : Nat} {arr : Array Value} {es : Array MapEntry} {ck : Nat} {bx : List (Nat × Nat)} {f : Nat × Nat → Value}
 (X : TkCtx a C pq P s l id g1 gm gi gr mb nm arr es ck bx f) (h : QOkP w0 w pq a n C P s) (hn : n ≤ 800) (p : Nat × Nat) (hp : p ∈ l) :
 Calls Tryz.prog 42 #[.agg #[.int .i64 (p.1 : Int), .int .i64 (p.2 : Int)], .pointer (some ⟨gm, 0, none⟩), .pointer (some ⟨gi, 0, none⟩)] w (a1w w0 pq a n C P s id p) := by
 obtain ⟨p0, p1⟩ := p
 obtain ⟨hp0, hp1, ht⟩ := X.told _ hp
 have hw := below_alloc (Below.refl w.heap.size w) (.cells #[.int .i64 (p0 : Int), .int .i64 (p1 : Int)] 77)
 have HX0 := za (heap_alloc_new w (.cells #[.int .i64 (p0 : Int), .int .i64 (p1 : Int)] 77))
 obtain ⟨wb, hwb⟩ : ∃ wb : World, wb = w.alloc (.cells #[.int .i64 (p0 : Int), .int .i64 (p1 : Int)] 77) := ⟨_, rfl⟩
 rw [← hwb] at hw HX0
 have hq := h.below hw
 have HQ := za (show QOkP w0 wb.drew pq a n C P s from hq.below (below_drew (Below.refl _ _)))
 have b1 : wb.cell? ⟨gm, 0, none⟩ = some (.map (some mb)) := (blk_cell (hq.at_ X.hgm) 0).trans rfl
 have b2 : wb.cell? ⟨gi, 0, none⟩ = some (.int .i64 id) := (blk_cell (show wb.heap[gi]? = some (.cells #[.int .i64 id] 3 (0, 0)) from hq.at_ X.hgi) 0).trans rfl
 have b3 : wb.cell? ⟨w.heap.size, 0, none⟩ = some (.int .i64 (p0 : Int)) := (blk_cell HX0.out 0).trans rfl
 have b4 : wb.cell? ⟨w.heap.size, 1, none⟩ = some (.int .i64 (p1 : Int)) := (blk_cell HX0.out 1).trans rfl
 have hlook := (X.map wb.drew (HQ.out.at_ X.hmb)).look (p0, p1) hp0 hp1
 unfold plV at hlook
 rcases ht with ⟨d1, gt, hf, hgt⟩ | ⟨d1, pl, hpl, hf⟩ | ⟨d1, d2, hf⟩
 · have e1 : p0 = 1 := d1
   rw [hf] at hlook
   have HC := za (show Calls Tryz.prog 79 #[.int .i64 id, .pointer (some ⟨g1, 0, none⟩), .pointer (some ⟨gt, 0, none⟩)] wb.drew (a1w w0 pq a n C P s id (p0, p1)) from by
    rw [e1]
    exact c0m HQ.out p1 (X.few _ hp e1) id g1 gt X.hg1 (X.bxs _ hgt))
   clear h hq hf X e1 d1 hp hgt HQ
   go_enter Tryz.func42, Tryz.ntmps42
   go_upto_region 1 with fail
   rw [← hwb]
   clear hwb
   go_cut [4] (fun s4 wx => s4 = .bool (hitQ a id (p0, p1)) ∧ Aside0 (if hitQ a id (p0, p1) = true then QOkP w0 wx pq (outQ a id (p0, p1)) (n + 1) C P s else QOkP w0 wx pq a n C P s))
   case first =>
    go_region_with (first
     | (go_at_call 79; go_loud (refine HC.out.mono ?_; unfold a1w; rintro x_ w6 ⟨rfl, hq6⟩; have HQ6 := za hq6; clear hq6)))
    all_goals (go_wp2_with fail)
    all_goals go_meet
    all_goals exact ⟨rfl, HQ6⟩
   case rest =>
    obtain ⟨rfl, HQ6⟩ := hcut
    go_wp2_with fail
    go_ret
    exact ⟨rfl, HQ6.out⟩
 · have e1 : p0 = 2 := d1
   rw [hf] at hlook
   have HC := za (show Calls Tryz.prog 80 #[.pointer (some ⟨pl, 0, none⟩), .int .i64 id] wb.drew (a1w w0 pq a n C P s id (p0, p1)) from by
    rw [e1]
    exact c1w HQ.out hn p1 (X.few2 _ hp e1) (X.un.2 p1) id pl hpl)
   clear h hq hf X e1 d1 hp hpl HQ
   go_enter Tryz.func42, Tryz.ntmps42
   go_upto_region 1 with fail
   rw [← hwb]
   clear hwb
   go_cut [4] (fun s4 wx => s4 = .bool (hitQ a id (p0, p1)) ∧ Aside0 (if hitQ a id (p0, p1) = true then QOkP w0 wx pq (outQ a id (p0, p1)) (n + 1) C P s else QOkP w0 wx pq a n C P s))
   case first =>
    go_region_with (first
     | (go_at_call 80; go_loud (refine HC.out.mono ?_; unfold a1w; rintro x_ w6 ⟨rfl, hq6⟩; have HQ6 := za hq6; clear hq6)))
    all_goals (go_wp2_with fail)
    all_goals go_meet
    all_goals exact ⟨rfl, HQ6⟩
   case rest =>
    obtain ⟨rfl, HQ6⟩ := hcut
    go_wp2_with fail
    go_ret
    exact ⟨rfl, HQ6.out⟩
 · have e1 : p0 = 3 := d1
   have e2 : p1 = 0 := d2
   rw [hf] at hlook
   have HC := za (show Calls Tryz.prog 81 #[.pointer (some ⟨s, 0, none⟩), .int .i64 id] wb.drew (a1w w0 pq a n C P s id (p0, p1)) from by
    rw [e1, e2]
    exact b6t HQ.out hn X.un.1 id)
   clear h hq hf X e1 e2 d1 d2 hp HQ
   go_enter Tryz.func42, Tryz.ntmps42
   go_upto_region 1 with fail
   rw [← hwb]
   clear hwb
   go_cut [4] (fun s4 wx => s4 = .bool (hitQ a id (p0, p1)) ∧ Aside0 (if hitQ a id (p0, p1) = true then QOkP w0 wx pq (outQ a id (p0, p1)) (n + 1) C P s else QOkP w0 wx pq a n C P s))
   case first =>
    go_region_with (first
     | (go_at_call 81; go_loud (refine HC.out.mono ?_; unfold a1w; rintro x_ w6 ⟨rfl, hq6⟩; have HQ6 := za hq6; clear hq6)))
    all_goals (go_wp2_with fail)
    all_goals go_meet
    all_goals exact ⟨rfl, HQ6⟩
   case rest =>
    obtain ⟨rfl, HQ6⟩ := hcut
    go_wp2_with fail
    go_ret
    exact ⟨rfl, HQ6.out⟩
def a8j (w0 : World) (pq : Nat) (a : Qa) (n : Nat) (C : List (Nat × Obj)) (P : List Nat) (s : Nat) (l : List (Nat × Nat)) (id : Int) (w' : World) (r : Int) : Prop :=
  (∃ (j : Nat) (p : Nat × Nat), r = (j : Int) ∧ l.find? (hitQ a id) = some p ∧ QOkP w0 w' pq (outQ a id p) (n + 1) C P s) ∨ (r = -1 ∧ l.find? (hitQ a id) = none ∧ QOkP w0 w' pq a n C P s)
theorem b5z {α : Type} {p : α → Bool} : ∀ {l : List α} {m : Nat} {x : α}, l[m]? = some x → p x = true → (∀ j y, j < m → l[j]? = some y → p y = false) → l.find? p = some x := by
 intro l
 induction l with
 | nil => intro m x h; simp at h
 | cons b r ih =>
  intro m x hx he hb
  cases m with
  | zero =>
   simp only [List.getElem?_cons_zero, Option.some.injEq] at hx
   subst hx
   rw [List.find?_cons_of_pos he]
  | succ m =>
   rw [List.find?_cons_of_neg (by rw [hb 0 b (by omega) (by simp)]; simp)]
   exact ih (m := m) (by simpa using hx) he (fun j y hj hy => hb (j + 1) y (by omega) (by simpa using hy))
theorem c1e {α : Type} {p : α → Bool} {l : List α} (hb : ∀ j y, j < l.length → l[j]? = some y → p y = false) : l.find? p = none := by
 rw [List.find?_eq_none]
 intro x hx
 obtain ⟨j, hj, rfl⟩ := List.getElem_of_mem hx
 rw [hb j _ hj (List.getElem?_eq_getElem hj)]
 simp
theorem pl_idx {w0 w : World} {pq : Nat} {a : Qa} {n : Nat} {C : List (Nat × Obj)} {P : List Nat} {s : Nat} {l : List (Nat × Nat)} {id : Int} {g1 gm gi gr mb nm : Nat} {arr : Array Value} {es : Array MapEntry} {ck : Nat} {bx : List (Nat × Nat)} {f : Nat × Nat → Value}
 (X : TkCtx a C pq P s l id g1 gm gi gr mb nm arr es ck bx f) (h : QOkP w0 w pq a n C P s) (hn : n ≤ 800) (c : Nat) (hc : l.length ≤ c) :
 Calls Tryz.prog 82 #[.slice (some ⟨gr, 0, none⟩) l.length c, .func (.func 42) #[] #[.pointer (some ⟨gm, 0, none⟩), .pointer (some ⟨gi, 0, none⟩)]] w fun e w' => ∃ r, e = .returned (.int .i64 r) ∧ a8j w0 pq a n C P s l id w' r := by
 have HX := za X
 have HQ := za h
 have hlen := X.len
 clear h X
 go_enter Tryz.func82, Tryz.ntmps82
 go_wp2
 go_loopw [8] (fun i wr => ∃ m : Nat, m ≤ l.length ∧ i = .int .i64 m ∧ Aside0 (∀ j b, j < m → l[j]? = some b → hitQ a id b = false) ∧ Aside0 (QOkP w0 wr pq a n C P s)) (fun i _ => l.length - (intOf i).toNat)
 case atStart => exact ⟨0, Nat.zero_le _, rfl, ⟨fun j b h => by omega⟩, HQ⟩
 case round =>
  clear HQ
  obtain ⟨m, hm, rfl, HN, HQ⟩ := hrel
  by_cases hlt : m < l.length
  · obtain ⟨p, hp⟩ : ∃ p, l[m]? = some p := ⟨_, List.getElem?_eq_getElem hlt⟩
    have hrw := HQ.out.at_ HX.out.hgr
    have hcl := HX.out.row m p hp
    have y0 : wr.cell? ⟨gr, m * 2, none⟩ = some (.int .i64 (p.1 : Int)) := (a1e hrw _).trans hcl.1
    have y1 : wr.cell? ⟨gr, m * 2 + 1, none⟩ = some (.int .i64 (p.2 : Int)) := (a1e hrw _).trans hcl.2
    have HP := za hp
    have HC := za (tk_one HX.out HQ.out hn p (List.mem_of_getElem? hp))
    clear hp hrw hcl
    go_wp2_with fail
    refine HC.out.mono ?_
    unfold a1w
    rintro e w2 ⟨rfl, hq2⟩
    cases hh : hitQ a id p with
    | true =>
     rw [hh, if_pos rfl] at hq2
     have HPO := za (show a8j w0 pq a n C P s l id w2 (m : Int) from .inl ⟨m, p, rfl, b5z HP.out hh HN.out, hq2⟩)
     clear hh hq2
     go_wp2
     go_ret
     exact ⟨_, rfl, HPO.out⟩
    | false =>
     rw [hh, if_neg (by simp)] at hq2
     have HQ2 := za hq2
     have HN2 : Aside0 (∀ j b, j < m + 1 → l[j]? = some b → hitQ a id b = false) := ⟨fun j b hj hb => by
      by_cases h1 : j = m
      · subst h1
        rw [HP.out] at hb
        injection hb with hb
        rw [← hb]; exact hh
      · exact HN.out j b (by omega) hb⟩
     clear hh hq2
     go_wp2
     go_roundw
     case rel => exact ⟨m + 1, by omega, by go_num, HN2, HQ2⟩
     case measure => simp [intOf]; omega
  · obtain rfl : m = l.length := by omega
    have HPO := za (show a8j w0 pq a n C P s l id wr (-1) from .inr ⟨rfl, c1e HN.out, HQ.out⟩)
    go_wp2
    go_ret
    exact ⟨_, rfl, HPO.out⟩
theorem a9z (g k : Nat) : (⟨g, 0, none⟩ : Addr).add k = ⟨g, k, none⟩ := by
 unfold Addr.add
 by_cases h : k = 0
 · subst h; simp
 · simp [h]
theorem b3d : kPl.sz = 2 := rfl
theorem pl_arr {w : World} {base n c : Nat} {ok : Nat → Prop} {A : Option Addr} {l : List (Nat × Nat)} (h : kPl.R 77 w base ok (.slice A n c) l) (hne : 0 < l.length) :
 ∃ gr arr, A = some ⟨gr, 0, none⟩ ∧ base ≤ gr ∧ w.heap[gr]? = some (.cells arr 77 (0, 0)) ∧ n = l.length ∧ n ≤ c ∧ ∀ j p, l[j]? = some p → arr[j * 2]? = some (.int .i64 (p.1 : Int)) ∧ arr[j * 2 + 1]? = some (.int .i64 (p.2 : Int)) := by
 have hrd := Kd.R_reads' h
 obtain ⟨hok, inner, ⟨h1, h2⟩, hr⟩ := h
 rcases h2 with ⟨he, h0⟩ | ⟨g, cap, cur, he, hb, hh, hnc, hcm, hcs, ht⟩
 · omega
 · injection he with ha hn hc
   subst ha
   refine ⟨g, cur, rfl, hb, hh, hrd.1, hrd.2.1, fun j p hj => ?_⟩
   have hlt := (List.getElem?_eq_some_iff.1 hj).1
   obtain ⟨ad, cs, e1, hl, hK, hcell⟩ := ReadsRow.get_ hrd.2.2 (0, 0) (j : Int) (by omega) (by have := hrd.1; omega)
   rw [Int.toNat_natCast, show l.getD j (0, 0) = p by rw [List.getD_eq_getElem?_getD, hj]; rfl] at hK
   obtain rfl := b7b hK
   injection e1 with e1
   subst e1
   rw [Int.toNat_natCast] at hcell
   have c0 := hcell 0 _ rfl
   have c1 := hcell 1 _ rfl
   rw [b3d, Nat.add_zero, a9z, a1e hh] at c0
   rw [b3d, a9z, a1e hh] at c1
   exact ⟨c0, c1⟩
def a0x (a : Qa) (id : Int) : Bool × Qa := match (a1a a.loc.length).find? (hitQ a id) with | some p => (true, outQ a id p) | none => (false, a)
def a3m (w0 : World) (pq : Nat) (a : Qa) (n : Nat) (C : List (Nat × Obj)) (P : List Nat) (s : Nat) (id : Int) (e : Ending) (w' : World) : Prop :=
  e = .returned (.bool (a0x a id).1) ∧ QOkP w0 w' pq (a0x a id).2 (n + 1) C P s
theorem b5l {w0 w : World} {pq : Nat} {a : Qa} {n : Nat} {C : List (Nat × Obj)} {P : List Nat} {s : Nat} {id : Int} {g1 gm gi gr mb nm : Nat} {arr : Array Value} {es : Array MapEntry} {ck : Nat} {bx : List (Nat × Nat)} {f : Nat × Nat → Value}
 (X : TkCtx a C pq P s (a1a a.loc.length) id g1 gm gi gr mb nm arr es ck bx f) (h : QOkP w0 w pq a n C P s) (hn : n ≤ 800) (N c : Nat) (hN : N = (a1a a.loc.length).length) (hc : N ≤ c) :
 Calls Tryz.prog 41 #[.slice (some ⟨gr, 0, none⟩) N c, .func (.func 42) #[] #[.pointer (some ⟨gm, 0, none⟩), .pointer (some ⟨gi, 0, none⟩)]] w (a3m w0 pq a n C P s id) := by
 subst hN
 have HX := za X
 have HQ := za h
 clear h X
 go_enter Tryz.func41, Tryz.ntmps41
 go_wp2_with fail
 refine (pl_idx HX.out HQ.out hn c hc).mono ?_
 rintro e w2 ⟨r, rfl, hp⟩
 rcases hp with ⟨j, p, rfl, hf, hq⟩ | ⟨rfl, hf, hq⟩
 · have HPO := za (show a3m w0 pq a n C P s id (.returned (.bool true)) w2 from by unfold a3m a0x; rw [hf]; exact ⟨rfl, hq⟩)
   clear hf hq
   have h0 : decide ((0 : Int) ≤ (j : Int)) = true := decide_eq_true (by omega)
   go_wp2
   go_ret
   first
    | exact HPO.out
    | (have := HPO.out; simpa using this)
 · have HPO := za (show a3m w0 pq a n C P s id (.returned (.bool false)) w2 from by unfold a3m a0x; rw [hf]; exact ⟨rfl, hq.mono (by omega)⟩)
   clear hf hq
   go_wp2
   go_ret
   exact HPO.out
theorem a7q {T : Nat} {p : Nat × Nat} (h : p ∈ a1a T) : (p.1 = 1 → p.2 < T) ∧ (p.1 = 2 → p.2 < T) := by
 unfold a1a at h
 rcases List.mem_append.1 h with h | h
 · rcases List.mem_append.1 h with h | h
   · have := a2q h; omega
   · have := a2q h; omega
 · rw [List.mem_singleton.1 h]; omega
theorem a6m (T : Nat) : (a1a T).length = 2 * T + 1 := by
 unfold a1a
 rw [List.length_append, List.length_append, a3a, a3a]
 simp; omega
theorem b4t {w0 w : World} {pq : Nat} {a : Qa} {n : Nat} {B : List (Nat × Obj)} (h : QOk w0 w pq a n B) (hn : n ≤ 800) (hu : Unlike a.sh ∧ ∀ t, Unlike (a.loc.getD t [])) (id : Int) :
 Calls Tryz.prog 10 #[.pointer (some ⟨pq, 0, none⟩), .int .i64 id] w fun e w' => e = .returned (.bool (a0x a id).1) ∧ QOk w0 w' pq (a0x a id).2 (n + 1) B := by
 obtain ⟨f1, f2, f3⟩ := h.few
 obtain ⟨P, s, hP⟩ : ∃ P s, QOkP w0 w pq a n B P s := by
  obtain ⟨who, q, h1, h2, h3⟩ := h.ex
  exact ⟨_, _, ⟨⟨who, q, h1, h2, h3, rfl, rfl⟩, h.bel⟩⟩
 have HP := za hP
 have HU := za hu
 have HB1 := za (below_alloc (Below.refl w.heap.size w) (.cells #[.int .i64 id] 3))
 have HX1 := za (heap_alloc_new w (.cells #[.int .i64 id] 3))
 clear h hP hu
 go_enter Tryz.func10, Tryz.ntmps10
 go_wp2_with fail
 obtain ⟨w1, hw1⟩ : ∃ w1 : World, w1 = w.alloc (.cells #[.int .i64 id] 3) := ⟨_, rfl⟩
 have hs1 : w1.heap.size = w.heap.size + 1 := by rw [hw1, World.size_alloc]
 rw [← hw1] at HB1 HX1 ⊢
 clear hw1
 refine (b4c (HP.out.below HB1.out)).mono ?_
 rintro e w2 ⟨v, bx, f, rfl, hd, hv⟩
 obtain ⟨v', e1, hR⟩ := hd.h2
 obtain rfl : v' = v := by
  rw [hv] at e1
  injection e1 with e1
  injection e1 with e1
  injection e1 with e1
  injection e1 with e1
  exact e1.symm
 obtain ⟨A, c, rfl⟩ := Kd.R_slice hR
 obtain ⟨gr, arr, rfl, hgr, hrow, hlen, hcap, harr⟩ := pl_arr hR (by rw [a6m]; omega)
 obtain ⟨es, ck, hmb⟩ := hd.hm.at_
 obtain ⟨N, hN⟩ : ∃ N, (a1a a.loc.length).length = N := ⟨_, rfl⟩
 rw [hN] at hcap ⊢
 have hN1 := a6m a.loc.length
 have HN := za hN
 have HN1 := za hN1
 have HD := za hd
 have HRW := za (show w2.heap[gr]? = some (.cells arr 77 (0, 0)) ∧ w1.heap.size ≤ gr from ⟨hrow, hgr⟩)
 have HAR := za harr
 have HMB := za hmb
 have HCAP := za hcap
 have HS1 := za hs1
 clear hd hv e1 hR hgr hrow hlen harr hmb hN hN1 hs1 hcap
 go_wp2_with fail
 obtain ⟨w3, hw3⟩ : ∃ w3 : World, w3 = w2.alloc (.cells #[.map (some (w1.heap.size + 3))] 72) := ⟨_, rfl⟩
 have HX3 := za (show w3.heap[w2.heap.size]? = some (.cells #[.map (some (w1.heap.size + 3))] 72 (0, 0)) by rw [hw3]; exact heap_alloc_new w2 _)
 have HB3 := za (show Below w2.heap.size w2 w3 by rw [hw3]; exact below_alloc (Below.refl _ _) _)
 rw [← hw3]
 clear hw3
 obtain ⟨C, hC⟩ : ∃ C : List (Nat × Obj), C = [(w1.heap.size, bxP pq), (w2.heap.size, .cells #[.map (some (w1.heap.size + 3))] 72), (w.heap.size, bxI id), (gr, .cells arr 77), (w1.heap.size + 3, .map es ck)] ++ bx.map (fun x => (x.1, bxI (x.2 : Int))) := ⟨_, rfl⟩
 have HQ3 := za (show QOkP w0 w3 pq a n (C ++ B) P s from by
  have hb2 : Below w.heap.size w w3 := below_step (below_then HB1.out HB1.out.size HD.out.bel) HB3.out
  refine HP.out.boxed hb2 C (fun x hx => ?_)
  have q1 := HB1.out.size
  have q2 := HD.out.bel.size
  rw [hC] at hx
  rcases List.mem_append.1 hx with hx | hx
  · simp only [List.mem_cons, List.not_mem_nil, or_false] at hx
    rcases hx with rfl | rfl | rfl | rfl | rfl
    · exact ⟨by show w.heap.size ≤ w1.heap.size; omega, blk_below HD.out.h1 HB3.out⟩
    · exact ⟨by show w.heap.size ≤ w2.heap.size; omega, HX3.out⟩
    · exact ⟨Nat.le_refl _, blk_below ((HD.out.bel.block _ (by have := HS1.out; omega)).trans HX1.out) HB3.out⟩
    · exact ⟨by have := HRW.out.2; show w.heap.size ≤ gr; omega, blk_below HRW.out.1 HB3.out⟩
    · exact ⟨by show w.heap.size ≤ w1.heap.size + 3; omega, (HB3.out.block _ HD.out.lt).trans HMB.out⟩
  · obtain ⟨y, hy, rfl⟩ := List.mem_map.1 hx
    have := (HD.out.bxs y hy).2
    exact ⟨by show w.heap.size ≤ y.1; omega, blk_below (HD.out.bxs y hy).1 HB3.out⟩)
 have HCX := za (show TkCtx a (C ++ B) pq P s (a1a a.loc.length) id w1.heap.size w2.heap.size w.heap.size gr (w1.heap.size + 3) _ arr es ck bx f from by
  refine ⟨?_, ?_, ?_, ?_, ?_, HAR.out, fun W hW => HD.out.hm.move (hW.trans HMB.out.symm), fun x hx => ?_, HD.out.told, fun p hp => (a7q hp).1, fun p hp => (a7q hp).2, HU.out, by rw [a6m]; omega⟩
  · rw [hC]; simp
  · rw [hC]; simp
  · rw [hC]; simp
  · rw [hC]; simp
  · rw [hC]; simp
  · rw [hC]
    exact List.mem_append_left _ (List.mem_append_right _ (List.mem_map.2 ⟨x, hx, rfl⟩)))
 clear hC
 refine (b5l HCX.out HQ3.out hn N c HN.out.symm HCAP.out).mono ?_
 unfold a3m
 rintro e w4 ⟨rfl, hq4⟩
 have HQ4 := za hq4.unboxed
 clear hq4
 go_wp2
 go_ret
 exact ⟨rfl, HQ4.out⟩
def a0w (a : Qa) : List E := a0l a ++ a.sh ++ a.loc.flatten
theorem b1y : ∀ (S : List (Option E)) (t : Nat) (o : Option E), t < S.length → ((S.set t o).filterMap id).Perm (o.toList ++ (S.set t none).filterMap id) := by
 intro S
 induction S with
 | nil => intro t o h; simp at h
 | cons x r ih =>
  intro t o h
  cases t with
  | zero => cases o <;> simp
  | succ t =>
   have := ih t o (by simpa using h)
   cases x with
   | none => simpa using this
   | some e =>
    simp only [List.set_cons_succ, List.filterMap_cons, id]
    refine (this.cons e).trans ?_
    exact (List.perm_middle (a := e) (l₁ := o.toList)).symm
theorem b6u (S : List (Option E)) (t : Nat) (o : Option E) (h : S[t]? = some o) : (S.filterMap id).Perm (o.toList ++ (S.set t none).filterMap id) := by
 obtain ⟨hlt, rfl⟩ := List.getElem?_eq_some_iff.1 h
 have := b1y S t S[t] hlt
 rwa [List.set_getElem_self] at this
theorem b1e : ∀ (l : List (List E)) (t : Nat) (x : List E), t < l.length → ((l.set t x).flatten).Perm (x ++ (l.set t []).flatten) := by
 intro l
 induction l with
 | nil => intro t x h; simp at h
 | cons a r ih =>
  intro t x h
  cases t with
  | zero => simp
  | succ t =>
   have := ih t x (by simpa using h)
   simp only [List.set_cons_succ, List.flatten_cons]
   refine (this.append_left a).trans ?_
   rw [← List.append_assoc, ← List.append_assoc]
   exact List.perm_append_comm.append_right _
theorem b1b (l : List (List E)) (t : Nat) (h : t < l.length) : (l.flatten).Perm (l.getD t [] ++ (l.set t []).flatten) := by
 have := b1e l t (l.getD t []) h
 rwa [b2c] at this
theorem b2d {a : Qa} (hl : a.S.length = a.loc.length) (t : Nat) : (a0w (a0j a t)).Perm (a0w a) := by
 unfold a0j
 cases hs : a0k a t with
 | none => exact List.Perm.refl _
 | some e =>
  have hS : a.S[t]? = some (some e) := by
   unfold a0k at hs
   cases hh : a.S[t]? with
   | none => rw [hh] at hs; simp at hs
   | some o => rw [hh] at hs; exact congrArg some hs
  have ht : t < a.loc.length := by rw [← hl]; exact (List.getElem?_eq_some_iff.1 hS).1
  have p1 := b6u a.S t _ hS
  have p2 := b1b a.loc t ht
  show (a0w (a1t a t e)).Perm (a0w a)
  unfold a1t
  have goal0 : (a0w a).Perm ((a.S.set t none).filterMap id ++ a.sh ++ (e :: (a.loc.getD t [] ++ (a.loc.set t []).flatten))) := by
   unfold a0w a0l
   refine ((p1.append_right a.sh).append p2).trans ?_
   show (e :: ((a.S.set t none).filterMap id ++ a.sh ++ (a.loc.getD t [] ++ (a.loc.set t []).flatten))).Perm _
   exact List.perm_middle.symm
  refine List.Perm.trans ?_ goal0.symm
  by_cases hk : (a.loc.getD t []).length + 1 ≤ a.k
  · rw [if_pos hk]
    show ((a.S.set t none).filterMap id ++ a.sh ++ (a.loc.set t (a0b (e :: a.loc.getD t []))).flatten).Perm _
    refine List.Perm.append_left _ ?_
    refine (b1e a.loc t _ ht).trans ?_
    exact (a0n _).append_right _
  · rw [if_neg hk]
    show ((a.S.set t none).filterMap id ++ a0b (a0b (e :: a.loc.getD t []) ++ a.sh) ++ (a.loc.set t []).flatten).Perm _
    have q1 : (a0b (a0b (e :: a.loc.getD t []) ++ a.sh)).Perm (a.sh ++ (e :: a.loc.getD t [])) := (a0n _).trans (((a0n _).append_right _).trans List.perm_append_comm)
    refine ((q1.append_left _).append_right _).trans ?_
    rw [← List.append_assoc, List.append_assoc _ (e :: a.loc.getD t [])]
    exact List.Perm.refl _
theorem c2h {a : Qa} (t : Nat) : a0k (a0j a t) t = none ∨ (a0k a t = none ∧ a0j a t = a) := by
 unfold a0j
 cases hs : a0k a t with
 | none => exact .inr ⟨rfl, rfl⟩
 | some e =>
  left
  show a0k (a1t a t e) t = none
  unfold a1t a0k
  split <;> (rw [List.getElem?_set]; simp; split <;> rfl)
theorem b5j {S : List (Option E)} {t : Nat} (h : (S[t]?).getD none = none) : S.set t none = S := by
 refine List.ext_getElem? fun i => ?_
 rw [List.getElem?_set]
 by_cases hi : t = i
 · subst hi
   rw [if_pos rfl]
   by_cases hl : t < S.length
   · rw [if_pos hl, List.getElem?_eq_getElem hl] at *
     simp only [Option.getD_some] at h
     rw [h]
   · rw [if_neg hl, List.getElem?_eq_none (by omega)]
 · rw [if_neg hi]
theorem c0e {a : Qa} (hl : a.S.length = a.loc.length) (t : Nat) (ht : t < a.loc.length) (e : E) : (a0w (putQ a t e)).Perm (e :: a0w a) := by
 obtain ⟨s1, s2, s3⟩ := a7a a t
 have hn : a0k (a0j a t) t = none := by
  rcases c2h (a := a) t with h | ⟨h, h2⟩
  · exact h
  · rw [h2]; exact h
 have h1 : ((a0j a t).S.set t (some e)).filterMap id |>.Perm (e :: (a0j a t).S.filterMap id) := by
  have := b1y (a0j a t).S t (some e) (by omega)
  rw [b5j hn] at this
  exact this
 show (((a0j a t).S.set t (some e)).filterMap id ++ (a0j a t).sh ++ (a0j a t).loc.flatten).Perm _
 refine ((h1.append_right _).append_right _).trans ?_
 exact (b2d hl t).cons e
theorem b6g (a : Qa) (t : Nat) (e : E) : (putQ a t e).S.length = a.S.length ∧ (putQ a t e).loc.length = a.loc.length ∧ (putQ a t e).k = a.k := by
 obtain ⟨s1, s2, s3⟩ := a7a a t
 exact ⟨by show ((a0j a t).S.set t (some e)).length = _; rw [List.length_set]; exact s1, s2, s3⟩
def a2e (a : Qa) (p : Nat × Nat) : List E := if p.1 = 1 then (a0k a p.2).toList else if p.1 = 2 then a.loc.getD p.2 [] else a.sh
theorem a6s (a : Qa) (id : Int) (p : Nat × Nat) : hitQ a id p = (a2e a p).any (isId id) := by
 unfold hitQ a2e
 by_cases h1 : p.1 = 1
 · rw [if_pos h1, if_pos h1]
   cases a0k a p.2 <;> simp [hasO]
 · rw [if_neg h1, if_neg h1]
   by_cases h2 : p.1 = 2
   · rw [if_pos h2, if_pos h2]
   · rw [if_neg h2, if_neg h2]
theorem b9f (S : List (Option E)) : S.filterMap id = ((List.range S.length).map fun t => ((S[t]?).getD none).toList).flatten := by
 induction S with
 | nil => rfl
 | cons x r ih =>
  rw [List.length_cons, List.range_succ_eq_map, List.map_cons, List.map_map, List.flatten_cons]
  cases x with
  | none => rw [List.filterMap_cons_none rfl, ih]; rfl
  | some e =>
   show e :: r.filterMap id = e :: _
   rw [ih]; rfl
theorem b5t (l : List (List E)) : l.flatten = ((List.range l.length).map fun t => l.getD t []).flatten := by
 congr 1
 refine List.ext_getElem? fun i => ?_
 rw [List.getElem?_map]
 by_cases h : i < l.length
 · rw [List.getElem?_range h, List.getElem?_eq_getElem h]
   simp [List.getD_eq_getElem?_getD, List.getElem?_eq_getElem h]
 · rw [List.getElem?_eq_none (by omega), List.getElem?_eq_none (by rw [List.length_range]; omega)]; rfl
def a4o (a : Qa) (T : Nat) : List E := (a1a T).flatMap (a2e a)
theorem a9f {a : Qa} {T : Nat} (h1 : a.S.length = T) (h2 : a.loc.length = T) : (a4o a T).Perm (a0w a) := by
 unfold a4o a1a a0w
 rw [List.flatMap_append, List.flatMap_append]
 have e1 : (a0q 1 T).flatMap (a2e a) = a0l a := by
  unfold a0q a0l
  rw [b9f a.S, h1, List.flatMap_map]
  rfl
 have e2 : (a0q 2 T).flatMap (a2e a) = a.loc.flatten := by
  unfold a0q
  rw [b5t a.loc, h2, List.flatMap_map]
  rfl
 have e3 : ([(3, 0)] : List (Nat × Nat)).flatMap (a2e a) = a.sh := by simp [a2e]
 rw [e1, e2, e3, List.append_assoc, List.append_assoc]
 exact List.Perm.append_left _ List.perm_append_comm
theorem b5f {a : Qa} {id : Int} {p : Nat × Nat} {T : Nat} (h1 : a.S.length = T) (h2 : a.loc.length = T) (hp : p ∈ a1a T) (hh : hitQ a id p = true) (q : Nat × Nat) (hq : q ∈ a1a T) :
 a2e (outQ a id p) q = if q = p then a0h id (a2e a p) else a2e a q := by
 obtain ⟨pf1, pf2⟩ := a7q hp
 have cls : ∀ r ∈ a1a T, r.1 = 1 ∨ r.1 = 2 ∨ r = (3, 0) := by
  intro r hr
  unfold a1a at hr
  rcases List.mem_append.1 hr with hr | hr
  · rcases List.mem_append.1 hr with hr | hr
    · exact .inl (a2q hr).1
    · exact .inr (.inl (a2q hr).1)
  · exact .inr (.inr (List.mem_singleton.1 hr))
 obtain ⟨p0, p1⟩ := p
 obtain ⟨q0, q1⟩ := q
 rcases cls _ hp with e | e | e
 · have e : p0 = 1 := e
   subst e
   have hs : a0k (outQ a id (1, p1)) q1 = if q1 = p1 then none else a0k a q1 := by
    show ((a.S.set p1 none)[q1]?).getD none = _
    rw [List.getElem?_set]
    by_cases hqp : p1 = q1
    · subst hqp
      rw [if_pos rfl, if_pos rfl, if_pos (by have := pf1 rfl; omega)]; rfl
    · rw [if_neg hqp, if_neg (fun h => hqp h.symm)]; rfl
   have hx : a0h id (a2e a (1, p1)) = [] := by
    have h3 : hasO id (a0k a p1) = true := hh
    show a0h id (a0k a p1).toList = []
    cases hso : a0k a p1 with
    | none => rfl
    | some x =>
     rw [hso] at h3
     show [x].filter (fun e => !isId id e) = []
     rw [List.filter_cons_of_neg (by rw [show isId id x = true from h3]; simp)]; rfl
   rcases cls _ hq with e | e | e
   · have e : q0 = 1 := e
     subst e
     show (a0k (outQ a id (1, p1)) q1).toList = _
     rw [hs]
     by_cases hqp : q1 = p1
     · subst hqp
       rw [if_pos rfl, if_pos rfl, hx]; rfl
     · rw [if_neg hqp, if_neg (fun h => hqp (congrArg Prod.snd h))]; rfl
   · have e : q0 = 2 := e
     subst e
     rw [if_neg (fun h => by have := congrArg Prod.fst h; simp at this)]; rfl
   · rw [e, if_neg (fun h => by have := congrArg Prod.fst h; simp at this)]; rfl
 · have e : p0 = 2 := e
   subst e
   have hs : (outQ a id (2, p1)).loc.getD q1 [] = if q1 = p1 then a0h id (a.loc.getD p1 []) else a.loc.getD q1 [] := by
    show (a.loc.set p1 (a0h id (a.loc.getD p1 []))).getD q1 [] = _
    rw [List.getD_eq_getElem?_getD, List.getElem?_set]
    by_cases hqp : p1 = q1
    · subst hqp
      rw [if_pos rfl, if_pos rfl, if_pos (by have := pf2 rfl; omega)]; rfl
    · rw [if_neg hqp, if_neg (fun h => hqp h.symm), List.getD_eq_getElem?_getD]
   rcases cls _ hq with e | e | e
   · have e : q0 = 1 := e
     subst e
     rw [if_neg (fun h => by have := congrArg Prod.fst h; simp at this)]; rfl
   · have e : q0 = 2 := e
     subst e
     show (outQ a id (2, p1)).loc.getD q1 [] = _
     rw [hs]
     by_cases hqp : q1 = p1
     · subst hqp
       rw [if_pos rfl, if_pos rfl]; rfl
     · rw [if_neg hqp, if_neg (fun h => hqp (congrArg Prod.snd h))]; rfl
   · rw [e, if_neg (fun h => by have := congrArg Prod.fst h; simp at this)]; rfl
 · rw [e]
   rcases cls _ hq with e | e | e
   · have e : q0 = 1 := e
     subst e
     rw [if_neg (fun h => by have := congrArg Prod.fst h; simp at this)]; rfl
   · have e : q0 = 2 := e
     subst e
     rw [if_neg (fun h => by have := congrArg Prod.fst h; simp at this)]; rfl
   · rw [e, if_pos rfl]; rfl
theorem b7j (T : Nat) : (a1a T).Nodup := by
 unfold a1a a0q
 have h1 : ∀ c : Nat, ((List.range T).map fun t => (c, t)).Nodup := fun c => by
  exact List.pairwise_map.2 (List.nodup_range.imp (fun h e => h (congrArg Prod.snd e)))
 rw [List.nodup_append]
 refine ⟨?_, by simp, ?_⟩
 · rw [List.nodup_append]
   refine ⟨h1 1, h1 2, ?_⟩
   intro x hx y hy e
   obtain ⟨s, _, rfl⟩ := List.mem_map.1 hx
   obtain ⟨t, _, rfl⟩ := List.mem_map.1 hy
   have := congrArg Prod.fst e
   simp at this
 · intro x hx y hy e
   rw [List.mem_singleton.1 hy] at e
   rcases List.mem_append.1 hx with hx | hx <;> (obtain ⟨t, _, rfl⟩ := List.mem_map.1 hx; have := congrArg Prod.fst e; simp at this)
theorem b6q {f f' : Nat × Nat → List E} {id : Int} {p : Nat × Nat} : ∀ {l : List (Nat × Nat)}, l.Nodup → p ∈ l → Unlike (l.flatMap f) → (f p).any (isId id) = true → (∀ q ∈ l, f' q = if q = p then a0h id (f p) else f q) → l.flatMap f' = a0h id (l.flatMap f) := by
 intro l hnd hp hu hh hf
 have h0 : ∀ q ∈ l, q ≠ p → a0h id (f q) = f q := by
  intro q hq hne
  refine a3i ?_
  rw [List.any_eq_false]
  intro x hx hid
  obtain ⟨y, hy, hyi⟩ := List.any_eq_true.1 hh
  obtain ⟨l1, l2, rfl⟩ := List.append_of_mem hp
  unfold Unlike at hu
  rw [List.flatMap_append, List.flatMap_cons, List.map_append, List.map_append] at hu
  rw [List.nodup_append] at hu
  obtain ⟨_, hu2, hu3⟩ := hu
  rw [List.nodup_append] at hu2
  have hxy : x.f1 = y.f1 := by rw [isId_true.1 (by simpa using hid), isId_true.1 hyi]
  have hyb : y.f1 ∈ (f p).map fun e => e.f1 := List.mem_map_of_mem hy
  rcases List.mem_append.1 hq with h | h
  · exact hu3 x.f1 (List.mem_map_of_mem (List.mem_flatMap.2 ⟨q, h, hx⟩)) y.f1 (List.mem_append_left _ hyb) hxy
  · rcases List.mem_cons.1 h with h | h
    · exact hne h
    · exact hu2.2.2 y.f1 hyb x.f1 (List.mem_map_of_mem (List.mem_flatMap.2 ⟨q, h, hx⟩)) hxy.symm
 have h2 : ∀ m : List (Nat × Nat), (∀ q ∈ m, f' q = a0h id (f q)) → m.flatMap f' = a0h id (m.flatMap f) := by
  intro m
  induction m with
  | nil => intro _; rfl
  | cons a r ih =>
   intro hm
   rw [List.flatMap_cons, List.flatMap_cons, hm a List.mem_cons_self, ih (fun q hq => hm q (List.mem_cons_of_mem _ hq))]
   unfold a0h
   rw [List.filter_append]
 refine h2 l fun q hq => ?_
 rw [hf q hq]
 by_cases h : q = p
 · rw [if_pos h, h]
 · rw [if_neg h, h0 q hq h]
theorem b8i {a : Qa} (h : Unlike (a0w a)) : Unlike a.sh ∧ ∀ t, Unlike (a.loc.getD t []) := by
 unfold a0w at h
 refine ⟨h.sub ((List.sublist_append_right _ _).trans (List.sublist_append_left _ _)), fun t => ?_⟩
 by_cases ht : t < a.loc.length
 · refine Unlike.sub ((h.sub (List.sublist_append_right _ _)).perm (b1b a.loc t ht)) (List.sublist_append_left _ _)
 · rw [List.getD_eq_getElem?_getD, List.getElem?_eq_none (by omega)]
   exact List.nodup_nil
theorem b6e {a : Qa} (hl : a.S.length = a.loc.length) (hu : Unlike (a0w a)) (id : Int) :
 (a0x a id).1 = (a0w a).any (isId id) ∧ (a0w (a0x a id).2).Perm (a0h id (a0w a)) ∧ (a0x a id).2.S.length = a.S.length ∧ (a0x a id).2.loc.length = a.loc.length ∧ (a0x a id).2.k = a.k := by
 have hpm := a9f (T := a.loc.length) hl rfl
 unfold a0x
 cases hf : (a1a a.loc.length).find? (hitQ a id) with
 | none =>
  have hno : (a0w a).any (isId id) = false := by
   rw [← a3w hpm, List.any_eq_false]
   intro x hx
   obtain ⟨p, hp, hxp⟩ := List.mem_flatMap.1 hx
   have h1 := List.find?_eq_none.1 hf p hp
   rw [a6s] at h1
   intro h2
   exact h1 (List.any_eq_true.2 ⟨x, hxp, h2⟩)
  refine ⟨hno.symm, ?_, rfl, rfl, rfl⟩
  rw [a3i hno]
 | some p =>
  have hp := List.mem_of_find?_eq_some hf
  have hh := List.find?_some hf
  have hlen : (outQ a id p).S.length = a.S.length ∧ (outQ a id p).loc.length = a.loc.length ∧ (outQ a id p).k = a.k := by
   unfold outQ
   split
   · exact ⟨List.length_set, rfl, rfl⟩
   · split
     · exact ⟨rfl, List.length_set, rfl⟩
     · exact ⟨rfl, rfl, rfl⟩
  have hup : Unlike (a4o a a.loc.length) := hu.perm hpm.symm
  have he : a4o (outQ a id p) a.loc.length = a0h id (a4o a a.loc.length) :=
   b6q (b7j _) hp hup (by rw [← a6s]; exact hh) (fun q hq => b5f hl rfl hp hh q hq)
  refine ⟨?_, ?_, hlen⟩
  · show true = _
    symm
    rw [← a3w hpm, List.any_eq_true]
    rw [a6s] at hh
    obtain ⟨x, hx, hxi⟩ := List.any_eq_true.1 hh
    exact ⟨x, List.mem_flatMap.2 ⟨p, hp, hx⟩, hxi⟩
  · have hp2 := a9f (a := outQ a id p) (T := a.loc.length) (by rw [hlen.1]; exact hl) hlen.2.1
    refine hp2.symm.trans ?_
    rw [he]
    exact b0j hpm
theorem c0b {id : Int} {l : List E} (h : Unlike l) : Unlike (a0h id l) := h.sub List.filter_sublist
theorem c1l (m c : Nat) (hc : 0 < c) : (m + 1) % c = if m % c + 1 = c then 0 else m % c + 1 := by
 have h1 := Nat.div_add_mod m c
 have h2 := Nat.mod_lt m hc
 have h3 : (m + 1) % c = (m % c + 1) % c := by
  conv => lhs; rw [← h1, Nat.add_assoc, Nat.mul_add_mod]
 rw [h3]
 by_cases h : m % c + 1 = c
 · rw [if_pos h, h, Nat.mod_self]
 · rw [if_neg h, Nat.mod_eq_of_lt (by omega)]
theorem c2v {a : Qa} {sr : List (Option E)} (hS : a.S = none :: sr) (e : E) : putQ a 0 e = ⟨a.k, some e :: sr, a.loc, a.sh⟩ := by
 have : a0k a 0 = none := by unfold a0k; rw [hS]; rfl
 unfold putQ
 rw [a6i this, hS]
 rfl
theorem b7v {a : Qa} {e : E} {l0 : List E} {rest : List (List E)} {sr : List (Option E)} (hS : a.S = some e :: sr) (hl : a.loc = l0 :: rest) :
 a0j a 0 = if l0.length + 1 ≤ a.k then ⟨a.k, none :: sr, a0b (e :: l0) :: rest, a.sh⟩ else ⟨a.k, none :: sr, [] :: rest, a0b (a0b (e :: l0) ++ a.sh)⟩ := by
 have h1 : a0k a 0 = some e := by unfold a0k; rw [hS]; rfl
 unfold a0j
 rw [h1]
 unfold a1t
 rw [hS, hl]
 rfl
structure Spill (a : Qa) (k m : Nat) (o : Option E) (sr : List (Option E)) (rest : List (List E)) : Prop where
  k_ : a.k = k
  S : a.S = o :: sr
  loc : ∃ l0, a.loc = l0 :: rest ∧ l0.length = m % (k + 1)
  sh : a.sh.length = m - m % (k + 1)
theorem Spill.settle {a : Qa} {k m : Nat} {e : E} {sr : List (Option E)} {rest : List (List E)} (h : Spill a k m (some e) sr rest) : Spill (a0j a 0) k (m + 1) none sr rest := by
 obtain ⟨l0, hl, h0⟩ := h.loc
 have hs := h.sh
 have hk := h.k_
 have hm := c1l m (k + 1) (by omega)
 have hle := Nat.mod_le m (k + 1)
 have hlt := Nat.mod_lt m (show 0 < k + 1 by omega)
 rw [b7v h.S hl]
 by_cases hc : l0.length + 1 ≤ a.k
 · rw [if_pos hc]
   rw [if_neg (by omega)] at hm
   exact ⟨hk, rfl, ⟨_, rfl, by rw [a0i, List.length_cons, hm, h0]⟩, by show a.sh.length = _; omega⟩
 · rw [if_neg hc]
   rw [if_pos (by omega)] at hm
   exact ⟨hk, rfl, ⟨_, rfl, by rw [hm]; rfl⟩, by show (a0b (a0b (e :: l0) ++ a.sh)).length = _; rw [a0i, List.length_append, a0i, List.length_cons]; omega⟩
theorem Spill.put {a : Qa} {k m : Nat} {sr : List (Option E)} {rest : List (List E)} (h : Spill a k m none sr rest) (e : E) : Spill (putQ a 0 e) k m (some e) sr rest := by
 rw [c2v h.S]
 exact ⟨h.k_, rfl, h.loc, h.sh⟩
theorem Spill.new (n k : Nat) : Spill (newA (n + 1) k) k 0 none (List.replicate n none) (List.replicate n []) := ⟨rfl, rfl, ⟨[], rfl, by simp⟩, by simp [newA]⟩
structure NearP (a : Qa) (T k i : Nat) : Prop where
  k_ : a.k = k
  S : a.S.length = T
  loc : a.loc.length = T
  un : Unlike (a0w a)
  ids : ∀ x ∈ a0w a, x.f1 ≤ (i : Int)
  few : ∀ t, (a.loc.getD t []).length ≤ k
theorem a8n (l : List (List E)) (t j : Nat) (x : List E) : (l.set t x).getD j [] = if t = j ∧ t < l.length then x else l.getD j [] := by
 rw [List.getD_eq_getElem?_getD, List.getElem?_set]
 by_cases h : t = j
 · subst h
   rw [if_pos rfl]
   by_cases h2 : t < l.length
   · rw [if_pos h2, if_pos ⟨rfl, h2⟩]; rfl
   · rw [if_neg h2, if_neg (fun hh => h2 hh.2), List.getD_eq_getElem?_getD, List.getElem?_eq_none (by omega)]
 · rw [if_neg h, if_neg (fun hh => h hh.1), List.getD_eq_getElem?_getD]
theorem b7n {a : Qa} {k : Nat} (hk : a.k = k) (h : ∀ t, (a.loc.getD t []).length ≤ k) (t j : Nat) : ((a0j a t).loc.getD j []).length ≤ k := by
 unfold a0j
 split
 · unfold a1t
   split
   · rename_i hc
     show ((a.loc.set t _).getD j []).length ≤ k
     rw [a8n]
     split
     · rw [a0i, List.length_cons]; omega
     · exact h j
   · show ((a.loc.set t []).getD j []).length ≤ k
     rw [a8n]
     split
     · simp
     · exact h j
 · exact h j
theorem b5o (n k : Nat) : a0w (newA n k) = [] := by
 have h0 : a0l (newA n k) = [] := by
  unfold a0l newA
  show (List.replicate n (none : Option E)).filterMap id = []
  induction n with
  | zero => rfl
  | succ z ih => rw [List.replicate_succ, List.filterMap_cons_none rfl, ih]
 have h1 : (newA n k).loc.flatten = [] := by
  show (List.replicate n ([] : List E)).flatten = []
  simp
 unfold a0w
 rw [h0, h1]; rfl
namespace NearP
variable {a : Qa} {T k i : Nat}
theorem new (n k : Nat) : NearP (newA n k) n k 0 := by
 have he := b5o n k
 refine ⟨rfl, List.length_replicate, List.length_replicate, by rw [he]; exact List.nodup_nil, by rw [he]; simp, fun t => ?_⟩
 show ((List.replicate n ([] : List E)).getD t []).length ≤ k
 rw [List.getD_eq_getElem?_getD, List.getElem?_replicate]
 split <;> simp
theorem hl (h : NearP a T k i) : a.S.length = a.loc.length := by rw [h.S, h.loc]
theorem mono (h : NearP a T k i) {j : Nat} (hj : i ≤ j) : NearP a T k j := ⟨h.k_, h.S, h.loc, h.un, fun x hx => by have := h.ids x hx; omega, h.few⟩
theorem settle (h : NearP a T k i) (t : Nat) : NearP (a0j a t) T k i := by
 obtain ⟨s1, s2, s3⟩ := a7a a t
 have hp := b2d h.hl t
 exact ⟨by rw [s3]; exact h.k_, by rw [s1]; exact h.S, by rw [s2]; exact h.loc, h.un.perm hp.symm, fun x hx => h.ids x (hp.mem_iff.1 hx), b7n h.k_ h.few t⟩
theorem put (h : NearP a T k i) {t : Nat} (ht : t < T) {e : E} (he : e.f1 = (i : Int) + 1) : NearP (putQ a t e) T k (i + 1) := by
 obtain ⟨s1, s2, s3⟩ := b6g a t e
 have hp := c0e h.hl t (by rw [h.loc]; exact ht) e
 have hs := h.settle t
 refine ⟨by rw [s3]; exact h.k_, by rw [s1]; exact h.S, by rw [s2]; exact h.loc, Unlike.perm ?_ hp.symm, fun x hx => ?_, hs.few⟩
 · unfold Unlike
   rw [List.map_cons, List.nodup_cons]
   refine ⟨fun hm => ?_, h.un⟩
   obtain ⟨y, hy, e1⟩ := List.mem_map.1 hm
   have := h.ids y hy
   omega
 · rcases List.mem_cons.1 (hp.mem_iff.1 hx) with rfl | h2
   · omega
   · have := h.ids x h2
     omega
theorem take (h : NearP a T k i) (id : Int) : NearP (a0x a id).2 T k i := by
 obtain ⟨_, hp, s1, s2, s3⟩ := b6e h.hl h.un id
 refine ⟨by rw [s3]; exact h.k_, by rw [s1]; exact h.S, by rw [s2]; exact h.loc, (c0b h.un).perm hp.symm, fun x hx => h.ids x (List.mem_filter.1 (hp.mem_iff.1 hx)).1, fun t => ?_⟩
 unfold a0x
 split
 · rename_i p _
   show ((outQ a id p).loc.getD t []).length ≤ k
   unfold outQ
   split
   · exact h.few t
   · split
     · show ((a.loc.set p.2 (a0h id (a.loc.getD p.2 []))).getD t []).length ≤ k
       rw [a8n]
       split
       · exact Nat.le_trans (a7i _ _) (h.few _)
       · exact h.few t
     · exact h.few t
 · exact h.few t
end NearP
theorem QOk.sortedL {w0 w : World} {pq : Nat} {a : Qa} {n : Nat} {B : List (Nat × Obj)} (h : QOk w0 w pq a n B) (t : Nat) : a0d (a.loc.getD t []) := by
 obtain ⟨_, _, _, h2, _⟩ := h.ex
 rw [← h2.loc, List.getD_eq_getElem?_getD, List.getElem?_map]
 cases hh : (_ : List Own1)[t]? with
 | none => exact a6a
 | some m => exact a0y _
end Go.Proofs.YthghkglkifeagaaGreat.V
