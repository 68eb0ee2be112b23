-- a text of this work, without what this claim doesn't use (wip/shake.py)
import Derived.Test.YthghkglkifeagaaGreatTVT3
import Derived.Test.YthghkglkifeagaaGreatTVPentry
import Derived.Test.YthghkglkifeagaaGreatTVQP
import Derived.Test.YthghkglkifeagaaGreatTVL6
import Derived.Deep.DeepCutAuto
import Derived.Deep.CutBlock
import Derived.Test.YthghkglkifeagaaGreatTWWords
import Derived.SizedLaws
import Derived.ChangeSlices
import Derived.WalkKit
import Derived.ProofKit
import Derived.OpenShut
import Derived.ShutString
import Derived.ChangeOld
import Derived.Below
import Derived.Deep.Slices
section
set_option linter.unusedVariables false
set_option linter.unusedSimpArgs false
namespace Go.Proofs.YthghkglkifeagaaGreat.V
open Go.RowKit Go.Proofs.YthghkglkifeagaaGreatW.PrintWords Go.Proofs.YthghkglkifeagaaGreatW.PrintLast Go.Proofs.YthghkglkifeagaaGreatW.PrintMore
def plRow (c T : Nat) : List (Nat × Nat) := (List.range T).map fun t => (c, t)
def placesQ (T : Nat) : List (Nat × Nat) := plRow 1 T ++ plRow 2 T ++ [(3, 0)]
theorem plRow_succ (c m : Nat) : plRow c (m + 1) = plRow c m ++ [(c, m)] := by unfold plRow; rw [List.range_succ, List.map_append]; rfl
theorem plRow_len (c m : Nat) : (plRow c m).length = m := by unfold plRow; rw [List.length_map, List.length_range]
theorem plRow_mem {c m : Nat} {p : Nat × Nat} (h : p ∈ plRow c m) : p.1 = c ∧ p.2 < m := by
 unfold plRow at h
 obtain ⟨t, ht, rfl⟩ := List.mem_map.1 h
 exact ⟨rfl, List.mem_range.1 ht⟩
theorem DpSt.same {w wr : World} {pq : Nat} {P : List Nat} {s : Nat} {l : List (Nat × Nat)} {bx : List (Nat × Nat)} {f : Nat × Nat → Value} (h : DpSt w wr pq P s l bx f) {v : Value} (hv : wr.heap[w.heap.size + 1]? = some (.cells #[v] 71 (0, 0))) :
 DpSt w ((wr.setCell ⟨w.heap.size + 1, 0, none⟩ v).setCell ⟨w.heap.size + 1 + 1, 0, none⟩ (.map (some (w.heap.size + 3)))).drew pq P s l bx f := by
 refine h.below ⟨rfl, rfl, rfl, by simp only [World.setCell, World.drew, Array.size_modify]; exact Nat.le_refl _, fun k hk => ?_⟩
 show ((wr.setCell ⟨w.heap.size + 1, 0, none⟩ v).setCell ⟨w.heap.size + 2, 0, none⟩ (.map (some (w.heap.size + 3)))).heap[k]? = wr.heap[k]?
 by_cases h2 : k = w.heap.size + 2
 · subst h2
   exact (blk_put ((setc_ne (by omega)).trans h.h3) 0 _ rfl).trans h.h3.symm
 · rw [setc_ne h2]
   by_cases h1 : k = w.heap.size + 1
   · subst h1
     exact (blk_put hv 0 _ rfl).trans hv.symm
   · exact setc_ne h1
theorem dp_start (w : World) (pq : Nat) (P : List Nat) (s : Nat) :
 DpSt w ((((w.alloc (.cells #[.pointer (some ⟨pq, 0, none⟩)] 23)).alloc (.cells #[.slice none 0 0] 71)).alloc (.cells #[.map (some (w.heap.size + 1 + 1 + 1))] 72)).alloc (.map #[] 0)) pq P s [] [] (fun _ => .nilFunc) := by
 obtain ⟨w1, e1⟩ : ∃ w1, w1 = w.alloc (.cells #[.pointer (some ⟨pq, 0, none⟩)] 23) := ⟨_, rfl⟩
 obtain ⟨w2, e2⟩ : ∃ w2, w2 = w1.alloc (.cells #[.slice none 0 0] 71) := ⟨_, rfl⟩
 obtain ⟨w3, e3⟩ : ∃ w3, w3 = w2.alloc (.cells #[.map (some (w.heap.size + 1 + 1 + 1))] 72) := ⟨_, rfl⟩
 obtain ⟨w4, e4⟩ : ∃ w4, w4 = w3.alloc (.map #[] 0) := ⟨_, rfl⟩
 rw [← e1, ← e2, ← e3, ← e4]
 have s1 : w1.heap.size = w.heap.size + 1 := by rw [e1, World.size_alloc]
 have s2 : w2.heap.size = w.heap.size + 2 := by rw [e2, World.size_alloc, s1]
 have s3 : w3.heap.size = w.heap.size + 3 := by rw [e3, World.size_alloc, s2]
 have s4 : w4.heap.size = w.heap.size + 4 := by rw [e4, World.size_alloc, s3]
 have h1 : w1.heap[w.heap.size]? = some (.cells #[.pointer (some ⟨pq, 0, none⟩)] 23 (0, 0)) := by rw [e1]; exact heap_alloc_new w _
 have h2 : w2.heap[w.heap.size + 1]? = some (.cells #[.slice none 0 0] 71 (0, 0)) := by rw [e2, ← s1]; exact heap_alloc_new w1 _
 have h3 : w3.heap[w.heap.size + 2]? = some (.cells #[.map (some (w.heap.size + 1 + 1 + 1))] 72 (0, 0)) := by rw [e3, ← s2]; exact heap_alloc_new w2 _
 have b1 : Below w.heap.size w w1 := by rw [e1]; exact below_alloc (Below.refl _ _) _
 have b2 : Below w1.heap.size w1 w2 := by rw [e2]; exact below_alloc (Below.refl _ _) _
 have b3 : Below w2.heap.size w2 w3 := by rw [e3]; exact below_alloc (Below.refl _ _) _
 have b4 : Below w3.heap.size w3 w4 := by rw [e4]; exact below_alloc (Below.refl _ _) _
 have hm : MapF w4 (w.heap.size + 3) 0 (fun _ => .nilFunc) := by rw [e4, ← s3]; exact MapF.made w3
 have h4 : w4.heap[w.heap.size]? = _ := blk_below (blk_below (blk_below h1 b2) b3) b4
 have h5 : w4.heap[w.heap.size + 1]? = _ := blk_below (blk_below h2 b3) b4
 have h6 : w4.heap[w.heap.size + 2]? = _ := blk_below h3 b4
 exact ⟨below_step (below_step (below_step b1 b2) b3) b4, h4, ⟨.slice none 0 0, h5, Kd.R_nil _ _ _ _ _⟩, h6, hm, fun x hx => by simp at hx, fun p hp => by simp at hp⟩
set_option maxRecDepth 100000 in
set_option maxHeartbeats 8000000 in
theorem q_drops {w0 w : World} {pq : Nat} {a : Qa} {n : Nat} {B : List (Nat × Obj)} {P : List Nat} {s : Nat} (h : QOkP w0 w pq a n B P s) :
 Calls Tryz.prog 40 #[.pointer (some ⟨pq, 0, none⟩)] w fun e w' => ∃ v bx f, e = .returned (.tuple #[v, .map (some (w.heap.size + 3))]) ∧ DpSt w w' pq P s (placesQ a.loc.length) bx f ∧ w'.heap[w.heap.size + 1]? = some (.cells #[v] 71 (0, 0)) := by
 obtain ⟨f1, f2, f3⟩ := h.ok.few
 obtain ⟨who, q, h1, h2, h3, h4, h5⟩ := h.ex
 have HA := Aside0.mk (show ∀ wr, Below w.heap.size w wr → QAt (upO who 11 w.heap.size) wr w0.heap.size pq q from fun wr hb => h1.below hb 11 (by have := h1.few; omega))
 obtain ⟨g, cap, hv, hc, _, hr⟩ := h1.lists
 have hq2 : ∀ wr, Below w.heap.size w wr → wr.cell? ⟨pq, 2, none⟩ = some (.slice (some ⟨g, 0, none⟩) a.loc.length cap) := fun wr hb => by
  rw [← h2.len, ← hv]; exact (HA.out wr hb).c2
 have HQ2 := Aside0.mk hq2
 have HPT := Aside0.mk (show ∀ t, t < a.loc.length → ∃ pl, P[t]? = some pl ∧ w.cell? ⟨g, t, none⟩ = some (.pointer (some ⟨pl, 0, none⟩)) from fun t ht => by
  obtain ⟨m, hm⟩ : ∃ m, q.ms[t]? = some m := ⟨_, List.getElem?_eq_getElem (by rw [h2.len]; exact ht)⟩
  exact ⟨m.p, by rw [← h4, List.getElem?_map, hm]; rfl, hr t m hm⟩)
 have HS5 := Aside0.mk h5
 have hcap : a.loc.length ≤ cap := by rw [← h2.len]; exact hc
 have hpl := h1.lt
 clear h h1 h2 h3 h4 h5 hv hc hr hq2
 have hmk : ∀ W : World, (Instr.makeMap 72 none).run Tryz.prog W = .ok (.map (some W.heap.size)) (W.alloc (.map #[] 0)) := fun W => rfl
 have HST := Aside0.mk (dp_start w pq P s)
 go_enter Tryz.func40, Tryz.ntmps40
 go_upto_region 3 with fail
 obtain ⟨wz, hwz⟩ : ∃ wz : World, wz = (((w.alloc (.cells #[.pointer (some ⟨pq, 0, none⟩)] 23)).alloc (.cells #[.slice none 0 0] 71)).alloc (.cells #[.map (some (w.heap.size + 1 + 1 + 1))] 72)).alloc (.map #[] 0) := ⟨_, rfl⟩
 rw [← hwz] at HST ⊢
 clear hwz hmk
 have hp := HQ2.out _ HST.out.bel
 have hg1 : wz.cell? ⟨w.heap.size, 0, none⟩ = some (.pointer (some ⟨pq, 0, none⟩)) := (blk_cell HST.out.h1 0).trans rfl
 go_wp2
 go_loopw [15] (fun i wr => ∃ m : Nat, m ≤ a.loc.length ∧ i = .int .i64 m ∧ Aside0 (∃ bx f, DpSt w wr pq P s (plRow 1 m) bx f)) (fun i _ => a.loc.length - (intOf i).toNat)
 case atStart => exact ⟨0, Nat.zero_le _, rfl, ⟨[], _, HST.out⟩⟩
 case round =>
  clear hp hg1 HST
  obtain ⟨m, hm, rfl, HD⟩ := hrel
  obtain ⟨bx, f, hd⟩ := HD.out
  by_cases hlt : m < a.loc.length
  · have HB := Aside0.mk (hd.box m)
    have HX := Aside0.mk (heap_alloc_new wr (.cells #[.int .i64 (m : Int)] 3))
    have hx0 : (wr.alloc (.cells #[.int .i64 (m : Int)] 3)).cell? ⟨wr.heap.size, 0, none⟩ = some (.int .i64 m) := (blk_cell HX.out 0).trans rfl
    clear hd
    go_wp2_with fail
    refine (dp_put HB.out (1, m) (.func (.func 79) #[] #[.pointer (some ⟨w.heap.size, 0, none⟩), .pointer (some ⟨wr.heap.size, 0, none⟩)]) (by omega) (by show m < 1000; omega) (by rw [plRow_len]; omega) (fun q hq e => by have := plRow_mem hq; rw [e] at this; omega) (.inl ⟨rfl, wr.heap.size, rfl, List.mem_cons_self⟩) ⟨_, _, _, rfl⟩).mono ?_
    rintro e w2 ⟨rfl, hd2⟩
    rw [← plRow_succ] at hd2
    have HD2 : Aside0 (∃ bx f, DpSt w w2 pq P s (plRow 1 (m + 1)) bx f) := ⟨_, _, hd2⟩
    clear hd2
    go_wp2
    go_roundw
    case rel => exact ⟨m + 1, by omega, by go_num, HD2⟩
    case measure => simp [intOf]; omega
  · obtain rfl : m = a.loc.length := by omega
    have hp := HQ2.out _ hd.bel
    have hg1 : wr.cell? ⟨w.heap.size, 0, none⟩ = some (.pointer (some ⟨pq, 0, none⟩)) := (blk_cell hd.h1 0).trans rfl
    have HD0 := Aside0.mk (show ∃ bx f, DpSt w wr pq P s (plRow 1 a.loc.length ++ plRow 2 0) bx f from ⟨bx, f, by rw [show plRow 2 0 = [] from rfl, List.append_nil]; exact hd⟩)
    clear hd hlt hm HD
    go_wp2
    rename World => wo
    go_loopw [29] (fun i wr => ∃ m : Nat, m ≤ a.loc.length ∧ i = .int .i64 m ∧ Aside0 (∃ bx f, DpSt w wr pq P s (plRow 1 a.loc.length ++ plRow 2 m) bx f)) (fun i _ => a.loc.length - (intOf i).toNat)
    case atStart => exact ⟨0, Nat.zero_le _, rfl, HD0⟩
    case round =>
     clear hp hg1 HD0
     obtain ⟨m, hm, rfl, HD⟩ := hrel
     obtain ⟨bx, f, hd⟩ := HD.out
     by_cases hlt : m < a.loc.length
     · obtain ⟨pl, hpl, hcell⟩ := HPT.out m hlt
       have x1 := pw_cell_below hd.bel hcell
       have HD1 := Aside0.mk hd
       have HPL := Aside0.mk hpl
       clear hd hcell hpl
       go_wp2_with fail
       refine (dp_put HD1.out (2, m) (.func (.func 80) #[.pointer (some ⟨pl, 0, none⟩)] #[]) (by omega) (by show m < 1000; omega) (by rw [List.length_append, plRow_len, plRow_len]; omega) (fun q hq e => by
        rw [e] at hq
        rcases List.mem_append.1 hq with hq | hq
        · have := plRow_mem hq; omega
        · have := plRow_mem hq; omega) (.inr (.inl ⟨rfl, pl, HPL.out, rfl⟩)) ⟨_, _, _, rfl⟩).mono ?_
       rintro e w2 ⟨rfl, hd2⟩
       rw [List.append_assoc, ← plRow_succ] at hd2
       have HD2 : Aside0 (∃ bx f, DpSt w w2 pq P s (plRow 1 a.loc.length ++ plRow 2 (m + 1)) bx f) := ⟨_, _, hd2⟩
       clear hd2
       go_wp2
       go_roundw
       case rel => exact ⟨m + 1, by omega, by go_num, HD2⟩
       case measure => simp [intOf]; omega
     · obtain rfl : m = a.loc.length := by omega
       have hg1 : wr.cell? ⟨w.heap.size, 0, none⟩ = some (.pointer (some ⟨pq, 0, none⟩)) := (blk_cell hd.h1 0).trans rfl
       have hq3 := (HA.out _ hd.bel).c3
       rw [HS5.out] at hq3
       have HD1 := Aside0.mk hd
       clear hd hlt hm HD
       go_wp2_with fail
       refine (dp_put HD1.out (3, 0) (.func (.func 81) #[.pointer (some ⟨s, 0, none⟩)] #[]) (by omega) (by omega) (by rw [List.length_append, plRow_len, plRow_len]; omega) (fun q hq e => by
        rw [e] at hq
        rcases List.mem_append.1 hq with hq | hq
        · have := plRow_mem hq; omega
        · have := plRow_mem hq; omega) (.inr (.inr ⟨rfl, rfl, rfl⟩)) ⟨_, _, _, rfl⟩).mono ?_
       rintro e w2 ⟨rfl, hd2⟩
       have hd3 : DpSt w w2 pq P s (placesQ a.loc.length) bx _ := hd2
       obtain ⟨v, hv2, hR2⟩ := hd2.h2
       obtain ⟨A2, c2, hvv⟩ := Kd.R_slice hR2
       obtain ⟨N, hN⟩ : ∃ N, (plRow 1 a.loc.length ++ plRow 2 a.loc.length ++ [(3, 0)]).length = N := ⟨_, rfl⟩
       rw [hN] at hvv
       have HSM := Aside0.mk (hd3.same hv2)
       have HV2 := Aside0.mk hv2
       have y2 : w2.cell? ⟨w.heap.size + 1, 0, none⟩ = some v := (blk_cell hv2 0).trans rfl
       have y3 : w2.cell? ⟨w.heap.size + 1 + 1, 0, none⟩ = some (.map (some (w.heap.size + 3))) := (blk_cell hd2.h3 0).trans rfl
       have z2 : w2.frozen? ⟨w.heap.size + 1, 0, none⟩ = false := frozen_row hv2 0
       have z3 : w2.frozen? ⟨w.heap.size + 1 + 1, 0, none⟩ = false := frozen_row hd2.h3 0
       rw [hvv] at y2
       have K2 : ((w2.setCell ⟨w.heap.size + 1, 0, none⟩ v).setCell ⟨w.heap.size + 1 + 1, 0, none⟩ (.map (some (w.heap.size + 3)))).drew.heap[w.heap.size + 1]? = some (.cells #[v] 71 (0, 0)) := (setc_ne (W := w2.setCell ⟨w.heap.size + 1, 0, none⟩ v) (by omega)).trans (blk_put hv2 0 v rfl)
       have k2 := (blk_cell K2 0).trans (show _ = some v from rfl)
       have k3 : ((w2.setCell ⟨w.heap.size + 1, 0, none⟩ v).setCell ⟨w.heap.size + 1 + 1, 0, none⟩ (.map (some (w.heap.size + 3)))).drew.cell? ⟨w.heap.size + 1 + 1, 0, none⟩ = some (.map (some (w.heap.size + 3))) := (blk_cell HSM.out.h3 0).trans rfl
       have HK := Aside0.mk K2
       subst hvv
       clear hd2 hd3 hR2 hv2 K2 hN
       go_wp2_with fail
       go_region
       all_goals (go_wp2_with fail)
       all_goals exact bodyPost_ret (v := .tuple #[.slice A2 N c2, .map (some (w.heap.size + 3))]) (by simp [results, Tryz.results40, go_sem, k2, k3]) rfl ⟨_, _, _, rfl, HSM.out, HK.out⟩
end Go.Proofs.YthghkglkifeagaaGreat.V
end
section
set_option linter.unusedVariables false
set_option linter.unusedSimpArgs false
namespace Go.Proofs.YthghkglkifeagaaGreat.V
open Go.RowKit Go.Proofs.YthghkglkifeagaaGreatW.PrintWords Go.Proofs.YthghkglkifeagaaGreatW.PrintLast Go.Proofs.YthghkglkifeagaaGreatW.PrintMore
theorem QOkP.boxed {w0 w w1 : World} {pq : Nat} {a : Qa} {n : Nat} {B : List (Nat × Obj)} {P : List Nat} {s : Nat} (h : QOkP w0 w pq a n B P s) (hb : Below w.heap.size w w1) (C : List (Nat × Obj)) (hC : ∀ x ∈ C, w.heap.size ≤ x.1 ∧ w1.heap[x.1]? = some x.2) : QOkP w0 w1 pq a n (C ++ B) P s := by
 have hlo := h.ok.lo
 obtain ⟨who, q, h1, h2, h3, h4⟩ := h.ex
 refine ⟨⟨_, q, h1.below hb 11 (by have := h1.few; omega), h2, fun x hx => ?_, h4⟩, below_step h.bel hb⟩
 rcases List.mem_append.1 hx with hx | hx
 · exact ⟨(hC x hx).2, upO_ge (hC x hx).1, Nat.le_trans hlo (hC x hx).1⟩
 · exact QOk.boxes h3 (Keep.below hb 11) x hx
theorem QOkP.unboxed {w0 w : World} {pq : Nat} {a : Qa} {n : Nat} {C B : List (Nat × Obj)} {P : List Nat} {s : Nat} (h : QOkP w0 w pq a n (C ++ B) P s) : QOk w0 w pq a n B := by
 obtain ⟨who, q, h1, h2, h3, h4⟩ := h.ex
 exact ⟨⟨who, q, h1, h2, fun x hx => h3 x (List.mem_append_right _ hx)⟩, h.bel⟩
structure TkCtx (a : Qa) (C : List (Nat × Obj)) (pq : Nat) (P : List Nat) (s : Nat) (l : List (Nat × Nat)) (id : Int) (g1 gm gi gr mb nm : Nat) (arr : Array Value) (es : Array MapEntry) (ck : Nat) (bx : List (Nat × Nat)) (f : Nat × Nat → Value) : Prop where
  hg1 : (g1, bxP pq) ∈ C
  hgm : (gm, .cells #[.map (some mb)] 72 (0, 0)) ∈ C
  hgi : (gi, bxI id) ∈ C
  hgr : (gr, .cells arr 77 (0, 0)) ∈ C
  hmb : (mb, .map es ck) ∈ C
  row : ∀ j p, l[j]? = some p → arr[j * 2]? = some (.int .i64 (p.1 : Int)) ∧ arr[j * 2 + 1]? = some (.int .i64 (p.2 : Int))
  map : ∀ W : World, W.heap[mb]? = some (.map es ck) → MapF W mb nm f
  bxs : ∀ x ∈ bx, (x.1, bxI (x.2 : Int)) ∈ C
  told : ∀ p ∈ l, p.1 < 1000 ∧ p.2 < 1000 ∧ ToldF g1 P s bx p (f p)
  few : ∀ p ∈ l, p.1 = 1 → p.2 < a.loc.length
  few2 : ∀ p ∈ l, p.1 = 2 → p.2 < a.loc.length
  un : Unlike a.sh ∧ ∀ t, Unlike (a.loc.getD t [])
  len : l.length ≤ 1000
set_option maxRecDepth 100000 in
set_option maxHeartbeats 8000000 in
theorem tk_one {w0 w : World} {pq : Nat} {a : Qa} {n : Nat} {C : List (Nat × Obj)} {P : List Nat} {s : Nat} {l : List (Nat × Nat)} {id : Int} {g1 gm gi gr mb nm : Nat} {arr : Array Value} {es : Array MapEntry} {ck : Nat} {bx : List (Nat × Nat)} {f : Nat × Nat → Value}
 (X : TkCtx a C pq P s l id g1 gm gi gr mb nm arr es ck bx f) (h : QOkP w0 w pq a n C P s) (hn : n ≤ 800) (p : Nat × Nat) (hp : p ∈ l) :
 Calls Tryz.prog 42 #[.agg #[.int .i64 (p.1 : Int), .int .i64 (p.2 : Int)], .pointer (some ⟨gm, 0, none⟩), .pointer (some ⟨gi, 0, none⟩)] w (TkPost w0 pq a n C P s id p) := by
 obtain ⟨p0, p1⟩ := p
 obtain ⟨hp0, hp1, ht⟩ := X.told _ hp
 have hw := below_alloc (Below.refl w.heap.size w) (.cells #[.int .i64 (p0 : Int), .int .i64 (p1 : Int)] 77)
 have HX0 := Aside0.mk (heap_alloc_new w (.cells #[.int .i64 (p0 : Int), .int .i64 (p1 : Int)] 77))
 obtain ⟨wb, hwb⟩ : ∃ wb : World, wb = w.alloc (.cells #[.int .i64 (p0 : Int), .int .i64 (p1 : Int)] 77) := ⟨_, rfl⟩
 rw [← hwb] at hw HX0
 have hq := h.below hw
 have HQ := Aside0.mk (show QOkP w0 wb.drew pq a n C P s from hq.below (below_drew (Below.refl _ _)))
 have b1 : wb.cell? ⟨gm, 0, none⟩ = some (.map (some mb)) := (blk_cell (hq.at_ X.hgm) 0).trans rfl
 have b2 : wb.cell? ⟨gi, 0, none⟩ = some (.int .i64 id) := (blk_cell (show wb.heap[gi]? = some (.cells #[.int .i64 id] 3 (0, 0)) from hq.at_ X.hgi) 0).trans rfl
 have b3 : wb.cell? ⟨w.heap.size, 0, none⟩ = some (.int .i64 (p0 : Int)) := (blk_cell HX0.out 0).trans rfl
 have b4 : wb.cell? ⟨w.heap.size, 1, none⟩ = some (.int .i64 (p1 : Int)) := (blk_cell HX0.out 1).trans rfl
 have hlook := (X.map wb.drew (HQ.out.at_ X.hmb)).look (p0, p1) hp0 hp1
 unfold plV at hlook
 rcases ht with ⟨d1, gt, hf, hgt⟩ | ⟨d1, pl, hpl, hf⟩ | ⟨d1, d2, hf⟩
 · have e1 : p0 = 1 := d1
   rw [hf] at hlook
   have HC := Aside0.mk (show Calls Tryz.prog 79 #[.int .i64 id, .pointer (some ⟨g1, 0, none⟩), .pointer (some ⟨gt, 0, none⟩)] wb.drew (TkPost w0 pq a n C P s id (p0, p1)) from by
    rw [e1]
    exact tk_slot HQ.out p1 (X.few _ hp e1) id g1 gt X.hg1 (X.bxs _ hgt))
   clear h hq hf X e1 d1 hp hgt HQ
   go_enter Tryz.func42, Tryz.ntmps42
   go_upto_region 1 with fail
   rw [← hwb]
   clear hwb
   go_cut [4] (fun s4 wx => s4 = .bool (hitQ a id (p0, p1)) ∧ Aside0 (if hitQ a id (p0, p1) = true then QOkP w0 wx pq (outQ a id (p0, p1)) (n + 1) C P s else QOkP w0 wx pq a n C P s))
   case first =>
    go_region_with (first
     | (go_at_call 79; go_loud (refine HC.out.mono ?_; unfold TkPost; rintro x_ w6 ⟨rfl, hq6⟩; have HQ6 := Aside0.mk hq6; clear hq6)))
    all_goals (go_wp2_with fail)
    all_goals go_meet
    all_goals exact ⟨rfl, HQ6⟩
   case rest =>
    obtain ⟨rfl, HQ6⟩ := hcut
    go_wp2_with fail
    go_ret
    exact ⟨rfl, HQ6.out⟩
 · have e1 : p0 = 2 := d1
   rw [hf] at hlook
   have HC := Aside0.mk (show Calls Tryz.prog 80 #[.pointer (some ⟨pl, 0, none⟩), .int .i64 id] wb.drew (TkPost w0 pq a n C P s id (p0, p1)) from by
    rw [e1]
    exact tk_local HQ.out hn p1 (X.few2 _ hp e1) (X.un.2 p1) id pl hpl)
   clear h hq hf X e1 d1 hp hpl HQ
   go_enter Tryz.func42, Tryz.ntmps42
   go_upto_region 1 with fail
   rw [← hwb]
   clear hwb
   go_cut [4] (fun s4 wx => s4 = .bool (hitQ a id (p0, p1)) ∧ Aside0 (if hitQ a id (p0, p1) = true then QOkP w0 wx pq (outQ a id (p0, p1)) (n + 1) C P s else QOkP w0 wx pq a n C P s))
   case first =>
    go_region_with (first
     | (go_at_call 80; go_loud (refine HC.out.mono ?_; unfold TkPost; rintro x_ w6 ⟨rfl, hq6⟩; have HQ6 := Aside0.mk hq6; clear hq6)))
    all_goals (go_wp2_with fail)
    all_goals go_meet
    all_goals exact ⟨rfl, HQ6⟩
   case rest =>
    obtain ⟨rfl, HQ6⟩ := hcut
    go_wp2_with fail
    go_ret
    exact ⟨rfl, HQ6.out⟩
 · have e1 : p0 = 3 := d1
   have e2 : p1 = 0 := d2
   rw [hf] at hlook
   have HC := Aside0.mk (show Calls Tryz.prog 81 #[.pointer (some ⟨s, 0, none⟩), .int .i64 id] wb.drew (TkPost w0 pq a n C P s id (p0, p1)) from by
    rw [e1, e2]
    exact tk_shared HQ.out hn X.un.1 id)
   clear h hq hf X e1 e2 d1 d2 hp HQ
   go_enter Tryz.func42, Tryz.ntmps42
   go_upto_region 1 with fail
   rw [← hwb]
   clear hwb
   go_cut [4] (fun s4 wx => s4 = .bool (hitQ a id (p0, p1)) ∧ Aside0 (if hitQ a id (p0, p1) = true then QOkP w0 wx pq (outQ a id (p0, p1)) (n + 1) C P s else QOkP w0 wx pq a n C P s))
   case first =>
    go_region_with (first
     | (go_at_call 81; go_loud (refine HC.out.mono ?_; unfold TkPost; rintro x_ w6 ⟨rfl, hq6⟩; have HQ6 := Aside0.mk hq6; clear hq6)))
    all_goals (go_wp2_with fail)
    all_goals go_meet
    all_goals exact ⟨rfl, HQ6⟩
   case rest =>
    obtain ⟨rfl, HQ6⟩ := hcut
    go_wp2_with fail
    go_ret
    exact ⟨rfl, HQ6.out⟩
def IdxPost (w0 : World) (pq : Nat) (a : Qa) (n : Nat) (C : List (Nat × Obj)) (P : List Nat) (s : Nat) (l : List (Nat × Nat)) (id : Int) (w' : World) (r : Int) : Prop :=
  (∃ (j : Nat) (p : Nat × Nat), r = (j : Int) ∧ l.find? (hitQ a id) = some p ∧ QOkP w0 w' pq (outQ a id p) (n + 1) C P s) ∨ (r = -1 ∧ l.find? (hitQ a id) = none ∧ QOkP w0 w' pq a n C P s)
theorem find_at {α : Type} {p : α → Bool} : ∀ {l : List α} {m : Nat} {x : α}, l[m]? = some x → p x = true → (∀ j y, j < m → l[j]? = some y → p y = false) → l.find? p = some x := by
 intro l
 induction l with
 | nil => intro m x h; simp at h
 | cons b r ih =>
  intro m x hx he hb
  cases m with
  | zero =>
   simp only [List.getElem?_cons_zero, Option.some.injEq] at hx
   subst hx
   rw [List.find?_cons_of_pos he]
  | succ m =>
   rw [List.find?_cons_of_neg (by rw [hb 0 b (by omega) (by simp)]; simp)]
   exact ih (m := m) (by simpa using hx) he (fun j y hj hy => hb (j + 1) y (by omega) (by simpa using hy))
theorem find_no {α : Type} {p : α → Bool} {l : List α} (hb : ∀ j y, j < l.length → l[j]? = some y → p y = false) : l.find? p = none := by
 rw [List.find?_eq_none]
 intro x hx
 obtain ⟨j, hj, rfl⟩ := List.getElem_of_mem hx
 rw [hb j _ hj (List.getElem?_eq_getElem hj)]
 simp
set_option maxRecDepth 100000 in
set_option maxHeartbeats 4000000 in
theorem pl_idx {w0 w : World} {pq : Nat} {a : Qa} {n : Nat} {C : List (Nat × Obj)} {P : List Nat} {s : Nat} {l : List (Nat × Nat)} {id : Int} {g1 gm gi gr mb nm : Nat} {arr : Array Value} {es : Array MapEntry} {ck : Nat} {bx : List (Nat × Nat)} {f : Nat × Nat → Value}
 (X : TkCtx a C pq P s l id g1 gm gi gr mb nm arr es ck bx f) (h : QOkP w0 w pq a n C P s) (hn : n ≤ 800) (c : Nat) (hc : l.length ≤ c) :
 Calls Tryz.prog 82 #[.slice (some ⟨gr, 0, none⟩) l.length c, .func (.func 42) #[] #[.pointer (some ⟨gm, 0, none⟩), .pointer (some ⟨gi, 0, none⟩)]] w fun e w' => ∃ r, e = .returned (.int .i64 r) ∧ IdxPost w0 pq a n C P s l id w' r := by
 have HX := Aside0.mk X
 have HQ := Aside0.mk h
 have hlen := X.len
 clear h X
 go_enter Tryz.func82, Tryz.ntmps82
 go_wp2
 go_loopw [8] (fun i wr => ∃ m : Nat, m ≤ l.length ∧ i = .int .i64 m ∧ Aside0 (∀ j b, j < m → l[j]? = some b → hitQ a id b = false) ∧ Aside0 (QOkP w0 wr pq a n C P s)) (fun i _ => l.length - (intOf i).toNat)
 case atStart => exact ⟨0, Nat.zero_le _, rfl, ⟨fun j b h => by omega⟩, HQ⟩
 case round =>
  clear HQ
  obtain ⟨m, hm, rfl, HN, HQ⟩ := hrel
  by_cases hlt : m < l.length
  · obtain ⟨p, hp⟩ : ∃ p, l[m]? = some p := ⟨_, List.getElem?_eq_getElem hlt⟩
    have hrw := HQ.out.at_ HX.out.hgr
    have hcl := HX.out.row m p hp
    have y0 : wr.cell? ⟨gr, m * 2, none⟩ = some (.int .i64 (p.1 : Int)) := (cell_row hrw _).trans hcl.1
    have y1 : wr.cell? ⟨gr, m * 2 + 1, none⟩ = some (.int .i64 (p.2 : Int)) := (cell_row hrw _).trans hcl.2
    have HP := Aside0.mk hp
    have HC := Aside0.mk (tk_one HX.out HQ.out hn p (List.mem_of_getElem? hp))
    clear hp hrw hcl
    go_wp2_with fail
    refine HC.out.mono ?_
    unfold TkPost
    rintro e w2 ⟨rfl, hq2⟩
    cases hh : hitQ a id p with
    | true =>
     rw [hh, if_pos rfl] at hq2
     have HPO := Aside0.mk (show IdxPost w0 pq a n C P s l id w2 (m : Int) from .inl ⟨m, p, rfl, find_at HP.out hh HN.out, hq2⟩)
     clear hh hq2
     go_wp2
     go_ret
     exact ⟨_, rfl, HPO.out⟩
    | false =>
     rw [hh, if_neg (by simp)] at hq2
     have HQ2 := Aside0.mk hq2
     have HN2 : Aside0 (∀ j b, j < m + 1 → l[j]? = some b → hitQ a id b = false) := ⟨fun j b hj hb => by
      by_cases h1 : j = m
      · subst h1
        rw [HP.out] at hb
        injection hb with hb
        rw [← hb]; exact hh
      · exact HN.out j b (by omega) hb⟩
     clear hh hq2
     go_wp2
     go_roundw
     case rel => exact ⟨m + 1, by omega, by go_num, HN2, HQ2⟩
     case measure => simp [intOf]; omega
  · obtain rfl : m = l.length := by omega
    have HPO := Aside0.mk (show IdxPost w0 pq a n C P s l id wr (-1) from .inr ⟨rfl, find_no HN.out, HQ.out⟩)
    go_wp2
    go_ret
    exact ⟨_, rfl, HPO.out⟩
end Go.Proofs.YthghkglkifeagaaGreat.V
end
section
set_option linter.unusedVariables false
set_option linter.unusedSimpArgs false
namespace Go.Proofs.YthghkglkifeagaaGreat.V
open Go.RowKit Go.Proofs.YthghkglkifeagaaGreatW.PrintWords Go.Proofs.YthghkglkifeagaaGreatW.PrintLast Go.Proofs.YthghkglkifeagaaGreatW.PrintMore
theorem add_zero0 (g k : Nat) : (⟨g, 0, none⟩ : Addr).add k = ⟨g, k, none⟩ := by
 unfold Addr.add
 by_cases h : k = 0
 · subst h; simp
 · simp [h]
theorem kPl_sz : kPl.sz = 2 := rfl
theorem pl_arr {w : World} {base n c : Nat} {ok : Nat → Prop} {A : Option Addr} {l : List (Nat × Nat)} (h : kPl.R 77 w base ok (.slice A n c) l) (hne : 0 < l.length) :
 ∃ gr arr, A = some ⟨gr, 0, none⟩ ∧ base ≤ gr ∧ w.heap[gr]? = some (.cells arr 77 (0, 0)) ∧ n = l.length ∧ n ≤ c ∧ ∀ j p, l[j]? = some p → arr[j * 2]? = some (.int .i64 (p.1 : Int)) ∧ arr[j * 2 + 1]? = some (.int .i64 (p.2 : Int)) := by
 have hrd := Kd.R_reads' h
 obtain ⟨hok, inner, ⟨h1, h2⟩, hr⟩ := h
 rcases h2 with ⟨he, h0⟩ | ⟨g, cap, cur, he, hb, hh, hnc, hcm, hcs, ht⟩
 · omega
 · injection he with ha hn hc
   subst ha
   refine ⟨g, cur, rfl, hb, hh, hrd.1, hrd.2.1, fun j p hj => ?_⟩
   have hlt := (List.getElem?_eq_some_iff.1 hj).1
   obtain ⟨ad, cs, e1, hl, hK, hcell⟩ := ReadsRow.get_ hrd.2.2 (0, 0) (j : Int) (by omega) (by have := hrd.1; omega)
   rw [Int.toNat_natCast, show l.getD j (0, 0) = p by rw [List.getD_eq_getElem?_getD, hj]; rfl] at hK
   obtain rfl := kPl_open hK
   injection e1 with e1
   subst e1
   rw [Int.toNat_natCast] at hcell
   have c0 := hcell 0 _ rfl
   have c1 := hcell 1 _ rfl
   rw [kPl_sz, Nat.add_zero, add_zero0, cell_row hh] at c0
   rw [kPl_sz, add_zero0, cell_row hh] at c1
   exact ⟨c0, c1⟩
def takeQ (a : Qa) (id : Int) : Bool × Qa := match (placesQ a.loc.length).find? (hitQ a id) with | some p => (true, outQ a id p) | none => (false, a)
def TakePost (w0 : World) (pq : Nat) (a : Qa) (n : Nat) (C : List (Nat × Obj)) (P : List Nat) (s : Nat) (id : Int) (e : Ending) (w' : World) : Prop :=
  e = .returned (.bool (takeQ a id).1) ∧ QOkP w0 w' pq (takeQ a id).2 (n + 1) C P s
set_option maxRecDepth 100000 in
set_option maxHeartbeats 1000000 in
theorem pl_cont {w0 w : World} {pq : Nat} {a : Qa} {n : Nat} {C : List (Nat × Obj)} {P : List Nat} {s : Nat} {id : Int} {g1 gm gi gr mb nm : Nat} {arr : Array Value} {es : Array MapEntry} {ck : Nat} {bx : List (Nat × Nat)} {f : Nat × Nat → Value}
 (X : TkCtx a C pq P s (placesQ a.loc.length) id g1 gm gi gr mb nm arr es ck bx f) (h : QOkP w0 w pq a n C P s) (hn : n ≤ 800) (N c : Nat) (hN : N = (placesQ a.loc.length).length) (hc : N ≤ c) :
 Calls Tryz.prog 41 #[.slice (some ⟨gr, 0, none⟩) N c, .func (.func 42) #[] #[.pointer (some ⟨gm, 0, none⟩), .pointer (some ⟨gi, 0, none⟩)]] w (TakePost w0 pq a n C P s id) := by
 subst hN
 have HX := Aside0.mk X
 have HQ := Aside0.mk h
 clear h X
 go_enter Tryz.func41, Tryz.ntmps41
 go_wp2_with fail
 refine (pl_idx HX.out HQ.out hn c hc).mono ?_
 rintro e w2 ⟨r, rfl, hp⟩
 rcases hp with ⟨j, p, rfl, hf, hq⟩ | ⟨rfl, hf, hq⟩
 · have HPO := Aside0.mk (show TakePost w0 pq a n C P s id (.returned (.bool true)) w2 from by unfold TakePost takeQ; rw [hf]; exact ⟨rfl, hq⟩)
   clear hf hq
   have h0 : decide ((0 : Int) ≤ (j : Int)) = true := decide_eq_true (by omega)
   go_wp2
   go_ret
   first
    | exact HPO.out
    | (have := HPO.out; simpa using this)
 · have HPO := Aside0.mk (show TakePost w0 pq a n C P s id (.returned (.bool false)) w2 from by unfold TakePost takeQ; rw [hf]; exact ⟨rfl, hq.mono (by omega)⟩)
   clear hf hq
   go_wp2
   go_ret
   exact HPO.out
theorem place_few {T : Nat} {p : Nat × Nat} (h : p ∈ placesQ T) : (p.1 = 1 → p.2 < T) ∧ (p.1 = 2 → p.2 < T) := by
 unfold placesQ at h
 rcases List.mem_append.1 h with h | h
 · rcases List.mem_append.1 h with h | h
   · have := plRow_mem h; omega
   · have := plRow_mem h; omega
 · rw [List.mem_singleton.1 h]; omega
theorem places_len (T : Nat) : (placesQ T).length = 2 * T + 1 := by
 unfold placesQ
 rw [List.length_append, List.length_append, plRow_len, plRow_len]
 simp; omega
set_option maxRecDepth 100000 in
set_option maxHeartbeats 2000000 in
theorem qk_take {w0 w : World} {pq : Nat} {a : Qa} {n : Nat} {B : List (Nat × Obj)} (h : QOk w0 w pq a n B) (hn : n ≤ 800) (hu : Unlike a.sh ∧ ∀ t, Unlike (a.loc.getD t [])) (id : Int) :
 Calls Tryz.prog 10 #[.pointer (some ⟨pq, 0, none⟩), .int .i64 id] w fun e w' => e = .returned (.bool (takeQ a id).1) ∧ QOk w0 w' pq (takeQ a id).2 (n + 1) B := by
 obtain ⟨f1, f2, f3⟩ := h.few
 obtain ⟨P, s, hP⟩ : ∃ P s, QOkP w0 w pq a n B P s := by
  obtain ⟨who, q, h1, h2, h3⟩ := h.ex
  exact ⟨_, _, ⟨⟨who, q, h1, h2, h3, rfl, rfl⟩, h.bel⟩⟩
 have HP := Aside0.mk hP
 have HU := Aside0.mk hu
 have HB1 := Aside0.mk (below_alloc (Below.refl w.heap.size w) (.cells #[.int .i64 id] 3))
 have HX1 := Aside0.mk (heap_alloc_new w (.cells #[.int .i64 id] 3))
 clear h hP hu
 go_enter Tryz.func10, Tryz.ntmps10
 go_wp2_with fail
 obtain ⟨w1, hw1⟩ : ∃ w1 : World, w1 = w.alloc (.cells #[.int .i64 id] 3) := ⟨_, rfl⟩
 have hs1 : w1.heap.size = w.heap.size + 1 := by rw [hw1, World.size_alloc]
 rw [← hw1] at HB1 HX1 ⊢
 clear hw1
 refine (q_drops (HP.out.below HB1.out)).mono ?_
 rintro e w2 ⟨v, bx, f, rfl, hd, hv⟩
 obtain ⟨v', e1, hR⟩ := hd.h2
 obtain rfl : v' = v := by
  rw [hv] at e1
  injection e1 with e1
  injection e1 with e1
  injection e1 with e1
  injection e1 with e1
  exact e1.symm
 obtain ⟨A, c, rfl⟩ := Kd.R_slice hR
 obtain ⟨gr, arr, rfl, hgr, hrow, hlen, hcap, harr⟩ := pl_arr hR (by rw [places_len]; omega)
 obtain ⟨es, ck, hmb⟩ := hd.hm.at_
 obtain ⟨N, hN⟩ : ∃ N, (placesQ a.loc.length).length = N := ⟨_, rfl⟩
 rw [hN] at hcap ⊢
 have hN1 := places_len a.loc.length
 have HN := Aside0.mk hN
 have HN1 := Aside0.mk hN1
 have HD := Aside0.mk hd
 have HRW := Aside0.mk (show w2.heap[gr]? = some (.cells arr 77 (0, 0)) ∧ w1.heap.size ≤ gr from ⟨hrow, hgr⟩)
 have HAR := Aside0.mk harr
 have HMB := Aside0.mk hmb
 have HCAP := Aside0.mk hcap
 have HS1 := Aside0.mk hs1
 clear hd hv e1 hR hgr hrow hlen harr hmb hN hN1 hs1 hcap
 go_wp2_with fail
 obtain ⟨w3, hw3⟩ : ∃ w3 : World, w3 = w2.alloc (.cells #[.map (some (w1.heap.size + 3))] 72) := ⟨_, rfl⟩
 have HX3 := Aside0.mk (show w3.heap[w2.heap.size]? = some (.cells #[.map (some (w1.heap.size + 3))] 72 (0, 0)) by rw [hw3]; exact heap_alloc_new w2 _)
 have HB3 := Aside0.mk (show Below w2.heap.size w2 w3 by rw [hw3]; exact below_alloc (Below.refl _ _) _)
 rw [← hw3]
 clear hw3
 obtain ⟨C, hC⟩ : ∃ C : List (Nat × Obj), C = [(w1.heap.size, bxP pq), (w2.heap.size, .cells #[.map (some (w1.heap.size + 3))] 72), (w.heap.size, bxI id), (gr, .cells arr 77), (w1.heap.size + 3, .map es ck)] ++ bx.map (fun x => (x.1, bxI (x.2 : Int))) := ⟨_, rfl⟩
 have HQ3 := Aside0.mk (show QOkP w0 w3 pq a n (C ++ B) P s from by
  have hb2 : Below w.heap.size w w3 := below_step (below_then HB1.out HB1.out.size HD.out.bel) HB3.out
  refine HP.out.boxed hb2 C (fun x hx => ?_)
  have q1 := HB1.out.size
  have q2 := HD.out.bel.size
  rw [hC] at hx
  rcases List.mem_append.1 hx with hx | hx
  · simp only [List.mem_cons, List.not_mem_nil, or_false] at hx
    rcases hx with rfl | rfl | rfl | rfl | rfl
    · exact ⟨by show w.heap.size ≤ w1.heap.size; omega, blk_below HD.out.h1 HB3.out⟩
    · exact ⟨by show w.heap.size ≤ w2.heap.size; omega, HX3.out⟩
    · exact ⟨Nat.le_refl _, blk_below ((HD.out.bel.block _ (by have := HS1.out; omega)).trans HX1.out) HB3.out⟩
    · exact ⟨by have := HRW.out.2; show w.heap.size ≤ gr; omega, blk_below HRW.out.1 HB3.out⟩
    · exact ⟨by show w.heap.size ≤ w1.heap.size + 3; omega, (HB3.out.block _ HD.out.lt).trans HMB.out⟩
  · obtain ⟨y, hy, rfl⟩ := List.mem_map.1 hx
    have := (HD.out.bxs y hy).2
    exact ⟨by show w.heap.size ≤ y.1; omega, blk_below (HD.out.bxs y hy).1 HB3.out⟩)
 have HCX := Aside0.mk (show TkCtx a (C ++ B) pq P s (placesQ a.loc.length) id w1.heap.size w2.heap.size w.heap.size gr (w1.heap.size + 3) _ arr es ck bx f from by
  refine ⟨?_, ?_, ?_, ?_, ?_, HAR.out, fun W hW => HD.out.hm.move (hW.trans HMB.out.symm), fun x hx => ?_, HD.out.told, fun p hp => (place_few hp).1, fun p hp => (place_few hp).2, HU.out, by rw [places_len]; omega⟩
  · rw [hC]; simp
  · rw [hC]; simp
  · rw [hC]; simp
  · rw [hC]; simp
  · rw [hC]; simp
  · rw [hC]
    exact List.mem_append_left _ (List.mem_append_right _ (List.mem_map.2 ⟨x, hx, rfl⟩)))
 clear hC
 refine (pl_cont HCX.out HQ3.out hn N c HN.out.symm HCAP.out).mono ?_
 unfold TakePost
 rintro e w4 ⟨rfl, hq4⟩
 have HQ4 := Aside0.mk hq4.unboxed
 clear hq4
 go_wp2
 go_ret
 exact ⟨rfl, HQ4.out⟩
end Go.Proofs.YthghkglkifeagaaGreat.V
end
section
set_option linter.unusedVariables false
set_option linter.unusedSimpArgs false
namespace Go.Proofs.YthghkglkifeagaaGreat.V
open Go.RowKit Go.Proofs.YthghkglkifeagaaGreatW.PrintWords Go.Proofs.YthghkglkifeagaaGreatW.PrintLast Go.Proofs.YthghkglkifeagaaGreatW.PrintMore
attribute [local go_sem] max2_int min2_int max_two min_two max_three min_three max_four min_four
theorem QOk.sub {w0 w : World} {pq : Nat} {a : Qa} {n : Nat} {B B' : List (Nat × Obj)} (h : QOk w0 w pq a n B) (hs : ∀ x ∈ B', x ∈ B) : QOk w0 w pq a n B' := by
 obtain ⟨who, q, h1, h2, h3⟩ := h.ex
 exact ⟨⟨who, q, h1, h2, fun y hy => h3 y (hs y hy)⟩, h.bel⟩
theorem u64_nat (x : Int) : ∃ d : Nat, d < 18446744073709551616 ∧ IntKind.u64.wrap x = (d : Int) := by
 refine ⟨(IntKind.u64.wrap x).toNat, ?_⟩
 rw [IntKind.wrap_u64]
 omega
def strA (sh : List E) : Qa := ⟨0, [none], [[]], sh⟩
theorem str_put (sh : List E) (e : E) : putQ (strA sh) 0 e = ⟨0, [some e], [[]], sh⟩ := put_empty rfl e
theorem str_slot (sh : List E) (e : E) : slotQ ⟨0, [some e], [[]], sh⟩ 0 = some e := rfl
theorem str_settle (sh : List E) (e : E) : settleQ ⟨0, [some e], [[]], sh⟩ 0 = strA (sortE (e :: sh)) := by
 rw [settle_zero (l0 := []) (rest := []) (sr := []) rfl rfl, if_neg (by simp)]
 unfold strA
 congr 1
 exact sortE_of_perm ((sortE_perm [e]).append_right sh)
theorem str_none (d : Nat) : relaxedQ (strA []) 0 d = none := by
 have h : roundQ (strA []) 0 = none := by
  rw [round_miss (fun j hj => ?_)]
  · show (sortE []).head? = none
    rw [sortE_nil]; rfl
  · have : j = 0 := by have : j < 1 := hj; omega
    subst this
    rfl
 unfold relaxedQ
 rw [h]
 rfl
theorem str_relaxed (x : E) (r : List E) (d : Nat) : relaxedQ (strA (x :: r)) 0 d = some x := by
 rw [relaxed_shared rfl (by show 0 + 1 ≤ (x :: r).length; simp)]
 show some ((x :: r).getD (d % 1) ⟨0, 0⟩) = some x
 rw [Nat.mod_one]; rfl
theorem str_take (sh : List E) (id : Int) : takeQ (strA sh) id = if sh.any (isId id) = true then (true, strA (others id sh)) else (false, strA sh) := by
 have h1 : hitQ (strA sh) id (1, 0) = false := rfl
 have h2 : hitQ (strA sh) id (2, 0) = false := rfl
 have h3 : hitQ (strA sh) id (3, 0) = sh.any (isId id) := rfl
 unfold takeQ
 show (match [(1, 0), (2, 0), (3, 0)].find? (hitQ (strA sh) id) with | some p => (true, outQ (strA sh) id p) | none => (false, strA sh)) = _
 rw [List.find?_cons_of_neg (by rw [h1]; simp), List.find?_cons_of_neg (by rw [h2]; simp)]
 by_cases hh : sh.any (isId id) = true
 · rw [List.find?_cons_of_pos (by rw [h3]; exact hh), if_pos hh]; rfl
 · rw [List.find?_cons_of_neg (by rw [h3]; exact hh), if_neg hh]; rfl
structure StrP (sh : List E) (m : Nat) : Prop where
  up : SortedE sh
  len : sh.length = m
  un : Unlike sh
theorem StrP.take {x : E} {r : List E} {m : Nat} (h : StrP (x :: r) (m + 1)) : (x :: r).any (isId x.f1) = true ∧ others x.f1 (x :: r) = r ∧ r.any (isId x.f1) = false ∧ StrP r m ∧ ∀ y ∈ r, ltE x y = true := by
 have hu := h.un
 unfold Unlike at hu
 rw [List.map_cons, List.nodup_cons] at hu
 have hne : ∀ y ∈ r, y.f1 ≠ x.f1 := fun y hy e => hu.1 (by rw [← e]; exact List.mem_map_of_mem hy)
 have h1 : r.any (isId x.f1) = false := by
  rw [List.any_eq_false]
  intro y hy
  rw [isId_false.2 (hne y hy)]; simp
 have hs := sorted_cons.1 h.up
 refine ⟨by rw [List.any_cons, isId_true.2 rfl]; rfl, ?_, h1, ⟨hs.2, by have := h.len; simpa using this, hu.2⟩, fun y hy => ltE_of_leE_ne (hs.1 y hy) (fun e => hne y hy (by rw [e]))⟩
 show (x :: r).filter (fun e => !isId x.f1 e) = r
 rw [List.filter_cons_of_neg (by rw [isId_true.2 rfl]; simp)]
 exact others_none h1
structure StrL (w wr : World) (pq : Nat) (m : Nat) : Prop where
  ex : ∃ sh, QOk w wr pq (strA sh) (2 * m) [] ∧ StrP sh m ∧ ∀ x ∈ sh, x.f1 ≤ (m : Int)
theorem StrP.put {sh : List E} {m : Nat} {e : E} (h : StrP sh m) (hx : ∀ x ∈ sh, x.f1 ≤ (m : Int)) (he : e.f1 = (m : Int) + 1) : StrP (sortE (e :: sh)) (m + 1) ∧ ∀ x ∈ sortE (e :: sh), x.f1 ≤ ((m + 1 : Nat) : Int) := by
 refine ⟨⟨sortE_sorted _, by rw [sortE_length, List.length_cons, h.len], Unlike.perm ?_ (sortE_perm _).symm⟩, fun x h1 => ?_⟩
 · unfold Unlike
   rw [List.map_cons, List.nodup_cons]
   refine ⟨fun hm => ?_, h.un⟩
   obtain ⟨y, hy, e1⟩ := List.mem_map.1 hm
   have := hx y hy
   omega
 · rcases List.mem_cons.1 (sortE_mem.1 h1) with rfl | h2
   · omega
   · have := hx x h2
     omega
def bxE (x y : Int) : Obj := .cells #[.int .u64 x, .int .i64 y] 33
structure StrR (w wr : World) (pq g : Nat) (N i : Nat) (l0 l1 : Int) : Prop where
  ex : ∃ sh, QOk w wr pq (strA sh) (120 + 2 * i) [(g, bxE l0 l1)] ∧ StrP sh (N - i) ∧ (0 < i → ∀ x ∈ sh, ltE ⟨l0, l1⟩ x = true)
theorem set2_E {w : World} {g : Nat} {a b x y : Int} (h : w.heap[g]? = some (bxE a b)) : ((w.setCell ⟨g, 0, none⟩ (.int .u64 x)).setCell ⟨g, 1, none⟩ (.int .i64 y)).heap[g]? = some (bxE x y) ∧ w.grownBy ((w.setCell ⟨g, 0, none⟩ (.int .u64 x)).setCell ⟨g, 1, none⟩ (.int .i64 y)) (some g) := by
 have h : w.heap[g]? = some (.cells #[.int .u64 a, .int .i64 b] 33 (0, 0)) := h
 exact ⟨blk_put (blk_put h 0 _ rfl) 1 _ rfl, set2_grown ⟨rfl, rfl, rfl, Nat.le_refl _, fun _ _ _ => rfl⟩⟩
set_option maxRecDepth 100000 in
set_option maxHeartbeats 4000000 in
theorem queueStrict_walk (A : Option Addr) (c : Nat) (l : List Int) (y : Nat) (w : World) (hr : Kd.C (Kd.int .u64) w A l.length l) (hc : l.length ≤ c) (hy : y < 18446744073709551616) :
 Calls Tryz.prog 4 #[.slice A l.length c, .int .u64 (y : Int)] w fun e w' => e = .returned (.bool true) ∧ Below w.heap.size w w' := by
 have HR := Aside0.mk hr
 have HY := Aside0.mk hy
 have hl63 : l.length ≤ 9223372036854775807 := hr.2.1
 obtain ⟨N, hN⟩ : ∃ N, N = min l.length 60 := ⟨_, rfl⟩
 have hN60 : N ≤ 60 ∧ N ≤ l.length := by omega
 clear hr hy
 go_enter Tryz.func4, Tryz.ntmps4
 go_wp2_with fail
 refine (q_new 1 0 w (by omega) (by omega) (by omega)).mono ?_
 rintro q w1 ⟨pq, rfl, h1⟩
 have HD := Aside0.mk (show StrL w w1 pq 0 from ⟨⟨[], h1, ⟨sorted_nil, rfl, List.nodup_nil⟩, fun x hx => by simp at hx⟩⟩)
 clear h1
 go_upto_region 4 with fail
 go_cut [7] (fun s7 wx => s7 = .int .i64 N ∧ Aside0 (wx = w1))
 case first =>
  by_cases h : l.length ≤ 60
  · have e1 : N = l.length := by omega
    have HE := Aside0.mk e1
    clear hN e1 hN60
    have hlI : ¬ (60 : Int) < (l.length : Int) := by omega
    go_wp2_with fail
    go_meet
    exact ⟨by rw [HE.out], ⟨rfl⟩⟩
  · have e1 : N = 60 := by omega
    have HE := Aside0.mk e1
    clear hN e1 hN60
    have hlI : (60 : Int) < (l.length : Int) := by omega
    go_wp2_with fail
    go_meet
    exact ⟨by rw [HE.out]; rfl, ⟨rfl⟩⟩
 case rest =>
  obtain ⟨rfl, HWC⟩ := hcut
  have hwc := HWC.out.symm
  subst hwc
  clear HWC hN
  go_wp2_with fail
  go_loopw [8] (fun i wr => ∃ m : Nat, m ≤ N ∧ i = .int .i64 m ∧ Aside0 (StrL w wr pq m)) (fun i _ => N - (intOf i).toNat)
  case atStart => exact ⟨0, Nat.zero_le _, rfl, HD⟩
  case round =>
   clear HD
   obtain ⟨m, hm, rfl, HS⟩ := hrel
   obtain ⟨sh, hq, hs, hid⟩ := HS.out.ex
   by_cases hlt : m < N
   · have HQ := Aside0.mk hq
     have HSP := Aside0.mk hs
     have HID := Aside0.mk hid
     have hml : (m : Int) < (l.length : Int) := by omega
     obtain ⟨ad, rfl, y0⟩ := Kd.at_int HR.out (m : Int) (by omega) hml
     obtain ⟨k, hk⟩ : ∃ k, rd l (m : Int) = k := ⟨_, rfl⟩
     rw [Int.toNat_natCast, hk] at y0
     have y1 := pw_cell_below hq.bel y0
     have HBD := Aside0.mk (show 2 * m + 1 ≤ 800 by omega)
     clear hq hs hid y0 hk
     go_wp2_with fail
     refine (qk_put HQ.out (by have := HBD.out; omega) 0 (by show 0 < 1; omega) ⟨k, (m : Int) + 1⟩).mono ?_
     rintro q w2 ⟨rfl, h2⟩
     rw [str_put] at h2
     have HQ2 := Aside0.mk h2
     clear h2 y1
     go_wp2_with fail
     refine (qk_settle HQ2.out HBD.out 0 (by show 0 < 1; omega)).mono ?_
     rintro q w3 ⟨hq3, h3⟩
     rw [str_slot] at hq3
     rw [str_settle] at h3
     obtain rfl : q = .returned (.bool true) := hq3
     have HD3 := Aside0.mk (show StrL w w3 pq (m + 1) from ⟨⟨_, h3, HSP.out.put HID.out rfl⟩⟩)
     clear h3
     go_wp2
     go_roundw
     case rel => exact ⟨m + 1, by omega, by go_num, HD3⟩
     case measure => simp [intOf]; omega
   · obtain rfl : m = N := by omega
     have HQ := Aside0.mk (hq.mono (show 2 * m ≤ 120 by omega))
     have HSP := Aside0.mk hs
     clear hq hs hid hlt hm HS
     have HX := Aside0.mk (show StrR w (wr.alloc (.cells #[.int .u64 0, .int .i64 0] 33)) pq wr.heap.size m 0 0 0 from ⟨⟨sh, HQ.out.box (below_alloc (Below.refl _ _) _) (Nat.le_refl _) (heap_alloc_new wr _), HSP.out, fun h => by omega⟩⟩)
     obtain ⟨g, hg⟩ : ∃ g, g = wr.heap.size := ⟨_, rfl⟩
     go_upto_region 11 with fail
     rw [← hg] at HX ⊢
     clear hg
     go_wp2_with fail
     rename World => wo
     go_loopw [10] (fun i wr => ∃ (j : Nat) (l0 l1 : Int), j ≤ m ∧ i = .int .i64 j ∧ Aside0 (StrR w wr pq g m j l0 l1)) (fun i _ => m - (intOf i).toNat)
     case atStart => exact ⟨0, 0, 0, Nat.zero_le _, rfl, HX⟩
     case round =>
      clear HX
      obtain ⟨j, l0, l1, hj, rfl, HS⟩ := hrel
      obtain ⟨sh, hq, hs, hlast⟩ := HS.out.ex
      by_cases hlt : j < m
      · obtain ⟨x, r, hsh⟩ : ∃ x r, sh = x :: r := by
         cases sh with
         | nil => have := hs.len; simp at this; omega
         | cons x r => exact ⟨x, r, rfl⟩
        subst hsh
        have hs2 : StrP (x :: r) ((m - (j + 1)) + 1) := by rw [show m - (j + 1) + 1 = m - j by omega]; exact hs
        obtain ⟨t1, t2, t3, t4, t5⟩ := hs2.take
        have HQ1 := Aside0.mk hq
        have HT := Aside0.mk (show takeQ (strA (x :: r)) x.f1 = (true, strA r) by rw [str_take, if_pos t1, t2])
        have HT2 := Aside0.mk (show takeQ (strA r) x.f1 = (false, strA r) by rw [str_take, if_neg (by rw [t3]; simp)])
        have HU := Aside0.mk (show Unlike (x :: r) ∧ Unlike r from ⟨hs.un, t4.un⟩)
        have H5 := Aside0.mk (show StrP r (m - (j + 1)) ∧ ∀ y ∈ r, ltE x y = true from ⟨t4, t5⟩)
        have HL := Aside0.mk (fun h : 0 < j => hlast h x List.mem_cons_self)
        have HG := Aside0.mk (show g < wr.heap.size from (Array.getElem?_eq_some_iff.1 hq.top).1)
        have HBD := Aside0.mk (show 120 + 2 * j + 2 ≤ 800 by omega)
        obtain ⟨d, hd, hdw⟩ := u64_nat ((y : Int) + (j : Int))
        have s3 : IntKind.u64.wrap (j : Int) = (j : Int) := IntWalk.u64_in _ (by omega)
        have HD := Aside0.mk hd
        clear hq hs hs2 t1 t2 t3 t4 t5 hd hlast
        go_wp2_with fail
        refine (qk_relaxed HQ1.out (by have := HBD.out; omega) 0 (by show 0 < 1; omega) d HD.out).mono ?_
        rintro q w2 ⟨hq2, hb2⟩
        rw [str_relaxed] at hq2
        obtain rfl : q = .returned (.tuple #[.agg #[.int .u64 x.f0, .int .i64 x.f1], .bool true]) := hq2
        have HQ2 := Aside0.mk ((HQ1.out.below hb2).box (below_alloc (Below.refl w2.heap.size w2) (.cells #[.int .u64 x.f0, .int .i64 x.f1] 33)) (Nat.le_refl _) (heap_alloc_new w2 _))
        have HNE := Aside0.mk (show w2.heap.size ≠ g from fun e => by have := HG.out; have := hb2.size; omega)
        obtain ⟨w3, hw3⟩ : ∃ w3 : World, w3 = w2.alloc (.cells #[.int .u64 x.f0, .int .i64 x.f1] 33) := ⟨_, rfl⟩
        obtain ⟨X, hX⟩ : ∃ X, X = w2.heap.size := ⟨_, rfl⟩
        clear hb2
        go_upto_region 15 with fail
        rw [← hw3, ← hX] at HQ2
        rw [← hX] at HNE
        rw [← hw3, ← hX]
        clear hw3 hX hdw s3
        have x0 : w3.cell? ⟨X, 0, none⟩ = some (.int .u64 x.f0) := (blk_cell HQ2.out.top 0).trans rfl
        have x1 : w3.cell? ⟨X, 1, none⟩ = some (.int .i64 x.f1) := (blk_cell HQ2.out.top 1).trans rfl
        have z0 : w3.cell? ⟨g, 0, none⟩ = some (.int .u64 l0) := (blk_cell HQ2.out.unbox.top 0).trans rfl
        have z1 : w3.cell? ⟨g, 1, none⟩ = some (.int .i64 l1) := (blk_cell HQ2.out.unbox.top 1).trans rfl
        go_cut [87] (fun s87 wx => s87 = .bool false ∧ Aside0 (QOk w wx pq (strA r) (120 + 2 * j + 2) [(X, bxE x.f0 x.f1), (g, bxE l0 l1)]))
        case first =>
         by_cases h0 : 0 < j
         · have HLS := Aside0.mk (show vergerref5_Less.f l0 l1 x.f0 x.f1 = some true by rw [refless_told, HL.out h0])
           have h1 : (0 : Int) < (j : Int) := by omega
           go_wp2_with fail
           refine (vergerref5_Less.calls _ _ _ _ _ _ HLS.out).mono ?_
           rintro q w4 ⟨rfl, hb4⟩
           have HQ4 := Aside0.mk (HQ2.out.below hb4)
           have x1' := pw_cell_below hb4 x1
           clear hb4 x0 x1 z0 z1
           go_wp2_with fail
           refine (qk_take HQ4.out (by have := HBD.out; omega) ⟨HU.out.1, fun t => by cases t <;> simp [strA, Unlike]⟩ x.f1).mono ?_
           rintro q w5 ⟨hq5, h5⟩
           rw [HT.out] at hq5 h5
           obtain rfl : q = .returned (.bool true) := hq5
           have HQ5 := Aside0.mk (show QOk w w5 pq (strA r) (120 + 2 * j + 1) [(X, bxE x.f0 x.f1), (g, bxE l0 l1)] from h5)
           have x2 : w5.cell? ⟨X, 1, none⟩ = some (.int .i64 x.f1) := (blk_cell HQ5.out.top 1).trans rfl
           clear h5 x1'
           go_wp2_with fail
           refine (qk_take HQ5.out (by have := HBD.out; omega) ⟨HU.out.2, fun t => by cases t <;> simp [strA, Unlike]⟩ x.f1).mono ?_
           rintro q w6 ⟨hq6, h6⟩
           rw [HT2.out] at hq6 h6
           obtain rfl : q = .returned (.bool false) := hq6
           have HQ6 := Aside0.mk (show QOk w w6 pq (strA r) (120 + 2 * j + 2) [(X, bxE x.f0 x.f1), (g, bxE l0 l1)] from h6)
           clear h6 x2
           go_wp2_with fail
           go_meet
           exact ⟨rfl, HQ6⟩
         · obtain rfl : j = 0 := by omega
           clear x0 z0 z1
           go_wp2_with fail
           refine (qk_take HQ2.out (by have := HBD.out; omega) ⟨HU.out.1, fun t => by cases t <;> simp [strA, Unlike]⟩ x.f1).mono ?_
           rintro q w5 ⟨hq5, h5⟩
           rw [HT.out] at hq5 h5
           obtain rfl : q = .returned (.bool true) := hq5
           have HQ5 := Aside0.mk (show QOk w w5 pq (strA r) (120 + 2 * 0 + 1) [(X, bxE x.f0 x.f1), (g, bxE l0 l1)] from h5)
           have x2 : w5.cell? ⟨X, 1, none⟩ = some (.int .i64 x.f1) := (blk_cell HQ5.out.top 1).trans rfl
           clear h5 x1
           go_wp2_with fail
           refine (qk_take HQ5.out (by have := HBD.out; omega) ⟨HU.out.2, fun t => by cases t <;> simp [strA, Unlike]⟩ x.f1).mono ?_
           rintro q w6 ⟨hq6, h6⟩
           rw [HT2.out] at hq6 h6
           obtain rfl : q = .returned (.bool false) := hq6
           have HQ6 := Aside0.mk (show QOk w w6 pq (strA r) (120 + 2 * 0 + 2) [(X, bxE x.f0 x.f1), (g, bxE l0 l1)] from h6)
           clear h6 x2
           go_wp2_with fail
           go_meet
           exact ⟨rfl, HQ6⟩
        case rest =>
         obtain ⟨rfl, HQ6⟩ := hcut
         clear x0 x1 z0 z1 HQ2
         have x0 : wc.cell? ⟨X, 0, none⟩ = some (.int .u64 x.f0) := (blk_cell HQ6.out.top 0).trans rfl
         have x1 : wc.cell? ⟨X, 1, none⟩ = some (.int .i64 x.f1) := (blk_cell HQ6.out.top 1).trans rfl
         have z0 : wc.cell? ⟨g, 0, none⟩ = some (.int .u64 l0) := (blk_cell HQ6.out.unbox.top 0).trans rfl
         have z1 : wc.cell? ⟨g, 1, none⟩ = some (.int .i64 l1) := (blk_cell HQ6.out.unbox.top 1).trans rfl
         have f0 : wc.frozen? ⟨g, 0, none⟩ = false := frozen_row HQ6.out.unbox.top 0
         have f1 : wc.frozen? ⟨g, 1, none⟩ = false := frozen_row HQ6.out.unbox.top 1
         have HS2 := Aside0.mk (set2_E (x := x.f0) (y := x.f1) HQ6.out.unbox.top)
         have HW := Aside0.mk (show StrR w ((wc.setCell ⟨g, 0, none⟩ (.int .u64 x.f0)).setCell ⟨g, 1, none⟩ (.int .i64 x.f1)) pq g m (j + 1) x.f0 x.f1 from ⟨⟨r, (HQ6.out.unbox.write HS2.out.2 HS2.out.1 (fun x hx => by simp at hx)).mono (by omega), H5.out.1, fun _ => H5.out.2⟩⟩)
         go_wp2
         go_roundw
         case rel => exact ⟨j + 1, _, _, by omega, by go_num, HW⟩
         case measure => simp [intOf]; omega
      · obtain rfl : j = m := by omega
        obtain rfl : sh = [] := List.length_eq_zero_iff.1 (by rw [hs.len]; omega)
        have HQ1 := Aside0.mk hq
        have HBD := Aside0.mk (show 120 + 2 * j ≤ 800 by omega)
        clear hq hs hlast
        go_wp2_with fail
        refine (qk_relaxed HQ1.out (by have := HBD.out; omega) 0 (by show 0 < 1; omega) y HY.out).mono ?_
        rintro q w2 ⟨hq2, hb2⟩
        rw [str_none] at hq2
        obtain rfl : q = .returned (.tuple #[.agg #[.int .u64 0, .int .i64 0], .bool false]) := hq2
        have HQ2 := Aside0.mk ((HQ1.out.below hb2).below (below_alloc (Below.refl w2.heap.size w2) (.cells #[.int .u64 0, .int .i64 0] 33)))
        have HLN := Aside0.mk (show (allQ (strA [])).length = 0 by unfold allQ; rw [sortE_length]; rfl)
        clear hb2
        go_wp2_with fail
        refine (qk_len HQ2.out (by have := HBD.out; omega)).mono ?_
        rintro q w3 ⟨hq3, hb3⟩
        rw [HLN.out] at hq3
        obtain rfl : q = .returned (.int .i64 0) := hq3
        have HQ3 := Aside0.mk (HQ2.out.below hb3)
        clear hb3
        go_wp2_with fail
        refine (awake10 _).mono ?_
        rintro q w4 ⟨rfl, hb4⟩
        have HB4 := Aside0.mk (HQ3.out.below hb4).bel
        clear hb4
        go_wp2
        go_ret
        exact ⟨by first | rfl | simp, HB4.out⟩
end Go.Proofs.YthghkglkifeagaaGreat.V
end
section
set_option linter.unusedVariables false
set_option linter.unusedSimpArgs false
namespace Go.Proofs.YthghkglkifeagaaGreat.VOpen
open Go.RowKit Go.Proofs.YthghkglkifeagaaGreatW.PrintWords Go.Deep Go.ChangeShapes Go.WideShapes
structure Fits {α : Type} (P : Program) (t : TypeId) (d : Kd α) (good : α → Prop) : Prop where
  sz : P.cellsOf t = d.sz
  opens : ∀ {H : Type} {enc : TypeId × Value → H} {w : World} {base : Nat} {spare : Nat → Bool} {held : Bool} {fuel : Nat} {cs : List Value} {x : DataW H × List MemPlace},
    DataW.trod enc P w base spare held fuel t cs = some x → ∃ a, d.K w a cs ∧ good a
theorem fits_int {P : Program} {t : TypeId} {k : IntKind} (ht : P.underlying t = some (.int k)) (hc : P.cellsOf t = 1) : Fits P t (Kd.int k) (fun n => (Lit.int k n).wf = true) where
 sz := hc
 opens := fun h => by
  obtain ⟨n, rfl, _, hw⟩ := DataW.trod_int ht h
  exact ⟨n, rfl, hw⟩
theorem filter_all {α : Type} (f : Nat → Option α) : ∀ (len : Nat), (∀ i, i < len → ∃ u, f i = some u) → ((List.range len).filterMap f).length = len ∧ ∀ i, i < len → ((List.range len).filterMap f)[i]? = f i := by
 intro len
 induction len with
 | zero => simp
 | succ k ih =>
  intro hf
  obtain ⟨h1, h2⟩ := ih (fun i hi => hf i (by omega))
  obtain ⟨u, hu⟩ := hf k (by omega)
  rw [List.range_succ, List.filterMap_append]
  simp only [List.filterMap_cons, hu, List.filterMap_nil]
  refine ⟨by simp [h1], fun i hi => ?_⟩
  by_cases hik : i < k
  · rw [List.getElem?_append_left (by omega)]
    exact h2 i hik
  · have : i = k := by omega
    subst this
    rw [List.getElem?_append_right (by omega), h1, hu]
    simp
theorem fits_slice {α : Type} {P : Program} {t e : TypeId} {d : Kd α} {good : α → Prop} (ht : P.underlying t = some (.slice e)) (hc : P.cellsOf t = 1) (h : Fits P e d good) : Fits P t (Kd.slice e d) (fun l => ∀ x ∈ l, good x) where
 sz := hc
 opens := fun {H enc w base spare held fuel cs x} hx => by
  rcases open_slice ht hx with ⟨rfl, _⟩ | ⟨a, len, cap, m, n, D, Pl, rfl, _, hl, hm, hmm, _, hcell⟩
  · exact ⟨[], ⟨none, 0, rfl, Nat.le_refl _, rfl, by simp, fun h0 => absurd h0 (by simp)⟩, by simp⟩
  · have hlm : len ≤ m := by rw [hmm]; split <;> omega
    have each : ∀ i, i < len → ∃ u : α, (∃ c, c.length = d.sz ∧ d.K w u c ∧ ∀ j v, c[j]? = some v → w.cell? (a.add (i * d.sz + j)) = some v) ∧ good u := by
     intro i hi
     obtain ⟨c, h1, h2⟩ := hcell i (by omega)
     rw [h.sz] at h1
     obtain ⟨_, h3, h4⟩ := World.cells?_some h1
     obtain ⟨u, hu, gu⟩ := h.opens h2
     refine ⟨u, ⟨c, h3, hu, fun j v hj => ?_⟩, gu⟩
     have hjl : j < d.sz := by have := (List.getElem?_eq_some_iff.1 hj).1; omega
     have := h4 j hjl
     rw [Addr.add_add] at this
     rw [this, hj]
    have hex : ∃ f : Nat → Option α, ∀ i, i < len → ∃ u, f i = some u ∧ (∃ c, c.length = d.sz ∧ d.K w u c ∧ ∀ j v, c[j]? = some v → w.cell? (a.add (i * d.sz + j)) = some v) ∧ good u := by
     classical
     refine ⟨fun i => if hi : i < len then some (Classical.choose (each i hi)) else none, fun i hi => ⟨Classical.choose (each i hi), by simp [hi], Classical.choose_spec (each i hi)⟩⟩
    obtain ⟨f, hf⟩ := hex
    have hlen := filter_all f len (fun i hi => (hf i hi).imp fun _ h => h.1)
    refine ⟨(List.range len).filterMap f, ⟨some a, cap, by rw [hlen.1], by rw [hlen.1]; exact hl, rfl, by rw [hlen.1]; unfold maxLen at hm; omega, fun _ => ⟨a, rfl, fun j p hj => ?_⟩⟩, fun x hx => ?_⟩
    · have hjl : j < len := by have := (List.getElem?_eq_some_iff.1 hj).1; rw [hlen.1] at this; exact this
      obtain ⟨u, hu, hc, _⟩ := hf j hjl
      rw [hlen.2 j hjl, hu] at hj
      injection hj with hj
      subst hj
      exact hc
    · obtain ⟨j, hj⟩ := List.mem_iff_getElem?.1 hx
      have hjl : j < len := by have := (List.getElem?_eq_some_iff.1 hj).1; rw [hlen.1] at this; exact this
      obtain ⟨u, hu, _, gu⟩ := hf j hjl
      rw [hlen.2 j hjl, hu] at hj
      injection hj with hj
      subst hj
      exact gu
theorem slice_arg {α : Type} {P : Program} {t e : TypeId} {d : Kd α} {good : List α → Prop} (h : Fits P t (Kd.slice e d) good) {H : Type} {enc : TypeId × Value → H} {w : World} {base : Nat} {spare : Nat → Bool} {held : Bool} {fuel : Nat} {v : Value}
 {x : DataW H × List MemPlace} {A : Option Addr} {len cap : Nat} (hv : v = .slice A len cap) (hx : DataW.trod enc P w base spare held fuel t v.cells.toList = some x) : ∃ l : List α, len = l.length ∧ l.length ≤ cap ∧ d.C w A l.length l ∧ good l := by
 subst hv
 obtain ⟨l, ⟨A', c', hcs, hl, hC⟩, hg⟩ := h.opens hx
 simp only [Value.cells, List.cons.injEq, and_true, Value.slice.injEq] at hcs
 obtain ⟨rfl, rfl, rfl⟩ := hcs
 exact ⟨l, rfl, hl, hC, hg⟩
theorem slice_bound {P : Program} {t e : TypeId} (ht : P.underlying t = some (.slice e)) {H : Type} {enc : TypeId × Value → H} {w : World} {base : Nat} {spare : Nat → Bool} {held : Bool} {fuel : Nat}
 {x : DataW H × List MemPlace} {A : Option Addr} {len cap : Nat} (hx : DataW.trod enc P w base spare held fuel t (Value.slice A len cap).cells.toList = some x)
 {ts : List TypeId} {ds : List (DataW H)} (hs : (DataW.weightsEach P ts ds).all (· ≤ reachBytes) = true) {j : Nat} (h1 : ts[j]? = some t) (h2 : ds[j]? = some x.1) {b : Nat} (hb : P.bytesOf e = b) : len * b ≤ 140737488351232 := by
 rcases DataW.trod_slice ht hx with ⟨hc, rfl⟩ | ⟨a, len', cap', elems, rest, n, _, hc, rfl, _, _, _, hl, _⟩
 · simp only [Value.cells, List.cons.injEq, and_true, Value.slice.injEq] at hc
   obtain ⟨rfl, rfl, rfl⟩ := hc
   omega
 · simp only [Value.cells, List.cons.injEq, and_true, Value.slice.injEq] at hc
   obtain ⟨rfl, rfl, rfl⟩ := hc
   have := sized_slice hs h1 h2 ht
   rw [hb, List.length_map, hl] at this
   refine Nat.le_trans (Nat.mul_le_mul_right b (Nat.le_add_right len _)) this
end Go.Proofs.YthghkglkifeagaaGreat.VOpen
end
section
set_option linter.unusedVariables false
set_option linter.unusedSimpArgs false
namespace Go.Proofs.YthghkglkifeagaaGreat.V
open Go.RowKit Go.Proofs.YthghkglkifeagaaGreatW.PrintWords Go.Proofs.YthghkglkifeagaaGreatW.PrintLast Go.Proofs.YthghkglkifeagaaGreatW.PrintMore
def vergerlaw10_QueueStrict.f (l0 : List Int) (a1 : Int) : Option Bool := if 0 ≤ a1 ∧ a1 < 18446744073709551616 then some true else none
theorem vergerlaw10_QueueStrict.calls (A0 : Option Addr) (c0 : Nat) (l0 : List Int) (a1 : Int) (r : Bool) (w : World) (hr0 : Kd.C (Kd.int .u64) w A0 l0.length l0) (hc0 : l0.length ≤ c0) (h : vergerlaw10_QueueStrict.f l0 a1 = some r) :
 Calls Tryz.prog 4 #[.slice A0 l0.length c0, .int .u64 a1] w fun e w' => e = .returned (.bool r) ∧ Below w.heap.size w w' := by
 unfold vergerlaw10_QueueStrict.f at h
 by_cases hl : 0 ≤ a1 ∧ a1 < 18446744073709551616
 · rw [if_pos hl] at h
   obtain rfl := Option.some.inj h
   obtain ⟨d, rfl⟩ : ∃ d : Nat, a1 = (d : Int) := ⟨a1.toNat, by omega⟩
   exact queueStrict_walk A0 c0 l0 d w hr0 hc0 (by omega)
 · rw [if_neg hl] at h
   cases h
theorem QueueStrict_pure (l0 : List Int) (a1 : Int) {P Q : Prop} (_ : P) (_ : Q) (h : (Lit.int .u64 a1).wf = true) : vergerlaw10_QueueStrict.f l0 a1 = some true := if_pos (by
 simp [Lit.wf, IntKind.min, IntKind.max, IntKind.signed, IntKind.bits] at h
 omega)
end Go.Proofs.YthghkglkifeagaaGreat.V
end
