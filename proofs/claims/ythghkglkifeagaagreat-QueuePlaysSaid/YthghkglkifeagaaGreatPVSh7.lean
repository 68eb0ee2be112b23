-- a text of this work, without what this claim doesn't use (wip/shake.py)
import Derived.Test.YthghkglkifeagaaGreatPVQ5
import Derived.Test.YthghkglkifeagaaGreatPVLsmP
import Derived.Test.YthghkglkifeagaaGreatPVTB
import Derived.Test.YthghkglkifeagaaGreatPVQ0
import Derived.IntWalk
set_option maxRecDepth 100000
set_option maxHeartbeats 8000000
section
set_option linter.unusedVariables false
set_option linter.unusedSimpArgs false
namespace Go.Proofs.YthghkglkifeagaaGreat.V
open Go.RowKit Go.Proofs.YthghkglkifeagaaGreatW.PrintWords Go.Proofs.YthghkglkifeagaaGreatW.PrintLast Go.Proofs.YthghkglkifeagaaGreatW.PrintMore
structure QRest (who : Nat → Nat) (w : World) (base : Nat) (q : QSt) : Prop where
  sl : SlotsAt w q.ps q.gs q.L
  wps : who q.ps = 0
  wgs : who q.gs = 0
  ow : ∀ (t : Nat) m, q.ms[t]? = some m → LsmO who (t + 3) w base m.p m.v m.bs
  sh : ShO who 2 w base q.psh q.ver q.vs q.sb
namespace QRest
variable {who : Nat → Nat} {w w1 : World} {base : Nat} {q : QSt}
theorem other (h : QRest who w base q) {s : Nat} (hs : w.heap.size ≤ w1.heap.size) (hb : ∀ k, k < w.heap.size → who k ≠ s → w1.heap[k]? = w.heap[k]?) (h0 : s ≠ 0) (h2 : s ≠ 2) (h3 : ∀ t, t < q.ms.length → s ≠ t + 3) :
 QRest (upO who s w.heap.size) w1 base q := by
 obtain ⟨l1, l2⟩ := h.sl.lt
 exact ⟨⟨h.sl.1, (hb _ l1 (by rw [h.wps]; omega)).trans h.sl.2.1, (hb _ l2 (by rw [h.wgs]; omega)).trans h.sl.2.2.1, h.sl.2.2.2⟩, by rw [a0r l1]; exact h.wps, by rw [a0r l2]; exact h.wgs,
  fun t m hm => (h.ow t m hm).other hs hb (by have := h3 t (List.getElem?_eq_some_iff.1 hm).1; omega), h.sh.other hs hb (by omega)⟩
theorem more (h : QRest who w base q) (m : Own1) (hm : LsmO who (q.ms.length + 3) w base m.p m.v m.bs) : QRest who w base { q with ms := q.ms ++ [m] } := by
 refine ⟨h.sl, h.wps, h.wgs, fun t n hn => ?_, h.sh⟩
 have hn : (q.ms ++ [m])[t]? = some n := hn
 by_cases ht : t < q.ms.length
 · rw [List.getElem?_append_left ht] at hn
   exact h.ow t n hn
 · rw [List.getElem?_append_right (by omega)] at hn
   have hlt := (List.getElem?_eq_some_iff.1 hn).1
   rw [List.length_singleton] at hlt
   have he : t = q.ms.length := by omega
   subst he
   rw [Nat.sub_self] at hn
   injection hn with hn
   subst hn
   exact hm
theorem row (h : QRest who w base q) (v : Value) : QRest who w base { q with vr := v } := ⟨h.sl, h.wps, h.wgs, h.ow, h.sh⟩
end QRest
structure QPre (who : Nat → Nat) (w : World) (base pq : Nat) (q : QSt) : Prop where
  hd : w.heap[pq]? = some (.cells #[.int .i64 q.k, .pointer (some ⟨q.ps, 0, none⟩), q.vr, .pointer (some ⟨q.psh, 0, none⟩)] 64 (0, 0))
  wq : who pq = 1
  rw : Kd.N kP 65 w base (fun k => who k = 1 ∧ k ≠ pq) q.vr (q.ms.map Own1.p)
  rest : QRest who w base q
  lq : base ≤ pq
  ls : base ≤ q.ps ∧ base ≤ q.gs
  few : q.ms.length ≤ 8
namespace QPre
variable {who : Nat → Nat} {w w1 : World} {base pq : Nat} {q : QSt}
theorem lt (h : QPre who w base pq q) : pq < w.heap.size := (Array.getElem?_eq_some_iff.1 h.hd).1
theorem c2 (h : QPre who w base pq q) : w.cell? ⟨pq, 2, none⟩ = some q.vr := by simp [World.cell?, h.hd]
theorem other (h : QPre who w base pq q) {s : Nat} (hs : w.heap.size ≤ w1.heap.size) (hb : ∀ k, k < w.heap.size → who k ≠ s → w1.heap[k]? = w.heap[k]?) (h0 : s ≠ 0) (h1 : s ≠ 1) (h2 : s ≠ 2) (h3 : ∀ t, t < q.ms.length → s ≠ t + 3) :
 QPre (upO who s w.heap.size) w1 base pq q := by
 refine ⟨(hb pq h.lt (by rw [h.wq]; omega)).trans h.hd, by rw [a0r h.lt]; exact h.wq, ?_, h.rest.other hs hb h0 h2 h3, h.lq, h.ls, h.few⟩
 refine Kd.N_mono (Kd.N_step (Kd.N_bound h.rw) (fun k hk hlt => hb k hlt (by rw [hk.1.1]; omega))) (fun k hk => ?_)
 show upO who s w.heap.size k = 1 ∧ k ≠ pq
 rw [a0r hk.2]; exact hk.1
theorem below (h : QPre who w base pq q) (hb : Below w.heap.size w w1) (s : Nat) (h0 : s ≠ 0) (h1 : s ≠ 1) (h2 : s ≠ 2) (h3 : ∀ t, t < q.ms.length → s ≠ t + 3) : QPre (upO who s w.heap.size) w1 base pq q :=
 h.other hb.size (fun k hk _ => hb.block k hk) h0 h1 h2 h3
theorem more (h : QPre who w base pq q) (m : Own1) (hm : LsmO who (q.ms.length + 3) w base m.p m.v m.bs) {v1 : Value} {w2 : World}
 (hn : Kd.N kP 65 w2 base (fun k => (who k = 1 ∧ k ≠ pq) ∨ w.heap.size ≤ k) v1 (q.ms.map Own1.p ++ [m.p])) (hg : w.grownBy w2 q.vr.ownBlock) (h8 : q.ms.length < 8) :
 QPre (upO who 1 w.heap.size) (w2.setCell ⟨pq, 2, none⟩ v1) base pq { q with ms := q.ms ++ [m], vr := v1 } := by
 have hlt := h.lt
 have hown : ∀ k, q.vr.ownBlock = some k → who k = 1 ∧ k ≠ pq := fun k hk => h.rw.1 k hk
 have hne : some pq ≠ q.vr.ownBlock := fun e => (hown pq e.symm).2 rfl
 have hd2 := (hg.block pq hlt hne).trans h.hd
 have hb : ∀ k, k < w.heap.size → who k ≠ 1 → (w2.setCell ⟨pq, 2, none⟩ v1).heap[k]? = w.heap[k]? := fun k hk hw => by
  rw [a0z (fun e => hw (by rw [e]; exact h.wq))]
  exact hg.block k hk (fun e => hw (hown k e.symm).1)
 have hsz : w.heap.size ≤ (w2.setCell ⟨pq, 2, none⟩ v1).heap.size := by
  simp only [World.setCell, Array.size_modify]
  exact hg.size
 refine ⟨blk_put hd2 2 v1 rfl, by rw [a0r hlt]; exact h.wq, ?_, ((h.rest.more m hm).other hsz hb (by omega) (by omega) (fun t _ => by omega)).row v1, h.lq, h.ls, by simp; omega⟩
 rw [List.map_append]
 refine Kd.N_mono (Kd.N_far hn (p := ⟨pq, 2, none⟩) (fun k hk => ?_) v1) (fun k hk => ?_)
 · rcases hk with hk | hk
   · exact hk.2
   · show k ≠ pq
     omega
 · rcases hk with hk | hk
   · refine ⟨?_, hk.2⟩
     by_cases h3 : k < w.heap.size
     · rw [a0r h3]; exact hk.1
     · exact a1r (by omega)
   · exact ⟨a1r hk, by omega⟩
theorem all (h : QPre who w base pq q) (hl : q.L.length = q.ms.length) (h1 : 1 ≤ q.ms.length) : QAt who w base pq q :=
 ⟨h.hd, h.wq, Kd.N_mono h.rw (fun k hk => hk.1), h.rest.sl, h.rest.wps, h.rest.wgs, h.rest.ow, h.rest.sh, h.lq, h.ls, hl, h.few, h1⟩
end QPre
structure Qa where
  k : Nat
  S : List (Option E)
  loc : List (List E)
  sh : List E
def One.o (x : One) : Option E := if x.full = true then some ⟨x.key, x.id⟩ else none
def bsE (bs : List Bk) : List E := a0b (allB bs)
def sumL (l : List (List E)) : Nat := (l.map List.length).sum
theorem a7v : ∀ (l : List (List E)) (t : Nat) (x : List E), t < l.length → sumL (l.set t x) + (l.getD t []).length = sumL l + x.length := by
 intro l
 induction l with
 | nil => intro t x h; simp at h
 | cons a r ih =>
  intro t x h
  cases t with
  | zero => simp [sumL]; omega
  | succ t =>
   have := ih t x (by simpa using h)
   simp only [sumL, List.set_cons_succ, List.map_cons, List.sum_cons, List.getD_cons_succ] at this ⊢
   omega
theorem a2x (l : List (List E)) (t : Nat) : (l.getD t []).length ≤ sumL l := by
 induction l generalizing t with
 | nil => simp
 | cons a r ih =>
  cases t with
  | zero => simp [sumL]
  | succ t =>
   have := ih t
   simp only [sumL, List.map_cons, List.sum_cons, List.getD_cons_succ] at this ⊢
   omega
def a1t (a : Qa) (t : Nat) (e : E) : Qa :=
  if (a.loc.getD t []).length + 1 ≤ a.k then ⟨a.k, a.S.set t none, a.loc.set t (a0b (e :: a.loc.getD t [])), a.sh⟩
  else ⟨a.k, a.S.set t none, a.loc.set t [], a0b (a0b (e :: a.loc.getD t []) ++ a.sh)⟩
def a0k (a : Qa) (t : Nat) : Option E := (a.S[t]?).getD none
def a0j (a : Qa) (t : Nat) : Qa := match a0k a t with | some e => a1t a t e | none => a
def putQ (a : Qa) (t : Nat) (e : E) : Qa := { a0j a t with S := (a0j a t).S.set t (some e) }
def a0l (a : Qa) : List E := a.S.filterMap id
def allQ (a : Qa) : List E := a0b (a0l a ++ a.sh ++ a.loc.flatten)
structure QV (q : QSt) (a : Qa) (n : Nat) : Prop where
  k : q.k = a.k
  S : q.L.map One.o = a.S
  loc : q.ms.map (fun m => bsE m.bs) = a.loc
  good : ∀ m ∈ q.ms, Good m.bs
  sh : bsE q.sb = a.sh
  ok : ∀ b ∈ q.sb, okB b = true
  few : q.sb.length ≤ n
  ver : 0 ≤ q.ver ∧ q.ver ≤ n
  cnt : sumL a.loc + a.sh.length ≤ n
namespace QV
variable {q : QSt} {a : Qa} {n : Nat}
theorem len (h : QV q a n) : q.ms.length = a.loc.length := by rw [← h.loc, List.length_map]
theorem lenS (h : QV q a n) : q.L.length = a.S.length := by rw [← h.S, List.length_map]
theorem at_ (h : QV q a n) {t : Nat} {m : Own1} (hm : q.ms[t]? = some m) : a.loc.getD t [] = bsE m.bs := by
 rw [← h.loc, List.getD_eq_getElem?_getD, List.getElem?_map, hm]; rfl
theorem slot (h : QV q a n) {t : Nat} {o : One} (ho : q.L[t]? = some o) : a0k a t = o.o := by
 unfold a0k
 rw [← h.S, List.getElem?_map, ho]; rfl
theorem mono {m : Nat} (h : QV q a n) (hm : n ≤ m) : QV q a m := ⟨h.k, h.S, h.loc, h.good, h.sh, h.ok, Nat.le_trans h.few hm, ⟨h.ver.1, by have := h.ver.2; omega⟩, Nat.le_trans h.cnt hm⟩
theorem allsh (h : QV q a n) : (allB q.sb).length = a.sh.length := by rw [← h.sh]; unfold bsE; rw [a0i]
theorem cntL (h : QV q a n) {t : Nat} {m : Own1} (hm : q.ms[t]? = some m) : (allB m.bs).length = (a.loc.getD t []).length ∧ (allB m.bs).length ≤ n := by
 have h1 := h.at_ hm
 have h2 := a2x a.loc t
 have h3 := h.cnt
 have h4 : (bsE m.bs).length = (allB m.bs).length := by unfold bsE; rw [a0i]
 rw [h1] at h2 ⊢
 omega
end QV
theorem b0n {ms ms' : List Own1} {t : Nat} {x : List Bk} (h : ms'.map Own1.bs = (ms.map Own1.bs).set t x) : ms'.map (fun m => bsE m.bs) = (ms.map (fun m => bsE m.bs)).set t (bsE x) := by
 have h1 : ∀ l : List Own1, l.map (fun m => bsE m.bs) = (l.map Own1.bs).map bsE := fun l => by rw [List.map_map]; rfl
 rw [h1, h1, h, List.map_set]
theorem b2i {ms ms' : List Own1} {t : Nat} {x : List Bk} (h : ms'.map Own1.bs = (ms.map Own1.bs).set t x) (hg : ∀ m ∈ ms, Good m.bs) (hx : Good x) : ∀ m ∈ ms', Good m.bs := by
 intro m hm
 have h1 : m.bs ∈ ms'.map Own1.bs := List.mem_map_of_mem hm
 rw [h] at h1
 rcases List.mem_or_eq_of_mem_set h1 with h2 | h2
 · obtain ⟨m0, h3, h4⟩ := List.mem_map.1 h2
   rw [← h4]; exact hg m0 h3
 · rw [h2]; exact hx
theorem b0z (bs : List Bk) (e : E) : bsE (putL e bs) = a0b (e :: bsE bs) := by
 unfold bsE
 exact a1y ((a8c bs e).trans ((a0n (allB bs)).symm.cons e))
theorem c1h (l : List E) (bs : List Bk) : bsE (addL l bs) = a0b (l ++ bsE bs) := by
 unfold bsE
 exact a1y ((b6h l bs).trans ((a0n (allB bs)).symm.append_left l))
theorem a7z : bsE [] = [] := by unfold bsE; rw [a7u, a4k]
theorem c1o (l : List E) (bs : List Bk) : (addL l bs).length ≤ bs.length + 1 := a7c bs.length (mkB l) bs
theorem b6s {q q' : QSt} {a : Qa} {n t : Nat} {m : Own1} {o : One} {z : One} (h : QV q a n) (hn : n ≤ 800) (hm : q.ms[t]? = some m) (ho : q.L[t]? = some o) (hf : o.full = true) (hk : q'.k = q.k) (hz : z.full = false) (hL : q'.L = q.L.set t z)
 (hc : if (allB (putL ⟨o.key, o.id⟩ m.bs)).length ≤ q.k then q'.ms.map Own1.bs = (q.ms.map Own1.bs).set t (putL ⟨o.key, o.id⟩ m.bs) ∧ q'.sb = q.sb ∧ q'.ver = q.ver
  else q'.ms.map Own1.bs = (q.ms.map Own1.bs).set t [] ∧ q'.sb = addL (a0b (allB (putL ⟨o.key, o.id⟩ m.bs))) q.sb ∧ q'.ver = q.ver + 1) :
 QV q' (a0j a t) (n + 1) := by
 have hs : a0k a t = some ⟨o.key, o.id⟩ := by rw [h.slot ho]; unfold One.o; rw [if_pos hf]
 have hS : q'.L.map One.o = a.S.set t none := by
  rw [hL, List.map_set, h.S]
  unfold One.o
  rw [hz]; rfl
 have hlt : t < a.loc.length := by rw [← h.len]; exact (List.getElem?_eq_some_iff.1 hm).1
 have hcl := h.cntL hm
 have hpl : (allB (putL ⟨o.key, o.id⟩ m.bs)).length = (a.loc.getD t []).length + 1 := by
  rw [(a8c m.bs ⟨o.key, o.id⟩).length_eq, List.length_cons, hcl.1]
 have hat := h.at_ hm
 have hgm := h.good m (List.mem_of_getElem? hm)
 unfold a0j
 rw [hs]
 show QV q' (a1t a t ⟨o.key, o.id⟩) (n + 1)
 unfold a1t
 rw [hpl, h.k] at hc
 have hcnt := h.cnt
 have hver := h.ver
 have hfew := h.few
 by_cases hk2 : (a.loc.getD t []).length + 1 ≤ a.k
 · rw [if_pos hk2] at hc ⊢
   obtain ⟨c1, c2, c3⟩ := hc
   refine ⟨by rw [hk]; exact h.k, hS, ?_, b2i c1 h.good (a9a hgm _ (by omega)), by rw [c2]; exact h.sh, by rw [c2]; exact h.ok, by rw [c2]; omega, by rw [c3]; omega, ?_⟩
   · rw [b0n c1, h.loc, b0z, hat]
   · have h1 := a7v a.loc t (a0b (⟨o.key, o.id⟩ :: a.loc.getD t [])) hlt
     rw [a0i, List.length_cons] at h1
     show sumL (a.loc.set t (a0b (⟨o.key, o.id⟩ :: a.loc.getD t []))) + a.sh.length ≤ n + 1
     omega
 · rw [if_neg hk2] at hc ⊢
   obtain ⟨c1, c2, c3⟩ := hc
   have h2 := c1o (a0b (allB (putL ⟨o.key, o.id⟩ m.bs))) q.sb
   refine ⟨by rw [hk]; exact h.k, hS, ?_, b2i c1 h.good a9m, ?_, by rw [c2]; exact b6m h.ok, by rw [c2]; omega, by rw [c3]; omega, ?_⟩
   · rw [b0n c1, h.loc, a7z]
   · rw [c2, c1h, h.sh]
     show a0b (bsE (putL ⟨o.key, o.id⟩ m.bs) ++ a.sh) = _
     rw [b0z, hat]
   · have h1 := a7v a.loc t [] hlt
     rw [List.length_nil] at h1
     show sumL (a.loc.set t []) + (a0b (a0b (⟨o.key, o.id⟩ :: a.loc.getD t []) ++ a.sh)).length ≤ n + 1
     rw [a0i, List.length_append, a0i, List.length_cons]
     omega
theorem a6i {a : Qa} {t : Nat} (h : a0k a t = none) : a0j a t = a := by unfold a0j; rw [h]
theorem c1n {q : QSt} {a : Qa} {n t : Nat} {z : One} (e : E) (h : QV q a n) (hz : z.full = true) (h0 : z.key = e.f0) (h1 : z.id = e.f1) : QV { q with L := q.L.set t z } { a with S := a.S.set t (some e) } n := by
 refine ⟨h.k, ?_, h.loc, h.good, h.sh, h.ok, h.few, h.ver, h.cnt⟩
 show (q.L.set t z).map One.o = a.S.set t (some e)
 rw [List.map_set, h.S]
 unfold One.o
 rw [hz, if_pos rfl, h0, h1]
theorem a7a (a : Qa) (t : Nat) : (a0j a t).S.length = a.S.length ∧ (a0j a t).loc.length = a.loc.length ∧ (a0j a t).k = a.k := by
 unfold a0j
 split
 · unfold a1t
   split <;> simp
 · simp
structure QOk (w0 w : World) (pq : Nat) (a : Qa) (n : Nat) (B : List (Nat × Obj)) : Prop where
  ex : ∃ who q, QAt who w w0.heap.size pq q ∧ QV q a n ∧ ∀ x ∈ B, w.heap[x.1]? = some x.2 ∧ who x.1 = 11 ∧ w0.heap.size ≤ x.1
  bel : Below w0.heap.size w0 w
namespace QOk
variable {w0 w w1 : World} {pq : Nat} {a : Qa} {n : Nat} {B : List (Nat × Obj)}
theorem lt (h : QOk w0 w pq a n B) : pq < w.heap.size := by obtain ⟨_, _, h1, _⟩ := h.ex; exact h1.lt
theorem lo (h : QOk w0 w pq a n B) : w0.heap.size ≤ w.heap.size := h.bel.size
theorem few (h : QOk w0 w pq a n B) : 1 ≤ a.loc.length ∧ a.loc.length ≤ 8 ∧ a.S.length = a.loc.length := by
 obtain ⟨_, _, h1, h2, _⟩ := h.ex
 have e1 := h2.len
 have e2 := h2.lenS
 have e3 := h1.some
 have e4 := h1.few
 have e5 := h1.len
 omega
theorem cnt (h : QOk w0 w pq a n B) : sumL a.loc + a.sh.length ≤ n := by obtain ⟨_, _, _, h2, _⟩ := h.ex; exact h2.cnt
theorem boxes {who : Nat → Nat} (hB : ∀ x ∈ B, w.heap[x.1]? = some x.2 ∧ who x.1 = 11 ∧ w0.heap.size ≤ x.1) {who' : Nat → Nat} (hk : Keep who w who' w1) : ∀ x ∈ B, w1.heap[x.1]? = some x.2 ∧ who' x.1 = 11 ∧ w0.heap.size ≤ x.1 := by
 intro x hx
 obtain ⟨h1, h2, h3⟩ := hB x hx
 obtain ⟨k1, k2⟩ := hk.2 x.1 (Array.getElem?_eq_some_iff.1 h1).1 h2
 exact ⟨k1.trans h1, k2, h3⟩
theorem below (h : QOk w0 w pq a n B) (hb : Below w.heap.size w w1) : QOk w0 w1 pq a n B := by
 obtain ⟨who, q, h1, h2, h3⟩ := h.ex
 exact ⟨⟨_, q, h1.below hb 11 (by have := h1.few; omega), h2, boxes h3 (Keep.below hb 11)⟩, below_step h.bel hb⟩
theorem box (h : QOk w0 w pq a n B) (hb : Below w.heap.size w w1) {g : Nat} {o : Obj} (hg : w.heap.size ≤ g) (ho : w1.heap[g]? = some o) : QOk w0 w1 pq a n ((g, o) :: B) := by
 obtain ⟨who, q, h1, h2, h3⟩ := h.ex
 refine ⟨⟨_, q, h1.below hb 11 (by have := h1.few; omega), h2, fun x hx => ?_⟩, below_step h.bel hb⟩
 rcases List.mem_cons.1 hx with rfl | hx
 · exact ⟨ho, a1r hg, Nat.le_trans h.lo hg⟩
 · exact boxes h3 (Keep.below hb 11) x hx
theorem unbox {x : Nat × Obj} (h : QOk w0 w pq a n (x :: B)) : QOk w0 w pq a n B := by
 obtain ⟨who, q, h1, h2, h3⟩ := h.ex
 exact ⟨⟨who, q, h1, h2, fun y hy => h3 y (List.mem_cons_of_mem _ hy)⟩, h.bel⟩
theorem at_ {x : Nat × Obj} (h : QOk w0 w pq a n B) (hx : x ∈ B) : w.heap[x.1]? = some x.2 := by obtain ⟨_, _, _, _, h3⟩ := h.ex; exact (h3 x hx).1
theorem mono (h : QOk w0 w pq a n B) {m : Nat} (hm : n ≤ m) : QOk w0 w pq a m B := by
 obtain ⟨who, q, h1, h2, h3⟩ := h.ex
 exact ⟨⟨who, q, h1, h2.mono hm, h3⟩, h.bel⟩
end QOk
theorem b2v (L : List One) : allO L = (L.map One.o).filterMap id := by
 unfold allO
 induction L with
 | nil => rfl
 | cons x r ih =>
  rw [List.map_cons]
  by_cases hf : x.full = true
  · have h1 : x.o = some ⟨x.key, x.id⟩ := if_pos hf
    rw [List.filter_cons_of_pos hf, List.map_cons, h1, ih]
    rfl
  · have h1 : x.o = none := if_neg hf
    rw [List.filter_cons_of_neg hf, h1, ih]
    rfl
def NewE (w w' : World) (v : Value) (l : List E) : Prop := Kd.V k33 33 w' w.heap.size (fun k_ => (w.heap.size ≤ k_)) v l ∧ Below w.heap.size w w'
section
variable {w0 w : World} {pq : Nat} {a : Qa} {n : Nat} {B : List (Nat × Obj)}
theorem b1n (h : QOk w0 w pq a n B) : Calls Tryz.prog 45 #[.pointer (some ⟨pq, 0, none⟩)] w fun e w' => ∃ v0_ : Value, e = .returned v0_ ∧ NewE w w' v0_ (a0l a) := by
 obtain ⟨who, q, h1, h2, h3⟩ := h.ex
 refine (c1s h1).mono ?_
 rintro e w' ⟨v, rfl, hv, hb⟩
 rw [b2v, h2.S] at hv
 exact ⟨v, rfl, hv, hb⟩
theorem a9n (h : QOk w0 w pq a n B) (hn : n ≤ 900) : Calls Tryz.prog 46 #[.pointer (some ⟨pq, 0, none⟩)] w fun e w' => ∃ v0_ : Value, e = .returned v0_ ∧ NewE w w' v0_ a.sh := by
 obtain ⟨who, q, h1, h2, h3⟩ := h.ex
 have e1 := h2.allsh
 have e2 := h2.cnt
 have e3 := h2.few
 refine (b9b h1 (by omega) (by omega)).mono ?_
 rintro e w' ⟨v, rfl, hv, hb⟩
 rw [show a0b (allB q.sb) = a.sh from h2.sh] at hv
 exact ⟨v, rfl, hv, hb⟩
theorem b4y (h : QOk w0 w pq a n B) (hn : n ≤ 900) (t : Nat) (ht : t < a.loc.length) : Calls Tryz.prog 28 #[.pointer (some ⟨pq, 0, none⟩), .int .i64 t] w fun e w' => ∃ v0_ : Value, e = .returned v0_ ∧ NewE w w' v0_ (a.loc.getD t []) := by
 obtain ⟨who, q, h1, h2, h3⟩ := h.ex
 have e1 := h2.len
 obtain ⟨m, hm⟩ : ∃ m, q.ms[t]? = some m := ⟨_, List.getElem?_eq_getElem (by omega)⟩
 have e2 := h2.cntL hm
 have e3 := h2.good m (List.mem_of_getElem? hm)
 have e4 := a2p e3 (by omega)
 refine (c1j h1 t m hm e3.snd (by omega) (by omega)).mono ?_
 rintro e w' ⟨v, rfl, hv, hb⟩
 rw [show a0b (allB m.bs) = a.loc.getD t [] from (h2.at_ hm).symm] at hv
 exact ⟨v, rfl, hv, hb⟩
theorem b3l {who : Nat → Nat} {q : QSt} (hB0 : Below w0.heap.size w0 w) (h1 : QAt who w w0.heap.size pq q) (h2 : QV q a n) (hn : n ≤ 800) (t : Nat) (ht : t < a.loc.length) :
 Calls Tryz.prog 9 #[.pointer (some ⟨pq, 0, none⟩), .int .i64 t] w fun e w' => e = .returned (.bool (a0k a t).isSome) ∧ ∃ who' q', QAt who' w' w0.heap.size pq q' ∧ Below w0.heap.size w0 w' ∧ Keep who w who' w' ∧ QV q' (a0j a t) (n + 1) ∧ ∃ x, q'.L[t]? = some x ∧ x.full = false := by
 have e1 := h2.len
 obtain ⟨m, hm⟩ : ∃ m, q.ms[t]? = some m := ⟨_, List.getElem?_eq_getElem (by omega)⟩
 have e0 := h1.len
 have hltL : t < q.L.length := by omega
 obtain ⟨o, ho⟩ : ∃ o, q.L[t]? = some o := ⟨_, List.getElem?_eq_getElem hltL⟩
 have e2 := h2.cntL hm
 have e3 := h2.good m (List.mem_of_getElem? hm)
 have e5 := h2.allsh
 have e6 := h2.cnt
 have e7 := h2.few
 have e8 := h2.ver
 have hs := h2.slot ho
 cases hf : o.full with
 | true =>
  have hs1 : (a0k a t).isSome = true := by rw [hs]; unfold One.o; rw [if_pos hf]; rfl
  rw [hs1]
  refine (b4p w0 hB0 h1 t m o hm ho hf e3 (by omega) (by omega) (by omega) (by omega) h2.ok).mono ?_
  rintro e w' ⟨rfl, who', q', r1, r2, r3, r4, r5, r6⟩
  exact ⟨rfl, who', q', r1, r2, r3, b6s h2 hn hm ho hf r4 rfl r5 r6, ⟨0, 0, false, _⟩, by rw [r5]; exact List.getElem?_set_self hltL, rfl⟩
 | false =>
  have hs1 : a0k a t = none := by rw [hs]; unfold One.o; rw [hf]; rfl
  rw [hs1, a6i hs1]
  refine (c1z h1 t o ho hf).mono ?_
  rintro e w' ⟨rfl, hb⟩
  exact ⟨rfl, _, q, h1.below hb 11 (by have := h1.few; omega), below_step hB0 hb, Keep.below hb 11, h2.mono (by omega), o, ho, hf⟩
theorem b5a (h : QOk w0 w pq a n B) (hn : n ≤ 800) (t : Nat) (ht : t < a.loc.length) :
 Calls Tryz.prog 9 #[.pointer (some ⟨pq, 0, none⟩), .int .i64 t] w fun e w' => e = .returned (.bool (a0k a t).isSome) ∧ QOk w0 w' pq (a0j a t) (n + 1) B := by
 obtain ⟨who, q, h1, h2, h3⟩ := h.ex
 refine (b3l h.bel h1 h2 hn t ht).mono ?_
 rintro e w' ⟨rfl, who', q', r1, r2, r3, r4, _⟩
 exact ⟨rfl, ⟨who', q', r1, r4, QOk.boxes h3 r3⟩, r2⟩
theorem a8a (h : QOk w0 w pq a n B) (hn : n ≤ 800) (t : Nat) (ht : t < a.loc.length) (e : E) :
 Calls Tryz.prog 8 #[.pointer (some ⟨pq, 0, none⟩), .int .i64 t, .agg #[.int .u64 e.f0, .int .i64 e.f1]] w fun x w' => x = .returned (.int .i64 0) ∧ QOk w0 w' pq (putQ a t e) (n + 1) B := by
 obtain ⟨who, q, h1, h2, h3⟩ := h.ex
 have e1 := h2.len
 refine (b7d w0 h.bel h1 t (by omega) e.f0 e.f1 (fun q' => QV q' (a0j a t) (n + 1)) (fun _ => True) ?_).mono ?_
 · intro who1 W hA hB
   refine (b3l hB hA h2 hn t ht).mono ?_
   rintro x w' ⟨rfl, who', q', r1, r2, r3, r4, y, r5, r6⟩
   exact ⟨_, rfl, who', q', y, r1, r2, r3, r4, r5, r6, trivial⟩
 · rintro x w' ⟨rfl, who', q', y, r1, r2, r3, r4, r5, _⟩
   exact ⟨rfl, ⟨who', _, r1, c1n e r4 rfl rfl rfl, QOk.boxes h3 r3⟩, r2⟩
end
theorem infoP : (Tryz.prog.info? 65).map (fun i => (i.zero, i.size, i.bytes)) = some (some (.pointer none), 1, 8) := by kernel_rfl
def newA (n k : Nat) : Qa := ⟨k, List.replicate n none, List.replicate n [], []⟩
structure NewSt (w wr : World) (base pq k n m : Nat) : Prop where
  ex : ∃ who q, QPre who wr base pq q ∧ q.ms.length = m ∧ q.k = k ∧ q.L = List.replicate n a2c ∧ q.sb = [] ∧ q.ver = 0 ∧ ∀ x ∈ q.ms, x.bs = []
  bel : Below w.heap.size w wr
theorem b6y {w wr : World} {pq k n : Nat} (h : NewSt w wr w.heap.size pq k n n) (h1 : 1 ≤ n) : QOk w wr pq (newA n k) 0 [] := by
 obtain ⟨who, q, hq, hm, hk, hL, hsb, hver, hbs⟩ := h.ex
 refine ⟨⟨who, q, hq.all (by rw [hL, List.length_replicate, hm]) (by omega), ⟨hk, ?_, ?_, ?_, ?_, ?_, ?_, ?_, ?_⟩, fun x hx => by simp at hx⟩, h.bel⟩
 · rw [hL, List.map_replicate]; rfl
 · show _ = List.replicate n []
   rw [← hm]
   refine List.ext_getElem? fun i => ?_
   rw [List.getElem?_map, List.getElem?_replicate]
   by_cases hi : i < q.ms.length
   · rw [if_pos hi, List.getElem?_eq_getElem hi, Option.map_some, hbs _ (List.getElem_mem hi), a7z]
   · rw [if_neg hi, List.getElem?_eq_none (by omega)]; rfl
 · intro m0 hm0
   rw [hbs m0 hm0]; exact a9m
 · rw [hsb, a7z]; rfl
 · intro b hb
   rw [hsb] at hb
   simp at hb
 · rw [hsb]; exact Nat.le_refl _
 · rw [hver]; omega
 · show sumL (List.replicate n []) + 0 ≤ 0
   unfold sumL
   rw [List.map_replicate]
   simp
theorem q_new (n k : Nat) (w : World) (h0 : 1 ≤ n) (h1 : n ≤ 8) (hk : k ≤ 16) :
 Calls Tryz.prog 7 #[.int .i64 n, .int .i64 k] w fun e w' => ∃ pq, e = .returned (.tuple #[.pointer (some ⟨pq, 0, none⟩), .int .i64 0]) ∧ QOk w w' pq (newA n k) 0 [] := by
 have d0 : decide ((k : Int) < 0) = false := decide_eq_false (by omega)
 have d1 : decide ((k : Int) > 16) = false := decide_eq_false (by omega)
 have d2 : decide (16 < (k : Int)) = false := decide_eq_false (by omega)
 have HN1 := za h0
 go_enter Tryz.func7, Tryz.ntmps7
 go_wp2_with fail
 refine (a6u n w h0 h1).mono ?_
 rintro e w1 ⟨ps, gs, hps, hgs, rfl, hs1, hb1⟩
 have HB1 := za hb1
 have HS1 := za hs1
 have HP1 := za (show w.heap.size ≤ ps ∧ w.heap.size ≤ gs from ⟨hps, hgs⟩)
 clear hb1 hs1 hps hgs
 go_wp2_with fail
 refine (b5k (upO (fun _ => 99) 0 w.heap.size) 2 w.heap.size w1 HB1.out.size).mono ?_
 rintro e w2 ⟨rfl, hsh2, hb2⟩
 have HSH := za hsh2
 have HB2 := za hb2
 clear hsh2 hb2
 have HST := za (show NewSt w (w2.alloc (.cells #[.int .i64 k, .pointer (some ⟨ps, 0, none⟩), .slice none 0 0, .pointer (some ⟨w1.heap.size, 0, none⟩)] 64)) w.heap.size w2.heap.size k n 0 from by
  have hb3 := below_alloc (Below.refl w2.heap.size w2) (.cells #[.int .i64 k, .pointer (some ⟨ps, 0, none⟩), .slice none 0 0, .pointer (some ⟨w1.heap.size, 0, none⟩)] 64)
  have l1 := HS1.out.lt
  have s1 := HB1.out.size
  have s2 := HB2.out.size
  have p1 := HP1.out
  have hr1 : QRest (upO (upO (fun _ => 99) 0 w.heap.size) 2 w1.heap.size) w2 w.heap.size ⟨k, List.replicate n a2c, [], ps, gs, .slice none 0 0, w1.heap.size, 0, .slice none 0 0, []⟩ := by
   refine ⟨HS1.out.below HB2.out, ?_, ?_, fun t m hm => ?_, HSH.out⟩
   · show upO _ 2 w1.heap.size ps = 0
     rw [a0r l1.1]; exact a1r p1.1
   · show upO _ 2 w1.heap.size gs = 0
     rw [a0r l1.2]; exact a1r p1.2
   · simp at hm
  refine ⟨⟨_, _, ⟨heap_alloc_new w2 _, a1r (Nat.le_refl _), Kd.N_nil _ _ _ _ _, hr1.other hb3.size (fun k hk _ => hb3.block k hk) (s := 1) (by omega) (by omega) (fun t _ => by omega), by omega, p1, Nat.zero_le _⟩, rfl, rfl, rfl, rfl, rfl, fun x hx => by simp at hx⟩, below_then (below_then HB1.out HB1.out.size HB2.out) (by omega) hb3⟩)
 clear HSH HS1 HP1 HB1 HB2
 go_wp2
 go_loopw [30] (fun i wr => ∃ m : Nat, m ≤ n ∧ i = .int .i64 m ∧ Aside0 (NewSt w wr w.heap.size w2.heap.size k n m)) (fun i _ => n - (intOf i).toNat)
 case atStart => exact ⟨0, Nat.zero_le _, rfl, HST⟩
 case round =>
  obtain ⟨m, hm, rfl, HR⟩ := hrel
  by_cases hlt : m < n
  · obtain ⟨who, q, hq, q1, q2, q3, q4, q5, q6⟩ := HR.out.ex
    have hc2 := hq.c2
    have HQ := za (show QPre (upO who 11 wr.heap.size) wr.drew w.heap.size w2.heap.size q from hq.below (below_drew (Below.refl _ _)) 11 (by omega) (by omega) (by omega) (fun t ht => by have := hq.few; omega))
    have HBR := za (show Below w.heap.size w wr.drew from below_drew HR.out.bel)
    have H1 := za (show q.ms.length = m ∧ q.k = k ∧ q.L = List.replicate n a2c ∧ q.sb = [] ∧ q.ver = 0 ∧ ∀ x ∈ q.ms, x.bs = [] from ⟨q1, q2, q3, q4, q5, q6⟩)
    obtain ⟨A0, c0, hvr⟩ : ∃ A c, q.vr = .slice A m c := by
     obtain ⟨A, c, e⟩ := Kd.N_slice hq.rw
     rw [List.length_map, q1] at e
     exact ⟨A, c, e⟩
    have HVR := za hvr
    clear hq q1 q2 q3 q4 q5 q6
    have HLN := za (show (q.ms.map Own1.p ++ [wr.drew.heap.size]).length = m + 1 by rw [List.length_append, List.length_map, H1.out.1]; rfl)
    have HPD := za (show w.heap.size ≤ wr.drew.heap.size from HBR.out.size)
    go_upto_region 7 with fail
    have mixed : Tryz.prog.follows .mixedOrders = true := by kernel_rfl
    go_region_law_o (first
     | ((with_reducible refine a3s (.call { callee := .value (.func 31), args := #[], argTypes := #[] }) rfl ?_); go_loud (refine b3h rfl rfl Tryz.func31 (by kernel_rfl) rfl #[] (by simp [Act.eval, Act.put]) ?_; refine (b4r (upO who 11 wr.heap.size) (q.ms.length + 3) w.heap.size wr.drew HPD.out).mono ?_; rintro x w5 ⟨rfl, hl5, hb5⟩; have HL5 := za hl5; have HB5 := za hb5; have HQ5 := za (HQ.out.below hb5 (q.ms.length + 3) (by omega) (by omega) (by omega) (fun t ht => by omega)); have HBX := za (below_step HBR.out hb5); have np := HQ5.out.c2; rw [HVR.out] at np; have npa := fun o => pw_cell_below (below_alloc (Below.refl w5.heap.size w5) o) np; clear hl5 hb5; refine ⟨_, rfl, ?_⟩))
     | ((with_reducible refine a3s (.call { callee := .builtin .append, args := #[.tmp 36, .tmp 38], argTypes := #[62, 62] }) rfl ?_); go_loud (refine b1r kP w.heap.size rfl (.tmp 36) (.tmp 38) 62 65 (.pointer none) 8 rfl Tryz.underlying62 infoP rfl (by decide) (by decide) q.vr (q.ms.map Own1.p) wr.drew.heap.size [.pointer (some ⟨wr.drew.heap.size, 0, none⟩)] (fun k_ => (upO (upO who 11 wr.heap.size) (q.ms.length + 3) wr.drew.heap.size k_ = 1 ∧ k_ ≠ w2.heap.size) ∨ w5.heap.size ≤ k_) (fun _ => False) (by rw [HVR.out]; simp [Act.eval, Act.put]) (by simp [Act.eval, Act.put]) (fun _ _ => rfl) (fun _ hk => hk.elim) (fun k_ hk => .inr hk) (Kd.N_mono HQ5.out.rw (fun _ hk => .inl hk)) HBX.out.size (by rw [List.length_map]; have := H1.out.1; omega) ?_; intro v9 w9 hn9 hg9 hat9; obtain ⟨A9, c9, hv9⟩ := Kd.N_slice hn9; rw [HLN.out] at hv9; subst hv9; have HN9 := za hn9; have HG9 := za hg9; have HP9 := za ((hg9.block w2.heap.size HQ5.out.lt (fun e => (HQ5.out.rw.1 _ e.symm).2 rfl)).trans HQ5.out.hd); have rp : w9.cell? ⟨w2.heap.size, 2, none⟩ = some q.vr := (by simp [World.cell?, HP9.out]); rw [HVR.out] at rp; have rf : w9.frozen? ⟨w2.heap.size, 2, none⟩ = false := (by simp [World.frozen?, HP9.out]); clear hn9 hg9 hat9)))
    all_goals (go_wp2_with fail)
    all_goals go_roundw
    all_goals first
     | (simp [intOf]; omega)
     | skip
    all_goals exact ⟨m + 1, by omega, by go_num, ⟨⟨_, _, HQ5.out.more ⟨wr.drew.heap.size, _, _⟩ HL5.out HN9.out HG9.out (by have := H1.out.1; omega), by simp [H1.out.1], H1.out.2.1, H1.out.2.2.1, H1.out.2.2.2.1, H1.out.2.2.2.2.1, fun x hx => (List.mem_append.1 hx).elim (fun h => H1.out.2.2.2.2.2 x h) (fun h => by rw [List.mem_singleton.1 h])⟩, (pw_below_grown HBX.out _ HBX.out.size HG9.out (fun k_ hk => Kd.N_base HQ5.out.rw k_ hk)).setCell (by have := HQ5.out.lq; omega) _⟩⟩
  · obtain rfl : m = n := by omega
    have HE := za (b6y HR.out HN1.out)
    go_wp2
    exact bodyPost_ret (v := .tuple #[.pointer (some ⟨w2.heap.size, 0, none⟩), .int .i64 0]) (by simp [results, Tryz.results7, go_sem]) rfl ⟨_, rfl, HE.out⟩
theorem b3q (l : List (List E)) : l.flatten.length = sumL l := by rw [List.length_flatten]; rfl
theorem b1u (l : List (List E)) (m : Nat) (h : m < l.length) : (l.take (m + 1)).flatten = (l.take m).flatten ++ l.getD m [] := by
 rw [List.take_succ_eq_append_getElem h, List.flatten_append, List.getD_eq_getElem?_getD, List.getElem?_eq_getElem h]
 simp
theorem a9q (l : List (List E)) (m : Nat) : (l.take m).flatten.length ≤ sumL l := by
 rw [← b3q l]
 conv => rhs; rw [← List.take_append_drop m l]
 rw [List.flatten_append, List.length_append]
 omega
theorem a3g (a : Qa) : (a0l a).length ≤ a.S.length := by unfold a0l; exact List.length_filterMap_le _ _
theorem a6d (a : Qa) : (allQ a).length ≤ a.S.length + a.sh.length + sumL a.loc := by
 unfold allQ
 rw [a0i, List.length_append, List.length_append, b3q]
 have := a3g a
 omega
theorem V_to {w : World} {b b' : Nat} {ok ok' : Nat → Prop} {v : Value} {l : List E} (h : Kd.V k33 33 w b ok v l) (hk : ∀ k, ok k → ok' k) : Kd.V k33 33 w b' ok' v l := Kd.V_mono (show Kd.V k33 33 w b' ok v l from h) hk
theorem a6p {w0 w : World} {pq : Nat} {a : Qa} {n : Nat} {B : List (Nat × Obj)} (h : QOk w0 w pq a n B) (hn : n ≤ 900) :
 Calls Tryz.prog 11 #[.pointer (some ⟨pq, 0, none⟩)] w fun e w' => ∃ v0_ : Value, e = .returned v0_ ∧ NewE w w' v0_ (allQ a) := by
 have HQ := za h
 obtain ⟨f1, f2, f3⟩ := h.few
 have HC := za h.cnt
 have HSE := za (show (a0l a).length ≤ 8 by have := a3g a; omega)
 obtain ⟨who, q, h1, h2, _⟩ := h.ex
 obtain ⟨g, cap, hv, hc, _, hr⟩ := h1.lists
 have e1 := h2.len
 have hp := h1.c2
 rw [hv, e1] at hp
 rw [e1] at hc
 have HH1 := za h1
 have HH2 := za h2
 have HR := za hr
 have HP := za hp
 have HSS := za (show a0d a.sh by rw [← h2.sh]; exact a0y _)
 have HLE := za e1
 clear h h1 h2 hv hr hp e1
 go_enter Tryz.func11, Tryz.ntmps11
 go_wp2_with fail
 refine (b1n HQ.out).mono ?_
 rintro e w1 ⟨v1, rfl, hv1, hb1⟩
 obtain ⟨A1, c1, rfl⟩ := Kd.V_slice hv1
 have HB1 := za hb1
 have HV1 := za (Kd.V_reads' hv1)
 clear hv1 hb1
 go_wp2_with fail
 refine (entry_Sort.calls A1 c1 (a0l a) _ w1 HV1.out.2.2 HV1.out.2.1 (a5n (by have := HSE.out; omega))).mono ?_
 rintro e w2 ⟨v2, rfl, hv2, hb2⟩
 obtain ⟨A2, c2, rfl⟩ := Kd.V_slice hv2
 have HB2 := za (below_step HB1.out hb2)
 have HV2 := za hv2
 clear hv2 hb2
 go_wp2_with fail
 refine (a9n (HQ.out.below HB2.out) hn).mono ?_
 rintro e w3 ⟨v3, rfl, hv3, hb3⟩
 obtain ⟨A3, c3, rfl⟩ := Kd.V_slice hv3
 have HB3 := za (below_step HB2.out hb3)
 have HV3 := za hv3
 have HV23 := za (Kd.V_below HV2.out hb3)
 have HT := za (a6k 3000000 (a0b (a0l a)) a.sh (a0y _) HSS.out (by rw [a0i]; have := HSE.out; have := HC.out; omega) (by rw [a0i]; have := HSE.out; have := HC.out; omega))
 clear hv3 hb3
 go_wp2_with fail
 refine (entry_Merge.calls 3000000 _ A2 c2 (a0b (a0l a)) _ A3 c3 a.sh _ w3 (V_to HV23.out (fun _ hk => hk)) (V_to HV3.out (fun _ hk => hk)) HT.out).mono ?_
 rintro e w4 ⟨v4, rfl, hv4, hb4⟩
 have HB4 := za (below_step HB3.out hb4)
 have HX := za (show Kd.V k33 33 w4 w.heap.size (fun k => w.heap.size ≤ k) v4 (a0b (a0l a ++ a.sh ++ (a.loc.take 0).flatten)) from by
  rw [show a0b (a0l a ++ a.sh ++ (a.loc.take 0).flatten) = a0b (a0b (a0l a) ++ a.sh) from by
   rw [List.take_zero, List.flatten_nil, List.append_nil]; exact a1y ((a0n _).symm.append_right _)]
  exact V_to (Kd.R_V (base' := 0) hv4) (fun k hk => Nat.le_trans HB3.out.size hk))
 have hp4 := pw_cell_below HB4.out HP.out
 clear hv4 hb4
 go_wp2
 go_loopw [3, 17] (fun s i wr => ∃ m : Nat, m ≤ a.loc.length ∧ i = .int .i64 m ∧ Aside0 (Kd.V k33 33 wr w.heap.size (fun k => w.heap.size ≤ k) s (a0b (a0l a ++ a.sh ++ (a.loc.take m).flatten))) ∧ Aside0 (Below w.heap.size w wr)) (fun _ i _ => a.loc.length - (intOf i).toNat)
 case atStart => exact ⟨0, Nat.zero_le _, rfl, HX, HB4⟩
 case round =>
  obtain ⟨m, hm, rfl, HR1, HB⟩ := hrel
  by_cases hlt : m < a.loc.length
  · obtain ⟨mm, hmm⟩ : ∃ mm, q.ms[m]? = some mm := ⟨_, List.getElem?_eq_getElem (by have := HLE.out; omega)⟩
    have HMM := za hmm
    have x1 := pw_cell_below HB.out (HR.out m mm hmm)
    have HLM := za (HH2.out.cntL hmm)
    have HGM := za (HH2.out.good mm (List.mem_of_getElem? hmm))
    have HNM := za (a2p HGM.out (by have := HLM.out; omega))
    have HOW := za ((HH1.out.below HB.out 11 (by have := HH1.out.few; omega)).ow m mm hmm)
    obtain ⟨L1, hL1⟩ : ∃ L1, L1 = a0b (a0l a ++ a.sh ++ (a.loc.take m).flatten) := ⟨_, rfl⟩
    obtain ⟨L2, hL2⟩ : ∃ L2, L2 = a0b (allB mm.bs) := ⟨_, rfl⟩
    have HEQ := za (show a0b (a0l a ++ a.sh ++ (a.loc.take (m + 1)).flatten) = a0b (L1 ++ L2) by
     rw [b1u a.loc m hlt, HH2.out.at_ hmm, ← List.append_assoc, hL1, hL2]
     exact a1y ((a0n _).symm.append_right _))
    have HLS := za (show L1.length + L2.length ≤ 1900 by
     rw [hL1, hL2, a0i, a0i, List.length_append, List.length_append]
     have := a9q a.loc m
     have := HSE.out
     have := HC.out
     have := HLM.out
     omega)
    rw [← hL1] at HR1
    have HMT := za (a6k 3000000 L1 L2 (by rw [hL1]; exact a0y _) (by rw [hL2]; exact a0y _) (by have := HLS.out; omega) (by have := HLS.out; omega))
    have HL2 := za hL2
    obtain ⟨A5, c5, e5⟩ := Kd.V_slice HR1.out
    subst e5
    clear hmm hL1 hL2
    go_wp2_with fail
    refine (@a5r (XO (upO who 11 w.heap.size) (m + 3) wr.heap.size) _ _ _ _ _ HOW.out.1 HGM.out.snd (by have := HNM.out; have := HLM.out; omega) (by have := HLM.out; omega)).mono ?_
    rintro e w6 ⟨v6, rfl, hv6, hb6⟩
    rw [← HL2.out] at hv6
    obtain ⟨A6, c6, rfl⟩ := Kd.V_slice hv6
    have HB6 := za (below_step HB.out hb6)
    have HV6 := za hv6
    have HR6 := za (Kd.V_below HR1.out hb6)
    clear hv6 hb6
    go_wp2_with fail
    refine (entry_Merge.calls 3000000 _ A5 c5 L1 _ A6 c6 L2 _ w6 (V_to HR6.out (fun _ hk => hk)) (V_to HV6.out (fun _ hk => hk)) HMT.out).mono ?_
    rintro e w7 ⟨v7, rfl, hv7, hb7⟩
    have HB7 := za (below_step HB6.out hb7)
    have HR7 := za hv7
    clear hv7 hb7
    go_wp2
    go_roundw
    case rel => exact ⟨m + 1, by omega, by go_num, ⟨by rw [HEQ.out]; exact V_to (Kd.R_V (base' := 0) HR7.out) (fun k hk => Nat.le_trans HB6.out.size hk)⟩, HB7⟩
    case measure => simp [intOf]; omega
  · obtain rfl : m = a.loc.length := by omega
    rw [List.take_length] at HR1
    have HR2 := za (show Kd.V k33 33 wr w.heap.size (fun k => w.heap.size ≤ k) _ (allQ a) from HR1.out)
    clear HR1
    obtain ⟨A5, c5, e5⟩ := Kd.V_slice HR2.out
    subst e5
    have HC1 := za (Kd.V_reads' HR2.out).2.1
    have HM := za (show (allQ a).length ≤ 9223372036854775807 by have := a6d a; have := HC.out; omega)
    have HV := za (show Kd.V k33 33 wr w.heap.size (fun k => w.heap.size ≤ k) (.slice A5 (allQ a).length (allQ a).length) (allQ a) from Kd.V_mk (Nat.le_refl _) (Kd.V_F HR2.out))
    go_wp2_with (first | (go_at_call 48; (refine (a5e A5 (allQ a).length c5 _ HC1.out HM.out).mono ?_); rintro e w9 ⟨rfl, rfl⟩))
    go_ret
    exact ⟨_, rfl, HV.out, HB.out⟩
theorem b1t {w0 w : World} {pq : Nat} {a : Qa} {n : Nat} {B : List (Nat × Obj)} (h : QOk w0 w pq a n B) (hn : n ≤ 900) :
 Calls Tryz.prog 12 #[.pointer (some ⟨pq, 0, none⟩)] w fun e w' => e = .returned (.int .i64 (allQ a).length) ∧ Below w.heap.size w w' := by
 have HQ := za h
 clear h
 go_enter Tryz.func12, Tryz.ntmps12
 go_wp2_with fail
 refine (a6p HQ.out hn).mono ?_
 rintro e w1 ⟨v1, rfl, hv1, hb1⟩
 obtain ⟨A1, c1, rfl⟩ := Kd.V_slice hv1
 have HB1 := za hb1
 clear hv1 hb1
 go_wp2
 go_ret
 exact ⟨rfl, HB1.out⟩
end Go.Proofs.YthghkglkifeagaaGreat.V
end
section
set_option linter.unusedVariables false
set_option linter.unusedSimpArgs false
namespace Go.Proofs.YthghkglkifeagaaGreat.V
open Go.RowKit Go.Proofs.YthghkglkifeagaaGreatW.PrintWords Go.Proofs.YthghkglkifeagaaGreatW.PrintLast Go.Proofs.YthghkglkifeagaaGreatW.PrintMore
attribute [local go_sem] max2_int min2_int max_two min_two max_three min_three max_four min_four
def a1k (k : Int) (es : List E) : List E := (a0b es).take (a0o k es.length + 1)
def a3t (L : List E) (d : Nat) : Value × Bool := if L = [] then (.agg #[.int .u64 0, .int .i64 0], false) else (.agg #[.int .u64 (L.getD (d % L.length) ⟨0, 0⟩).f0, .int .i64 (L.getD (d % L.length) ⟨0, 0⟩).f1], true)
def a4a (k : Int) (d : Nat) (es : List E) (w : World) (x : Ending) (w' : World) : Prop :=
  x = .returned (.tuple #[(a3t (a1k k es) d).1, .bool (a3t (a1k k es) d).2]) ∧ Below w.heap.size w w'
theorem b8r {k : Int} {d : Nat} {es : List E} {w w' : World} {x : Ending} (h0 : a1k k es = []) (hx : x = .returned (.tuple #[.agg #[.int .u64 0, .int .i64 0], .bool false])) (hb : Below w.heap.size w w') : a4a k d es w x w' := by
 unfold a4a a3t; rw [if_pos h0]; exact ⟨hx, hb⟩
theorem b7r {k : Int} {d : Nat} {es : List E} {w w' : World} {x : Ending} {e : E} (h0 : a1k k es ≠ []) (he : (a1k k es).getD (d % (a1k k es).length) ⟨0, 0⟩ = e) (hx : x = .returned (.tuple #[.agg #[.int .u64 e.f0, .int .i64 e.f1], .bool true])) (hb : Below w.heap.size w w') : a4a k d es w x w' := by
 unfold a4a a3t; rw [if_neg h0, he]; exact ⟨hx, hb⟩
theorem c3e (k : Int) (m : Nat) : a0o ((a0o k m : Int) + 1) m = min (a0o k m + 1) m := by
 have := c3c k m
 generalize a0o k m = q at *
 unfold a0o mn mx
 rcases Nat.le_total (q + 1) m with h | h <;> (repeat' split) <;> omega
theorem b5n (k : Int) (es : List E) : (a0b es).take (a0o ((a0o k es.length : Int) + 1) es.length) = a1k k es := by
 unfold a1k
 rw [c3e]
 rcases Nat.le_total (a0o k es.length + 1) es.length with h | h
 · rw [Nat.min_eq_left h]
 · rw [Nat.min_eq_right h, List.take_of_length_le (by rw [a0i]; exact Nat.le_refl _), List.take_of_length_le (by rw [a0i]; exact h)]
theorem c1p {k : Int} (m : Nat) (h : k < 0) : a0o k m = 0 := by unfold a0o mn mx; (repeat' split) <;> omega
theorem a6t {k : Int} {m : Nat} (h0 : 0 ≤ k) (h : k ≤ m) : a0o k m = k.toNat := by unfold a0o mn mx; (repeat' split) <;> omega
theorem b0v {k : Int} {m : Nat} (h : (m : Int) < k) : a0o k m = m := by unfold a0o mn mx; (repeat' split) <;> omega
theorem b8j [XSet] (base p : Nat) (ver : Int) (v : Value) (bs : List Bk) (k : Int) (d : Nat) (w : World) (h : ShAt w base p ver v bs) (hd : d < 18446744073709551616) (hl : bs.length ≤ 1000) (ha : (allB bs).length ≤ 1000000) :
 Calls Tryz.prog 51 #[.pointer (some ⟨p, 0, none⟩), .int .i64 k, .int .u64 (d : Int)] w (a4a k d (allB bs) w) := by
 have HZ := za (below_alloc (Below.refl w.heap.size w) (.cells #[.int .u64 0, .int .i64 0] 33))
 have HX := za (heap_alloc_new w (.cells #[.int .u64 0, .int .i64 0] 33))
 have HS := za (h.below HZ.out)
 have HA := za ha
 have HFE := za (b5n k (allB bs))
 have HLF := za (show (a1k k (allB bs)).length ≤ 1000000 from by
  unfold a1k
  rw [List.length_take, a0i]
  omega)
 have HW := za (show w.heap.size < (w.alloc (.cells #[.int .u64 0, .int .i64 0] 33)).heap.size by simp)
 obtain ⟨L, hL⟩ : ∃ L, L = a1k k (allB bs) := ⟨_, rfl⟩
 have HLE := za hL
 clear h hd
 go_enter Tryz.func51, Tryz.ntmps51
 go_upto_region 1 with fail
 obtain ⟨wz, hwz⟩ : ∃ wz : World, wz = w.alloc (.cells #[.int .u64 0, .int .i64 0] 33) := ⟨_, rfl⟩
 rw [← hwz] at HZ HX HS HW ⊢
 clear hwz hL
 go_cut [8] (fun s8 wx => ∃ A2 c2, s8 = .slice A2 L.length c2 ∧ Aside0 (k33.C wx A2 L.length L) ∧ Aside0 (Below wz.heap.size wz wx))
 case first =>
  by_cases h0 : k < 0
  · have HC := za (c1p (allB bs).length h0)
    go_wp2_with fail
    refine (a5p base p ver v bs _ HS.out hl HA.out).mono ?_
    rintro y w1 ⟨rfl, hb1⟩
    have HB1 := za hb1
    have HS1 := za (HS.out.below hb1)
    clear hb1
    go_wp2_with fail
    refine (a5v base p ver v bs _ _ HS1.out hl HA.out).mono ?_
    rintro y w2 ⟨v2, rfl, hv2, hb2⟩
    rw [show (a0b (allB bs)).take (a0o 1 (allB bs).length) = L from by rw [HLE.out, ← HFE.out, HC.out]; rfl] at hv2
    obtain ⟨A2, c2, rfl⟩ := Kd.V_slice hv2
    have HV2 := za (Kd.V_reads' hv2)
    have HB2 := za (below_step HB1.out hb2)
    clear hv2 hb2
    go_wp2_with fail
    go_meet
    exact ⟨A2, c2, rfl, ⟨HV2.out.2.2⟩, HB2⟩
  · by_cases h1 : k ≤ ((allB bs).length : Int)
    · have HC := za (a6t (m := (allB bs).length) (by omega) h1)
      have HKT := za (show ((k.toNat : Nat) : Int) = k by omega)
      have hw1 : IntKind.i64.wrap (k + 1) = k + 1 := IntWalk.i64_in _ (by have := HA.out; omega)
      have h01 : 0 ≤ k := by omega
      have h02 : ¬ ((allB bs).length : Int) < k := by omega
      go_wp2_with fail
      refine (a5p base p ver v bs _ HS.out hl HA.out).mono ?_
      rintro y w1 ⟨rfl, hb1⟩
      have HB1 := za hb1
      have HS1 := za (HS.out.below hb1)
      clear hb1
      go_wp2_with fail
      refine (a5v base p ver v bs _ _ HS1.out hl HA.out).mono ?_
      rintro y w2 ⟨v2, rfl, hv2, hb2⟩
      rw [show (a0b (allB bs)).take (a0o (k + 1) (allB bs).length) = L from by rw [HLE.out, ← HFE.out, HC.out, HKT.out]] at hv2
      obtain ⟨A2, c2, rfl⟩ := Kd.V_slice hv2
      have HV2 := za (Kd.V_reads' hv2)
      have HB2 := za (below_step HB1.out hb2)
      clear hv2 hb2
      go_wp2_with fail
      go_meet
      exact ⟨A2, c2, rfl, ⟨HV2.out.2.2⟩, HB2⟩
    · have HC := za (b0v (m := (allB bs).length) (show ((allB bs).length : Int) < k by omega))
      have hw1 : IntKind.i64.wrap (((allB bs).length : Int) + 1) = ((allB bs).length : Int) + 1 := IntWalk.i64_in _ (by have := HA.out; omega)
      have h01 : 0 ≤ k := by omega
      have h02 : ((allB bs).length : Int) < k := by omega
      go_wp2_with fail
      refine (a5p base p ver v bs _ HS.out hl HA.out).mono ?_
      rintro y w1 ⟨rfl, hb1⟩
      have HB1 := za hb1
      have HS1 := za (HS.out.below hb1)
      clear hb1
      go_wp2_with fail
      refine (a5v base p ver v bs _ _ HS1.out hl HA.out).mono ?_
      rintro y w2 ⟨v2, rfl, hv2, hb2⟩
      rw [show (a0b (allB bs)).take (a0o (((allB bs).length : Int) + 1) (allB bs).length) = L from by rw [HLE.out, ← HFE.out, HC.out]] at hv2
      obtain ⟨A2, c2, rfl⟩ := Kd.V_slice hv2
      have HV2 := za (Kd.V_reads' hv2)
      have HB2 := za (below_step HB1.out hb2)
      clear hv2 hb2
      go_wp2_with fail
      go_meet
      exact ⟨A2, c2, rfl, ⟨HV2.out.2.2⟩, HB2⟩
 case rest =>
  obtain ⟨A2, c2, rfl, HC, HB⟩ := hcut
  have hx := blk_below HX.out HB.out
  have x0 : wc.cell? ⟨w.heap.size, 0, none⟩ = some (.int .u64 0) := (blk_cell hx 0).trans rfl
  have x1 : wc.cell? ⟨w.heap.size, 1, none⟩ = some (.int .i64 0) := (blk_cell hx 1).trans rfl
  have f0 : wc.frozen? ⟨w.heap.size, 0, none⟩ = false := a1h hx 0
  have f1 : wc.frozen? ⟨w.heap.size, 1, none⟩ = false := a1h hx 1
  have HB2 := za (below_step HZ.out HB.out)
  clear hx
  by_cases h0 : L = []
  · have HL0 := za h0
    subst h0
    go_wp2
    exact bodyPost_ret (v := .tuple #[.agg #[.int .u64 0, .int .i64 0], .bool false]) (by simp [results, Tryz.results51, go_sem, x0, x1]) rfl (b8r HLE.out.symm rfl ((HB2.out.setCell (Nat.le_refl _) _).setCell (Nat.le_refl _) _))
  · have hpos : 0 < L.length := by
     cases L with
     | nil => exact absurd rfl h0
     | cons _ _ => simp
    obtain ⟨r, hr⟩ : ∃ r, d % L.length = r := ⟨_, rfl⟩
    have hrl : r < L.length := by rw [← hr]; exact Nat.mod_lt _ hpos
    obtain ⟨e, he⟩ : ∃ e, L.getD r ⟨0, 0⟩ = e := ⟨_, rfl⟩
    obtain ⟨ad, e1, y0, y1⟩ := a0e HC.out (r : Int) (by omega) (by omega)
    subst e1
    have hrd : a0a L (r : Int) = e := by unfold a0a; rw [Int.toNat_natCast]; exact he
    rw [Int.toNat_natCast, hrd] at y0 y1
    have r1 : (d : Int).tmod (L.length : Int) = (r : Int) := by rw [Int.tmod_eq_emod_of_nonneg (by omega), ← hr]; rfl
    have r2 : (d : Int) % (L.length : Int) = (r : Int) := by rw [← hr]; rfl
    have r3 : ¬ ((L.length : Int) = 0) := by omega
    have r4 : ¬ (L.length = 0) := by omega
    have r6 : ((L.length : Int) == 0) = false := by rw [beq_eq_false_iff_ne]; omega
    have hlL : L.length ≤ 1000000 := by rw [HLE.out]; exact HLF.out
    have s1 : IntKind.u64.wrap (L.length : Int) = (L.length : Int) := IntWalk.u64_in _ (by omega)
    have s2 : IntKind.u64.wrap (r : Int) = (r : Int) := IntWalk.u64_in _ (by omega)
    have s3 : IntKind.i64.wrap (r : Int) = (r : Int) := IntWalk.i64_in _ (by omega)
    have r7 : decide (L = []) = false := decide_eq_false h0
    have r8 : decide (L.length = 0) = false := decide_eq_false r4
    have hri : (r : Int) < (L.length : Int) := by omega
    have hri0 : (0 : Int) ≤ (r : Int) := by omega
    have HEE := za (show (a1k k (allB bs)).getD (d % (a1k k (allB bs)).length) ⟨0, 0⟩ = e by rw [← HLE.out, hr]; exact he)
    have HNE := za (show a1k k (allB bs) ≠ [] by rw [← HLE.out]; exact h0)
    clear hr he hrd hpos
    go_wp2
    exact bodyPost_ret (v := .tuple #[.agg #[.int .u64 e.f0, .int .i64 e.f1], .bool true]) (by simp [results, Tryz.results51, go_sem, x0, x1]) rfl (b7r HNE.out HEE.out rfl ((HB2.out.setCell (Nat.le_refl _) _).setCell (Nat.le_refl _) _))
end Go.Proofs.YthghkglkifeagaaGreat.V
end
