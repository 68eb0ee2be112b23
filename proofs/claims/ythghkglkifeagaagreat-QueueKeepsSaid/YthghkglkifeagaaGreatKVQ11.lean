-- a text of this work, without what this claim doesn't use (wip/shake.py)
import Derived.Test.YthghkglkifeagaaGreatKVQ5
import Derived.Test.YthghkglkifeagaaGreatKVLsm6
import Derived.Test.YthghkglkifeagaaGreatKVCall
import Derived.IntWalk
import Derived.Test.YthghkglkifeagaaGreatKVLsmC
import Derived.Test.YthghkglkifeagaaGreatKVLsm12
section
set_option linter.unusedVariables false
set_option linter.unusedSimpArgs false
namespace Go.Proofs.YthghkglkifeagaaGreat.V
open Go.RowKit Go.Proofs.YthghkglkifeagaaGreatW.PrintWords Go.Proofs.YthghkglkifeagaaGreatW.PrintLast Go.Proofs.YthghkglkifeagaaGreatW.PrintMore
structure QRest (who : Nat → Nat) (w : World) (base : Nat) (q : QSt) : Prop where
  sl : SlotsAt w q.ps q.gs q.L
  wps : who q.ps = 0
  wgs : who q.gs = 0
  ow : ∀ (t : Nat) m, q.ms[t]? = some m → LsmO who (t + 3) w base m.p m.v m.bs
  sh : ShO who 2 w base q.psh q.ver q.vs q.sb
namespace QRest
variable {who : Nat → Nat} {w w1 : World} {base : Nat} {q : QSt}
theorem other (h : QRest who w base q) {s : Nat} (hs : w.heap.size ≤ w1.heap.size) (hb : ∀ k, k < w.heap.size → who k ≠ s → w1.heap[k]? = w.heap[k]?) (h0 : s ≠ 0) (h2 : s ≠ 2) (h3 : ∀ t, t < q.ms.length → s ≠ t + 3) :
 QRest (upO who s w.heap.size) w1 base q := by
 obtain ⟨l1, l2⟩ := h.sl.lt
 exact ⟨⟨h.sl.1, (hb _ l1 (by rw [h.wps]; omega)).trans h.sl.2.1, (hb _ l2 (by rw [h.wgs]; omega)).trans h.sl.2.2.1, h.sl.2.2.2⟩, by rw [upO_lt l1]; exact h.wps, by rw [upO_lt l2]; exact h.wgs,
  fun t m hm => (h.ow t m hm).other hs hb (by have := h3 t (List.getElem?_eq_some_iff.1 hm).1; omega), h.sh.other hs hb (by omega)⟩
theorem more (h : QRest who w base q) (m : Own1) (hm : LsmO who (q.ms.length + 3) w base m.p m.v m.bs) : QRest who w base { q with ms := q.ms ++ [m] } := by
 refine ⟨h.sl, h.wps, h.wgs, fun t n hn => ?_, h.sh⟩
 have hn : (q.ms ++ [m])[t]? = some n := hn
 by_cases ht : t < q.ms.length
 · rw [List.getElem?_append_left ht] at hn
   exact h.ow t n hn
 · rw [List.getElem?_append_right (by omega)] at hn
   have hlt := (List.getElem?_eq_some_iff.1 hn).1
   rw [List.length_singleton] at hlt
   have he : t = q.ms.length := by omega
   subst he
   rw [Nat.sub_self] at hn
   injection hn with hn
   subst hn
   exact hm
theorem row (h : QRest who w base q) (v : Value) : QRest who w base { q with vr := v } := ⟨h.sl, h.wps, h.wgs, h.ow, h.sh⟩
end QRest
structure QPre (who : Nat → Nat) (w : World) (base pq : Nat) (q : QSt) : Prop where
  hd : w.heap[pq]? = some (.cells #[.int .i64 q.k, .pointer (some ⟨q.ps, 0, none⟩), q.vr, .pointer (some ⟨q.psh, 0, none⟩)] 64 (0, 0))
  wq : who pq = 1
  rw : Kd.N kP 65 w base (fun k => who k = 1 ∧ k ≠ pq) q.vr (q.ms.map Own1.p)
  rest : QRest who w base q
  lq : base ≤ pq
  ls : base ≤ q.ps ∧ base ≤ q.gs
  few : q.ms.length ≤ 8
namespace QPre
variable {who : Nat → Nat} {w w1 : World} {base pq : Nat} {q : QSt}
theorem lt (h : QPre who w base pq q) : pq < w.heap.size := (Array.getElem?_eq_some_iff.1 h.hd).1
theorem c2 (h : QPre who w base pq q) : w.cell? ⟨pq, 2, none⟩ = some q.vr := by simp [World.cell?, h.hd]
theorem other (h : QPre who w base pq q) {s : Nat} (hs : w.heap.size ≤ w1.heap.size) (hb : ∀ k, k < w.heap.size → who k ≠ s → w1.heap[k]? = w.heap[k]?) (h0 : s ≠ 0) (h1 : s ≠ 1) (h2 : s ≠ 2) (h3 : ∀ t, t < q.ms.length → s ≠ t + 3) :
 QPre (upO who s w.heap.size) w1 base pq q := by
 refine ⟨(hb pq h.lt (by rw [h.wq]; omega)).trans h.hd, by rw [upO_lt h.lt]; exact h.wq, ?_, h.rest.other hs hb h0 h2 h3, h.lq, h.ls, h.few⟩
 refine Kd.N_mono (Kd.N_step (Kd.N_bound h.rw) (fun k hk hlt => hb k hlt (by rw [hk.1.1]; omega))) (fun k hk => ?_)
 show upO who s w.heap.size k = 1 ∧ k ≠ pq
 rw [upO_lt hk.2]; exact hk.1
theorem below (h : QPre who w base pq q) (hb : Below w.heap.size w w1) (s : Nat) (h0 : s ≠ 0) (h1 : s ≠ 1) (h2 : s ≠ 2) (h3 : ∀ t, t < q.ms.length → s ≠ t + 3) : QPre (upO who s w.heap.size) w1 base pq q :=
 h.other hb.size (fun k hk _ => hb.block k hk) h0 h1 h2 h3
theorem more (h : QPre who w base pq q) (m : Own1) (hm : LsmO who (q.ms.length + 3) w base m.p m.v m.bs) {v1 : Value} {w2 : World}
 (hn : Kd.N kP 65 w2 base (fun k => (who k = 1 ∧ k ≠ pq) ∨ w.heap.size ≤ k) v1 (q.ms.map Own1.p ++ [m.p])) (hg : w.grownBy w2 q.vr.ownBlock) (h8 : q.ms.length < 8) :
 QPre (upO who 1 w.heap.size) (w2.setCell ⟨pq, 2, none⟩ v1) base pq { q with ms := q.ms ++ [m], vr := v1 } := by
 have hlt := h.lt
 have hown : ∀ k, q.vr.ownBlock = some k → who k = 1 ∧ k ≠ pq := fun k hk => h.rw.1 k hk
 have hne : some pq ≠ q.vr.ownBlock := fun e => (hown pq e.symm).2 rfl
 have hd2 := (hg.block pq hlt hne).trans h.hd
 have hb : ∀ k, k < w.heap.size → who k ≠ 1 → (w2.setCell ⟨pq, 2, none⟩ v1).heap[k]? = w.heap[k]? := fun k hk hw => by
  rw [setc_ne (fun e => hw (by rw [e]; exact h.wq))]
  exact hg.block k hk (fun e => hw (hown k e.symm).1)
 have hsz : w.heap.size ≤ (w2.setCell ⟨pq, 2, none⟩ v1).heap.size := by
  simp only [World.setCell, Array.size_modify]
  exact hg.size
 refine ⟨blk_put hd2 2 v1 rfl, by rw [upO_lt hlt]; exact h.wq, ?_, ((h.rest.more m hm).other hsz hb (by omega) (by omega) (fun t _ => by omega)).row v1, h.lq, h.ls, by simp; omega⟩
 rw [List.map_append]
 refine Kd.N_mono (Kd.N_far hn (p := ⟨pq, 2, none⟩) (fun k hk => ?_) v1) (fun k hk => ?_)
 · rcases hk with hk | hk
   · exact hk.2
   · show k ≠ pq
     omega
 · rcases hk with hk | hk
   · refine ⟨?_, hk.2⟩
     by_cases h3 : k < w.heap.size
     · rw [upO_lt h3]; exact hk.1
     · exact upO_ge (by omega)
   · exact ⟨upO_ge hk, by omega⟩
theorem all (h : QPre who w base pq q) (hl : q.L.length = q.ms.length) (h1 : 1 ≤ q.ms.length) : QAt who w base pq q :=
 ⟨h.hd, h.wq, Kd.N_mono h.rw (fun k hk => hk.1), h.rest.sl, h.rest.wps, h.rest.wgs, h.rest.ow, h.rest.sh, h.lq, h.ls, hl, h.few, h1⟩
end QPre
end Go.Proofs.YthghkglkifeagaaGreat.V
end
section
set_option linter.unusedVariables false
set_option linter.unusedSimpArgs false
namespace Go.Proofs.YthghkglkifeagaaGreat.V
open Go.RowKit Go.Proofs.YthghkglkifeagaaGreatW.PrintWords Go.Proofs.YthghkglkifeagaaGreatW.PrintLast Go.Proofs.YthghkglkifeagaaGreatW.PrintMore
structure Qa where
  k : Nat
  S : List (Option E)
  loc : List (List E)
  sh : List E
def One.o (x : One) : Option E := if x.full = true then some ⟨x.key, x.id⟩ else none
def bsE (bs : List Bk) : List E := sortE (allB bs)
def sumL (l : List (List E)) : Nat := (l.map List.length).sum
theorem sumL_set : ∀ (l : List (List E)) (t : Nat) (x : List E), t < l.length → sumL (l.set t x) + (l.getD t []).length = sumL l + x.length := by
 intro l
 induction l with
 | nil => intro t x h; simp at h
 | cons a r ih =>
  intro t x h
  cases t with
  | zero => simp [sumL]; omega
  | succ t =>
   have := ih t x (by simpa using h)
   simp only [sumL, List.set_cons_succ, List.map_cons, List.sum_cons, List.getD_cons_succ] at this ⊢
   omega
theorem sumL_get (l : List (List E)) (t : Nat) : (l.getD t []).length ≤ sumL l := by
 induction l generalizing t with
 | nil => simp
 | cons a r ih =>
  cases t with
  | zero => simp [sumL]
  | succ t =>
   have := ih t
   simp only [sumL, List.map_cons, List.sum_cons, List.getD_cons_succ] at this ⊢
   omega
def settleA (a : Qa) (t : Nat) (e : E) : Qa :=
  if (a.loc.getD t []).length + 1 ≤ a.k then ⟨a.k, a.S.set t none, a.loc.set t (sortE (e :: a.loc.getD t [])), a.sh⟩
  else ⟨a.k, a.S.set t none, a.loc.set t [], sortE (sortE (e :: a.loc.getD t []) ++ a.sh)⟩
def slotQ (a : Qa) (t : Nat) : Option E := (a.S[t]?).getD none
def settleQ (a : Qa) (t : Nat) : Qa := match slotQ a t with | some e => settleA a t e | none => a
def putQ (a : Qa) (t : Nat) (e : E) : Qa := { settleQ a t with S := (settleQ a t).S.set t (some e) }
def slotsE (a : Qa) : List E := a.S.filterMap id
def allQ (a : Qa) : List E := sortE (slotsE a ++ a.sh ++ a.loc.flatten)
structure QV (q : QSt) (a : Qa) (n : Nat) : Prop where
  k : q.k = a.k
  S : q.L.map One.o = a.S
  loc : q.ms.map (fun m => bsE m.bs) = a.loc
  good : ∀ m ∈ q.ms, Good m.bs
  sh : bsE q.sb = a.sh
  ok : ∀ b ∈ q.sb, okB b = true
  few : q.sb.length ≤ n
  ver : 0 ≤ q.ver ∧ q.ver ≤ n
  cnt : sumL a.loc + a.sh.length ≤ n
namespace QV
variable {q : QSt} {a : Qa} {n : Nat}
theorem len (h : QV q a n) : q.ms.length = a.loc.length := by rw [← h.loc, List.length_map]
theorem lenS (h : QV q a n) : q.L.length = a.S.length := by rw [← h.S, List.length_map]
theorem at_ (h : QV q a n) {t : Nat} {m : Own1} (hm : q.ms[t]? = some m) : a.loc.getD t [] = bsE m.bs := by
 rw [← h.loc, List.getD_eq_getElem?_getD, List.getElem?_map, hm]; rfl
theorem slot (h : QV q a n) {t : Nat} {o : One} (ho : q.L[t]? = some o) : slotQ a t = o.o := by
 unfold slotQ
 rw [← h.S, List.getElem?_map, ho]; rfl
theorem mono {m : Nat} (h : QV q a n) (hm : n ≤ m) : QV q a m := ⟨h.k, h.S, h.loc, h.good, h.sh, h.ok, Nat.le_trans h.few hm, ⟨h.ver.1, by have := h.ver.2; omega⟩, Nat.le_trans h.cnt hm⟩
theorem allsh (h : QV q a n) : (allB q.sb).length = a.sh.length := by rw [← h.sh]; unfold bsE; rw [sortE_length]
theorem cntL (h : QV q a n) {t : Nat} {m : Own1} (hm : q.ms[t]? = some m) : (allB m.bs).length = (a.loc.getD t []).length ∧ (allB m.bs).length ≤ n := by
 have h1 := h.at_ hm
 have h2 := sumL_get a.loc t
 have h3 := h.cnt
 have h4 : (bsE m.bs).length = (allB m.bs).length := by unfold bsE; rw [sortE_length]
 rw [h1] at h2 ⊢
 omega
end QV
theorem map_ms {ms ms' : List Own1} {t : Nat} {x : List Bk} (h : ms'.map Own1.bs = (ms.map Own1.bs).set t x) : ms'.map (fun m => bsE m.bs) = (ms.map (fun m => bsE m.bs)).set t (bsE x) := by
 have h1 : ∀ l : List Own1, l.map (fun m => bsE m.bs) = (l.map Own1.bs).map bsE := fun l => by rw [List.map_map]; rfl
 rw [h1, h1, h, List.map_set]
theorem good_ms {ms ms' : List Own1} {t : Nat} {x : List Bk} (h : ms'.map Own1.bs = (ms.map Own1.bs).set t x) (hg : ∀ m ∈ ms, Good m.bs) (hx : Good x) : ∀ m ∈ ms', Good m.bs := by
 intro m hm
 have h1 : m.bs ∈ ms'.map Own1.bs := List.mem_map_of_mem hm
 rw [h] at h1
 rcases List.mem_or_eq_of_mem_set h1 with h2 | h2
 · obtain ⟨m0, h3, h4⟩ := List.mem_map.1 h2
   rw [← h4]; exact hg m0 h3
 · rw [h2]; exact hx
theorem bsE_put (bs : List Bk) (e : E) : bsE (putL e bs) = sortE (e :: bsE bs) := by
 unfold bsE
 exact sortE_of_perm ((put_all bs e).trans ((sortE_perm (allB bs)).symm.cons e))
theorem bsE_add (l : List E) (bs : List Bk) : bsE (addL l bs) = sortE (l ++ bsE bs) := by
 unfold bsE
 exact sortE_of_perm ((addL_all l bs).trans ((sortE_perm (allB bs)).symm.append_left l))
theorem bsE_nil : bsE [] = [] := by unfold bsE; rw [allB_nil, sortE_nil]
theorem addL_len (l : List E) (bs : List Bk) : (addL l bs).length ≤ bs.length + 1 := addS_len bs.length (mkB l) bs
theorem settle_told {q q' : QSt} {a : Qa} {n t : Nat} {m : Own1} {o : One} {z : One} (h : QV q a n) (hn : n ≤ 800) (hm : q.ms[t]? = some m) (ho : q.L[t]? = some o) (hf : o.full = true) (hk : q'.k = q.k) (hz : z.full = false) (hL : q'.L = q.L.set t z)
 (hc : if (allB (putL ⟨o.key, o.id⟩ m.bs)).length ≤ q.k then q'.ms.map Own1.bs = (q.ms.map Own1.bs).set t (putL ⟨o.key, o.id⟩ m.bs) ∧ q'.sb = q.sb ∧ q'.ver = q.ver
  else q'.ms.map Own1.bs = (q.ms.map Own1.bs).set t [] ∧ q'.sb = addL (sortE (allB (putL ⟨o.key, o.id⟩ m.bs))) q.sb ∧ q'.ver = q.ver + 1) :
 QV q' (settleQ a t) (n + 1) := by
 have hs : slotQ a t = some ⟨o.key, o.id⟩ := by rw [h.slot ho]; unfold One.o; rw [if_pos hf]
 have hS : q'.L.map One.o = a.S.set t none := by
  rw [hL, List.map_set, h.S]
  unfold One.o
  rw [hz]; rfl
 have hlt : t < a.loc.length := by rw [← h.len]; exact (List.getElem?_eq_some_iff.1 hm).1
 have hcl := h.cntL hm
 have hpl : (allB (putL ⟨o.key, o.id⟩ m.bs)).length = (a.loc.getD t []).length + 1 := by
  rw [(put_all m.bs ⟨o.key, o.id⟩).length_eq, List.length_cons, hcl.1]
 have hat := h.at_ hm
 have hgm := h.good m (List.mem_of_getElem? hm)
 unfold settleQ
 rw [hs]
 show QV q' (settleA a t ⟨o.key, o.id⟩) (n + 1)
 unfold settleA
 rw [hpl, h.k] at hc
 have hcnt := h.cnt
 have hver := h.ver
 have hfew := h.few
 by_cases hk2 : (a.loc.getD t []).length + 1 ≤ a.k
 · rw [if_pos hk2] at hc ⊢
   obtain ⟨c1, c2, c3⟩ := hc
   refine ⟨by rw [hk]; exact h.k, hS, ?_, good_ms c1 h.good (good_put hgm _ (by omega)), by rw [c2]; exact h.sh, by rw [c2]; exact h.ok, by rw [c2]; omega, by rw [c3]; omega, ?_⟩
   · rw [map_ms c1, h.loc, bsE_put, hat]
   · have h1 := sumL_set a.loc t (sortE (⟨o.key, o.id⟩ :: a.loc.getD t [])) hlt
     rw [sortE_length, List.length_cons] at h1
     show sumL (a.loc.set t (sortE (⟨o.key, o.id⟩ :: a.loc.getD t []))) + a.sh.length ≤ n + 1
     omega
 · rw [if_neg hk2] at hc ⊢
   obtain ⟨c1, c2, c3⟩ := hc
   have h2 := addL_len (sortE (allB (putL ⟨o.key, o.id⟩ m.bs))) q.sb
   refine ⟨by rw [hk]; exact h.k, hS, ?_, good_ms c1 h.good good_nil, ?_, by rw [c2]; exact addL_okB h.ok, by rw [c2]; omega, by rw [c3]; omega, ?_⟩
   · rw [map_ms c1, h.loc, bsE_nil]
   · rw [c2, bsE_add, h.sh]
     show sortE (bsE (putL ⟨o.key, o.id⟩ m.bs) ++ a.sh) = _
     rw [bsE_put, hat]
   · have h1 := sumL_set a.loc t [] hlt
     rw [List.length_nil] at h1
     show sumL (a.loc.set t []) + (sortE (sortE (⟨o.key, o.id⟩ :: a.loc.getD t []) ++ a.sh)).length ≤ n + 1
     rw [sortE_length, List.length_append, sortE_length, List.length_cons]
     omega
theorem settle_none {a : Qa} {t : Nat} (h : slotQ a t = none) : settleQ a t = a := by unfold settleQ; rw [h]
theorem fill_told {q : QSt} {a : Qa} {n t : Nat} {z : One} (e : E) (h : QV q a n) (hz : z.full = true) (h0 : z.key = e.f0) (h1 : z.id = e.f1) : QV { q with L := q.L.set t z } { a with S := a.S.set t (some e) } n := by
 refine ⟨h.k, ?_, h.loc, h.good, h.sh, h.ok, h.few, h.ver, h.cnt⟩
 show (q.L.set t z).map One.o = a.S.set t (some e)
 rw [List.map_set, h.S]
 unfold One.o
 rw [hz, if_pos rfl, h0, h1]
theorem settleQ_S (a : Qa) (t : Nat) : (settleQ a t).S.length = a.S.length ∧ (settleQ a t).loc.length = a.loc.length ∧ (settleQ a t).k = a.k := by
 unfold settleQ
 split
 · unfold settleA
   split <;> simp
 · simp
end Go.Proofs.YthghkglkifeagaaGreat.V
end
section
set_option linter.unusedVariables false
set_option linter.unusedSimpArgs false
namespace Go.Proofs.YthghkglkifeagaaGreat.V
open Go.RowKit Go.Proofs.YthghkglkifeagaaGreatW.PrintWords Go.Proofs.YthghkglkifeagaaGreatW.PrintLast Go.Proofs.YthghkglkifeagaaGreatW.PrintMore
structure QOk (w0 w : World) (pq : Nat) (a : Qa) (n : Nat) (B : List (Nat × Obj)) : Prop where
  ex : ∃ who q, QAt who w w0.heap.size pq q ∧ QV q a n ∧ ∀ x ∈ B, w.heap[x.1]? = some x.2 ∧ who x.1 = 11 ∧ w0.heap.size ≤ x.1
  bel : Below w0.heap.size w0 w
namespace QOk
variable {w0 w w1 : World} {pq : Nat} {a : Qa} {n : Nat} {B : List (Nat × Obj)}
theorem lt (h : QOk w0 w pq a n B) : pq < w.heap.size := by obtain ⟨_, _, h1, _⟩ := h.ex; exact h1.lt
theorem lo (h : QOk w0 w pq a n B) : w0.heap.size ≤ w.heap.size := h.bel.size
theorem few (h : QOk w0 w pq a n B) : 1 ≤ a.loc.length ∧ a.loc.length ≤ 8 ∧ a.S.length = a.loc.length := by
 obtain ⟨_, _, h1, h2, _⟩ := h.ex
 have e1 := h2.len
 have e2 := h2.lenS
 have e3 := h1.some
 have e4 := h1.few
 have e5 := h1.len
 omega
theorem cnt (h : QOk w0 w pq a n B) : sumL a.loc + a.sh.length ≤ n := by obtain ⟨_, _, _, h2, _⟩ := h.ex; exact h2.cnt
theorem boxes {who : Nat → Nat} (hB : ∀ x ∈ B, w.heap[x.1]? = some x.2 ∧ who x.1 = 11 ∧ w0.heap.size ≤ x.1) {who' : Nat → Nat} (hk : Keep who w who' w1) : ∀ x ∈ B, w1.heap[x.1]? = some x.2 ∧ who' x.1 = 11 ∧ w0.heap.size ≤ x.1 := by
 intro x hx
 obtain ⟨h1, h2, h3⟩ := hB x hx
 obtain ⟨k1, k2⟩ := hk.2 x.1 (Array.getElem?_eq_some_iff.1 h1).1 h2
 exact ⟨k1.trans h1, k2, h3⟩
theorem below (h : QOk w0 w pq a n B) (hb : Below w.heap.size w w1) : QOk w0 w1 pq a n B := by
 obtain ⟨who, q, h1, h2, h3⟩ := h.ex
 exact ⟨⟨_, q, h1.below hb 11 (by have := h1.few; omega), h2, boxes h3 (Keep.below hb 11)⟩, below_step h.bel hb⟩
theorem box (h : QOk w0 w pq a n B) (hb : Below w.heap.size w w1) {g : Nat} {o : Obj} (hg : w.heap.size ≤ g) (ho : w1.heap[g]? = some o) : QOk w0 w1 pq a n ((g, o) :: B) := by
 obtain ⟨who, q, h1, h2, h3⟩ := h.ex
 refine ⟨⟨_, q, h1.below hb 11 (by have := h1.few; omega), h2, fun x hx => ?_⟩, below_step h.bel hb⟩
 rcases List.mem_cons.1 hx with rfl | hx
 · exact ⟨ho, upO_ge hg, Nat.le_trans h.lo hg⟩
 · exact boxes h3 (Keep.below hb 11) x hx
theorem at_ {x : Nat × Obj} (h : QOk w0 w pq a n B) (hx : x ∈ B) : w.heap[x.1]? = some x.2 := by obtain ⟨_, _, _, _, h3⟩ := h.ex; exact (h3 x hx).1
theorem top {g : Nat} {o : Obj} (h : QOk w0 w pq a n ((g, o) :: B)) : w.heap[g]? = some o := h.at_ (List.mem_cons_self ..)
theorem write {g : Nat} {o o' : Obj} (h : QOk w0 w pq a n ((g, o) :: B)) (hg : w.grownBy w1 (some g)) (ho : w1.heap[g]? = some o') (hne : ∀ x ∈ B, x.1 ≠ g) : QOk w0 w1 pq a n ((g, o') :: B) := by
 obtain ⟨who, q, h1, h2, h3⟩ := h.ex
 obtain ⟨k1, k2, k3⟩ := h3 (g, o) (List.mem_cons_self ..)
 have hlt : g < w.heap.size := (Array.getElem?_eq_some_iff.1 k1).1
 have hb : ∀ k, k < w.heap.size → who k ≠ 11 → w1.heap[k]? = w.heap[k]? := fun k hk hw => hg.block k hk (fun e => hw (by injection e with e; rw [e]; exact k2))
 refine ⟨⟨upO who 11 w.heap.size, q, ?_, h2, fun x hx => ?_⟩, pw_below_grown h.bel _ h.lo hg (fun k hk => by injection hk with hk; rw [← hk]; exact k3)⟩
 · obtain ⟨a1, a2, a3⟩ := h1.base_other hg.size hb (s := 11) (by omega)
   obtain ⟨b1, b2, b3⟩ := h1.slots_other hb (s := 11) (by omega)
   exact ⟨a1, a2, a3, b1, b2, b3, fun t m hm => (h1.ow t m hm).other hg.size hb (by have := (List.getElem?_eq_some_iff.1 hm).1; have := h1.few; omega), h1.sh.other hg.size hb (by omega), h1.lq, h1.ls, h1.len, h1.few, h1.some⟩
 · rcases List.mem_cons.1 hx with rfl | hx
   · exact ⟨ho, by rw [upO_lt hlt]; exact k2, k3⟩
   · obtain ⟨r1, r2, r3⟩ := h3 x (List.mem_cons_of_mem _ hx)
     have hxl := (Array.getElem?_eq_some_iff.1 r1).1
     exact ⟨(hg.block x.1 hxl (fun e => hne x hx (by injection e))).trans r1, by rw [upO_lt hxl]; exact r2, r3⟩
theorem mono (h : QOk w0 w pq a n B) {m : Nat} (hm : n ≤ m) : QOk w0 w pq a m B := by
 obtain ⟨who, q, h1, h2, h3⟩ := h.ex
 exact ⟨⟨who, q, h1, h2.mono hm, h3⟩, h.bel⟩
end QOk
theorem allO_slots (L : List One) : allO L = (L.map One.o).filterMap id := by
 unfold allO
 induction L with
 | nil => rfl
 | cons x r ih =>
  rw [List.map_cons]
  by_cases hf : x.full = true
  · have h1 : x.o = some ⟨x.key, x.id⟩ := if_pos hf
    rw [List.filter_cons_of_pos hf, List.map_cons, h1, ih]
    rfl
  · have h1 : x.o = none := if_neg hf
    rw [List.filter_cons_of_neg hf, h1, ih]
    rfl
def NewE (w w' : World) (v : Value) (l : List E) : Prop := Kd.V k33 33 w' w.heap.size (fun k_ => (w.heap.size ≤ k_)) v l ∧ Below w.heap.size w w'
section
variable {w0 w : World} {pq : Nat} {a : Qa} {n : Nat} {B : List (Nat × Obj)}
theorem qk_slots (h : QOk w0 w pq a n B) : Calls Tryz.prog 45 #[.pointer (some ⟨pq, 0, none⟩)] w fun e w' => ∃ v0_ : Value, e = .returned v0_ ∧ NewE w w' v0_ (slotsE a) := by
 obtain ⟨who, q, h1, h2, h3⟩ := h.ex
 refine (q_slots h1).mono ?_
 rintro e w' ⟨v, rfl, hv, hb⟩
 rw [allO_slots, h2.S] at hv
 exact ⟨v, rfl, hv, hb⟩
theorem qk_shared (h : QOk w0 w pq a n B) (hn : n ≤ 900) : Calls Tryz.prog 46 #[.pointer (some ⟨pq, 0, none⟩)] w fun e w' => ∃ v0_ : Value, e = .returned v0_ ∧ NewE w w' v0_ a.sh := by
 obtain ⟨who, q, h1, h2, h3⟩ := h.ex
 have e1 := h2.allsh
 have e2 := h2.cnt
 have e3 := h2.few
 refine (q_shared h1 (by omega) (by omega)).mono ?_
 rintro e w' ⟨v, rfl, hv, hb⟩
 rw [show sortE (allB q.sb) = a.sh from h2.sh] at hv
 exact ⟨v, rfl, hv, hb⟩
theorem settle_core {who : Nat → Nat} {q : QSt} (hB0 : Below w0.heap.size w0 w) (h1 : QAt who w w0.heap.size pq q) (h2 : QV q a n) (hn : n ≤ 800) (t : Nat) (ht : t < a.loc.length) :
 Calls Tryz.prog 9 #[.pointer (some ⟨pq, 0, none⟩), .int .i64 t] w fun e w' => e = .returned (.bool (slotQ a t).isSome) ∧ ∃ who' q', QAt who' w' w0.heap.size pq q' ∧ Below w0.heap.size w0 w' ∧ Keep who w who' w' ∧ QV q' (settleQ a t) (n + 1) ∧ ∃ x, q'.L[t]? = some x ∧ x.full = false := by
 have e1 := h2.len
 obtain ⟨m, hm⟩ : ∃ m, q.ms[t]? = some m := ⟨_, List.getElem?_eq_getElem (by omega)⟩
 have e0 := h1.len
 have hltL : t < q.L.length := by omega
 obtain ⟨o, ho⟩ : ∃ o, q.L[t]? = some o := ⟨_, List.getElem?_eq_getElem hltL⟩
 have e2 := h2.cntL hm
 have e3 := h2.good m (List.mem_of_getElem? hm)
 have e5 := h2.allsh
 have e6 := h2.cnt
 have e7 := h2.few
 have e8 := h2.ver
 have hs := h2.slot ho
 cases hf : o.full with
 | true =>
  have hs1 : (slotQ a t).isSome = true := by rw [hs]; unfold One.o; rw [if_pos hf]; rfl
  rw [hs1]
  refine (q_settle w0 hB0 h1 t m o hm ho hf e3 (by omega) (by omega) (by omega) (by omega) h2.ok).mono ?_
  rintro e w' ⟨rfl, who', q', r1, r2, r3, r4, r5, r6⟩
  exact ⟨rfl, who', q', r1, r2, r3, settle_told h2 hn hm ho hf r4 rfl r5 r6, ⟨0, 0, false, _⟩, by rw [r5]; exact List.getElem?_set_self hltL, rfl⟩
 | false =>
  have hs1 : slotQ a t = none := by rw [hs]; unfold One.o; rw [hf]; rfl
  rw [hs1, settle_none hs1]
  refine (q_settle_no h1 t o ho hf).mono ?_
  rintro e w' ⟨rfl, hb⟩
  exact ⟨rfl, _, q, h1.below hb 11 (by have := h1.few; omega), below_step hB0 hb, Keep.below hb 11, h2.mono (by omega), o, ho, hf⟩
theorem qk_settle (h : QOk w0 w pq a n B) (hn : n ≤ 800) (t : Nat) (ht : t < a.loc.length) :
 Calls Tryz.prog 9 #[.pointer (some ⟨pq, 0, none⟩), .int .i64 t] w fun e w' => e = .returned (.bool (slotQ a t).isSome) ∧ QOk w0 w' pq (settleQ a t) (n + 1) B := by
 obtain ⟨who, q, h1, h2, h3⟩ := h.ex
 refine (settle_core h.bel h1 h2 hn t ht).mono ?_
 rintro e w' ⟨rfl, who', q', r1, r2, r3, r4, _⟩
 exact ⟨rfl, ⟨who', q', r1, r4, QOk.boxes h3 r3⟩, r2⟩
theorem qk_put (h : QOk w0 w pq a n B) (hn : n ≤ 800) (t : Nat) (ht : t < a.loc.length) (e : E) :
 Calls Tryz.prog 8 #[.pointer (some ⟨pq, 0, none⟩), .int .i64 t, .agg #[.int .u64 e.f0, .int .i64 e.f1]] w fun x w' => x = .returned (.int .i64 0) ∧ QOk w0 w' pq (putQ a t e) (n + 1) B := by
 obtain ⟨who, q, h1, h2, h3⟩ := h.ex
 have e1 := h2.len
 refine (q_put_of w0 h.bel h1 t (by omega) e.f0 e.f1 (fun q' => QV q' (settleQ a t) (n + 1)) (fun _ => True) ?_).mono ?_
 · intro who1 W hA hB
   refine (settle_core hB hA h2 hn t ht).mono ?_
   rintro x w' ⟨rfl, who', q', r1, r2, r3, r4, y, r5, r6⟩
   exact ⟨_, rfl, who', q', y, r1, r2, r3, r4, r5, r6, trivial⟩
 · rintro x w' ⟨rfl, who', q', y, r1, r2, r3, r4, r5, _⟩
   exact ⟨rfl, ⟨who', _, r1, fill_told e r4 rfl rfl rfl, QOk.boxes h3 r3⟩, r2⟩
end
end Go.Proofs.YthghkglkifeagaaGreat.V
end
section
set_option linter.unusedVariables false
set_option linter.unusedSimpArgs false
namespace Go.Proofs.YthghkglkifeagaaGreat.V
open Go.RowKit Go.Proofs.YthghkglkifeagaaGreatW.PrintWords Go.Proofs.YthghkglkifeagaaGreatW.PrintLast Go.Proofs.YthghkglkifeagaaGreatW.PrintMore
theorem infoP : (Tryz.prog.info? 65).map (fun i => (i.zero, i.size, i.bytes)) = some (some (.pointer none), 1, 8) := by kernel_rfl
def newA (n k : Nat) : Qa := ⟨k, List.replicate n none, List.replicate n [], []⟩
structure NewSt (w wr : World) (base pq k n m : Nat) : Prop where
  ex : ∃ who q, QPre who wr base pq q ∧ q.ms.length = m ∧ q.k = k ∧ q.L = List.replicate n zeroO ∧ q.sb = [] ∧ q.ver = 0 ∧ ∀ x ∈ q.ms, x.bs = []
  bel : Below w.heap.size w wr
theorem new_done {w wr : World} {pq k n : Nat} (h : NewSt w wr w.heap.size pq k n n) (h1 : 1 ≤ n) : QOk w wr pq (newA n k) 0 [] := by
 obtain ⟨who, q, hq, hm, hk, hL, hsb, hver, hbs⟩ := h.ex
 refine ⟨⟨who, q, hq.all (by rw [hL, List.length_replicate, hm]) (by omega), ⟨hk, ?_, ?_, ?_, ?_, ?_, ?_, ?_, ?_⟩, fun x hx => by simp at hx⟩, h.bel⟩
 · rw [hL, List.map_replicate]; rfl
 · show _ = List.replicate n []
   rw [← hm]
   refine List.ext_getElem? fun i => ?_
   rw [List.getElem?_map, List.getElem?_replicate]
   by_cases hi : i < q.ms.length
   · rw [if_pos hi, List.getElem?_eq_getElem hi, Option.map_some, hbs _ (List.getElem_mem hi), bsE_nil]
   · rw [if_neg hi, List.getElem?_eq_none (by omega)]; rfl
 · intro m0 hm0
   rw [hbs m0 hm0]; exact good_nil
 · rw [hsb, bsE_nil]; rfl
 · intro b hb
   rw [hsb] at hb
   simp at hb
 · rw [hsb]; exact Nat.le_refl _
 · rw [hver]; omega
 · show sumL (List.replicate n []) + 0 ≤ 0
   unfold sumL
   rw [List.map_replicate]
   simp
set_option maxRecDepth 100000 in
set_option maxHeartbeats 4000000 in
theorem q_new (n k : Nat) (w : World) (h0 : 1 ≤ n) (h1 : n ≤ 8) (hk : k ≤ 16) :
 Calls Tryz.prog 7 #[.int .i64 n, .int .i64 k] w fun e w' => ∃ pq, e = .returned (.tuple #[.pointer (some ⟨pq, 0, none⟩), .int .i64 0]) ∧ QOk w w' pq (newA n k) 0 [] := by
 have d0 : decide ((k : Int) < 0) = false := decide_eq_false (by omega)
 have d1 : decide ((k : Int) > 16) = false := decide_eq_false (by omega)
 have d2 : decide (16 < (k : Int)) = false := decide_eq_false (by omega)
 have HN1 := Aside0.mk h0
 go_enter Tryz.func7, Tryz.ntmps7
 go_wp2_with fail
 refine (slot_new n w h0 h1).mono ?_
 rintro e w1 ⟨ps, gs, hps, hgs, rfl, hs1, hb1⟩
 have HB1 := Aside0.mk hb1
 have HS1 := Aside0.mk hs1
 have HP1 := Aside0.mk (show w.heap.size ≤ ps ∧ w.heap.size ≤ gs from ⟨hps, hgs⟩)
 clear hb1 hs1 hps hgs
 go_wp2_with fail
 refine (sh_newO (upO (fun _ => 99) 0 w.heap.size) 2 w.heap.size w1 HB1.out.size).mono ?_
 rintro e w2 ⟨rfl, hsh2, hb2⟩
 have HSH := Aside0.mk hsh2
 have HB2 := Aside0.mk hb2
 clear hsh2 hb2
 have HST := Aside0.mk (show NewSt w (w2.alloc (.cells #[.int .i64 k, .pointer (some ⟨ps, 0, none⟩), .slice none 0 0, .pointer (some ⟨w1.heap.size, 0, none⟩)] 64)) w.heap.size w2.heap.size k n 0 from by
  have hb3 := below_alloc (Below.refl w2.heap.size w2) (.cells #[.int .i64 k, .pointer (some ⟨ps, 0, none⟩), .slice none 0 0, .pointer (some ⟨w1.heap.size, 0, none⟩)] 64)
  have l1 := HS1.out.lt
  have s1 := HB1.out.size
  have s2 := HB2.out.size
  have p1 := HP1.out
  have hr1 : QRest (upO (upO (fun _ => 99) 0 w.heap.size) 2 w1.heap.size) w2 w.heap.size ⟨k, List.replicate n zeroO, [], ps, gs, .slice none 0 0, w1.heap.size, 0, .slice none 0 0, []⟩ := by
   refine ⟨HS1.out.below HB2.out, ?_, ?_, fun t m hm => ?_, HSH.out⟩
   · show upO _ 2 w1.heap.size ps = 0
     rw [upO_lt l1.1]; exact upO_ge p1.1
   · show upO _ 2 w1.heap.size gs = 0
     rw [upO_lt l1.2]; exact upO_ge p1.2
   · simp at hm
  refine ⟨⟨_, _, ⟨heap_alloc_new w2 _, upO_ge (Nat.le_refl _), Kd.N_nil _ _ _ _ _, hr1.other hb3.size (fun k hk _ => hb3.block k hk) (s := 1) (by omega) (by omega) (fun t _ => by omega), by omega, p1, Nat.zero_le _⟩, rfl, rfl, rfl, rfl, rfl, fun x hx => by simp at hx⟩, below_then (below_then HB1.out HB1.out.size HB2.out) (by omega) hb3⟩)
 clear HSH HS1 HP1 HB1 HB2
 go_wp2
 go_loopw [30] (fun i wr => ∃ m : Nat, m ≤ n ∧ i = .int .i64 m ∧ Aside0 (NewSt w wr w.heap.size w2.heap.size k n m)) (fun i _ => n - (intOf i).toNat)
 case atStart => exact ⟨0, Nat.zero_le _, rfl, HST⟩
 case round =>
  obtain ⟨m, hm, rfl, HR⟩ := hrel
  by_cases hlt : m < n
  · obtain ⟨who, q, hq, q1, q2, q3, q4, q5, q6⟩ := HR.out.ex
    have hc2 := hq.c2
    have HQ := Aside0.mk (show QPre (upO who 11 wr.heap.size) wr.drew w.heap.size w2.heap.size q from hq.below (below_drew (Below.refl _ _)) 11 (by omega) (by omega) (by omega) (fun t ht => by have := hq.few; omega))
    have HBR := Aside0.mk (show Below w.heap.size w wr.drew from below_drew HR.out.bel)
    have H1 := Aside0.mk (show q.ms.length = m ∧ q.k = k ∧ q.L = List.replicate n zeroO ∧ q.sb = [] ∧ q.ver = 0 ∧ ∀ x ∈ q.ms, x.bs = [] from ⟨q1, q2, q3, q4, q5, q6⟩)
    obtain ⟨A0, c0, hvr⟩ : ∃ A c, q.vr = .slice A m c := by
     obtain ⟨A, c, e⟩ := Kd.N_slice hq.rw
     rw [List.length_map, q1] at e
     exact ⟨A, c, e⟩
    have HVR := Aside0.mk hvr
    clear hq q1 q2 q3 q4 q5 q6
    have HLN := Aside0.mk (show (q.ms.map Own1.p ++ [wr.drew.heap.size]).length = m + 1 by rw [List.length_append, List.length_map, H1.out.1]; rfl)
    have HPD := Aside0.mk (show w.heap.size ≤ wr.drew.heap.size from HBR.out.size)
    go_upto_region 7 with fail
    have mixed : Tryz.prog.follows .mixedOrders = true := by kernel_rfl
    go_region_law_o (first
     | ((with_reducible refine gate_step (.call { callee := .value (.func 31), args := #[], argTypes := #[] }) rfl ?_); go_loud (refine step_goes rfl rfl Tryz.func31 (by kernel_rfl) rfl #[] (by simp [Act.eval, Act.put]) ?_; refine (lsm_newO (upO who 11 wr.heap.size) (q.ms.length + 3) w.heap.size wr.drew HPD.out).mono ?_; rintro x w5 ⟨rfl, hl5, hb5⟩; have HL5 := Aside0.mk hl5; have HB5 := Aside0.mk hb5; have HQ5 := Aside0.mk (HQ.out.below hb5 (q.ms.length + 3) (by omega) (by omega) (by omega) (fun t ht => by omega)); have HBX := Aside0.mk (below_step HBR.out hb5); have np := HQ5.out.c2; rw [HVR.out] at np; have npa := fun o => pw_cell_below (below_alloc (Below.refl w5.heap.size w5) o) np; clear hl5 hb5; refine ⟨_, rfl, ?_⟩))
     | ((with_reducible refine gate_step (.call { callee := .builtin .append, args := #[.tmp 36, .tmp 38], argTypes := #[62, 62] }) rfl ?_); go_loud (refine step_N_append kP w.heap.size rfl (.tmp 36) (.tmp 38) 62 65 (.pointer none) 8 rfl Tryz.underlying62 infoP rfl (by decide) (by decide) q.vr (q.ms.map Own1.p) wr.drew.heap.size [.pointer (some ⟨wr.drew.heap.size, 0, none⟩)] (fun k_ => (upO (upO who 11 wr.heap.size) (q.ms.length + 3) wr.drew.heap.size k_ = 1 ∧ k_ ≠ w2.heap.size) ∨ w5.heap.size ≤ k_) (fun _ => False) (by rw [HVR.out]; simp [Act.eval, Act.put]) (by simp [Act.eval, Act.put]) (fun _ _ => rfl) (fun _ hk => hk.elim) (fun k_ hk => .inr hk) (Kd.N_mono HQ5.out.rw (fun _ hk => .inl hk)) HBX.out.size (by rw [List.length_map]; have := H1.out.1; omega) ?_; intro v9 w9 hn9 hg9 hat9; obtain ⟨A9, c9, hv9⟩ := Kd.N_slice hn9; rw [HLN.out] at hv9; subst hv9; have HN9 := Aside0.mk hn9; have HG9 := Aside0.mk hg9; have HP9 := Aside0.mk ((hg9.block w2.heap.size HQ5.out.lt (fun e => (HQ5.out.rw.1 _ e.symm).2 rfl)).trans HQ5.out.hd); have rp : w9.cell? ⟨w2.heap.size, 2, none⟩ = some q.vr := (by simp [World.cell?, HP9.out]); rw [HVR.out] at rp; have rf : w9.frozen? ⟨w2.heap.size, 2, none⟩ = false := (by simp [World.frozen?, HP9.out]); clear hn9 hg9 hat9)))
    all_goals (go_wp2_with fail)
    all_goals go_roundw
    all_goals first
     | (simp [intOf]; omega)
     | skip
    all_goals exact ⟨m + 1, by omega, by go_num, ⟨⟨_, _, HQ5.out.more ⟨wr.drew.heap.size, _, _⟩ HL5.out HN9.out HG9.out (by have := H1.out.1; omega), by simp [H1.out.1], H1.out.2.1, H1.out.2.2.1, H1.out.2.2.2.1, H1.out.2.2.2.2.1, fun x hx => (List.mem_append.1 hx).elim (fun h => H1.out.2.2.2.2.2 x h) (fun h => by rw [List.mem_singleton.1 h])⟩, (pw_below_grown HBX.out _ HBX.out.size HG9.out (fun k_ hk => Kd.N_base HQ5.out.rw k_ hk)).setCell (by have := HQ5.out.lq; omega) _⟩⟩
  · obtain rfl : m = n := by omega
    have HE := Aside0.mk (new_done HR.out HN1.out)
    go_wp2
    exact bodyPost_ret (v := .tuple #[.pointer (some ⟨w2.heap.size, 0, none⟩), .int .i64 0]) (by simp [results, Tryz.results7, go_sem]) rfl ⟨_, rfl, HE.out⟩
end Go.Proofs.YthghkglkifeagaaGreat.V
end
section
set_option linter.unusedVariables false
set_option linter.unusedSimpArgs false
namespace Go.Proofs.YthghkglkifeagaaGreat.V
open Go.RowKit Go.Proofs.YthghkglkifeagaaGreatW.PrintWords Go.Proofs.YthghkglkifeagaaGreatW.PrintLast Go.Proofs.YthghkglkifeagaaGreatW.PrintMore
def BoxI (W : World) (g : Nat) (id : Int) : Prop := W.heap[g]? = some (.cells #[.int .i64 id] 3 (0, 0))
theorem BoxI.below {W W1 : World} {g : Nat} {id : Int} (h : BoxI W g id) (hb : Below W.heap.size W W1) : BoxI W1 g id := blk_below h hb
theorem BoxI.c0 {W : World} {g : Nat} {id : Int} (h : BoxI W g id) : W.cell? ⟨g, 0, none⟩ = some (.int .i64 id) := (blk_cell h 0).trans rfl
def isId (id : Int) (e : E) : Bool := decide (e.f1 = id)
end Go.Proofs.YthghkglkifeagaaGreat.V
end
section
set_option linter.unusedVariables false
set_option linter.unusedSimpArgs false
namespace Go.Proofs.YthghkglkifeagaaGreat.V
open Go.RowKit Go.Proofs.YthghkglkifeagaaGreatW.PrintWords Go.Proofs.YthghkglkifeagaaGreatW.PrintLast Go.Proofs.YthghkglkifeagaaGreatW.PrintMore
section
variable {P : Program} {ops : Array Oper} {Q : Exit → Act → World → Prop}
theorem goesLCg_ {rest : List Oper} {oi : Oper} {a : Act} {w : World} (N : Option Tmp) (hd : oi.dst = N) (hw : Region.wanted oi (yielded ops a.tmps) = true) {f : FuncId} {fn : Func} {xs : Array Operand} {ts : Array TypeId} {x : Operand} {cb : Array Value} (hf : P.funcs[f]? = some fn) (hname : (fn.name == "runtime.NumGoroutine") = false) (hb : fn.body.isSome = true) (args : Array Value)
 (hop : oi.op = .call { callee := .value x, args := xs, argTypes := ts }) (hx : a.eval x = .func (.func f) #[] cb) (hargs : xs.map a.eval ++ cb = args)
 (h : Calls P f args w fun e w' => ∃ v, e = .returned v ∧ wpList P ops Q rest (a.put N v) w') : wpList P ops Q (oi :: rest) a w := by
 refine wpList_step fun K hK => ?_
 rw [hw, if_pos rfl]
 have he := enters_ hf hname hb args w
 have hrun : (execOp a.eval oi).run P w = .ok (.enter f args) w := by
  unfold execOp
  simp [hop, resolve, Deferred.ofValue, invoke, hx, hargs, he]
 unfold Oper.wp
 rw [hrun, Oper.upon_enter]
 refine h.mono fun e w'' hh => ?_
 obtain ⟨v, rfl, hk⟩ := hh
 subst hd
 exact hK _ _ hk
end
theorem rd_someG {l : List E} {m : Nat} {e : E} (h : l[m]? = some e) : rd_T33 l (m : Int) = e := by unfold rd_T33; rw [Int.toNat_natCast, List.getD_eq_getElem?_getD, h]; rfl
structure AskE (fid : FuncId) (cb : Array Value) (p : E → Bool) (Inv : World → Prop) : Prop where
  known : ∃ fn, Tryz.prog.funcs[fid]? = some fn ∧ (fn.name == "runtime.NumGoroutine") = false ∧ fn.body.isSome = true
  stay : ∀ W W', Inv W → Below W.heap.size W W' → Inv W'
  call : ∀ (e : E) (W : World), Inv W → Calls Tryz.prog fid (#[.agg #[.int .u64 e.f0, .int .i64 e.f1]] ++ cb) W fun x W' => x = .returned (.bool (p e)) ∧ Below W.heap.size W W'
structure AskI (fid : FuncId) (cb : Array Value) (p : Int → Bool) (Inv : World → Prop) : Prop where
  known : ∃ fn, Tryz.prog.funcs[fid]? = some fn ∧ (fn.name == "runtime.NumGoroutine") = false ∧ fn.body.isSome = true
  stay : ∀ W W', Inv W → Below W.heap.size W W' → Inv W'
  call : ∀ (x : Int) (W : World), Inv W → Calls Tryz.prog fid (#[.int .i64 x] ++ cb) W fun y W' => y = .returned (.bool (p x)) ∧ Below W.heap.size W W'
theorem filt_take {p : E → Bool} {l : List E} {m : Nat} {e : E} (h : l[m]? = some e) : (l.take (m + 1)).filter p = (l.take m).filter p ++ (if p e = true then [e] else []) := by
 obtain ⟨h1, rfl⟩ := List.getElem?_eq_some_iff.1 h
 rw [List.take_succ_eq_append_getElem h1, List.filter_append]
 by_cases hi : p l[m] = true <;> simp [hi]
end Go.Proofs.YthghkglkifeagaaGreat.V
end
section
set_option linter.unusedVariables false
set_option linter.unusedSimpArgs false
namespace Go.Proofs.YthghkglkifeagaaGreat.V
open Go.RowKit Go.Proofs.YthghkglkifeagaaGreatW.PrintWords Go.Proofs.YthghkglkifeagaaGreatW.PrintLast Go.Proofs.YthghkglkifeagaaGreatW.PrintMore
set_option maxRecDepth 100000 in
set_option maxHeartbeats 2000000 in
theorem eidx_gen {fid : FuncId} {cb : Array Value} {p : E → Bool} {Inv : World → Prop} (A : Option Addr) (c : Nat) (l : List E) (w : World) (hf : AskE fid cb p Inv) (hr : k33.C w A l.length l) (hc : l.length ≤ c) (hl : l.length ≤ 1000000) (h : Inv w) :
 Calls Tryz.prog 92 #[.slice A l.length c, .func (.func fid) #[] cb] w fun x w' => x = .returned (.int .i64 (posB (l.findIdx? p))) ∧ Below w.heap.size w w' := by
 have HR := Aside0.mk hr
 have HC := Aside0.mk h
 have HF := Aside0.mk hf
 obtain ⟨fn, hk1, hk2, hk3⟩ := hf.known
 have HK := Aside0.mk hk1
 have HK2 := Aside0.mk hk2
 have HK3 := Aside0.mk hk3
 clear hr h hf hk1 hk2 hk3
 go_enter Tryz.func92, Tryz.ntmps92
 go_wp2
 go_loopw [8] (fun i wr => ∃ m : Nat, m ≤ l.length ∧ i = .int .i64 m ∧ Aside0 (∀ j b, j < m → l[j]? = some b → p b = false) ∧ Aside0 (Below w.heap.size w wr)) (fun i _ => l.length - (intOf i).toNat)
 case atStart => exact ⟨0, Nat.zero_le _, rfl, ⟨fun j b h => by omega⟩, ⟨Below.refl _ _⟩⟩
 case round =>
  obtain ⟨m, hm, rfl, HN, HB⟩ := hrel
  by_cases hlt : m < l.length
  · obtain ⟨e, he⟩ : ∃ e, l[m]? = some e := ⟨_, List.getElem?_eq_getElem hlt⟩
    obtain ⟨ad, e1, y0, y1⟩ := at_T33 (Kd.C_below HR.out HB.out) (m : Int) (by omega) (by omega)
    subst e1
    rw [Int.toNat_natCast, rd_someG he] at y0 y1
    have HE := Aside0.mk he
    have HI := Aside0.mk (HF.out.stay _ _ HC.out HB.out)
    clear he
    cases hi : p e with
    | false =>
     have HP := Aside0.mk hi
     have HN2 : Aside0 (∀ j b, j < m + 1 → l[j]? = some b → p b = false) := ⟨fun j b' hj hb' => by
      by_cases h1 : j = m
      · subst h1
        rw [HE.out] at hb'
        injection hb' with hb'
        rw [← hb']; exact hi
      · exact HN.out j b' (by omega) hb'⟩
     clear hi
     go_wp2_with ((with_reducible refine gate_dst (N := 16) rfl ?_); go_loud (refine goesLC_ (some 16) rfl rfl HK.out HK2.out HK3.out (#[.agg #[.int .u64 e.f0, .int .i64 e.f1]] ++ cb) rfl rfl (by (try simp only [List.map_toArray, List.map_cons, List.map_nil]); first | done | rfl) ?_; refine (HF.out.call e _ HI.out).mono ?_; rintro x w2 ⟨rfl, hb2⟩; rw [HP.out]; have HB2 := Aside0.mk (below_step HB.out hb2); clear hb2; refine ⟨_, rfl, ?_⟩))
     go_roundw
     case rel => exact ⟨m + 1, by omega, by go_num, HN2, HB2⟩
     case measure => simp [intOf]; omega
    | true =>
     have HP := Aside0.mk hi
     have HFI := Aside0.mk (posB_here HE.out hi HN.out)
     clear hi
     go_wp2_with ((with_reducible refine gate_dst (N := 16) rfl ?_); go_loud (refine goesLC_ (some 16) rfl rfl HK.out HK2.out HK3.out (#[.agg #[.int .u64 e.f0, .int .i64 e.f1]] ++ cb) rfl rfl (by (try simp only [List.map_toArray, List.map_cons, List.map_nil]); first | done | rfl) ?_; refine (HF.out.call e _ HI.out).mono ?_; rintro x w2 ⟨rfl, hb2⟩; rw [HP.out]; have HB2 := Aside0.mk (below_step HB.out hb2); clear hb2; refine ⟨_, rfl, ?_⟩))
     go_ret
     exact ⟨by rw [HFI.out]; rfl, HB2.out⟩
  · obtain rfl : m = l.length := by omega
    have HF := Aside0.mk (posB_none HN.out)
    go_wp2
    go_ret
    exact ⟨by rw [HF.out]; rfl, HB.out⟩
end Go.Proofs.YthghkglkifeagaaGreat.V
end
section
set_option linter.unusedVariables false
set_option linter.unusedSimpArgs false
namespace Go.Proofs.YthghkglkifeagaaGreat.V
open Go.RowKit Go.Proofs.YthghkglkifeagaaGreatW.PrintWords Go.Proofs.YthghkglkifeagaaGreatW.PrintLast Go.Proofs.YthghkglkifeagaaGreatW.PrintMore
set_option maxHeartbeats 1000000 in
theorem econt_gen {fid : FuncId} {cb : Array Value} {p : E → Bool} {Inv : World → Prop} (A : Option Addr) (c : Nat) (l : List E) (w : World) (hf : AskE fid cb p Inv) (hr : k33.C w A l.length l) (hc : l.length ≤ c) (hl : l.length ≤ 1000000) (h : Inv w) :
 Calls Tryz.prog 61 #[.slice A l.length c, .func (.func fid) #[] cb] w fun x w' => x = .returned (.bool (l.any p)) ∧ Below w.heap.size w w' := by
 have HR := Aside0.mk hr
 have HC := Aside0.mk h
 have HF := Aside0.mk hf
 have HA := Aside0.mk (posB_any p l)
 clear hr h hf
 go_enter Tryz.func61, Tryz.ntmps61
 go_wp2_with fail
 refine (eidx_gen A c l _ HF.out HR.out hc hl HC.out).mono ?_
 rintro x w2 ⟨rfl, hb2⟩
 have HB2 := Aside0.mk hb2
 clear hb2
 generalize posB (l.findIdx? p) = v at HA ⊢
 go_wp2
 go_ret
 exact ⟨by rw [← HA.out]; rfl, HB2.out⟩
end Go.Proofs.YthghkglkifeagaaGreat.V
end
section
set_option linter.unusedVariables false
set_option linter.unusedSimpArgs false
namespace Go.Proofs.YthghkglkifeagaaGreat.V
open Go.RowKit Go.Proofs.YthghkglkifeagaaGreatW.PrintWords Go.Proofs.YthghkglkifeagaaGreatW.PrintLast Go.Proofs.YthghkglkifeagaaGreatW.PrintMore
set_option maxHeartbeats 400000 in
theorem askW (g : Nat) (id : Int) : AskE 62 #[.pointer (some ⟨g, 0, none⟩)] (isId id) (fun W => BoxI W g id) := by
 refine ⟨⟨_, Tryz.func62, by kernel_rfl, rfl⟩, fun _ _ h hb => h.below hb, fun e W hi => ?_⟩
 have c0 := (hi.below (below_alloc (Below.refl W.heap.size W) (.cells #[.int .u64 e.f0, .int .i64 e.f1] 33))).c0
 clear hi
 show Calls Tryz.prog 62 #[.agg #[.int .u64 e.f0, .int .i64 e.f1], .pointer (some ⟨g, 0, none⟩)] W _
 unfold isId
 go_enter Tryz.func62, Tryz.ntmps62
 go_wp2
 go_ret
 exact ⟨by first | rfl | simp, below_alloc (Below.refl _ _) _⟩
set_option maxHeartbeats 400000 in
theorem q_has (id : Int) (g : Nat) (A : Option Addr) (c : Nat) (l : List E) (w : World) (hr : k33.C w A l.length l) (hc : l.length ≤ c) (hl : l.length ≤ 1000000) (h : BoxI w g id) :
 Calls Tryz.prog 60 #[.slice A l.length c, .pointer (some ⟨g, 0, none⟩)] w fun x w' => x = .returned (.bool (l.any (isId id))) ∧ Below w.heap.size w w' := by
 have HR := Aside0.mk hr
 have HI := Aside0.mk h
 clear hr h
 go_enter Tryz.func60, Tryz.ntmps60
 go_wp2_with fail
 refine (econt_gen A c l _ (askW g id) HR.out hc hl HI.out).mono ?_
 rintro x w2 ⟨rfl, hb2⟩
 have HB2 := Aside0.mk hb2
 clear hb2
 go_wp2
 go_ret
 exact ⟨rfl, HB2.out⟩
def hasO (id : Int) (o : Option E) : Bool := match o with | some e => isId id e | none => false
def whereQ (a : Qa) (id : Int) : Nat × Nat :=
  match a.S.findIdx? (hasO id) with
  | some t => (1, t)
  | none => match a.loc.findIdx? (fun l => l.any (isId id)) with
    | some t => (2, t)
    | none => if a.sh.any (isId id) = true then (3, 0) else (0, 0)
theorem where_slot {a : Qa} {id : Int} {m : Nat} {o : Option E} (ho : a.S[m]? = some o) (hp : hasO id o = true) (hb : ∀ j b, j < m → a.S[j]? = some b → hasO id b = false) : whereQ a id = (1, m) := by
 obtain ⟨h1, rfl⟩ := List.getElem?_eq_some_iff.1 ho
 have : a.S.findIdx? (hasO id) = some m := by
  rw [List.findIdx?_eq_some_iff_getElem]
  exact ⟨h1, hp, fun j hj => by rw [hb j _ hj (List.getElem?_eq_getElem (by omega))]; simp⟩
 unfold whereQ
 rw [this]
theorem idx_none {α : Type} {p : α → Bool} {l : List α} (hb : ∀ j b, j < l.length → l[j]? = some b → p b = false) : l.findIdx? p = none := by
 rw [List.findIdx?_eq_none_iff]
 intro x hx
 obtain ⟨j, hj, rfl⟩ := List.getElem_of_mem hx
 exact hb j _ hj (List.getElem?_eq_getElem hj)
theorem where_local {a : Qa} {id : Int} {m : Nat} {l : List E} (hS : a.S.findIdx? (hasO id) = none) (hl : a.loc[m]? = some l) (hp : l.any (isId id) = true) (hb : ∀ j b, j < m → a.loc[j]? = some b → b.any (isId id) = false) : whereQ a id = (2, m) := by
 obtain ⟨h1, rfl⟩ := List.getElem?_eq_some_iff.1 hl
 have : a.loc.findIdx? (fun l => l.any (isId id)) = some m := by
  rw [List.findIdx?_eq_some_iff_getElem]
  exact ⟨h1, hp, fun j hj => by rw [hb j _ hj (List.getElem?_eq_getElem (by omega))]; simp⟩
 unfold whereQ
 rw [hS, this]
theorem where_shared {a : Qa} {id : Int} (hS : a.S.findIdx? (hasO id) = none) (hL : a.loc.findIdx? (fun l => l.any (isId id)) = none) : whereQ a id = if a.sh.any (isId id) = true then (3, 0) else (0, 0) := by
 unfold whereQ
 rw [hS, hL]
def whereV (p : Nat × Nat) : Value := .tuple #[.int .i64 (p.1 : Int), .int .i64 (p.2 : Int)]
set_option maxRecDepth 100000 in
set_option maxHeartbeats 4000000 in
theorem qk_where {w0 w : World} {pq : Nat} {a : Qa} {n : Nat} {B : List (Nat × Obj)} (h : QOk w0 w pq a n B) (hn : n ≤ 900) (id : Int) :
 Calls Tryz.prog 22 #[.pointer (some ⟨pq, 0, none⟩), .int .i64 id] w fun e w' => e = .returned (whereV (whereQ a id)) ∧ Below w.heap.size w w' := by
 have HC := Aside0.mk h.cnt
 obtain ⟨f1, f2, f3⟩ := h.few
 obtain ⟨who, q, h1, h2, _⟩ := h.ex
 have HA := Aside0.mk (show ∀ wr, Below w.heap.size w wr → QAt (upO who 11 w.heap.size) wr w0.heap.size pq q from fun wr hb => h1.below hb 11 (by have := h1.few; omega))
 obtain ⟨g, cap, hv, hc, _, hr⟩ := h1.lists
 have HLE := Aside0.mk h2.len
 have HLS := Aside0.mk h2.lenS
 have HH2 := Aside0.mk h2
 have HR := Aside0.mk hr
 have HZ := Aside0.mk (below_alloc (Below.refl w.heap.size w) (.cells #[.int .i64 id] 3))
 have HI := Aside0.mk (show BoxI (w.alloc (.cells #[.int .i64 id] 3)) w.heap.size id from heap_alloc_new w _)
 have hq2 : ∀ wr, Below w.heap.size w wr → wr.cell? ⟨pq, 2, none⟩ = some (.slice (some ⟨g, 0, none⟩) a.loc.length cap) := fun wr hb => by
  rw [← h2.len, ← hv]; exact (HA.out wr hb).c2
 have HQ2 := Aside0.mk hq2
 have hp := hq2 _ HZ.out
 have HCAP := Aside0.mk (show a.loc.length ≤ cap by rw [← h2.len]; exact hc)
 have HQ := Aside0.mk h
 clear h h1 h2 hv hc hr hq2
 go_enter Tryz.func22, Tryz.ntmps22
 go_wp2
 obtain ⟨wz, hwz⟩ : ∃ wz : World, wz = w.alloc (.cells #[.int .i64 id] 3) := ⟨_, rfl⟩
 rw [← hwz] at HZ HI hp ⊢
 clear hwz
 go_loopw [19] (fun i wr => ∃ m : Nat, m ≤ a.loc.length ∧ i = .int .i64 m ∧ Aside0 (∀ j b, j < m → a.S[j]? = some b → hasO id b = false) ∧ Aside0 (Below wz.heap.size wz wr)) (fun i _ => a.loc.length - (intOf i).toNat)
 case atStart => exact ⟨0, Nat.zero_le _, rfl, ⟨fun j b h => by omega⟩, ⟨Below.refl _ _⟩⟩
 case round =>
  obtain ⟨m, hm, rfl, HN, HB⟩ := hrel
  have HBW := Aside0.mk (below_then HZ.out HZ.out.size HB.out)
  by_cases hlt : m < a.loc.length
  · obtain ⟨o, ho⟩ : ∃ o, q.L[m]? = some o := ⟨_, List.getElem?_eq_getElem (by have := HLS.out; omega)⟩
    have HO := Aside0.mk ho
    have HS := Aside0.mk (show a.S[m]? = some o.o by rw [← HH2.out.S, List.getElem?_map, ho]; rfl)
    have hq1 := (HA.out wr HBW.out).c1
    have HSL := Aside0.mk (HA.out wr HBW.out).sl
    have HI1 := Aside0.mk (HI.out.below HB.out)
    clear ho
    by_cases hh : hasO id o.o = true
    · have hoo : o.full = true ∧ o.id = id := by
       unfold One.o hasO at hh
       by_cases hf : o.full = true
       · rw [if_pos hf] at hh
         exact ⟨hf, of_decide_eq_true hh⟩
       · rw [if_neg hf] at hh
         simp at hh
      obtain ⟨hf, hid⟩ := hoo
      have HW := Aside0.mk (where_slot HS.out hh HN.out)
      have HF := Aside0.mk hf
      have HID := Aside0.mk hid
      have d1 : (o.id == id) = true := by rw [beq_iff_eq]; exact hid
      have d2 : decide (o.id = id) = true := decide_eq_true hid
      clear hh hf hid
      go_wp2_with fail
      refine (slot_get_in _ _ _ (m : Int) o _ HSL.out (by omega) (by rw [Int.toNat_natCast]; exact HO.out)).mono ?_
      rintro e w1 ⟨rfl, hb1⟩
      rw [HF.out]
      have HB1 := Aside0.mk (below_step HBW.out hb1)
      have hx := fun o' => ((HI1.out.below hb1).below (below_alloc (Below.refl w1.heap.size w1) o')).c0
      have HBA := Aside0.mk (show ∀ o', Below w.heap.size w (w1.alloc o') from fun o' => below_step HB1.out (below_alloc (Below.refl w1.heap.size w1) o'))
      clear hb1
      go_wp2
      exact bodyPost_ret (v := whereV (1, m)) (by simp [results, Tryz.results22, go_sem, whereV]) rfl ⟨by rw [HW.out], HBA.out _⟩
    · have hh2 : hasO id o.o = false := by simpa using hh
      have HN2 : Aside0 (∀ j b, j < m + 1 → a.S[j]? = some b → hasO id b = false) := ⟨fun j b hj hb => by
       by_cases h1 : j = m
       · subst h1
         rw [HS.out] at hb
         injection hb with hb
         rw [← hb]; exact hh2
       · exact HN.out j b (by omega) hb⟩
      have hoo : o.full = false ∨ ¬ o.id = id := by
       unfold One.o hasO at hh2
       by_cases hf : o.full = true
       · rw [if_pos hf] at hh2
         exact .inr (of_decide_eq_false hh2)
       · exact .inl (by simpa using hf)
      clear hh hh2
      cases hf : o.full with
      | false =>
       have HF := Aside0.mk hf
       clear hf hoo
       go_wp2_with fail
       refine (slot_get_in _ _ _ (m : Int) o _ HSL.out (by omega) (by rw [Int.toNat_natCast]; exact HO.out)).mono ?_
       rintro e w1 ⟨rfl, hb1⟩
       rw [HF.out]
       have HBA := Aside0.mk (show ∀ o', Below wz.heap.size wz (w1.alloc o') from fun o' => below_step (below_step HB.out hb1) (below_alloc (Below.refl w1.heap.size w1) o'))
       clear hb1
       go_wp2
       go_roundw
       case rel => exact ⟨m + 1, by omega, by go_num, HN2, ⟨HBA.out _⟩⟩
       case measure => simp [intOf]; omega
      | true =>
       have hid : ¬ o.id = id := by
        rcases hoo with h | h
        · rw [hf] at h; simp at h
        · exact h
       have HF := Aside0.mk hf
       have d1 : (o.id == id) = false := by rw [beq_eq_false_iff_ne]; exact hid
       have d2 : decide (o.id = id) = false := decide_eq_false hid
       clear hf hoo
       go_wp2_with fail
       refine (slot_get_in _ _ _ (m : Int) o _ HSL.out (by omega) (by rw [Int.toNat_natCast]; exact HO.out)).mono ?_
       rintro e w1 ⟨rfl, hb1⟩
       rw [HF.out]
       have hx := fun o' => ((HI1.out.below hb1).below (below_alloc (Below.refl w1.heap.size w1) o')).c0
       have HBA := Aside0.mk (show ∀ o', Below wz.heap.size wz (w1.alloc o') from fun o' => below_step (below_step HB.out hb1) (below_alloc (Below.refl w1.heap.size w1) o'))
       clear hb1
       go_wp2
       go_roundw
       case rel => exact ⟨m + 1, by omega, by go_num, HN2, ⟨HBA.out _⟩⟩
       case measure => simp [intOf]; omega
  · obtain rfl : m = a.loc.length := by omega
    have HNS := Aside0.mk (idx_none (l := a.S) (p := hasO id) (fun j b hj hb => HN.out j b (by omega) hb))
    have hp2 := HQ2.out wr HBW.out
    clear HN
    go_wp2
    rename World => wo
    go_loopw [46] (fun i wr => ∃ m : Nat, m ≤ a.loc.length ∧ i = .int .i64 m ∧ Aside0 (∀ j b, j < m → a.loc[j]? = some b → b.any (isId id) = false) ∧ Aside0 (Below wz.heap.size wz wr)) (fun i _ => a.loc.length - (intOf i).toNat)
    case atStart => exact ⟨0, Nat.zero_le _, rfl, ⟨fun j b h => by omega⟩, HB⟩
    case round =>
     obtain ⟨m, hm, rfl, HN, HB⟩ := hrel
     have HBW := Aside0.mk (below_then HZ.out HZ.out.size HB.out)
     by_cases hlt : m < a.loc.length
     · obtain ⟨mm, hmm⟩ : ∃ mm, q.ms[m]? = some mm := ⟨_, List.getElem?_eq_getElem (by have := HLE.out; omega)⟩
       have x1 := pw_cell_below HBW.out (HR.out m mm hmm)
       have HLM := Aside0.mk (HH2.out.cntL hmm)
       have HGM := Aside0.mk (HH2.out.good mm (List.mem_of_getElem? hmm))
       have HNM := Aside0.mk (good_len HGM.out (by have := HLM.out; omega))
       have HOW := Aside0.mk ((HA.out wr HBW.out).ow m mm hmm)
       have HAL := Aside0.mk (show a.loc[m]? = some (sortE (allB mm.bs)) by rw [← HH2.out.loc, List.getElem?_map, hmm]; rfl)
       have HI1 := Aside0.mk (HI.out.below HB.out)
       have HLS2 := Aside0.mk (show (sortE (allB mm.bs)).length ≤ 1000000 by rw [sortE_length]; have := HLM.out; omega)
       clear hmm
       go_wp2_with fail
       refine (@lsm_all (XO (upO who 11 w.heap.size) (m + 3) wr.heap.size) _ _ _ _ _ HOW.out.1 HGM.out.snd (by have := HNM.out; have := HLM.out; omega) (by have := HLM.out; omega)).mono ?_
       rintro e w6 ⟨v6, rfl, hv6, hb6⟩
       obtain ⟨A6, c6, rfl⟩ := Kd.V_slice hv6
       have HB6 := Aside0.mk (below_step HB.out hb6)
       have HV6 := Aside0.mk (Kd.V_reads' hv6)
       have HI6 := Aside0.mk (HI1.out.below hb6)
       clear hv6 hb6
       generalize sortE (allB mm.bs) = l at HAL HV6 HLS2 ⊢
       go_wp2_with fail
       refine (q_has id w.heap.size A6 c6 l w6 HV6.out.2.2 HV6.out.2.1 HLS2.out HI6.out).mono ?_
       rintro e w7 ⟨rfl, hb7⟩
       have HB7 := Aside0.mk (below_step HB6.out hb7)
       have HBW7 := Aside0.mk (below_then HZ.out HZ.out.size HB7.out)
       clear hb7
       cases hh : l.any (isId id) with
       | true =>
        have HW := Aside0.mk (where_local HNS.out HAL.out hh HN.out)
        clear hh
        go_wp2
        exact bodyPost_ret (v := whereV (2, m)) (by simp [results, Tryz.results22, go_sem, whereV]) rfl ⟨by rw [HW.out], HBW7.out⟩
       | false =>
        have HN2 : Aside0 (∀ j b, j < m + 1 → a.loc[j]? = some b → b.any (isId id) = false) := ⟨fun j b hj hb => by
         by_cases h1 : j = m
         · subst h1
           rw [HAL.out] at hb
           injection hb with hb
           rw [← hb]; exact hh
         · exact HN.out j b (by omega) hb⟩
        clear hh
        go_wp2
        go_roundw
        case rel => exact ⟨m + 1, by omega, by go_num, HN2, HB7⟩
        case measure => simp [intOf]; omega
     · obtain rfl : m = a.loc.length := by omega
       have HNL := Aside0.mk (idx_none (l := a.loc) (p := fun l => l.any (isId id)) HN.out)
       have HWH := Aside0.mk (where_shared HNS.out HNL.out)
       have hq3 := (HA.out wr HBW.out).c3
       have HSH := Aside0.mk (HA.out wr HBW.out).sh
       have HI1 := Aside0.mk (HI.out.below HB.out)
       have HLSH := Aside0.mk (show q.sb.length ≤ 1000 ∧ (allB q.sb).length ≤ 1000000 by have e1 := HH2.out.allsh; have e2 := HH2.out.cnt; have e3 := HH2.out.few; omega)
       have HSE := Aside0.mk (show sortE (allB q.sb) = a.sh from HH2.out.sh)
       have HSL := Aside0.mk (show a.sh.length ≤ 1000000 by have := HC.out; omega)
       go_wp2_with fail
       refine (@sh_all (XO (upO who 11 w.heap.size) 2 wr.heap.size) _ _ _ _ _ _ HSH.out.1 HLSH.out.1 HLSH.out.2).mono ?_
       rintro e w6 ⟨v6, rfl, hv6, hb6⟩
       rw [HSE.out] at hv6
       obtain ⟨A6, c6, rfl⟩ := Kd.V_slice hv6
       have HB6 := Aside0.mk (below_step HB.out hb6)
       have HV6 := Aside0.mk (Kd.V_reads' hv6)
       have HI6 := Aside0.mk (HI1.out.below hb6)
       clear hv6 hb6
       go_wp2_with fail
       refine (q_has id w.heap.size A6 c6 a.sh w6 HV6.out.2.2 HV6.out.2.1 HSL.out HI6.out).mono ?_
       rintro e w7 ⟨rfl, hb7⟩
       have HBW7 := Aside0.mk (below_then HZ.out HZ.out.size (below_step HB6.out hb7))
       clear hb7
       cases hh : a.sh.any (isId id) with
       | true =>
        have HW := Aside0.mk (show whereQ a id = (3, 0) by rw [HWH.out, if_pos hh])
        clear hh
        go_wp2
        exact bodyPost_ret (v := whereV (3, 0)) (by simp [results, Tryz.results22, go_sem, whereV]) rfl ⟨by rw [HW.out], HBW7.out⟩
       | false =>
        have HW := Aside0.mk (show whereQ a id = (0, 0) by rw [HWH.out, hh]; rfl)
        clear hh
        go_wp2
        exact bodyPost_ret (v := whereV (0, 0)) (by simp [results, Tryz.results22, go_sem, whereV]) rfl ⟨by rw [HW.out], HBW7.out⟩
end Go.Proofs.YthghkglkifeagaaGreat.V
end
