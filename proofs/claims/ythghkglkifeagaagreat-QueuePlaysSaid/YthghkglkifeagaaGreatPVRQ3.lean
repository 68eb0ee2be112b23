-- a text of this work, without what this claim doesn't use (wip/shake.py)
import Derived.Test.YthghkglkifeagaaGreatPVSh7
import Derived.Test.YthghkglkifeagaaGreatPVGenS
import Derived.Test.YthghkglkifeagaaGreatPVLsm18
import Derived.Test.YthghkglkifeagaaGreatPVPvergerref51
import Derived.Test.YthghkglkifeagaaGreatPVP5T
set_option maxRecDepth 100000
set_option maxHeartbeats 8000000
set_option linter.unusedVariables false
set_option linter.unusedSimpArgs false
namespace Go.Proofs.YthghkglkifeagaaGreat.V
open Go.RowKit Go.Proofs.YthghkglkifeagaaGreatW.PrintWords Go.Proofs.YthghkglkifeagaaGreatW.PrintLast Go.Proofs.YthghkglkifeagaaGreatW.PrintMore
structure QOkP (w0 w : World) (pq : Nat) (a : Qa) (n : Nat) (B : List (Nat × Obj)) (P : List Nat) (s : Nat) : Prop where
  ex : ∃ who q, QAt who w w0.heap.size pq q ∧ QV q a n ∧ (∀ x ∈ B, w.heap[x.1]? = some x.2 ∧ who x.1 = 11 ∧ w0.heap.size ≤ x.1) ∧ q.ms.map Own1.p = P ∧ q.psh = s
  bel : Below w0.heap.size w0 w
namespace QOkP
variable {w0 w w1 : World} {pq : Nat} {a : Qa} {n : Nat} {B : List (Nat × Obj)} {P : List Nat} {s : Nat}
theorem ok (h : QOkP w0 w pq a n B P s) : QOk w0 w pq a n B := by
 obtain ⟨who, q, h1, h2, h3, _⟩ := h.ex
 exact ⟨⟨who, q, h1, h2, h3⟩, h.bel⟩
theorem at_ {x : Nat × Obj} (h : QOkP w0 w pq a n B P s) (hx : x ∈ B) : w.heap[x.1]? = some x.2 := h.ok.at_ hx
theorem below (h : QOkP w0 w pq a n B P s) (hb : Below w.heap.size w w1) : QOkP w0 w1 pq a n B P s := by
 obtain ⟨who, q, h1, h2, h3, h4⟩ := h.ex
 exact ⟨⟨_, q, h1.below hb 11 (by have := h1.few; omega), h2, QOk.boxes h3 (Keep.below hb 11), h4⟩, below_step h.bel hb⟩
theorem mono (h : QOkP w0 w pq a n B P s) {m : Nat} (hm : n ≤ m) : QOkP w0 w pq a m B P s := by
 obtain ⟨who, q, h1, h2, h3, h4⟩ := h.ex
 exact ⟨⟨who, q, h1, h2.mono hm, h3, h4⟩, h.bel⟩
end QOkP
def hitQ (a : Qa) (id : Int) (p : Nat × Nat) : Bool := if p.1 = 1 then hasO id (a0k a p.2) else if p.1 = 2 then (a.loc.getD p.2 []).any (isId id) else a.sh.any (isId id)
def outQ (a : Qa) (id : Int) (p : Nat × Nat) : Qa := if p.1 = 1 then { a with S := a.S.set p.2 none } else if p.1 = 2 then { a with loc := a.loc.set p.2 (a0h id (a.loc.getD p.2 [])) } else { a with sh := a0h id a.sh }
theorem b0w (id : Int) (l : List E) : a0b (a0h id l) = a0h id (a0b l) :=
 a2r ((a0y l).sublist List.filter_sublist) ((a0n l).filter _)
theorem a7i (id : Int) (l : List E) : (a0h id l).length ≤ l.length := List.length_filter_le _ _
theorem b2c (l : List (List E)) (t : Nat) : l.set t (l.getD t []) = l := by
 refine List.ext_getElem? fun i => ?_
 rw [List.getElem?_set]
 by_cases h : t = i
 · subst h
   rw [if_pos rfl]
   by_cases h2 : t < l.length
   · rw [if_pos h2, List.getD_eq_getElem?_getD, List.getElem?_eq_getElem h2]; rfl
   · rw [if_neg h2, List.getElem?_eq_none (by omega)]
 · rw [if_neg h]
theorem b5h {a : Qa} {id : Int} {t : Nat} (h : hitQ a id (2, t) = false) : outQ a id (2, t) = a := by
 have h1 : (a.loc.getD t []).any (isId id) = false := h
 show ({ a with loc := a.loc.set t (a0h id (a.loc.getD t [])) } : Qa) = a
 rw [a3i h1, b2c]
theorem b6n {a : Qa} {id : Int} {t : Nat} (h : hitQ a id (3, t) = false) : outQ a id (3, t) = a := by
 have h1 : a.sh.any (isId id) = false := h
 show ({ a with sh := a0h id a.sh } : Qa) = a
 rw [a3i h1]
theorem QV.local {q : QSt} {a : Qa} {n t : Nat} {m : Own1} {v' : Value} {bs' : List Bk} {l' : List E} (h : QV q a n) (hm : q.ms[t]? = some m) (hg : Good bs') (he : bsE bs' = l') (hl : l'.length ≤ (a.loc.getD t []).length) :
 QV { q with ms := q.ms.set t ⟨m.p, v', bs'⟩ } { a with loc := a.loc.set t l' } n := by
 have hlt : t < a.loc.length := by rw [← h.len]; exact (List.getElem?_eq_some_iff.1 hm).1
 refine ⟨h.k, h.S, ?_, ?_, h.sh, h.ok, h.few, h.ver, ?_⟩
 · show (q.ms.set t ⟨m.p, v', bs'⟩).map (fun m => bsE m.bs) = a.loc.set t l'
   rw [List.map_set, h.loc, he]
 · intro x hx
   rcases List.mem_or_eq_of_mem_set hx with h1 | h1
   · exact h.good x h1
   · rw [h1]; exact hg
 · have h1 := a7v a.loc t l' hlt
   have h2 := h.cnt
   show sumL (a.loc.set t l') + a.sh.length ≤ n
   omega
theorem QV.shared {q : QSt} {a : Qa} {n n' : Nat} {ver' : Int} {v' : Value} {bs' : List Bk} {l' : List E} (h : QV q a n) (hn : n ≤ n') (he : bsE bs' = l') (hok : ∀ b ∈ bs', okB b = true) (hf : bs'.length ≤ n') (hv : 0 ≤ ver' ∧ ver' ≤ n') (hl : l'.length ≤ a.sh.length) :
 QV { q with ver := ver', vs := v', sb := bs' } { a with sh := l' } n' := by
 have h2 := h.cnt
 exact ⟨h.k, h.S, h.loc, h.good, he, hok, hf, hv, by show sumL a.loc + l'.length ≤ n'; omega⟩
theorem QV.empty {q : QSt} {a : Qa} {n t : Nat} {z : One} (h : QV q a n) (hz : z.full = false) : QV { q with L := q.L.set t z } { a with S := a.S.set t none } n := by
 refine ⟨h.k, ?_, h.loc, h.good, h.sh, h.ok, h.few, h.ver, h.cnt⟩
 show (q.L.set t z).map One.o = a.S.set t none
 rw [List.map_set, h.S]
 unfold One.o
 rw [hz]
 rfl
theorem b0b {l : List E} (h : Unlike (a0b l)) : Unlike l := h.perm (a0n l)
section
variable {w0 w : World} {pq : Nat} {a : Qa} {n : Nat} {B : List (Nat × Obj)} {P : List Nat} {s : Nat}
def a1w (w0 : World) (pq : Nat) (a : Qa) (n : Nat) (B : List (Nat × Obj)) (P : List Nat) (s : Nat) (id : Int) (p : Nat × Nat) (e : Ending) (w' : World) : Prop :=
  e = .returned (.bool (hitQ a id p)) ∧ if hitQ a id p = true then QOkP w0 w' pq (outQ a id p) (n + 1) B P s else QOkP w0 w' pq a n B P s
theorem c1w (h : QOkP w0 w pq a n B P s) (hn : n ≤ 800) (t : Nat) (ht : t < a.loc.length) (hu : Unlike (a.loc.getD t [])) (id : Int) (pl : Nat) (hpl : P[t]? = some pl) :
 Calls Tryz.prog 80 #[.pointer (some ⟨pl, 0, none⟩), .int .i64 id] w (a1w w0 pq a n B P s id (2, t)) := by
 obtain ⟨who, q, h1, h2, h3, h4, h5⟩ := h.ex
 obtain ⟨m, hm⟩ : ∃ m, q.ms[t]? = some m := ⟨_, List.getElem?_eq_getElem (by rw [h2.len]; exact ht)⟩
 have hp : m.p = pl := by
  rw [← h4, List.getElem?_map, hm] at hpl
  injection hpl
 have hc := h2.cntL hm
 have hg := h2.good m (List.mem_of_getElem? hm)
 have hlen := a2p hg (by omega)
 have hat := h2.at_ hm
 rw [← hp]
 refine (@b8g (XO who (t + 3) w.heap.size) w0.heap.size m.p m.v m.bs id w (h1.ow t m hm).1 hg (by omega) (by omega)).mono ?_
 rintro e w' ⟨rfl, v', hl, hT⟩
 have hub : Unlike (allB m.bs) := by rw [hat] at hu; exact b0b hu
 obtain ⟨d1, d2⟩ := b5v hg id hub (by omega)
 have hany : (a0u id m.bs).1 = hitQ a id (2, t) := by
  show _ = (a.loc.getD t []).any (isId id)
  rw [d1, hat]
  exact a3w (a0n _).symm
 have hb : bsE (a0u id m.bs).2 = a0h id (a.loc.getD t []) := by
  rw [hat]
  unfold bsE
  rw [← b0w]
  refine a1y (d2.trans (List.Perm.of_eq ?_))
  unfold a0h
  congr 1
  funext x
  unfold isId
  by_cases hx : x.f1 = id <;> simp [hx]
 have hq : QOkP w0 w' pq (outQ a id (2, t)) n B P s := by
  refine ⟨⟨_, _, h1.turnL hm hl hT, ?_, QOk.boxes h3 (h1.keepL hm hT), ?_, h5⟩, hT.below h.bel (@LsmAt.lo (XO who (t + 3) _) _ _ _ _ _ (h1.ow t m hm).1) h.ok.lo (fun k hk => (@LsmAt.own (XO who (t + 3) _) _ _ _ _ _ (h1.ow t m hm).1 k hk).1)⟩
  · exact h2.local hm (c1t hg id (by omega)) hb (a7i _ _)
  · show (q.ms.set t ⟨m.p, v', _⟩).map Own1.p = P
    rw [List.map_set, h4, hp]
    refine List.ext_getElem? fun i => ?_
    rw [List.getElem?_set]
    by_cases hi : t = i
    · subst hi
      rw [if_pos rfl, if_pos (List.getElem?_eq_some_iff.1 hpl).1, hpl]
    · rw [if_neg hi]
 refine ⟨by rw [hany], ?_⟩
 cases hh : hitQ a id (2, t) with
 | true => rw [if_pos rfl]; exact hq.mono (by omega)
 | false => rw [if_neg (by simp)]; rw [b5h hh] at hq; exact hq
theorem b6t (h : QOkP w0 w pq a n B P s) (hn : n ≤ 800) (hu : Unlike a.sh) (id : Int) :
 Calls Tryz.prog 81 #[.pointer (some ⟨s, 0, none⟩), .int .i64 id] w (a1w w0 pq a n B P s id (3, 0)) := by
 obtain ⟨who, q, h1, h2, h3, h4, h5⟩ := h.ex
 have hc := h2.cnt
 have hal := h2.allsh
 have hfew := h2.few
 have hver := h2.ver
 subst h5
 refine (@c2j (XO who 2 w.heap.size) w0.heap.size q.psh q.ver q.vs q.sb id w h1.sh.1 (by omega) (by omega) (by omega) h2.ok).mono ?_
 rintro e w' ⟨rfl, v', hs, hg⟩
 have hub : Unlike (allB q.sb) := by rw [← h2.sh] at hu; exact b0b hu
 obtain ⟨d1, d2⟩ := b9c (List.Perm.refl (allB q.sb)) hub (id := id)
 have hany : (a1d id q.sb).1 = hitQ a id (3, 0) := by
  show _ = a.sh.any (isId id)
  rw [d1, ← h2.sh]
  exact a3w (a0n _).symm
 have hb : bsE (a1d id q.sb).2 = a0h id a.sh := by
  rw [← h2.sh]
  unfold bsE
  rw [← b0w]
  exact a1y d2
 have hfw := @a8y id q.sb
 have hq : ∀ n', n ≤ n' → (if (a1d id q.sb).1 = true then q.ver + 1 else q.ver) ≤ (n' : Int) → QOkP w0 w' pq (outQ a id (3, 0)) n' B P q.psh := fun n' hn' hv' => by
  refine ⟨⟨_, _, h1.turnA hs hg, ?_, QOk.boxes h3 (h1.keepA hg), h4, rfl⟩, pw_below_grown h.bel _ h.ok.lo hg (fun k hk => by injection hk with hk; rw [← hk]; exact @ShAt.lo (XO who 2 _) _ _ _ _ _ _ h1.sh.1)⟩
  exact h2.shared hn' hb (a9h h2.ok) (by omega) ⟨by split <;> omega, hv'⟩ (a7i _ _)
 refine ⟨by rw [hany], ?_⟩
 cases hh : hitQ a id (3, 0) with
 | true =>
  rw [if_pos rfl]
  exact hq (n + 1) (by omega) (by rw [hany, hh, if_pos rfl]; omega)
 | false =>
  rw [if_neg (by simp)]
  have := hq n (Nat.le_refl _) (by rw [hany, hh, if_neg (by simp)]; omega)
  rwa [b6n hh] at this
end
def encR (o : Option E) : List Value := match o with | some e => [.bool true, .int .u64 e.f0, .int .i64 e.f1, .int .u64 0] | none => [.bool false, .int .u64 0, .int .i64 0, .int .u64 0]
def a0s (S : List (Option E)) : List Value := S.flatMap encR
theorem a6f (o : Option E) : (encR o).length = 4 := by cases o <;> rfl
theorem a3k (o : Option E) (S : List (Option E)) : a0s (o :: S) = encR o ++ a0s S := rfl
theorem c2g (S : List (Option E)) (t j : Nat) (o : Option E) (h : S[t]? = some o) (hj : j < 4) : (a0s S)[t * 4 + j]? = (encR o)[j]? := by
 induction S generalizing t with
 | nil => simp at h
 | cons a r ih =>
  cases t with
  | zero =>
   obtain rfl : a = o := by simpa using h
   rw [a3k, List.getElem?_append_left (by rw [a6f]; omega)]
   simp
  | succ t =>
   rw [a3k, List.getElem?_append_right (by rw [a6f]; omega), a6f, show (t + 1) * 4 + j - 4 = t * 4 + j by omega]
   exact ih t (by simpa using h)
theorem c1v (S : List (Option E)) : ∀ (t : Nat) (o : Option E) (x y z u : Value), t < S.length → encR o = [x, y, z, u] → ((((a0s S).set (t * 4) x).set (t * 4 + 1) y).set (t * 4 + 2) z).set (t * 4 + 3) u = a0s (S.set t o) := by
 induction S with
 | nil => intro t o x y z u h; simp at h
 | cons a r ih =>
  intro t o x y z u h e
  cases t with
  | zero =>
   rw [List.set_cons_zero, a3k, a3k, e]
   cases a <;> rfl
  | succ t =>
   have hl := a6f a
   rw [List.set_cons_succ, a3k, a3k, ← ih t o x y z u (by simpa using h) e]
   rw [List.set_append_right _ _ (by rw [hl]; omega), List.set_append_right _ _ (by rw [hl]; omega), List.set_append_right _ _ (by rw [hl]; omega), List.set_append_right _ _ (by rw [hl]; omega), hl]
   rw [show (t + 1) * 4 - 4 = t * 4 by omega, show (t + 1) * 4 + 1 - 4 = t * 4 + 1 by omega, show (t + 1) * 4 + 2 - 4 = t * 4 + 2 by omega, show (t + 1) * 4 + 3 - 4 = t * 4 + 3 by omega]
structure Rq where
  pr : Nat
  gs : Nat
  gl : Nat
  vs : List Value
  v : Value
@[reducible] def rowOk (ok : Nat → Prop) (r : Rq) (k : Nat) : Prop := ok k ∧ k ≠ r.pr ∧ k ≠ r.gs ∧ k ≠ r.gl
structure RQ (w : World) (ok : Nat → Prop) (r : Rq) (a : Qa) : Prop where
  hd : w.heap[r.pr]? = some (.cells #[.int .i64 a.k, .slice (some ⟨r.gs, 0, none⟩) a.S.length a.S.length, .slice (some ⟨r.gl, 0, none⟩) a.S.length a.S.length, r.v] 85 (0, 0))
  sl : w.heap[r.gs]? = some (.cells (a0s a.S).toArray 87 (0, 0))
  ll : w.heap[r.gl]? = some (.cells r.vs.toArray 35 (0, 0))
  lv : r.vs.length = a.S.length
  la : a.loc.length = a.S.length
  few : a.S.length ≤ 8
  own : ok r.pr ∧ ok r.gs ∧ ok r.gl
  ne : r.pr ≠ r.gs ∧ r.pr ≠ r.gl ∧ r.gs ≠ r.gl
  loc : ∀ (t : Nat) (v : Value) (l : List E), r.vs[t]? = some v → a.loc[t]? = some l → Kd.V k33 33 w 0 (rowOk ok r) v l
  sh : Kd.V k33 33 w 0 (rowOk ok r) r.v a.sh
structure Chg (S : Nat → Prop) (w w' : World) : Prop where
  os : w'.os = w.os
  tape : w'.tape = w.tape
  output : w'.output = w.output
  size : w.heap.size ≤ w'.heap.size
  block : ∀ k, k < w.heap.size → ¬ S k → w'.heap[k]? = w.heap[k]?
@[reducible] def inR (r : Rq) (k : Nat) : Prop := k = r.pr ∨ k = r.gs ∨ k = r.gl
theorem Chg.of {S : Nat → Prop} {w w' : World} (h : Below w.heap.size w w') : Chg S w w' := ⟨h.os, h.tape, h.output, h.size, fun k hk _ => h.block k hk⟩
theorem Chg.trans {S : Nat → Prop} {w w1 w2 : World} (h : Chg S w w1) (k : Chg S w1 w2) : Chg S w w2 :=
 ⟨k.os.trans h.os, k.tape.trans h.tape, k.output.trans h.output, Nat.le_trans h.size k.size, fun i hi hs => (k.block i (Nat.lt_of_lt_of_le hi h.size) hs).trans (h.block i hi hs)⟩
theorem Chg.setCell {S : Nat → Prop} {w w1 : World} (h : Chg S w w1) {a : Addr} (hs : S a.block) (u : Value) : Chg S w (w1.setCell a u) :=
 ⟨h.os, h.tape, h.output, by simpa using h.size, fun k hk hn => (Below.heap_setCell w1 a u k (fun e => hn (e ▸ hs))).trans (h.block k hk hn)⟩
namespace RQ
variable {w w1 : World} {ok ok' : Nat → Prop} {r : Rq} {a : Qa}
theorem lt (h : RQ w ok r a) : r.pr < w.heap.size ∧ r.gs < w.heap.size ∧ r.gl < w.heap.size := ⟨(Array.getElem?_eq_some_iff.1 h.hd).1, (Array.getElem?_eq_some_iff.1 h.sl).1, (Array.getElem?_eq_some_iff.1 h.ll).1⟩
theorem step (h : RQ w ok r a) (hm : ∀ k, ok k → k < w.heap.size → w1.heap[k]? = w.heap[k]?) : RQ w1 ok r a :=
 ⟨(hm _ h.own.1 h.lt.1).trans h.hd, (hm _ h.own.2.1 h.lt.2.1).trans h.sl, (hm _ h.own.2.2 h.lt.2.2).trans h.ll, h.lv, h.la, h.few, h.own, h.ne, fun t v l hv hl => Kd.V_step (h.loc t v l hv hl) (fun k hk => hm k hk.1), Kd.V_step h.sh (fun k hk => hm k hk.1)⟩
theorem mono (h : RQ w ok r a) (hk : ∀ k, ok k → k < w.heap.size → ok' k) : RQ w ok' r a :=
 ⟨h.hd, h.sl, h.ll, h.lv, h.la, h.few, ⟨hk _ h.own.1 h.lt.1, hk _ h.own.2.1 h.lt.2.1, hk _ h.own.2.2 h.lt.2.2⟩, h.ne, fun t v l hv hl => Kd.V_mono (Kd.V_bound (h.loc t v l hv hl)) (fun k hk' => ⟨hk k hk'.1.1 hk'.2, hk'.1.2⟩), Kd.V_mono (Kd.V_bound h.sh) (fun k hk' => ⟨hk k hk'.1.1 hk'.2, hk'.1.2⟩)⟩
theorem below (h : RQ w ok r a) (hb : Below w.heap.size w w1) : RQ w1 ok r a := h.step (fun k _ hk => hb.block k hk)
theorem c0 (h : RQ w ok r a) : w.cell? ⟨r.pr, 0, none⟩ = some (.int .i64 a.k) := (blk_cell h.hd 0).trans rfl
theorem c1 (h : RQ w ok r a) : w.cell? ⟨r.pr, 1, none⟩ = some (.slice (some ⟨r.gs, 0, none⟩) a.S.length a.S.length) := (blk_cell h.hd 1).trans rfl
theorem c2 (h : RQ w ok r a) : w.cell? ⟨r.pr, 2, none⟩ = some (.slice (some ⟨r.gl, 0, none⟩) a.S.length a.S.length) := (blk_cell h.hd 2).trans rfl
theorem c3 (h : RQ w ok r a) : w.cell? ⟨r.pr, 3, none⟩ = some r.v := (blk_cell h.hd 3).trans rfl
theorem slot (h : RQ w ok r a) {t : Nat} {o : Option E} (ht : a.S[t]? = some o) (j : Nat) (hj : j < 4) : w.cell? ⟨r.gs, t * 4 + j, none⟩ = (encR o)[j]? := by
 rw [blk_cell h.sl, List.getElem?_toArray, c2g a.S t j o ht hj]
theorem locc (h : RQ w ok r a) {t : Nat} {l : List E} (ht : a.loc[t]? = some l) : ∃ A c, w.cell? ⟨r.gl, t, none⟩ = some (.slice A l.length c) ∧ l.length ≤ c ∧ Kd.F k33 w (rowOk ok r) A l.length l ∧ r.vs[t]? = some (.slice A l.length c) := by
 obtain ⟨v, hv⟩ : ∃ v, r.vs[t]? = some v := ⟨_, List.getElem?_eq_getElem (by have := (List.getElem?_eq_some_iff.1 ht).1; have := h.lv; have := h.la; omega)⟩
 obtain ⟨A, c, rfl, hc, hf⟩ := h.loc t v l hv ht
 exact ⟨A, c, (blk_cell h.ll t).trans (by rw [List.getElem?_toArray]; exact hv), hc, hf, hv⟩
theorem shc (h : RQ w ok r a) : ∃ A c, w.cell? ⟨r.pr, 3, none⟩ = some (.slice A a.sh.length c) ∧ a.sh.length ≤ c ∧ Kd.F k33 w (rowOk ok r) A a.sh.length a.sh ∧ r.v = .slice A a.sh.length c := by
 obtain ⟨A, c, hv, hc, hf⟩ := h.sh
 exact ⟨A, c, h.c3.trans (by rw [hv]), hc, hf, hv⟩
theorem setLoc (h : RQ w ok r a) {t : Nat} {v : Value} {l : List E} (hv : Kd.V k33 33 w 0 (rowOk ok r) v l) : RQ (w.setCell ⟨r.gl, t, none⟩ v) ok { r with vs := r.vs.set t v } { a with loc := a.loc.set t l } := by
 refine ⟨(Below.heap_setCell w _ v _ h.ne.2.1).trans h.hd, (Below.heap_setCell w _ v _ h.ne.2.2).trans h.sl, ?_, by simp [h.lv], by simp [h.la], h.few, h.own, h.ne, ?_, Kd.V_far h.sh (p := ⟨r.gl, t, none⟩) (fun k hk => hk.2.2.2) v⟩
 · show (w.setCell ⟨r.gl, t, none⟩ v).heap[r.gl]? = _
   rw [blk_set h.ll t v]
   congr 2
   apply Array.ext'
   simp
 · intro j u m hu hm
   refine Kd.V_far (p := ⟨r.gl, t, none⟩) ?_ (fun k hk => hk.2.2.2) v
   show Kd.V k33 33 w 0 (rowOk ok r) u m
   have hu : (r.vs.set t v)[j]? = some u := hu
   have hm : (a.loc.set t l)[j]? = some m := hm
   rw [List.getElem?_set] at hu hm
   by_cases e : t = j
   · subst e
     rw [if_pos rfl] at hu hm
     split at hu
     · split at hm
       · injection hu with hu; injection hm with hm; rw [← hu, ← hm]; exact hv
       · cases hm
     · cases hu
   · rw [if_neg e] at hu hm
     exact h.loc j u m hu hm
theorem setSh (h : RQ w ok r a) {v : Value} {l : List E} (hv : Kd.V k33 33 w 0 (rowOk ok r) v l) : RQ (w.setCell ⟨r.pr, 3, none⟩ v) ok { r with v := v } { a with sh := l } := by
 refine ⟨?_, (Below.heap_setCell w _ v _ (fun e => h.ne.1 e.symm)).trans h.sl, (Below.heap_setCell w _ v _ (fun e => h.ne.2.1 e.symm)).trans h.ll, h.lv, h.la, h.few, h.own, h.ne, fun t u l hu hl => Kd.V_far (h.loc t u l hu hl) (p := ⟨r.pr, 3, none⟩) (fun k hk => hk.2.1) v, Kd.V_far hv (p := ⟨r.pr, 3, none⟩) (fun k hk => hk.2.1) v⟩
 show (w.setCell ⟨r.pr, 3, none⟩ v).heap[r.pr]? = _
 rw [blk_set h.hd 3 v]
 rfl
theorem setSlot (h : RQ w ok r a) {t : Nat} {o : Option E} {x y z u : Value} (ht : t < a.S.length) (he : encR o = [x, y, z, u]) : RQ ((((w.setCell ⟨r.gs, t * 4, none⟩ x).setCell ⟨r.gs, t * 4 + 1, none⟩ y).setCell ⟨r.gs, t * 4 + 2, none⟩ z).setCell ⟨r.gs, t * 4 + 3, none⟩ u) ok r { a with S := a.S.set t o } := by
 have far : ∀ k, k ≠ r.gs → ((((w.setCell ⟨r.gs, t * 4, none⟩ x).setCell ⟨r.gs, t * 4 + 1, none⟩ y).setCell ⟨r.gs, t * 4 + 2, none⟩ z).setCell ⟨r.gs, t * 4 + 3, none⟩ u).heap[k]? = w.heap[k]? := fun k hk =>
  (Below.heap_setCell _ _ u k hk).trans ((Below.heap_setCell _ _ z k hk).trans ((Below.heap_setCell _ _ y k hk).trans (Below.heap_setCell _ _ x k hk)))
 refine ⟨?_, ?_, (far _ (fun e => h.ne.2.2 e.symm)).trans h.ll, ?_, ?_, ?_, h.own, h.ne, fun j v l hu hl => Kd.V_step (h.loc j v l hu hl) (fun k hk _ => far k hk.2.2.1), Kd.V_step h.sh (fun k hk _ => far k hk.2.2.1)⟩
 · rw [far _ h.ne.1, h.hd]
   simp
 · show ((((w.setCell ⟨r.gs, t * 4, none⟩ x).setCell ⟨r.gs, t * 4 + 1, none⟩ y).setCell ⟨r.gs, t * 4 + 2, none⟩ z).setCell ⟨r.gs, t * 4 + 3, none⟩ u).heap[r.gs]? = _
   rw [blk_set (blk_set (blk_set (blk_set h.sl (t * 4) x) (t * 4 + 1) y) (t * 4 + 2) z) (t * 4 + 3) u]
   congr 2
   apply Array.ext'
   rw [← c1v a.S t o x y z u ht he]
   simp
 · rw [h.lv]; simp
 · rw [h.la]; simp
 · have := h.few; simpa using this
end RQ
theorem a3b {w : World} {ok : Nat → Prop} {r : Rq} {a : Qa} (h : RQ w ok r a) (t : Int) (b : Bool) (hb : decide (0 ≤ t ∧ t < (a.S.length : Int)) = b) :
 Calls Tryz.prog 54 #[.pointer (some ⟨r.pr, 0, none⟩), .int .i64 t] w fun e w' => e = .returned (.bool b) ∧ w = w' := by
 have hp := h.c1
 clear h
 by_cases h0 : t < 0
 · have d0 : ¬ t ≥ 0 := by omega
   have d1 : ¬ (0 : Int) ≤ t := by omega
   obtain rfl : false = b := hb ▸ (decide_eq_false (by omega)).symm
   clear hb
   go_enter Tryz.func54, Tryz.ntmps54
   go_wp2
   go_ret
   exact ⟨rfl, rfl⟩
 · have d0 : t ≥ 0 := by omega
   have d1 : (0 : Int) ≤ t := by omega
   by_cases h1 : t < (a.S.length : Int)
   · obtain rfl : true = b := hb ▸ (decide_eq_true (by omega)).symm
     clear hb
     go_enter Tryz.func54, Tryz.ntmps54
     go_wp2
     go_ret
     exact ⟨rfl, rfl⟩
   · obtain rfl : false = b := hb ▸ (decide_eq_false (by omega)).symm
     clear hb
     go_enter Tryz.func54, Tryz.ntmps54
     go_wp2
     go_ret
     exact ⟨rfl, rfl⟩
theorem RQ.slots {w : World} {ok : Nat → Prop} {r : Rq} {a : Qa} (h : RQ w ok r a) {t : Nat} {o : Option E} (ht : a.S[t]? = some o) :
 w.cell? ⟨r.gs, t * 4, none⟩ = (encR o)[0]? ∧ w.cell? ⟨r.gs, t * 4 + 1, none⟩ = (encR o)[1]? ∧ w.cell? ⟨r.gs, t * 4 + 2, none⟩ = (encR o)[2]? ∧ w.cell? ⟨r.gs, t * 4 + 3, none⟩ = (encR o)[3]? :=
 ⟨h.slot ht 0 (by omega), h.slot ht 1 (by omega), h.slot ht 2 (by omega), h.slot ht 3 (by omega)⟩
theorem RQ.slot1 {w : World} {ok : Nat → Prop} {r : Rq} {a : Qa} (h : RQ w ok r a) {t : Nat} {e : E} (ht : a.S[t]? = some (some e)) :
 w.cell? ⟨r.gs, t * 4, none⟩ = some (.bool true) ∧ w.cell? ⟨r.gs, t * 4 + 1, none⟩ = some (.int .u64 e.f0) ∧ w.cell? ⟨r.gs, t * 4 + 2, none⟩ = some (.int .i64 e.f1) ∧ w.cell? ⟨r.gs, t * 4 + 3, none⟩ = some (.int .u64 0) := h.slots ht
theorem RQ.slot0 {w : World} {ok : Nat → Prop} {r : Rq} {a : Qa} (h : RQ w ok r a) {t : Nat} (ht : a.S[t]? = some none) :
 w.cell? ⟨r.gs, t * 4, none⟩ = some (.bool false) ∧ w.cell? ⟨r.gs, t * 4 + 1, none⟩ = some (.int .u64 0) ∧ w.cell? ⟨r.gs, t * 4 + 2, none⟩ = some (.int .i64 0) ∧ w.cell? ⟨r.gs, t * 4 + 3, none⟩ = some (.int .u64 0) := h.slots ht
theorem takeS {S : List (Option E)} {t : Nat} {o : Option E} (h : S[t]? = some o) : (S.take (t + 1)).filterMap id = (S.take t).filterMap id ++ o.toList := by
 obtain ⟨hlt, rfl⟩ := List.getElem?_eq_some_iff.1 h
 rw [List.take_succ_eq_append_getElem hlt, List.filterMap_append]
 cases S[t] <;> rfl
theorem b4o (S : List (Option E)) (t : Nat) : ((S.take t).filterMap id).length ≤ S.length := Nat.le_trans (List.length_filterMap_le _ _) (by rw [List.length_take]; omega)
theorem a6v {w : World} {ok : Nat → Prop} {r : Rq} {a : Qa} (h : RQ w ok r a) :
 Calls Tryz.prog 58 #[.pointer (some ⟨r.pr, 0, none⟩)] w fun e w' => ∃ v0_ : Value, e = .returned v0_ ∧ Kd.R k33 33 w' w.heap.size (fun _ => True) v0_ (a0l a) ∧ Below w.heap.size w w' := by
 have hp := h.c1
 have HS := za h
 have hl := h.few
 clear h
 go_enter Tryz.func58, Tryz.ntmps58
 go_wp2
 go_loopw [3, 4] (fun v i wr => ∃ k : Nat, k ≤ a.S.length ∧ i = .int .i64 k ∧ Aside0 (Kd.R k33 33 wr w.heap.size (fun _ => True) v ((a.S.take k).filterMap id)) ∧ Aside0 (Below w.heap.size w wr)) (fun _ i _ => a.S.length - (intOf i).toNat)
 case atStart => exact ⟨0, Nat.zero_le _, rfl, ⟨Kd.R_nil _ _ _ _ _⟩, ⟨Below.refl _ _⟩⟩
 case round =>
  obtain ⟨k, hk, rfl, HR, HB⟩ := hrel
  have hp := pw_cell_below HB.out hp
  by_cases hlt : k < a.S.length
  · obtain ⟨o, ho⟩ : ∃ o, a.S[k]? = some o := ⟨_, List.getElem?_eq_getElem hlt⟩
    have HT := za (takeS ho)
    have hle : ((a.S.take k).filterMap id).length ≤ 8 := Nat.le_trans (b4o _ _) hl
    cases o with
    | some e =>
     obtain ⟨c0, c1, c2, c3⟩ := (HS.out.below HB.out).slot1 ho
     clear ho
     go_wp2_with (at_builtin; go_loud (refine Kd.R_append k33 (w0 := w) w.heap.size rfl (.tmp 22) (.tmp 31) 35 33 (.agg #[(.int .u64 0), (.int .i64 0)]) 16 rfl Tryz.underlying35 a0m rfl (by decide) (by omega) u3 ((a.S.take k).filterMap id) (e : E) [.int .u64 e.f0, .int .i64 e.f1] (fun _ => True) (fun _ => False) rfl ?aX ?aP (fun _ hk => hk.elim) ?aF ?aO ?aB ?aS ?aL ?_; (case aX => simp [Act.eval]); (case aP => exact a0v _ _ _ (e : E)); (case aF => exact fun _ _ => trivial); (case aO => exact HR.out); (case aB => exact HB.out); (case aS => exact HB.out.size); (case aL => omega); intro v1 w1 ho1 hb1 hg1 hat1; have HR1 := za ho1; have HB1 := za hb1; clear ho1 hb1 hg1 hat1))
     go_roundw
     case rel => exact ⟨k + 1, by omega, by go_num, ⟨by rw [HT.out]; exact HR1.out⟩, HB1⟩
     case measure => simp [intOf]; omega
    | none =>
     obtain ⟨c0, c1, c2, c3⟩ := (HS.out.below HB.out).slot0 ho
     clear ho
     go_wp2
     go_roundw
     case rel => exact ⟨k + 1, by omega, by go_num, ⟨by rw [HT.out]; exact (List.append_nil _).symm ▸ HR.out⟩, HB⟩
     case measure => simp [intOf]; omega
  · obtain rfl : k = a.S.length := by omega
    rw [List.take_length] at HR
    have HB1 := za HB.out
    go_wp2
    go_ret
    exact ⟨_, rfl, HR.out, HB1.out⟩
theorem b6j (l : List E) (e0 e1 : Int) (hl : l.length < 1000000000) : ∀ (d k i : Nat), l.length - i = d → i ≤ l.length → d < k → (∀ j a, j < i → l[j]? = some a → ltE ⟨e0, e1⟩ a = false) →
 vergerref5_Put.l0 k l (i : Int) e0 e1 = some (putE l ⟨e0, e1⟩) := by
 intro d
 induction d with
 | zero =>
  intro k i hd hi hk hb
  obtain ⟨k, rfl, _⟩ := a1c hk
  have : i = l.length := by omega
  subst this
  simp only [vergerref5_Put.l0]
  rw [if_neg (by omega)]
  simp only [Option.bind_some]
  rw [if_pos (by omega), if_pos (by omega)]
  rw [a9b (Nat.le_refl _) hb (fun a ha => by simp at ha)]
  simp only [Int.toNat_natCast, Option.bind_some, List.length_nil, List.length_append, List.length_take, List.length_drop, List.length_cons, List.nil_append]
  rw [if_pos (by omega), if_pos (by omega), if_pos (by omega)]
  simp
 | succ d ih =>
  intro k i hd hi hk hb
  obtain ⟨k, rfl, hk'⟩ := a1c hk
  have hlt : i < l.length := by omega
  simp only [vergerref5_Put.l0]
  rw [if_pos (by omega), if_pos (by omega), b0e, a8q hlt]
  simp only [Option.bind_some]
  cases hc : ltE ⟨e0, e1⟩ l[i] with
  | true =>
   rw [if_pos rfl, if_pos (by omega)]
   rw [a9b hi hb (fun a ha => by rw [List.getElem?_eq_getElem hlt] at ha; injection ha with ha; rw [← ha]; exact hc)]
   simp only [Int.toNat_natCast, Option.bind_some, List.length_nil, List.length_append, List.length_take, List.length_drop, List.length_cons, List.nil_append]
   rw [if_pos (by omega), if_pos (by omega), if_pos (by omega)]
   simp
  | false =>
   rw [if_neg (by simp), a1u (by omega)]
   exact ih k (i + 1) (by omega) (by omega) (by omega) (fun j a hj ha => by
    by_cases hji : j < i
    · exact hb j a hji ha
    · have : j = i := by omega
      subst this
      rw [List.getElem?_eq_getElem hlt] at ha
      injection ha with ha
      rw [← ha]; exact hc)
theorem b3o (k : Nat) (l : List E) (e0 e1 : Int) (hl : l.length < 1000000000) (hk : l.length < k) : vergerref5_Put.f k l e0 e1 = some (putE l ⟨e0, e1⟩) := by
 unfold vergerref5_Put.f
 exact b6j l e0 e1 hl l.length k 0 (by omega) (by omega) hk (fun j a hj => by omega)
theorem b9y (l : List E) (hl : l.length < 1000000000) : ∀ (d k i : Nat), l.length - i = d → i ≤ l.length → d + l.length < k → vergerref5_Sort.l0 k l (a0b (l.take i)) (i : Int) = some (a0b l) := by
 intro d
 induction d with
 | zero =>
  intro k i hd hi hk
  obtain ⟨k, rfl, _⟩ := a1c hk
  simp only [vergerref5_Sort.l0]
  rw [if_neg (by omega), List.take_of_length_le (by omega)]
 | succ d ih =>
  intro k i hd hi hk
  obtain ⟨k, rfl, hk'⟩ := a1c hk
  have hlt : i < l.length := by omega
  have hs : (a0b (l.take i)).length = i := by rw [a0i, List.length_take]; omega
  simp only [vergerref5_Sort.l0]
  rw [if_pos (by omega), if_pos (by omega), a8q hlt, b3o k _ _ _ (by omega) (by omega)]
  simp only [Option.bind_some]
  rw [a1u (by omega)]
  have : putE (a0b (l.take i)) ⟨(l[i]).f0, (l[i]).f1⟩ = a0b (l.take (i + 1)) := by
   rw [a9w]
   refine a1y ?_
   rw [List.take_succ_eq_append_getElem hlt]
   exact (List.perm_append_singleton _ _).symm
  rw [this]
  exact ih k (i + 1) (by omega) (by omega) (by omega)
theorem a9i (k : Nat) (l : List E) (hl : l.length < 1000000000) (hk : 2 * l.length < k) : vergerref5_Sort.f k l = some (a0b l) := by
 unfold vergerref5_Sort.f
 have := b9y l hl l.length k 0 (by omega) (by omega) (by omega)
 rwa [List.take_zero, a4k] at this
theorem a8k (k : Nat) (l m : List E) (hl : l.length + m.length < 1000000000) (hk : 2 * (l.length + m.length) < k) : vergerref5_Merge.f k l m = some (a0b (l ++ m)) := by
 unfold vergerref5_Merge.f
 simp only [Option.bind_some, List.length_nil, List.nil_append]
 rw [if_pos (by omega), if_pos (by omega), a9i k _ (by rw [List.length_append]; omega) (by rw [List.length_append]; omega)]
 rfl
theorem RQ.at_ {w : World} {ok : Nat → Prop} {r : Rq} {a : Qa} (h : RQ w ok r a) {t : Nat} (ht : t < a.S.length) : a.loc[t]? = some (a.loc.getD t []) := by
 rw [List.getD_eq_getElem?_getD]
 have := h.la
 rw [List.getElem?_eq_getElem (by omega)]
 rfl
theorem a8i {w : World} {ok : Nat → Prop} {r : Rq} {a : Qa} (h : RQ w ok r a) (hn : sumL a.loc + a.sh.length ≤ 900) :
 Calls Tryz.prog 59 #[.pointer (some ⟨r.pr, 0, none⟩)] w fun e w' => ∃ v0_ : Value, e = .returned v0_ ∧ NewE w w' v0_ (allQ a) := by
 have hp := h.c2
 have hla := h.la
 obtain ⟨As, cs, hs1, hs2, hs3, _⟩ := h.shc
 have HF := za hs3
 have HS := za h
 have hl := h.few
 have HSE := za (show (a0l a).length ≤ 8 by have := a3g a; omega)
 clear h hs3
 go_enter Tryz.func59, Tryz.ntmps59
 have HN := za hn
 go_upto_region 1 with fail
 go_cut [3] (fun s3 wx => Aside0 (Kd.V k33 33 wx w.heap.size (fun k => w.heap.size ≤ k) s3 (a0b (a0l a ++ a.sh ++ (a.loc.take 0).flatten))) ∧ Aside0 (Below w.heap.size w wx))
 case first =>
  go_region_with (first
   | (go_at_call 58; go_loud (refine (a6v (HS.out.below (below_drew (Below.refl w.heap.size w)))).mono ?_; rintro e w1 ⟨v1, rfl, hv1, hb1⟩; obtain ⟨A1, c1, rfl⟩ := Kd.R_slice hv1; have HB1 := za (below_step (below_drew (Below.refl w.heap.size w)) hb1); have HV1 := za (Kd.R_reads' hv1); have hs1 := pw_cell_below HB1.out hs1; clear hv1 hb1))
   | (go_at_call 56; go_loud (refine (vergerref5_Merge.calls 1000000 A1 c1 (a0l a) As cs a.sh _ w1 HV1.out.2.2 HV1.out.2.1 (Kd.C_below (Kd.F_now HF.out) HB1.out) hs2 (a8k 1000000 _ _ (by have := HSE.out; have := HN.out; omega) (by have := HSE.out; have := HN.out; omega))).mono ?_; rintro e w2 ⟨v2, rfl, hv2, hb2⟩; have HB2 := za (below_step HB1.out hb2); have HV2 := za hv2; clear hv2 hb2)))
  all_goals (have HX := za (show Kd.V k33 33 w2 w.heap.size (fun k => w.heap.size ≤ k) v2 (a0b (a0l a ++ a.sh ++ (a.loc.take 0).flatten)) from by
   rw [List.take_zero, List.flatten_nil, List.append_nil]
   exact V_to (Kd.R_V (Kd.R_bound HV2.out) (base' := 0)) (fun k hk => Nat.le_trans HB1.out.size hk.2.1)))
  all_goals (go_wp2_with fail)
  all_goals go_meet
  all_goals exact ⟨HX, HB2⟩
 case rest =>
  obtain ⟨HX, HB2⟩ := hcut
  clear hs1
  go_wp2
  go_loopw [3, 4] (fun s i wr => ∃ m : Nat, m ≤ a.S.length ∧ i = .int .i64 m ∧ Aside0 (Kd.V k33 33 wr w.heap.size (fun k => w.heap.size ≤ k) s (a0b (a0l a ++ a.sh ++ (a.loc.take m).flatten))) ∧ Aside0 (Below w.heap.size w wr)) (fun _ i _ => a.S.length - (intOf i).toNat)
  case atStart => exact ⟨0, Nat.zero_le _, rfl, HX, HB2⟩
  case round =>
   obtain ⟨m, hm, rfl, HR1, HB⟩ := hrel
   have hp := pw_cell_below HB.out hp
   by_cases hlt : m < a.S.length
   · obtain ⟨A6, c6, x1, hc6, hf6, _⟩ := (HS.out.below HB.out).locc (HS.out.at_ hlt)
     obtain ⟨L1, hL1⟩ : ∃ L1, L1 = a0b (a0l a ++ a.sh ++ (a.loc.take m).flatten) := ⟨_, rfl⟩
     obtain ⟨L2, hL2⟩ : ∃ L2, L2 = a.loc.getD m [] := ⟨_, rfl⟩
     rw [← hL2] at x1 hc6 hf6
     have HEQ := za (show a0b (a0l a ++ a.sh ++ (a.loc.take (m + 1)).flatten) = a0b (L1 ++ L2) by
      rw [b1u a.loc m (by omega), ← List.append_assoc, hL1, hL2]
      exact a1y ((a0n _).symm.append_right _))
     have HLS := za (show L1.length + L2.length ≤ 1900 by
      rw [hL1, hL2, a0i, List.length_append, List.length_append]
      have := a9q a.loc m
      have := a2x a.loc m
      have := HSE.out
      have := HN.out
      omega)
     rw [← hL1] at HR1
     have HMT := za (a8k 1000000 L1 L2 (by have := HLS.out; omega) (by have := HLS.out; omega))
     have HF6 := za (Kd.F_now hf6)
     obtain ⟨A5, c5, e5⟩ := Kd.V_slice HR1.out
     subst e5
     have HV5 := za (Kd.V_reads' HR1.out)
     clear hL1 hL2 hf6
     go_wp2_with fail
     refine (vergerref5_Merge.calls 1000000 A5 c5 L1 A6 c6 L2 _ wr HV5.out.2.2 HV5.out.2.1 HF6.out hc6 HMT.out).mono ?_
     rintro e w7 ⟨v7, rfl, hv7, hb7⟩
     have HB7 := za (below_step HB.out hb7)
     have HR7 := za hv7
     clear hv7 hb7
     go_wp2
     go_roundw
     case rel => exact ⟨m + 1, by omega, by go_num, ⟨by rw [HEQ.out]; exact V_to (Kd.R_V (Kd.R_bound HR7.out) (base' := 0)) (fun k hk => Nat.le_trans HB.out.size hk.2.1)⟩, HB7⟩
     case measure => simp [intOf]; omega
   · obtain rfl : m = a.S.length := by omega
     have HR2 := za (show Kd.V k33 33 wr w.heap.size (fun k => w.heap.size ≤ k) _ (allQ a) from by
      have := HR1.out
      rw [← hla, List.take_length] at this
      exact this)
     clear HR1
     have HB8 := za HB.out
     go_wp2
     go_ret
     exact ⟨_, rfl, HR2.out, HB8.out⟩
theorem b1p {w : World} {ok : Nat → Prop} {r : Rq} {a : Qa} (h : RQ w ok r a) (hn : sumL a.loc + a.sh.length ≤ 900) :
 Calls Tryz.prog 21 #[.pointer (some ⟨r.pr, 0, none⟩)] w fun e w' => e = .returned (retV (allQ a).head?) ∧ Below w.heap.size w w' := by
 have HQ := za (h.below (ZBox.first w).bel)
 have HZ := za (ZBox.first w)
 obtain ⟨l, hl⟩ : ∃ l, allQ a = l := ⟨_, rfl⟩
 have HL := za hl
 rw [hl]
 have HLA := za (show l.length ≤ 1000000 by rw [← hl]; have := a6d a; have := h.few; omega)
 clear h hl
 go_enter Tryz.func21, Tryz.ntmps21
 go_wp2_with fail
 refine (a8i HQ.out hn).mono ?_
 rintro e w1 ⟨v1, rfl, hv1, hb1⟩
 rw [HL.out] at hv1
 obtain ⟨A1, c1, rfl⟩ := Kd.V_slice hv1
 have HZ1 := za (HZ.out.below hb1)
 have HV1 := za (Kd.V_reads' hv1)
 obtain ⟨x0, x1, y0, y1⟩ := HZ1.out.facts
 clear hv1 hb1
 cases l with
 | nil =>
  go_wp2
  exact bodyPost_ret (v := retV none) (by simp [results, Tryz.results21, go_sem, x0, x1, retV, optV]) rfl ⟨rfl, by first | exact HZ1.out.done _ _ | exact HZ1.out.bel⟩
 | cons e0 t =>
  obtain ⟨ad, rfl, z0, z1⟩ := e_at HV1.out.2.2 (i := 0) (e := e0) rfl
  rw [show ad.add (0 * 2) = ad from by simp [Addr.add]] at z0 z1
  go_wp2
  exact bodyPost_ret (v := retV (some e0)) (by simp [results, Tryz.results21, go_sem, x0, x1, retV, optV]) rfl ⟨rfl, by first | exact HZ1.out.done _ _ | exact HZ1.out.bel⟩
def a2a (l : List E) (id : Int) : Nat := l.findIdx fun e => e.f1 == id
theorem b8x (l : List E) (id : Int) : a2a l id ≤ l.length := List.findIdx_le_length
theorem b9p {l : List E} {id : Int} {i : Nat} (hi : i < l.length) (hle : i ≤ a2a l id) (h : (l[i]).f1 = id) : a2a l id = i := by
 rcases Nat.lt_or_ge i (a2a l id) with hlt | hge
 · have := List.not_of_lt_findIdx hlt
   simp [h] at this
 · omega
theorem c3g {l : List E} {id : Int} {i : Nat} (hi : i < l.length) (hle : i ≤ a2a l id) (h : ¬ (l[i]).f1 = id) : i + 1 ≤ a2a l id := by
 rcases Nat.lt_or_ge i (a2a l id) with hlt | hge
 · exact hlt
 · have he : a2a l id = i := by omega
   have h2 := (List.findIdx_eq hi).1 (show l.findIdx (fun e => e.f1 == id) = i from he)
   exact absurd (by simpa using h2.1) h
theorem b4v (l : List E) (id : Int) (hl : l.length < 1000000000) : ∀ (d k i : Nat), l.length - i = d → i ≤ a2a l id → d < k → vergerref5_Has.l0 k l id (i : Int) = some (decide (a2a l id < l.length)) := by
 have hfl := b8x l id
 intro d
 induction d with
 | zero =>
  intro k i hd hi hk
  obtain ⟨k, rfl, _⟩ := a1c hk
  simp only [vergerref5_Has.l0]
  rw [if_neg (by omega), decide_eq_false (by omega)]
 | succ d ih =>
  intro k i hd hi hk
  obtain ⟨k, rfl, hk'⟩ := a1c hk
  have hlt : i < l.length := by omega
  have hz : (i : Int) < (l.length : Int) := by omega
  have h0 : (0 : Int) ≤ (i : Int) := by omega
  simp only [vergerref5_Has.l0, if_pos hz, if_pos h0, a8q hlt, a1u (show i ≤ 4611686018427387904 by omega)]
  by_cases hc : (l[i]).f1 = id
  · rw [if_pos hc, b9p hlt hi hc, decide_eq_true hlt]
  · rw [if_neg hc]
    exact ih k (i + 1) (by omega) (c3g hlt hi hc) (by omega)
theorem b9a (k : Nat) (l : List E) (id : Int) (hl : l.length < 1000000000) (hk : l.length < k) : vergerref5_Has.f k l id = some (decide (a2a l id < l.length)) := by
 have := b4v l id hl l.length k 0 (by omega) (by omega) hk
 unfold vergerref5_Has.f
 exact this
theorem b5u (l : List E) (id : Int) : a2a l id < l.length ↔ ∃ e ∈ l, e.f1 = id := by
 unfold a2a
 rw [List.findIdx_lt_length]
 simp
theorem b2h (k : Nat) (l : List E) (id : Int) (hl : l.length < 1000000000) (hk : l.length < k) : vergerref5_Has.f k l id = some (l.any (isId id)) := by
 rw [b9a k l id hl hk]
 congr 1
 apply Bool.eq_iff_iff.2
 rw [decide_eq_true_eq, b5u, List.any_eq_true]
 simp [isId]
theorem b1w {w : World} {ok : Nat → Prop} {r : Rq} {a : Qa} (h : RQ w ok r a) (hn : sumL a.loc + a.sh.length ≤ 900) (id : Int) :
 Calls Tryz.prog 23 #[.pointer (some ⟨r.pr, 0, none⟩), .int .i64 id] w fun e w' => e = .returned (a0t (a0p a id)) ∧ Below w.heap.size w w' := by
 have hp1 := h.c1
 have hp2 := h.c2
 have hla := h.la
 have HS := za h
 have hl := h.few
 have HC := za hn
 clear h
 go_enter Tryz.func23, Tryz.ntmps23
 go_wp2
 go_loopw [6] (fun i wr => ∃ m : Nat, m ≤ a.S.length ∧ i = .int .i64 m ∧ Aside0 (∀ j b, j < m → a.S[j]? = some b → hasO id b = false) ∧ Aside0 (Below w.heap.size w wr)) (fun i _ => a.S.length - (intOf i).toNat)
 case atStart => exact ⟨0, Nat.zero_le _, rfl, ⟨fun j b h => by omega⟩, ⟨Below.refl _ _⟩⟩
 case round =>
  obtain ⟨m, hm, rfl, HN, HB⟩ := hrel
  have hp1 := pw_cell_below HB.out hp1
  have hp2 := pw_cell_below HB.out hp2
  by_cases hlt : m < a.S.length
  · obtain ⟨o, ho⟩ : ∃ o, a.S[m]? = some o := ⟨_, List.getElem?_eq_getElem hlt⟩
    have HO := za ho
    cases o with
    | some e =>
     obtain ⟨c0, c1, c2, c3⟩ := (HS.out.below HB.out).slot1 ho
     clear ho
     by_cases hh : e.f1 = id
     · have HE := za (b2p HO.out (by show isId id e = true; unfold isId; exact decide_eq_true hh) HN.out)
       have d0 : (e.f1 == id) = true := beq_iff_eq.2 hh
       have HB1 := za HB.out
       go_wp2
       exact bodyPost_ret (v := a0t (1, m)) (by simp [results, Tryz.results23, go_sem, a0t]) rfl ⟨by rw [HE.out], HB1.out⟩
     · have HN1 := za (show ∀ j b, j < m + 1 → a.S[j]? = some b → hasO id b = false from fun j b hj hb => by
        by_cases e1 : j < m
        · exact HN.out j b e1 hb
        · obtain rfl : j = m := by omega
          rw [HO.out] at hb
          injection hb with hb
          subst hb
          show isId id e = false
          unfold isId
          exact decide_eq_false hh)
       have d0 : (e.f1 == id) = false := beq_eq_false_iff_ne.2 hh
       go_wp2
       go_roundw
       case rel => exact ⟨m + 1, by omega, by go_num, HN1, HB⟩
       case measure => simp [intOf]; omega
    | none =>
     obtain ⟨c0, c1, c2, c3⟩ := (HS.out.below HB.out).slot0 ho
     clear ho
     have HN1 := za (show ∀ j b, j < m + 1 → a.S[j]? = some b → hasO id b = false from fun j b hj hb => by
      by_cases e1 : j < m
      · exact HN.out j b e1 hb
      · obtain rfl : j = m := by omega
        rw [HO.out] at hb
        injection hb with hb
        subst hb
        rfl)
     go_wp2
     go_roundw
     case rel => exact ⟨m + 1, by omega, by go_num, HN1, HB⟩
     case measure => simp [intOf]; omega
  · obtain rfl : m = a.S.length := by omega
    have HNS := za (a5h HN.out)
    have HB1 := za HB.out
    clear HN HB hm hlt
    go_wp2
    go_loopw [7] (fun i wx => ∃ m : Nat, m ≤ a.S.length ∧ i = .int .i64 m ∧ Aside0 (∀ j b, j < m → a.loc[j]? = some b → b.any (isId id) = false) ∧ Aside0 (Below w.heap.size w wx)) (fun i _ => a.S.length - (intOf i).toNat)
    case atStart => exact ⟨0, Nat.zero_le _, rfl, ⟨fun j b h => by omega⟩, HB1⟩
    case round =>
     obtain ⟨m, hm, rfl, HN, HB⟩ := hrel
     have hp2 := (HS.out.below HB.out).c2
     by_cases hlt : m < a.S.length
     · have HAT := za (HS.out.at_ hlt)
       obtain ⟨A6, c6, x1, hc6, hf6, _⟩ := (HS.out.below HB.out).locc HAT.out
       obtain ⟨l, hl2⟩ : ∃ l, l = a.loc.getD m [] := ⟨_, rfl⟩
       rw [← hl2] at x1 hc6 hf6 HAT
       have HF := za (Kd.F_now hf6)
       have HT := za (b2h 1000000 l id (by rw [hl2]; have := a2x a.loc m; have := HC.out; omega) (by rw [hl2]; have := a2x a.loc m; have := HC.out; omega))
       clear hf6 hl2
       go_wp2_with fail
       refine (vergerref5_Has.calls 1000000 A6 c6 l id _ wr HF.out hc6 HT.out).mono ?_
       rintro e w3 ⟨rfl, hd3⟩
       have HB3 := za (below_step HB.out hd3.below)
       clear hd3
       cases hv : l.any (isId id) with
       | true =>
        have HE := za (a9c HNS.out HAT.out hv HN.out)
        clear hv
        go_wp2
        exact bodyPost_ret (v := a0t (2, m)) (by simp [results, Tryz.results23, go_sem, a0t]) rfl ⟨by rw [HE.out], HB3.out⟩
       | false =>
        have HN1 := za (show ∀ j b, j < m + 1 → a.loc[j]? = some b → b.any (isId id) = false from fun j b hj hb => by
         by_cases e1 : j < m
         · exact HN.out j b e1 hb
         · obtain rfl : j = m := by omega
           rw [HAT.out] at hb
           injection hb with hb
           subst hb
           exact hv)
        clear hv
        go_wp2
        go_roundw
        case rel => exact ⟨m + 1, by omega, by go_num, HN1, HB3⟩
        case measure => simp [intOf]; omega
     · obtain rfl : m = a.S.length := by omega
       have HNL := za (a5h (by rw [hla]; exact HN.out))
       obtain ⟨As, cs, hs1, hs2, hs3, _⟩ := (HS.out.below HB.out).shc
       have HF := za (Kd.F_now hs3)
       have HT := za (b2h 1000000 a.sh id (by have := HC.out; omega) (by have := HC.out; omega))
       have HBX := za HB.out
       clear hs3
       go_wp2_with fail
       refine (vergerref5_Has.calls 1000000 As cs a.sh id _ wr HF.out hs2 HT.out).mono ?_
       rintro e w3 ⟨rfl, hd3⟩
       have HB3 := za (below_step HBX.out hd3.below)
       clear hd3
       cases hv : a.sh.any (isId id) with
       | true =>
        have HE := za (show a0p a id = (3, 0) by rw [a6c HNS.out HNL.out, hv]; rfl)
        clear hv
        go_wp2
        exact bodyPost_ret (v := a0t (3, 0)) (by simp [results, Tryz.results23, go_sem, a0t]) rfl ⟨by rw [HE.out], HB3.out⟩
       | false =>
        have HE := za (show a0p a id = (0, 0) by rw [a6c HNS.out HNL.out, hv]; rfl)
        clear hv
        go_wp2
        exact bodyPost_ret (v := a0t (0, 0)) (by simp [results, Tryz.results23, go_sem, a0t]) rfl ⟨by rw [HE.out], HB3.out⟩
end Go.Proofs.YthghkglkifeagaaGreat.V
