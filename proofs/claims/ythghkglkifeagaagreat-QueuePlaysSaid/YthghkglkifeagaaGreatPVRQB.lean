-- a text of this work, without what this claim doesn't use (wip/shake.py)
import Derived.Test.YthghkglkifeagaaGreatPVRQ7
import Derived.Test.YthghkglkifeagaaGreatPVT3
import Derived.Test.YthghkglkifeagaaGreatPVNP
import Derived.Test.YthghkglkifeagaaGreatPVPvergerref5
import Derived.Test.YthghkglkifeagaaGreatPVLsmP
import Derived.Test.YthghkglkifeagaaGreatPVP5T
import Derived.Test.YthghkglkifeagaaGreatPVRQ3
import Derived.Test.YthghkglkifeagaaGreatPVGenS
import Derived.Test.YthghkglkifeagaaGreatPVSh7
set_option maxRecDepth 100000
set_option maxHeartbeats 8000000
set_option linter.unusedVariables false
set_option linter.unusedSimpArgs false
namespace Go.Proofs.YthghkglkifeagaaGreat.V
open Go.RowKit Go.Proofs.YthghkglkifeagaaGreatW.PrintWords Go.Proofs.YthghkglkifeagaaGreatW.PrintLast Go.Proofs.YthghkglkifeagaaGreatW.PrintMore
theorem b7y {α : Type} (p : Nat × Nat → Bool) (c : Nat) : ∀ (l : List α) (f : α → Bool) (m : Nat), (∀ t x, l[t]? = some x → p (c, m + t) = f x) → ((List.range' m l.length).map (fun t => (c, t))).find? p = (l.findIdx? f).map (fun t => (c, m + t)) := by
 intro l
 induction l with
 | nil => intro f m h; rfl
 | cons a r ih =>
  intro f m h
  have h0 := h 0 a rfl
  rw [Nat.add_zero] at h0
  rw [List.length_cons, List.range'_succ, List.map_cons, List.find?_cons, h0, List.findIdx?_cons]
  cases hf : f a with
  | true => simp
  | false =>
   rw [ih f (m + 1) (fun t x hx => by rw [show m + 1 + t = m + (t + 1) by omega]; exact h (t + 1) x (by simpa using hx))]
   simp only [Bool.false_eq_true, if_false, Option.map_map]
   congr 1
   funext t
   simp only [Function.comp]
   congr 1
   omega
theorem b3p {α : Type} (p : Nat × Nat → Bool) (c : Nat) (l : List α) (f : α → Bool) (h : ∀ t x, l[t]? = some x → p (c, t) = f x) : (a0q c l.length).find? p = (l.findIdx? f).map (fun t => (c, t)) := by
 unfold a0q
 rw [List.range_eq_range', b7y p c l f 0 (fun t x hx => by rw [Nat.zero_add]; exact h t x hx)]
 congr 1
 funext t
 rw [Nat.zero_add]
theorem b6c {a : Qa} (id : Int) (hl : a.S.length = a.loc.length) : takeW a id = a0x a id := by
 have h1 : (a0q 1 a.loc.length).find? (hitQ a id) = (a.S.findIdx? (hasO id)).map (fun t => (1, t)) := by
  rw [← hl]
  refine b3p _ 1 a.S (hasO id) (fun t x hx => ?_)
  show hasO id ((a.S[t]?).getD none) = _
  rw [hx]; rfl
 have h2 : (a0q 2 a.loc.length).find? (hitQ a id) = (a.loc.findIdx? (fun l => l.any (isId id))).map (fun t => (2, t)) := by
  refine b3p _ 2 a.loc _ (fun t x hx => ?_)
  show (a.loc.getD t []).any (isId id) = _
  rw [List.getD_eq_getElem?_getD, hx]; rfl
 have h3 : hitQ a id (3, 0) = a.sh.any (isId id) := rfl
 unfold takeW a0x a1a
 rw [List.find?_append, List.find?_append, h1, h2]
 cases hS : a.S.findIdx? (hasO id) with
 | some t =>
  have hw : a0p a id = (1, t) := by unfold a0p; rw [hS]
  rw [hw]; rfl
 | none =>
  cases hL : a.loc.findIdx? (fun l => l.any (isId id)) with
  | some t =>
   have hw : a0p a id = (2, t) := by unfold a0p; rw [hS]; simp only []; rw [hL]
   rw [hw]; rfl
  | none =>
   have hw := a6c hS hL
   rw [hw]
   cases hh : a.sh.any (isId id) with
   | true => simp [List.find?_cons, h3, hh]
   | false => simp [List.find?_cons, h3, hh]
def inT (a : Qa) (t : Int) : Bool := decide (0 ≤ t ∧ t < (a.loc.length : Int))
def putI (a : Qa) (t : Int) (e : E) : Qa := if inT a t = true then putQ a t.toNat e else a
def setI (a : Qa) (t : Int) : Qa := if inT a t = true then a0j a t.toNat else a
def hadI (a : Qa) (t : Int) : Bool := inT a t && (a0k a t.toNat).isSome
def relI (a : Qa) (t : Int) (d : Nat) : Option E := if inT a t = true then a1j a t.toNat d else none
theorem a3u {a : Qa} {t : Int} (h : ¬ inT a t = true) : t < 0 ∨ (a.loc.length : Int) ≤ t := by
 unfold inT at h
 rw [decide_eq_true_eq] at h
 omega
theorem a3h {a : Qa} {t : Int} (h : inT a t = true) : ∃ s : Nat, t = (s : Int) ∧ s < a.loc.length ∧ t.toNat = s := by
 unfold inT at h
 rw [decide_eq_true_eq] at h
 exact ⟨t.toNat, by omega, by omega, rfl⟩
def Own (C : List (Nat × Obj)) (k : Nat) : Prop := ∃ o, (k, o) ∈ C
structure Two (w0 w : World) (pq pr : Nat) (a b : Qa) (n : Nat) (B : List (Nat × Obj)) : Prop where
  ex : ∃ (r : Rq) (C : List (Nat × Obj)), r.pr = pr ∧ QOk w0 w pq a n (C ++ B) ∧ RQ w (Own C) r b ∧ ∀ x ∈ B, ¬ Own C x.1
namespace Two
variable {w0 w w1 : World} {pq pr : Nat} {a b : Qa} {n : Nat} {B : List (Nat × Obj)}
theorem bel (h : Two w0 w pq pr a b n B) : Below w0.heap.size w0 w := by obtain ⟨_, _, _, h1, _⟩ := h.ex; exact h1.bel
theorem q (h : Two w0 w pq pr a b n B) : ∃ C, QOk w0 w pq a n (C ++ B) := by obtain ⟨_, C, _, h1, _⟩ := h.ex; exact ⟨C, h1⟩
theorem rq (h : Two w0 w pq pr a b n B) : ∃ r ok, r.pr = pr ∧ RQ w ok r b := by obtain ⟨r, C, h0, _, h2, _⟩ := h.ex; exact ⟨r, _, h0, h2⟩
theorem step {a' : Qa} {m : Nat} (h : Two w0 w pq pr a b n B) (hq : ∀ C, QOk w0 w pq a n (C ++ B) → QOk w0 w1 pq a' m (C ++ B)) : Two w0 w1 pq pr a' b m B := by
 obtain ⟨r, C, h0, h1, h2, h3⟩ := h.ex
 have h4 := hq C h1
 refine ⟨r, C, h0, h4, h2.step (fun k hk _ => ?_), h3⟩
 obtain ⟨o, ho⟩ := hk
 rw [h4.at_ (x := (k, o)) (List.mem_append_left _ ho), h1.at_ (x := (k, o)) (List.mem_append_left _ ho)]
theorem below (h : Two w0 w pq pr a b n B) (hb : Below w.heap.size w w1) : Two w0 w1 pq pr a b n B := h.step (fun C hc => hc.below hb)
theorem mono (h : Two w0 w pq pr a b n B) {m : Nat} (hm : n ≤ m) : Two w0 w pq pr a b m B := h.step (fun C hc => hc.mono hm)
theorem at_ {x : Nat × Obj} (h : Two w0 w pq pr a b n B) (hx : x ∈ B) : w.heap[x.1]? = some x.2 := by
 obtain ⟨_, C, _, h1, _⟩ := h.ex
 exact h1.at_ (List.mem_append_right _ hx)
theorem few (h : Two w0 w pq pr a b n B) : 1 ≤ a.loc.length ∧ a.loc.length ≤ 8 ∧ a.S.length = a.loc.length := by obtain ⟨C, h1⟩ := h.q; exact h1.few
theorem cnt (h : Two w0 w pq pr a b n B) : sumL a.loc + a.sh.length ≤ n := by obtain ⟨C, h1⟩ := h.q; exact h1.cnt
theorem sortedL (h : Two w0 w pq pr a b n B) (t : Nat) : a0d (a.loc.getD t []) := by obtain ⟨C, h1⟩ := h.q; exact h1.sortedL t
theorem box (h : Two w0 w pq pr a b n B) (hb : Below w.heap.size w w1) {g : Nat} {o : Obj} (hg : w.heap.size ≤ g) (ho : w1.heap[g]? = some o) : Two w0 w1 pq pr a b n ((g, o) :: B) := by
 obtain ⟨r, C, h0, h1, h2, h3⟩ := h.ex
 have hx := h1.box hb hg ho
 have hC : ∀ k, Own C k → k < w.heap.size := by
  rintro k ⟨u, hu⟩
  exact (Array.getElem?_eq_some_iff.1 (h1.at_ (x := (k, u)) (List.mem_append_left _ hu))).1
 refine ⟨r, C, h0, ⟨?_, hx.bel⟩, h2.below hb, ?_⟩
 · obtain ⟨who, q, e1, e2, e3⟩ := hx.ex
   refine ⟨who, q, e1, e2, fun x hxm => e3 x ?_⟩
   rcases List.mem_append.1 hxm with hm | hm
   · exact List.mem_cons_of_mem _ (List.mem_append_left _ hm)
   · rcases List.mem_cons.1 hm with rfl | hm
     · exact List.mem_cons_self
     · exact List.mem_cons_of_mem _ (List.mem_append_right _ hm)
 · intro x hxm
   rcases List.mem_cons.1 hxm with rfl | hm
   · intro ho'
     have := hC _ ho'
     omega
   · exact h3 x hm
theorem unbox {x : Nat × Obj} (h : Two w0 w pq pr a b n (x :: B)) : Two w0 w pq pr a b n B := by
 obtain ⟨r, C, h0, h1, h2, h3⟩ := h.ex
 refine ⟨r, C, h0, ⟨?_, h1.bel⟩, h2, fun y hy => h3 y (List.mem_cons_of_mem _ hy)⟩
 obtain ⟨who, q, e1, e2, e3⟩ := h1.ex
 refine ⟨who, q, e1, e2, fun y hy => e3 y ?_⟩
 rcases List.mem_append.1 hy with hm | hm
 · exact List.mem_append_left _ hm
 · exact List.mem_append_right _ (List.mem_cons_of_mem _ hm)
end Two
def a3x (C : List (Nat × Obj)) (m : Nat) (w1 : World) : List (Nat × Obj) := (List.range w1.heap.size).filterMap fun k => if k ∈ C.map Prod.fst ∨ m ≤ k then (w1.heap[k]?).map (fun o => (k, o)) else none
theorem mem_freshC {C : List (Nat × Obj)} {m : Nat} {w1 : World} {k : Nat} {o : Obj} : (k, o) ∈ a3x C m w1 ↔ (Own C k ∨ m ≤ k) ∧ w1.heap[k]? = some o := by
 have hO : k ∈ C.map Prod.fst ↔ Own C k := by
  constructor
  · intro h
    obtain ⟨y, hy, rfl⟩ := List.mem_map.1 h
    exact ⟨y.2, hy⟩
  · rintro ⟨o, h⟩
    exact List.mem_map.2 ⟨(k, o), h, rfl⟩
 unfold a3x
 rw [List.mem_filterMap]
 constructor
 · rintro ⟨j, hj, h⟩
   split at h
   · rename_i hc
     cases hh : w1.heap[j]? with
     | none => rw [hh] at h; cases h
     | some u =>
      rw [hh] at h
      injection h with h
      injection h with h4 h5
      subst h4; subst h5
      exact ⟨hc.imp hO.1 id, hh⟩
   · cases h
 · rintro ⟨h1, h2⟩
   refine ⟨k, List.mem_range.2 (Array.getElem?_eq_some_iff.1 h2).1, ?_⟩
   rw [if_pos (h1.imp hO.2 id), h2]; rfl
theorem QOk.chg {w0 w w1 : World} {pq : Nat} {a : Qa} {n : Nat} {B C : List (Nat × Obj)} {S : Nat → Prop} (h : QOk w0 w pq a n (C ++ B)) (hS : ∀ k, S k → Own C k) (hc : Chg S w w1) (hd : ∀ x ∈ B, ¬ Own C x.1) :
 QOk w0 w1 pq a n (a3x C w.heap.size w1 ++ B) ∧ ∀ x ∈ B, ¬ Own (a3x C w.heap.size w1) x.1 := by
 obtain ⟨who, q, h1, h2, h3⟩ := h.ex
 have hown : ∀ k, Own C k → who k = 11 ∧ w0.heap.size ≤ k := by
  rintro k ⟨o, ho⟩
  exact (h3 (k, o) (List.mem_append_left _ ho)).2
 have hb : ∀ k, k < w.heap.size → who k ≠ 11 → w1.heap[k]? = w.heap[k]? := fun k hk hw => hc.block k hk (fun hs => hw (hown k (hS k hs)).1)
 refine ⟨⟨⟨upO who 11 w.heap.size, q, ?_, h2, fun x hx => ?_⟩, ?_⟩, fun x hx ho => ?_⟩
 · obtain ⟨a1, a2, a3⟩ := h1.base_other hc.size hb (s := 11) (by omega)
   obtain ⟨b1, b2, b3⟩ := h1.slots_other hb (s := 11) (by omega)
   exact ⟨a1, a2, a3, b1, b2, b3, fun t m hm => (h1.ow t m hm).other hc.size hb (by have := (List.getElem?_eq_some_iff.1 hm).1; have := h1.few; omega), h1.sh.other hc.size hb (by omega), h1.lq, h1.ls, h1.len, h1.few, h1.some⟩
 · rcases List.mem_append.1 hx with hx | hx
   · obtain ⟨k, o⟩ := x
     obtain ⟨e1, e2⟩ := mem_freshC.1 hx
     refine ⟨e2, ?_, ?_⟩
     · by_cases hk : w.heap.size ≤ k
       · exact a1r hk
       · rcases e1 with e1 | e1
         · show upO who 11 w.heap.size k = 11
           rw [a0r (by omega)]; exact (hown k e1).1
         · exact absurd e1 hk
     · rcases e1 with e1 | e1
       · exact (hown k e1).2
       · exact Nat.le_trans h.lo e1
   · obtain ⟨r1, r2, r3⟩ := h3 x (List.mem_append_right _ hx)
     have hxl := (Array.getElem?_eq_some_iff.1 r1).1
     exact ⟨(hc.block x.1 hxl (fun hs => hd x hx (hS _ hs))).trans r1, by rw [a0r hxl]; exact r2, r3⟩
 · exact ⟨hc.os.trans h.bel.os, hc.tape.trans h.bel.tape, hc.output.trans h.bel.output, Nat.le_trans h.bel.size hc.size, fun k hk => by
    rw [← h.bel.block k hk]
    exact hc.block k (Nat.lt_of_lt_of_le hk h.bel.size) (fun hs => by have := (hown k (hS k hs)).2; omega)⟩
 · obtain ⟨o, ho⟩ := ho
   rcases (mem_freshC.1 ho).1 with e1 | e1
   · exact hd x hx e1
   · have := (Array.getElem?_eq_some_iff.1 (h3 x (List.mem_append_right _ hx)).1).1
     omega
theorem Two.wrote {w0 w w1 : World} {pq pr : Nat} {a b b' : Qa} {n : Nat} {B : List (Nat × Obj)} {r : Rq} {C : List (Nat × Obj)} (h0 : r.pr = pr) (h1 : QOk w0 w pq a n (C ++ B)) (h2 : RQ w (Own C) r b) (h3 : ∀ x ∈ B, ¬ Own C x.1) (hs : SetPost w (Own C) r b' w1) : Two w0 w1 pq pr a b' n B := by
 obtain ⟨r', ⟨p1, p2, p3⟩, hr, hc⟩ := hs
 have hin : ∀ k, inR r k → Own C k := by
  rintro k (rfl | rfl | rfl)
  · exact h2.own.1
  · exact h2.own.2.1
  · exact h2.own.2.2
 obtain ⟨k1, k2⟩ := h1.chg hin hc h3
 refine ⟨r', a3x C w.heap.size w1, p1.trans h0, k1, hr.mono (fun k hk hlt => ?_), k2⟩
 obtain ⟨o, ho⟩ : ∃ o, w1.heap[k]? = some o := ⟨_, Array.getElem?_eq_getElem hlt⟩
 exact ⟨o, mem_freshC.2 ⟨hk, ho⟩⟩
section
variable {w0 w : World} {pq pr : Nat} {a b : Qa} {n : Nat} {B : List (Nat × Obj)}
theorem b0r (h : Two w0 w pq pr a b n B) (hn : n ≤ 800) (t : Int) (e : E) :
 Calls Tryz.prog 8 #[.pointer (some ⟨pq, 0, none⟩), .int .i64 t, .agg #[.int .u64 e.f0, .int .i64 e.f1]] w fun x w' => x = .returned (.int .i64 (if inT a t = true then 0 else 1)) ∧ Two w0 w' pq pr (putI a t e) b (n + 1) B := by
 obtain ⟨r, C, h0, h1, h2, h3⟩ := h.ex
 by_cases hT : inT a t = true
 · obtain ⟨s, rfl, hs, es⟩ := a3h hT
   unfold putI
   rw [if_pos hT, if_pos hT, es]
   refine (a8a h1 hn s hs e).mono ?_
   rintro x w' ⟨rfl, hq⟩
   refine ⟨rfl, r, C, h0, hq, h2.step (fun k hk _ => ?_), h3⟩
   obtain ⟨o, ho⟩ := hk
   rw [hq.at_ (x := (k, o)) (List.mem_append_left _ ho), h1.at_ (x := (k, o)) (List.mem_append_left _ ho)]
 · unfold putI
   rw [if_neg hT, if_neg hT]
   refine (b9q h1 t (a3u hT) e).mono ?_
   rintro x w' ⟨rfl, hb⟩
   exact ⟨rfl, (h.below hb).mono (by omega)⟩
theorem b8d (h : Two w0 w pq pr a b n B) (hn : n ≤ 800) (t : Int) :
 Calls Tryz.prog 9 #[.pointer (some ⟨pq, 0, none⟩), .int .i64 t] w fun x w' => x = .returned (.bool (hadI a t)) ∧ Two w0 w' pq pr (setI a t) b (n + 1) B := by
 obtain ⟨r, C, h0, h1, h2, h3⟩ := h.ex
 unfold setI hadI
 by_cases hT : inT a t = true
 · obtain ⟨s, rfl, hs, es⟩ := a3h hT
   rw [if_pos hT, hT, es, Bool.true_and]
   refine (b5a h1 hn s hs).mono ?_
   rintro x w' ⟨rfl, hq⟩
   refine ⟨rfl, r, C, h0, hq, h2.step (fun k hk _ => ?_), h3⟩
   obtain ⟨o, ho⟩ := hk
   rw [hq.at_ (x := (k, o)) (List.mem_append_left _ ho), h1.at_ (x := (k, o)) (List.mem_append_left _ ho)]
 · rw [if_neg hT, show inT a t = false from by simpa using hT, Bool.false_and]
   refine (b7m h1 t (a3u hT)).mono ?_
   rintro x w' ⟨rfl, hb⟩
   exact ⟨rfl, (h.below hb).mono (by omega)⟩
theorem b6v (h : Two w0 w pq pr a b n B) (hn : n ≤ 800) (hu : Unlike a.sh ∧ ∀ t, Unlike (a.loc.getD t [])) (id : Int) :
 Calls Tryz.prog 10 #[.pointer (some ⟨pq, 0, none⟩), .int .i64 id] w fun x w' => x = .returned (.bool (a0x a id).1) ∧ Two w0 w' pq pr (a0x a id).2 b (n + 1) B := by
 obtain ⟨r, C, h0, h1, h2, h3⟩ := h.ex
 refine (b4t h1 hn hu id).mono ?_
 rintro x w' ⟨rfl, hq⟩
 refine ⟨rfl, r, C, h0, hq, h2.step (fun k hk _ => ?_), h3⟩
 obtain ⟨o, ho⟩ := hk
 rw [hq.at_ (x := (k, o)) (List.mem_append_left _ ho), h1.at_ (x := (k, o)) (List.mem_append_left _ ho)]
theorem b2b (h : Two w0 w pq pr a b n B) (hn : sumL b.loc + b.sh.length ≤ 900) (hso : ∀ t, a0d (b.loc.getD t [])) (t : Int) (e : E) :
 Calls Tryz.prog 18 #[.pointer (some ⟨pr, 0, none⟩), .int .i64 t, .agg #[.int .u64 e.f0, .int .i64 e.f1]] w fun x w' => x = .returned (.bool (inT b t)) ∧ Two w0 w' pq pr a (putI b t e) n B := by
 obtain ⟨r, C, h0, h1, h2, h3⟩ := h.ex
 have hla := h2.la
 subst h0
 unfold putI
 by_cases hT : inT b t = true
 · obtain ⟨s, rfl, hs, es⟩ := a3h hT
   rw [if_pos hT, hT, es]
   refine (r_put h2 hn s (by omega) (hso s) e).mono ?_
   rintro x w' ⟨rfl, hq⟩
   exact ⟨rfl, Two.wrote rfl h1 h2 h3 hq⟩
 · have ho := a3u hT
   rw [if_neg hT, show inT b t = false from by simpa using hT]
   refine (b3u h2 t (by rw [← hla]; exact ho) e).mono ?_
   rintro x w' ⟨rfl, hb⟩
   exact ⟨rfl, h.below hb⟩
theorem b4n (h : Two w0 w pq pr a b n B) (hn : sumL b.loc + b.sh.length ≤ 900) (hso : ∀ t, a0d (b.loc.getD t [])) (t : Int) :
 Calls Tryz.prog 19 #[.pointer (some ⟨pr, 0, none⟩), .int .i64 t] w fun x w' => x = .returned (.bool (hadI b t)) ∧ Two w0 w' pq pr a (setI b t) n B := by
 obtain ⟨r, C, h0, h1, h2, h3⟩ := h.ex
 have hla := h2.la
 subst h0
 unfold setI hadI
 by_cases hT : inT b t = true
 · obtain ⟨s, rfl, hs, es⟩ := a3h hT
   rw [if_pos hT, hT, es, Bool.true_and]
   refine (a9o h2 hn s (by omega) (hso s)).mono ?_
   rintro x w' ⟨rfl, hq⟩
   exact ⟨rfl, Two.wrote rfl h1 h2 h3 hq⟩
 · have ho := a3u hT
   rw [if_neg hT, show inT b t = false from by simpa using hT, Bool.false_and]
   refine (b8t h2 t (by rw [← hla]; exact ho)).mono ?_
   rintro x w' ⟨rfl, hb⟩
   exact ⟨rfl, h.below hb⟩
theorem b5x (h : Two w0 w pq pr a b n B) (hn : sumL b.loc + b.sh.length ≤ 900) (id : Int) :
 Calls Tryz.prog 24 #[.pointer (some ⟨pr, 0, none⟩), .int .i64 id] w fun x w' => x = .returned (.bool (a0x b id).1) ∧ Two w0 w' pq pr a (a0x b id).2 n B := by
 obtain ⟨r, C, h0, h1, h2, h3⟩ := h.ex
 have hla := h2.la
 subst h0
 rw [← b6c id hla.symm]
 refine (r_take h2 hn id).mono ?_
 rintro x w' ⟨rfl, hq⟩
 exact ⟨rfl, Two.wrote rfl h1 h2 h3 hq⟩
end
theorem b8k (l : List E) (hl : l.length < 1000000000) : ∀ (d k i : Nat), l.length - i = d → i ≤ l.length → d < k → vergerref5_Same.l0 k l l (i : Int) = some true := by
 intro d
 induction d with
 | zero =>
  intro k i hd hi hk
  obtain ⟨k, rfl, _⟩ := a1c hk
  simp only [vergerref5_Same.l0]
  rw [if_neg (by omega)]
 | succ d ih =>
  intro k i hd hi hk
  obtain ⟨k, rfl, hk'⟩ := a1c hk
  have hz : (i : Int) < (l.length : Int) := by omega
  have h0 : (0 : Int) ≤ (i : Int) := by omega
  simp only [vergerref5_Same.l0, if_pos hz, if_pos h0, a1u (show i ≤ 4611686018427387904 by omega)]
  rw [if_neg (by simp)]
  exact ih k (i + 1) (by omega) (by omega) (by omega)
theorem a6e (k : Nat) (l : List E) (hl : l.length < 1000000000) (hk : l.length < k) : vergerref5_Same.f k l l = some true := by
 unfold vergerref5_Same.f
 rw [if_pos rfl]
 exact b8k l hl l.length k 0 (by omega) (by omega) hk
theorem b7p (a b c d : Int) (w : World) : (binOp .neq 33 (.agg #[.int .u64 a, .int .i64 b]) (.agg #[.int .u64 c, .int .i64 d])).run Tryz.prog w = .ok (.bool (!(a == c && (b == d)))) w := by
 have h := a7r 9998 w a c b d
 simp only [binOp]
 simp [Op.equal, Op.maxDepth, h]
theorem b4u (a b : Int) (w : World) : (binOp .neq 33 (.agg #[.int .u64 a, .int .i64 b]) (.agg #[.int .u64 a, .int .i64 b])).run Tryz.prog w = .ok (.bool false) w := by
 rw [b7p]; simp
structure Pr2 (w0 w : World) (pq : Nat) (a : Qa) (n : Nat) (B : List (Nat × Obj)) (ok : Nat → Prop) (r : Rq) : Prop where
  q : QOk w0 w pq a n B
  r : RQ w ok r a
theorem Pr2.below {w0 w w1 : World} {pq : Nat} {a : Qa} {n : Nat} {B : List (Nat × Obj)} {ok : Nat → Prop} {r : Rq} (h : Pr2 w0 w pq a n B ok r) (hb : Below w.heap.size w w1) : Pr2 w0 w1 pq a n B ok r := ⟨h.q.below hb, h.r.below hb⟩
theorem b4f (a b : Int) (w : World) : (binOp .eql 33 (.agg #[.int .u64 a, .int .i64 b]) (.agg #[.int .u64 a, .int .i64 b])).run Tryz.prog w = .ok (.bool true) w := by
 have h := a7r 9998 w a a b b
 simp only [binOp]
 simp [Op.equal, Op.maxDepth, h]
theorem b8b {w0 w : World} {pq : Nat} {a : Qa} {n : Nat} {B : List (Nat × Obj)} {ok : Nat → Prop} {r : Rq} (h : Pr2 w0 w pq a n B ok r) (hn : n ≤ 800) :
 Calls Tryz.prog 25 #[.pointer (some ⟨pq, 0, none⟩), .pointer (some ⟨r.pr, 0, none⟩)] w fun x w' => x = .returned (.bool true) ∧ Below w.heap.size w w' := by
 have HP0 := za (h.below (vu (Below.refl _ _)))
 have HB0 := za (vu (Below.refl w.heap.size w))
 obtain ⟨f1, f2, f3⟩ := h.q.few
 have hcn := h.q.cnt
 have hsl := a3g a
 have hal := a6d a
 obtain ⟨A0, c0, p3, hs2, hs3, hrv⟩ := h.r.shc
 have HF := za hs3
 have C3 := za (show ∀ W, RQ W ok r a → W.cell? ⟨r.pr, 3, none⟩ = some (.slice A0 a.sh.length c0) from fun W hW => hW.c3.trans (by rw [hrv]))
 have hla := h.r.la
 obtain ⟨L, hL⟩ : ∃ L, allQ a = L := ⟨_, rfl⟩
 obtain ⟨Z, hZ⟩ : ∃ Z, a0l a = Z := ⟨_, rfl⟩
 have HLL := za (show L.length ≤ 1000 by rw [← hL]; omega)
 have HZL := za (show Z.length ≤ 1000 by rw [← hZ]; omega)
 have HSH := za (show a.sh.length ≤ 1000 by omega)
 have HL := za hL
 have HZZ := za hZ
 have HRC := za (show sumL a.loc + a.sh.length ≤ 900 by omega)
 have HN := za (show n ≤ 900 by omega)
 clear h hs3 hrv hL hZ hcn hsl hal f3
 go_enter Tryz.func25, Tryz.ntmps25
 go_upto_region 1 with fail
 refine start_ (n := 32) (S := fun w' => w'.cell? ⟨r.pr, 3, none⟩ = some (.slice A0 a.sh.length c0)) (ds := []) #[xX, xX, xX, xX, xX, xX, xX, xX, xX, xX, xX, xX, xX, xX, xX, xX, xX, xX, xX, xX, xX, xX, xX, xX, xX, xX, xX, xX, xX, xX, xX, xX] (by kernel_rfl) rfl rfl (C3.out _ HP0.out.r) (fun hHeld => ?_)
 refine pU (i := 0) (N := (some 11)) (bA 32 1) (by kernel_rfl) rfl ?_
 refine pU (i := 2) (N := (some 13)) (bA 32 5) (by kernel_rfl) rfl ?_
 refine one_ (i := 1) (N := (some 12)) (bA 32 7) rfl rfl (by kernel_rfl) (by decide) (fun K hK => ?_)
 refine goes_ Tryz.func45 (by kernel_rfl) rfl #[.pointer (some ⟨pq, 0, none⟩)] (by rfl) rfl rfl (by (try simp only [ug, ul, uo]); first | done | rfl) ?_
 refine (b1n HP0.out.q).mono ?_
 rintro q w1 ⟨v1, rfl, hv1, hb1⟩
 rw [HZZ.out] at hv1
 obtain ⟨A1, c1, rfl⟩ := xd hv1
 have HV1 := za (xa hv1)
 have HP1 := za (HP0.out.below hb1)
 have HB1 := za (ur HB0.out hb1)
 have HS1 := za hb1
 clear hv1 hb1
 refine ⟨_, rfl, ?_⟩
 refine hK.out _ _ (C3.out _ HP1.out.r) (fun hHeld => ?_)
 clear hK K
 refine vv (a' := ?_) ?_ ?_; rotate_left; (· (show Act.put _ (some 12) _ = _); (simp only [Act.put, ua, ub, uc, ue, uf]); rfl)
 refine one_ (i := 3) (N := (some 14)) (bA 32 15) rfl rfl (by kernel_rfl) (by decide) (fun K hK => ?_)
 refine goes_ Tryz.func58 (by kernel_rfl) rfl #[.pointer (some ⟨r.pr, 0, none⟩)] (by rfl) rfl rfl (by (try simp only [ug, ul, uo]); first | done | rfl) ?_
 refine (a6v HP1.out.r).mono ?_
 rintro q w2 ⟨v2, rfl, hv2, hb2⟩
 rw [HZZ.out] at hv2
 obtain ⟨A2, c2, rfl⟩ := Kd.R_slice hv2
 have HV2 := za (Kd.R_reads' hv2)
 have HP2 := za (HP1.out.below hb2)
 have HB2 := za (ur HB1.out hb2)
 have HS2 := za hb2
 clear hv2 hb2
 refine ⟨_, rfl, ?_⟩
 refine hK.out _ _ (C3.out _ HP2.out.r) (fun hHeld => ?_)
 clear hK K
 refine vv (a' := ?_) ?_ ?_; rotate_left; (· (show Act.put _ (some 14) _ = _); (simp only [Act.put, ua, ub, uc, ue, uf]); rfl)
 refine one_ (i := 4) (N := (some 15)) (bA 32 31) rfl rfl (by kernel_rfl) (by decide) (fun K hK => ?_)
 refine goes_ Tryz.func65 (by kernel_rfl) rfl #[.slice A1 Z.length c1, .slice A2 Z.length c2] (by rfl) rfl rfl (by (try simp only [ug, ul, uo]); first | done | rfl) ?_
 refine (vergerref5_Same.calls 1000000 _ _ Z _ _ Z true _ (vt HV1.out.2.2 HS2.out) HV1.out.2.1 HV2.out.2.2 HV2.out.2.1 (a6e 1000000 Z (by have := HZL.out; omega) (by have := HZL.out; omega))).mono ?_
 rintro q w3 ⟨rfl, hb3⟩
 replace hb3 := hb3.below
 have HP3 := za (HP2.out.below hb3)
 have HB3 := za (ur HB2.out hb3)
 clear hb3
 refine ⟨_, rfl, ?_⟩
 refine hK.out _ _ (C3.out _ HP3.out.r) (fun hHeld => ?_)
 clear hK K
 refine vv (a' := ?_) ?_ ?_; rotate_left; (· (show Act.put _ (some 15) _ = _); (simp only [Act.put, ua, ub, uc, ue, uf]); rfl)
 refine pU (i := 5) (N := (some 16)) (bA 32 63) (by kernel_rfl) rfl ?_
 refine pU (i := 6) (N := (some 17)) (bA 32 127) (by kernel_rfl) rfl ?_
 refine pU (i := 7) (N := (some 18)) (bA 32 255) (by kernel_rfl) rfl ?_
 refine pU (i := 9) (N := (some 20)) (bA 32 767) (by kernel_rfl) rfl ?_
 refine pU (i := 10) (N := (some 21)) (bA 32 1791) (by kernel_rfl) rfl ?_
 refine pU (i := 11) (N := (some 22)) (bA 32 3839) (by kernel_rfl) rfl ?_
 refine vq (i := 12) (N := (some 23)) (v := ?_) (a' := ?_) (bA 32 7935) rfl rfl (by kernel_rfl) (fun _ _ _ h => h) (Or.inl ⟨by rfl, ?_⟩) hHeld ?_ ?_
 rotate_left
 · intro w' s0
   go_simp
   with_reducible rfl
 rotate_left
 · simp only [Act.put, ua, ub, uc, ue, uf]
   rfl
 refine one_ (i := 8) (N := (some 19)) (bA 32 8191) rfl rfl (by kernel_rfl) (by decide) (fun K hK => ?_)
 refine goes_ Tryz.func46 (by kernel_rfl) rfl #[.pointer (some ⟨pq, 0, none⟩)] (by rfl) rfl rfl (by (try simp only [ug, ul, uo]); first | done | rfl) ?_
 refine (a9n HP3.out.q HN.out).mono ?_
 rintro q w4 ⟨v4, rfl, hv4, hb4⟩
 obtain ⟨A4, c4, rfl⟩ := xd hv4
 have HV4 := za (xa hv4)
 have HP4 := za (HP3.out.below hb4)
 have HB4 := za (ur HB3.out hb4)
 have HS4 := za hb4
 clear hv4 hb4
 refine ⟨_, rfl, ?_⟩
 refine hK.out _ _ (C3.out _ HP4.out.r) (fun hHeld => ?_)
 clear hK K
 refine vv (a' := ?_) ?_ ?_; rotate_left; (· (show Act.put _ (some 19) _ = _); (simp only [Act.put, ua, ub, uc, ue, uf]); rfl)
 refine one_ (i := 13) (N := (some 24)) (bA 32 16383) rfl rfl (by kernel_rfl) (by decide) (fun K hK => ?_)
 refine goes_ Tryz.func65 (by kernel_rfl) rfl #[.slice A4 a.sh.length c4, .slice A0 a.sh.length c0] (by rfl) rfl rfl (by (try simp only [ug, ul, uo]); first | done | rfl) ?_
 refine (vergerref5_Same.calls 1000000 _ _ a.sh _ _ a.sh true _ HV4.out.2.2 HV4.out.2.1 (Kd.F_now (Kd.F_below HF.out HB4.out)) hs2 (a6e 1000000 a.sh (by have := HSH.out; omega) (by have := HSH.out; omega))).mono ?_
 rintro q w5 ⟨rfl, hb5⟩
 replace hb5 := hb5.below
 have HP5 := za (HP4.out.below hb5)
 have HB5 := za (ur HB4.out hb5)
 clear hb5
 refine ⟨_, rfl, ?_⟩
 refine hK.out _ _ (C3.out _ HP5.out.r) (fun hHeld => ?_)
 clear hK K
 refine vv (a' := ?_) ?_ ?_; rotate_left; (· (show Act.put _ (some 24) _ = _); (simp only [Act.put, ua, ub, uc, ue, uf]); rfl)
 refine pU (i := 14) (N := (some 25)) (bA 32 32767) (by kernel_rfl) rfl ?_
 refine pU (i := 15) (N := (some 26)) (bA 32 65535) (by kernel_rfl) rfl ?_
 refine pU (i := 16) (N := (some 27)) (bA 32 131071) (by kernel_rfl) rfl ?_
 refine pU (i := 17) (N := (some 28)) (bA 32 262143) (by kernel_rfl) rfl ?_
 refine pU (i := 19) (N := (some 30)) (bA 32 786431) (by kernel_rfl) rfl ?_
 refine one_ (i := 18) (N := (some 29)) (bA 32 1048575) rfl rfl (by kernel_rfl) (by decide) (fun K hK => ?_)
 refine goes_ Tryz.func11 (by kernel_rfl) rfl #[.pointer (some ⟨pq, 0, none⟩)] (by rfl) rfl rfl (by (try simp only [ug, ul, uo]); first | done | rfl) ?_
 refine (a6p HP5.out.q HN.out).mono ?_
 rintro q w6 ⟨v6, rfl, hv6, hb6⟩
 rw [HL.out] at hv6
 obtain ⟨A6, c6, rfl⟩ := xd hv6
 have HV6 := za (xa hv6)
 have HP6 := za (HP5.out.below hb6)
 have HB6 := za (ur HB5.out hb6)
 have HS6 := za hb6
 clear hv6 hb6
 refine ⟨_, rfl, ?_⟩
 refine hK.out _ _ (C3.out _ HP6.out.r) (fun hHeld => ?_)
 clear hK K
 refine vv (a' := ?_) ?_ ?_; rotate_left; (· (show Act.put _ (some 29) _ = _); (simp only [Act.put, ua, ub, uc, ue, uf]); rfl)
 refine one_ (i := 20) (N := (some 31)) (bA 32 2097151) rfl rfl (by kernel_rfl) (by decide) (fun K hK => ?_)
 refine goes_ Tryz.func59 (by kernel_rfl) rfl #[.pointer (some ⟨r.pr, 0, none⟩)] (by rfl) rfl rfl (by (try simp only [ug, ul, uo]); first | done | rfl) ?_
 refine (a8i HP6.out.r HRC.out).mono ?_
 rintro q w7 ⟨v7, rfl, hv7, hb7⟩
 rw [HL.out] at hv7
 obtain ⟨A7, c7, rfl⟩ := xd hv7
 have HV7 := za (xa hv7)
 have HP7 := za (HP6.out.below hb7)
 have HB7 := za (ur HB6.out hb7)
 have HS7 := za hb7
 clear hv7 hb7
 refine ⟨_, rfl, ?_⟩
 refine hK.out _ _ (C3.out _ HP7.out.r) (fun hHeld => ?_)
 clear hK K
 refine vv (a' := ?_) ?_ ?_; rotate_left; (· (show Act.put _ (some 31) _ = _); (simp only [Act.put, ua, ub, uc, ue, uf]); rfl)
 refine one_ (i := 21) (N := (some 32)) (bA 32 4194303) rfl rfl (by kernel_rfl) (by decide) (fun K hK => ?_)
 refine goes_ Tryz.func65 (by kernel_rfl) rfl #[.slice A6 L.length c6, .slice A7 L.length c7] (by rfl) rfl rfl (by (try simp only [ug, ul, uo]); first | done | rfl) ?_
 refine (vergerref5_Same.calls 1000000 _ _ L _ _ L true _ (vt HV6.out.2.2 HS7.out) HV6.out.2.1 HV7.out.2.2 HV7.out.2.1 (a6e 1000000 L (by have := HLL.out; omega) (by have := HLL.out; omega))).mono ?_
 rintro q w8 ⟨rfl, hb8⟩
 replace hb8 := hb8.below
 have HP8 := za (HP7.out.below hb8)
 have HB8 := za (ur HB7.out hb8)
 clear hb8
 refine ⟨_, rfl, ?_⟩
 refine hK.out _ _ (C3.out _ HP8.out.r) (fun hHeld => ?_)
 clear hK K
 refine vv (a' := ?_) ?_ ?_; rotate_left; (· (show Act.put _ (some 32) _ = _); (simp only [Act.put, ua, ub, uc, ue, uf]); rfl)
 refine pU (i := 22) (N := (some 33)) (bA 32 8388607) (by kernel_rfl) rfl ?_
 refine pU (i := 23) (N := (some 34)) (bA 32 16777215) (by kernel_rfl) rfl ?_
 refine pU (i := 24) (N := (some 35)) (bA 32 33554431) (by kernel_rfl) rfl ?_
 refine pU (i := 25) (N := (some 36)) (bA 32 67108863) (by kernel_rfl) rfl ?_
 refine pU (i := 27) (N := (some 38)) (bA 32 201326591) (by kernel_rfl) rfl ?_
 refine one_ (i := 26) (N := (some 37)) (bA 32 268435455) rfl rfl (by kernel_rfl) (by decide) (fun K hK => ?_)
 refine goes_ Tryz.func12 (by kernel_rfl) rfl #[.pointer (some ⟨pq, 0, none⟩)] (by rfl) rfl rfl (by (try simp only [ug, ul, uo]); first | done | rfl) ?_
 refine (b1t HP8.out.q HN.out).mono ?_
 rintro q w9 ⟨rfl, hb9⟩
 rw [HL.out]
 have HP9 := za (HP8.out.below hb9)
 have HB9 := za (ur HB8.out hb9)
 clear hb9
 refine ⟨_, rfl, ?_⟩
 refine hK.out _ _ (C3.out _ HP9.out.r) (fun hHeld => ?_)
 clear hK K
 refine vv (a' := ?_) ?_ ?_; rotate_left; (· (show Act.put _ (some 37) _ = _); (simp only [Act.put, ua, ub, uc, ue, uf]); rfl)
 refine one_ (i := 28) (N := (some 39)) (bA 32 536870911) rfl rfl (by kernel_rfl) (by decide) (fun K hK => ?_)
 refine goes_ Tryz.func59 (by kernel_rfl) rfl #[.pointer (some ⟨r.pr, 0, none⟩)] (by rfl) rfl rfl (by (try simp only [ug, ul, uo]); first | done | rfl) ?_
 refine (a8i HP9.out.r HRC.out).mono ?_
 rintro q w10 ⟨v10, rfl, hv10, hb10⟩
 rw [HL.out] at hv10
 obtain ⟨A10, c10, rfl⟩ := xd hv10
 have HV10 := za (xa hv10)
 have HP10 := za (HP9.out.below hb10)
 have HB10 := za (ur HB9.out hb10)
 have HS10 := za hb10
 clear hv10 hb10
 refine ⟨_, rfl, ?_⟩
 refine hK.out _ _ (C3.out _ HP10.out.r) (fun hHeld => ?_)
 clear hK K
 refine vv (a' := ?_) ?_ ?_; rotate_left; (· (show Act.put _ (some 39) _ = _); (simp only [Act.put, ua, ub, uc, ue, uf]); rfl)
 refine pU (i := 29) (N := (some 40)) (bA 32 1073741823) (by kernel_rfl) rfl ?_
 refine pU (i := 30) (N := (some 41)) (bA 32 2147483647) (by kernel_rfl) rfl ?_
 refine pU (i := 31) (N := (some 42)) (bA 32 4294967295) (by kernel_rfl) rfl ?_
 refine done_ (by kernel_rfl) ?_
 go_wp2_with fail
 go_loopw [5] (fun i wr => ∃ j : Nat, j ≤ a.S.length + 2 ∧ i = .int .i64 ((j : Int) - 1) ∧ Aside0 (Pr2 w0 wr pq a n B ok r) ∧ Aside0 (Below w.heap.size w wr)) (fun i _ => a.S.length + 2 - (intOf i + 1).toNat)
 case atStart => exact ⟨0, Nat.zero_le _, by first | rfl | simp, HP10, HB10⟩
 case round =>
  clear HP10 HB10
  obtain ⟨j, hj, rfl, HPR, HBR⟩ := hrel
  have k2 := HPR.out.r.c2
  by_cases hlt : j < a.S.length + 2
  · have hg1 : (j : Int) - 1 ≤ (a.S.length : Int) := by omega
    have hw1 : IntKind.i64.wrap ((j : Int) - 1 + 1) = (j : Int) := by rw [show (j : Int) - 1 + 1 = (j : Int) by omega]; exact IntWalk.i64_in _ (by omega)
    by_cases hin : 1 ≤ j ∧ j ≤ a.S.length
    · obtain ⟨t, rfl⟩ : ∃ t, j = t + 1 := ⟨j - 1, by omega⟩
      have ht : t < a.S.length := by omega
      have e1 : ((t + 1 : Nat) : Int) - 1 = (t : Int) := by omega
      rw [e1] at hg1 hw1 ⊢
      have i0 : ¬ (t : Int) < 0 := by omega
      have i1 : ¬ (a.S.length : Int) ≤ (t : Int) := by omega
      have i2 : (t : Int) < (a.S.length : Int) := by omega
      have i3 : (0 : Int) ≤ (t : Int) := by omega
      have d0 : decide ((t : Int) < 0) = false := decide_eq_false i0
      have d1 : decide ((t : Int) ≥ (a.S.length : Int)) = false := decide_eq_false i1
      have HT := za (show t < a.loc.length by omega)
      obtain ⟨l, hl⟩ : ∃ l, a.loc.getD t [] = l := ⟨_, rfl⟩
      have hlt2 : l.length ≤ 1000 := by rw [← hl]; have := a2x a.loc t; have := HRC.out; omega
      have HAT := za (HPR.out.r.at_ ht)
      rw [hl] at HAT
      have HLV := za hl
      have HLB := za hlt2
      clear hl hlt2
      go_wp2_with fail
      refine (b4y HPR.out.q HN.out t HT.out).mono ?_
      rintro q wl ⟨v1, rfl, hv1, hb1⟩
      rw [HLV.out] at hv1
      obtain ⟨A1, c1, rfl⟩ := xd hv1
      have HV1 := za (xa hv1)
      have HP1 := za (HPR.out.below hb1)
      have HB1 := za (ur HBR.out hb1)
      clear hv1 hb1 k2
      have k2 := HP1.out.r.c2
      obtain ⟨A6, c6, x6, hc6, hf6, _⟩ := HP1.out.r.locc HAT.out
      have HF6 := za (Kd.F_now hf6)
      clear hf6
      go_wp2_with fail
      refine (vergerref5_Same.calls 1000000 A1 c1 l A6 c6 l true _ HV1.out.2.2 HV1.out.2.1 HF6.out hc6 (a6e 1000000 l (by have := HLB.out; omega) (by have := HLB.out; omega))).mono ?_
      rintro q wm ⟨rfl, hb2⟩
      replace hb2 := hb2.below
      have HP2 := za (HP1.out.below hb2)
      have HB2 := za (ur HB1.out hb2)
      clear hb2 k2 x6
      go_wp2
      go_roundw
      case rel => exact ⟨t + 2, by omega, by first | go_num | (rw [hw1]; congr 1; omega), HP2, HB2⟩
      case measure => simp [intOf]; omega
    · have HO := za (show (j : Int) - 1 < 0 ∨ (a.loc.length : Int) ≤ (j : Int) - 1 by omega)
      obtain ⟨t, ht⟩ : ∃ t : Int, t = (j : Int) - 1 := ⟨_, rfl⟩
      have HJ := za ht
      rw [← ht] at hg1 hw1 HO ⊢
      by_cases hneg : t < 0
      · have d0 : decide (t < 0) = true := decide_eq_true hneg
        clear ht hin
        go_wp2_with fail
        refine (b3g HPR.out.q t HO.out).mono ?_
        rintro q wl ⟨rfl, rfl⟩
        go_wp2
        go_roundw
        case rel => exact ⟨j + 1, by omega, by have := HJ.out; first | go_num | (rw [hw1]; congr 1; omega), HPR, HBR⟩
        case measure => have := HJ.out; simp [intOf]; omega
      · have d0 : decide (t < 0) = false := decide_eq_false hneg
        have i1 : (a.S.length : Int) ≤ t := by omega
        have d1 : decide (t ≥ (a.S.length : Int)) = true := decide_eq_true i1
        clear ht hin
        go_wp2_with fail
        refine (b3g HPR.out.q t HO.out).mono ?_
        rintro q wl ⟨rfl, rfl⟩
        go_wp2
        go_roundw
        case rel => exact ⟨j + 1, by omega, by have := HJ.out; first | go_num | (rw [hw1]; congr 1; omega), HPR, HBR⟩
        case measure => have := HJ.out; simp [intOf]; omega
  · obtain rfl : j = a.S.length + 2 := by omega
    have hg1 : ¬ ((a.S.length + 2 : Nat) : Int) - 1 ≤ (a.S.length : Int) := by omega
    obtain ⟨t, ht⟩ : ∃ t : Int, t = ((a.S.length + 2 : Nat) : Int) - 1 := ⟨_, rfl⟩
    rw [← ht] at hg1 ⊢
    clear ht hlt hj
    obtain ⟨x, b, hx, _⟩ := a3c L.head?
    have HRV := za (a3l hx)
    have hE := fun W => b4f x.f0 x.f1 W
    clear hx
    go_wp2_with fail
    refine (b0q HPR.out.q HN.out).mono ?_
    rintro q wm ⟨hq, hb1⟩
    rw [HL.out, HRV.out] at hq
    subst hq
    have HP3 := za ((HPR.out.below hb1).below (uv (Below.refl _ _) (.cells #[.int .u64 x.f0, .int .i64 x.f1] 33)))
    have HB3 := za (ur (ur HBR.out hb1) (uv (Below.refl _ _) (.cells #[.int .u64 x.f0, .int .i64 x.f1] 33)))
    obtain ⟨g, hg⟩ : ∃ g, g = wm.heap.size := ⟨_, rfl⟩
    obtain ⟨wn, hwn⟩ : ∃ wn, wn = wm.alloc (.cells #[.int .u64 x.f0, .int .i64 x.f1] 33) := ⟨_, rfl⟩
    have HX := za (heap_alloc_new wm (.cells #[.int .u64 x.f0, .int .i64 x.f1] 33))
    rw [← hg, ← hwn] at HX
    rw [← hwn] at HP3 HB3
    clear hb1 k2
    go_wp2_with fail
    rw [← hg, ← hwn]
    clear hg hwn
    refine (b1p HP3.out.r HRC.out).mono ?_
    rintro q wo ⟨hq, hb2⟩
    rw [HL.out, HRV.out] at hq
    subst hq
    have hb4 := ur hb2 (uv (Below.refl wo.heap.size wo) (.cells #[.int .u64 x.f0, .int .i64 x.f1] 33))
    have HB4 := za (ur HB3.out hb4)
    have hx1 := vo HX.out hb4
    have hx2 := heap_alloc_new wo (.cells #[.int .u64 x.f0, .int .i64 x.f1] 33)
    have x0 := (uq hx1 0).trans rfl
    have x1 := (uq hx1 1).trans rfl
    have x2 := (uq hx2 0).trans rfl
    have x3 := (uq hx2 1).trans rfl
    clear hb2 hb4 hx1 hx2
    go_wp2
    go_ret
    exact ⟨rfl, HB4.out⟩
theorem c0s (e : E) : a0b [e] = [e] := a2m (by simp [a0d])
theorem aw1 : putQ (newA 2 1) 0 ⟨5, 1⟩ = ⟨1, [some ⟨5, 1⟩, none], [[], []], []⟩ := by simp [putQ, a0j, a0k, newA, List.replicate]
theorem aw2 : putQ ⟨1, [some ⟨5, 1⟩, none], [[], []], []⟩ 0 ⟨3, 2⟩ = ⟨1, [some ⟨3, 2⟩, none], [[⟨5, 1⟩], []], []⟩ := by simp [putQ, a0j, a0k, a1t, c0s]
theorem aw3 : allQ ⟨1, [some ⟨3, 2⟩, none], [[⟨5, 1⟩], []], []⟩ = [⟨3, 2⟩, ⟨5, 1⟩] := by
 unfold allQ a0l
 refine a2r ?_ ?_
 · simp [a0d, leE, ltE]
 · simp
theorem aw4 : a0p ⟨1, [some ⟨3, 2⟩, none], [[⟨5, 1⟩], []], []⟩ 1 = (2, 0) := by decide
theorem a6n (w : World) : Calls Tryz.prog 14 #[] w fun e w' => e = .returned (.bool true) ∧ Below w.heap.size w w' := by
 go_enter Tryz.func14, Tryz.ntmps14
 go_wp2_with fail
 refine (q_new 2 1 w (by omega) (by omega) (by omega)).mono ?_
 rintro e w1 ⟨pq, rfl, h1⟩
 have H1 := za h1
 clear h1
 go_wp2_with fail
 refine (a8a H1.out (by omega) 0 (by decide) ⟨5, 1⟩).mono ?_
 rintro e w2 ⟨rfl, h2⟩
 rw [aw1] at h2
 have H2 := za h2
 clear h2
 go_wp2_with fail
 refine (a8a H2.out (by omega) 0 (by decide) ⟨3, 2⟩).mono ?_
 rintro e w3 ⟨rfl, h3⟩
 rw [aw2] at h3
 have H3 := za h3
 clear h3
 go_wp2_with fail
 refine (b0q H3.out (by omega)).mono ?_
 rintro e w4 ⟨he, h4⟩
 rw [aw3] at he
 obtain rfl : e = .returned (.tuple #[.agg #[.int .u64 3, .int .i64 2], .bool true]) := he
 have hb4 := below_alloc (Below.refl w4.heap.size w4) (.cells #[.int .u64 3, .int .i64 2] 33)
 have H4 := za ((H3.out.below h4).below hb4)
 have HX := za (heap_alloc_new w4 (.cells #[.int .u64 3, .int .i64 2] 33))
 clear h4 hb4
 go_wp2_with fail
 refine (b2g H4.out (by omega) 1).mono ?_
 rintro e w5 ⟨he, h5⟩
 rw [aw4] at he
 obtain rfl : e = .returned (.tuple #[.int .i64 2, .int .i64 0]) := he
 have H5 := za (H4.out.below h5)
 have hx := blk_below HX.out h5
 have x0 : w5.cell? ⟨w4.heap.size, 0, none⟩ = some (.int .u64 3) := (blk_cell hx 0).trans rfl
 have x1 : w5.cell? ⟨w4.heap.size, 1, none⟩ = some (.int .i64 2) := (blk_cell hx 1).trans rfl
 clear h5 hx HX
 go_wp2_with fail
 refine (b1t H5.out (by omega)).mono ?_
 rintro e w6 ⟨he, h6⟩
 rw [aw3] at he
 obtain rfl : e = .returned (.int .i64 2) := he
 have HB := za (H5.out.below h6).bel
 clear h6 x0 x1
 go_wp2
 go_ret
 exact ⟨by first | rfl | simp, HB.out⟩
section
variable {w0 w : World} {pq pr : Nat} {a b : Qa} {n : Nat} {B : List (Nat × Obj)}
theorem c2y (h : Two w0 w pq pr a b n B) (hn : n ≤ 800) (t : Int) (d : Nat) (hd : d < 18446744073709551616) :
 Calls Tryz.prog 15 #[.pointer (some ⟨pq, 0, none⟩), .int .i64 t, .int .u64 (d : Int)] w fun e w' => e = .returned (retV (relI a t d)) ∧ Below w.heap.size w w' := by
 obtain ⟨C, h1⟩ := h.q
 unfold relI
 by_cases hT : inT a t = true
 · obtain ⟨s, rfl, hs, es⟩ := a3h hT
   rw [if_pos hT, es]
   exact b7t h1 (by omega) s hs d hd
 · rw [if_neg hT]
   exact c1f h1 t (a3u hT) _
theorem b0t (h : Two w0 w pq pr a b n B) (hn : sumL b.loc + b.sh.length ≤ 900) (hk : b.k ≤ 16) (t : Int) (d : Nat) (hd : d < 18446744073709551616) :
 Calls Tryz.prog 20 #[.pointer (some ⟨pr, 0, none⟩), .int .i64 t, .int .u64 (d : Int)] w fun e w' => e = .returned (retV (relI b t d)) ∧ Below w.heap.size w w' := by
 obtain ⟨r, ok, rfl, h2⟩ := h.rq
 have hla := h2.la
 unfold relI
 by_cases hT : inT b t = true
 · obtain ⟨s, rfl, hs, es⟩ := a3h hT
   rw [if_pos hT, es]
   exact b8l h2 hn hk s (by omega) d hd
 · have ho := a3u hT
   rw [if_neg hT]
   exact b9s h2 t (by rw [← hla]; exact ho) _
theorem b9w (h : Two w0 w pq pr a b n B) (hn : sumL b.loc + b.sh.length ≤ 900) :
 Calls Tryz.prog 21 #[.pointer (some ⟨pr, 0, none⟩)] w fun e w' => e = .returned (retV (allQ b).head?) ∧ Below w.heap.size w w' := by
 obtain ⟨r, ok, rfl, h2⟩ := h.rq
 exact b1p h2 hn
theorem c2e (h : Two w0 w pq pr a b n B) (hn : n ≤ 800) (id : Int) :
 Calls Tryz.prog 22 #[.pointer (some ⟨pq, 0, none⟩), .int .i64 id] w fun e w' => e = .returned (a0t (a0p a id)) ∧ Below w.heap.size w w' := by
 obtain ⟨C, h1⟩ := h.q
 exact b2g h1 (by omega) id
theorem b9g (h : Two w0 w pq pr a b n B) (hn : sumL b.loc + b.sh.length ≤ 900) (id : Int) :
 Calls Tryz.prog 23 #[.pointer (some ⟨pr, 0, none⟩), .int .i64 id] w fun e w' => e = .returned (a0t (a0p b id)) ∧ Below w.heap.size w w' := by
 obtain ⟨r, ok, rfl, h2⟩ := h.rq
 exact b1w h2 hn id
theorem b7g (h : Two w0 w pq pr a a n B) (hn : n ≤ 800) :
 Calls Tryz.prog 25 #[.pointer (some ⟨pq, 0, none⟩), .pointer (some ⟨pr, 0, none⟩)] w fun x w' => x = .returned (.bool true) ∧ Below w.heap.size w w' := by
 obtain ⟨r, C, h0, h1, h2, h3⟩ := h.ex
 subst h0
 exact b8b ⟨h1, h2⟩ hn
end
theorem b5y {w0 w1 w2 : World} {pq : Nat} {a b : Qa} {r : Rq} (h1 : QOk w0 w1 pq a 0 []) (hr : RQ w2 (fun j => w1.heap.size ≤ j) r b) (hb : Below w1.heap.size w1 w2) : Two w0 w2 pq r.pr a b 0 [] := by
 obtain ⟨k1, k2⟩ := QOk.chg (C := []) (B := []) (S := fun _ => False) h1 (fun k hk => hk.elim) (Chg.of hb) (fun x hx => by simp at hx)
 refine ⟨r, a3x [] w1.heap.size w2, rfl, k1, hr.mono (fun k hk hlt => ?_), k2⟩
 obtain ⟨o, ho⟩ : ∃ o, w2.heap[k]? = some o := ⟨_, Array.getElem?_eq_getElem hlt⟩
 exact ⟨o, mem_freshC.2 ⟨.inr hk, ho⟩⟩
theorem a9k {a : Qa} {T k i : Nat} (h : NearP a T k i) (t : Int) {e : E} (he : e.f1 = (i : Int) + 1) : NearP (putI a t e) T k (i + 1) := by
 unfold putI
 by_cases hT : inT a t = true
 · obtain ⟨s, rfl, hs, es⟩ := a3h hT
   rw [if_pos hT, es]
   exact h.put (by rw [← h.loc]; exact hs) he
 · rw [if_neg hT]
   exact h.mono (by omega)
theorem c3h {a : Qa} {T k i : Nat} (h : NearP a T k i) (t : Int) : NearP (setI a t) T k (i + 1) := by
 unfold setI
 split
 · exact (h.settle _).mono (by omega)
 · exact h.mono (by omega)
def opO (K t id key dr : Int) : Obj := .cells #[.int .i64 K, .int .i64 t, .int .i64 id, .int .u64 key, .int .u64 dr] 30
theorem a2o {w : World} {g : Nat} {K t id key dr : Int} (h : w.heap[g]? = some (opO K t id key dr)) :
 w.cell? ⟨g, 0, none⟩ = some (.int .i64 K) ∧ w.cell? ⟨g, 1, none⟩ = some (.int .i64 t) ∧ w.cell? ⟨g, 2, none⟩ = some (.int .i64 id) ∧ w.cell? ⟨g, 3, none⟩ = some (.int .u64 key) ∧ w.cell? ⟨g, 4, none⟩ = some (.int .u64 dr) := by
 have h : w.heap[g]? = some (.cells #[.int .i64 K, .int .i64 t, .int .i64 id, .int .u64 key, .int .u64 dr] 30 (0, 0)) := h
 exact ⟨(blk_cell h 0).trans rfl, (blk_cell h 1).trans rfl, (blk_cell h 2).trans rfl, (blk_cell h 3).trans rfl, (blk_cell h 4).trans rfl⟩
theorem a2y {w : World} {g : Nat} {x : E} (h : w.heap[g]? = some (eE x)) : w.cell? ⟨g, 0, none⟩ = some (.int .u64 x.f0) ∧ w.cell? ⟨g, 1, none⟩ = some (.int .i64 x.f1) := by
 have h : w.heap[g]? = some (.cells #[.int .u64 x.f0, .int .i64 x.f1] 33 (0, 0)) := h
 exact ⟨(blk_cell h 0).trans rfl, (blk_cell h 1).trans rfl⟩
structure PlSt (w wr : World) (pq pr T k m : Nat) (B : List (Nat × Obj)) : Prop where
  ex : ∃ a, Two w wr pq pr a a m B ∧ NearP a T k m
end Go.Proofs.YthghkglkifeagaaGreat.V
