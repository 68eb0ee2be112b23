-- a text of this work, without what this claim doesn't use (wip/shake.py)
import Derived.Test.YthghkglkifeagaaGreatPVLsmP
import Derived.Test.YthghkglkifeagaaGreatPVPentry1
import Derived.Test.YthghkglkifeagaaGreatPVP5T
import Derived.Deep.RegionWith
import Derived.Test.YthghkglkifeagaaGreatPVPblockb
import Derived.IntWalk
import Derived.BigRegion
set_option maxRecDepth 100000
set_option maxHeartbeats 8000000
set_option linter.unusedVariables false
set_option linter.unusedSimpArgs false
namespace Go.Proofs.YthghkglkifeagaaGreat.V
open Go.RowKit Go.Proofs.YthghkglkifeagaaGreatW.PrintWords Go.Proofs.YthghkglkifeagaaGreatW.PrintLast Go.Proofs.YthghkglkifeagaaGreatW.PrintMore
def a3z (P : List Bk) (y : Bk) : Nat := P.length - (P.reverse.takeWhile fun p => decide (p.f0 < y.f0)).length
def sink (P : List Bk) (y : Bk) : List Bk := P.take (a3z P y) ++ y :: P.drop (a3z P y)
def a0f (l : List Bk) : List Bk := l.foldl sink []
theorem b8n (P : List Bk) (y : Bk) : a3z P y ≤ P.length := by unfold a3z; omega
theorem b7z {P : List Bk} {y : Bk} {j : Nat} (hj : j ≤ P.length) (hb : ∀ p ∈ P.drop j, p.f0 < y.f0) (ha : ∀ p, 0 < j → P[j - 1]? = some p → ¬ p.f0 < y.f0) : a3z P y = j := by
 have e : P.reverse = (P.drop j).reverse ++ (P.take j).reverse := by rw [← List.reverse_append, List.take_append_drop]
 unfold a3z
 rw [e, List.takeWhile_append_of_pos (by intro p hp; simpa using hb p (List.mem_reverse.1 hp))]
 have h0 : (P.take j).reverse.takeWhile (fun p => decide (p.f0 < y.f0)) = [] := by
  cases j with
  | zero => simp
  | succ j =>
   have hlt : j < P.length := by omega
   rw [List.take_succ_eq_append_getElem hlt, List.reverse_append]
   show List.takeWhile _ (P[j] :: _) = []
   rw [List.takeWhile_cons, if_neg]
   simpa using ha P[j] (by omega) (by simp)
 rw [h0, List.append_nil, List.length_reverse, List.length_drop]
 omega
theorem a3v {P : List Bk} {y : Bk} {j : Nat} (hj : j ≤ P.length) (hb : ∀ p ∈ P.drop j, p.f0 < y.f0) (ha : ∀ p, 0 < j → P[j - 1]? = some p → ¬ p.f0 < y.f0) : sink P y = P.take j ++ y :: P.drop j := by
 unfold sink; rw [b7z hj hb ha]
theorem c0x (P : List Bk) (y : Bk) : (sink P y).length = P.length + 1 := by
 have := b8n P y
 simp only [sink, List.length_append, List.length_take, List.length_cons, List.length_drop]
 omega
theorem b1h {P : List Bk} {y : Bk} (h : ∀ p ∈ P, y.f0 ≤ p.f0) : sink P y = P ++ [y] := by
 rw [a3v (j := P.length) (Nat.le_refl _) (by simp) (fun p _ hp => by have := h p (List.mem_of_getElem? hp); omega)]
 simp
theorem a5f (l : List Bk) (y : Bk) : a0f (l ++ [y]) = sink (a0f l) y := by simp [a0f]
theorem a7t {l : List Bk} {i : Nat} (h : i < l.length) : a0f (l.take (i + 1)) = sink (a0f (l.take i)) l[i] := by
 rw [List.take_succ_eq_append_getElem h, a5f]
theorem a6q (l : List Bk) : (a0f l).length = l.length := by
 have : ∀ n, n = l.length → (a0f l).length = n := by
  intro n
  induction n generalizing l with
  | zero => intro h; rw [List.length_eq_zero_iff.1 h.symm]; rfl
  | succ n ih =>
   intro h
   rcases List.eq_nil_or_concat l with rfl | ⟨l', y, rfl⟩
   · simp at h
   · rw [List.concat_eq_append] at *
     rw [a5f, c0x, ih l' (by simpa using h)]
 exact this _ rfl
theorem a6g {l : List Bk} (h : l.Pairwise fun a b => b.f0 ≤ a.f0) : a0f l = l := by
 have : ∀ n, n ≤ l.length → a0f (l.take n) = l.take n := by
  intro n
  induction n with
  | zero => intro _; rfl
  | succ n ih =>
   intro hn
   rw [a7t (show n < l.length by omega), ih (by omega), b1h, List.take_succ_eq_append_getElem (by omega)]
   intro p hp
   obtain ⟨i, hi, rfl⟩ := List.getElem_of_mem hp
   rw [List.length_take] at hi
   rw [List.getElem_take]
   exact List.pairwise_iff_getElem.1 h i n (by omega) (by omega) (by omega)
 have h2 := this l.length (Nat.le_refl _)
 rwa [List.take_length] at h2
theorem b6k {X : List Bk} {x : Bk} (hX : Desc X) (hx : ∀ p ∈ X, x.f0 ≤ p.f0) : ∀ {Y : List Bk}, Desc (X ++ Y) → ∃ A C, a0f (X ++ x :: Y) = A ++ x :: C ∧ A ++ C = X ++ Y ∧ (∀ a ∈ A, x.f0 ≤ a.f0) ∧ ∀ c ∈ C, c.f0 ≤ x.f0 := by
 have main : ∀ n, ∀ Y : List Bk, Y.length = n → Desc (X ++ Y) → ∃ A C, a0f (X ++ x :: Y) = A ++ x :: C ∧ A ++ C = X ++ Y ∧ (∀ a ∈ A, x.f0 ≤ a.f0) ∧ ∀ c ∈ C, c.f0 ≤ x.f0 := by
  intro n
  induction n with
  | zero =>
   intro Y hY hd
   obtain rfl := List.length_eq_zero_iff.1 hY
   refine ⟨X, [], ?_, by simp, hx, by simp⟩
   refine a6g ?_
   rw [List.pairwise_append]
   exact ⟨hX.imp (fun h => by omega), by simp, fun a ha c hc => by
    obtain rfl : c = x := (by simpa using hc)
    exact hx a ha⟩
  | succ n ih =>
   intro Y hY hd
   rcases List.eq_nil_or_concat Y with rfl | ⟨Y', y, rfl⟩
   · simp at hY
   · rw [List.concat_eq_append] at *
     have hd' : Desc (X ++ Y') := hd.sublist (by rw [← List.append_assoc]; exact List.sublist_append_left _ _)
     obtain ⟨A, C, e1, e2, e3, e4⟩ := ih Y' (by simpa using hY) hd'
     have hy : ∀ p ∈ A ++ C, y.f0 < p.f0 := by
      intro p hp
      rw [e2] at hp
      rw [← List.append_assoc] at hd
      exact (desc_app.1 hd).2.2 p hp y (by simp)
     rw [show X ++ x :: (Y' ++ [y]) = (X ++ x :: Y') ++ [y] by simp, a5f, e1]
     by_cases hxy : x.f0 < y.f0
     · 
       have hC : C = [] := by
        cases C with
        | nil => rfl
        | cons c C =>
         have h1 := e4 c (by simp)
         have h2 := hy c (by simp)
         omega
       subst hC
       refine ⟨A ++ [y], [], ?_, by rw [← List.append_assoc, ← e2]; simp, ?_, by simp⟩
       · rw [a3v (j := A.length) (by simp) (by simp; exact hxy) ?_]
         · simp
         · intro p h0 hp
           rw [List.getElem?_append_left (by omega)] at hp
           have := hy p (by simp [List.mem_of_getElem? hp])
           omega
       · intro a ha
         rcases List.mem_append.1 ha with ha | ha
         · exact e3 a ha
         · obtain rfl : a = y := by simpa using ha
           omega
     · refine ⟨A, C ++ [y], ?_, by rw [← List.append_assoc, e2]; simp, e3, ?_⟩
       · rw [b1h]
         · simp
         · intro p hp
           rcases List.mem_append.1 hp with hp | hp
           · have := hy p (by simp [hp]); omega
           · rcases List.mem_cons.1 hp with rfl | hp
             · omega
             · have := hy p (by simp [hp]); omega
       · intro c hc
         rcases List.mem_append.1 hc with hc | hc
         · exact e4 c hc
         · obtain rfl : c = y := by simpa using hc
           omega
 intro Y hd
 exact main _ Y rfl hd
def putL (e : E) (bs : List Bk) : List Bk := ins (mkB [e]) bs
theorem a5x {bs : List Bk} (h : Good bs) (e : E) : Mrg (bs ++ [mkB [e]]) (putL e bs) := by
 refine .inr ⟨mkB [e], bs, [], by simp, ⟨a5u (by simp), by simpa using h, ?_, by simp⟩, by simp [putL]⟩
 intro a ha
 show ((lev (([e].length : Nat) : Int) : Nat) : Int) ≤ _
 rw [(h.snd a ha).lv]
 have : lev (([e].length : Nat) : Int) = 0 := rfl
 rw [this]
 omega
def outB (id : Int) (b : Bk) : List E := b.f1.filter fun e => decide (e.f1 ≠ id)
def hasB (id : Int) (b : Bk) : Bool := b.f1.any fun e => decide (e.f1 = id)
def a0u (id : Int) (bs : List Bk) : Bool × List Bk :=
  match bs.findIdx? (hasB id) with
  | none => (false, bs)
  | some i => (true, if outB id (bs.getD i ⟨0, []⟩) = [] then bs.take i ++ bs.drop (i + 1) else ins (mkB (outB id (bs.getD i ⟨0, []⟩))) (bs.take i ++ bs.drop (i + 1)))
theorem a9r (bs : List Bk) (i : Nat) : (bs.take i ++ bs.drop (i + 1)).Sublist bs := by
 have : bs.take i ++ bs.drop i = bs := List.take_append_drop i bs
 conv => rhs; rw [← this]
 refine List.Sublist.append (List.Sublist.refl _) ?_
 rw [← List.drop_drop]
 exact List.drop_sublist _ _
theorem b8h {bs : List Bk} (h : Good bs) (id : Int) {i : Nat} {b : Bk} (hi : bs.findIdx? (hasB id) = some i) (hb : bs[i]? = some b) (hs : ∀ q ∈ bs, q.f1.length < 1000000000) :
 a0u id bs = (true, (a0u id bs).2) ∧ Mrg (a0f (bs.take i ++ (if outB id b = [] then [] else [mkB (outB id b)]) ++ bs.drop (i + 1))) (a0u id bs).2 := by
 have hg : Good (bs.take i ++ bs.drop (i + 1)) := h.sub (a9r bs i)
 have hbd : bs.getD i ⟨0, []⟩ = b := by rw [List.getD_eq_getElem?_getD, hb]; rfl
 unfold a0u
 rw [hi]
 simp only [hbd]
 refine ⟨trivial, ?_⟩
 by_cases h0 : outB id b = []
 · rw [if_pos h0, if_pos h0, List.append_nil]
   rw [a6g (hg.desc.imp (fun h => by omega))]
   exact .inl ⟨hg, rfl⟩
 · rw [if_neg h0, if_neg h0, List.append_assoc]
   show Mrg (a0f (bs.take i ++ mkB (outB id b) :: bs.drop (i + 1))) _
   have hlt : i < bs.length := (List.getElem?_eq_some_iff.1 hb).1
   have hmem : b ∈ bs := List.mem_of_getElem? hb
   have hle : (mkB (outB id b)).f0 ≤ b.f0 := by
    show ((lev (((outB id b).length : Nat) : Int) : Nat) : Int) ≤ _
    rw [(h.snd b hmem).lv]
    have h1 : (outB id b).length ≤ b.f1.length := List.length_filter_le _ _
    have := hs b hmem
    have := b0u (a := ((outB id b).length : Int)) (b := (b.f1.length : Int)) (by omega) (by omega)
    omega
   obtain ⟨A, C, e1, e2, e3, e4⟩ := b6k (X := bs.take i) (x := mkB (outB id b)) (h.desc.sublist (List.take_sublist _ _)) (fun p hp => by
    obtain ⟨j, hj, rfl⟩ := List.getElem_of_mem hp
    rw [List.length_take] at hj
    rw [List.getElem_take]
    have := List.pairwise_iff_getElem.1 h.desc j i (by omega) hlt (by omega)
    obtain ⟨_, hbe⟩ := List.getElem?_eq_some_iff.1 hb
    rw [hbe] at this
    omega) (Y := bs.drop (i + 1)) hg.desc
   rw [e1]
   refine .inr ⟨_, A, C, rfl, ⟨a5u h0, by rw [e2]; exact hg, e3, e4⟩, by rw [e2]⟩
theorem b2n (k : Nat) (hk : 3 ≤ k) (a b c d : Int) : entry_Less.f k a b c d = some (ltE ⟨a, b⟩ ⟨c, d⟩) := by
 unfold entry_Less.f
 rw [a7n k hk]
 simp only [Option.bind_some]
 congr 1
 have := a2h ⟨a, b⟩ ⟨c, d⟩
 cases h : ltE ⟨a, b⟩ ⟨c, d⟩ with
 | true => exact decide_eq_true (this.2 h)
 | false => exact decide_eq_false (fun h2 => by rw [this.1 h2] at h; cases h)
theorem c0n {x y : List E} (hx : a0d x) (hy : a0d y) : List.merge x y leE = a0b (x ++ y) :=
 (a2r (List.pairwise_merge a2s a9p x y hx hy) (List.merge_perm_append leE)).symm
theorem b5g : ∀ (d k : Nat) (x y out : List E), x.length + y.length = d → out.length + d < 1000000000 → 2 * d + 4 ≤ k → entry_Merge.l0 k x y out = some (out ++ List.merge x y leE) := by
 intro d
 induction d with
 | zero =>
  intro k x y out hd hl hk
  obtain ⟨k, rfl, _⟩ := a1c (show 0 < k by omega)
  obtain ⟨k, rfl, _⟩ := a1c (show 0 < k by omega)
  have hx : x = [] := List.length_eq_zero_iff.1 (by omega)
  have hy : y = [] := List.length_eq_zero_iff.1 (by omega)
  subst hx; subst hy
  simp only [entry_Merge.l0, entry_Merge.j1, List.length_nil]
  rw [if_neg (by omega), if_neg (by simp), if_pos (by omega)]
  simp only [Option.bind_some, List.append_nil]
  rw [if_pos (by omega)]
  simp
 | succ d ih =>
  intro k x y out hd hl hk
  obtain ⟨k, rfl, _⟩ := a1c (show 0 < k by omega)
  obtain ⟨k, rfl, _⟩ := a1c (show 0 < k by omega)
  have rest : entry_Merge.j1 (k + 1) x y out false = some ((out ++ x) ++ y) := by
   simp only [entry_Merge.j1]
   rw [if_neg (by simp), if_pos (by omega)]
   simp only [Option.bind_some]
   rw [if_pos (by rw [List.length_append]; omega)]
  cases x with
  | nil =>
   simp only [entry_Merge.l0]
   rw [if_neg (by simp), rest]
   simp
  | cons a x =>
   cases y with
   | nil =>
    simp only [entry_Merge.l0]
    rw [if_pos (by simp), show decide (((([] : List E)).length : Int) > 0) = false by simp, rest]
    simp
   | cons b y =>
    have ra : a0a (a :: x) 0 = a := rfl
    have rb : a0a (b :: y) 0 = b := rfl
    have la : ((a :: x).length : Int) > 0 := by simp
    have lb : ((b :: y).length : Int) > 0 := by simp
    have la' : (0 : Int) < ((a :: x).length : Int) := la
    have lb' : (0 : Int) < ((b :: y).length : Int) := lb
    have la1 : (1 : Int) ≤ ((a :: x).length : Int) := by omega
    have lb1 : (1 : Int) ≤ ((b :: y).length : Int) := by omega
    have hroom : out.length < 8796093022208 := by omega
    simp only [List.length_cons] at hd
    simp only [entry_Merge.l0, entry_Merge.j1, if_pos la, if_pos la', if_pos lb', decide_eq_true lb, if_true, ra, rb, b2n k (show 3 ≤ k by omega), Option.bind_some, if_pos hroom, if_pos la1, if_pos lb1, List.drop_succ_cons, List.drop_zero]
    rw [show (⟨a.f0, a.f1⟩ : E) = a from rfl, show (⟨b.f0, b.f1⟩ : E) = b from rfl]
    by_cases hc : ltE b a = true
    · rw [if_pos hc, ih k (a :: x) y (out ++ [b]) (by simp only [List.length_cons]; omega) (by simp only [List.length_append, List.length_cons, List.length_nil]; omega) (by omega)]
      rw [List.cons_merge_cons, if_neg (by simp [leE, hc])]
      simp
    · rw [if_neg hc, ih k x (b :: y) (out ++ [a]) (by simp only [List.length_cons]; omega) (by simp only [List.length_append, List.length_cons, List.length_nil]; omega) (by omega)]
      rw [List.cons_merge_cons, if_pos (by simp [leE, hc])]
      simp
theorem a6k (k : Nat) (x y : List E) (hx : a0d x) (hy : a0d y) (hl : x.length + y.length < 1000000000) (hk : 2 * (x.length + y.length) + 4 ≤ k) : entry_Merge.f k x y = some (a0b (x ++ y)) := by
 unfold entry_Merge.f
 rw [if_pos hl, b5g (x.length + y.length) k x y [] rfl (by simpa using hl) hk, c0n hx hy]
 rfl
class XSet where
  ok : Nat → Prop
  n : Nat
  fresh : ∀ k, n ≤ k → ok k
structure LsmAt [XSet] (w : World) (base p : Nat) (v : Value) (bs : List Bk) : Prop where
  hd : w.heap[p]? = some (.cells #[v] 102 (0, 0))
  row : Kd.N k109 109 w base (fun k => XSet.ok k ∧ k ≠ p) v bs
  lo : base ≤ p
  xs : XSet.n ≤ w.heap.size
structure Turn (w w' : World) (p : Nat) (v v' : Value) : Prop where
  os : w'.os = w.os
  tape : w'.tape = w.tape
  output : w'.output = w.output
  size : w.heap.size ≤ w'.heap.size
  block : ∀ i, i < w.heap.size → i ≠ p → some i ≠ v.ownBlock → w'.heap[i]? = w.heap[i]?
  own : v'.ownBlock = v.ownBlock ∨ v'.ownBlock = none ∨ ∃ b, v'.ownBlock = some b ∧ w.heap.size ≤ b
theorem Turn.refl (w : World) (p : Nat) (v : Value) : Turn w w p v v := ⟨rfl, rfl, rfl, Nat.le_refl _, fun _ _ _ _ => rfl, .inl rfl⟩
theorem Turn.trans {w w1 w2 : World} {p : Nat} {v v1 v2 : Value} (h : Turn w w1 p v v1) (k : Turn w1 w2 p v1 v2) : Turn w w2 p v v2 :=
 ⟨k.os.trans h.os, k.tape.trans h.tape, k.output.trans h.output, Nat.le_trans h.size k.size, fun i hi hp hv => by
  refine (k.block i (Nat.lt_of_lt_of_le hi h.size) hp ?_).trans (h.block i hi hp hv)
  rcases h.own with h1 | h1 | ⟨b, h1, h2⟩
  · rw [h1]; exact hv
  · rw [h1]; simp
  · rw [h1]; intro e; injection e with e; omega, by
  have hs := h.size
  rcases k.own with k1 | k1 | ⟨b, k1, k2⟩
  · rcases h.own with h1 | h1 | ⟨b, h1, h2⟩
    · exact .inl (k1.trans h1)
    · exact .inr (.inl (k1.trans h1))
    · exact .inr (.inr ⟨b, k1.trans h1, h2⟩)
  · exact .inr (.inl k1)
  · exact .inr (.inr ⟨b, k1, by omega⟩)⟩
theorem Turn.of_below {w w1 : World} (h : Below w.heap.size w w1) (p : Nat) (v : Value) : Turn w w1 p v v := ⟨h.os, h.tape, h.output, h.size, fun i hi _ _ => h.block i hi, .inl rfl⟩
theorem Turn.below {w0 w w1 : World} {base p : Nat} {v v1 : Value} (h : Turn w w1 p v v1) (hb : Below base w0 w) (hp : base ≤ p) (hs : base ≤ w.heap.size) (hv : ∀ k, v.ownBlock = some k → base ≤ k) : Below base w0 w1 :=
 ⟨h.os.trans hb.os, h.tape.trans hb.tape, h.output.trans hb.output, Nat.le_trans hb.size h.size, fun i hi => (h.block i (by omega) (by omega) (fun e => by have := hv i e.symm; omega)).trans (hb.block i hi)⟩
namespace LsmAt
variable [XSet] {w w1 : World} {base p : Nat} {v : Value} {bs : List Bk}
theorem lt (h : LsmAt w base p v bs) : p < w.heap.size := (Array.getElem?_eq_some_iff.1 h.hd).1
theorem below (h : LsmAt w base p v bs) (hb : Below w.heap.size w w1) : LsmAt w1 base p v bs := ⟨(hb.block p h.lt).trans h.hd, Kd.N_below h.row hb, h.lo, Nat.le_trans h.xs hb.size⟩
theorem cell (h : LsmAt w base p v bs) : w.cell? ⟨p, 0, none⟩ = some v := by simp [World.cell?, h.hd]
theorem own (h : LsmAt w base p v bs) : ∀ k, v.ownBlock = some k → base ≤ k ∧ k < w.heap.size ∧ k ≠ p := fun k hk => ⟨Kd.N_base h.row k hk, Kd.N_lt h.row k hk, (h.row.1 k hk).2⟩
theorem ownX (h : LsmAt w base p v bs) : ∀ k, v.ownBlock = some k → XSet.ok k := fun k hk => (h.row.1 k hk).1
theorem fresh (h : LsmAt w base p v bs) {k : Nat} (hk : w.heap.size ≤ k) : XSet.ok k := XSet.fresh k (Nat.le_trans h.xs hk)
theorem reads (h : LsmAt w base p v bs) : ∃ A c, v = .slice A bs.length c ∧ bs.length ≤ c ∧ k109.C w A bs.length bs := Kd.N_reads h.row
end LsmAt
theorem a6h {w : World} {A : Option Addr} {bs : List Bk} (h : k109.C w A bs.length bs) {i : Nat} {b : Bk} (hb : bs[i]? = some b) :
 ∃ ad A1 c1, A = some ad ∧ w.cell? (ad.add (i * 2)) = some (.int .i64 b.f0) ∧ w.cell? ⟨(ad.add (i * 2)).block, (ad.add (i * 2)).off + 1, none⟩ = some (.slice A1 b.f1.length c1) ∧ b.f1.length ≤ c1 ∧ k33.C w A1 b.f1.length b.f1 := by
 obtain ⟨hlt, rfl⟩ := List.getElem?_eq_some_iff.1 hb
 obtain ⟨ad, A1, c1, e1, e2, e3, e4, e5⟩ := b3f h (i : Int) (by omega) (by omega)
 have hr : a1f bs (i : Int) = bs[i] := b1l hlt
 rw [hr, Int.toNat_natCast] at e2 e3
 rw [hr] at e4 e5
 exact ⟨ad, A1, c1, e1, e2, e3, e4, e5⟩
theorem a5t {bs : List Bk} {i : Nat} {b : Bk} (h : bs[i]? = some b) : allB (bs.take (i + 1)) = allB (bs.take i) ++ b.f1 := by
 obtain ⟨hlt, rfl⟩ := List.getElem?_eq_some_iff.1 h
 exact b1m hlt
theorem a1z {bs : List Bk} {i : Nat} {b : Bk} (h : bs[i]? = some b) : (allB (bs.take i)).length + b.f1.length ≤ (allB bs).length := by
 rw [← List.length_append, ← a5t h]; exact b0c bs _
theorem b8f [XSet] (w : World) (hX : XSet.n ≤ w.heap.size) :
 Calls Tryz.prog 31 #[] w fun e w' => e = .returned (.pointer (some ⟨w.heap.size, 0, none⟩)) ∧ LsmAt w' w.heap.size w.heap.size (.slice none 0 0) [] ∧ Below w.heap.size w w' := by
 go_enter Tryz.func31, Tryz.ntmps31
 go_wp2
 go_ret
 exact ⟨rfl, ⟨heap_alloc_new _ _, Kd.N_nil _ _ _ _ _, Nat.le_refl _, Nat.le_trans hX (below_alloc (Below.refl _ _) _).size⟩, below_alloc (Below.refl _ _) _⟩
theorem c0z [XSet] (base p : Nat) (v : Value) (bs : List Bk) (w : World) (hs : LsmAt w base p v bs) (hn : bs.length ≤ 100) (hl : (allB bs).length ≤ 1000000) :
 Calls Tryz.prog 37 #[.pointer (some ⟨p, 0, none⟩)] w fun e w' => e = .returned (.int .i64 ((allB bs).length : Int)) ∧ Below w.heap.size w w' := by
 obtain ⟨A, c, rfl, hc, hC⟩ := hs.reads
 have hp := hs.cell
 have HC := za hC
 clear hC hs
 go_enter Tryz.func37, Tryz.ntmps37
 go_wp2
 go_loopw [3, 11] (fun s i wr => ∃ m : Nat, m ≤ bs.length ∧ i = .int .i64 m ∧ s = .int .i64 ((allB (bs.take m)).length : Int) ∧ Aside0 (Below w.heap.size w wr)) (fun _ i _ => bs.length - (intOf i).toNat)
 case atStart => exact ⟨0, Nat.zero_le _, rfl, rfl, ⟨Below.refl _ _⟩⟩
 case round =>
  obtain ⟨m, hm, rfl, rfl, HB⟩ := hrel
  by_cases hlt : m < bs.length
  · obtain ⟨b, hb⟩ : ∃ b, bs[m]? = some b := ⟨_, List.getElem?_eq_getElem hlt⟩
    obtain ⟨ad, A1, c1, rfl, e2, e3, e4, e5⟩ := a6h (Kd.C_below HC.out HB.out) hb
    have HT := za (a5t hb)
    have hle := a1z hb
    clear hb e5
    go_wp2
    go_roundw
    case rel => exact ⟨m + 1, by omega, by go_num, by rw [HT.out, List.length_append]; go_num, ⟨below_alloc HB.out _⟩⟩
    case measure => simp [intOf]; omega
  · obtain rfl : m = bs.length := by omega
    rw [List.take_length]
    go_wp2
    go_ret
    exact ⟨rfl, HB.out⟩
theorem b8c {w : World} {ok : Nat → Prop} {A : Option Addr} {bs : List Bk} (h : Kd.F k109 w ok A bs.length bs) {i : Nat} {b : Bk} (hb : bs[i]? = some b) :
 ∃ ad A1 c1, A = some ad ∧ w.cell? (ad.add (i * 2)) = some (.int .i64 b.f0) ∧ w.cell? ⟨(ad.add (i * 2)).block, (ad.add (i * 2)).off + 1, none⟩ = some (.slice A1 b.f1.length c1) ∧ b.f1.length ≤ c1 ∧ ∀ base, Kd.V k33 33 w base ok (.slice A1 b.f1.length c1) b.f1 := by
 obtain ⟨hlt, rfl⟩ := List.getElem?_eq_some_iff.1 hb
 obtain ⟨ad, c, e, _, hK, hc0, _⟩ := Kd.F_get h z109 (i : Int) (by omega) (by omega)
 have hg : bs.getD ((i : Int)).toNat z109 = bs[i] := by rw [Int.toNat_natCast, List.getD_eq_getElem?_getD, List.getElem?_eq_getElem hlt]; rfl
 rw [hg] at hK
 have hc : ∀ j u, c[j]? = some u → w.cell? (ad.add (i * 2 + j)) = some u := hc0
 obtain ⟨A1, c1, rfl, l1, g1⟩ := a2v hK
 exact ⟨ad, A1, c1, e, hc 0 _ rfl, by rw [← add_field _ _ 1 (by omega)]; exact hc 1 _ rfl, l1, fun base => Kd.V_mk l1 g1⟩
theorem LsmAt.foot [XSet] {w : World} {base p c n : Nat} {A : Option Addr} {bs : List Bk} (h : LsmAt w base p (.slice A n c) bs) : Kd.F k109 w (fun k => XSet.ok k ∧ k ≠ p) A bs.length bs := by
 have := Kd.N_F h.row
 rwa [(Kd.N_reads' h.row).1] at this
theorem c1i {bs : List Bk} (h : ∀ b ∈ bs, Sound b) {i : Nat} {b : Bk} (hb : bs[i]? = some b) : a0d b.f1 := (h b (List.mem_of_getElem? hb)).up
theorem a5r [XSet] (base p : Nat) (v : Value) (bs : List Bk) (w : World) (hs : LsmAt w base p v bs) (hg : ∀ b ∈ bs, Sound b) (hn : bs.length ≤ 100) (hl : (allB bs).length ≤ 1000000) :
 Calls Tryz.prog 47 #[.pointer (some ⟨p, 0, none⟩)] w fun e w' => ∃ v0_ : Value, e = .returned (v0_) ∧ Kd.V k33 33 w' w.heap.size (fun k_ => (w.heap.size ≤ k_)) v0_ (a0b (allB bs)) ∧ Below w.heap.size w w' := by
 obtain ⟨A, c, rfl, hc, hC⟩ := hs.reads
 have hp := hs.cell
 have HF := za hs.foot
 have HG := za hg
 clear hC hs hg
 go_enter Tryz.func47, Tryz.ntmps47
 go_wp2
 go_loopw [3, 11] (fun s i wr => ∃ m : Nat, m ≤ bs.length ∧ i = .int .i64 m ∧ Aside0 (Kd.V k33 33 wr w.heap.size (fun k => w.heap.size ≤ k) s (a0b (allB (bs.take m)))) ∧ Aside0 (Below w.heap.size w wr)) (fun _ i _ => bs.length - (intOf i).toNat)
 case atStart => exact ⟨0, Nat.zero_le _, rfl, ⟨by rw [List.take_zero, a7u, a4k]; exact Kd.V_nil _ _ _ _ _⟩, ⟨Below.refl _ _⟩⟩
 case round =>
  obtain ⟨m, hm, rfl, HR, HB⟩ := hrel
  by_cases hlt : m < bs.length
  · obtain ⟨b, hb⟩ : ∃ b, bs[m]? = some b := ⟨_, List.getElem?_eq_getElem hlt⟩
    obtain ⟨ad, A1, c1, rfl, e2, e3, e4, e5⟩ := b8c (Kd.F_below HF.out HB.out) hb
    have HT := za (show a0b (allB (bs.take (m + 1))) = a0b (a0b (allB (bs.take m)) ++ b.f1) by rw [a5t hb]; exact a1y ((a0n _).symm.append_right _))
    have hle := a1z hb
    have HS := za (c1i HG.out hb)
    have HL := za (show (a0b (allB (bs.take m))).length + b.f1.length ≤ 1000000 by rw [a0i]; omega)
    obtain ⟨A2, c2, rfl⟩ := Kd.V_slice HR.out
    have HV := za (Kd.V_alloc (e5 0) (.cells #[.int .i64 b.f0, .slice A1 b.f1.length c1] 109))
    have HR2 := za (Kd.V_alloc HR.out (.cells #[.int .i64 b.f0, .slice A1 b.f1.length c1] 109))
    have HT2 := za (a6k 3000000 (a0b (allB (bs.take m))) b.f1 (a0y _) HS.out (by have := HL.out; omega) (by have := HL.out; omega))
    clear hb e5 hle
    go_wp2_with fail
    refine (entry_Merge.calls 3000000 (fun k => w.heap.size ≤ k) _ _ _ (fun k => XSet.ok k ∧ k ≠ p) _ _ _ _ _ HR2.out HV.out HT2.out).mono ?_
    rintro e w1 ⟨v1, rfl, hv1, hb1⟩
    have HR3 := za hv1
    have HB3 := za (below_step (below_alloc HB.out _) hb1)
    have HZ := za (below_alloc HB.out (.cells #[.int .i64 b.f0, .slice A1 b.f1.length c1] 109)).size
    clear hv1 hb1
    go_wp2
    go_roundw
    case rel => exact ⟨m + 1, by omega, by go_num, ⟨by rw [HT.out]; exact Kd.V_mono (Kd.R_V HR3.out) (fun k hk => Nat.le_trans HZ.out hk)⟩, HB3⟩
    case measure => simp [intOf]; omega
  · obtain rfl : m = bs.length := by omega
    rw [List.take_length] at HR
    obtain ⟨A1, c1, e1⟩ := Kd.V_slice HR.out
    subst e1
    have HC1 := za (Kd.V_reads' HR.out).2.1
    have HM := za (show (a0b (allB bs)).length ≤ 9223372036854775807 by rw [a0i]; omega)
    have HV := za (show Kd.V k33 33 wr w.heap.size (fun k => w.heap.size ≤ k) (.slice A1 (a0b (allB bs)).length (a0b (allB bs)).length) (a0b (allB bs)) from Kd.V_mk (Nat.le_refl _) (Kd.V_F HR.out))
    go_wp2_with (first | (go_at_call 48; (refine (a5e A1 (a0b (allB bs)).length c1 _ HC1.out HM.out).mono ?_); rintro e w2 ⟨rfl, rfl⟩))
    go_ret
    exact ⟨_, rfl, HV.out, HB.out⟩
theorem a6b (p : Nat) (w : World) (v u : Value) (t : TypeId) (h : w.heap[p]? = some (.cells #[v] t (0, 0))) : (w.setCell ⟨p, 0, none⟩ u).heap[p]? = some (.cells #[u] t (0, 0)) := blk_put h 0 u rfl
theorem a7s {w : World} {p : Nat} {v u : Value} (hu : u.ownBlock = v.ownBlock ∨ u.ownBlock = none ∨ ∃ b, u.ownBlock = some b ∧ w.heap.size ≤ b) : Turn w (w.setCell ⟨p, 0, none⟩ u) p v u :=
 ⟨rfl, rfl, rfl, by simp [World.setCell], fun i _ hi _ => Below.heap_setCell w ⟨p, 0, none⟩ u i hi, hu⟩
theorem b4b [XSet] (base p : Nat) (v : Value) (bs : List Bk) (w : World) (hs : LsmAt w base p v bs) (hg : ∀ b ∈ bs, Sound b) (hn : bs.length ≤ 100) (hl : (allB bs).length ≤ 1000000) :
 Calls Tryz.prog 39 #[.pointer (some ⟨p, 0, none⟩)] w fun e w' => ∃ v0_ : Value, e = .returned (v0_) ∧ Kd.V k33 33 w' w.heap.size (fun k_ => (w.heap.size ≤ k_)) v0_ (a0b (allB bs)) ∧ LsmAt w' base p (.slice none 0 0) [] ∧ Turn w w' p v (.slice none 0 0) := by
 have HS := za hs
 have HG := za hg
 clear hs hg
 go_enter Tryz.func39, Tryz.ntmps39
 go_wp2_with fail
 refine (a5r base p v bs _ HS.out HG.out hn hl).mono ?_
 rintro e w1 ⟨v1, rfl, hv1, hb1⟩
 have HV := za hv1
 have HS1 := za (HS.out.below hb1)
 have HB1 := za hb1
 have hc := HS1.out.cell
 have hf : w1.frozen? ⟨p, 0, none⟩ = false := by simp [World.frozen?, HS1.out.hd]
 clear hv1 hb1
 go_wp2
 go_ret
 refine ⟨_, rfl, Kd.V_far HV.out (fun k hk => ?_) _, ⟨a6b p w1 v _ _ HS1.out.hd, Kd.N_nil _ _ _ _ _, HS1.out.lo, by simp only [World.setCell, Array.size_modify]; exact HS1.out.xs⟩, (Turn.of_below HB1.out p v).trans (a7s (.inr (.inl rfl)))⟩
 have := HS.out.lt
 show k ≠ p
 omega
def minV (l : List E) : Value × Bool := match l with | [] => (.agg #[.int .u64 0, .int .i64 0], false) | a :: _ => (.agg #[.int .u64 a.f0, .int .i64 a.f1], true)
theorem b1d [XSet] (base p : Nat) (v : Value) (bs : List Bk) (w : World) (hs : LsmAt w base p v bs) (hn : bs.length ≤ 100) (hl : (allB bs).length ≤ 1000000) :
 Calls Tryz.prog 50 #[.pointer (some ⟨p, 0, none⟩)] w fun e w' => e = .returned (.tuple #[(minV (a0b (allB bs))).1, .bool (minV (a0b (allB bs))).2]) ∧ Below w.heap.size w w' := by
 obtain ⟨A, c, rfl, hc, hC⟩ := hs.reads
 have hp := (hs.below (below_alloc (Below.refl w.heap.size w) (.cells #[.int .u64 0, .int .i64 0] 33))).cell
 have HC := za (Kd.C_below hC (below_alloc (Below.refl w.heap.size w) (.cells #[.int .u64 0, .int .i64 0] 33)))
 have HP := za (b0m 1000 bs 1 (by omega) (by omega) (by omega))
 have HL := za (a0i (allB bs))
 clear hC hs
 generalize a0b (allB bs) = l at HP HL ⊢
 have hlt : l.length ≤ 1000000 := by rw [HL.out]; omega
 rw [← HL.out] at HP
 clear HL hl
 go_enter Tryz.func50, Tryz.ntmps50
 go_wp2_with fail
 refine (block_Pivot.calls 1000 _ _ _ _ _ _ HC.out hc HP.out).mono ?_
 rintro e w1 ⟨v1, rfl, hv1, hb1⟩
 have HB1 := za (below_then (below_alloc (Below.refl w.heap.size w) (.cells #[.int .u64 0, .int .i64 0] 33)) (below_alloc (Below.refl w.heap.size w) (.cells #[.int .u64 0, .int .i64 0] 33)).size hb1)
 have hh1 : w1.heap[w.heap.size]? = some (.cells #[.int .u64 0, .int .i64 0] 33 (0, 0)) := (hb1.block _ (by simp)).trans (heap_alloc_new _ _)
 have hx0 : w1.cell? ⟨w.heap.size, 0, none⟩ = some (.int .u64 0) := by simp [World.cell?, hh1]
 have hx1 : w1.cell? ⟨w.heap.size, 1, none⟩ = some (.int .i64 0) := by simp [World.cell?, hh1]
 have hf0 : w1.frozen? ⟨w.heap.size, 0, none⟩ = false := by simp [World.frozen?, hh1]
 have hf1 : w1.frozen? ⟨w.heap.size, 1, none⟩ = false := by simp [World.frozen?, hh1]
 clear hh1
 cases l with
 | nil =>
  obtain ⟨A1, c1, rfl⟩ : ∃ A c, v1 = .slice A 0 c := by
   obtain ⟨A1, c1, e1⟩ := Kd.V_slice hv1
   exact ⟨A1, c1, by rw [e1]; simp⟩
  clear hv1 hb1
  go_wp2
  exact bodyPost_ret (v := .tuple #[.agg #[.int .u64 0, .int .i64 0], .bool false]) (by simp [results, Tryz.results50, go_sem, hx0, hx1]) rfl ⟨rfl, (HB1.out.setCell (Nat.le_refl _) _).setCell (Nat.le_refl _) _⟩
 | cons a t =>
  have ht : (a :: t).take (a0o 1 (a :: t).length) = [a] := by
   have : a0o 1 (a :: t).length = 1 := by unfold a0o mn mx; simp; omega
   rw [this]; rfl
  rw [ht] at hv1
  obtain ⟨A1, c1, rfl⟩ := Kd.V_slice hv1
  have hR := Kd.V_reads' hv1
  obtain ⟨ad, e1, c0, c1'⟩ := a0e hR.2.2 0 (by omega) (by simp)
  subst e1
  simp only [show Int.toNat 0 * 2 = 0 from rfl, Addr.add_zero', show a0a [a] 0 = a from rfl] at c0 c1'
  clear hv1 hb1 hR
  go_wp2
  exact bodyPost_ret (v := .tuple #[.agg #[.int .u64 a.f0, .int .i64 a.f1], .bool true]) (by simp [results, Tryz.results50, go_sem, hx0, hx1]) rfl ⟨rfl, (HB1.out.setCell (Nat.le_refl _) _).setCell (Nat.le_refl _) _⟩
theorem a2g {W : World} {base g n cap : Nat} {ok : Nat → Prop} {bs : List Bk} (h : Kd.N k109 109 W base ok (.slice (some ⟨g, 0, none⟩) n cap) bs) {i : Nat} {b : Bk} (hb : bs[i]? = some b) :
 ∃ A1 c1, W.cell? ⟨g, i * 2, none⟩ = some (.int .i64 b.f0) ∧ W.cell? ⟨g, i * 2 + 1, none⟩ = some (.slice A1 b.f1.length c1) ∧ b.f1.length ≤ c1 ∧ Kd.FK k109 W (fun k => ok k ∧ k ≠ g) b [.int .i64 b.f0, .slice A1 b.f1.length c1] ∧ ∀ j, W.frozen? ⟨g, i * 2 + j, none⟩ = false := by
 obtain ⟨hlt, rfl⟩ := List.getElem?_eq_some_iff.1 hb
 have hn := (Kd.N_reads' h).1
 obtain ⟨c, hcl, hK, hcc, hfr⟩ := Kd.N_elem h z109 (i : Int) (by omega) (by omega)
 have hg : bs.getD ((i : Int)).toNat z109 = bs[i] := by rw [Int.toNat_natCast, List.getD_eq_getElem?_getD, List.getElem?_eq_getElem hlt]; rfl
 rw [hg] at hK
 obtain ⟨A1, c1, rfl, l1, g1⟩ := a2v hK
 have hc : ∀ j u, ([.int .i64 bs[i].f0, .slice A1 bs[i].f1.length c1] : List Value)[j]? = some u → W.cell? ⟨g, i * 2 + j, none⟩ = some u := hcc
 exact ⟨A1, c1, hc 0 _ rfl, hc 1 _ rfl, l1, hK, hfr⟩
theorem a3r {W : World} {base g n cap : Nat} {ok : Nat → Prop} {bs : List Bk} (h : Kd.N k109 109 W base ok (.slice (some ⟨g, 0, none⟩) n cap) bs) {i : Nat} (hi : i < bs.length) {b' : Bk} {u : Value} (hM : Kd.FK k109 W (fun k => ok k ∧ k ≠ g) b' [.int .i64 b'.f0, u]) :
 Kd.N k109 109 ((W.setCell ⟨g, i * 2, none⟩ (.int .i64 b'.f0)).setCell ⟨g, i * 2 + 1, none⟩ u) base ok (.slice (some ⟨g, 0, none⟩) n cap) (bs.set i b') := by
 have hn := (Kd.N_reads' h).1
 obtain ⟨c, hcl, hK, hcc, hfr⟩ := Kd.N_elem h z109 (i : Int) (by omega) (by omega)
 have hcl2 : c.length = 2 := hcl
 have h2 := (Kd.N_seg h (i : Int) (by omega) (by omega) (c := c) (seg := [.int .i64 b'.f0, u]) (j := 0) (x' := b') (okp := fun k => ok k ∧ k ≠ g) hcl hcc (by show 0 + 2 ≤ 2; omega) (by
  have h3 : c.drop (0 + ([.int .i64 b'.f0, u] : List Value).length) = [] := by apply List.drop_eq_nil_of_le; simp [hcl2]
  rw [h3]
  simpa using hM) (fun _ hk => hk)).1
 exact h2
theorem a3o {W : World} {g j1 j2 : Nat} {u1 u2 : Value} {w : World} (h : w.grownBy W (some g)) : w.grownBy ((W.setCell ⟨g, j1, none⟩ u1).setCell ⟨g, j2, none⟩ u2) (some g) :=
 ⟨h.os, h.tape, h.output, by simpa [World.setCell] using h.size, fun i hi hne => by
  have : i ≠ g := fun e => hne (by rw [e])
  rw [Below.heap_setCell _ ⟨g, j2, none⟩ _ _ this, Below.heap_setCell _ ⟨g, j1, none⟩ _ _ this]
  exact h.block i hi hne⟩
theorem b1k {W : World} {g j1 j2 : Nat} {u1 u2 : Value} {ok : Nat → Prop} {b : Bk} {c : List Value} (h : Kd.FK k109 W (fun k => ok k ∧ k ≠ g) b c) : Kd.FK k109 ((W.setCell ⟨g, j1, none⟩ u1).setCell ⟨g, j2, none⟩ u2) (fun k => ok k ∧ k ≠ g) b c :=
 Kd.FK_step h (fun k hk _ => by rw [Below.heap_setCell _ ⟨g, j2, none⟩ _ _ hk.2, Below.heap_setCell _ ⟨g, j1, none⟩ _ _ hk.2])
theorem a9y (l1 l2 : Int) (A1 A2 : Option Addr) (n1 n2 c1 c2 : Nat) (w : World) (h1 : 0 ≤ l1 ∧ l1 ≤ 62) (h2 : 0 ≤ l2 ∧ l2 ≤ 62) :
 Calls Tryz.prog 95 #[.agg #[.int .i64 l1, .slice A1 n1 c1], .agg #[.int .i64 l2, .slice A2 n2 c2]] w fun e w' => e = .returned (.int .i64 (l2 - l1)) ∧ Below w.heap.size w w' := by
 have hw : IntKind.i64.wrap (l2 - l1) = l2 - l1 := IntWalk.i64_in _ (by omega)
 go_enter Tryz.func95, Tryz.ntmps95
 go_wp2
 go_ret
 exact ⟨by first | rfl | simp, below_alloc (below_alloc (Below.refl _ _) _) _⟩
theorem b2r (l1 l2 : Int) (A1 A2 : Option Addr) (n1 n2 c1 c2 : Nat) (w : World) (h1 : 0 ≤ l1 ∧ l1 ≤ 62) (h2 : 0 ≤ l2 ∧ l2 ≤ 62) :
 Calls Tryz.prog 97 #[.agg #[.int .i64 l1, .slice A1 n1 c1], .agg #[.int .i64 l2, .slice A2 n2 c2]] w fun e w' => e = .returned (.int .i64 (l2 - l1)) ∧ Below w.heap.size w w' := by
 have hw : IntKind.i64.wrap (l2 - l1) = l2 - l1 := IntWalk.i64_in _ (by omega)
 go_enter Tryz.func97, Tryz.ntmps97
 go_wp2
 go_ret
 exact ⟨by first | rfl | simp, below_alloc (below_alloc (Below.refl _ _) _) _⟩
theorem b0d {P : List Bk} {y x : Bk} {q : Nat} (rest : List Bk) (hx : P[q]? = some x) :
 ((P.take (q + 1) ++ y :: P.drop (q + 1) ++ rest).set (q + 1) x).set q y = P.take q ++ y :: P.drop q ++ rest := by
 obtain ⟨hlt, rfl⟩ := List.getElem?_eq_some_iff.1 hx
 have e1 := List.take_succ_eq_append_getElem hlt
 have e2 := List.drop_eq_getElem_cons hlt
 have hl : (P.take q).length = q := by rw [List.length_take]; omega
 rw [e1, e2]
 generalize P.take q = X at *
 generalize P.drop (q + 1) = Y at *
 generalize P[q] = z at *
 simp only [List.append_assoc, List.cons_append, List.nil_append]
 rw [List.set_append_right _ _ (by omega), hl, show q + 1 - q = 1 by omega]
 rw [List.set_append_right _ _ (by omega), hl, Nat.sub_self]
 rfl
theorem b0p {P : List Bk} {y : Bk} {q : Nat} (rest : List Bk) (hq : q < P.length) : (P.take (q + 1) ++ y :: P.drop (q + 1) ++ rest)[q]? = some P[q] ∧ (P.take (q + 1) ++ y :: P.drop (q + 1) ++ rest)[q + 1]? = some y := by
 have hl : (P.take (q + 1)).length = q + 1 := by rw [List.length_take]; omega
 rw [List.append_assoc]
 refine ⟨?_, ?_⟩
 · rw [List.getElem?_append_left (by omega), List.getElem?_take, if_pos (by omega), List.getElem?_eq_getElem hq]
 · rw [List.getElem?_append_right (by omega), hl, Nat.sub_self]; rfl
theorem b1g {b : Bk} (h : Sound b) : 0 ≤ b.f0 ∧ b.f0 ≤ 62 := by rw [h.lv]; have := b2e (b.f1.length : Int); omega
theorem a4j (l : List Bk) : (a0f l).Perm l := by
 have : ∀ n, n = l.length → (a0f l).Perm l := by
  intro n
  induction n generalizing l with
  | zero => intro h; rw [List.length_eq_zero_iff.1 h.symm]; exact List.Perm.refl _
  | succ n ih =>
   intro h
   rcases List.eq_nil_or_concat l with rfl | ⟨l', y, rfl⟩
   · simp at h
   · rw [List.concat_eq_append] at *
     rw [a5f]
     unfold sink
     refine List.perm_middle.trans ?_
     rw [List.take_append_drop]
     exact ((ih l' (by simpa using h)).cons y).trans (List.perm_append_singleton y l').symm
 exact this _ rfl
theorem a2b {w w1 : World} (hb : Below w.heap.size w w1) {g j : Nat} (hg : g < w.heap.size) (h : w.frozen? ⟨g, j, none⟩ = false) : w1.frozen? ⟨g, j, none⟩ = false := by
 unfold World.frozen? at *
 rw [hb.block g hg]
 exact h
theorem a5i {w w1 w2 : World} {row : Option Nat} (h : w.grownBy w1 row) (hb : Below w1.heap.size w1 w2) : w.grownBy w2 row :=
 ⟨hb.os.trans h.os, hb.tape.trans h.tape, hb.output.trans h.output, Nat.le_trans h.size hb.size, fun i hi hne => (hb.block i (Nat.lt_of_lt_of_le hi h.size)).trans (h.block i hi hne)⟩
theorem b9j (base g n cap : Nat) (ok : Nat → Prop) (bs : List Bk) (w : World) (hN : Kd.N k109 109 w base ok (.slice (some ⟨g, 0, none⟩) n cap) bs) (hs : ∀ b ∈ bs, Sound b) (hn : bs.length ≤ 1000) :
 Calls Tryz.prog 126 #[.slice (some ⟨g, 0, none⟩) n cap, .int .i64 0, .int .i64 (n : Int), .func (.func 95) #[] #[]] w fun e w' => e = .returned (.tuple #[]) ∧ Kd.N k109 109 w' base ok (.slice (some ⟨g, 0, none⟩) n cap) (a0f bs) ∧ w.grownBy w' (some g) := by
 have hnl := (Kd.N_reads' hN).1
 have HNL := za hnl
 have hn1 : n ≤ 1000 := by omega
 have HS := za (show ∀ b ∈ bs, 0 ≤ b.f0 ∧ b.f0 ≤ 62 from fun b hb => b1g (hs b hb))
 have HN := za hN
 clear hN hs hnl hn
 go_enter Tryz.func126, Tryz.ntmps126
 go_wp2
 go_loopw [8] (fun i wr => ∃ m : Nat, 1 ≤ m ∧ (m ≤ n ∨ m = 1) ∧ i = .int .i64 m ∧ Aside0 (Kd.N k109 109 wr base ok (.slice (some ⟨g, 0, none⟩) n cap) (a0f (bs.take m) ++ bs.drop m)) ∧ Aside0 (w.grownBy wr (some g))) (fun i _ => n + 1 - (intOf i).toNat)
 case atStart =>
  refine ⟨1, Nat.le_refl _, .inr rfl, rfl, ⟨?_⟩, ⟨grown_of_below (Below.refl _ _) _⟩⟩
  have : a0f (bs.take 1) = bs.take 1 := by cases bs <;> rfl
  rw [this, List.take_append_drop]
  exact HN.out
 case round =>
  obtain ⟨m, hm1, hm, rfl, HR, HG⟩ := hrel
  by_cases hlt : m < n
  · obtain ⟨y, hy⟩ : ∃ y, bs[m]? = some y := ⟨_, List.getElem?_eq_getElem (by have := HNL.out; omega)⟩
    have HY := za hy
    have HPL := za (show (a0f (bs.take m)).length = m by rw [a6q, List.length_take]; have := HNL.out; omega)
    have HPS := za (show ∀ b ∈ a0f (bs.take m), 0 ≤ b.f0 ∧ b.f0 ≤ 62 from fun b hb => HS.out b (List.mem_of_mem_take ((a4j _).mem_iff.1 hb)))
    have HYS := za (HS.out y (List.mem_of_getElem? hy))
    have HD := za (show bs.drop m = y :: bs.drop (m + 1) by obtain ⟨h1, rfl⟩ := List.getElem?_eq_some_iff.1 hy; exact List.drop_eq_getElem_cons h1)
    have HT := za (show a0f (bs.take (m + 1)) = sink (a0f (bs.take m)) y by obtain ⟨h1, rfl⟩ := List.getElem?_eq_some_iff.1 hy; exact a7t h1)
    clear hy
    generalize a0f (bs.take m) = P at HR HPL HPS HT
    go_wp2_with fail
    go_loopw [9] (fun j wr2 => ∃ q : Nat, q ≤ m ∧ j = .int .i64 q ∧ Aside0 (Kd.N k109 109 wr2 base ok (.slice (some ⟨g, 0, none⟩) n cap) (P.take q ++ y :: P.drop q ++ bs.drop (m + 1))) ∧ Aside0 (∀ p ∈ P.drop q, p.f0 < y.f0) ∧ Aside0 (w.grownBy wr2 (some g))) (fun j _ => (intOf j).toNat)
    case atStart =>
     refine ⟨m, Nat.le_refl _, rfl, ⟨?_⟩, ⟨?_⟩, HG⟩
     · have h1 : P.take m = P := List.take_of_length_le (by have := HPL.out; omega)
       have h2 : P.drop m = [] := List.drop_eq_nil_of_le (by have := HPL.out; omega)
       have := HR.out
       rw [HD.out] at this
       rw [h1, h2]
       simpa using this
     · have h2 : P.drop m = [] := List.drop_eq_nil_of_le (by have := HPL.out; omega)
       rw [h2]; simp
    case round =>
     clear HR HG
     obtain ⟨q, hq, rfl, HR, HA, HG⟩ := hrel
     cases q with
     | zero =>
      have d0 : decide (0 < (0 : Nat)) = false := rfl
      have HSK := za (show sink P y = P.take 0 ++ y :: P.drop 0 from a3v (Nat.zero_le _) HA.out (fun p h0 => absurd h0 (by omega)))
      have HR3 : Aside0 (Kd.N k109 109 wr base ok (.slice (some ⟨g, 0, none⟩) n cap) (a0f (bs.take (m + 1)) ++ bs.drop (m + 1))) := ⟨by rw [HT.out, HSK.out]; exact HR.out⟩
      clear HSK HA HR
      go_wp2
      go_quiet (fail)
      go_wp2
      go_roundw
      case rel => exact ⟨m + 1, by omega, by omega, by go_num, ⟨Kd.N_drewN HR3.out _⟩, ⟨⟨HG.out.os, HG.out.tape, HG.out.output, HG.out.size, HG.out.block⟩⟩⟩
      case measure => simp [intOf]; omega
     | succ q =>
      have hqP : q < P.length := by have := HPL.out; omega
      obtain ⟨x, hx⟩ : ∃ x, P[q]? = some x := ⟨_, List.getElem?_eq_getElem hqP⟩
      have hxe : P[q] = x := (List.getElem?_eq_some_iff.1 hx).2
      have HX := za hx
      have hxs := HPS.out x (List.mem_of_getElem? hx)
      obtain ⟨c1, c2⟩ := b0p (y := y) (bs.drop (m + 1)) hqP
      rw [hxe] at c1
      obtain ⟨A1, k1, x0, x1, hxl, hxK, xf⟩ := a2g HR.out c1
      obtain ⟨A2, k2, y0, y1, hyl, hyK, yf⟩ := a2g HR.out c2
      have HXK := za hxK
      have HYK := za hyK
      have HLn := za (show q < (P.take (q + 1) ++ y :: P.drop (q + 1) ++ bs.drop (m + 1)).length ∧ q + 1 < (P.take (q + 1) ++ y :: P.drop (q + 1) ++ bs.drop (m + 1)).length from ⟨(List.getElem?_eq_some_iff.1 c1).1, (List.getElem?_eq_some_iff.1 c2).1⟩)
      have xf0 : wr.frozen? ⟨g, q * 2, none⟩ = false := xf 0
      have xf1 := xf 1
      have yf0 : wr.frozen? ⟨g, (q + 1) * 2, none⟩ = false := yf 0
      have yf1 := yf 1
      have hys := HYS.out
      have HGL := za (show g < wr.heap.size from Kd.N_lt HR.out g rfl)
      have d0 : decide (0 < q + 1) = true := decide_eq_true (by omega)
      have hq1 : q < n := by omega
      have hq2 : q + 1 < n := by omega
      have hq3 : (q : Int) < (n : Int) := by omega
      have hq4 : (q : Int) + 1 < (n : Int) := by omega
      have HXS := za hxs
      clear hx hxe c1 c2 xf yf hxK hyK hxl hyl hqP
      have s3 : IntKind.i64.wrap (q : Int) = (q : Int) := IntWalk.i64_in _ (by omega)
      have s4 : (0 : Int) ≤ (q : Int) := by omega
      have s5 : (0 : Int) ≤ (q : Int) + 1 := by omega
      have s6 : ((q : Int) + 1).toNat = q + 1 := by omega
      by_cases hc : x.f0 < y.f0
      · have dc : decide (x.f0 - y.f0 < 0) = true := decide_eq_true (by omega)
        have dc2 : decide (x.f0 < y.f0) = true := decide_eq_true hc
        have HC := za hc
        clear hxs hys hc
        go_wp2
        go_region_held3 (fun W => W.cell? ⟨g, q * 2, none⟩ = some (.int .i64 x.f0) ∧ W.cell? ⟨g, q * 2 + 1, none⟩ = some (.slice A1 x.f1.length k1) ∧ W.cell? ⟨g, (q + 1) * 2, none⟩ = some (.int .i64 y.f0) ∧ W.cell? ⟨g, (q + 1) * 2 + 1, none⟩ = some (.slice A2 y.f1.length k2) ∧ Aside0 (Below wr.heap.size wr W)) (first | exact ⟨x0, x1, y0, y1, ⟨below_drew (Below.refl _ _)⟩⟩ | exact ⟨z0, z1, z2, z3, HB1⟩)
         (first | (go_at_call 95; go_loud (refine (a9y y.f0 x.f0 _ _ _ _ _ _ _ HYS.out HXS.out).mono ?_; rintro e w1 ⟨rfl, hb1⟩; have HB1 := za (below_step (below_drew (Below.refl wr.heap.size wr)) hb1); have z0 := pw_cell_below HB1.out x0; have z1 := pw_cell_below HB1.out x1; have z2 := pw_cell_below HB1.out y0; have z3 := pw_cell_below HB1.out y1; clear hb1)))
        have f0 := a2b HB1.out HGL.out xf0
        have f1 := a2b HB1.out HGL.out xf1
        have f2 := a2b HB1.out HGL.out yf0
        have f3 := a2b HB1.out HGL.out yf1
        have HN1 := za (Kd.N_below HR.out HB1.out)
        have HXK1 := za (Kd.FK_below HXK.out HB1.out)
        have HYK1 := za (Kd.FK_below HYK.out HB1.out)
        have HG1 := za (a5i HG.out HB1.out)
        clear x0 x1 y0 y1 xf0 xf1 yf0 yf1
        go_wp2
        go_region
        go_wp2
        have HN2 : Aside0 (Kd.N k109 109 ((((w1.setCell ⟨g, (q + 1) * 2, none⟩ (.int .i64 x.f0)).setCell ⟨g, (q + 1) * 2 + 1, none⟩ (.slice A1 x.f1.length k1)).setCell ⟨g, q * 2, none⟩ (.int .i64 y.f0)).setCell ⟨g, q * 2 + 1, none⟩ (.slice A2 y.f1.length k2)).drew base ok (.slice (some ⟨g, 0, none⟩) n cap) (P.take q ++ y :: P.drop q ++ bs.drop (m + 1))) := ⟨by
         have h1 := a3r (a3r HN1.out HLn.out.2 HXK1.out) (by rw [List.length_set]; exact HLn.out.1) (b1k HYK1.out)
         rw [b0d _ HX.out] at h1
         exact Kd.N_drew h1⟩
        have HA2 : Aside0 (∀ p ∈ P.drop q, p.f0 < y.f0) := ⟨by
         obtain ⟨h1, h2⟩ := List.getElem?_eq_some_iff.1 HX.out
         rw [List.drop_eq_getElem_cons h1, h2]
         intro p hp
         rcases List.mem_cons.1 hp with rfl | hp
         · exact HC.out
         · exact HA.out p hp⟩
        have HG2 : Aside0 (w.grownBy ((((w1.setCell ⟨g, (q + 1) * 2, none⟩ (.int .i64 x.f0)).setCell ⟨g, (q + 1) * 2 + 1, none⟩ (.slice A1 x.f1.length k1)).setCell ⟨g, q * 2, none⟩ (.int .i64 y.f0)).setCell ⟨g, q * 2 + 1, none⟩ (.slice A2 y.f1.length k2)).drew (some g)) := ⟨by
         have h1 := a3o (j1 := (q + 1) * 2) (j2 := (q + 1) * 2 + 1) (u1 := .int .i64 x.f0) (u2 := .slice A1 x.f1.length k1) HG1.out
         have h2 := a3o (j1 := q * 2) (j2 := q * 2 + 1) (u1 := .int .i64 y.f0) (u2 := .slice A2 y.f1.length k2) h1
         exact ⟨h2.os, h2.tape, h2.output, h2.size, h2.block⟩⟩
        go_roundw
        case rel => exact ⟨q, by omega, by go_num, HN2, HA2, HG2⟩
        case measure => simp [intOf]
      · have dc : decide (x.f0 - y.f0 < 0) = false := decide_eq_false (by omega)
        have dc2 : decide (x.f0 < y.f0) = false := decide_eq_false hc
        have HSK := za (show sink P y = P.take (q + 1) ++ y :: P.drop (q + 1) from a3v (by have := HPL.out; omega) HA.out (fun p h0 hp => by
         rw [Nat.add_sub_cancel, HX.out] at hp
         injection hp with hp
         subst hp
         exact hc))
        have HR3 : Aside0 (Kd.N k109 109 wr base ok (.slice (some ⟨g, 0, none⟩) n cap) (a0f (bs.take (m + 1)) ++ bs.drop (m + 1))) := ⟨by rw [HT.out, HSK.out]; exact HR.out⟩
        clear hxs hys hc HSK
        go_wp2
        go_region_held3 (fun W => W.cell? ⟨g, q * 2, none⟩ = some (.int .i64 x.f0) ∧ W.cell? ⟨g, q * 2 + 1, none⟩ = some (.slice A1 x.f1.length k1) ∧ W.cell? ⟨g, (q + 1) * 2, none⟩ = some (.int .i64 y.f0) ∧ W.cell? ⟨g, (q + 1) * 2 + 1, none⟩ = some (.slice A2 y.f1.length k2) ∧ Aside0 (Below wr.heap.size wr W)) (first | exact ⟨x0, x1, y0, y1, ⟨below_drew (Below.refl _ _)⟩⟩ | exact ⟨z0, z1, z2, z3, HB1⟩)
         (first | (go_at_call 95; go_loud (refine (a9y y.f0 x.f0 _ _ _ _ _ _ _ HYS.out HXS.out).mono ?_; rintro e w1 ⟨rfl, hb1⟩; have HB1 := za (below_step (below_drew (Below.refl wr.heap.size wr)) hb1); have z0 := pw_cell_below HB1.out x0; have z1 := pw_cell_below HB1.out x1; have z2 := pw_cell_below HB1.out y0; have z3 := pw_cell_below HB1.out y1; clear hb1)))
        have HN1 := za (Kd.N_below HR3.out HB1.out)
        have HG1 := za (a5i HG.out HB1.out)
        clear s3 s4 s5 s6
        go_wp2
        go_roundw
        case rel => exact ⟨m + 1, by omega, by omega, by go_num, HN1, HG1⟩
        case measure => simp [intOf]; omega
  · have hmn : ¬ m < n := hlt
    have HE : Aside0 (Kd.N k109 109 wr base ok (.slice (some ⟨g, 0, none⟩) n cap) (a0f bs)) := ⟨by
     have h1 : bs.length ≤ m := by have := HNL.out; omega
     have := HR.out
     rw [List.take_of_length_le h1, List.drop_eq_nil_of_le h1, List.append_nil] at this
     exact this⟩
    clear HR hm
    go_wp2
    exact ⟨rfl, .tuple #[], by simp [results, Tryz.results126, go_sem], rfl, HE.out, HG.out⟩
theorem c2k (base g n cap : Nat) (ok : Nat → Prop) (bs : List Bk) (w : World) (hN : Kd.N k109 109 w base ok (.slice (some ⟨g, 0, none⟩) n cap) bs) (hs : ∀ b ∈ bs, Sound b) (hn : bs.length ≤ 1000) :
 Calls Tryz.prog 126 #[.slice (some ⟨g, 0, none⟩) n cap, .int .i64 0, .int .i64 (n : Int), .func (.func 97) #[] #[]] w fun e w' => e = .returned (.tuple #[]) ∧ Kd.N k109 109 w' base ok (.slice (some ⟨g, 0, none⟩) n cap) (a0f bs) ∧ w.grownBy w' (some g) := by
 have hnl := (Kd.N_reads' hN).1
 have HNL := za hnl
 have hn1 : n ≤ 1000 := by omega
 have HS := za (show ∀ b ∈ bs, 0 ≤ b.f0 ∧ b.f0 ≤ 62 from fun b hb => b1g (hs b hb))
 have HN := za hN
 clear hN hs hnl hn
 go_enter Tryz.func126, Tryz.ntmps126
 go_wp2
 go_loopw [8] (fun i wr => ∃ m : Nat, 1 ≤ m ∧ (m ≤ n ∨ m = 1) ∧ i = .int .i64 m ∧ Aside0 (Kd.N k109 109 wr base ok (.slice (some ⟨g, 0, none⟩) n cap) (a0f (bs.take m) ++ bs.drop m)) ∧ Aside0 (w.grownBy wr (some g))) (fun i _ => n + 1 - (intOf i).toNat)
 case atStart =>
  refine ⟨1, Nat.le_refl _, .inr rfl, rfl, ⟨?_⟩, ⟨grown_of_below (Below.refl _ _) _⟩⟩
  have : a0f (bs.take 1) = bs.take 1 := by cases bs <;> rfl
  rw [this, List.take_append_drop]
  exact HN.out
 case round =>
  obtain ⟨m, hm1, hm, rfl, HR, HG⟩ := hrel
  by_cases hlt : m < n
  · obtain ⟨y, hy⟩ : ∃ y, bs[m]? = some y := ⟨_, List.getElem?_eq_getElem (by have := HNL.out; omega)⟩
    have HY := za hy
    have HPL := za (show (a0f (bs.take m)).length = m by rw [a6q, List.length_take]; have := HNL.out; omega)
    have HPS := za (show ∀ b ∈ a0f (bs.take m), 0 ≤ b.f0 ∧ b.f0 ≤ 62 from fun b hb => HS.out b (List.mem_of_mem_take ((a4j _).mem_iff.1 hb)))
    have HYS := za (HS.out y (List.mem_of_getElem? hy))
    have HD := za (show bs.drop m = y :: bs.drop (m + 1) by obtain ⟨h1, rfl⟩ := List.getElem?_eq_some_iff.1 hy; exact List.drop_eq_getElem_cons h1)
    have HT := za (show a0f (bs.take (m + 1)) = sink (a0f (bs.take m)) y by obtain ⟨h1, rfl⟩ := List.getElem?_eq_some_iff.1 hy; exact a7t h1)
    clear hy
    generalize a0f (bs.take m) = P at HR HPL HPS HT
    go_wp2_with fail
    go_loopw [9] (fun j wr2 => ∃ q : Nat, q ≤ m ∧ j = .int .i64 q ∧ Aside0 (Kd.N k109 109 wr2 base ok (.slice (some ⟨g, 0, none⟩) n cap) (P.take q ++ y :: P.drop q ++ bs.drop (m + 1))) ∧ Aside0 (∀ p ∈ P.drop q, p.f0 < y.f0) ∧ Aside0 (w.grownBy wr2 (some g))) (fun j _ => (intOf j).toNat)
    case atStart =>
     refine ⟨m, Nat.le_refl _, rfl, ⟨?_⟩, ⟨?_⟩, HG⟩
     · have h1 : P.take m = P := List.take_of_length_le (by have := HPL.out; omega)
       have h2 : P.drop m = [] := List.drop_eq_nil_of_le (by have := HPL.out; omega)
       have := HR.out
       rw [HD.out] at this
       rw [h1, h2]
       simpa using this
     · have h2 : P.drop m = [] := List.drop_eq_nil_of_le (by have := HPL.out; omega)
       rw [h2]; simp
    case round =>
     clear HR HG
     obtain ⟨q, hq, rfl, HR, HA, HG⟩ := hrel
     cases q with
     | zero =>
      have d0 : decide (0 < (0 : Nat)) = false := rfl
      have HSK := za (show sink P y = P.take 0 ++ y :: P.drop 0 from a3v (Nat.zero_le _) HA.out (fun p h0 => absurd h0 (by omega)))
      have HR3 : Aside0 (Kd.N k109 109 wr base ok (.slice (some ⟨g, 0, none⟩) n cap) (a0f (bs.take (m + 1)) ++ bs.drop (m + 1))) := ⟨by rw [HT.out, HSK.out]; exact HR.out⟩
      clear HSK HA HR
      go_wp2
      go_quiet (fail)
      go_wp2
      go_roundw
      case rel => exact ⟨m + 1, by omega, by omega, by go_num, ⟨Kd.N_drewN HR3.out _⟩, ⟨⟨HG.out.os, HG.out.tape, HG.out.output, HG.out.size, HG.out.block⟩⟩⟩
      case measure => simp [intOf]; omega
     | succ q =>
      have hqP : q < P.length := by have := HPL.out; omega
      obtain ⟨x, hx⟩ : ∃ x, P[q]? = some x := ⟨_, List.getElem?_eq_getElem hqP⟩
      have hxe : P[q] = x := (List.getElem?_eq_some_iff.1 hx).2
      have HX := za hx
      have hxs := HPS.out x (List.mem_of_getElem? hx)
      obtain ⟨c1, c2⟩ := b0p (y := y) (bs.drop (m + 1)) hqP
      rw [hxe] at c1
      obtain ⟨A1, k1, x0, x1, hxl, hxK, xf⟩ := a2g HR.out c1
      obtain ⟨A2, k2, y0, y1, hyl, hyK, yf⟩ := a2g HR.out c2
      have HXK := za hxK
      have HYK := za hyK
      have HLn := za (show q < (P.take (q + 1) ++ y :: P.drop (q + 1) ++ bs.drop (m + 1)).length ∧ q + 1 < (P.take (q + 1) ++ y :: P.drop (q + 1) ++ bs.drop (m + 1)).length from ⟨(List.getElem?_eq_some_iff.1 c1).1, (List.getElem?_eq_some_iff.1 c2).1⟩)
      have xf0 : wr.frozen? ⟨g, q * 2, none⟩ = false := xf 0
      have xf1 := xf 1
      have yf0 : wr.frozen? ⟨g, (q + 1) * 2, none⟩ = false := yf 0
      have yf1 := yf 1
      have hys := HYS.out
      have HGL := za (show g < wr.heap.size from Kd.N_lt HR.out g rfl)
      have d0 : decide (0 < q + 1) = true := decide_eq_true (by omega)
      have hq1 : q < n := by omega
      have hq2 : q + 1 < n := by omega
      have hq3 : (q : Int) < (n : Int) := by omega
      have hq4 : (q : Int) + 1 < (n : Int) := by omega
      have HXS := za hxs
      clear hx hxe c1 c2 xf yf hxK hyK hxl hyl hqP
      have s3 : IntKind.i64.wrap (q : Int) = (q : Int) := IntWalk.i64_in _ (by omega)
      have s4 : (0 : Int) ≤ (q : Int) := by omega
      have s5 : (0 : Int) ≤ (q : Int) + 1 := by omega
      have s6 : ((q : Int) + 1).toNat = q + 1 := by omega
      by_cases hc : x.f0 < y.f0
      · have dc : decide (x.f0 - y.f0 < 0) = true := decide_eq_true (by omega)
        have dc2 : decide (x.f0 < y.f0) = true := decide_eq_true hc
        have HC := za hc
        clear hxs hys hc
        go_wp2
        go_region_held3 (fun W => W.cell? ⟨g, q * 2, none⟩ = some (.int .i64 x.f0) ∧ W.cell? ⟨g, q * 2 + 1, none⟩ = some (.slice A1 x.f1.length k1) ∧ W.cell? ⟨g, (q + 1) * 2, none⟩ = some (.int .i64 y.f0) ∧ W.cell? ⟨g, (q + 1) * 2 + 1, none⟩ = some (.slice A2 y.f1.length k2) ∧ Aside0 (Below wr.heap.size wr W)) (first | exact ⟨x0, x1, y0, y1, ⟨below_drew (Below.refl _ _)⟩⟩ | exact ⟨z0, z1, z2, z3, HB1⟩)
         (first | (go_at_call 97; go_loud (refine (b2r y.f0 x.f0 _ _ _ _ _ _ _ HYS.out HXS.out).mono ?_; rintro e w1 ⟨rfl, hb1⟩; have HB1 := za (below_step (below_drew (Below.refl wr.heap.size wr)) hb1); have z0 := pw_cell_below HB1.out x0; have z1 := pw_cell_below HB1.out x1; have z2 := pw_cell_below HB1.out y0; have z3 := pw_cell_below HB1.out y1; clear hb1)))
        have f0 := a2b HB1.out HGL.out xf0
        have f1 := a2b HB1.out HGL.out xf1
        have f2 := a2b HB1.out HGL.out yf0
        have f3 := a2b HB1.out HGL.out yf1
        have HN1 := za (Kd.N_below HR.out HB1.out)
        have HXK1 := za (Kd.FK_below HXK.out HB1.out)
        have HYK1 := za (Kd.FK_below HYK.out HB1.out)
        have HG1 := za (a5i HG.out HB1.out)
        clear x0 x1 y0 y1 xf0 xf1 yf0 yf1
        go_wp2
        go_region
        go_wp2
        have HN2 : Aside0 (Kd.N k109 109 ((((w1.setCell ⟨g, (q + 1) * 2, none⟩ (.int .i64 x.f0)).setCell ⟨g, (q + 1) * 2 + 1, none⟩ (.slice A1 x.f1.length k1)).setCell ⟨g, q * 2, none⟩ (.int .i64 y.f0)).setCell ⟨g, q * 2 + 1, none⟩ (.slice A2 y.f1.length k2)).drew base ok (.slice (some ⟨g, 0, none⟩) n cap) (P.take q ++ y :: P.drop q ++ bs.drop (m + 1))) := ⟨by
         have h1 := a3r (a3r HN1.out HLn.out.2 HXK1.out) (by rw [List.length_set]; exact HLn.out.1) (b1k HYK1.out)
         rw [b0d _ HX.out] at h1
         exact Kd.N_drew h1⟩
        have HA2 : Aside0 (∀ p ∈ P.drop q, p.f0 < y.f0) := ⟨by
         obtain ⟨h1, h2⟩ := List.getElem?_eq_some_iff.1 HX.out
         rw [List.drop_eq_getElem_cons h1, h2]
         intro p hp
         rcases List.mem_cons.1 hp with rfl | hp
         · exact HC.out
         · exact HA.out p hp⟩
        have HG2 : Aside0 (w.grownBy ((((w1.setCell ⟨g, (q + 1) * 2, none⟩ (.int .i64 x.f0)).setCell ⟨g, (q + 1) * 2 + 1, none⟩ (.slice A1 x.f1.length k1)).setCell ⟨g, q * 2, none⟩ (.int .i64 y.f0)).setCell ⟨g, q * 2 + 1, none⟩ (.slice A2 y.f1.length k2)).drew (some g)) := ⟨by
         have h1 := a3o (j1 := (q + 1) * 2) (j2 := (q + 1) * 2 + 1) (u1 := .int .i64 x.f0) (u2 := .slice A1 x.f1.length k1) HG1.out
         have h2 := a3o (j1 := q * 2) (j2 := q * 2 + 1) (u1 := .int .i64 y.f0) (u2 := .slice A2 y.f1.length k2) h1
         exact ⟨h2.os, h2.tape, h2.output, h2.size, h2.block⟩⟩
        go_roundw
        case rel => exact ⟨q, by omega, by go_num, HN2, HA2, HG2⟩
        case measure => simp [intOf]
      · have dc : decide (x.f0 - y.f0 < 0) = false := decide_eq_false (by omega)
        have dc2 : decide (x.f0 < y.f0) = false := decide_eq_false hc
        have HSK := za (show sink P y = P.take (q + 1) ++ y :: P.drop (q + 1) from a3v (by have := HPL.out; omega) HA.out (fun p h0 hp => by
         rw [Nat.add_sub_cancel, HX.out] at hp
         injection hp with hp
         subst hp
         exact hc))
        have HR3 : Aside0 (Kd.N k109 109 wr base ok (.slice (some ⟨g, 0, none⟩) n cap) (a0f (bs.take (m + 1)) ++ bs.drop (m + 1))) := ⟨by rw [HT.out, HSK.out]; exact HR.out⟩
        clear hxs hys hc HSK
        go_wp2
        go_region_held3 (fun W => W.cell? ⟨g, q * 2, none⟩ = some (.int .i64 x.f0) ∧ W.cell? ⟨g, q * 2 + 1, none⟩ = some (.slice A1 x.f1.length k1) ∧ W.cell? ⟨g, (q + 1) * 2, none⟩ = some (.int .i64 y.f0) ∧ W.cell? ⟨g, (q + 1) * 2 + 1, none⟩ = some (.slice A2 y.f1.length k2) ∧ Aside0 (Below wr.heap.size wr W)) (first | exact ⟨x0, x1, y0, y1, ⟨below_drew (Below.refl _ _)⟩⟩ | exact ⟨z0, z1, z2, z3, HB1⟩)
         (first | (go_at_call 97; go_loud (refine (b2r y.f0 x.f0 _ _ _ _ _ _ _ HYS.out HXS.out).mono ?_; rintro e w1 ⟨rfl, hb1⟩; have HB1 := za (below_step (below_drew (Below.refl wr.heap.size wr)) hb1); have z0 := pw_cell_below HB1.out x0; have z1 := pw_cell_below HB1.out x1; have z2 := pw_cell_below HB1.out y0; have z3 := pw_cell_below HB1.out y1; clear hb1)))
        have HN1 := za (Kd.N_below HR3.out HB1.out)
        have HG1 := za (a5i HG.out HB1.out)
        clear s3 s4 s5 s6
        go_wp2
        go_roundw
        case rel => exact ⟨m + 1, by omega, by omega, by go_num, HN1, HG1⟩
        case measure => simp [intOf]; omega
  · have hmn : ¬ m < n := hlt
    have HE : Aside0 (Kd.N k109 109 wr base ok (.slice (some ⟨g, 0, none⟩) n cap) (a0f bs)) := ⟨by
     have h1 : bs.length ≤ m := by have := HNL.out; omega
     have := HR.out
     rw [List.take_of_length_le h1, List.drop_eq_nil_of_le h1, List.append_nil] at this
     exact this⟩
    clear HR hm
    go_wp2
    exact ⟨rfl, .tuple #[], by simp [results, Tryz.results126, go_sem], rfl, HE.out, HG.out⟩
end Go.Proofs.YthghkglkifeagaaGreat.V
