-- a text of this work, without what this claim doesn't use (wip/shake.py)
import Derived.Test.YtoohkcffkhnodaaRVPcmp
import Derived.Test.YtoohkcffkhnodaaRVLsm13A
import Derived.Test.YtoohkcffkhnodaaRVLsm5
import Derived.Test.YtoohkcffkhnodaaRVLsm16
import Derived.BigQuiet
import Derived.Deep.QuietTactic
import Derived.Deep.DeepCutAuto
import Derived.Deep.CutBlock
set_option linter.unusedVariables false
set_option linter.unusedSimpArgs false
namespace Go.Proofs.Ytoohkcffkhnodaa.V
open Go.RowKit Go.Proofs.YtoohkcffkhnodaaW.PrintWords Go.Proofs.YtoohkcffkhnodaaW.PrintLast Go.Proofs.YtoohkcffkhnodaaW.PrintMore
attribute [local go_sem] max2_int min2_int max_two min_two max_three min_three max_four min_four
theorem lsm_less_told (a b c d : Int) : vergerref5_Less.f a b c d = some (ltE ⟨a, b⟩ ⟨c, d⟩) := by
 unfold vergerref5_Less.f ltE
 by_cases h : a < c
 · simp [h]
 · by_cases h2 : a = c
   · simp [h2]
   · simp [h, h2]
def entsN (l : List Int) (n : Nat) : List E := (List.range n).map fun (q : Nat) => (⟨rd l (q : Int), (q : Int) + 1⟩ : E)
theorem entsN_succ (l : List Int) (n : Nat) : entsN l (n + 1) = entsN l n ++ [⟨rd l (n : Int), (n : Int) + 1⟩] := by simp [entsN, List.range_succ]
theorem entsN_len (l : List Int) (n : Nat) : (entsN l n).length = n := by simp [entsN]
theorem entsN_unlike (l : List Int) (n : Nat) : Unlike (entsN l n) := by
 unfold Unlike entsN
 rw [List.map_map]
 unfold List.Nodup
 rw [List.pairwise_map]
 refine List.nodup_range.imp ?_
 intro a b h
 show (a : Int) + 1 ≠ (b : Int) + 1
 omega
theorem F_apart {w : World} {ok : Nat → Prop} {A : Option Addr} {l : List E} (h : Kd.F k28 w ok A l.length l) {G : Nat} {x y : Int} (hG : w.heap[G]? = some (.cells #[.int .u64 x, .int .i64 y] 28 (0, 0))) (hn : (⟨x, y⟩ : E) ∉ l) : Kd.F k28 w (fun k => ok k ∧ k ≠ G) A l.length l := by
 intro W' hW
 refine ⟨rfl, (Kd.F_now h).2.1, fun hp => ?_⟩
 obtain ⟨ad, rfl, _⟩ := (Kd.F_now h).2.2 hp
 have hne : ad.block ≠ G := by
  intro e
  obtain ⟨ad', c, he, hcl, hK, hcc, _⟩ := Kd.F_get h z28 0 (by omega) (by omega)
  injection he with he
  subst he
  obtain rfl := k28_open (Kd.FK_now hK)
  have hg : l.getD (0 : Int).toNat z28 = l[0] := by rw [List.getD_eq_getElem?_getD, List.getElem?_eq_getElem (show (0 : Int).toNat < l.length from hp)]; rfl
  rw [hg] at hcc
  have c0 := hcc 0 _ rfl
  have c1 := hcc 1 _ rfl
  rw [add_field _ _ 1 (by omega)] at c1
  have eb : (ad.add (Int.toNat 0 * 2)).block = G := by rw [add_block]; exact e
  rw [show (Int.toNat 0 * k28.sz + 0) = Int.toNat 0 * 2 from rfl] at c0
  rw [show (Int.toNat 0 * k28.sz) = Int.toNat 0 * 2 from rfl] at c1
  obtain ⟨off, ho⟩ : ∃ off, (ad.add (Int.toNat 0 * 2)).off = off := ⟨_, rfl⟩
  simp only [World.cell?, eb, ho, hG] at c0 c1
  match off, c0, c1 with
  | 0, c0, c1 =>
   simp at c0 c1
   exact hn (by rw [show (⟨x, y⟩ : E) = l[0] by rw [c0.2, c1]]; exact List.getElem_mem _)
  | 1, c0, c1 => simp at c0
  | (k + 2), c0, c1 => simp at c0
 refine ⟨ad, rfl, fun j p hj => ?_⟩
 obtain ⟨hjl, hjp⟩ := List.getElem?_eq_some_iff.1 hj
 obtain ⟨ad', c, he, hcl, hK, hcc, hok⟩ := Kd.F_get h p (j : Int) (by omega) (by omega)
 injection he with he
 subst he
 simp only [Int.toNat_natCast] at hK hcc
 rw [List.getD_eq_getElem?_getD, hj] at hK
 obtain rfl := k28_open (Kd.FK_now hK)
 refine ⟨_, hcl, k28_mk W' p, fun i u hu => ?_⟩
 have h5 := hcc i u hu
 have h6 := World.block_lt_of_cell? w _ h5
 rw [add_block] at h6
 have hb : W'.heap[ad.block]? = w.heap[ad.block]? := hW _ ⟨hok (by decide), hne⟩ h6
 have h7 : W'.cell? (ad.add (j * k28.sz + i)) = w.cell? (ad.add (j * k28.sz + i)) := by simp [World.cell?, add_block, hb]
 exact h7.trans h5
theorem N_apartG {w : World} {base : Nat} {ok : Nat → Prop} {v : Value} {bs : List Bk} (h : Kd.N k61 61 w base ok v bs) {G : Nat} {x y : Int} (hG : w.heap[G]? = some (.cells #[.int .u64 x, .int .i64 y] 28 (0, 0))) (hn : (⟨x, y⟩ : E) ∉ allB bs) : Kd.N k61 61 w base (fun k => ok k ∧ k ≠ G) v bs := by
 have hv : some G ≠ v.ownBlock := Kd.N_ne h hG (by decide)
 obtain ⟨h0, rows, hl, hR, hf⟩ := h
 refine ⟨fun k hk => ⟨h0 k hk, fun e => hv (by rw [hk, e])⟩, rows, hl, hR, fun j b c hb hc => ?_⟩
 have hF := hf j b c hb hc
 obtain ⟨A1, c1, rfl, l1, g1⟩ := k61_openF hF
 have hnb : (⟨x, y⟩ : E) ∉ b.f1 := fun hm => hn (List.mem_flatMap.2 ⟨b, List.mem_of_getElem? hb, hm⟩)
 exact k61_mkF _ _ _ l1 (Kd.F_mono (F_apart g1 hG hnb) (fun k hk => ⟨⟨hk.1.1, hk.2⟩, hk.1.2⟩))
theorem LOk.lay {w0 wr w2 : World} {p : Nat} {v : Value} {bs : List Bk} {ls : List Int} {es : List E} (h : LOk w0 wr p v bs ls es) {G : Nat} {x y : Int} (hG : wr.heap[G]? = some (.cells #[.int .u64 x, .int .i64 y] 28 (0, 0))) (hn : (⟨x, y⟩ : E) ∉ es) (hb : w0.heap.size ≤ G)
 (hs : wr.heap.size ≤ w2.heap.size) (ho : w2.os = wr.os) (ht : w2.tape = wr.tape) (hp : w2.output = wr.output) (hh : ∀ k, k < wr.heap.size → k ≠ G → w2.heap[k]? = wr.heap[k]?) : LOk w0 w2 p v bs ls es := by
 have hpG : p ≠ G := fun e => by
  have h1 := h.hat.hd
  rw [e, hG] at h1
  injection h1 with h1
  injection h1 with h1 h2
  exact absurd h2 (by decide)
 refine ⟨⟨(hh p h.hat.lt hpG).trans h.hat.hd, ?_, h.hat.lo⟩, h.good, h.lv, h.all, ?_⟩
 · exact Kd.N_mono (Kd.N_step (N_apartG h.hat.row hG (fun hm => hn (h.all.mem_iff.1 hm))) (fun k hk hlt => hh k hlt hk.2)) (fun k hk => hk.1)
 · exact ⟨ho.trans h.bel.os, ht.trans h.bel.tape, hp.trans h.bel.output, Nat.le_trans h.bel.size hs, fun i hi => (hh i (Nat.lt_of_lt_of_le hi h.bel.size) (by omega)).trans (h.bel.block i hi)⟩
structure Rowed (l : List Int) (n : Nat) (S : List E) : Prop where
  len : S.length = n
  up : SortedE S
  un : Unlike S
  at' : ∀ (i : Nat) (a : E), S[i]? = some a → ∃ q : Nat, q < n ∧ a = (⟨rd l (q : Int), (q : Int) + 1⟩ : E)
theorem rowed_of (l : List Int) (n : Nat) : Rowed l n (sortE (entsN l n).reverse) := by
 refine ⟨by rw [sortE_length, List.length_reverse, entsN_len], sortE_sorted _, (entsN_unlike l n).perm ((List.reverse_perm _).symm.trans (sortE_perm _).symm), ?_⟩
 intro i a h
 have h1 : a ∈ entsN l n := by
  have := List.mem_of_getElem? h
  rw [sortE_mem, List.mem_reverse] at this
  exact this
 obtain ⟨q, hq, rfl⟩ := List.mem_map.1 h1
 exact ⟨q, List.mem_range.1 hq, rfl⟩
theorem Rowed.lt {l : List Int} {n : Nat} {S : List E} (h : Rowed l n S) {i : Nat} {a b : E} (ha : S[i]? = some a) (hb : S[i + 1]? = some b) : ltE a b = true := by
 refine ltE_of_leE_ne (sorted_get h.up (Nat.lt_succ_self i) ha hb) ?_
 intro e
 have hu := h.un
 unfold Unlike List.Nodup at hu
 rw [List.pairwise_map] at hu
 obtain ⟨h1, rfl⟩ := List.getElem?_eq_some_iff.1 ha
 obtain ⟨h2, rfl⟩ := List.getElem?_eq_some_iff.1 hb
 exact List.pairwise_iff_getElem.1 hu i (i + 1) h1 h2 (Nat.lt_succ_self i) (by rw [e])
theorem Rowed.out {l : List Int} {n : Nat} {S : List E} (h : Rowed l n S) {i : Nat} {a : E} (ha : S[i]? = some a) : ((S.drop i).filter fun e => decide (e.f1 ≠ a.f1)) = S.drop (i + 1) ∧ ((S.drop i).any fun e => decide (e.f1 = a.f1)) = true := by
 obtain ⟨h1, rfl⟩ := List.getElem?_eq_some_iff.1 ha
 have e1 : S.drop i = S[i] :: S.drop (i + 1) := List.drop_eq_getElem_cons h1
 have hu : Unlike (S.drop i) := h.un.sub (List.drop_sublist _ _)
 rw [e1] at hu ⊢
 unfold Unlike at hu
 rw [List.map_cons, List.nodup_cons] at hu
 refine ⟨?_, List.any_eq_true.2 ⟨S[i], by first | exact List.mem_cons_self | (rw [e1]; exact List.mem_cons_self), by simp⟩⟩
 rw [List.filter_cons, if_neg (by simp)]
 exact filter_id (fun e he h9 => hu.1 (by rw [← h9]; exact List.mem_map_of_mem he))
theorem Rowed.first {l : List Int} {n : Nat} {S : List E} (h : Rowed l n S) {i : Nat} {a : E} (ha : S[i]? = some a) : minV (sortE (S.drop i)) = (.agg #[.int .u64 a.f0, .int .i64 a.f1], true) := by
 obtain ⟨h1, rfl⟩ := List.getElem?_eq_some_iff.1 ha
 rw [sortE_of_sorted (h.up.sublist (List.drop_sublist _ _)), List.drop_eq_getElem_cons h1]
 rfl
theorem drop_ok2 {w0 wr : World} {p : Nat} {v : Value} {bs : List Bk} {ls : List Int} {es : List E} (h : LOk w0 wr p v bs ls es) (id : Int) (hu : Unlike es) (hl : es.length ≤ 1000) :
 Calls Try.prog 19 #[.pointer (some ⟨p, 0, none⟩), .int .i64 id] wr fun x w2 => x = .returned (.bool (es.any fun e => decide (e.f1 = id))) ∧ ∃ v2 bs2, LOk w0 w2 p v2 bs2 (lvls bs2) (es.filter fun e => decide (e.f1 ≠ id)) ∧ Turn wr w2 p v v2 := by
 have h1 := (h.few hl).1
 have h2 := h.cnt
 have hd := drop_all h.good id (hu.perm h.all.symm) (by omega)
 refine (lsm_drop w0.heap.size p v bs id wr h.hat h.good (by omega) (by omega)).mono ?_
 rintro x w2 ⟨rfl, v2, hl2, ht⟩
 refine ⟨?_, v2, (dropL id bs).2, ⟨hl2, drop_good h.good id (by omega), rfl, hd.2.trans (h.all.filter _), h.turn ht⟩, ht⟩
 rw [hd.1]
 congr 2
 rw [Bool.eq_iff_iff, List.any_eq_true, List.any_eq_true]
 exact ⟨fun ⟨y, hy, h9⟩ => ⟨y, h.all.mem_iff.1 hy, h9⟩, fun ⟨y, hy, h9⟩ => ⟨y, h.all.mem_iff.2 hy, h9⟩⟩
theorem drop_ok3 {w0 wr : World} {p : Nat} {v : Value} {bs : List Bk} {ls : List Int} {es fs : List E} {r : Bool} (h : LOk w0 wr p v bs ls es) (id : Int) (hu : Unlike es) (hl : es.length ≤ 1000) (hr : (es.any fun e => decide (e.f1 = id)) = r) (hf : (es.filter fun e => decide (e.f1 ≠ id)) = fs) :
 Calls Try.prog 19 #[.pointer (some ⟨p, 0, none⟩), .int .i64 id] wr fun x w2 => x = .returned (.bool r) ∧ ∃ v2 bs2, LOk w0 w2 p v2 bs2 (lvls bs2) fs ∧ Turn wr w2 p v v2 := by
 subst hr; subst hf; exact drop_ok2 h id hu hl
theorem LOk.box_turn {w0 wr w2 : World} {p : Nat} {v v2 : Value} {bs : List Bk} {ls : List Int} {es : List E} (h : LOk w0 wr p v bs ls es) (ht : Turn wr w2 p v v2) {G : Nat} {cs : Array Value} (hG : wr.heap[G]? = some (.cells cs 28 (0, 0))) : w2.heap[G]? = some (.cells cs 28 (0, 0)) := by
 refine (ht.block G (Array.getElem?_eq_some_iff.1 hG).1 (fun e => ?_) (Kd.N_ne h.hat.row hG (by decide))).trans hG
 have h1 := h.hat.hd
 rw [← e, hG] at h1
 injection h1 with h1
 injection h1 with h1 h2
 exact absurd h2 (by decide)
theorem min_ok {w0 wr : World} {p : Nat} {v : Value} {bs : List Bk} {ls : List Int} {es : List E} (h : LOk w0 wr p v bs ls es) (hl : es.length ≤ 1000) :
 Calls Try.prog 17 #[.pointer (some ⟨p, 0, none⟩)] wr fun x w2 => x = .returned (.tuple #[(minV (sortE es)).1, .bool (minV (sortE es)).2]) ∧ Below wr.heap.size wr w2 := by
 have h1 := (h.few hl).1
 have h2 := h.cnt
 rw [← sortE_of_perm h.all]
 exact lsm_min w0.heap.size p v bs wr h.hat (by omega) (by omega)
theorem len_ok {w0 wr : World} {p : Nat} {v : Value} {bs : List Bk} {ls : List Int} {es : List E} (h : LOk w0 wr p v bs ls es) (hl : es.length ≤ 1000) :
 Calls Try.prog 11 #[.pointer (some ⟨p, 0, none⟩)] wr fun x w2 => x = .returned (.int .i64 es.length) ∧ Below wr.heap.size wr w2 := by
 have h1 := (h.few hl).1
 have h2 := h.cnt
 rw [← h2]
 exact lsm_len w0.heap.size p v bs wr h.hat (by omega) (by omega)
theorem len_ok2 {w0 wr : World} {p : Nat} {v : Value} {bs : List Bk} {ls : List Int} {es : List E} {r : Int} (h : LOk w0 wr p v bs ls es) (hl : es.length ≤ 1000) (hr : (es.length : Int) = r) :
 Calls Try.prog 11 #[.pointer (some ⟨p, 0, none⟩)] wr fun x w2 => x = .returned (.int .i64 r) ∧ Below wr.heap.size wr w2 := by subst hr; exact len_ok h hl
set_option maxRecDepth 100000 in
set_option maxHeartbeats 8000000 in
theorem lsmSorts_walk (A : Option Addr) (c : Nat) (l : List Int) (w : World) (hr : Kd.C (Kd.int .u64) w A l.length l) (hc : l.length ≤ c) :
 Calls Try.prog 5 #[.slice A l.length c] w fun e w' => e = .returned (.bool true) ∧ Below w.heap.size w w' := by
 have HR := Aside0.mk hr
 have hl63 : l.length ≤ 9223372036854775807 := hr.2.1
 clear hr
 go_enter Try.func5, Try.ntmps5
 go_wp2_with fail
 refine (new_ok w).mono ?_
 rintro y w1 ⟨rfl, hk1⟩
 have HK1 := Aside0.mk hk1
 clear hk1
 go_upto_region 4 with fail
 go_cut [4] (fun s6 wx => ∃ n : Nat, s6 = .int .i64 n ∧ n ≤ 100 ∧ n ≤ l.length ∧ Aside0 (wx = w1))
 case first =>
  by_cases h : 100 < l.length
  · have d1 : decide (100 < l.length) = true := decide_eq_true h
    have d2 : (100 : Int) < (l.length : Int) := by omega
    go_wp2_with fail
    go_meet
    exact ⟨100, rfl, Nat.le_refl _, by omega, ⟨rfl⟩⟩
  · have d1 : decide (100 < l.length) = false := decide_eq_false h
    have d2 : ¬ (100 : Int) < (l.length : Int) := by omega
    go_wp2_with fail
    go_meet
    exact ⟨l.length, rfl, by omega, Nat.le_refl _, ⟨rfl⟩⟩
 case rest =>
  obtain ⟨n, rfl, hn60, hnl, HWC⟩ := hcut
  obtain rfl := HWC.out
  clear HWC
  go_wp2_with fail
  go_loopw [5] (fun i wr => ∃ (m : Nat) (v : Value) (bs : List Bk) (es : List E), i = .int .i64 m ∧ m ≤ n ∧ Aside0 (es = (entsN l m).reverse) ∧ Aside0 (LOk w wr w.heap.size v bs (lvls bs) es)) (fun i _ => n - (intOf i).toNat)
  case atStart => exact ⟨0, _, _, [], rfl, Nat.zero_le _, ⟨rfl⟩, HK1⟩
  case round =>
   clear HK1
   obtain ⟨m, v, bs, es, rfl, hm, HES, HK⟩ := hrel
   have HEL := Aside0.mk (show es.length ≤ 1000 by rw [HES.out, List.length_reverse, entsN_len]; omega)
   by_cases hlt : m < n
   · have HRW := Aside0.mk (Kd.C_below HR.out HK.out.bel)
     obtain ⟨ad, rfl⟩ : ∃ ad, A = some ad := by
      obtain ⟨ad, e, _⟩ := HR.out.2.2 (by omega)
      exact ⟨ad, e⟩
     have y0 := Kd.foot_int HRW.out (m : Int) (by omega) (by omega)
     have HES2 := Aside0.mk (show (⟨rd l (m : Int), (m : Int) + 1⟩ : E) :: es = (entsN l (m + 1)).reverse by rw [entsN_succ, List.reverse_append, HES.out]; rfl)
     rw [Int.toNat_natCast] at y0
     generalize rd l (m : Int) = kk at y0 HES2
     have hml : m < l.length := by omega
     go_wp2_with fail
     refine (put_okA HK.out (⟨_, _⟩ : E) HEL.out).mono ?_
     rintro y w2 ⟨rfl, v2, bs2, hk2⟩
     have HK2 := Aside0.mk hk2
     clear hk2 y0
     go_wp2
     go_roundw
     case rel => exact ⟨m + 1, v2, bs2, _, by go_num, by omega, HES2, HK2⟩
     case measure => simp [intOf]; omega
   · obtain rfl : m = n := by omega
     clear hm hlt
     obtain ⟨S, hS⟩ : ∃ S, S = sortE es := ⟨_, rfl⟩
     have HRO := Aside0.mk (show Rowed l m S by rw [hS, HES.out]; exact rowed_of l m)
     have HK0 := Aside0.mk (HK.out.perm (show es.Perm S by rw [hS]; exact (sortE_perm es).symm))
     clear hS HK HES HEL
     obtain ⟨G, hG⟩ : ∃ G, G = wr.heap.size := ⟨_, rfl⟩
     have HKG := Aside0.mk (HK0.out.below (below_alloc (Below.refl wr.heap.size wr) (.cells #[.int .u64 0, .int .i64 0] 28)))
     have HG0 := Aside0.mk (heap_alloc_new wr (.cells #[.int .u64 0, .int .i64 0] 28))
     have HGB := Aside0.mk (show w.heap.size ≤ G ∧ G < (wr.alloc (.cells #[.int .u64 0, .int .i64 0] 28)).heap.size by rw [hG]; exact ⟨HK0.out.bel.size, by simp⟩)
     have HLM := Aside0.mk hnl
     have HLA0 := Aside0.mk (show (⟨0, 0⟩ : E) ∉ S from fun hm => by
      obtain ⟨i, hi, e⟩ := List.getElem_of_mem hm
      obtain ⟨q, _, e2⟩ := HRO.out.at' i _ (List.getElem?_eq_getElem hi)
      rw [e] at e2
      injection e2 with _ e2
      omega)
     go_wp2_with fail
     rw [← hG] at HG0
     simp only [← hG]
     go_loopw [7] (fun i wr => ∃ (k : Nat) (v : Value) (bs : List Bk) (la : E), i = .int .i64 k ∧ k ≤ m ∧ Aside0 (LOk w wr w.heap.size v bs (lvls bs) (S.drop k)) ∧ Aside0 (wr.heap[G]? = some (.cells #[.int .u64 la.f0, .int .i64 la.f1] 28 (0, 0)) ∧ (⟨la.f0, la.f1⟩ : E) ∉ S.drop k ∧ (∀ q, k = q + 1 → S[q]? = some la))) (fun i _ => m - (intOf i).toNat)
     case atStart => exact ⟨0, _, _, ⟨0, 0⟩, rfl, Nat.zero_le _, HKG, ⟨HG0.out, HLA0.out, by omega⟩⟩
     case round =>
      clear HK0 HKG HG0 HLA0 hG
      obtain ⟨k, v, bs, la, rfl, hk, HK, HG⟩ := hrel
      have HSL := Aside0.mk HRO.out.len
      have HEL := Aside0.mk (show (S.drop k).length ≤ 1000 by rw [List.length_drop, HSL.out]; omega)
      by_cases hlt : k < m
      · obtain ⟨e, he⟩ : ∃ e, S[k]? = some e := ⟨_, List.getElem?_eq_getElem (by rw [HSL.out]; exact hlt)⟩
        obtain ⟨q, hq, e1⟩ := HRO.out.at' k e he
        have HF := Aside0.mk (HRO.out.first he)
        have HO := Aside0.mk (HRO.out.out he)
        have HLT := Aside0.mk (show ∀ q, k = q + 1 → ltE la e = true from fun q hq => HRO.out.lt (HG.out.2.2 q hq) (by rw [← hq]; exact he))
        have HHE := Aside0.mk he
        have HE1 := Aside0.mk e1
        clear e1 he
        go_wp2_with fail
        refine (min_ok HK.out HEL.out).mono ?_
        rintro y w3 ⟨rfl, hb3⟩
        rw [HF.out]
        have HK3 := Aside0.mk (HK.out.below (below_step hb3 (below_alloc (Below.refl _ _) (.cells #[.int .u64 e.f0, .int .i64 e.f1] 28))))
        have hGw : G < wr.heap.size := (Array.getElem?_eq_some_iff.1 HG.out.1).1
        have HGG := Aside0.mk (show (w3.alloc (.cells #[.int .u64 e.f0, .int .i64 e.f1] 28)).heap[G]? = some (.cells #[.int .u64 la.f0, .int .i64 la.f1] 28 (0, 0)) from ((below_step hb3 (below_alloc (Below.refl _ _) (.cells #[.int .u64 e.f0, .int .i64 e.f1] 28))).block G hGw).trans HG.out.1)
        have HX := Aside0.mk (heap_alloc_new w3 (.cells #[.int .u64 e.f0, .int .i64 e.f1] 28))
        have HS3 := Aside0.mk (show G < w3.heap.size ∧ wr.heap.size ≤ w3.heap.size from ⟨Nat.lt_of_lt_of_le hGw hb3.size, hb3.size⟩)
        clear hb3
        go_upto_region 14 with fail
        go_cut [92] (fun s92 wx => s92 = .bool false ∧ ∃ v2 bs2, Aside0 (LOk w wx w.heap.size v2 bs2 (lvls bs2) (S.drop (k + 1))) ∧ Aside0 (wx.heap[G]? = some (.cells #[.int .u64 la.f0, .int .i64 la.f1] 28 (0, 0)) ∧ wx.heap[w3.heap.size]? = some (.cells #[.int .u64 e.f0, .int .i64 e.f1] 28 (0, 0))))
        case first =>
         have HB0 := Aside0.mk (below_drew (Below.refl (w3.alloc (.cells #[.int .u64 e.f0, .int .i64 e.f1] 28)).heap.size (w3.alloc (.cells #[.int .u64 e.f0, .int .i64 e.f1] 28))))
         have HKD := Aside0.mk (HK3.out.below HB0.out)
         have HGD := Aside0.mk ((HB0.out.block G (by have := HS3.out; simp; omega)).trans HGG.out)
         have HXD := Aside0.mk ((HB0.out.block w3.heap.size (by simp)).trans HX.out)
         obtain ⟨ad, rfl⟩ : ∃ ad, A = some ad := by
          obtain ⟨ad, e, _⟩ := HR.out.2.2 (by omega)
          exact ⟨ad, e⟩
         have e1 := HE1.out
         subst e1
         have HY : Aside0 (∀ W, Below w.heap.size w W → W.cell? (ad.add q) = some (.int .u64 (rd l (q : Int)))) := ⟨fun W hW => by have := Kd.foot_int (Kd.C_below HR.out hW) (q : Int) (by omega) (by omega); rwa [Int.toNat_natCast] at this⟩
         have y0 := HY.out _ HK3.out.bel
         generalize rd l (q : Int) = kk at *
         have x0 : (w3.alloc (.cells #[.int .u64 kk, .int .i64 ((q : Int) + 1)] 28)).cell? ⟨w3.heap.size, 0, none⟩ = some (.int .u64 kk) := by simp [World.cell?_alloc_new]
         have x1 : (w3.alloc (.cells #[.int .u64 kk, .int .i64 ((q : Int) + 1)] 28)).cell? ⟨w3.heap.size, 1, none⟩ = some (.int .i64 ((q : Int) + 1)) := by simp [World.cell?_alloc_new]
         have z0 : (w3.alloc (.cells #[.int .u64 kk, .int .i64 ((q : Int) + 1)] 28)).cell? ⟨G, 0, none⟩ = some (.int .u64 la.f0) := by simp [World.cell?, HGG.out]
         have z1 : (w3.alloc (.cells #[.int .u64 kk, .int .i64 ((q : Int) + 1)] 28)).cell? ⟨G, 1, none⟩ = some (.int .i64 la.f1) := by simp [World.cell?, HGG.out]
         have q1 : ¬ ((q : Int) + 1 < 1) := by omega
         have q2 : ¬ ((m : Int) < (q : Int) + 1) := by omega
         have q3 : IntKind.i64.wrap ((q : Int) + 1 - 1) = (q : Int) := by rw [show (q : Int) + 1 - 1 = (q : Int) by omega]; exact IntWalk.i64_in _ (by omega)
         have q7 : IntKind.i64.wrap (q : Int) = (q : Int) := IntWalk.i64_in _ (by omega)
         have q8 : decide ((q : Int) + 1 < 1) = false := decide_eq_false (by omega)
         have q9 : decide ((q : Int) + 1 > (m : Int)) = false := decide_eq_false (by omega)
         have q10 : decide ((q : Int) < 0) = false := decide_eq_false (by omega)
         have q11 : decide (m < q + 1) = false := decide_eq_false (by omega)
         have q4 : q < l.length := by omega
         have q5 : (q : Int) < (l.length : Int) := by omega
         have q6 : (0 : Int) ≤ (q : Int) := by omega
         have n1 : IntKind.i64.wrap ((m : Int) - 1) = (m : Int) - 1 := IntWalk.i64_in _ (by omega)
         have n2 : IntKind.i64.wrap ((m : Int) - 1 - (k : Int)) = (m : Int) - 1 - (k : Int) := IntWalk.i64_in _ (by omega)
         have HLN := Aside0.mk (show ((S.drop (k + 1)).length : Int) = (m : Int) - 1 - (k : Int) ∧ (S.drop (k + 1)).length ≤ 1000 by rw [List.length_drop, HSL.out]; omega)
         have HUN := Aside0.mk (HRO.out.un.sub (List.drop_sublist k S))
         by_cases hk0 : k = 0
         · have hk1 : ¬ 0 < k := by omega
           have hk2 : ¬ (0 : Int) < (k : Int) := by omega
           have hk3 : decide ((k : Int) > 0) = false := decide_eq_false (by omega)
           have hk4 : decide (0 < k) = false := decide_eq_false (by omega)
           clear hk0
           refine start_ (n := 50) (S := fun w' => w'.cell? ⟨w3.heap.size, 0, none⟩ = some (.int .u64 kk) ∧ w'.cell? ⟨w3.heap.size, 1, none⟩ = some (.int .i64 ((q : Int) + 1)) ∧ w'.cell? ⟨G, 0, none⟩ = some (.int .u64 la.f0) ∧ w'.cell? ⟨G, 1, none⟩ = some (.int .i64 la.f1) ∧ w'.cell? (ad.add q) = some (.int .u64 kk)) (ds := []) #[false, false, false, false, false, false, false, false, false, false, false, false, false, false, false, false, false, false, false, false, false, false, false, false, false, false, false, false, false, false, false, false, false, false, false, false, false, false, false, false, false, false, false, false, false, false, false, false, false, false] (by kernel_rfl) rfl rfl ⟨x0, x1, z0, z1, y0⟩ (fun hHeld => ?_)
           refine pure_ (i := 0) (N := (some 43)) (v := ?_) (a' := ?_) #[true, false, false, false, false, false, false, false, false, false, false, false, false, false, false, false, false, false, false, false, false, false, false, false, false, false, false, false, false, false, false, false, false, false, false, false, false, false, false, false, false, false, false, false, false, false, false, false, false, false] rfl rfl (by kernel_rfl) (fun _ _ _ h => h) (Or.inl ⟨by rfl, ?_⟩) ?_ ?_
           rotate_left
           · intro w'
             go_simp
             with_reducible rfl
           rotate_left
           · simp only [Act.put, List.setIfInBounds_toArray, List.set_cons_zero, List.set_cons_succ, i64_w, i32_w]
             rfl
           refine pure_ (i := 1) (N := (some 44)) (v := ?_) (a' := ?_) #[true, true, false, false, false, false, false, false, false, false, false, false, false, false, false, false, false, false, false, false, false, false, false, false, false, false, false, false, false, false, false, false, false, false, false, false, false, false, false, false, false, false, false, false, false, false, false, false, false, false] rfl rfl (by kernel_rfl) (fun _ _ _ h => h) (Or.inl ⟨by rfl, ?_⟩) ?_ ?_
           rotate_left
           · intro w'
             go_simp
             with_reducible rfl
           rotate_left
           · simp only [Act.put, List.setIfInBounds_toArray, List.set_cons_zero, List.set_cons_succ, i64_w, i32_w]
             rfl
           refine pure_ (i := 2) (N := (some 45)) (v := ?_) (a' := ?_) #[true, true, true, false, false, false, false, false, false, false, false, false, false, false, false, false, false, false, false, false, false, false, false, false, false, false, false, false, false, false, false, false, false, false, false, false, false, false, false, false, false, false, false, false, false, false, false, false, false, false] rfl rfl (by kernel_rfl) (fun _ _ _ h => h) (Or.inl ⟨by rfl, ?_⟩) ?_ ?_
           rotate_left
           · intro w'
             go_simp
             with_reducible rfl
           rotate_left
           · simp only [Act.put, List.setIfInBounds_toArray, List.set_cons_zero, List.set_cons_succ, i64_w, i32_w]
             rfl
           refine pure_ (i := 3) (N := (some 46)) (v := ?_) (a' := ?_) #[true, true, true, true, false, false, false, false, false, false, false, false, false, false, false, false, false, false, false, false, false, false, false, false, false, false, false, false, false, false, false, false, false, false, false, false, false, false, false, false, false, false, false, false, false, false, false, false, false, false] rfl rfl (by kernel_rfl) (fun _ _ _ h => h) (Or.inl ⟨by rfl, ?_⟩) ?_ ?_
           rotate_left
           · intro w'
             go_simp
             with_reducible rfl
           rotate_left
           · simp only [Act.put, List.setIfInBounds_toArray, List.set_cons_zero, List.set_cons_succ, i64_w, i32_w]
             rfl
           refine pure_ (i := 4) (N := (some 47)) (v := ?_) (a' := ?_) #[true, true, true, true, true, false, false, false, false, false, false, false, false, false, false, false, false, false, false, false, false, false, false, false, false, false, false, false, false, false, false, false, false, false, false, false, false, false, false, false, false, false, false, false, false, false, false, false, false, false] rfl rfl (by kernel_rfl) (fun _ _ _ h => h) (Or.inl ⟨by rfl, ?_⟩) ?_ ?_
           rotate_left
           · intro w'
             go_simp
             with_reducible rfl
           rotate_left
           · simp only [Act.put, List.setIfInBounds_toArray, List.set_cons_zero, List.set_cons_succ, i64_w, i32_w]
             rfl
           refine pure_ (i := 5) (N := (some 48)) (v := ?_) (a' := ?_) #[true, true, true, true, true, true, false, false, false, false, false, false, false, false, false, false, false, false, false, false, false, false, false, false, false, false, false, false, false, false, false, false, false, false, false, false, false, false, false, false, false, false, false, false, false, false, false, false, false, false] rfl rfl (by kernel_rfl) (fun _ _ _ h => h) (Or.inl ⟨by rfl, ?_⟩) ?_ ?_
           rotate_left
           · intro w'
             go_simp
             with_reducible rfl
           rotate_left
           · simp only [Act.put, List.setIfInBounds_toArray, List.set_cons_zero, List.set_cons_succ, i64_w, i32_w]
             rfl
           refine pure_ (i := 6) (N := (some 49)) (v := undef) (a' := ?_) #[true, true, true, true, true, true, true, false, false, false, false, false, false, false, false, false, false, false, false, false, false, false, false, false, false, false, false, false, false, false, false, false, false, false, false, false, false, false, false, false, false, false, false, false, false, false, false, false, false, false] rfl rfl (by kernel_rfl) (fun _ _ _ h => h) (Or.inr ⟨by rfl, rfl⟩) ?_ ?_
           rotate_left
           · simp only [Act.put, List.setIfInBounds_toArray, List.set_cons_zero, List.set_cons_succ, i64_w, i32_w]
             rfl
           refine pure_ (i := 7) (N := (some 50)) (v := undef) (a' := ?_) #[true, true, true, true, true, true, true, true, false, false, false, false, false, false, false, false, false, false, false, false, false, false, false, false, false, false, false, false, false, false, false, false, false, false, false, false, false, false, false, false, false, false, false, false, false, false, false, false, false, false] rfl rfl (by kernel_rfl) (fun _ _ _ h => h) (Or.inr ⟨by rfl, rfl⟩) ?_ ?_
           rotate_left
           · simp only [Act.put, List.setIfInBounds_toArray, List.set_cons_zero, List.set_cons_succ, i64_w, i32_w]
             rfl
           refine pure_ (i := 8) (N := (some 51)) (v := undef) (a' := ?_) #[true, true, true, true, true, true, true, true, true, false, false, false, false, false, false, false, false, false, false, false, false, false, false, false, false, false, false, false, false, false, false, false, false, false, false, false, false, false, false, false, false, false, false, false, false, false, false, false, false, false] rfl rfl (by kernel_rfl) (fun _ _ _ h => h) (Or.inr ⟨by rfl, rfl⟩) ?_ ?_
           rotate_left
           · simp only [Act.put, List.setIfInBounds_toArray, List.set_cons_zero, List.set_cons_succ, i64_w, i32_w]
             rfl
           refine pure_ (i := 9) (N := (some 52)) (v := undef) (a' := ?_) #[true, true, true, true, true, true, true, true, true, true, false, false, false, false, false, false, false, false, false, false, false, false, false, false, false, false, false, false, false, false, false, false, false, false, false, false, false, false, false, false, false, false, false, false, false, false, false, false, false, false] rfl rfl (by kernel_rfl) (fun _ _ _ h => h) (Or.inr ⟨by rfl, rfl⟩) ?_ ?_
           rotate_left
           · simp only [Act.put, List.setIfInBounds_toArray, List.set_cons_zero, List.set_cons_succ, i64_w, i32_w]
             rfl
           refine pure_ (i := 10) (N := (some 53)) (v := ?_) (a' := ?_) #[true, true, true, true, true, true, true, true, true, true, true, false, false, false, false, false, false, false, false, false, false, false, false, false, false, false, false, false, false, false, false, false, false, false, false, false, false, false, false, false, false, false, false, false, false, false, false, false, false, false] rfl rfl (by kernel_rfl) (fun _ _ _ h => h) (Or.inl ⟨by rfl, ?_⟩) ?_ ?_
           rotate_left
           · intro w'
             go_simp
             with_reducible rfl
           rotate_left
           · simp only [Act.put, List.setIfInBounds_toArray, List.set_cons_zero, List.set_cons_succ, i64_w, i32_w]
             rfl
           refine pure_ (i := 11) (N := (some 54)) (v := ?_) (a' := ?_) #[true, true, true, true, true, true, true, true, true, true, true, true, false, false, false, false, false, false, false, false, false, false, false, false, false, false, false, false, false, false, false, false, false, false, false, false, false, false, false, false, false, false, false, false, false, false, false, false, false, false] rfl rfl (by kernel_rfl) (fun _ _ _ h => h) (Or.inl ⟨by rfl, ?_⟩) ?_ ?_
           rotate_left
           · intro w'
             go_simp
             with_reducible rfl
           rotate_left
           · simp only [Act.put, List.setIfInBounds_toArray, List.set_cons_zero, List.set_cons_succ, i64_w, i32_w]
             rfl
           refine pure_ (i := 12) (N := (some 55)) (v := ?_) (a' := ?_) #[true, true, true, true, true, true, true, true, true, true, true, true, true, false, false, false, false, false, false, false, false, false, false, false, false, false, false, false, false, false, false, false, false, false, false, false, false, false, false, false, false, false, false, false, false, false, false, false, false, false] rfl rfl (by kernel_rfl) (fun _ _ _ h => h) (Or.inl ⟨by rfl, ?_⟩) ?_ ?_
           rotate_left
           · intro w'
             go_simp
             with_reducible rfl
           rotate_left
           · simp only [Act.put, List.setIfInBounds_toArray, List.set_cons_zero, List.set_cons_succ, i64_w, i32_w]
             rfl
           refine pure_ (i := 13) (N := (some 56)) (v := ?_) (a' := ?_) #[true, true, true, true, true, true, true, true, true, true, true, true, true, true, false, false, false, false, false, false, false, false, false, false, false, false, false, false, false, false, false, false, false, false, false, false, false, false, false, false, false, false, false, false, false, false, false, false, false, false] rfl rfl (by kernel_rfl) (fun _ _ _ h => h) (Or.inl ⟨by rfl, ?_⟩) ?_ ?_
           rotate_left
           · intro w'
             go_simp
             with_reducible rfl
           rotate_left
           · simp only [Act.put, List.setIfInBounds_toArray, List.set_cons_zero, List.set_cons_succ, i64_w, i32_w]
             rfl
           refine take_ (i := 14) (N := (some 57)) (v := ?_) (a' := ?_) #[true, true, true, true, true, true, true, true, true, true, true, true, true, true, true, false, false, false, false, false, false, false, false, false, false, false, false, false, false, false, false, false, false, false, false, false, false, false, false, false, false, false, false, false, false, false, false, false, false, false] rfl rfl (by kernel_rfl) (fun _ _ _ h => h) (Or.inl ⟨by rfl, ?_⟩) hHeld ?_ ?_
           rotate_left
           · rintro w' ⟨s0, s1, s2, s3, s4⟩
             go_simp
             with_reducible rfl
           rotate_left
           · simp only [Act.put, List.setIfInBounds_toArray, List.set_cons_zero, List.set_cons_succ, i64_w, i32_w]
             rfl
           refine pure_ (i := 15) (N := (some 58)) (v := ?_) (a' := ?_) #[true, true, true, true, true, true, true, true, true, true, true, true, true, true, true, true, false, false, false, false, false, false, false, false, false, false, false, false, false, false, false, false, false, false, false, false, false, false, false, false, false, false, false, false, false, false, false, false, false, false] rfl rfl (by kernel_rfl) (fun _ _ _ h => h) (Or.inl ⟨by rfl, ?_⟩) ?_ ?_
           rotate_left
           · intro w'
             go_simp
             with_reducible rfl
           rotate_left
           · simp only [Act.put, List.setIfInBounds_toArray, List.set_cons_zero, List.set_cons_succ, i64_w, i32_w]
             rfl
           refine pure_ (i := 16) (N := (some 59)) (v := ?_) (a' := ?_) #[true, true, true, true, true, true, true, true, true, true, true, true, true, true, true, true, true, false, false, false, false, false, false, false, false, false, false, false, false, false, false, false, false, false, false, false, false, false, false, false, false, false, false, false, false, false, false, false, false, false] rfl rfl (by kernel_rfl) (fun _ _ _ h => h) (Or.inl ⟨by rfl, ?_⟩) ?_ ?_
           rotate_left
           · intro w'
             go_simp
             with_reducible rfl
           rotate_left
           · simp only [Act.put, List.setIfInBounds_toArray, List.set_cons_zero, List.set_cons_succ, i64_w, i32_w]
             rfl
           refine pure_ (i := 17) (N := (some 60)) (v := ?_) (a' := ?_) #[true, true, true, true, true, true, true, true, true, true, true, true, true, true, true, true, true, true, false, false, false, false, false, false, false, false, false, false, false, false, false, false, false, false, false, false, false, false, false, false, false, false, false, false, false, false, false, false, false, false] rfl rfl (by kernel_rfl) (fun _ _ _ h => h) (Or.inl ⟨by rfl, ?_⟩) ?_ ?_
           rotate_left
           · intro w'
             go_simp
             with_reducible rfl
           rotate_left
           · simp only [Act.put, List.setIfInBounds_toArray, List.set_cons_zero, List.set_cons_succ, i64_w, i32_w]
             rfl
           refine pure_ (i := 18) (N := (some 61)) (v := ?_) (a' := ?_) #[true, true, true, true, true, true, true, true, true, true, true, true, true, true, true, true, true, true, true, false, false, false, false, false, false, false, false, false, false, false, false, false, false, false, false, false, false, false, false, false, false, false, false, false, false, false, false, false, false, false] rfl rfl (by kernel_rfl) (fun _ _ _ h => h) (Or.inl ⟨by rfl, ?_⟩) ?_ ?_
           rotate_left
           · intro w'
             go_simp
             with_reducible rfl
           rotate_left
           · simp only [Act.put, List.setIfInBounds_toArray, List.set_cons_zero, List.set_cons_succ, i64_w, i32_w]
             rfl
           refine pure_ (i := 20) (N := (some 63)) (v := ?_) (a' := ?_) #[true, true, true, true, true, true, true, true, true, true, true, true, true, true, true, true, true, true, true, false, true, false, false, false, false, false, false, false, false, false, false, false, false, false, false, false, false, false, false, false, false, false, false, false, false, false, false, false, false, false] rfl rfl (by kernel_rfl) (fun _ _ _ h => h) (Or.inl ⟨by rfl, ?_⟩) ?_ ?_
           rotate_left
           · intro w'
             go_simp
             with_reducible rfl
           rotate_left
           · simp only [Act.put, List.setIfInBounds_toArray, List.set_cons_zero, List.set_cons_succ, i64_w, i32_w]
             rfl
           refine take_ (i := 19) (N := (some 62)) (v := ?_) (a' := ?_) #[true, true, true, true, true, true, true, true, true, true, true, true, true, true, true, true, true, true, true, true, true, false, false, false, false, false, false, false, false, false, false, false, false, false, false, false, false, false, false, false, false, false, false, false, false, false, false, false, false, false] rfl rfl (by kernel_rfl) (fun _ _ _ h => h) (Or.inl ⟨by rfl, ?_⟩) hHeld ?_ ?_
           rotate_left
           · rintro w' ⟨s0, s1, s2, s3, s4⟩
             go_simp
             with_reducible rfl
           rotate_left
           · simp only [Act.put, List.setIfInBounds_toArray, List.set_cons_zero, List.set_cons_succ, i64_w, i32_w]
             rfl
           refine pure_ (i := 21) (N := (some 64)) (v := ?_) (a' := ?_) #[true, true, true, true, true, true, true, true, true, true, true, true, true, true, true, true, true, true, true, true, true, true, false, false, false, false, false, false, false, false, false, false, false, false, false, false, false, false, false, false, false, false, false, false, false, false, false, false, false, false] rfl rfl (by kernel_rfl) (fun _ _ _ h => h) (Or.inl ⟨by rfl, ?_⟩) ?_ ?_
           rotate_left
           · intro w'
             go_simp
             with_reducible rfl
           rotate_left
           · simp only [Act.put, List.setIfInBounds_toArray, List.set_cons_zero, List.set_cons_succ, i64_w, i32_w]
             rfl
           refine pure_ (i := 22) (N := (some 65)) (v := ?_) (a' := ?_) #[true, true, true, true, true, true, true, true, true, true, true, true, true, true, true, true, true, true, true, true, true, true, true, false, false, false, false, false, false, false, false, false, false, false, false, false, false, false, false, false, false, false, false, false, false, false, false, false, false, false] rfl rfl (by kernel_rfl) (fun _ _ _ h => h) (Or.inl ⟨by rfl, ?_⟩) ?_ ?_
           rotate_left
           · intro w'
             go_simp
             with_reducible rfl
           rotate_left
           · simp only [Act.put, List.setIfInBounds_toArray, List.set_cons_zero, List.set_cons_succ, i64_w, i32_w]
             rfl
           refine pure_ (i := 23) (N := (some 66)) (v := ?_) (a' := ?_) #[true, true, true, true, true, true, true, true, true, true, true, true, true, true, true, true, true, true, true, true, true, true, true, true, false, false, false, false, false, false, false, false, false, false, false, false, false, false, false, false, false, false, false, false, false, false, false, false, false, false] rfl rfl (by kernel_rfl) (fun _ _ _ h => h) (Or.inl ⟨by rfl, ?_⟩) ?_ ?_
           rotate_left
           · intro w'
             go_simp
             with_reducible rfl
           rotate_left
           · simp only [Act.put, List.setIfInBounds_toArray, List.set_cons_zero, List.set_cons_succ, i64_w, i32_w]
             rfl
           refine pure_ (i := 24) (N := (some 67)) (v := ?_) (a' := ?_) #[true, true, true, true, true, true, true, true, true, true, true, true, true, true, true, true, true, true, true, true, true, true, true, true, true, false, false, false, false, false, false, false, false, false, false, false, false, false, false, false, false, false, false, false, false, false, false, false, false, false] rfl rfl (by kernel_rfl) (fun _ _ _ h => h) (Or.inl ⟨by rfl, ?_⟩) ?_ ?_
           rotate_left
           · intro w'
             go_simp
             with_reducible rfl
           rotate_left
           · simp only [Act.put, List.setIfInBounds_toArray, List.set_cons_zero, List.set_cons_succ, i64_w, i32_w]
             rfl
           refine pure_ (i := 25) (N := (some 68)) (v := ?_) (a' := ?_) #[true, true, true, true, true, true, true, true, true, true, true, true, true, true, true, true, true, true, true, true, true, true, true, true, true, true, false, false, false, false, false, false, false, false, false, false, false, false, false, false, false, false, false, false, false, false, false, false, false, false] rfl rfl (by kernel_rfl) (fun _ _ _ h => h) (Or.inl ⟨by rfl, ?_⟩) ?_ ?_
           rotate_left
           · intro w'
             go_simp
             with_reducible rfl
           rotate_left
           · simp only [Act.put, List.setIfInBounds_toArray, List.set_cons_zero, List.set_cons_succ, i64_w, i32_w]
             rfl
           refine pure_ (i := 30) (N := (some 73)) (v := ?_) (a' := ?_) #[true, true, true, true, true, true, true, true, true, true, true, true, true, true, true, true, true, true, true, true, true, true, true, true, true, true, false, false, false, false, true, false, false, false, false, false, false, false, false, false, false, false, false, false, false, false, false, false, false, false] rfl rfl (by kernel_rfl) (fun _ _ _ h => h) (Or.inl ⟨by rfl, ?_⟩) ?_ ?_
           rotate_left
           · intro w'
             go_simp
             with_reducible rfl
           rotate_left
           · simp only [Act.put, List.setIfInBounds_toArray, List.set_cons_zero, List.set_cons_succ, i64_w, i32_w]
             rfl
           refine take_ (i := 26) (N := (some 69)) (v := ?_) (a' := ?_) #[true, true, true, true, true, true, true, true, true, true, true, true, true, true, true, true, true, true, true, true, true, true, true, true, true, true, true, false, false, false, true, false, false, false, false, false, false, false, false, false, false, false, false, false, false, false, false, false, false, false] rfl rfl (by kernel_rfl) (fun _ _ _ h => h) (Or.inl ⟨by rfl, ?_⟩) hHeld ?_ ?_
           rotate_left
           · rintro w' ⟨s0, s1, s2, s3, s4⟩
             go_simp
             with_reducible rfl
           rotate_left
           · simp only [Act.put, List.setIfInBounds_toArray, List.set_cons_zero, List.set_cons_succ, i64_w, i32_w]
             rfl
           refine pure_ (i := 27) (N := (some 70)) (v := ?_) (a' := ?_) #[true, true, true, true, true, true, true, true, true, true, true, true, true, true, true, true, true, true, true, true, true, true, true, true, true, true, true, true, false, false, true, false, false, false, false, false, false, false, false, false, false, false, false, false, false, false, false, false, false, false] rfl rfl (by kernel_rfl) (fun _ _ _ h => h) (Or.inl ⟨by rfl, ?_⟩) ?_ ?_
           rotate_left
           · intro w'
             go_simp
             with_reducible rfl
           rotate_left
           · simp only [Act.put, List.setIfInBounds_toArray, List.set_cons_zero, List.set_cons_succ, i64_w, i32_w]
             rfl
           refine pure_ (i := 28) (N := (some 71)) (v := ?_) (a' := ?_) #[true, true, true, true, true, true, true, true, true, true, true, true, true, true, true, true, true, true, true, true, true, true, true, true, true, true, true, true, true, false, true, false, false, false, false, false, false, false, false, false, false, false, false, false, false, false, false, false, false, false] rfl rfl (by kernel_rfl) (fun _ _ _ h => h) (Or.inl ⟨by rfl, ?_⟩) ?_ ?_
           rotate_left
           · intro w'
             go_simp
             with_reducible rfl
           rotate_left
           · simp only [Act.put, List.setIfInBounds_toArray, List.set_cons_zero, List.set_cons_succ, i64_w, i32_w]
             rfl
           refine take_ (i := 29) (N := (some 72)) (v := ?_) (a' := ?_) #[true, true, true, true, true, true, true, true, true, true, true, true, true, true, true, true, true, true, true, true, true, true, true, true, true, true, true, true, true, true, true, false, false, false, false, false, false, false, false, false, false, false, false, false, false, false, false, false, false, false] rfl rfl (by kernel_rfl) (fun _ _ _ h => h) (Or.inl ⟨by rfl, ?_⟩) hHeld ?_ ?_
           rotate_left
           · rintro w' ⟨s0, s1, s2, s3, s4⟩
             go_simp
             with_reducible rfl
           rotate_left
           · simp only [Act.put, List.setIfInBounds_toArray, List.set_cons_zero, List.set_cons_succ, i64_w, i32_w]
             rfl
           refine take_ (i := 31) (N := (some 74)) (v := ?_) (a' := ?_) #[true, true, true, true, true, true, true, true, true, true, true, true, true, true, true, true, true, true, true, true, true, true, true, true, true, true, true, true, true, true, true, true, false, false, false, false, false, false, false, false, false, false, false, false, false, false, false, false, false, false] rfl rfl (by kernel_rfl) (fun _ _ _ h => h) (Or.inl ⟨by rfl, ?_⟩) hHeld ?_ ?_
           rotate_left
           · rintro w' ⟨s0, s1, s2, s3, s4⟩
             go_simp
             with_reducible rfl
           rotate_left
           · simp only [Act.put, List.setIfInBounds_toArray, List.set_cons_zero, List.set_cons_succ, i64_w, i32_w]
             rfl
           refine pure_ (i := 32) (N := (some 75)) (v := ?_) (a' := ?_) #[true, true, true, true, true, true, true, true, true, true, true, true, true, true, true, true, true, true, true, true, true, true, true, true, true, true, true, true, true, true, true, true, true, false, false, false, false, false, false, false, false, false, false, false, false, false, false, false, false, false] rfl rfl (by kernel_rfl) (fun _ _ _ h => h) (Or.inl ⟨by rfl, ?_⟩) ?_ ?_
           rotate_left
           · intro w'
             go_simp
             with_reducible rfl
           rotate_left
           · simp only [Act.put, List.setIfInBounds_toArray, List.set_cons_zero, List.set_cons_succ, i64_w, i32_w]
             rfl
           refine pure_ (i := 33) (N := (some 76)) (v := ?_) (a' := ?_) #[true, true, true, true, true, true, true, true, true, true, true, true, true, true, true, true, true, true, true, true, true, true, true, true, true, true, true, true, true, true, true, true, true, true, false, false, false, false, false, false, false, false, false, false, false, false, false, false, false, false] rfl rfl (by kernel_rfl) (fun _ _ _ h => h) (Or.inl ⟨by rfl, ?_⟩) ?_ ?_
           rotate_left
           · intro w'
             go_simp
             with_reducible rfl
           rotate_left
           · simp only [Act.put, List.setIfInBounds_toArray, List.set_cons_zero, List.set_cons_succ, i64_w, i32_w]
             rfl
           refine pure_ (i := 34) (N := (some 77)) (v := ?_) (a' := ?_) #[true, true, true, true, true, true, true, true, true, true, true, true, true, true, true, true, true, true, true, true, true, true, true, true, true, true, true, true, true, true, true, true, true, true, true, false, false, false, false, false, false, false, false, false, false, false, false, false, false, false] rfl rfl (by kernel_rfl) (fun _ _ _ h => h) (Or.inl ⟨by rfl, ?_⟩) ?_ ?_
           rotate_left
           · intro w'
             go_simp
             with_reducible rfl
           rotate_left
           · simp only [Act.put, List.setIfInBounds_toArray, List.set_cons_zero, List.set_cons_succ, i64_w, i32_w]
             rfl
           refine pure_ (i := 35) (N := (some 78)) (v := ?_) (a' := ?_) #[true, true, true, true, true, true, true, true, true, true, true, true, true, true, true, true, true, true, true, true, true, true, true, true, true, true, true, true, true, true, true, true, true, true, true, true, false, false, false, false, false, false, false, false, false, false, false, false, false, false] rfl rfl (by kernel_rfl) (fun _ _ _ h => h) (Or.inl ⟨by rfl, ?_⟩) ?_ ?_
           rotate_left
           · intro w'
             go_simp
             with_reducible rfl
           rotate_left
           · simp only [Act.put, List.setIfInBounds_toArray, List.set_cons_zero, List.set_cons_succ, i64_w, i32_w]
             rfl
           refine pure_ (i := 36) (N := (some 79)) (v := ?_) (a' := ?_) #[true, true, true, true, true, true, true, true, true, true, true, true, true, true, true, true, true, true, true, true, true, true, true, true, true, true, true, true, true, true, true, true, true, true, true, true, true, false, false, false, false, false, false, false, false, false, false, false, false, false] rfl rfl (by kernel_rfl) (fun _ _ _ h => h) (Or.inl ⟨by rfl, ?_⟩) ?_ ?_
           rotate_left
           · intro w'
             go_simp
             with_reducible rfl
           rotate_left
           · simp only [Act.put, List.setIfInBounds_toArray, List.set_cons_zero, List.set_cons_succ, i64_w, i32_w]
             rfl
           refine take_ (i := 37) (N := (some 80)) (v := ?_) (a' := ?_) #[true, true, true, true, true, true, true, true, true, true, true, true, true, true, true, true, true, true, true, true, true, true, true, true, true, true, true, true, true, true, true, true, true, true, true, true, true, true, false, false, false, false, false, false, false, false, false, false, false, false] rfl rfl (by kernel_rfl) (fun _ _ _ h => h) (Or.inl ⟨by rfl, ?_⟩) hHeld ?_ ?_
           rotate_left
           · rintro w' ⟨s0, s1, s2, s3, s4⟩
             go_simp
             with_reducible rfl
           rotate_left
           · simp only [Act.put, List.setIfInBounds_toArray, List.set_cons_zero, List.set_cons_succ, i64_w, i32_w]
             rfl
           refine one_ (i := 38) (N := (some 81)) #[true, true, true, true, true, true, true, true, true, true, true, true, true, true, true, true, true, true, true, true, true, true, true, true, true, true, true, true, true, true, true, true, true, true, true, true, true, true, true, false, false, false, false, false, false, false, false, false, false, false] rfl rfl (by kernel_rfl) (by decide) (fun K hK => ?_)
           refine goes_ Try.func19 (by kernel_rfl) rfl #[.pointer (some ⟨w.heap.size, 0, none⟩), .int .i64 ((q : Int) + 1)] (by rfl) rfl rfl (by (try simp only [List.map_toArray, List.map_cons, List.map_nil]); first | done | rfl) ?_
           refine (drop_ok3 HKD.out _ HUN.out HEL.out HO.out.2 HO.out.1).mono ?_
           rintro y w6 ⟨rfl, v2, bs2, hk6, ht6⟩
           have n1_ := Aside0.mk hk6
           have n2_ := Aside0.mk (HKD.out.box_turn ht6 HGD.out)
           have n3_ := Aside0.mk (HKD.out.box_turn ht6 HXD.out)
           clear HKD HGD HXD hk6 ht6
           have HKD := n1_
           have HGD := n2_
           have HXD := n3_
           clear n1_ n2_ n3_
           refine ⟨_, rfl, ?_⟩
           refine hK.out _ _ ⟨(blk_cell HXD.out 0).trans rfl, (blk_cell HXD.out 1).trans rfl, (blk_cell HGD.out 0).trans rfl, (blk_cell HGD.out 1).trans rfl, HY.out _ HKD.out.bel⟩ (fun hHeld => ?_)
           clear hK K
           refine norm_ (a' := ?_) ?_ ?_
           rotate_left
           · show Act.put _ (some 81) _ = _
             simp only [Act.put, List.setIfInBounds_toArray, List.set_cons_zero, List.set_cons_succ, i64_w, i32_w]
             rfl
           refine pure_ (i := 39) (N := (some 82)) (v := ?_) (a' := ?_) #[true, true, true, true, true, true, true, true, true, true, true, true, true, true, true, true, true, true, true, true, true, true, true, true, true, true, true, true, true, true, true, true, true, true, true, true, true, true, true, true, false, false, false, false, false, false, false, false, false, false] rfl rfl (by kernel_rfl) (fun _ _ _ h => h) (Or.inl ⟨by rfl, ?_⟩) ?_ ?_
           rotate_left
           · intro w'
             go_simp
             with_reducible rfl
           rotate_left
           · simp only [Act.put, List.setIfInBounds_toArray, List.set_cons_zero, List.set_cons_succ, i64_w, i32_w]
             rfl
           refine pure_ (i := 40) (N := (some 83)) (v := ?_) (a' := ?_) #[true, true, true, true, true, true, true, true, true, true, true, true, true, true, true, true, true, true, true, true, true, true, true, true, true, true, true, true, true, true, true, true, true, true, true, true, true, true, true, true, true, false, false, false, false, false, false, false, false, false] rfl rfl (by kernel_rfl) (fun _ _ _ h => h) (Or.inl ⟨by rfl, ?_⟩) ?_ ?_
           rotate_left
           · intro w'
             go_simp
             with_reducible rfl
           rotate_left
           · simp only [Act.put, List.setIfInBounds_toArray, List.set_cons_zero, List.set_cons_succ, i64_w, i32_w]
             rfl
           refine pure_ (i := 41) (N := (some 84)) (v := ?_) (a' := ?_) #[true, true, true, true, true, true, true, true, true, true, true, true, true, true, true, true, true, true, true, true, true, true, true, true, true, true, true, true, true, true, true, true, true, true, true, true, true, true, true, true, true, true, false, false, false, false, false, false, false, false] rfl rfl (by kernel_rfl) (fun _ _ _ h => h) (Or.inl ⟨by rfl, ?_⟩) ?_ ?_
           rotate_left
           · intro w'
             go_simp
             with_reducible rfl
           rotate_left
           · simp only [Act.put, List.setIfInBounds_toArray, List.set_cons_zero, List.set_cons_succ, i64_w, i32_w]
             rfl
           refine pure_ (i := 42) (N := (some 85)) (v := ?_) (a' := ?_) #[true, true, true, true, true, true, true, true, true, true, true, true, true, true, true, true, true, true, true, true, true, true, true, true, true, true, true, true, true, true, true, true, true, true, true, true, true, true, true, true, true, true, true, false, false, false, false, false, false, false] rfl rfl (by kernel_rfl) (fun _ _ _ h => h) (Or.inl ⟨by rfl, ?_⟩) ?_ ?_
           rotate_left
           · intro w'
             go_simp
             with_reducible rfl
           rotate_left
           · simp only [Act.put, List.setIfInBounds_toArray, List.set_cons_zero, List.set_cons_succ, i64_w, i32_w]
             rfl
           refine pure_ (i := 44) (N := (some 87)) (v := ?_) (a' := ?_) #[true, true, true, true, true, true, true, true, true, true, true, true, true, true, true, true, true, true, true, true, true, true, true, true, true, true, true, true, true, true, true, true, true, true, true, true, true, true, true, true, true, true, true, false, true, false, false, false, false, false] rfl rfl (by kernel_rfl) (fun _ _ _ h => h) (Or.inl ⟨by rfl, ?_⟩) ?_ ?_
           rotate_left
           · intro w'
             go_simp
             with_reducible rfl
           rotate_left
           · simp only [Act.put, List.setIfInBounds_toArray, List.set_cons_zero, List.set_cons_succ, i64_w, i32_w]
             rfl
           refine pure_ (i := 45) (N := (some 88)) (v := ?_) (a' := ?_) #[true, true, true, true, true, true, true, true, true, true, true, true, true, true, true, true, true, true, true, true, true, true, true, true, true, true, true, true, true, true, true, true, true, true, true, true, true, true, true, true, true, true, true, false, true, true, false, false, false, false] rfl rfl (by kernel_rfl) (fun _ _ _ h => h) (Or.inl ⟨by rfl, ?_⟩) ?_ ?_
           rotate_left
           · intro w'
             go_simp
             with_reducible rfl
           rotate_left
           · simp only [Act.put, List.setIfInBounds_toArray, List.set_cons_zero, List.set_cons_succ, i64_w, i32_w]
             rfl
           refine pure_ (i := 46) (N := (some 89)) (v := ?_) (a' := ?_) #[true, true, true, true, true, true, true, true, true, true, true, true, true, true, true, true, true, true, true, true, true, true, true, true, true, true, true, true, true, true, true, true, true, true, true, true, true, true, true, true, true, true, true, false, true, true, true, false, false, false] rfl rfl (by kernel_rfl) (fun _ _ _ h => h) (Or.inl ⟨by rfl, ?_⟩) ?_ ?_
           rotate_left
           · intro w'
             go_simp
             with_reducible rfl
           rotate_left
           · simp only [Act.put, List.setIfInBounds_toArray, List.set_cons_zero, List.set_cons_succ, i64_w, i32_w]
             rfl
           refine pure_ (i := 47) (N := (some 90)) (v := ?_) (a' := ?_) #[true, true, true, true, true, true, true, true, true, true, true, true, true, true, true, true, true, true, true, true, true, true, true, true, true, true, true, true, true, true, true, true, true, true, true, true, true, true, true, true, true, true, true, false, true, true, true, true, false, false] rfl rfl (by kernel_rfl) (fun _ _ _ h => h) (Or.inl ⟨by rfl, ?_⟩) ?_ ?_
           rotate_left
           · intro w'
             go_simp
             with_reducible rfl
           rotate_left
           · simp only [Act.put, List.setIfInBounds_toArray, List.set_cons_zero, List.set_cons_succ, i64_w, i32_w]
             rfl
           refine one_ (i := 43) (N := (some 86)) #[true, true, true, true, true, true, true, true, true, true, true, true, true, true, true, true, true, true, true, true, true, true, true, true, true, true, true, true, true, true, true, true, true, true, true, true, true, true, true, true, true, true, true, true, true, true, true, true, false, false] rfl rfl (by kernel_rfl) (by decide) (fun K hK => ?_)
           refine goes_ Try.func11 (by kernel_rfl) rfl #[.pointer (some ⟨w.heap.size, 0, none⟩)] (by rfl) rfl rfl (by (try simp only [List.map_toArray, List.map_cons, List.map_nil]); first | done | rfl) ?_
           refine (len_ok2 HKD.out HLN.out.2 HLN.out.1).mono ?_
           rintro y w7 ⟨rfl, hb7⟩
           have n1_ := Aside0.mk (HKD.out.below hb7)
           have n2_ := Aside0.mk (blk_below HGD.out hb7)
           have n3_ := Aside0.mk (blk_below HXD.out hb7)
           clear HKD HGD HXD hb7
           have HKD := n1_
           have HGD := n2_
           have HXD := n3_
           clear n1_ n2_ n3_
           refine ⟨_, rfl, ?_⟩
           refine hK.out _ _ ⟨(blk_cell HXD.out 0).trans rfl, (blk_cell HXD.out 1).trans rfl, (blk_cell HGD.out 0).trans rfl, (blk_cell HGD.out 1).trans rfl, HY.out _ HKD.out.bel⟩ (fun hHeld => ?_)
           clear hK K
           refine norm_ (a' := ?_) ?_ ?_
           rotate_left
           · show Act.put _ (some 86) _ = _
             simp only [Act.put, List.setIfInBounds_toArray, List.set_cons_zero, List.set_cons_succ, i64_w, i32_w]
             rfl
           refine pure_ (i := 48) (N := (some 91)) (v := ?_) (a' := ?_) #[true, true, true, true, true, true, true, true, true, true, true, true, true, true, true, true, true, true, true, true, true, true, true, true, true, true, true, true, true, true, true, true, true, true, true, true, true, true, true, true, true, true, true, true, true, true, true, true, true, false] rfl rfl (by kernel_rfl) (fun _ _ _ h => h) (Or.inl ⟨by rfl, ?_⟩) ?_ ?_
           rotate_left
           · intro w'
             go_simp
             with_reducible rfl
           rotate_left
           · simp only [Act.put, List.setIfInBounds_toArray, List.set_cons_zero, List.set_cons_succ, i64_w, i32_w]
             rfl
           refine pure_ (i := 49) (N := (some 92)) (v := ?_) (a' := ?_) #[true, true, true, true, true, true, true, true, true, true, true, true, true, true, true, true, true, true, true, true, true, true, true, true, true, true, true, true, true, true, true, true, true, true, true, true, true, true, true, true, true, true, true, true, true, true, true, true, true, true] rfl rfl (by kernel_rfl) (fun _ _ _ h => h) (Or.inl ⟨by rfl, ?_⟩) ?_ ?_
           rotate_left
           · intro w'
             go_simp
             with_reducible rfl
           rotate_left
           · simp only [Act.put, List.setIfInBounds_toArray, List.set_cons_zero, List.set_cons_succ, i64_w, i32_w]
             rfl
           refine done_ (by kernel_rfl) ?_
           go_wp2_with fail
           go_meet
           exact ⟨rfl, v2, bs2, HKD, ⟨HGD.out, HXD.out⟩⟩
         · have hk1 : 0 < k := by omega
           have hk2 : (0 : Int) < (k : Int) := by omega
           have hk3 : decide ((k : Int) > 0) = true := decide_eq_true (by omega)
           have hk4 : decide (0 < k) = true := decide_eq_true (by omega)
           have HLR := Aside0.mk (show vergerref5_Less.f la.f0 la.f1 kk ((q : Int) + 1) = some true by rw [lsm_less_told]; exact congrArg some (HLT.out (k - 1) (by omega)))
           refine start_ (n := 50) (S := fun w' => w'.cell? ⟨w3.heap.size, 0, none⟩ = some (.int .u64 kk) ∧ w'.cell? ⟨w3.heap.size, 1, none⟩ = some (.int .i64 ((q : Int) + 1)) ∧ w'.cell? ⟨G, 0, none⟩ = some (.int .u64 la.f0) ∧ w'.cell? ⟨G, 1, none⟩ = some (.int .i64 la.f1) ∧ w'.cell? (ad.add q) = some (.int .u64 kk)) (ds := []) #[false, false, false, false, false, false, false, false, false, false, false, false, false, false, false, false, false, false, false, false, false, false, false, false, false, false, false, false, false, false, false, false, false, false, false, false, false, false, false, false, false, false, false, false, false, false, false, false, false, false] (by kernel_rfl) rfl rfl ⟨x0, x1, z0, z1, y0⟩ (fun hHeld => ?_)
           refine pure_ (i := 0) (N := (some 43)) (v := ?_) (a' := ?_) #[true, false, false, false, false, false, false, false, false, false, false, false, false, false, false, false, false, false, false, false, false, false, false, false, false, false, false, false, false, false, false, false, false, false, false, false, false, false, false, false, false, false, false, false, false, false, false, false, false, false] rfl rfl (by kernel_rfl) (fun _ _ _ h => h) (Or.inl ⟨by rfl, ?_⟩) ?_ ?_
           rotate_left
           · intro w'
             go_simp
             with_reducible rfl
           rotate_left
           · simp only [Act.put, List.setIfInBounds_toArray, List.set_cons_zero, List.set_cons_succ, i64_w, i32_w]
             rfl
           refine pure_ (i := 1) (N := (some 44)) (v := ?_) (a' := ?_) #[true, true, false, false, false, false, false, false, false, false, false, false, false, false, false, false, false, false, false, false, false, false, false, false, false, false, false, false, false, false, false, false, false, false, false, false, false, false, false, false, false, false, false, false, false, false, false, false, false, false] rfl rfl (by kernel_rfl) (fun _ _ _ h => h) (Or.inl ⟨by rfl, ?_⟩) ?_ ?_
           rotate_left
           · intro w'
             go_simp
             with_reducible rfl
           rotate_left
           · simp only [Act.put, List.setIfInBounds_toArray, List.set_cons_zero, List.set_cons_succ, i64_w, i32_w]
             rfl
           refine pure_ (i := 2) (N := (some 45)) (v := ?_) (a' := ?_) #[true, true, true, false, false, false, false, false, false, false, false, false, false, false, false, false, false, false, false, false, false, false, false, false, false, false, false, false, false, false, false, false, false, false, false, false, false, false, false, false, false, false, false, false, false, false, false, false, false, false] rfl rfl (by kernel_rfl) (fun _ _ _ h => h) (Or.inl ⟨by rfl, ?_⟩) ?_ ?_
           rotate_left
           · intro w'
             go_simp
             with_reducible rfl
           rotate_left
           · simp only [Act.put, List.setIfInBounds_toArray, List.set_cons_zero, List.set_cons_succ, i64_w, i32_w]
             rfl
           refine pure_ (i := 3) (N := (some 46)) (v := ?_) (a' := ?_) #[true, true, true, true, false, false, false, false, false, false, false, false, false, false, false, false, false, false, false, false, false, false, false, false, false, false, false, false, false, false, false, false, false, false, false, false, false, false, false, false, false, false, false, false, false, false, false, false, false, false] rfl rfl (by kernel_rfl) (fun _ _ _ h => h) (Or.inl ⟨by rfl, ?_⟩) ?_ ?_
           rotate_left
           · intro w'
             go_simp
             with_reducible rfl
           rotate_left
           · simp only [Act.put, List.setIfInBounds_toArray, List.set_cons_zero, List.set_cons_succ, i64_w, i32_w]
             rfl
           refine pure_ (i := 4) (N := (some 47)) (v := ?_) (a' := ?_) #[true, true, true, true, true, false, false, false, false, false, false, false, false, false, false, false, false, false, false, false, false, false, false, false, false, false, false, false, false, false, false, false, false, false, false, false, false, false, false, false, false, false, false, false, false, false, false, false, false, false] rfl rfl (by kernel_rfl) (fun _ _ _ h => h) (Or.inl ⟨by rfl, ?_⟩) ?_ ?_
           rotate_left
           · intro w'
             go_simp
             with_reducible rfl
           rotate_left
           · simp only [Act.put, List.setIfInBounds_toArray, List.set_cons_zero, List.set_cons_succ, i64_w, i32_w]
             rfl
           refine pure_ (i := 5) (N := (some 48)) (v := ?_) (a' := ?_) #[true, true, true, true, true, true, false, false, false, false, false, false, false, false, false, false, false, false, false, false, false, false, false, false, false, false, false, false, false, false, false, false, false, false, false, false, false, false, false, false, false, false, false, false, false, false, false, false, false, false] rfl rfl (by kernel_rfl) (fun _ _ _ h => h) (Or.inl ⟨by rfl, ?_⟩) ?_ ?_
           rotate_left
           · intro w'
             go_simp
             with_reducible rfl
           rotate_left
           · simp only [Act.put, List.setIfInBounds_toArray, List.set_cons_zero, List.set_cons_succ, i64_w, i32_w]
             rfl
           refine take_ (i := 6) (N := (some 49)) (v := ?_) (a' := ?_) #[true, true, true, true, true, true, true, false, false, false, false, false, false, false, false, false, false, false, false, false, false, false, false, false, false, false, false, false, false, false, false, false, false, false, false, false, false, false, false, false, false, false, false, false, false, false, false, false, false, false] rfl rfl (by kernel_rfl) (fun _ _ _ h => h) (Or.inl ⟨by rfl, ?_⟩) hHeld ?_ ?_
           rotate_left
           · rintro w' ⟨s0, s1, s2, s3, s4⟩
             go_simp
             with_reducible rfl
           rotate_left
           · simp only [Act.put, List.setIfInBounds_toArray, List.set_cons_zero, List.set_cons_succ, i64_w, i32_w]
             rfl
           refine take_ (i := 7) (N := (some 50)) (v := ?_) (a' := ?_) #[true, true, true, true, true, true, true, true, false, false, false, false, false, false, false, false, false, false, false, false, false, false, false, false, false, false, false, false, false, false, false, false, false, false, false, false, false, false, false, false, false, false, false, false, false, false, false, false, false, false] rfl rfl (by kernel_rfl) (fun _ _ _ h => h) (Or.inl ⟨by rfl, ?_⟩) hHeld ?_ ?_
           rotate_left
           · rintro w' ⟨s0, s1, s2, s3, s4⟩
             go_simp
             with_reducible rfl
           rotate_left
           · simp only [Act.put, List.setIfInBounds_toArray, List.set_cons_zero, List.set_cons_succ, i64_w, i32_w]
             rfl
           refine one_ (i := 8) (N := (some 51)) #[true, true, true, true, true, true, true, true, true, false, false, false, false, false, false, false, false, false, false, false, false, false, false, false, false, false, false, false, false, false, false, false, false, false, false, false, false, false, false, false, false, false, false, false, false, false, false, false, false, false] rfl rfl (by kernel_rfl) (by decide) (fun K hK => ?_)
           refine goes_ Try.func18 (by kernel_rfl) rfl #[.agg #[.int .u64 la.f0, .int .i64 la.f1], .agg #[.int .u64 kk, .int .i64 ((q : Int) + 1)]] (by rfl) rfl rfl (by (try simp only [List.map_toArray, List.map_cons, List.map_nil]); first | done | rfl) ?_
           refine (vergerref5_Less.calls _ _ _ _ true _ HLR.out).mono ?_
           rintro y w5 ⟨rfl, hb5⟩
           have n1_ := Aside0.mk (HKD.out.below hb5)
           have n2_ := Aside0.mk (blk_below HGD.out hb5)
           have n3_ := Aside0.mk (blk_below HXD.out hb5)
           clear HKD HGD HXD hb5
           have HKD := n1_
           have HGD := n2_
           have HXD := n3_
           clear n1_ n2_ n3_
           refine ⟨_, rfl, ?_⟩
           refine hK.out _ _ ⟨(blk_cell HXD.out 0).trans rfl, (blk_cell HXD.out 1).trans rfl, (blk_cell HGD.out 0).trans rfl, (blk_cell HGD.out 1).trans rfl, HY.out _ HKD.out.bel⟩ (fun hHeld => ?_)
           clear hK K
           refine norm_ (a' := ?_) ?_ ?_
           rotate_left
           · show Act.put _ (some 51) _ = _
             simp only [Act.put, List.setIfInBounds_toArray, List.set_cons_zero, List.set_cons_succ, i64_w, i32_w]
             rfl
           refine pure_ (i := 9) (N := (some 52)) (v := ?_) (a' := ?_) #[true, true, true, true, true, true, true, true, true, true, false, false, false, false, false, false, false, false, false, false, false, false, false, false, false, false, false, false, false, false, false, false, false, false, false, false, false, false, false, false, false, false, false, false, false, false, false, false, false, false] rfl rfl (by kernel_rfl) (fun _ _ _ h => h) (Or.inl ⟨by rfl, ?_⟩) ?_ ?_
           rotate_left
           · intro w'
             go_simp
             with_reducible rfl
           rotate_left
           · simp only [Act.put, List.setIfInBounds_toArray, List.set_cons_zero, List.set_cons_succ, i64_w, i32_w]
             rfl
           refine pure_ (i := 10) (N := (some 53)) (v := ?_) (a' := ?_) #[true, true, true, true, true, true, true, true, true, true, true, false, false, false, false, false, false, false, false, false, false, false, false, false, false, false, false, false, false, false, false, false, false, false, false, false, false, false, false, false, false, false, false, false, false, false, false, false, false, false] rfl rfl (by kernel_rfl) (fun _ _ _ h => h) (Or.inl ⟨by rfl, ?_⟩) ?_ ?_
           rotate_left
           · intro w'
             go_simp
             with_reducible rfl
           rotate_left
           · simp only [Act.put, List.setIfInBounds_toArray, List.set_cons_zero, List.set_cons_succ, i64_w, i32_w]
             rfl
           refine pure_ (i := 11) (N := (some 54)) (v := ?_) (a' := ?_) #[true, true, true, true, true, true, true, true, true, true, true, true, false, false, false, false, false, false, false, false, false, false, false, false, false, false, false, false, false, false, false, false, false, false, false, false, false, false, false, false, false, false, false, false, false, false, false, false, false, false] rfl rfl (by kernel_rfl) (fun _ _ _ h => h) (Or.inl ⟨by rfl, ?_⟩) ?_ ?_
           rotate_left
           · intro w'
             go_simp
             with_reducible rfl
           rotate_left
           · simp only [Act.put, List.setIfInBounds_toArray, List.set_cons_zero, List.set_cons_succ, i64_w, i32_w]
             rfl
           refine pure_ (i := 12) (N := (some 55)) (v := ?_) (a' := ?_) #[true, true, true, true, true, true, true, true, true, true, true, true, true, false, false, false, false, false, false, false, false, false, false, false, false, false, false, false, false, false, false, false, false, false, false, false, false, false, false, false, false, false, false, false, false, false, false, false, false, false] rfl rfl (by kernel_rfl) (fun _ _ _ h => h) (Or.inl ⟨by rfl, ?_⟩) ?_ ?_
           rotate_left
           · intro w'
             go_simp
             with_reducible rfl
           rotate_left
           · simp only [Act.put, List.setIfInBounds_toArray, List.set_cons_zero, List.set_cons_succ, i64_w, i32_w]
             rfl
           refine pure_ (i := 13) (N := (some 56)) (v := ?_) (a' := ?_) #[true, true, true, true, true, true, true, true, true, true, true, true, true, true, false, false, false, false, false, false, false, false, false, false, false, false, false, false, false, false, false, false, false, false, false, false, false, false, false, false, false, false, false, false, false, false, false, false, false, false] rfl rfl (by kernel_rfl) (fun _ _ _ h => h) (Or.inl ⟨by rfl, ?_⟩) ?_ ?_
           rotate_left
           · intro w'
             go_simp
             with_reducible rfl
           rotate_left
           · simp only [Act.put, List.setIfInBounds_toArray, List.set_cons_zero, List.set_cons_succ, i64_w, i32_w]
             rfl
           refine take_ (i := 14) (N := (some 57)) (v := ?_) (a' := ?_) #[true, true, true, true, true, true, true, true, true, true, true, true, true, true, true, false, false, false, false, false, false, false, false, false, false, false, false, false, false, false, false, false, false, false, false, false, false, false, false, false, false, false, false, false, false, false, false, false, false, false] rfl rfl (by kernel_rfl) (fun _ _ _ h => h) (Or.inl ⟨by rfl, ?_⟩) hHeld ?_ ?_
           rotate_left
           · rintro w' ⟨s0, s1, s2, s3, s4⟩
             go_simp
             with_reducible rfl
           rotate_left
           · simp only [Act.put, List.setIfInBounds_toArray, List.set_cons_zero, List.set_cons_succ, i64_w, i32_w]
             rfl
           refine pure_ (i := 15) (N := (some 58)) (v := ?_) (a' := ?_) #[true, true, true, true, true, true, true, true, true, true, true, true, true, true, true, true, false, false, false, false, false, false, false, false, false, false, false, false, false, false, false, false, false, false, false, false, false, false, false, false, false, false, false, false, false, false, false, false, false, false] rfl rfl (by kernel_rfl) (fun _ _ _ h => h) (Or.inl ⟨by rfl, ?_⟩) ?_ ?_
           rotate_left
           · intro w'
             go_simp
             with_reducible rfl
           rotate_left
           · simp only [Act.put, List.setIfInBounds_toArray, List.set_cons_zero, List.set_cons_succ, i64_w, i32_w]
             rfl
           refine pure_ (i := 16) (N := (some 59)) (v := ?_) (a' := ?_) #[true, true, true, true, true, true, true, true, true, true, true, true, true, true, true, true, true, false, false, false, false, false, false, false, false, false, false, false, false, false, false, false, false, false, false, false, false, false, false, false, false, false, false, false, false, false, false, false, false, false] rfl rfl (by kernel_rfl) (fun _ _ _ h => h) (Or.inl ⟨by rfl, ?_⟩) ?_ ?_
           rotate_left
           · intro w'
             go_simp
             with_reducible rfl
           rotate_left
           · simp only [Act.put, List.setIfInBounds_toArray, List.set_cons_zero, List.set_cons_succ, i64_w, i32_w]
             rfl
           refine pure_ (i := 17) (N := (some 60)) (v := ?_) (a' := ?_) #[true, true, true, true, true, true, true, true, true, true, true, true, true, true, true, true, true, true, false, false, false, false, false, false, false, false, false, false, false, false, false, false, false, false, false, false, false, false, false, false, false, false, false, false, false, false, false, false, false, false] rfl rfl (by kernel_rfl) (fun _ _ _ h => h) (Or.inl ⟨by rfl, ?_⟩) ?_ ?_
           rotate_left
           · intro w'
             go_simp
             with_reducible rfl
           rotate_left
           · simp only [Act.put, List.setIfInBounds_toArray, List.set_cons_zero, List.set_cons_succ, i64_w, i32_w]
             rfl
           refine pure_ (i := 18) (N := (some 61)) (v := ?_) (a' := ?_) #[true, true, true, true, true, true, true, true, true, true, true, true, true, true, true, true, true, true, true, false, false, false, false, false, false, false, false, false, false, false, false, false, false, false, false, false, false, false, false, false, false, false, false, false, false, false, false, false, false, false] rfl rfl (by kernel_rfl) (fun _ _ _ h => h) (Or.inl ⟨by rfl, ?_⟩) ?_ ?_
           rotate_left
           · intro w'
             go_simp
             with_reducible rfl
           rotate_left
           · simp only [Act.put, List.setIfInBounds_toArray, List.set_cons_zero, List.set_cons_succ, i64_w, i32_w]
             rfl
           refine pure_ (i := 20) (N := (some 63)) (v := ?_) (a' := ?_) #[true, true, true, true, true, true, true, true, true, true, true, true, true, true, true, true, true, true, true, false, true, false, false, false, false, false, false, false, false, false, false, false, false, false, false, false, false, false, false, false, false, false, false, false, false, false, false, false, false, false] rfl rfl (by kernel_rfl) (fun _ _ _ h => h) (Or.inl ⟨by rfl, ?_⟩) ?_ ?_
           rotate_left
           · intro w'
             go_simp
             with_reducible rfl
           rotate_left
           · simp only [Act.put, List.setIfInBounds_toArray, List.set_cons_zero, List.set_cons_succ, i64_w, i32_w]
             rfl
           refine take_ (i := 19) (N := (some 62)) (v := ?_) (a' := ?_) #[true, true, true, true, true, true, true, true, true, true, true, true, true, true, true, true, true, true, true, true, true, false, false, false, false, false, false, false, false, false, false, false, false, false, false, false, false, false, false, false, false, false, false, false, false, false, false, false, false, false] rfl rfl (by kernel_rfl) (fun _ _ _ h => h) (Or.inl ⟨by rfl, ?_⟩) hHeld ?_ ?_
           rotate_left
           · rintro w' ⟨s0, s1, s2, s3, s4⟩
             go_simp
             with_reducible rfl
           rotate_left
           · simp only [Act.put, List.setIfInBounds_toArray, List.set_cons_zero, List.set_cons_succ, i64_w, i32_w]
             rfl
           refine pure_ (i := 21) (N := (some 64)) (v := ?_) (a' := ?_) #[true, true, true, true, true, true, true, true, true, true, true, true, true, true, true, true, true, true, true, true, true, true, false, false, false, false, false, false, false, false, false, false, false, false, false, false, false, false, false, false, false, false, false, false, false, false, false, false, false, false] rfl rfl (by kernel_rfl) (fun _ _ _ h => h) (Or.inl ⟨by rfl, ?_⟩) ?_ ?_
           rotate_left
           · intro w'
             go_simp
             with_reducible rfl
           rotate_left
           · simp only [Act.put, List.setIfInBounds_toArray, List.set_cons_zero, List.set_cons_succ, i64_w, i32_w]
             rfl
           refine pure_ (i := 22) (N := (some 65)) (v := ?_) (a' := ?_) #[true, true, true, true, true, true, true, true, true, true, true, true, true, true, true, true, true, true, true, true, true, true, true, false, false, false, false, false, false, false, false, false, false, false, false, false, false, false, false, false, false, false, false, false, false, false, false, false, false, false] rfl rfl (by kernel_rfl) (fun _ _ _ h => h) (Or.inl ⟨by rfl, ?_⟩) ?_ ?_
           rotate_left
           · intro w'
             go_simp
             with_reducible rfl
           rotate_left
           · simp only [Act.put, List.setIfInBounds_toArray, List.set_cons_zero, List.set_cons_succ, i64_w, i32_w]
             rfl
           refine pure_ (i := 23) (N := (some 66)) (v := ?_) (a' := ?_) #[true, true, true, true, true, true, true, true, true, true, true, true, true, true, true, true, true, true, true, true, true, true, true, true, false, false, false, false, false, false, false, false, false, false, false, false, false, false, false, false, false, false, false, false, false, false, false, false, false, false] rfl rfl (by kernel_rfl) (fun _ _ _ h => h) (Or.inl ⟨by rfl, ?_⟩) ?_ ?_
           rotate_left
           · intro w'
             go_simp
             with_reducible rfl
           rotate_left
           · simp only [Act.put, List.setIfInBounds_toArray, List.set_cons_zero, List.set_cons_succ, i64_w, i32_w]
             rfl
           refine pure_ (i := 24) (N := (some 67)) (v := ?_) (a' := ?_) #[true, true, true, true, true, true, true, true, true, true, true, true, true, true, true, true, true, true, true, true, true, true, true, true, true, false, false, false, false, false, false, false, false, false, false, false, false, false, false, false, false, false, false, false, false, false, false, false, false, false] rfl rfl (by kernel_rfl) (fun _ _ _ h => h) (Or.inl ⟨by rfl, ?_⟩) ?_ ?_
           rotate_left
           · intro w'
             go_simp
             with_reducible rfl
           rotate_left
           · simp only [Act.put, List.setIfInBounds_toArray, List.set_cons_zero, List.set_cons_succ, i64_w, i32_w]
             rfl
           refine pure_ (i := 25) (N := (some 68)) (v := ?_) (a' := ?_) #[true, true, true, true, true, true, true, true, true, true, true, true, true, true, true, true, true, true, true, true, true, true, true, true, true, true, false, false, false, false, false, false, false, false, false, false, false, false, false, false, false, false, false, false, false, false, false, false, false, false] rfl rfl (by kernel_rfl) (fun _ _ _ h => h) (Or.inl ⟨by rfl, ?_⟩) ?_ ?_
           rotate_left
           · intro w'
             go_simp
             with_reducible rfl
           rotate_left
           · simp only [Act.put, List.setIfInBounds_toArray, List.set_cons_zero, List.set_cons_succ, i64_w, i32_w]
             rfl
           refine pure_ (i := 30) (N := (some 73)) (v := ?_) (a' := ?_) #[true, true, true, true, true, true, true, true, true, true, true, true, true, true, true, true, true, true, true, true, true, true, true, true, true, true, false, false, false, false, true, false, false, false, false, false, false, false, false, false, false, false, false, false, false, false, false, false, false, false] rfl rfl (by kernel_rfl) (fun _ _ _ h => h) (Or.inl ⟨by rfl, ?_⟩) ?_ ?_
           rotate_left
           · intro w'
             go_simp
             with_reducible rfl
           rotate_left
           · simp only [Act.put, List.setIfInBounds_toArray, List.set_cons_zero, List.set_cons_succ, i64_w, i32_w]
             rfl
           refine take_ (i := 26) (N := (some 69)) (v := ?_) (a' := ?_) #[true, true, true, true, true, true, true, true, true, true, true, true, true, true, true, true, true, true, true, true, true, true, true, true, true, true, true, false, false, false, true, false, false, false, false, false, false, false, false, false, false, false, false, false, false, false, false, false, false, false] rfl rfl (by kernel_rfl) (fun _ _ _ h => h) (Or.inl ⟨by rfl, ?_⟩) hHeld ?_ ?_
           rotate_left
           · rintro w' ⟨s0, s1, s2, s3, s4⟩
             go_simp
             with_reducible rfl
           rotate_left
           · simp only [Act.put, List.setIfInBounds_toArray, List.set_cons_zero, List.set_cons_succ, i64_w, i32_w]
             rfl
           refine pure_ (i := 27) (N := (some 70)) (v := ?_) (a' := ?_) #[true, true, true, true, true, true, true, true, true, true, true, true, true, true, true, true, true, true, true, true, true, true, true, true, true, true, true, true, false, false, true, false, false, false, false, false, false, false, false, false, false, false, false, false, false, false, false, false, false, false] rfl rfl (by kernel_rfl) (fun _ _ _ h => h) (Or.inl ⟨by rfl, ?_⟩) ?_ ?_
           rotate_left
           · intro w'
             go_simp
             with_reducible rfl
           rotate_left
           · simp only [Act.put, List.setIfInBounds_toArray, List.set_cons_zero, List.set_cons_succ, i64_w, i32_w]
             rfl
           refine pure_ (i := 28) (N := (some 71)) (v := ?_) (a' := ?_) #[true, true, true, true, true, true, true, true, true, true, true, true, true, true, true, true, true, true, true, true, true, true, true, true, true, true, true, true, true, false, true, false, false, false, false, false, false, false, false, false, false, false, false, false, false, false, false, false, false, false] rfl rfl (by kernel_rfl) (fun _ _ _ h => h) (Or.inl ⟨by rfl, ?_⟩) ?_ ?_
           rotate_left
           · intro w'
             go_simp
             with_reducible rfl
           rotate_left
           · simp only [Act.put, List.setIfInBounds_toArray, List.set_cons_zero, List.set_cons_succ, i64_w, i32_w]
             rfl
           refine take_ (i := 29) (N := (some 72)) (v := ?_) (a' := ?_) #[true, true, true, true, true, true, true, true, true, true, true, true, true, true, true, true, true, true, true, true, true, true, true, true, true, true, true, true, true, true, true, false, false, false, false, false, false, false, false, false, false, false, false, false, false, false, false, false, false, false] rfl rfl (by kernel_rfl) (fun _ _ _ h => h) (Or.inl ⟨by rfl, ?_⟩) hHeld ?_ ?_
           rotate_left
           · rintro w' ⟨s0, s1, s2, s3, s4⟩
             go_simp
             with_reducible rfl
           rotate_left
           · simp only [Act.put, List.setIfInBounds_toArray, List.set_cons_zero, List.set_cons_succ, i64_w, i32_w]
             rfl
           refine take_ (i := 31) (N := (some 74)) (v := ?_) (a' := ?_) #[true, true, true, true, true, true, true, true, true, true, true, true, true, true, true, true, true, true, true, true, true, true, true, true, true, true, true, true, true, true, true, true, false, false, false, false, false, false, false, false, false, false, false, false, false, false, false, false, false, false] rfl rfl (by kernel_rfl) (fun _ _ _ h => h) (Or.inl ⟨by rfl, ?_⟩) hHeld ?_ ?_
           rotate_left
           · rintro w' ⟨s0, s1, s2, s3, s4⟩
             go_simp
             with_reducible rfl
           rotate_left
           · simp only [Act.put, List.setIfInBounds_toArray, List.set_cons_zero, List.set_cons_succ, i64_w, i32_w]
             rfl
           refine pure_ (i := 32) (N := (some 75)) (v := ?_) (a' := ?_) #[true, true, true, true, true, true, true, true, true, true, true, true, true, true, true, true, true, true, true, true, true, true, true, true, true, true, true, true, true, true, true, true, true, false, false, false, false, false, false, false, false, false, false, false, false, false, false, false, false, false] rfl rfl (by kernel_rfl) (fun _ _ _ h => h) (Or.inl ⟨by rfl, ?_⟩) ?_ ?_
           rotate_left
           · intro w'
             go_simp
             with_reducible rfl
           rotate_left
           · simp only [Act.put, List.setIfInBounds_toArray, List.set_cons_zero, List.set_cons_succ, i64_w, i32_w]
             rfl
           refine pure_ (i := 33) (N := (some 76)) (v := ?_) (a' := ?_) #[true, true, true, true, true, true, true, true, true, true, true, true, true, true, true, true, true, true, true, true, true, true, true, true, true, true, true, true, true, true, true, true, true, true, false, false, false, false, false, false, false, false, false, false, false, false, false, false, false, false] rfl rfl (by kernel_rfl) (fun _ _ _ h => h) (Or.inl ⟨by rfl, ?_⟩) ?_ ?_
           rotate_left
           · intro w'
             go_simp
             with_reducible rfl
           rotate_left
           · simp only [Act.put, List.setIfInBounds_toArray, List.set_cons_zero, List.set_cons_succ, i64_w, i32_w]
             rfl
           refine pure_ (i := 34) (N := (some 77)) (v := ?_) (a' := ?_) #[true, true, true, true, true, true, true, true, true, true, true, true, true, true, true, true, true, true, true, true, true, true, true, true, true, true, true, true, true, true, true, true, true, true, true, false, false, false, false, false, false, false, false, false, false, false, false, false, false, false] rfl rfl (by kernel_rfl) (fun _ _ _ h => h) (Or.inl ⟨by rfl, ?_⟩) ?_ ?_
           rotate_left
           · intro w'
             go_simp
             with_reducible rfl
           rotate_left
           · simp only [Act.put, List.setIfInBounds_toArray, List.set_cons_zero, List.set_cons_succ, i64_w, i32_w]
             rfl
           refine pure_ (i := 35) (N := (some 78)) (v := ?_) (a' := ?_) #[true, true, true, true, true, true, true, true, true, true, true, true, true, true, true, true, true, true, true, true, true, true, true, true, true, true, true, true, true, true, true, true, true, true, true, true, false, false, false, false, false, false, false, false, false, false, false, false, false, false] rfl rfl (by kernel_rfl) (fun _ _ _ h => h) (Or.inl ⟨by rfl, ?_⟩) ?_ ?_
           rotate_left
           · intro w'
             go_simp
             with_reducible rfl
           rotate_left
           · simp only [Act.put, List.setIfInBounds_toArray, List.set_cons_zero, List.set_cons_succ, i64_w, i32_w]
             rfl
           refine pure_ (i := 36) (N := (some 79)) (v := ?_) (a' := ?_) #[true, true, true, true, true, true, true, true, true, true, true, true, true, true, true, true, true, true, true, true, true, true, true, true, true, true, true, true, true, true, true, true, true, true, true, true, true, false, false, false, false, false, false, false, false, false, false, false, false, false] rfl rfl (by kernel_rfl) (fun _ _ _ h => h) (Or.inl ⟨by rfl, ?_⟩) ?_ ?_
           rotate_left
           · intro w'
             go_simp
             with_reducible rfl
           rotate_left
           · simp only [Act.put, List.setIfInBounds_toArray, List.set_cons_zero, List.set_cons_succ, i64_w, i32_w]
             rfl
           refine take_ (i := 37) (N := (some 80)) (v := ?_) (a' := ?_) #[true, true, true, true, true, true, true, true, true, true, true, true, true, true, true, true, true, true, true, true, true, true, true, true, true, true, true, true, true, true, true, true, true, true, true, true, true, true, false, false, false, false, false, false, false, false, false, false, false, false] rfl rfl (by kernel_rfl) (fun _ _ _ h => h) (Or.inl ⟨by rfl, ?_⟩) hHeld ?_ ?_
           rotate_left
           · rintro w' ⟨s0, s1, s2, s3, s4⟩
             go_simp
             with_reducible rfl
           rotate_left
           · simp only [Act.put, List.setIfInBounds_toArray, List.set_cons_zero, List.set_cons_succ, i64_w, i32_w]
             rfl
           refine one_ (i := 38) (N := (some 81)) #[true, true, true, true, true, true, true, true, true, true, true, true, true, true, true, true, true, true, true, true, true, true, true, true, true, true, true, true, true, true, true, true, true, true, true, true, true, true, true, false, false, false, false, false, false, false, false, false, false, false] rfl rfl (by kernel_rfl) (by decide) (fun K hK => ?_)
           refine goes_ Try.func19 (by kernel_rfl) rfl #[.pointer (some ⟨w.heap.size, 0, none⟩), .int .i64 ((q : Int) + 1)] (by rfl) rfl rfl (by (try simp only [List.map_toArray, List.map_cons, List.map_nil]); first | done | rfl) ?_
           refine (drop_ok3 HKD.out _ HUN.out HEL.out HO.out.2 HO.out.1).mono ?_
           rintro y w6 ⟨rfl, v2, bs2, hk6, ht6⟩
           have n1_ := Aside0.mk hk6
           have n2_ := Aside0.mk (HKD.out.box_turn ht6 HGD.out)
           have n3_ := Aside0.mk (HKD.out.box_turn ht6 HXD.out)
           clear HKD HGD HXD hk6 ht6
           have HKD := n1_
           have HGD := n2_
           have HXD := n3_
           clear n1_ n2_ n3_
           refine ⟨_, rfl, ?_⟩
           refine hK.out _ _ ⟨(blk_cell HXD.out 0).trans rfl, (blk_cell HXD.out 1).trans rfl, (blk_cell HGD.out 0).trans rfl, (blk_cell HGD.out 1).trans rfl, HY.out _ HKD.out.bel⟩ (fun hHeld => ?_)
           clear hK K
           refine norm_ (a' := ?_) ?_ ?_
           rotate_left
           · show Act.put _ (some 81) _ = _
             simp only [Act.put, List.setIfInBounds_toArray, List.set_cons_zero, List.set_cons_succ, i64_w, i32_w]
             rfl
           refine pure_ (i := 39) (N := (some 82)) (v := ?_) (a' := ?_) #[true, true, true, true, true, true, true, true, true, true, true, true, true, true, true, true, true, true, true, true, true, true, true, true, true, true, true, true, true, true, true, true, true, true, true, true, true, true, true, true, false, false, false, false, false, false, false, false, false, false] rfl rfl (by kernel_rfl) (fun _ _ _ h => h) (Or.inl ⟨by rfl, ?_⟩) ?_ ?_
           rotate_left
           · intro w'
             go_simp
             with_reducible rfl
           rotate_left
           · simp only [Act.put, List.setIfInBounds_toArray, List.set_cons_zero, List.set_cons_succ, i64_w, i32_w]
             rfl
           refine pure_ (i := 40) (N := (some 83)) (v := ?_) (a' := ?_) #[true, true, true, true, true, true, true, true, true, true, true, true, true, true, true, true, true, true, true, true, true, true, true, true, true, true, true, true, true, true, true, true, true, true, true, true, true, true, true, true, true, false, false, false, false, false, false, false, false, false] rfl rfl (by kernel_rfl) (fun _ _ _ h => h) (Or.inl ⟨by rfl, ?_⟩) ?_ ?_
           rotate_left
           · intro w'
             go_simp
             with_reducible rfl
           rotate_left
           · simp only [Act.put, List.setIfInBounds_toArray, List.set_cons_zero, List.set_cons_succ, i64_w, i32_w]
             rfl
           refine pure_ (i := 41) (N := (some 84)) (v := ?_) (a' := ?_) #[true, true, true, true, true, true, true, true, true, true, true, true, true, true, true, true, true, true, true, true, true, true, true, true, true, true, true, true, true, true, true, true, true, true, true, true, true, true, true, true, true, true, false, false, false, false, false, false, false, false] rfl rfl (by kernel_rfl) (fun _ _ _ h => h) (Or.inl ⟨by rfl, ?_⟩) ?_ ?_
           rotate_left
           · intro w'
             go_simp
             with_reducible rfl
           rotate_left
           · simp only [Act.put, List.setIfInBounds_toArray, List.set_cons_zero, List.set_cons_succ, i64_w, i32_w]
             rfl
           refine pure_ (i := 42) (N := (some 85)) (v := ?_) (a' := ?_) #[true, true, true, true, true, true, true, true, true, true, true, true, true, true, true, true, true, true, true, true, true, true, true, true, true, true, true, true, true, true, true, true, true, true, true, true, true, true, true, true, true, true, true, false, false, false, false, false, false, false] rfl rfl (by kernel_rfl) (fun _ _ _ h => h) (Or.inl ⟨by rfl, ?_⟩) ?_ ?_
           rotate_left
           · intro w'
             go_simp
             with_reducible rfl
           rotate_left
           · simp only [Act.put, List.setIfInBounds_toArray, List.set_cons_zero, List.set_cons_succ, i64_w, i32_w]
             rfl
           refine pure_ (i := 44) (N := (some 87)) (v := ?_) (a' := ?_) #[true, true, true, true, true, true, true, true, true, true, true, true, true, true, true, true, true, true, true, true, true, true, true, true, true, true, true, true, true, true, true, true, true, true, true, true, true, true, true, true, true, true, true, false, true, false, false, false, false, false] rfl rfl (by kernel_rfl) (fun _ _ _ h => h) (Or.inl ⟨by rfl, ?_⟩) ?_ ?_
           rotate_left
           · intro w'
             go_simp
             with_reducible rfl
           rotate_left
           · simp only [Act.put, List.setIfInBounds_toArray, List.set_cons_zero, List.set_cons_succ, i64_w, i32_w]
             rfl
           refine pure_ (i := 45) (N := (some 88)) (v := ?_) (a' := ?_) #[true, true, true, true, true, true, true, true, true, true, true, true, true, true, true, true, true, true, true, true, true, true, true, true, true, true, true, true, true, true, true, true, true, true, true, true, true, true, true, true, true, true, true, false, true, true, false, false, false, false] rfl rfl (by kernel_rfl) (fun _ _ _ h => h) (Or.inl ⟨by rfl, ?_⟩) ?_ ?_
           rotate_left
           · intro w'
             go_simp
             with_reducible rfl
           rotate_left
           · simp only [Act.put, List.setIfInBounds_toArray, List.set_cons_zero, List.set_cons_succ, i64_w, i32_w]
             rfl
           refine pure_ (i := 46) (N := (some 89)) (v := ?_) (a' := ?_) #[true, true, true, true, true, true, true, true, true, true, true, true, true, true, true, true, true, true, true, true, true, true, true, true, true, true, true, true, true, true, true, true, true, true, true, true, true, true, true, true, true, true, true, false, true, true, true, false, false, false] rfl rfl (by kernel_rfl) (fun _ _ _ h => h) (Or.inl ⟨by rfl, ?_⟩) ?_ ?_
           rotate_left
           · intro w'
             go_simp
             with_reducible rfl
           rotate_left
           · simp only [Act.put, List.setIfInBounds_toArray, List.set_cons_zero, List.set_cons_succ, i64_w, i32_w]
             rfl
           refine pure_ (i := 47) (N := (some 90)) (v := ?_) (a' := ?_) #[true, true, true, true, true, true, true, true, true, true, true, true, true, true, true, true, true, true, true, true, true, true, true, true, true, true, true, true, true, true, true, true, true, true, true, true, true, true, true, true, true, true, true, false, true, true, true, true, false, false] rfl rfl (by kernel_rfl) (fun _ _ _ h => h) (Or.inl ⟨by rfl, ?_⟩) ?_ ?_
           rotate_left
           · intro w'
             go_simp
             with_reducible rfl
           rotate_left
           · simp only [Act.put, List.setIfInBounds_toArray, List.set_cons_zero, List.set_cons_succ, i64_w, i32_w]
             rfl
           refine one_ (i := 43) (N := (some 86)) #[true, true, true, true, true, true, true, true, true, true, true, true, true, true, true, true, true, true, true, true, true, true, true, true, true, true, true, true, true, true, true, true, true, true, true, true, true, true, true, true, true, true, true, true, true, true, true, true, false, false] rfl rfl (by kernel_rfl) (by decide) (fun K hK => ?_)
           refine goes_ Try.func11 (by kernel_rfl) rfl #[.pointer (some ⟨w.heap.size, 0, none⟩)] (by rfl) rfl rfl (by (try simp only [List.map_toArray, List.map_cons, List.map_nil]); first | done | rfl) ?_
           refine (len_ok2 HKD.out HLN.out.2 HLN.out.1).mono ?_
           rintro y w7 ⟨rfl, hb7⟩
           have n1_ := Aside0.mk (HKD.out.below hb7)
           have n2_ := Aside0.mk (blk_below HGD.out hb7)
           have n3_ := Aside0.mk (blk_below HXD.out hb7)
           clear HKD HGD HXD hb7
           have HKD := n1_
           have HGD := n2_
           have HXD := n3_
           clear n1_ n2_ n3_
           refine ⟨_, rfl, ?_⟩
           refine hK.out _ _ ⟨(blk_cell HXD.out 0).trans rfl, (blk_cell HXD.out 1).trans rfl, (blk_cell HGD.out 0).trans rfl, (blk_cell HGD.out 1).trans rfl, HY.out _ HKD.out.bel⟩ (fun hHeld => ?_)
           clear hK K
           refine norm_ (a' := ?_) ?_ ?_
           rotate_left
           · show Act.put _ (some 86) _ = _
             simp only [Act.put, List.setIfInBounds_toArray, List.set_cons_zero, List.set_cons_succ, i64_w, i32_w]
             rfl
           refine pure_ (i := 48) (N := (some 91)) (v := ?_) (a' := ?_) #[true, true, true, true, true, true, true, true, true, true, true, true, true, true, true, true, true, true, true, true, true, true, true, true, true, true, true, true, true, true, true, true, true, true, true, true, true, true, true, true, true, true, true, true, true, true, true, true, true, false] rfl rfl (by kernel_rfl) (fun _ _ _ h => h) (Or.inl ⟨by rfl, ?_⟩) ?_ ?_
           rotate_left
           · intro w'
             go_simp
             with_reducible rfl
           rotate_left
           · simp only [Act.put, List.setIfInBounds_toArray, List.set_cons_zero, List.set_cons_succ, i64_w, i32_w]
             rfl
           refine pure_ (i := 49) (N := (some 92)) (v := ?_) (a' := ?_) #[true, true, true, true, true, true, true, true, true, true, true, true, true, true, true, true, true, true, true, true, true, true, true, true, true, true, true, true, true, true, true, true, true, true, true, true, true, true, true, true, true, true, true, true, true, true, true, true, true, true] rfl rfl (by kernel_rfl) (fun _ _ _ h => h) (Or.inl ⟨by rfl, ?_⟩) ?_ ?_
           rotate_left
           · intro w'
             go_simp
             with_reducible rfl
           rotate_left
           · simp only [Act.put, List.setIfInBounds_toArray, List.set_cons_zero, List.set_cons_succ, i64_w, i32_w]
             rfl
           refine done_ (by kernel_rfl) ?_
           go_wp2_with fail
           go_meet
           exact ⟨rfl, v2, bs2, HKD, ⟨HGD.out, HXD.out⟩⟩
        case rest =>
         obtain ⟨rfl, v2, bs2, HK2, HG2⟩ := hcut
         have hx := HG2.out.2
         have hg := HG2.out.1
         have x0 : wc.cell? ⟨w3.heap.size, 0, none⟩ = some (.int .u64 e.f0) := by simp [World.cell?, hx]
         have x1 : wc.cell? ⟨w3.heap.size, 1, none⟩ = some (.int .i64 e.f1) := by simp [World.cell?, hx]
         have z0 : wc.cell? ⟨G, 0, none⟩ = some (.int .u64 la.f0) := by simp [World.cell?, hg]
         have z1 : wc.cell? ⟨G, 1, none⟩ = some (.int .i64 la.f1) := by simp [World.cell?, hg]
         have f0 : wc.frozen? ⟨G, 0, none⟩ = false := by simp [World.frozen?, hg]
         have f1 : wc.frozen? ⟨G, 1, none⟩ = false := by simp [World.frozen?, hg]
         have HLN := Aside0.mk (show (⟨la.f0, la.f1⟩ : E) ∉ S.drop (k + 1) from fun hm => HG.out.2.1 (by
          rw [show S.drop (k + 1) = (S.drop k).drop 1 by rw [List.drop_drop]] at hm
          exact List.mem_of_mem_drop hm))
         have HKL := Aside0.mk (HK2.out.lay (w2 := (wc.setCell ⟨G, 0, none⟩ (.int .u64 e.f0)).setCell ⟨G, 1, none⟩ (.int .i64 e.f1)) hg HLN.out HGB.out.1 (by simp) rfl rfl rfl (fun k hk hne => (Below.heap_setCell _ ⟨G, 1, none⟩ _ k hne).trans (Below.heap_setCell _ ⟨G, 0, none⟩ _ k hne)))
         have HGN := Aside0.mk (show ((wc.setCell ⟨G, 0, none⟩ (.int .u64 e.f0)).setCell ⟨G, 1, none⟩ (.int .i64 e.f1)).heap[G]? = some (.cells #[.int .u64 e.f0, .int .i64 e.f1] 28 (0, 0)) from blk_put (blk_put hg 0 _ rfl) 1 _ rfl)
         have HEN := Aside0.mk (show (⟨e.f0, e.f1⟩ : E) ∉ S.drop (k + 1) from fun hm => by
          have h2 := HO.out.1
          rw [← h2] at hm
          have := (List.mem_filter.1 hm).2
          simp at this)
         clear hx hg
         go_wp2
         go_roundw
         case rel => exact ⟨k + 1, v2, bs2, e, by go_num, by omega, HKL, ⟨HGN.out, HEN.out, fun q2 hq2 => by rw [show q2 = k by omega]; exact HHE.out⟩⟩
         case measure => simp [intOf]; omega
      · obtain rfl : k = m := by omega
        have HD0 := Aside0.mk (show S.drop k = [] from List.drop_eq_nil_of_le (by rw [HSL.out]; exact Nat.le_refl _))
        have HK1 := HK
        rw [HD0.out] at HK1
        clear HK hk hlt
        go_wp2_with fail
        refine (min_ok HK1.out (by simp)).mono ?_
        rintro y w3 ⟨rfl, hb3⟩
        rw [sortE_nil]
        rw [show minV ([] : List E) = (.agg #[.int .u64 0, .int .i64 0], false) from rfl]
        have HK3 := Aside0.mk (HK1.out.below (below_step hb3 (below_alloc (Below.refl _ _) (.cells #[.int .u64 0, .int .i64 0] 28))))
        have hbn : bs = [] := by
         have h1 := HK3.out.cnt
         cases bs with
         | nil => rfl
         | cons b t =>
          have := (HK3.out.good.snd b (by simp)).pos
          rw [allB_cons, List.length_append, List.length_nil] at h1
          omega
        subst hbn
        clear hb3
        go_wp2_with fail
        refine (lsm_levels w.heap.size w.heap.size _ [] _ HK3.out.hat (by simp)).mono ?_
        rintro x w4 ⟨v4, rfl, hv4, hb4⟩
        obtain ⟨A4, c4, e4⟩ := Kd.V_slice hv4
        simp only [List.map_nil, List.length_nil] at e4
        subst e4
        have HB4 := Aside0.mk (HK3.out.below hb4).bel
        clear hv4 hb4
        go_wp2_with fail
        refine (awake7 _).mono ?_
        rintro y w10 ⟨rfl, hb10⟩
        have HB10 := Aside0.mk (below_then HB4.out HB4.out.size hb10)
        clear hb10
        go_wp2
        go_ret
        exact ⟨rfl, HB10.out⟩
end Go.Proofs.Ytoohkcffkhnodaa.V
