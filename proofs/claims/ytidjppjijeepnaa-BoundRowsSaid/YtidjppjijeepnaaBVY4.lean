-- a text of this work, without what this claim doesn't use (wip/shake.py)
import Derived.Test.YtidjppjijeepnaaBVPcmp
import Derived.Test.YtidjppjijeepnaaBVW1
import Derived.Maps.RangeWalk
import Derived.WalkMore
import Derived.Deep.DeepCutAuto
import Derived.Deep.CutBlock
section
set_option linter.unusedVariables false
set_option linter.unusedSimpArgs false
namespace Go.Proofs.Ytidjppjijeepnaa.V
open Go.RowKit Go.Proofs.YtidjppjijeepnaaW.PrintWords Go.Proofs.YtidjppjijeepnaaW.PrintLast Go.Proofs.YtidjppjijeepnaaW.PrintMore
open Go.Maps (Keyed IsMap)
abbrev Cr := Nat × Nat × Nat
def mkR (c : Cr) : S25 := ⟨(c.1 : Int), if c.1 = 1 then -1 else if c.1 = 2 then 0 else 1, (c.2.1 : Int), (c.2.2 : Int), 0, 0⟩
def kdR (L : List Cr) (p : Nat) : Nat := match L[p]? with | some x => x.1 | none => 0
def FewR (L : List Cr) : Prop := (∀ x ∈ L, (x.1 = 1 ∨ x.1 = 2 ∨ x.1 = 3 ∨ x.1 = 10) ∧ x.2.1 ≤ 1000 ∧ x.2.2 ≤ 1000) ∧ L.length ≤ 1000
theorem rdR (L : List Cr) (i : Nat) (c : Cr) (h : L[i]? = some c) : rd_T25 (L.map mkR) (i : Int) = mkR c := by
 unfold rd_T25
 rw [Int.toNat_natCast, List.getD_eq_getElem?_getD, List.getElem?_map, h]; rfl
theorem isR_told (L : List Cr) (p q : Nat) : bound_is.f (L.map mkR) (p : Int) (q : Int) = some (decide (p < L.length) && (kdR L p == q)) := by
 unfold bound_is.f
 rw [List.length_map, if_pos (by omega)]
 by_cases h : p < L.length
 · obtain ⟨c, hc⟩ : ∃ c, L[p]? = some c := ⟨_, List.getElem?_eq_getElem h⟩
   rw [if_pos (by omega), if_pos (by omega), rdR L p c hc]
   unfold kdR
   rw [hc, decide_eq_true h, Bool.true_and]
   congr 1
   show ((c.1 : Int) == (q : Int)) = (c.1 == q)
   rw [Bool.eq_iff_iff, beq_iff_eq, beq_iff_eq]
   omega
 · rw [if_neg (by omega), decide_eq_false h]; rfl
theorem evR_at {w : World} {A : Option Addr} {L : List Cr} (h : Kd.C k25 w A (L.map mkR).length (L.map mkR)) {i : Nat} {x : Cr} (he : L[i]? = some x) :
 ∃ ad, A = some ad ∧ w.cell? (ad.add (i * 6)) = some (.int .i64 (x.1 : Int)) ∧ w.cell? ⟨(ad.add (i * 6)).block, (ad.add (i * 6)).off + 1, none⟩ = some (.int .i64 (mkR x).f1) ∧ w.cell? ⟨(ad.add (i * 6)).block, (ad.add (i * 6)).off + 2, none⟩ = some (.int .i64 (x.2.1 : Int)) ∧ w.cell? ⟨(ad.add (i * 6)).block, (ad.add (i * 6)).off + 3, none⟩ = some (.int .u64 (x.2.2 : Int)) ∧ w.cell? ⟨(ad.add (i * 6)).block, (ad.add (i * 6)).off + 4, none⟩ = some (.int .u64 0) ∧ w.cell? ⟨(ad.add (i * 6)).block, (ad.add (i * 6)).off + 5, none⟩ = some (.int .u64 0) := by
 have hlt := (List.getElem?_eq_some_iff.1 he).1
 obtain ⟨ad, e1, h0, h1, h2, h3, h4, h5⟩ := at_T25 h (i : Int) (by omega) (by rw [List.length_map]; omega)
 rw [rdR L i x he, Int.toNat_natCast] at h0 h1 h2 h3 h4 h5
 exact ⟨ad, e1, h0, h1, h2, h3, h4, h5⟩
def MapI (w : World) (b n : Nat) (f : Int → Option Nat) : Prop :=
  ∃ D : DataW Unit, w.ownsMap Try.prog 3 (plainElem Try.prog 3) b n D ∧ ∀ x zd, D.atKey (.int .i64 x) zd = (match f x with | some i => .lit (.int .i64 (i : Int)) | none => zd)
theorem MapI.made (w : World) : MapI (w.alloc (.map #[] 0)) w.heap.size 0 (fun _ => none) := ⟨_, World.ownsMap_made _ _ _ _, fun x zd => rfl⟩
theorem MapI.move {w w' : World} {b n : Nat} {f : Int → Option Nat} (h : MapI w b n f) (hh : w'.heap[b]? = w.heap[b]?) : MapI w' b n f := by
 obtain ⟨D, ⟨es, clock, h1, h2⟩, h3⟩ := h
 exact ⟨D, ⟨es, clock, hh.trans h1, h2⟩, h3⟩
theorem MapI.monoI {w : World} {b n m : Nat} {f : Int → Option Nat} (h : MapI w b n f) (hm : n ≤ m) : MapI w b m f := by
 obtain ⟨D, h1, h2⟩ := h
 exact ⟨D, h1.mono hm, h2⟩
theorem MapI.lt {w : World} {b n : Nat} {f : Int → Option Nat} (h : MapI w b n f) : b < w.heap.size := by
 obtain ⟨D, h1, h2⟩ := h
 exact h1.lt
theorem MapI.store {w : World} {b n : Nat} {f : Int → Option Nat} (h : MapI w b n f) (hn : n ≤ 1000) (id i : Nat) (hid : id ≤ 1000) (hi : i ≤ 1000) :
 ∃ w', (Instr.mapUpdate 40 (.map (some b)) (.int .i64 (id : Int)) (.int .i64 (i : Int))).run Try.prog w = .ok () w' ∧ MapI w' b (n + 1) (fun y => if y = (id : Int) then some i else f y) ∧ w.grownBy w' (some b) := by
 obtain ⟨D, h1, h2⟩ := h
 obtain ⟨w', hrun, h3, h4⟩ := h1.update lawI Try.underlying40 (show n < maxLen by unfold maxLen; omega) (Go.Maps.keyOf_int_mk Try.underlying3 (wfI (n := id) (by omega))) (plainElem_int Try.underlying3 (wfI (n := i) (by omega)))
 refine ⟨w', hrun, ⟨_, h3, fun y zd => ?_⟩, h4⟩
 by_cases hy : y = (id : Int)
 · subst hy
   rw [Maps.atKey_put_same (h1.isMap) (by simp [WideAt.IsKeyLit])]
   simp
 · rw [Maps.atKey_put_other (by simpa using hy), h2]
   simp [hy]
def lastR (L : List Cr) : Nat → Int → Option Nat
  | 0, _ => none
  | m + 1, x => match L[m]? with
    | some c => if c.1 ≠ 10 ∧ x = (c.2.1 : Int) then some m else lastR L m x
    | none => lastR L m x
structure LaSt (w wr : World) (b n : Nat) (f : Int → Option Nat) : Prop where
  mp : MapI wr b n f
  bel : Below w.heap.size w wr
  lo : w.heap.size ≤ b
theorem LaSt.below {w wr w1 : World} {b n : Nat} {f : Int → Option Nat} (h : LaSt w wr b n f) (hb : Below wr.heap.size wr w1) : LaSt w w1 b n f := ⟨h.mp.move (hb.block b h.mp.lt), below_step h.bel hb, h.lo⟩
set_option maxRecDepth 100000 in
set_option maxHeartbeats 4000000 in
theorem last_walk (L : List Cr) (hf : FewR L) (A : Option Addr) (c : Nat) (w : World) (l : List S25) (hl : l = L.map mkR) (hr : Kd.C k25 w A l.length l) (hc : l.length ≤ c) (p : Nat) (hp : p ≤ L.length) :
 Calls Try.prog 15 #[.slice A l.length c, .int .i64 p] w fun e w' => ∃ b, e = .returned (.map (some b)) ∧ LaSt w w' b p (lastR L p) := by
 have HR := Aside0.mk hr
 have HF := Aside0.mk hf
 have HL := Aside0.mk hl
 have hlen : l.length = L.length := by rw [hl, List.length_map]
 have hl1 : l.length ≤ 1000 := by rw [hlen]; exact hf.2
 have hpl : p ≤ l.length := by rw [hlen]; exact hp
 obtain ⟨i0, hi0, _, hsz, _⟩ := info_parts info25
 have hcut := cut_to (P := Try.prog) 22 25 .i64 Try.underlying22 hi0 A l.length c (p : Int) (by omega) (by omega) hc
 rw [Int.toNat_natCast] at hcut
 have q1 : ¬ (p : Int) < 0 := by omega
 have q2 : ¬ (l.length : Int) < (p : Int) := by omega
 have hmk : ∀ W : World, (Instr.makeMap 40 none).run Try.prog W = .ok (.map (some W.heap.size)) (W.alloc (.map #[] 0)) := fun W => rfl
 have HLN := Aside0.mk hlen
 clear hr hf hl hi0 hsz hlen hp
 go_enter Try.func15, Try.ntmps15
 go_upto_region 2 with fail
 obtain ⟨b, hb⟩ : ∃ b, b = w.heap.size := ⟨_, rfl⟩
 obtain ⟨wz, hwz⟩ : ∃ wz, wz = w.alloc (.map #[] 0) := ⟨_, rfl⟩
 have HST := Aside0.mk (show LaSt w wz b 0 (lastR L 0) from by rw [hwz, hb]; exact ⟨MapI.made _, below_alloc (Below.refl _ _) _, Nat.le_refl _⟩)
 rw [← hwz, ← hb]
 clear hwz hb hmk
 go_wp2_with fail
 go_loopw [17] (fun i wr => ∃ m : Nat, m ≤ p ∧ i = .int .i64 (m : Int) ∧ Aside0 (LaSt w wr b m (lastR L m))) (fun i _ => p - (intOf i).toNat)
 case atStart => exact ⟨0, Nat.zero_le _, rfl, HST⟩
 case round =>
  clear HST hcut
  obtain ⟨m, hm, rfl, HS⟩ := hrel
  by_cases hlt : m < p
  · obtain ⟨x, hx⟩ : ∃ x, L[m]? = some x := ⟨_, List.getElem?_eq_getElem (by have := HLN.out; omega)⟩
    have hxf := HF.out.1 x (List.mem_of_getElem? hx)
    have hrm := HR.out
    rw [HL.out] at hrm
    obtain ⟨ad, rfl, u0, u1, u2, u3, u4, u5⟩ := evR_at (Kd.C_below hrm HS.out.bel) hx
    have hw1 : IntKind.i64.wrap ((m : Int) + 1) = (m : Int) + 1 := IntWalk.i64_in _ (by omega)
    have HNX := Aside0.mk (show ∀ y, lastR L (m + 1) y = if x.1 ≠ 10 ∧ y = (x.2.1 : Int) then some m else lastR L m y from fun y => by show (match L[m]? with | some c => _ | none => _) = _; rw [hx])
    obtain ⟨kx, ix, yx⟩ := x
    simp only at u0 u1 u2 u3 u4 u5 hxf
    obtain ⟨z, hz⟩ : ∃ z, (mkR (kx, ix, yx)).f1 = z := ⟨_, rfl⟩
    rw [hz] at u1
    have HB3 := Aside0.mk (below_alloc (Below.refl wr.heap.size wr) (.cells #[.int .i64 (kx : Int), .int .i64 z, .int .i64 (ix : Int), .int .u64 (yx : Int), .int .u64 0, .int .u64 0] 25))
    have HX3 := Aside0.mk (heap_alloc_new wr (.cells #[.int .i64 (kx : Int), .int .i64 z, .int .i64 (ix : Int), .int .u64 (yx : Int), .int .u64 0, .int .u64 0] 25))
    have HOW := Aside0.mk (show hist_own.f (kx : Int) z (ix : Int) (yx : Int) 0 0 = some true by
     unfold hist_own.f
     rw [if_neg (by omega)]
     congr 1
     simp [bne]
     omega)
    clear hx hz hrm
    have v0 := (blk_cell HX3.out 0).trans rfl
    have v1 := (blk_cell HX3.out 1).trans rfl
    have v2 := (blk_cell HX3.out 2).trans rfl
    have v3 := (blk_cell HX3.out 3).trans rfl
    have v4 := (blk_cell HX3.out 4).trans rfl
    have v5 := (blk_cell HX3.out 5).trans rfl
    go_wp2_with fail
    refine (hist_own.calls (kx : Int) z (ix : Int) (yx : Int) 0 0 true _ HOW.out).mono ?_
    rintro e w2 ⟨rfl, hb2⟩
    have HB2 := Aside0.mk (below_step HB3.out hb2)
    have HSB := Aside0.mk (HS.out.below HB2.out)
    have hx2 := blk_below HX3.out hb2
    clear v0 v1 v2 v3 v4 v5 u0 u1 u2 u3 u4 u5 hb2
    have v0 := (blk_cell hx2 0).trans rfl
    have v2 := (blk_cell hx2 2).trans rfl
    clear hx2
    by_cases hk : kx = 10
    · subst hk
      have HS' := Aside0.mk (show LaSt w w2 b (m + 1) (lastR L (m + 1)) from by
       have he : lastR L (m + 1) = lastR L m := by
        funext y
        rw [HNX.out y, if_neg (fun h => h.1 rfl)]
       rw [he]
       exact ⟨HSB.out.mp.monoI (by omega), HSB.out.bel, HSB.out.lo⟩)
      go_wp2
      go_roundw
      case rel => exact ⟨m + 1, by omega, by go_num, HS'⟩
      case measure => simp [intOf]; omega
    · have d1 : ((kx : Int) == 10) = false := by rw [beq_eq_false_iff_ne]; omega
      have d2 : ((kx : Int) != 10) = true := by simp [bne, d1]
      have d3 : ¬ (kx : Int) = 10 := by omega
      have d4 : ¬ kx = 10 := hk
      obtain ⟨w', hrun, hmp, hgr⟩ := HSB.out.mp.store (by omega) ix m hxf.2.1 (by omega)
      have HS' := Aside0.mk (show LaSt w w' b (m + 1) (lastR L (m + 1)) from by
       have he : lastR L (m + 1) = fun y => if y = (ix : Int) then some m else lastR L m y := by
        funext y
        rw [HNX.out y]
        by_cases hy : y = (ix : Int)
        · rw [if_pos ⟨hk, hy⟩, if_pos hy]
        · rw [if_neg (fun h => hy h.2), if_neg hy]
       rw [he]
       exact ⟨hmp, pw_below_grown HSB.out.bel _ HSB.out.bel.size hgr (fun k hk => by injection hk with hk; rw [← hk]; exact HSB.out.lo), HSB.out.lo⟩)
      clear hmp hgr
      go_wp2
      go_roundw
      case rel => exact ⟨m + 1, by omega, by go_num, HS'⟩
      case measure => simp [intOf]; omega
  · obtain rfl : m = p := by omega
    go_wp2
    go_ret
    exact ⟨b, rfl, HS.out⟩
end Go.Proofs.Ytidjppjijeepnaa.V
end
section
set_option linter.unusedVariables false
set_option linter.unusedSimpArgs false
namespace Go.Proofs.Ytidjppjijeepnaa.V
open Go.RowKit Go.Proofs.YtidjppjijeepnaaW.PrintWords Go.Proofs.YtidjppjijeepnaaW.PrintLast Go.Proofs.YtidjppjijeepnaaW.PrintMore
open Go.Maps (Keyed IsMap)
structure LookR (L : List Cr) (p j : Nat) (id key yk : Nat) : Prop where
  lt : j < p
  pl : p < L.length
  cl : L[p]? = some (3, id, key)
  lk : L[j]? = some (10, id, yk)
  no : ∀ q, j < q → q < p → kdR L q ≠ 10
set_option maxRecDepth 100000 in
set_option maxHeartbeats 4000000 in
theorem looked_walk (L : List Cr) (hf : FewR L) (A : Option Addr) (c : Nat) (w : World) (l : List S25) (hl : l = L.map mkR) (hr : Kd.C k25 w A l.length l) (hc : l.length ≤ c) (p j id key yk : Nat) (h : LookR L p j id key yk) :
 Calls Try.prog 14 #[.slice A l.length c, .int .i64 p] w fun e w' => e = .returned (.tuple #[.int .i64 j, .bool true]) ∧ Below w.heap.size w w' := by
 have HR := Aside0.mk (show Kd.C k25 w A (L.map mkR).length (L.map mkR) by rw [← hl]; exact hr)
 have HF := Aside0.mk hf
 have HK := Aside0.mk h
 have hlen : l.length = L.length := by rw [hl, List.length_map]
 have hl1 : l.length ≤ 1000 := by rw [hlen]; exact hf.2
 have hpl : p < l.length := by rw [hlen]; exact h.pl
 have hjp := h.lt
 have HLN := Aside0.mk hlen
 have hw0 : IntKind.i64.wrap ((p : Int) - 1) = (p : Int) - 1 := IntWalk.i64_in _ (by omega)
 clear hf hl hr h hlen
 go_enter Try.func14, Try.ntmps14
 go_wp2_with fail
 go_step3
 go_wp2_with fail
 go_step3
 go_wp2_with fail
 go_loopw [6] (fun i wr => ∃ q : Nat, j ≤ q ∧ q < p ∧ i = .int .i64 (q : Int) ∧ Aside0 (Below w.heap.size w wr)) (fun i _ => (intOf i).toNat)
 case atStart => exact ⟨p - 1, by omega, by omega, by first | (congr 1; omega) | skip, ⟨Below.refl _ _⟩⟩
 case round =>
  obtain ⟨q, hjq, hqp, rfl, HB⟩ := hrel
  obtain ⟨x, hx⟩ : ∃ x, L[q]? = some x := ⟨_, List.getElem?_eq_getElem (by have := HK.out.pl; omega)⟩
  have hxf := HF.out.1 x (List.mem_of_getElem? hx)
  obtain ⟨ad, rfl, u0, u1, u2, u3, u4, u5⟩ := evR_at (Kd.C_below HR.out HB.out) hx
  obtain ⟨ad', e1, v0, v1, v2, v3, v4, v5⟩ := evR_at (Kd.C_below HR.out HB.out) HK.out.cl
  obtain rfl : ad = ad' := by injection e1
  have hq0 : (0 : Int) ≤ (q : Int) := by omega
  have hq1 : (q : Int) < (l.length : Int) := by omega
  have hp0 : (0 : Int) ≤ (p : Int) := by omega
  have hp1 : (p : Int) < (l.length : Int) := by omega
  clear u3 u4 u5 v0 v3 v4 v5
  by_cases hqj : q = j
  · subst hqj
    obtain rfl : x = (10, id, yk) := by have := HK.out.lk; rw [hx] at this; injection this
    have u1 : wr.cell? ⟨(ad.add (q * 6)).block, (ad.add (q * 6)).off + 1, none⟩ = some (.int .i64 1) := u1
    have v1 : wr.cell? ⟨(ad.add (p * 6)).block, (ad.add (p * 6)).off + 1, none⟩ = some (.int .i64 1) := v1
    have u0 : wr.cell? (ad.add (q * 6)) = some (.int .i64 10) := u0
    have u2 : wr.cell? ⟨(ad.add (q * 6)).block, (ad.add (q * 6)).off + 2, none⟩ = some (.int .i64 (id : Int)) := u2
    have v2 : wr.cell? ⟨(ad.add (p * 6)).block, (ad.add (p * 6)).off + 2, none⟩ = some (.int .i64 (id : Int)) := v2
    clear hx hxf
    go_upto_region 4 with fail
    refine start_ (n := 19) (S := fun w' => w'.cell? (ad.add (q * 6)) = some (.int .i64 10) ∧ w'.cell? ⟨(ad.add (q * 6)).block, (ad.add (q * 6)).off + 1, none⟩ = some (.int .i64 1) ∧ w'.cell? ⟨(ad.add (p * 6)).block, (ad.add (p * 6)).off + 1, none⟩ = some (.int .i64 1)) (ds := []) #[xX, xX, xX, xX, xX, xX, xX, xX, xX, xX, xX, xX, xX, xX, xX, xX, xX, xX, xX] (by kernel_rfl) rfl rfl ⟨u0, u1, v1⟩ (fun hHeld => ?_)
    refine pU (i := 0) (N := (some 13)) (bA 19 1) (by kernel_rfl) rfl ?_
    refine pU (i := 1) (N := (some 14)) (bA 19 3) (by kernel_rfl) rfl ?_
    refine pU (i := 2) (N := (some 15)) (bA 19 7) (by kernel_rfl) rfl ?_
    refine pU (i := 3) (N := (some 16)) (bA 19 15) (by kernel_rfl) rfl ?_
    refine tU (i := 4) (N := (some 17)) (bA 19 31) (by kernel_rfl) rfl hHeld (by (constructor; (rintro w' ⟨s0, s1, s2⟩; go_simp; (with_reducible rfl)); (simp only [Act.put, ua, ub, uc, uh, ui]; rfl))) ?_
    refine pU (i := 5) (N := (some 18)) (bA 19 63) (by kernel_rfl) rfl ?_
    refine pU (i := 6) (N := (some 19)) (bA 19 127) (by kernel_rfl) rfl ?_
    refine pU (i := 7) (N := (some 20)) (bA 19 255) (by kernel_rfl) rfl ?_
    refine pU (i := 8) (N := (some 21)) (bA 19 511) (by kernel_rfl) rfl ?_
    refine pU (i := 9) (N := (some 22)) (bA 19 1023) (by kernel_rfl) rfl ?_
    refine pU (i := 10) (N := (some 23)) (bA 19 2047) (by kernel_rfl) rfl ?_
    refine pU (i := 12) (N := (some 25)) (bA 19 6143) (by kernel_rfl) rfl ?_
    refine pU (i := 13) (N := (some 26)) (bA 19 14335) (by kernel_rfl) rfl ?_
    refine pU (i := 14) (N := (some 27)) (bA 19 30719) (by kernel_rfl) rfl ?_
    refine pU (i := 15) (N := (some 28)) (bA 19 63487) (by kernel_rfl) rfl ?_
    refine tU (i := 11) (N := (some 24)) (bA 19 65535) (by kernel_rfl) rfl hHeld (by (constructor; (rintro w' ⟨s0, s1, s2⟩; go_simp; (with_reducible rfl)); (simp only [Act.put, ua, ub, uc, uh, ui]; rfl))) ?_
    refine tU (i := 16) (N := (some 29)) (bA 19 131071) (by kernel_rfl) rfl hHeld (by (constructor; (rintro w' ⟨s0, s1, s2⟩; go_simp; (with_reducible rfl)); (simp only [Act.put, ua, ub, uc, uh, ui]; rfl))) ?_
    refine pU (i := 17) (N := (some 30)) (bA 19 262143) (by kernel_rfl) rfl ?_
    refine pU (i := 18) (N := (some 31)) (bA 19 524287) (by kernel_rfl) rfl ?_
    refine done_ (by kernel_rfl) ?_
    go_upto_region 5 with fail
    refine start_ (n := 18) (S := fun w' => w'.cell? ⟨(ad.add (q * 6)).block, (ad.add (q * 6)).off + 2, none⟩ = some (.int .i64 (id : Int)) ∧ w'.cell? ⟨(ad.add (p * 6)).block, (ad.add (p * 6)).off + 2, none⟩ = some (.int .i64 (id : Int))) (ds := []) #[xX, xX, xX, xX, xX, xX, xX, xX, xX, xX, xX, xX, xX, xX, xX, xX, xX, xX] (by kernel_rfl) rfl rfl ⟨u2, v2⟩ (fun hHeld => ?_)
    refine pU (i := 0) (N := (some 32)) (bA 18 1) (by kernel_rfl) rfl ?_
    refine pU (i := 1) (N := (some 33)) (bA 18 3) (by kernel_rfl) rfl ?_
    refine pU (i := 2) (N := (some 34)) (bA 18 7) (by kernel_rfl) rfl ?_
    refine pU (i := 3) (N := (some 35)) (bA 18 15) (by kernel_rfl) rfl ?_
    refine pU (i := 4) (N := (some 36)) (bA 18 31) (by kernel_rfl) rfl ?_
    refine pU (i := 5) (N := (some 37)) (bA 18 63) (by kernel_rfl) rfl ?_
    refine pU (i := 6) (N := (some 38)) (bA 18 127) (by kernel_rfl) rfl ?_
    refine pU (i := 7) (N := (some 39)) (bA 18 255) (by kernel_rfl) rfl ?_
    refine pU (i := 9) (N := (some 41)) (bA 18 767) (by kernel_rfl) rfl ?_
    refine pU (i := 10) (N := (some 42)) (bA 18 1791) (by kernel_rfl) rfl ?_
    refine pU (i := 11) (N := (some 43)) (bA 18 3839) (by kernel_rfl) rfl ?_
    refine pU (i := 12) (N := (some 44)) (bA 18 7935) (by kernel_rfl) rfl ?_
    refine pU (i := 16) (N := (some 4)) (bA 18 73471) (by kernel_rfl) rfl ?_
    refine tU (i := 8) (N := (some 40)) (bA 18 73727) (by kernel_rfl) rfl hHeld (by (constructor; (rintro w' ⟨s0, s1⟩; go_simp; (with_reducible rfl)); (simp only [Act.put, ua, ub, uc, uh, ui]; rfl))) ?_
    refine tU (i := 13) (N := (some 45)) (bA 18 81919) (by kernel_rfl) rfl hHeld (by (constructor; (rintro w' ⟨s0, s1⟩; go_simp; (with_reducible rfl)); (simp only [Act.put, ua, ub, uc, uh, ui]; rfl))) ?_
    refine pU (i := 14) (N := (some 46)) (bA 18 98303) (by kernel_rfl) rfl ?_
    refine pU (i := 15) (N := (some 47)) (bA 18 131071) (by kernel_rfl) rfl ?_
    refine pU (i := 17) (N := (some 5)) (bA 18 262143) (by kernel_rfl) rfl ?_
    refine done_ (by kernel_rfl) ?_
    go_wp2
    exact bodyPost_ret (v := .tuple #[.int .i64 (q : Int), .bool true]) (by simp [results, Try.results14, go_sem]) rfl ⟨rfl, by first | exact below_drew (below_drew HB.out) | exact below_drew HB.out | exact HB.out⟩
  · have hne : x.1 ≠ 10 := by
     have := HK.out.no q (by omega) hqp
     unfold kdR at this
     rw [hx] at this
     exact this
    have hw1 : IntKind.i64.wrap ((q : Int) - 1) = ((q - 1 : Nat) : Int) := by rw [show ((q - 1 : Nat) : Int) = (q : Int) - 1 by omega]; exact IntWalk.i64_in _ (by omega)
    have d1 : ((x.1 : Int) == 10) = false := by rw [beq_eq_false_iff_ne]; omega
    have d2 : ¬ (x.1 : Int) = 10 := by omega
    clear hx u1 u2 v1 v2
    go_upto_region 4 with fail
    refine start_ (n := 19) (S := fun w' => w'.cell? (ad.add (q * 6)) = some (.int .i64 (x.1 : Int))) (ds := []) #[xX, xX, xX, xX, xX, xX, xX, xX, xX, xX, xX, xX, xX, xX, xX, xX, xX, xX, xX] (by kernel_rfl) rfl rfl u0 (fun hHeld => ?_)
    refine pU (i := 0) (N := (some 13)) (bA 19 1) (by kernel_rfl) rfl ?_
    refine pU (i := 1) (N := (some 14)) (bA 19 3) (by kernel_rfl) rfl ?_
    refine pU (i := 2) (N := (some 15)) (bA 19 7) (by kernel_rfl) rfl ?_
    refine pU (i := 3) (N := (some 16)) (bA 19 15) (by kernel_rfl) rfl ?_
    refine take_ (i := 4) (N := (some 17)) (v := ?_) (a' := ?_) (bA 19 31) rfl rfl (by kernel_rfl) (fun _ _ _ h => h) (Or.inl ⟨by rfl, ?_⟩) hHeld ?_ ?_
    rotate_left
    · intro w' s0
      go_simp
      with_reducible rfl
    rotate_left
    · simp only [Act.put, ua, ub, uc, uh, ui]
      rfl
    refine pU (i := 5) (N := (some 18)) (bA 19 63) (by kernel_rfl) rfl ?_
    refine pU (i := 6) (N := (some 19)) (bA 19 127) (by kernel_rfl) rfl ?_
    refine un (i := 7) (N := (some 20)) (v := undef) (a' := ?_) (bA 19 255) rfl rfl (by kernel_rfl) (fun _ _ _ h => h) (Or.inr ⟨by rfl, rfl⟩) ?_ ?_
    rotate_left
    · simp only [Act.put, ua, ub, uc, uh, ui]
      rfl
    refine un (i := 8) (N := (some 21)) (v := undef) (a' := ?_) (bA 19 511) rfl rfl (by kernel_rfl) (fun _ _ _ h => h) (Or.inr ⟨by rfl, rfl⟩) ?_ ?_
    rotate_left
    · simp only [Act.put, ua, ub, uc, uh, ui]
      rfl
    refine un (i := 9) (N := (some 22)) (v := undef) (a' := ?_) (bA 19 1023) rfl rfl (by kernel_rfl) (fun _ _ _ h => h) (Or.inr ⟨by rfl, rfl⟩) ?_ ?_
    rotate_left
    · simp only [Act.put, ua, ub, uc, uh, ui]
      rfl
    refine un (i := 10) (N := (some 23)) (v := undef) (a' := ?_) (bA 19 2047) rfl rfl (by kernel_rfl) (fun _ _ _ h => h) (Or.inr ⟨by rfl, rfl⟩) ?_ ?_
    rotate_left
    · simp only [Act.put, ua, ub, uc, uh, ui]
      rfl
    refine un (i := 11) (N := (some 24)) (v := undef) (a' := ?_) (bA 19 4095) rfl rfl (by kernel_rfl) (fun _ _ _ h => h) (Or.inr ⟨by rfl, rfl⟩) ?_ ?_
    rotate_left
    · simp only [Act.put, ua, ub, uc, uh, ui]
      rfl
    refine un (i := 12) (N := (some 25)) (v := undef) (a' := ?_) (bA 19 8191) rfl rfl (by kernel_rfl) (fun _ _ _ h => h) (Or.inr ⟨by rfl, rfl⟩) ?_ ?_
    rotate_left
    · simp only [Act.put, ua, ub, uc, uh, ui]
      rfl
    refine un (i := 13) (N := (some 26)) (v := undef) (a' := ?_) (bA 19 16383) rfl rfl (by kernel_rfl) (fun _ _ _ h => h) (Or.inr ⟨by rfl, rfl⟩) ?_ ?_
    rotate_left
    · simp only [Act.put, ua, ub, uc, uh, ui]
      rfl
    refine un (i := 14) (N := (some 27)) (v := undef) (a' := ?_) (bA 19 32767) rfl rfl (by kernel_rfl) (fun _ _ _ h => h) (Or.inr ⟨by rfl, rfl⟩) ?_ ?_
    rotate_left
    · simp only [Act.put, ua, ub, uc, uh, ui]
      rfl
    refine un (i := 15) (N := (some 28)) (v := undef) (a' := ?_) (bA 19 65535) rfl rfl (by kernel_rfl) (fun _ _ _ h => h) (Or.inr ⟨by rfl, rfl⟩) ?_ ?_
    rotate_left
    · simp only [Act.put, ua, ub, uc, uh, ui]
      rfl
    refine un (i := 16) (N := (some 29)) (v := undef) (a' := ?_) (bA 19 131071) rfl rfl (by kernel_rfl) (fun _ _ _ h => h) (Or.inr ⟨by rfl, rfl⟩) ?_ ?_
    rotate_left
    · simp only [Act.put, ua, ub, uc, uh, ui]
      rfl
    refine un (i := 17) (N := (some 30)) (v := undef) (a' := ?_) (bA 19 262143) rfl rfl (by kernel_rfl) (fun _ _ _ h => h) (Or.inr ⟨by rfl, rfl⟩) ?_ ?_
    rotate_left
    · simp only [Act.put, ua, ub, uc, uh, ui]
      rfl
    refine pU (i := 18) (N := (some 31)) (bA 19 524287) (by kernel_rfl) rfl ?_
    refine done_ (by kernel_rfl) ?_
    go_wp2
    go_roundw
    case rel => exact ⟨q - 1, by omega, by omega, rfl, ⟨below_drew HB.out⟩⟩
    case measure => simp [intOf]; omega
def passP (L : List Cr) (p j id key : Nat) (x : Nat) : Bool := match lastR L p (x : Int) with
  | some i => match L[i]? with
    | some c => decide (i < j) && (c.1 == 2) && (decide (c.2.2 < key) || (c.2.2 == key && decide (x < id)))
    | none => false
  | none => false
def leftN (L : List Cr) (p j id key : Nat) (left : Lit → Bool) : Nat := (List.range 1001).countP (fun x => passP L p j id key x && left (.int .i64 (x : Int)))
theorem countP_less {P Q : Nat → Bool} (a : Nat) : ∀ {l : List Nat}, l.Nodup → a ∈ l → P a = true → (∀ x ∈ l, Q x = (P x && !(x == a))) → l.countP P = l.countP Q + 1 := by
 intro l
 induction l with
 | nil => intro _ h; simp at h
 | cons y r ih =>
  intro hn ha hP hQ
  rw [List.nodup_cons] at hn
  have hy := hQ y List.mem_cons_self
  rw [List.countP_cons, List.countP_cons]
  by_cases e : y = a
  · subst e
    have hr : r.countP P = r.countP Q := List.countP_congr (fun x hx => by
     rw [hQ x (List.mem_cons_of_mem _ hx)]
     have : (x == y) = false := by rw [beq_eq_false_iff_ne]; exact fun h => hn.1 (h ▸ hx)
     rw [this]; simp)
    rw [hr, hP, hy]
    simp
  · have hm : a ∈ r := by
     rcases List.mem_cons.1 ha with h | h
     · exact absurd h.symm e
     · exact h
    have h1 := ih hn.2 hm hP (fun x hx => hQ x (List.mem_cons_of_mem _ hx))
    have h2 : Q y = P y := by
     rw [hy, show (y == a) = false by rw [beq_eq_false_iff_ne]; exact e]
     simp
    rw [h1, h2]
    omega
end Go.Proofs.Ytidjppjijeepnaa.V
end
section
set_option linter.unusedVariables false
set_option linter.unusedSimpArgs false
namespace Go.Proofs.Ytidjppjijeepnaa.V
open Go.RowKit Go.Proofs.YtidjppjijeepnaaW.PrintWords Go.Proofs.YtidjppjijeepnaaW.PrintLast Go.Proofs.YtidjppjijeepnaaW.PrintMore
open Go.Maps (Keyed IsMap)
theorem left_step {L : List Cr} {p j id key : Nat} {left : Lit → Bool} (a : Nat) (ha : a ≤ 1000) (hl : left (.int .i64 (a : Int)) = true) :
 leftN L p j id key left = leftN L p j id key (fun z => left z && !z.sameKey (.int .i64 (a : Int))) + (if passP L p j id key a = true then 1 else 0) := by
 have hs : ∀ x : Nat, (Lit.int .i64 (x : Int)).sameKey (.int .i64 (a : Int)) = (x == a) := fun x => by
  show decide (IntKind.i64 = IntKind.i64 ∧ (x : Int) = (a : Int)) = (x == a)
  rw [Bool.eq_iff_iff, decide_eq_true_eq, beq_iff_eq]
  exact ⟨fun h => by have := h.2; omega, fun h => ⟨rfl, by omega⟩⟩
 unfold leftN
 by_cases hp : passP L p j id key a = true
 · rw [if_pos hp]
   refine countP_less a List.nodup_range (List.mem_range.2 (by omega)) (by rw [hp, hl]; rfl) (fun x _ => ?_)
   show (passP L p j id key x && (left (.int .i64 (x : Int)) && !(Lit.int .i64 (x : Int)).sameKey (.int .i64 (a : Int)))) = _
   rw [hs x, Bool.and_assoc]
 · rw [if_neg hp, Nat.add_zero]
   refine List.countP_congr (fun x _ => ?_)
   show _ ↔ (passP L p j id key x && (left (.int .i64 (x : Int)) && !(Lit.int .i64 (x : Int)).sameKey (.int .i64 (a : Int)))) = true
   rw [hs x]
   by_cases e : x = a
   · subst e
     rw [show passP L p j id key x = false by simpa using hp]
     simp
   · rw [show (x == a) = false by rw [beq_eq_false_iff_ne]; exact e]
     simp
theorem last_some {L : List Cr} {x : Int} {i : Nat} : ∀ {m : Nat}, lastR L m x = some i → i < m ∧ ∃ c, L[i]? = some c ∧ c.1 ≠ 10 ∧ x = (c.2.1 : Int) := by
 intro m
 induction m with
 | zero => intro h; cases h
 | succ m ih =>
  intro h
  cases hm : L[m]? with
  | none =>
   have h : (match L[m]? with | some c => if c.1 ≠ 10 ∧ x = (c.2.1 : Int) then some m else lastR L m x | none => lastR L m x) = some i := h
   rw [hm] at h
   obtain ⟨h1, h2⟩ := ih h
   exact ⟨by omega, h2⟩
  | some c =>
   have h : (match L[m]? with | some c => if c.1 ≠ 10 ∧ x = (c.2.1 : Int) then some m else lastR L m x | none => lastR L m x) = some i := h
   rw [hm] at h
   by_cases hc : c.1 ≠ 10 ∧ x = (c.2.1 : Int)
   · simp only [if_pos hc] at h
     injection h with h
     subst h
     exact ⟨by omega, c, hm, hc.1, hc.2⟩
   · simp only [if_neg hc] at h
     obtain ⟨h1, h2⟩ := ih h
     exact ⟨by omega, h2⟩
def passN (L : List Cr) (p j id key : Nat) : Nat := (List.range 1001).countP (fun x => passP L p j id key x)
theorem left_all {L : List Cr} {p j id key b n : Nat} {w : World} {D : DataW Unit} (h : ∀ x zd, D.atKey (.int .i64 x) zd = (match lastR L p x with | some i => .lit (.int .i64 (i : Int)) | none => zd)) : leftN L p j id key (Maps.has D) = passN L p j id key := by
 unfold leftN passN
 refine List.countP_congr (fun x _ => ?_)
 cases hl : lastR L p (x : Int) with
 | none =>
  have : passP L p j id key x = false := by unfold passP; rw [hl]
  rw [this]; simp
 | some i =>
  have : Maps.has D (.int .i64 (x : Int)) = true := Maps.has_true_of_atKey (fun zd => by rw [h x zd, hl])
  rw [this]; simp
theorem left_none {L : List Cr} {p j id key : Nat} {left : Lit → Bool} (h : ∀ kl, left kl = false) : leftN L p j id key left = 0 := by
 unfold leftN
 rw [List.countP_eq_zero]
 intro x _
 rw [h]; simp
theorem at_some {L : List Cr} {p : Nat} {D : DataW Unit} {x c : Int} (h : ∀ x zd, D.atKey (.int .i64 x) zd = (match lastR L p x with | some i => .lit (.int .i64 (i : Int)) | none => zd)) (hc : ∀ zd, D.atKey (.int .i64 x) zd = .lit (.int .i64 c)) : ∃ i : Nat, lastR L p x = some i ∧ c = (i : Int) := by
 cases hl : lastR L p x with
 | none =>
  have h1 := hc (.lit (.bool true))
  rw [h x, hl] at h1
  cases h1
 | some i =>
  have h1 := hc (.lit (.bool true))
  rw [h x, hl] at h1
  injection h1 with h1
  injection h1 with _ h1
  exact ⟨i, rfl, h1.symm⟩
theorem grown_none {w w1 : World} (h : Below w.heap.size w w1) : w.grownBy w1 none := ⟨h.os, h.tape, h.output, h.size, fun i hi _ => h.block i hi⟩
set_option maxRecDepth 100000 in
set_option maxHeartbeats 8000000 in
theorem passed_yes (L : List Cr) (hf : FewR L) (A : Option Addr) (c : Nat) (w : World) (l : List S25) (hl : l = L.map mkR) (hr : Kd.C k25 w A l.length l) (hc : l.length ≤ c) (p j id key yk : Nat) (h : LookR L p j id key yk) :
 Calls Try.prog 6 #[.slice A l.length c, .int .i64 p] w fun e w' => e = .returned (.int .i64 (passN L p j id key)) ∧ Below w.heap.size w w' := by
 have HR := Aside0.mk hr
 have HRM := Aside0.mk (show Kd.C k25 w A (L.map mkR).length (L.map mkR) by rw [← hl]; exact hr)
 have HF := Aside0.mk hf
 have HL := Aside0.mk hl
 have HK := Aside0.mk h
 have hlen : l.length = L.length := by rw [hl, List.length_map]
 have hl1 : l.length ≤ 1000 := by rw [hlen]; exact hf.2
 have hpl : p < l.length := by rw [hlen]; exact h.pl
 have hjp := h.lt
 have HLN := Aside0.mk hlen
 have HC := Aside0.mk hc
 have HIS := Aside0.mk (show bound_is.f l (p : Int) 3 = some true by
  have h1 := isR_told L p 3
  rw [← hl] at h1
  have h2 : kdR L p = 3 := by unfold kdR; rw [h.cl]
  rw [h2, decide_eq_true h.pl] at h1
  exact h1)
 clear hf hl hr h hlen hc
 go_enter Try.func6, Try.ntmps6
 go_wp2_with fail
 refine (bound_is.calls A c l (p : Int) 3 true w HR.out HC.out HIS.out).mono ?_
 rintro e w1 ⟨rfl, hb⟩
 have HB1 := Aside0.mk hb.below
 clear hb
 go_wp2_with fail
 refine (looked_walk L HF.out A c w1 l HL.out (Kd.C_below HR.out HB1.out) HC.out p j id key yk HK.out).mono ?_
 rintro e w2 ⟨rfl, hb⟩
 have HB2 := Aside0.mk (uv HB1.out hb)
 clear hb
 obtain ⟨ad, hA, u0, u1, u2, u3, u4, u5⟩ := evR_at (Kd.C_below HRM.out HB2.out) HK.out.cl
 have HA := Aside0.mk hA
 subst hA
 have hp0 : (0 : Int) ≤ (p : Int) := by omega
 have hp1 : (p : Int) < (l.length : Int) := by omega
 have u2 : w2.cell? ⟨(ad.add (p * 6)).block, (ad.add (p * 6)).off + 2, none⟩ = some (.int .i64 (id : Int)) := u2
 have u3 : w2.cell? ⟨(ad.add (p * 6)).block, (ad.add (p * 6)).off + 3, none⟩ = some (.int .u64 (key : Int)) := u3
 clear u0 u1 u4 u5
 go_upto_region 7 with fail
 go_cut [8] (fun s wx => ∃ g, s = .pointer (some ⟨g, 0, none⟩) ∧ Aside0 (wx.heap[g]? = some (.cells #[.int .u64 (key : Int), .int .i64 (id : Int)] 39 (0, 0))) ∧ Aside0 (Below w2.heap.size w2 wx))
 case first =>
  refine start_ (n := 13) (S := fun w' => w'.cell? ⟨(ad.add (p * 6)).block, (ad.add (p * 6)).off + 2, none⟩ = some (.int .i64 (id : Int)) ∧ w'.cell? ⟨(ad.add (p * 6)).block, (ad.add (p * 6)).off + 3, none⟩ = some (.int .u64 (key : Int))) (ds := [12]) #[xX, xX, xX, xX, xX, xX, xX, xX, xX, xX, xX, xX, xX] (by kernel_rfl) rfl rfl ⟨u2, u3⟩ (fun hHeld => ?_)
  refine pU (i := 0) (N := (some 23)) (bA 13 1) (by kernel_rfl) rfl ?_
  refine pU (i := 1) (N := (some 24)) (bA 13 3) (by kernel_rfl) rfl ?_
  refine pU (i := 2) (N := (some 25)) (bA 13 7) (by kernel_rfl) rfl ?_
  refine pU (i := 3) (N := (some 26)) (bA 13 15) (by kernel_rfl) rfl ?_
  refine pU (i := 5) (N := (some 28)) (bA 13 47) (by kernel_rfl) rfl ?_
  refine pU (i := 6) (N := (some 29)) (bA 13 111) (by kernel_rfl) rfl ?_
  refine pU (i := 7) (N := (some 30)) (bA 13 239) (by kernel_rfl) rfl ?_
  refine pU (i := 8) (N := (some 31)) (bA 13 495) (by kernel_rfl) rfl ?_
  refine tU (i := 4) (N := (some 27)) (bA 13 511) (by kernel_rfl) rfl hHeld (by (constructor; (rintro w' ⟨s0, s1⟩; go_simp; (with_reducible rfl)); (simp only [Act.put, ua, ub, uc, uh, ui]; rfl))) ?_
  refine tU (i := 9) (N := (some 32)) (bA 13 1023) (by kernel_rfl) rfl hHeld (by (constructor; (rintro w' ⟨s0, s1⟩; go_simp; (with_reducible rfl)); (simp only [Act.put, ua, ub, uc, uh, ui]; rfl))) ?_
  refine pU (i := 10) (N := (some 33)) (bA 13 2047) (by kernel_rfl) rfl ?_
  refine one_ (i := 11) (N := (some 8)) #[yY, yY, yY, yY, yY, yY, yY, yY, yY, yY, yY, yY, xX] rfl rfl (by kernel_rfl) (by decide) (fun K hK => ?_)
  go_simp
  have hz := heap_alloc_new w2.drew (.cells #[.int .u64 0, .int .i64 0] 39)
  have hba := ue (Below.refl w2.drew.heap.size w2.drew) (.cells #[.int .u64 0, .int .i64 0] 39)
  have q0 := (ul hz 0).trans rfl
  have q1 := (ul hz 1).trans rfl
  have q2 := um hz 0
  have q3 := um hz 1
  refine hK.out _ _ ⟨pw_cell_below hba u2, pw_cell_below hba u3⟩ (fun hHeld => ?_)
  clear hK K
  (try simp only [Act.put, ua, ub, uc, uh, ui])
  refine last_ (i := 12) (N := none) #[yY, yY, yY, yY, yY, yY, yY, yY, yY, yY, yY, yY, yY] rfl rfl (by kernel_rfl) (by decide) (fun K hK => ?_)
  go_simp
  refine hK.out _ _ ?_
  clear hK K
  (try simp only [Act.put, ua, ub, uc, uh, ui])
  refine done_ (by kernel_rfl) ?_
  go_wp2_with fail
  go_meet
  exact ⟨_, rfl, ⟨heap_alloc_new w2 _⟩, ⟨below_drew (ue (Below.refl _ _) _)⟩⟩
 case rest =>
  obtain ⟨g, rfl, HG, HBG⟩ := hcut
  rename World => wd
  have HBD := Aside0.mk (uv HB2.out HBG.out)
  clear u2 u3
  go_wp2_with fail
  refine (last_walk L HF.out (some ad) c wd l HL.out (Kd.C_below HR.out HBD.out) HC.out p (by have := HK.out.pl; omega)).mono ?_
  rintro e w3 ⟨b, rfl, hst⟩
  obtain ⟨D, hown, hat⟩ := hst.mp
  have HAT := Aside0.mk hat
  have HB3 := Aside0.mk (uv HBD.out hst.bel)
  have HG3 := Aside0.mk (blk_below HG.out hst.bel)
  have HLO := Aside0.mk hst.lo
  have hg3 := (Array.getElem?_eq_some_iff.1 HG3.out).1
  have HLA := Aside0.mk (left_all (j := j) (id := id) (key := key) (b := 0) (n := 0) (w := w3) hat)
  clear hst hat
  go_wp2_with (first | (at_range; refine wpList_range_own _ rfl _ 40 rfl 3 3 lawI Try.underlying40 _ b p D rfl hown ?_; intro w0 hrg0 hg0 hs0) | go_in)
  go_frame
  obtain ⟨r, hrr⟩ : ∃ r, r = w3.heap.size := ⟨_, rfl⟩
  rw [← hrr] at hrg0 ⊢
  have HRG := Aside0.mk hrg0
  have HB4 := Aside0.mk (show Below w.heap.size w w0 from pw_below_grown HB3.out none HB3.out.size hg0 (fun k hk => by cases hk))
  have HG4 := Aside0.mk (show w0.heap[g]? = _ from (hg0.block g hg3 (by simp)).trans HG3.out)
  have HRL := Aside0.mk (show w.heap.size ≤ r ∧ g < r from by rw [hrr]; exact ⟨HB3.out.size, hg3⟩)
  have HT0 := Aside0.mk (show 0 + leftN L p j id key (Maps.has D) = passN L p j id key by rw [HLA.out]; omega)
  clear hrg0 hg0 hs0 hrr hown hg3 HG3 HLA
  go_loopw [7] (fun n wr => ∃ (cnt : Nat) (left : Lit → Bool) (m : Nat), n = .int .i64 (m : Int) ∧ m ≤ 1001 ∧ Aside0 (wr.ranges Try.prog 3 (plainElem Try.prog 3) b r p D left cnt) ∧ Aside0 (m + leftN L p j id key left = passN L p j id key) ∧ Aside0 (wr.heap[g]? = some (.cells #[.int .u64 (key : Int), .int .i64 (id : Int)] 39 (0, 0))) ∧ Aside0 (Below w.heap.size w wr)) (fun _ wr => wr.rangeLeft b r)
  case atStart => exact ⟨_, _, 0, rfl, by omega, HRG, HT0, HG4, HB4⟩
  case round =>
   clear HRG HT0 HG4 HB4
   obtain ⟨cnt, left, m, rfl, hm, HRG, HT, HG, HB⟩ := hrel
   have HM := Aside0.mk (show passN L p j id key ≤ 1001 from by unfold passN; exact Nat.le_trans List.countP_le_length (by rw [List.length_range]; exact Nat.le_refl _))
   go_wp2_with (first | (at_next; refine wpList_next_ranges_ii _ rfl _ rfl 3 3 .i64 .i64 lawI Try.underlying3 Try.underlying3 b r p _ _ _ rfl HRG.out ?_ ?_) | go_in)
   next =>
    intro hc0 hl0
    have HE := Aside0.mk (show m = passN L p j id key from by have := HT.out; rw [left_none hl0] at this; omega)
    clear hc0 hl0
    go_wp2
    go_ret
    exact ⟨by rw [← HE.out]; rfl, HB.out⟩
   next =>
    intro x cv wn cnt' hwx hwc hlx hat hrg1 hlt hg1 hs1 hen
    obtain ⟨i, hli, rfl⟩ := at_some HAT.out hat
    obtain ⟨hip, cc, hcc, hk10, hxc⟩ := last_some hli
    obtain ⟨kx, ix, yx⟩ := cc
    have hxc : x = (ix : Int) := hxc
    subst hxc
    have hcf := HF.out.1 _ (List.mem_of_getElem? hcc)
    simp only at hcf hk10
    have HBN := Aside0.mk (show Below w.heap.size w wn from pw_below_grown HB.out _ HB.out.size hg1 (fun k hk => by injection hk with hk; rw [← hk]; exact HRL.out.1))
    have HGN := Aside0.mk (show wn.heap[g]? = some (.cells #[.int .u64 (key : Int), .int .i64 (id : Int)] 39 (0, 0)) from (hg1.block g (Array.getElem?_eq_some_iff.1 HG.out).1 (by intro e; injection e with e; have := HRL.out.2; omega)).trans HG.out)
    obtain ⟨ad', e1, u0, u1, u2, u3, u4, u5⟩ := evR_at (Kd.C_below HRM.out HBN.out) hcc
    obtain rfl : ad = ad' := by injection e1
    have u0 : wn.cell? (ad.add (i * 6)) = some (.int .i64 (kx : Int)) := u0
    have u3 : wn.cell? ⟨(ad.add (i * 6)).block, (ad.add (i * 6)).off + 3, none⟩ = some (.int .u64 (yx : Int)) := u3
    have HLS := Aside0.mk (left_step (L := L) (p := p) (j := j) (id := id) (key := key) ix hcf.2.1 hlx)
    have HRN := Aside0.mk hrg1
    have HLT := Aside0.mk hlt
    have HLI := Aside0.mk hli
    have HCC := Aside0.mk hcc
    have g0 := (ul HGN.out 0).trans rfl
    have g1 := (ul HGN.out 1).trans rfl
    have hi0 : (0 : Int) ≤ (i : Int) := by omega
    have hi1 : (i : Int) < (l.length : Int) := by omega
    have hm2 := HM.out
    have hw1 : IntKind.i64.wrap ((m : Int) + 1) = (m : Int) + 1 := IntWalk.i64_in _ (by omega)
    clear hwx hwc hlx hat hrg1 hlt hg1 hs1 hli hcc hcf u1 u2 u4 u5 e1 hm2
    by_cases hij : i < j
    · have d1 : (i : Int) < (j : Int) := by omega
      by_cases hk2 : kx = 2
      · subst hk2
        obtain ⟨bl, hbl⟩ : ∃ bl, (decide (yx < key) || (yx == key && decide (ix < id))) = bl := ⟨_, rfl⟩
        have HPP := Aside0.mk (show passP L p j id key ix = bl from by unfold passP; rw [HLI.out]; simp only [HCC.out]; rw [decide_eq_true hij, ← hbl]; simp)
        have HLE := Aside0.mk (show entry_Less.f 5 (yx : Int) (ix : Int) (key : Int) (id : Int) = some bl from by
         rw [less_told 5 (by omega), ← hbl]
         congr 1
         rw [Bool.eq_iff_iff, ltE_iff]
         simp
         omega)
        clear hbl hij hk10
        have u0 : wn.cell? (ad.add (i * 6)) = some (.int .i64 2) := u0
        go_upto_region 11 with fail
        refine start_ (n := 22) (S := fun w' => w'.cell? (ad.add (i * 6)) = some (.int .i64 2) ∧ w'.cell? ⟨(ad.add (i * 6)).block, (ad.add (i * 6)).off + 3, none⟩ = some (.int .u64 (yx : Int)) ∧ w'.cell? ⟨g, 0, none⟩ = some (.int .u64 (key : Int)) ∧ w'.cell? ⟨g, 1, none⟩ = some (.int .i64 (id : Int))) (ds := []) #[xX, xX, xX, xX, xX, xX, xX, xX, xX, xX, xX, xX, xX, xX, xX, xX, xX, xX, xX, xX, xX, xX] (by kernel_rfl) rfl rfl ⟨u0, u3, g0, g1⟩ (fun hHeld => ?_)
        refine pU (i := 0) (N := (some 43)) (bA 22 1) (by kernel_rfl) rfl ?_
        refine pU (i := 1) (N := (some 44)) (bA 22 3) (by kernel_rfl) rfl ?_
        refine pU (i := 2) (N := (some 45)) (bA 22 7) (by kernel_rfl) rfl ?_
        refine pU (i := 3) (N := (some 46)) (bA 22 15) (by kernel_rfl) rfl ?_
        refine pU (i := 4) (N := (some 47)) (bA 22 31) (by kernel_rfl) rfl ?_
        refine pU (i := 5) (N := (some 48)) (bA 22 63) (by kernel_rfl) rfl ?_
        refine pU (i := 6) (N := (some 49)) (bA 22 127) (by kernel_rfl) rfl ?_
        refine pU (i := 7) (N := (some 50)) (bA 22 255) (by kernel_rfl) rfl ?_
        refine tU (i := 8) (N := (some 51)) (bA 22 511) (by kernel_rfl) rfl hHeld (by (constructor; (rintro w' ⟨s0, s1, s2, s3⟩; go_simp; (with_reducible rfl)); (simp only [Act.put, ua, ub, uc, uh, ui]; rfl))) ?_
        refine pU (i := 9) (N := (some 52)) (bA 22 1023) (by kernel_rfl) rfl ?_
        refine pU (i := 10) (N := (some 53)) (bA 22 2047) (by kernel_rfl) rfl ?_
        refine pU (i := 11) (N := (some 54)) (bA 22 4095) (by kernel_rfl) rfl ?_
        refine pU (i := 12) (N := (some 55)) (bA 22 8191) (by kernel_rfl) rfl ?_
        refine pU (i := 13) (N := (some 56)) (bA 22 16383) (by kernel_rfl) rfl ?_
        refine pU (i := 14) (N := (some 57)) (bA 22 32767) (by kernel_rfl) rfl ?_
        refine pU (i := 15) (N := (some 58)) (bA 22 65535) (by kernel_rfl) rfl ?_
        refine pU (i := 17) (N := (some 60)) (bA 22 196607) (by kernel_rfl) rfl ?_
        refine tU (i := 16) (N := (some 59)) (bA 22 262143) (by kernel_rfl) rfl hHeld (by (constructor; (rintro w' ⟨s0, s1, s2, s3⟩; go_simp; (with_reducible rfl)); (simp only [Act.put, ua, ub, uc, uh, ui]; rfl))) ?_
        refine pU (i := 18) (N := (some 61)) (bA 22 524287) (by kernel_rfl) rfl ?_
        refine tU (i := 19) (N := (some 62)) (bA 22 1048575) (by kernel_rfl) rfl hHeld (by (constructor; (rintro w' ⟨s0, s1, s2, s3⟩; go_simp; (with_reducible rfl)); (simp only [Act.put, ua, ub, uc, uh, ui]; rfl))) ?_
        refine one_ (i := 20) (N := (some 63)) #[yY, yY, yY, yY, yY, yY, yY, yY, yY, yY, yY, yY, yY, yY, yY, yY, yY, yY, yY, yY, yY, xX] rfl rfl (by kernel_rfl) (by decide) (fun K hK => ?_)
        refine goes_ Try.func16 (by kernel_rfl) rfl #[.agg #[.int .u64 (yx : Int), .int .i64 (ix : Int)], .agg #[.int .u64 (key : Int), .int .i64 (id : Int)]] (by rfl) rfl rfl (by (try simp only [ug, uo, up]); first | done | rfl) ?_
        refine (entry_Less.calls 5 (yx : Int) (ix : Int) (key : Int) (id : Int) bl _ HLE.out).mono ?_
        rintro q w5 ⟨rfl, hb⟩
        have HB5 := Aside0.mk (show Below wn.heap.size wn w5 from below_then (below_drew (Below.refl wn.heap.size wn)) (Nat.le_refl _) hb)
        clear hb
        refine ⟨_, rfl, ?_⟩
        refine hK.out _ _ ⟨pw_cell_below HB5.out u0, pw_cell_below HB5.out u3, pw_cell_below HB5.out g0, pw_cell_below HB5.out g1⟩ (fun hHeld => ?_)
        clear hK K
        refine norm_ (a' := ?_) ?_ ?_; rotate_left; (· (show Act.put _ (some 63) _ = _); (simp only [Act.put, ua, ub, uc, uh, ui]); rfl)
        refine pU (i := 21) (N := (some 64)) (bA 22 4194303) (by kernel_rfl) rfl ?_
        refine done_ (by kernel_rfl) ?_
        cases bl with
        | true =>
         go_wp2
         go_roundw
         case rel => exact ⟨_, _, m + 1, by first | rfl | go_num, by have h1 := HLS.out; rw [HPP.out] at h1; have h2 := HT.out; have h3 := HM.out; simp at h1; omega, ⟨(HRN.out.kept (grown_none HB5.out) (by simp) (by simp))⟩, ⟨by have h1 := HLS.out; rw [HPP.out] at h1; have h2 := HT.out; simp at h1; omega⟩, ⟨blk_below HGN.out HB5.out⟩, ⟨uv HBN.out HB5.out⟩⟩
         case measure => rw [(HRN.out.kept (grown_none HB5.out) (by simp) (by simp)).left_eq, HRG.out.left_eq]; exact HLT.out
        | false =>
         go_wp2
         go_roundw
         case rel => exact ⟨_, _, m, by first | rfl | go_num, by exact hm, ⟨(HRN.out.kept (grown_none HB5.out) (by simp) (by simp))⟩, ⟨by have h1 := HLS.out; rw [HPP.out] at h1; have h2 := HT.out; simp at h1; omega⟩, ⟨blk_below HGN.out HB5.out⟩, ⟨uv HBN.out HB5.out⟩⟩
         case measure => rw [(HRN.out.kept (grown_none HB5.out) (by simp) (by simp)).left_eq, HRG.out.left_eq]; exact HLT.out
      · have HPP := Aside0.mk (show passP L p j id key ix = false from by unfold passP; rw [HLI.out]; simp only [HCC.out]; rw [show (kx == 2) = false by rw [beq_eq_false_iff_ne]; exact hk2]; simp)
        have d2 : ((kx : Int) == 2) = false := by rw [beq_eq_false_iff_ne]; omega
        have d3 : ¬ (kx : Int) = 2 := by omega
        clear hk10 hij
        go_upto_region 11 with fail
        refine start_ (n := 22) (S := fun w' => w'.cell? (ad.add (i * 6)) = some (.int .i64 (kx : Int))) (ds := []) #[xX, xX, xX, xX, xX, xX, xX, xX, xX, xX, xX, xX, xX, xX, xX, xX, xX, xX, xX, xX, xX, xX] (by kernel_rfl) rfl rfl u0 (fun hHeld => ?_)
        refine pU (i := 0) (N := (some 43)) (bA 22 1) (by kernel_rfl) rfl ?_
        refine pU (i := 1) (N := (some 44)) (bA 22 3) (by kernel_rfl) rfl ?_
        refine pU (i := 2) (N := (some 45)) (bA 22 7) (by kernel_rfl) rfl ?_
        refine pU (i := 3) (N := (some 46)) (bA 22 15) (by kernel_rfl) rfl ?_
        refine pU (i := 4) (N := (some 47)) (bA 22 31) (by kernel_rfl) rfl ?_
        refine pU (i := 5) (N := (some 48)) (bA 22 63) (by kernel_rfl) rfl ?_
        refine pU (i := 6) (N := (some 49)) (bA 22 127) (by kernel_rfl) rfl ?_
        refine pU (i := 7) (N := (some 50)) (bA 22 255) (by kernel_rfl) rfl ?_
        refine take_ (i := 8) (N := (some 51)) (v := ?_) (a' := ?_) (bA 22 511) rfl rfl (by kernel_rfl) (fun _ _ _ h => h) (Or.inl ⟨by rfl, ?_⟩) hHeld ?_ ?_
        rotate_left
        · intro w' s0
          go_simp
          with_reducible rfl
        rotate_left
        · simp only [Act.put, ua, ub, uc, uh, ui]
          rfl
        refine pU (i := 9) (N := (some 52)) (bA 22 1023) (by kernel_rfl) rfl ?_
        refine pU (i := 10) (N := (some 53)) (bA 22 2047) (by kernel_rfl) rfl ?_
        refine pU (i := 11) (N := (some 54)) (bA 22 4095) (by kernel_rfl) rfl ?_
        refine un (i := 12) (N := (some 55)) (v := undef) (a' := ?_) (bA 22 8191) rfl rfl (by kernel_rfl) (fun _ _ _ h => h) (Or.inr ⟨by rfl, rfl⟩) ?_ ?_
        rotate_left
        · simp only [Act.put, ua, ub, uc, uh, ui]
          rfl
        refine un (i := 13) (N := (some 56)) (v := undef) (a' := ?_) (bA 22 16383) rfl rfl (by kernel_rfl) (fun _ _ _ h => h) (Or.inr ⟨by rfl, rfl⟩) ?_ ?_
        rotate_left
        · simp only [Act.put, ua, ub, uc, uh, ui]
          rfl
        refine un (i := 14) (N := (some 57)) (v := undef) (a' := ?_) (bA 22 32767) rfl rfl (by kernel_rfl) (fun _ _ _ h => h) (Or.inr ⟨by rfl, rfl⟩) ?_ ?_
        rotate_left
        · simp only [Act.put, ua, ub, uc, uh, ui]
          rfl
        refine un (i := 15) (N := (some 58)) (v := undef) (a' := ?_) (bA 22 65535) rfl rfl (by kernel_rfl) (fun _ _ _ h => h) (Or.inr ⟨by rfl, rfl⟩) ?_ ?_
        rotate_left
        · simp only [Act.put, ua, ub, uc, uh, ui]
          rfl
        refine un (i := 16) (N := (some 59)) (v := undef) (a' := ?_) (bA 22 131071) rfl rfl (by kernel_rfl) (fun _ _ _ h => h) (Or.inr ⟨by rfl, rfl⟩) ?_ ?_
        rotate_left
        · simp only [Act.put, ua, ub, uc, uh, ui]
          rfl
        refine un (i := 17) (N := (some 60)) (v := undef) (a' := ?_) (bA 22 262143) rfl rfl (by kernel_rfl) (fun _ _ _ h => h) (Or.inr ⟨by rfl, rfl⟩) ?_ ?_
        rotate_left
        · simp only [Act.put, ua, ub, uc, uh, ui]
          rfl
        refine un (i := 18) (N := (some 61)) (v := undef) (a' := ?_) (bA 22 524287) rfl rfl (by kernel_rfl) (fun _ _ _ h => h) (Or.inr ⟨by rfl, rfl⟩) ?_ ?_
        rotate_left
        · simp only [Act.put, ua, ub, uc, uh, ui]
          rfl
        refine un (i := 19) (N := (some 62)) (v := undef) (a' := ?_) (bA 22 1048575) rfl rfl (by kernel_rfl) (fun _ _ _ h => h) (Or.inr ⟨by rfl, rfl⟩) ?_ ?_
        rotate_left
        · simp only [Act.put, ua, ub, uc, uh, ui]
          rfl
        refine un (i := 20) (N := (some 63)) (v := undef) (a' := ?_) (bA 22 2097151) rfl rfl (by kernel_rfl) (fun _ _ _ h => h) (Or.inr ⟨by rfl, rfl⟩) ?_ ?_
        rotate_left
        · simp only [Act.put, ua, ub, uc, uh, ui]
          rfl
        refine pU (i := 21) (N := (some 64)) (bA 22 4194303) (by kernel_rfl) rfl ?_
        refine done_ (by kernel_rfl) ?_
        go_wp2
        go_roundw
        case rel => exact ⟨_, _, m, rfl, hm, ⟨HRN.out.kept (grown_none (below_drew (Below.refl _ _))) (by simp) (by simp)⟩, ⟨by have h1 := HLS.out; rw [HPP.out] at h1; have h2 := HT.out; simp at h1; omega⟩, ⟨HGN.out⟩, ⟨below_drew HBN.out⟩⟩
        case measure => rw [(HRN.out.kept (grown_none (below_drew (Below.refl _ _))) (by simp) (by simp)).left_eq, HRG.out.left_eq]; exact HLT.out
    · have HPP := Aside0.mk (show passP L p j id key ix = false from by unfold passP; rw [HLI.out]; simp only [HCC.out]; rw [decide_eq_false hij]; simp)
      have d1 : ¬ (i : Int) < (j : Int) := by omega
      clear hk10 hij
      go_upto_region 11 with fail
      refine start_ (n := 22) (S := fun w' => True) (ds := []) #[xX, xX, xX, xX, xX, xX, xX, xX, xX, xX, xX, xX, xX, xX, xX, xX, xX, xX, xX, xX, xX, xX] (by kernel_rfl) rfl rfl trivial (fun hHeld => ?_)
      refine pU (i := 0) (N := (some 43)) (bA 22 1) (by kernel_rfl) rfl ?_
      refine pU (i := 1) (N := (some 44)) (bA 22 3) (by kernel_rfl) rfl ?_
      refine pU (i := 2) (N := (some 45)) (bA 22 7) (by kernel_rfl) rfl ?_
      refine pU (i := 3) (N := (some 46)) (bA 22 15) (by kernel_rfl) rfl ?_
      refine un (i := 4) (N := (some 47)) (v := undef) (a' := ?_) (bA 22 31) rfl rfl (by kernel_rfl) (fun _ _ _ h => h) (Or.inr ⟨by rfl, rfl⟩) ?_ ?_
      rotate_left
      · simp only [Act.put, ua, ub, uc, uh, ui]
        rfl
      refine un (i := 5) (N := (some 48)) (v := undef) (a' := ?_) (bA 22 63) rfl rfl (by kernel_rfl) (fun _ _ _ h => h) (Or.inr ⟨by rfl, rfl⟩) ?_ ?_
      rotate_left
      · simp only [Act.put, ua, ub, uc, uh, ui]
        rfl
      refine un (i := 6) (N := (some 49)) (v := undef) (a' := ?_) (bA 22 127) rfl rfl (by kernel_rfl) (fun _ _ _ h => h) (Or.inr ⟨by rfl, rfl⟩) ?_ ?_
      rotate_left
      · simp only [Act.put, ua, ub, uc, uh, ui]
        rfl
      refine un (i := 7) (N := (some 50)) (v := undef) (a' := ?_) (bA 22 255) rfl rfl (by kernel_rfl) (fun _ _ _ h => h) (Or.inr ⟨by rfl, rfl⟩) ?_ ?_
      rotate_left
      · simp only [Act.put, ua, ub, uc, uh, ui]
        rfl
      refine un (i := 8) (N := (some 51)) (v := undef) (a' := ?_) (bA 22 511) rfl rfl (by kernel_rfl) (fun _ _ _ h => h) (Or.inr ⟨by rfl, rfl⟩) ?_ ?_
      rotate_left
      · simp only [Act.put, ua, ub, uc, uh, ui]
        rfl
      refine un (i := 9) (N := (some 52)) (v := undef) (a' := ?_) (bA 22 1023) rfl rfl (by kernel_rfl) (fun _ _ _ h => h) (Or.inr ⟨by rfl, rfl⟩) ?_ ?_
      rotate_left
      · simp only [Act.put, ua, ub, uc, uh, ui]
        rfl
      refine pU (i := 10) (N := (some 53)) (bA 22 2047) (by kernel_rfl) rfl ?_
      refine pU (i := 11) (N := (some 54)) (bA 22 4095) (by kernel_rfl) rfl ?_
      refine un (i := 12) (N := (some 55)) (v := undef) (a' := ?_) (bA 22 8191) rfl rfl (by kernel_rfl) (fun _ _ _ h => h) (Or.inr ⟨by rfl, rfl⟩) ?_ ?_
      rotate_left
      · simp only [Act.put, ua, ub, uc, uh, ui]
        rfl
      refine un (i := 13) (N := (some 56)) (v := undef) (a' := ?_) (bA 22 16383) rfl rfl (by kernel_rfl) (fun _ _ _ h => h) (Or.inr ⟨by rfl, rfl⟩) ?_ ?_
      rotate_left
      · simp only [Act.put, ua, ub, uc, uh, ui]
        rfl
      refine un (i := 14) (N := (some 57)) (v := undef) (a' := ?_) (bA 22 32767) rfl rfl (by kernel_rfl) (fun _ _ _ h => h) (Or.inr ⟨by rfl, rfl⟩) ?_ ?_
      rotate_left
      · simp only [Act.put, ua, ub, uc, uh, ui]
        rfl
      refine un (i := 15) (N := (some 58)) (v := undef) (a' := ?_) (bA 22 65535) rfl rfl (by kernel_rfl) (fun _ _ _ h => h) (Or.inr ⟨by rfl, rfl⟩) ?_ ?_
      rotate_left
      · simp only [Act.put, ua, ub, uc, uh, ui]
        rfl
      refine un (i := 16) (N := (some 59)) (v := undef) (a' := ?_) (bA 22 131071) rfl rfl (by kernel_rfl) (fun _ _ _ h => h) (Or.inr ⟨by rfl, rfl⟩) ?_ ?_
      rotate_left
      · simp only [Act.put, ua, ub, uc, uh, ui]
        rfl
      refine un (i := 17) (N := (some 60)) (v := undef) (a' := ?_) (bA 22 262143) rfl rfl (by kernel_rfl) (fun _ _ _ h => h) (Or.inr ⟨by rfl, rfl⟩) ?_ ?_
      rotate_left
      · simp only [Act.put, ua, ub, uc, uh, ui]
        rfl
      refine un (i := 18) (N := (some 61)) (v := undef) (a' := ?_) (bA 22 524287) rfl rfl (by kernel_rfl) (fun _ _ _ h => h) (Or.inr ⟨by rfl, rfl⟩) ?_ ?_
      rotate_left
      · simp only [Act.put, ua, ub, uc, uh, ui]
        rfl
      refine un (i := 19) (N := (some 62)) (v := undef) (a' := ?_) (bA 22 1048575) rfl rfl (by kernel_rfl) (fun _ _ _ h => h) (Or.inr ⟨by rfl, rfl⟩) ?_ ?_
      rotate_left
      · simp only [Act.put, ua, ub, uc, uh, ui]
        rfl
      refine un (i := 20) (N := (some 63)) (v := undef) (a' := ?_) (bA 22 2097151) rfl rfl (by kernel_rfl) (fun _ _ _ h => h) (Or.inr ⟨by rfl, rfl⟩) ?_ ?_
      rotate_left
      · simp only [Act.put, ua, ub, uc, uh, ui]
        rfl
      refine pU (i := 21) (N := (some 64)) (bA 22 4194303) (by kernel_rfl) rfl ?_
      refine done_ (by kernel_rfl) ?_
      go_wp2
      go_roundw
      case rel => exact ⟨_, _, m, rfl, hm, ⟨HRN.out.kept (grown_none (below_drew (Below.refl _ _))) (by simp) (by simp)⟩, ⟨by have h1 := HLS.out; rw [HPP.out] at h1; have h2 := HT.out; simp at h1; omega⟩, ⟨HGN.out⟩, ⟨below_drew HBN.out⟩⟩
      case measure => rw [(HRN.out.kept (grown_none (below_drew (Below.refl _ _))) (by simp) (by simp)).left_eq, HRG.out.left_eq]; exact HLT.out
end Go.Proofs.Ytidjppjijeepnaa.V
end
section
set_option linter.unusedVariables false
set_option linter.unusedSimpArgs false
namespace Go.Proofs.Ytidjppjijeepnaa.V
open Go.RowKit Go.Proofs.YtidjppjijeepnaaW.PrintWords Go.Proofs.YtidjppjijeepnaaW.PrintLast Go.Proofs.YtidjppjijeepnaaW.PrintMore
set_option maxRecDepth 100000 in
set_option maxHeartbeats 4000000 in
theorem passed_no (L : List Cr) (A : Option Addr) (c : Nat) (w : World) (l : List S25) (hl : l = L.map mkR) (hr : Kd.C k25 w A l.length l) (hc : l.length ≤ c) (p : Nat) (h : kdR L p ≠ 3) :
 Calls Try.prog 6 #[.slice A l.length c, .int .i64 p] w fun e w' => e = .returned (.int .i64 (-1)) ∧ Below w.heap.size w w' := by
 have HIS := Aside0.mk (show bound_is.f l (p : Int) 3 = some false by
  have h1 := isR_told L p 3
  rw [← hl] at h1
  rw [show (kdR L p == 3) = false by simpa using h, Bool.and_false] at h1
  exact h1)
 have HR := Aside0.mk hr
 clear hl hr h
 go_enter Try.func6, Try.ntmps6
 go_wp2_with fail
 refine (bound_is.calls A c l (p : Int) 3 false w HR.out hc HIS.out).mono ?_
 rintro e w1 ⟨rfl, hb⟩
 have HB1 := Aside0.mk hb.below
 clear hb
 go_wp2
 go_ret
 exact ⟨rfl, HB1.out⟩
set_option maxRecDepth 100000 in
set_option maxHeartbeats 4000000 in
theorem rho_walk (L : List Cr) (hf : FewR L) (A : Option Addr) (c : Nat) (w : World) (l : List S25) (hl : l = L.map mkR) (hr : Kd.C k25 w A l.length l) (hc : l.length ≤ c) (p j id key yk v : Nat) (h : LookR L p j id key yk) (hp : p + 1 = L.length) (hno : ∀ q, q < p → kdR L q ≠ 3) (hv : passN L p j id key = v) :
 Calls Try.prog 7 #[.slice A l.length c] w fun e w' => e = .returned (.int .i64 v) ∧ Below w.heap.size w w' := by
 have HR := Aside0.mk hr
 have HF := Aside0.mk hf
 have HL := Aside0.mk hl
 have HK := Aside0.mk h
 have hlen : l.length = p + 1 := by rw [hl, List.length_map, hp]
 have hl1 : l.length ≤ 1000 := by rw [hlen, hp]; exact hf.2
 have HLN := Aside0.mk hlen
 have HNO := Aside0.mk hno
 have HV := Aside0.mk hv
 clear hf hl hr h hno hp hv hlen
 go_enter Try.func7, Try.ntmps7
 go_wp2_with fail
 go_loopw [3, 7] (fun n i wr => ∃ m : Nat, m ≤ p + 1 ∧ i = .int .i64 (m : Int) ∧ n = .int .i64 ((if m = p + 1 then v else 0 : Nat) : Int) ∧ Aside0 (Below w.heap.size w wr)) (fun _ i _ => p + 1 - (intOf i).toNat)
 case atStart => exact ⟨0, by omega, rfl, by rw [if_neg (by omega)]; rfl, ⟨Below.refl _ _⟩⟩
 case round =>
  obtain ⟨m, hm, rfl, rfl, HB⟩ := hrel
  by_cases hlt : m < p + 1
  · have hlt2 : (m : Int) < (l.length : Int) := by have := HLN.out; omega
    have hw1 : IntKind.i64.wrap ((m : Int) + 1) = (m : Int) + 1 := IntWalk.i64_in _ (by have := HLN.out; omega)
    rw [if_neg (show ¬ m = p + 1 by omega)]
    by_cases hmp : m = p
    · subst hmp
      go_wp2_with fail
      refine (passed_yes L HF.out A c wr l HL.out (Kd.C_below HR.out HB.out) hc m j id key yk HK.out).mono ?_
      rintro e w1 ⟨rfl, hb⟩
      rw [HV.out]
      have HB1 := Aside0.mk (below_step HB.out hb)
      clear hb
      by_cases h0 : v = 0
      · subst h0
        go_wp2
        go_roundw
        case rel => exact ⟨m + 1, by omega, by go_num, by rw [if_pos rfl]; rfl, HB1⟩
        case measure => simp [intOf]
      · have h1 : (0 : Int) < (v : Int) := by omega
        have h2 : 0 < v := by omega
        go_wp2
        go_roundw
        case rel => exact ⟨m + 1, by omega, by go_num, by rw [if_pos rfl], HB1⟩
        case measure => simp [intOf]
    · go_wp2_with fail
      refine (passed_no L A c wr l HL.out (Kd.C_below HR.out HB.out) hc m (HNO.out m (by omega))).mono ?_
      rintro e w1 ⟨rfl, hb⟩
      have HB1 := Aside0.mk (below_step HB.out hb)
      clear hb
      go_wp2
      go_roundw
      case rel => exact ⟨m + 1, by omega, by go_num, by rw [if_neg (by omega)]; rfl, HB1⟩
      case measure => simp [intOf]; omega
  · obtain rfl : m = p + 1 := by omega
    have hlt2 : ¬ ((p + 1 : Nat) : Int) < (l.length : Int) := by have := HLN.out; omega
    rw [if_pos rfl]
    obtain ⟨jj, hjj⟩ : ∃ jj : Int, ((p + 1 : Nat) : Int) = jj := ⟨_, rfl⟩
    rw [hjj] at hlt2 ⊢
    clear hjj
    go_wp2
    go_ret
    exact ⟨rfl, HB.out⟩
end Go.Proofs.Ytidjppjijeepnaa.V
end
