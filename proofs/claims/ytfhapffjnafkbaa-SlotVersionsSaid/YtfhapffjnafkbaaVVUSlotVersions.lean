-- a text of this work, without what this claim doesn't use (wip/shake.py)
import Derived.Test.YtfhapffjnafkbaaVVSlotH
import Derived.Deep.RegionWith
import Derived.Deep.RegionHeld3
import Derived.Test.YtfhapffjnafkbaaVWMore
import Derived.SizedLaws
import Derived.ChangeSlices
import Derived.WalkKit
import Derived.ProofKit
import Derived.OpenShut
import Derived.ShutString
import Derived.ChangeOld
import Derived.Below
import Derived.Deep.Slices
section
set_option linter.unusedVariables false
set_option linter.unusedSimpArgs false
namespace Go.Proofs.Ytfhapffjnafkbaa.V
open Go.RowKit Go.Proofs.YtfhapffjnafkbaaW.PrintWords Go.Proofs.YtfhapffjnafkbaaW.PrintLast Go.Proofs.YtfhapffjnafkbaaW.PrintMore
structure StV (w wr : World) (p g vb hb : Nat) (o q : One) : Prop where
  sl : SlotsAt wr p g [o, q]
  v : wr.heap[vb]? = some (.cells #[.int .u64 o.ver, .int .u64 q.ver] 28 (0, 0))
  h : wr.heap[hb]? = some (.cells #[.bool o.full, .bool q.full] 29 (0, 0))
  ne : p ≠ vb ∧ p ≠ hb ∧ g ≠ vb ∧ g ≠ hb ∧ vb ≠ hb
  old : w.heap.size ≤ p ∧ w.heap.size ≤ g ∧ w.heap.size ≤ vb ∧ w.heap.size ≤ hb
  bel : Below w.heap.size w wr
namespace StV
variable {w wr w2 : World} {p g vb hb : Nat} {o q : One}
theorem below (h : StV w wr p g vb hb o q) (hb' : Below wr.heap.size wr w2) : StV w w2 p g vb hb o q :=
 ⟨h.sl.below hb', (hb'.block _ (Array.getElem?_eq_some_iff.1 h.v).1).trans h.v, (hb'.block _ (Array.getElem?_eq_some_iff.1 h.h).1).trans h.h, h.ne, h.old, below_step h.bel hb'⟩
theorem drew (h : StV w wr p g vb hb o q) : StV w wr.drew p g vb hb o q := ⟨h.sl, h.v, h.h, h.ne, h.old, below_drew h.bel⟩
theorem cells (h : StV w wr p g vb hb o q) : wr.cell? ⟨vb, 0, none⟩ = some (.int .u64 o.ver) ∧ wr.cell? ⟨vb, 1, none⟩ = some (.int .u64 q.ver) ∧ wr.cell? ⟨hb, 0, none⟩ = some (.bool o.full) ∧ wr.cell? ⟨hb, 1, none⟩ = some (.bool q.full) :=
 ⟨cell_row h.v 0, cell_row h.v 1, cell_row h.h 0, cell_row h.h 1⟩
theorem free (h : StV w wr p g vb hb o q) : wr.frozen? ⟨vb, 0, none⟩ = false ∧ wr.frozen? ⟨vb, 1, none⟩ = false ∧ wr.frozen? ⟨hb, 0, none⟩ = false ∧ wr.frozen? ⟨hb, 1, none⟩ = false :=
 ⟨frozen_row h.v 0, frozen_row h.v 1, frozen_row h.h 0, frozen_row h.h 1⟩
theorem put0 {o2 : One} (h : StV w wr p g vb hb o q) (hs : SlotsAt w2 p g [o2, q]) (hg : wr.grownBy w2 (some g)) : StV w ((w2.setCell ⟨hb, 0, none⟩ (.bool o2.full)).setCell ⟨vb, 0, none⟩ (.int .u64 o2.ver)) p g vb hb o2 q := by
 obtain ⟨h1, h2, h3, h4, h5⟩ := h.ne
 have hv := (hg.block vb (Array.getElem?_eq_some_iff.1 h.v).1 (by intro e; injection e with e; exact h3 e.symm)).trans h.v
 have hh := (hg.block hb (Array.getElem?_eq_some_iff.1 h.h).1 (by intro e; injection e with e; exact h4 e.symm)).trans h.h
 refine ⟨(hs.other h2 h4).other h1 h3, ?_, ?_, h.ne, h.old, ?_⟩
 · rw [setc_at (v := .int .u64 o2.ver) (j := 0) ((setc_ne h5).trans hv)]; rfl
 · rw [setc_ne (fun e => h5 e.symm), setc_at (v := .bool o2.full) (j := 0) hh]; rfl
 · exact ((pw_below_grown h.bel _ h.bel.size hg (fun k hk => by injection hk with hk; have := h.old; omega)).setCell h.old.2.2.2 _).setCell h.old.2.2.1 _
theorem put1 {q2 : One} (h : StV w wr p g vb hb o q) (hs : SlotsAt w2 p g [o, q2]) (hg : wr.grownBy w2 (some g)) : StV w ((w2.setCell ⟨hb, 1, none⟩ (.bool q2.full)).setCell ⟨vb, 1, none⟩ (.int .u64 q2.ver)) p g vb hb o q2 := by
 obtain ⟨h1, h2, h3, h4, h5⟩ := h.ne
 have hv := (hg.block vb (Array.getElem?_eq_some_iff.1 h.v).1 (by intro e; injection e with e; exact h3 e.symm)).trans h.v
 have hh := (hg.block hb (Array.getElem?_eq_some_iff.1 h.h).1 (by intro e; injection e with e; exact h4 e.symm)).trans h.h
 refine ⟨(hs.other h2 h4).other h1 h3, ?_, ?_, h.ne, h.old, ?_⟩
 · rw [setc_at (v := .int .u64 q2.ver) (j := 1) ((setc_ne h5).trans hv)]; rfl
 · rw [setc_ne (fun e => h5 e.symm), setc_at (v := .bool q2.full) (j := 1) hh]; rfl
 · exact ((pw_below_grown h.bel _ h.bel.size hg (fun k hk => by injection hk with hk; have := h.old; omega)).setCell h.old.2.2.2 _).setCell h.old.2.2.1 _
theorem same (h : StV w wr p g vb hb o q) (hs : SlotsAt w2 p g [o, q]) (hg : wr.grownBy w2 (some g)) : StV w w2 p g vb hb o q := by
 obtain ⟨h1, h2, h3, h4, h5⟩ := h.ne
 exact ⟨hs, (hg.block vb (Array.getElem?_eq_some_iff.1 h.v).1 (by intro e; injection e with e; exact h3 e.symm)).trans h.v, (hg.block hb (Array.getElem?_eq_some_iff.1 h.h).1 (by intro e; injection e with e; exact h4 e.symm)).trans h.h, h.ne, h.old,
  pw_below_grown h.bel _ h.bel.size hg (fun k hk => by injection hk with hk; have := h.old; omega)⟩
theorem seen (h : StV w wr p g vb hb o q) (hg : wr.grownBy w2 (some g)) : w2.heap[vb]? = some (.cells #[.int .u64 o.ver, .int .u64 q.ver] 28 (0, 0)) ∧ w2.heap[hb]? = some (.cells #[.bool o.full, .bool q.full] 29 (0, 0)) := by
 obtain ⟨h1, h2, h3, h4, h5⟩ := h.ne
 exact ⟨(hg.block vb (Array.getElem?_eq_some_iff.1 h.v).1 (by intro e; injection e with e; exact h3 e.symm)).trans h.v, (hg.block hb (Array.getElem?_eq_some_iff.1 h.h).1 (by intro e; injection e with e; exact h4 e.symm)).trans h.h⟩
end StV
set_option maxRecDepth 100000 in
set_option maxHeartbeats 8000000 in
theorem slotVersions_walk (A : Option Addr) (c : Nat) (l : List Int) (w : World) (hr : Kd.C (Kd.int .i64) w A l.length l) (hc : l.length ≤ c) (hlen : l.length ≤ 9223372036854775807) :
 Calls Try.prog 3 #[.slice A l.length c] w fun e w' => e = .returned (.bool true) ∧ Below w.heap.size w w' := by
 have HR := Aside0.mk hr
 clear hr
 go_enter Try.func3, Try.ntmps3
 go_wp2_with fail
 refine (slot_new 2 w (by omega) (by omega)).mono ?_
 rintro e w1 ⟨p, g, hp, hg, rfl, hs1, hb1⟩
 have hlt := hs1.lt
 have ha := (Below.refl w1.heap.size w1).alloc (Nat.le_refl _) (.cells #[.int .u64 0, .int .u64 0] 28)
 have hb := ha.alloc (by simp) (.cells #[.bool false, .bool false] 29)
 have HST : Aside0 (StV w ((w1.alloc (.cells #[.int .u64 0, .int .u64 0] 28)).alloc (.cells #[.bool false, .bool false] 29)) p g w1.heap.size (w1.heap.size + 1) zeroO zeroO) := ⟨{
  sl := hs1.below hb
  v := (((Below.refl _ _).alloc (Nat.le_refl _) _).block w1.heap.size (by simp)).trans (alloc_at w1 _)
  h := by have := alloc_at (w1.alloc (.cells #[.int .u64 0, .int .u64 0] 28)) (.cells #[.bool false, .bool false] 29); rwa [show (w1.alloc (.cells #[.int .u64 0, .int .u64 0] 28)).heap.size = w1.heap.size + 1 by simp] at this
  ne := by omega
  old := by have := hb1.size; omega
  bel := below_step hb1 hb }⟩
 clear hs1 hb1 hlt ha hb hp hg
 go_wp2
 go_loopw [7] (fun i wr => ∃ (k : Nat) (o q : One), i = .int .i64 k ∧ k ≤ 60 ∧ k ≤ l.length ∧ Aside0 (StV w wr p g w1.heap.size (w1.heap.size + 1) o q)) (fun i _ => 60 - (intOf i).toNat)
 case atStart => exact ⟨0, zeroO, zeroO, rfl, by omega, by omega, HST⟩
 case round =>
  clear HST
  obtain ⟨k, o, q, rfl, hk, hkl, HS⟩ := hrel
  by_cases h1 : k < l.length ∧ k < 60
  · obtain ⟨hk1, hk2⟩ := h1
    obtain ⟨ad, e1, hx⟩ := Kd.at_int HR.out (k : Int) (by omega) (by omega)
    cases e1
    replace hx := (HS.out.bel.cell (World.block_lt_of_cell? w _ hx)).trans hx
    rw [Int.toNat_natCast] at hx
    generalize rd l (k : Int) = x at hx
    have hb := and_maskS x 1 (by omega)
    have hb2 := and_maskS (x / 2) 1 (by omega)
    rw [show ((1 : Nat) : Int) = 1 from rfl] at hb hb2
    obtain ⟨cv0, cv1, ch0, ch1⟩ := HS.out.cells
    obtain ⟨fv0, fv1, fh0, fh1⟩ := HS.out.free
    by_cases ht : bits BinOp.and IntKind.i64 x 1 = 0
    · clear hb
      by_cases hp : bits BinOp.and IntKind.i64 (x / 2) 1 = 0
      · 
        clear hb2
        cases hf : o.full with
        | true =>
         rw [hf] at ch0
         have HSd := Aside0.mk HS.out.drew
         have HE := Aside0.mk (show putR [o, q] 0 0 (k : Int) = (7, [o, q]) by simp [putR, slotAt, hf])
         have hf0 := Aside0.mk hf
         clear hf
         go_wp2
         go_region_with (first | (go_at_call 14; (refine (slot_put p g [o, q] 0 0 _ _ HSd.out.sl).mono ?_); rintro e w3 ⟨rfl, hs3, hg3⟩; rw [HE.out] at hs3 ⊢; have HS3 := Aside0.mk (HSd.out.same hs3 hg3); obtain ⟨dv0, dv1, dh0, dh1⟩ := HS3.out.cells; rw [hf0.out] at dh0; clear hs3 hg3))
         all_goals
          go_wp2
          go_loopw [11] (fun i wr2 => ∃ m : Nat, m ≤ 2 ∧ i = .int .i64 m ∧ Aside0 (StV w wr2 p g w1.heap.size (w1.heap.size + 1) o q)) (fun i _ => 2 - (intOf i).toNat)
          case atStart => exact ⟨0, by omega, rfl, HS3⟩
          case round =>
           obtain ⟨m, hm, rfl, HS5⟩ := hrel
           have hm3 : m = 0 ∨ m = 1 ∨ m = 2 := by omega
           rcases hm3 with rfl | rfl | rfl
           · go_wp2_with (first | (go_at_call 16; (refine (slot_get p g [o, q] 0 _ HS5.out.sl).mono ?_); rintro e w6 ⟨rfl, hb6⟩; rw [show getR [o, q] 0 = o from rfl]; have HS6 := Aside0.mk ((HS5.out.below hb6).below ((Below.refl w6.heap.size w6).alloc (Nat.le_refl _) (.cells #[.int .u64 (o : One).key, .int .i64 (o : One).id] 33))); obtain ⟨ev0, ev1, eh0, eh1⟩ := HS6.out.cells; clear hb6))
             go_roundw
             case rel => exact ⟨1, by omega, by go_num, HS6⟩
             case measure => simp [intOf]
           · go_wp2_with (first | (go_at_call 16; (refine (slot_get p g [o, q] 1 _ HS5.out.sl).mono ?_); rintro e w6 ⟨rfl, hb6⟩; rw [show getR [o, q] 1 = q from rfl]; have HS6 := Aside0.mk ((HS5.out.below hb6).below ((Below.refl w6.heap.size w6).alloc (Nat.le_refl _) (.cells #[.int .u64 (q : One).key, .int .i64 (q : One).id] 33))); obtain ⟨ev0, ev1, eh0, eh1⟩ := HS6.out.cells; clear hb6))
             go_roundw
             case rel => exact ⟨2, by omega, by go_num, HS6⟩
             case measure => simp [intOf]
           · go_wp2
             go_roundw
             case rel => exact ⟨k + 1, o, q, by go_num, by omega, by omega, HS5⟩
             case measure => simp [intOf]; omega
        | false =>
         rw [hf] at ch0
         have hfl := Aside0.mk hf
         have HSd := Aside0.mk HS.out.drew
         have HE := Aside0.mk (show putR [o, q] 0 0 (k : Int) = (0, [⟨0, (k : Int), true, IntKind.u64.wrap (o.ver + 1)⟩, q]) by simp [putR, slotAt, hf])
         clear hf
         go_wp2
         go_region_with (first | (go_at_call 14; (refine (slot_put p g [o, q] 0 0 _ _ HSd.out.sl).mono ?_); rintro e w3 ⟨rfl, hs3, hg3⟩; rw [HE.out] at hs3 ⊢; obtain ⟨hv3, hh3⟩ := HSd.out.seen hg3; have dv0 := cell_row hv3 0; have dh0 := cell_row hh3 0; have ev0 := frozen_row hv3 0; have eh0 := frozen_row hh3 0; simp only [List.getElem?_toArray, List.getElem?_cons_zero, List.getElem?_cons_succ] at dv0 dh0; clear hv3 hh3; rw [hfl.out] at dh0; have HS3 := Aside0.mk (HSd.out.put0 hs3 hg3); clear hs3 hg3))
         all_goals
          go_wp2
          go_loopw [11] (fun i wr2 => ∃ m : Nat, m ≤ 2 ∧ i = .int .i64 m ∧ Aside0 (StV w wr2 p g w1.heap.size (w1.heap.size + 1) ⟨0, (k : Int), true, IntKind.u64.wrap (o.ver + 1)⟩ q)) (fun i _ => 2 - (intOf i).toNat)
          case atStart => exact ⟨0, by omega, rfl, HS3⟩
          case round =>
           obtain ⟨m, hm, rfl, HS5⟩ := hrel
           have hm3 : m = 0 ∨ m = 1 ∨ m = 2 := by omega
           rcases hm3 with rfl | rfl | rfl
           · go_wp2_with (first | (go_at_call 16; (refine (slot_get p g [⟨0, (k : Int), true, IntKind.u64.wrap (o.ver + 1)⟩, q] 0 _ HS5.out.sl).mono ?_); rintro e w6 ⟨rfl, hb6⟩; rw [show getR [⟨0, (k : Int), true, IntKind.u64.wrap (o.ver + 1)⟩, q] 0 = ⟨0, (k : Int), true, IntKind.u64.wrap (o.ver + 1)⟩ from rfl]; have HS6 := Aside0.mk ((HS5.out.below hb6).below ((Below.refl w6.heap.size w6).alloc (Nat.le_refl _) (.cells #[.int .u64 (⟨0, (k : Int), true, IntKind.u64.wrap (o.ver + 1)⟩ : One).key, .int .i64 (⟨0, (k : Int), true, IntKind.u64.wrap (o.ver + 1)⟩ : One).id] 33))); obtain ⟨ev0, ev1, eh0, eh1⟩ := HS6.out.cells; clear hb6))
             go_roundw
             case rel => exact ⟨1, by omega, by go_num, HS6⟩
             case measure => simp [intOf]
           · go_wp2_with (first | (go_at_call 16; (refine (slot_get p g [⟨0, (k : Int), true, IntKind.u64.wrap (o.ver + 1)⟩, q] 1 _ HS5.out.sl).mono ?_); rintro e w6 ⟨rfl, hb6⟩; rw [show getR [⟨0, (k : Int), true, IntKind.u64.wrap (o.ver + 1)⟩, q] 1 = q from rfl]; have HS6 := Aside0.mk ((HS5.out.below hb6).below ((Below.refl w6.heap.size w6).alloc (Nat.le_refl _) (.cells #[.int .u64 (q : One).key, .int .i64 (q : One).id] 33))); obtain ⟨ev0, ev1, eh0, eh1⟩ := HS6.out.cells; clear hb6))
             go_roundw
             case rel => exact ⟨2, by omega, by go_num, HS6⟩
             case measure => simp [intOf]
           · go_wp2
             go_roundw
             case rel => exact ⟨k + 1, ⟨0, (k : Int), true, IntKind.u64.wrap (o.ver + 1)⟩, q, by go_num, by omega, by omega, HS5⟩
             case measure => simp [intOf]; omega
      · 
        have hp1 : bits BinOp.and IntKind.i64 (x / 2) 1 = 1 := by omega
        clear hb2 hp
        cases hf : o.full with
        | true =>
         rw [hf] at ch0
         have hfl := Aside0.mk hf
         have HE := Aside0.mk (show takeR [o, q] 0 o.ver = ((o.key, o.id, true), [⟨0, 0, false, IntKind.u64.wrap (o.ver + 1)⟩, q]) by simp [takeR, slotAt, hf])
         clear hf
         go_wp2_with (first | (go_at_call 15; (refine (slot_take p g [o, q] 0 _ _ HS.out.sl).mono ?_); rintro e w3 ⟨rfl, hs3, hg3⟩; rw [HE.out] at hs3 ⊢; obtain ⟨hv3, hh3⟩ := (HS.out.seen hg3); have hA := (Below.refl w3.heap.size w3).alloc (Nat.le_refl _) (.cells #[.int .u64 o.key, .int .i64 o.id] 33); have hg4 := grown_below hg3 hA; have hs4 := hs3.below hA; obtain ⟨hv4, hh4⟩ := HS.out.seen hg4; have dv0 := cell_row hv4 0; have dh0 := cell_row hh4 0; have ev0 := frozen_row hv4 0; have eh0 := frozen_row hh4 0; simp only [List.getElem?_toArray, List.getElem?_cons_zero, List.getElem?_cons_succ] at dv0 dh0; rw [hfl.out] at dh0; clear hv3 hh3 hv4 hh4 hA; have HS3 := Aside0.mk (HS.out.put0 hs4 hg4); clear hs4 hg4; clear hs3 hg3))
         go_loopw [11] (fun i wr2 => ∃ m : Nat, m ≤ 2 ∧ i = .int .i64 m ∧ Aside0 (StV w wr2 p g w1.heap.size (w1.heap.size + 1) ⟨0, 0, false, IntKind.u64.wrap (o.ver + 1)⟩ q)) (fun i _ => 2 - (intOf i).toNat)
         case atStart => exact ⟨0, by omega, rfl, HS3⟩
         case round =>
          obtain ⟨m, hm, rfl, HS5⟩ := hrel
          have hm3 : m = 0 ∨ m = 1 ∨ m = 2 := by omega
          rcases hm3 with rfl | rfl | rfl
          · go_wp2_with (first | (go_at_call 16; (refine (slot_get p g [⟨0, 0, false, IntKind.u64.wrap (o.ver + 1)⟩, q] 0 _ HS5.out.sl).mono ?_); rintro e w6 ⟨rfl, hb6⟩; rw [show getR [⟨0, 0, false, IntKind.u64.wrap (o.ver + 1)⟩, q] 0 = ⟨0, 0, false, IntKind.u64.wrap (o.ver + 1)⟩ from rfl]; have HS6 := Aside0.mk ((HS5.out.below hb6).below ((Below.refl w6.heap.size w6).alloc (Nat.le_refl _) (.cells #[.int .u64 (⟨0, 0, false, IntKind.u64.wrap (o.ver + 1)⟩ : One).key, .int .i64 (⟨0, 0, false, IntKind.u64.wrap (o.ver + 1)⟩ : One).id] 33))); obtain ⟨ev0, ev1, eh0, eh1⟩ := HS6.out.cells; clear hb6))
            go_roundw
            case rel => exact ⟨1, by omega, by go_num, HS6⟩
            case measure => simp [intOf]
          · go_wp2_with (first | (go_at_call 16; (refine (slot_get p g [⟨0, 0, false, IntKind.u64.wrap (o.ver + 1)⟩, q] 1 _ HS5.out.sl).mono ?_); rintro e w6 ⟨rfl, hb6⟩; rw [show getR [⟨0, 0, false, IntKind.u64.wrap (o.ver + 1)⟩, q] 1 = q from rfl]; have HS6 := Aside0.mk ((HS5.out.below hb6).below ((Below.refl w6.heap.size w6).alloc (Nat.le_refl _) (.cells #[.int .u64 (q : One).key, .int .i64 (q : One).id] 33))); obtain ⟨ev0, ev1, eh0, eh1⟩ := HS6.out.cells; clear hb6))
            go_roundw
            case rel => exact ⟨2, by omega, by go_num, HS6⟩
            case measure => simp [intOf]
          · go_wp2
            go_roundw
            case rel => exact ⟨k + 1, ⟨0, 0, false, IntKind.u64.wrap (o.ver + 1)⟩, q, by go_num, by omega, by omega, HS5⟩
            case measure => simp [intOf]; omega
        | false =>
         rw [hf] at ch0
         have hfl := Aside0.mk hf
         have HE := Aside0.mk (show takeR [o, q] 0 o.ver = ((0, 0, false), [o, q]) by simp [takeR, slotAt, hf])
         clear hf
         go_wp2_with (first | (go_at_call 15; (refine (slot_take p g [o, q] 0 _ _ HS.out.sl).mono ?_); rintro e w3 ⟨rfl, hs3, hg3⟩; rw [HE.out] at hs3 ⊢; obtain ⟨hv3, hh3⟩ := (HS.out.seen hg3); have hA := (Below.refl w3.heap.size w3).alloc (Nat.le_refl _) (.cells #[.int .u64 0, .int .i64 0] 33); have hg4 := grown_below hg3 hA; have hs4 := hs3.below hA; obtain ⟨hv4, hh4⟩ := HS.out.seen hg4; have dv0 := cell_row hv4 0; have dh0 := cell_row hh4 0; have ev0 := frozen_row hv4 0; have eh0 := frozen_row hh4 0; simp only [List.getElem?_toArray, List.getElem?_cons_zero, List.getElem?_cons_succ] at dv0 dh0; rw [hfl.out] at dh0; clear hv3 hh3 hv4 hh4 hA; have HS3 := Aside0.mk (HS.out.same hs4 hg4); clear hs4 hg4; clear hs3 hg3))
         go_loopw [11] (fun i wr2 => ∃ m : Nat, m ≤ 2 ∧ i = .int .i64 m ∧ Aside0 (StV w wr2 p g w1.heap.size (w1.heap.size + 1) o q)) (fun i _ => 2 - (intOf i).toNat)
         case atStart => exact ⟨0, by omega, rfl, HS3⟩
         case round =>
          obtain ⟨m, hm, rfl, HS5⟩ := hrel
          have hm3 : m = 0 ∨ m = 1 ∨ m = 2 := by omega
          rcases hm3 with rfl | rfl | rfl
          · go_wp2_with (first | (go_at_call 16; (refine (slot_get p g [o, q] 0 _ HS5.out.sl).mono ?_); rintro e w6 ⟨rfl, hb6⟩; rw [show getR [o, q] 0 = o from rfl]; have HS6 := Aside0.mk ((HS5.out.below hb6).below ((Below.refl w6.heap.size w6).alloc (Nat.le_refl _) (.cells #[.int .u64 (o : One).key, .int .i64 (o : One).id] 33))); obtain ⟨ev0, ev1, eh0, eh1⟩ := HS6.out.cells; clear hb6))
            go_roundw
            case rel => exact ⟨1, by omega, by go_num, HS6⟩
            case measure => simp [intOf]
          · go_wp2_with (first | (go_at_call 16; (refine (slot_get p g [o, q] 1 _ HS5.out.sl).mono ?_); rintro e w6 ⟨rfl, hb6⟩; rw [show getR [o, q] 1 = q from rfl]; have HS6 := Aside0.mk ((HS5.out.below hb6).below ((Below.refl w6.heap.size w6).alloc (Nat.le_refl _) (.cells #[.int .u64 (q : One).key, .int .i64 (q : One).id] 33))); obtain ⟨ev0, ev1, eh0, eh1⟩ := HS6.out.cells; clear hb6))
            go_roundw
            case rel => exact ⟨2, by omega, by go_num, HS6⟩
            case measure => simp [intOf]
          · go_wp2
            go_roundw
            case rel => exact ⟨k + 1, o, q, by go_num, by omega, by omega, HS5⟩
            case measure => simp [intOf]; omega
    · have ht1 : bits BinOp.and IntKind.i64 x 1 = 1 := by omega
      clear hb ht
      by_cases hp : bits BinOp.and IntKind.i64 (x / 2) 1 = 0
      · 
        clear hb2
        cases hf : q.full with
        | true =>
         rw [hf] at ch1
         have HSd := Aside0.mk HS.out.drew
         have HE := Aside0.mk (show putR [o, q] 1 0 (k : Int) = (7, [o, q]) by simp [putR, slotAt, hf])
         have hf0 := Aside0.mk hf
         clear hf
         go_wp2
         go_region_with (first | (go_at_call 14; (refine (slot_put p g [o, q] 1 0 _ _ HSd.out.sl).mono ?_); rintro e w3 ⟨rfl, hs3, hg3⟩; rw [HE.out] at hs3 ⊢; have HS3 := Aside0.mk (HSd.out.same hs3 hg3); obtain ⟨dv0, dv1, dh0, dh1⟩ := HS3.out.cells; rw [hf0.out] at dh1; clear hs3 hg3))
         all_goals
          go_wp2
          go_loopw [11] (fun i wr2 => ∃ m : Nat, m ≤ 2 ∧ i = .int .i64 m ∧ Aside0 (StV w wr2 p g w1.heap.size (w1.heap.size + 1) o q)) (fun i _ => 2 - (intOf i).toNat)
          case atStart => exact ⟨0, by omega, rfl, HS3⟩
          case round =>
           obtain ⟨m, hm, rfl, HS5⟩ := hrel
           have hm3 : m = 0 ∨ m = 1 ∨ m = 2 := by omega
           rcases hm3 with rfl | rfl | rfl
           · go_wp2_with (first | (go_at_call 16; (refine (slot_get p g [o, q] 0 _ HS5.out.sl).mono ?_); rintro e w6 ⟨rfl, hb6⟩; rw [show getR [o, q] 0 = o from rfl]; have HS6 := Aside0.mk ((HS5.out.below hb6).below ((Below.refl w6.heap.size w6).alloc (Nat.le_refl _) (.cells #[.int .u64 (o : One).key, .int .i64 (o : One).id] 33))); obtain ⟨ev0, ev1, eh0, eh1⟩ := HS6.out.cells; clear hb6))
             go_roundw
             case rel => exact ⟨1, by omega, by go_num, HS6⟩
             case measure => simp [intOf]
           · go_wp2_with (first | (go_at_call 16; (refine (slot_get p g [o, q] 1 _ HS5.out.sl).mono ?_); rintro e w6 ⟨rfl, hb6⟩; rw [show getR [o, q] 1 = q from rfl]; have HS6 := Aside0.mk ((HS5.out.below hb6).below ((Below.refl w6.heap.size w6).alloc (Nat.le_refl _) (.cells #[.int .u64 (q : One).key, .int .i64 (q : One).id] 33))); obtain ⟨ev0, ev1, eh0, eh1⟩ := HS6.out.cells; clear hb6))
             go_roundw
             case rel => exact ⟨2, by omega, by go_num, HS6⟩
             case measure => simp [intOf]
           · go_wp2
             go_roundw
             case rel => exact ⟨k + 1, o, q, by go_num, by omega, by omega, HS5⟩
             case measure => simp [intOf]; omega
        | false =>
         rw [hf] at ch1
         have hfl := Aside0.mk hf
         have HSd := Aside0.mk HS.out.drew
         have HE := Aside0.mk (show putR [o, q] 1 0 (k : Int) = (0, [o, ⟨0, (k : Int), true, IntKind.u64.wrap (q.ver + 1)⟩]) by simp [putR, slotAt, hf])
         clear hf
         go_wp2
         go_region_with (first | (go_at_call 14; (refine (slot_put p g [o, q] 1 0 _ _ HSd.out.sl).mono ?_); rintro e w3 ⟨rfl, hs3, hg3⟩; rw [HE.out] at hs3 ⊢; obtain ⟨hv3, hh3⟩ := HSd.out.seen hg3; have dv0 := cell_row hv3 1; have dh0 := cell_row hh3 1; have ev0 := frozen_row hv3 1; have eh0 := frozen_row hh3 1; simp only [List.getElem?_toArray, List.getElem?_cons_zero, List.getElem?_cons_succ] at dv0 dh0; clear hv3 hh3; rw [hfl.out] at dh0; have HS3 := Aside0.mk (HSd.out.put1 hs3 hg3); clear hs3 hg3))
         all_goals
          go_wp2
          go_loopw [11] (fun i wr2 => ∃ m : Nat, m ≤ 2 ∧ i = .int .i64 m ∧ Aside0 (StV w wr2 p g w1.heap.size (w1.heap.size + 1) o ⟨0, (k : Int), true, IntKind.u64.wrap (q.ver + 1)⟩)) (fun i _ => 2 - (intOf i).toNat)
          case atStart => exact ⟨0, by omega, rfl, HS3⟩
          case round =>
           obtain ⟨m, hm, rfl, HS5⟩ := hrel
           have hm3 : m = 0 ∨ m = 1 ∨ m = 2 := by omega
           rcases hm3 with rfl | rfl | rfl
           · go_wp2_with (first | (go_at_call 16; (refine (slot_get p g [o, ⟨0, (k : Int), true, IntKind.u64.wrap (q.ver + 1)⟩] 0 _ HS5.out.sl).mono ?_); rintro e w6 ⟨rfl, hb6⟩; rw [show getR [o, ⟨0, (k : Int), true, IntKind.u64.wrap (q.ver + 1)⟩] 0 = o from rfl]; have HS6 := Aside0.mk ((HS5.out.below hb6).below ((Below.refl w6.heap.size w6).alloc (Nat.le_refl _) (.cells #[.int .u64 (o : One).key, .int .i64 (o : One).id] 33))); obtain ⟨ev0, ev1, eh0, eh1⟩ := HS6.out.cells; clear hb6))
             go_roundw
             case rel => exact ⟨1, by omega, by go_num, HS6⟩
             case measure => simp [intOf]
           · go_wp2_with (first | (go_at_call 16; (refine (slot_get p g [o, ⟨0, (k : Int), true, IntKind.u64.wrap (q.ver + 1)⟩] 1 _ HS5.out.sl).mono ?_); rintro e w6 ⟨rfl, hb6⟩; rw [show getR [o, ⟨0, (k : Int), true, IntKind.u64.wrap (q.ver + 1)⟩] 1 = ⟨0, (k : Int), true, IntKind.u64.wrap (q.ver + 1)⟩ from rfl]; have HS6 := Aside0.mk ((HS5.out.below hb6).below ((Below.refl w6.heap.size w6).alloc (Nat.le_refl _) (.cells #[.int .u64 (⟨0, (k : Int), true, IntKind.u64.wrap (q.ver + 1)⟩ : One).key, .int .i64 (⟨0, (k : Int), true, IntKind.u64.wrap (q.ver + 1)⟩ : One).id] 33))); obtain ⟨ev0, ev1, eh0, eh1⟩ := HS6.out.cells; clear hb6))
             go_roundw
             case rel => exact ⟨2, by omega, by go_num, HS6⟩
             case measure => simp [intOf]
           · go_wp2
             go_roundw
             case rel => exact ⟨k + 1, o, ⟨0, (k : Int), true, IntKind.u64.wrap (q.ver + 1)⟩, by go_num, by omega, by omega, HS5⟩
             case measure => simp [intOf]; omega
      · 
        have hp1 : bits BinOp.and IntKind.i64 (x / 2) 1 = 1 := by omega
        clear hb2 hp
        cases hf : q.full with
        | true =>
         rw [hf] at ch1
         have hfl := Aside0.mk hf
         have HE := Aside0.mk (show takeR [o, q] 1 q.ver = ((q.key, q.id, true), [o, ⟨0, 0, false, IntKind.u64.wrap (q.ver + 1)⟩]) by simp [takeR, slotAt, hf])
         clear hf
         go_wp2_with (first | (go_at_call 15; (refine (slot_take p g [o, q] 1 _ _ HS.out.sl).mono ?_); rintro e w3 ⟨rfl, hs3, hg3⟩; rw [HE.out] at hs3 ⊢; obtain ⟨hv3, hh3⟩ := (HS.out.seen hg3); have hA := (Below.refl w3.heap.size w3).alloc (Nat.le_refl _) (.cells #[.int .u64 q.key, .int .i64 q.id] 33); have hg4 := grown_below hg3 hA; have hs4 := hs3.below hA; obtain ⟨hv4, hh4⟩ := HS.out.seen hg4; have dv0 := cell_row hv4 1; have dh0 := cell_row hh4 1; have ev0 := frozen_row hv4 1; have eh0 := frozen_row hh4 1; simp only [List.getElem?_toArray, List.getElem?_cons_zero, List.getElem?_cons_succ] at dv0 dh0; rw [hfl.out] at dh0; clear hv3 hh3 hv4 hh4 hA; have HS3 := Aside0.mk (HS.out.put1 hs4 hg4); clear hs4 hg4; clear hs3 hg3))
         go_loopw [11] (fun i wr2 => ∃ m : Nat, m ≤ 2 ∧ i = .int .i64 m ∧ Aside0 (StV w wr2 p g w1.heap.size (w1.heap.size + 1) o ⟨0, 0, false, IntKind.u64.wrap (q.ver + 1)⟩)) (fun i _ => 2 - (intOf i).toNat)
         case atStart => exact ⟨0, by omega, rfl, HS3⟩
         case round =>
          obtain ⟨m, hm, rfl, HS5⟩ := hrel
          have hm3 : m = 0 ∨ m = 1 ∨ m = 2 := by omega
          rcases hm3 with rfl | rfl | rfl
          · go_wp2_with (first | (go_at_call 16; (refine (slot_get p g [o, ⟨0, 0, false, IntKind.u64.wrap (q.ver + 1)⟩] 0 _ HS5.out.sl).mono ?_); rintro e w6 ⟨rfl, hb6⟩; rw [show getR [o, ⟨0, 0, false, IntKind.u64.wrap (q.ver + 1)⟩] 0 = o from rfl]; have HS6 := Aside0.mk ((HS5.out.below hb6).below ((Below.refl w6.heap.size w6).alloc (Nat.le_refl _) (.cells #[.int .u64 (o : One).key, .int .i64 (o : One).id] 33))); obtain ⟨ev0, ev1, eh0, eh1⟩ := HS6.out.cells; clear hb6))
            go_roundw
            case rel => exact ⟨1, by omega, by go_num, HS6⟩
            case measure => simp [intOf]
          · go_wp2_with (first | (go_at_call 16; (refine (slot_get p g [o, ⟨0, 0, false, IntKind.u64.wrap (q.ver + 1)⟩] 1 _ HS5.out.sl).mono ?_); rintro e w6 ⟨rfl, hb6⟩; rw [show getR [o, ⟨0, 0, false, IntKind.u64.wrap (q.ver + 1)⟩] 1 = ⟨0, 0, false, IntKind.u64.wrap (q.ver + 1)⟩ from rfl]; have HS6 := Aside0.mk ((HS5.out.below hb6).below ((Below.refl w6.heap.size w6).alloc (Nat.le_refl _) (.cells #[.int .u64 (⟨0, 0, false, IntKind.u64.wrap (q.ver + 1)⟩ : One).key, .int .i64 (⟨0, 0, false, IntKind.u64.wrap (q.ver + 1)⟩ : One).id] 33))); obtain ⟨ev0, ev1, eh0, eh1⟩ := HS6.out.cells; clear hb6))
            go_roundw
            case rel => exact ⟨2, by omega, by go_num, HS6⟩
            case measure => simp [intOf]
          · go_wp2
            go_roundw
            case rel => exact ⟨k + 1, o, ⟨0, 0, false, IntKind.u64.wrap (q.ver + 1)⟩, by go_num, by omega, by omega, HS5⟩
            case measure => simp [intOf]; omega
        | false =>
         rw [hf] at ch1
         have hfl := Aside0.mk hf
         have HE := Aside0.mk (show takeR [o, q] 1 q.ver = ((0, 0, false), [o, q]) by simp [takeR, slotAt, hf])
         clear hf
         go_wp2_with (first | (go_at_call 15; (refine (slot_take p g [o, q] 1 _ _ HS.out.sl).mono ?_); rintro e w3 ⟨rfl, hs3, hg3⟩; rw [HE.out] at hs3 ⊢; obtain ⟨hv3, hh3⟩ := (HS.out.seen hg3); have hA := (Below.refl w3.heap.size w3).alloc (Nat.le_refl _) (.cells #[.int .u64 0, .int .i64 0] 33); have hg4 := grown_below hg3 hA; have hs4 := hs3.below hA; obtain ⟨hv4, hh4⟩ := HS.out.seen hg4; have dv0 := cell_row hv4 1; have dh0 := cell_row hh4 1; have ev0 := frozen_row hv4 1; have eh0 := frozen_row hh4 1; simp only [List.getElem?_toArray, List.getElem?_cons_zero, List.getElem?_cons_succ] at dv0 dh0; rw [hfl.out] at dh0; clear hv3 hh3 hv4 hh4 hA; have HS3 := Aside0.mk (HS.out.same hs4 hg4); clear hs4 hg4; clear hs3 hg3))
         go_loopw [11] (fun i wr2 => ∃ m : Nat, m ≤ 2 ∧ i = .int .i64 m ∧ Aside0 (StV w wr2 p g w1.heap.size (w1.heap.size + 1) o q)) (fun i _ => 2 - (intOf i).toNat)
         case atStart => exact ⟨0, by omega, rfl, HS3⟩
         case round =>
          obtain ⟨m, hm, rfl, HS5⟩ := hrel
          have hm3 : m = 0 ∨ m = 1 ∨ m = 2 := by omega
          rcases hm3 with rfl | rfl | rfl
          · go_wp2_with (first | (go_at_call 16; (refine (slot_get p g [o, q] 0 _ HS5.out.sl).mono ?_); rintro e w6 ⟨rfl, hb6⟩; rw [show getR [o, q] 0 = o from rfl]; have HS6 := Aside0.mk ((HS5.out.below hb6).below ((Below.refl w6.heap.size w6).alloc (Nat.le_refl _) (.cells #[.int .u64 (o : One).key, .int .i64 (o : One).id] 33))); obtain ⟨ev0, ev1, eh0, eh1⟩ := HS6.out.cells; clear hb6))
            go_roundw
            case rel => exact ⟨1, by omega, by go_num, HS6⟩
            case measure => simp [intOf]
          · go_wp2_with (first | (go_at_call 16; (refine (slot_get p g [o, q] 1 _ HS5.out.sl).mono ?_); rintro e w6 ⟨rfl, hb6⟩; rw [show getR [o, q] 1 = q from rfl]; have HS6 := Aside0.mk ((HS5.out.below hb6).below ((Below.refl w6.heap.size w6).alloc (Nat.le_refl _) (.cells #[.int .u64 (q : One).key, .int .i64 (q : One).id] 33))); obtain ⟨ev0, ev1, eh0, eh1⟩ := HS6.out.cells; clear hb6))
            go_roundw
            case rel => exact ⟨2, by omega, by go_num, HS6⟩
            case measure => simp [intOf]
          · go_wp2
            go_roundw
            case rel => exact ⟨k + 1, o, q, by go_num, by omega, by omega, HS5⟩
            case measure => simp [intOf]; omega
  · by_cases hl : k < l.length
    · have h80 : decide ((k : Int) < 60) = false := decide_eq_false (by omega)
      clear h1
      go_wp2_with (first | (go_at_call 17; (refine (slots_awake _).mono ?_); rintro e w3 ⟨rfl, hb3⟩; have HB := Aside0.mk (below_step HS.out.bel hb3); clear hb3))
      go_ret
      exact ⟨rfl, HB.out⟩
    · clear h1
      go_wp2_with (first | (go_at_call 17; (refine (slots_awake _).mono ?_); rintro e w3 ⟨rfl, hb3⟩; have HB := Aside0.mk (below_step HS.out.bel hb3); clear hb3))
      go_ret
      exact ⟨rfl, HB.out⟩
end Go.Proofs.Ytfhapffjnafkbaa.V
end
section
set_option linter.unusedVariables false
set_option linter.unusedSimpArgs false
namespace Go.Proofs.Ytfhapffjnafkbaa.VOpen
open Go.RowKit Go.Proofs.YtfhapffjnafkbaaW.PrintWords Go.Deep Go.ChangeShapes Go.WideShapes
structure Fits {α : Type} (P : Program) (t : TypeId) (d : Kd α) (good : α → Prop) : Prop where
  sz : P.cellsOf t = d.sz
  opens : ∀ {H : Type} {enc : TypeId × Value → H} {w : World} {base : Nat} {spare : Nat → Bool} {held : Bool} {fuel : Nat} {cs : List Value} {x : DataW H × List MemPlace},
    DataW.trod enc P w base spare held fuel t cs = some x → ∃ a, d.K w a cs ∧ good a
theorem fits_int {P : Program} {t : TypeId} {k : IntKind} (ht : P.underlying t = some (.int k)) (hc : P.cellsOf t = 1) : Fits P t (Kd.int k) (fun n => (Lit.int k n).wf = true) where
 sz := hc
 opens := fun h => by
  obtain ⟨n, rfl, _, hw⟩ := DataW.trod_int ht h
  exact ⟨n, rfl, hw⟩
theorem filter_all {α : Type} (f : Nat → Option α) : ∀ (len : Nat), (∀ i, i < len → ∃ u, f i = some u) → ((List.range len).filterMap f).length = len ∧ ∀ i, i < len → ((List.range len).filterMap f)[i]? = f i := by
 intro len
 induction len with
 | zero => simp
 | succ k ih =>
  intro hf
  obtain ⟨h1, h2⟩ := ih (fun i hi => hf i (by omega))
  obtain ⟨u, hu⟩ := hf k (by omega)
  rw [List.range_succ, List.filterMap_append]
  simp only [List.filterMap_cons, hu, List.filterMap_nil]
  refine ⟨by simp [h1], fun i hi => ?_⟩
  by_cases hik : i < k
  · rw [List.getElem?_append_left (by omega)]
    exact h2 i hik
  · have : i = k := by omega
    subst this
    rw [List.getElem?_append_right (by omega), h1, hu]
    simp
theorem fits_slice {α : Type} {P : Program} {t e : TypeId} {d : Kd α} {good : α → Prop} (ht : P.underlying t = some (.slice e)) (hc : P.cellsOf t = 1) (h : Fits P e d good) : Fits P t (Kd.slice e d) (fun l => ∀ x ∈ l, good x) where
 sz := hc
 opens := fun {H enc w base spare held fuel cs x} hx => by
  rcases open_slice ht hx with ⟨rfl, _⟩ | ⟨a, len, cap, m, n, D, Pl, rfl, _, hl, hm, hmm, _, hcell⟩
  · exact ⟨[], ⟨none, 0, rfl, Nat.le_refl _, rfl, by simp, fun h0 => absurd h0 (by simp)⟩, by simp⟩
  · have hlm : len ≤ m := by rw [hmm]; split <;> omega
    have each : ∀ i, i < len → ∃ u : α, (∃ c, c.length = d.sz ∧ d.K w u c ∧ ∀ j v, c[j]? = some v → w.cell? (a.add (i * d.sz + j)) = some v) ∧ good u := by
     intro i hi
     obtain ⟨c, h1, h2⟩ := hcell i (by omega)
     rw [h.sz] at h1
     obtain ⟨_, h3, h4⟩ := World.cells?_some h1
     obtain ⟨u, hu, gu⟩ := h.opens h2
     refine ⟨u, ⟨c, h3, hu, fun j v hj => ?_⟩, gu⟩
     have hjl : j < d.sz := by have := (List.getElem?_eq_some_iff.1 hj).1; omega
     have := h4 j hjl
     rw [Addr.add_add] at this
     rw [this, hj]
    have hex : ∃ f : Nat → Option α, ∀ i, i < len → ∃ u, f i = some u ∧ (∃ c, c.length = d.sz ∧ d.K w u c ∧ ∀ j v, c[j]? = some v → w.cell? (a.add (i * d.sz + j)) = some v) ∧ good u := by
     classical
     refine ⟨fun i => if hi : i < len then some (Classical.choose (each i hi)) else none, fun i hi => ⟨Classical.choose (each i hi), by simp [hi], Classical.choose_spec (each i hi)⟩⟩
    obtain ⟨f, hf⟩ := hex
    have hlen := filter_all f len (fun i hi => (hf i hi).imp fun _ h => h.1)
    refine ⟨(List.range len).filterMap f, ⟨some a, cap, by rw [hlen.1], by rw [hlen.1]; exact hl, rfl, by rw [hlen.1]; unfold maxLen at hm; omega, fun _ => ⟨a, rfl, fun j p hj => ?_⟩⟩, fun x hx => ?_⟩
    · have hjl : j < len := by have := (List.getElem?_eq_some_iff.1 hj).1; rw [hlen.1] at this; exact this
      obtain ⟨u, hu, hc, _⟩ := hf j hjl
      rw [hlen.2 j hjl, hu] at hj
      injection hj with hj
      subst hj
      exact hc
    · obtain ⟨j, hj⟩ := List.mem_iff_getElem?.1 hx
      have hjl : j < len := by have := (List.getElem?_eq_some_iff.1 hj).1; rw [hlen.1] at this; exact this
      obtain ⟨u, hu, _, gu⟩ := hf j hjl
      rw [hlen.2 j hjl, hu] at hj
      injection hj with hj
      subst hj
      exact gu
theorem slice_arg {α : Type} {P : Program} {t e : TypeId} {d : Kd α} {good : List α → Prop} (h : Fits P t (Kd.slice e d) good) {H : Type} {enc : TypeId × Value → H} {w : World} {base : Nat} {spare : Nat → Bool} {held : Bool} {fuel : Nat} {v : Value}
 {x : DataW H × List MemPlace} {A : Option Addr} {len cap : Nat} (hv : v = .slice A len cap) (hx : DataW.trod enc P w base spare held fuel t v.cells.toList = some x) : ∃ l : List α, len = l.length ∧ l.length ≤ cap ∧ d.C w A l.length l ∧ good l := by
 subst hv
 obtain ⟨l, ⟨A', c', hcs, hl, hC⟩, hg⟩ := h.opens hx
 simp only [Value.cells, List.cons.injEq, and_true, Value.slice.injEq] at hcs
 obtain ⟨rfl, rfl, rfl⟩ := hcs
 exact ⟨l, rfl, hl, hC, hg⟩
theorem slice_bound {P : Program} {t e : TypeId} (ht : P.underlying t = some (.slice e)) {H : Type} {enc : TypeId × Value → H} {w : World} {base : Nat} {spare : Nat → Bool} {held : Bool} {fuel : Nat}
 {x : DataW H × List MemPlace} {A : Option Addr} {len cap : Nat} (hx : DataW.trod enc P w base spare held fuel t (Value.slice A len cap).cells.toList = some x)
 {ts : List TypeId} {ds : List (DataW H)} (hs : (DataW.weightsEach P ts ds).all (· ≤ reachBytes) = true) {j : Nat} (h1 : ts[j]? = some t) (h2 : ds[j]? = some x.1) {b : Nat} (hb : P.bytesOf e = b) : len * b ≤ 140737488351232 := by
 rcases DataW.trod_slice ht hx with ⟨hc, rfl⟩ | ⟨a, len', cap', elems, rest, n, _, hc, rfl, _, _, _, hl, _⟩
 · simp only [Value.cells, List.cons.injEq, and_true, Value.slice.injEq] at hc
   obtain ⟨rfl, rfl, rfl⟩ := hc
   omega
 · simp only [Value.cells, List.cons.injEq, and_true, Value.slice.injEq] at hc
   obtain ⟨rfl, rfl, rfl⟩ := hc
   have := sized_slice hs h1 h2 ht
   rw [hb, List.length_map, hl] at this
   refine Nat.le_trans (Nat.mul_le_mul_right b (Nat.le_add_right len _)) this
end Go.Proofs.Ytfhapffjnafkbaa.VOpen
end
section
set_option linter.unusedVariables false
set_option linter.unusedSimpArgs false
namespace Go.Proofs.Ytfhapffjnafkbaa.V
open Go.RowKit Go.Proofs.YtfhapffjnafkbaaW.PrintWords Go.Proofs.YtfhapffjnafkbaaW.PrintLast Go.Proofs.YtfhapffjnafkbaaW.PrintMore
def vergerlaw9_SlotVersions.f (l0 : List Int) : Option Bool := some true
theorem vergerlaw9_SlotVersions.calls (A0 : Option Addr) (c0 : Nat) (l0 : List Int) (r : Bool) (w : World) (hr0 : Kd.C (Kd.int .i64) w A0 l0.length l0) (hc0 : l0.length ≤ c0) (h : vergerlaw9_SlotVersions.f l0 = some r) :
 Calls Try.prog 3 #[.slice A0 l0.length c0] w fun e w' => e = .returned (.bool r) ∧ Below w.heap.size w w' := by
 obtain rfl := Option.some.inj h
 exact slotVersions_walk A0 c0 l0 w hr0 hc0 hr0.2.1
theorem SlotVersions_pure (l0 : List Int) {P Q : Prop} (_ : P) (_ : Q) : vergerlaw9_SlotVersions.f l0 = some true := rfl
end Go.Proofs.Ytfhapffjnafkbaa.V
end
