-- a text of this work, without what this claim doesn't use (wip/shake.py)
import Derived.Test.YtdfndglenbckhaaLVRS6
import Derived.Deep.DeepCutAuto
import Derived.Deep.CutBlock
import Derived.Test.YtdfndglenbckhaaLVE46
set_option linter.unusedVariables false
set_option linter.unusedSimpArgs false
namespace Go.Proofs.Ytdfndglenbckhaa.V
open Go.RowKit Go.Proofs.YtdfndglenbckhaaW.PrintWords Go.Proofs.YtdfndglenbckhaaW.PrintLast Go.Proofs.YtdfndglenbckhaaW.PrintMore
structure RLAt (w : World) (base q : Nat) (OK : Nat → Prop) (v : Value) (rs : List RBk) : Prop where
  hd : w.heap[q]? = some (.cells #[v] 60 (0, 0))
  row : Kd.V k70 70 w 0 OK v rs
  lo : base ≤ q
  okq : ∀ k, OK k → k ≠ q
namespace RLAt
variable {w w1 : World} {base q : Nat} {OK : Nat → Prop} {v : Value} {rs : List RBk}
theorem lt (h : RLAt w base q OK v rs) : q < w.heap.size := (Array.getElem?_eq_some_iff.1 h.hd).1
theorem below (h : RLAt w base q OK v rs) (hb : Below w.heap.size w w1) : RLAt w1 base q OK v rs := ⟨(hb.block q h.lt).trans h.hd, Kd.V_below h.row hb, h.lo, h.okq⟩
theorem cell0 (h : RLAt w base q OK v rs) : w.cell? ⟨q, 0, none⟩ = some v := by simp [World.cell?, h.hd]
theorem froz (h : RLAt w base q OK v rs) (j : Nat) : w.frozen? ⟨q, j, none⟩ = false := frozen_row h.hd j
theorem reads (h : RLAt w base q OK v rs) : ∃ A c, v = .slice A rs.length c ∧ rs.length ≤ c ∧ Kd.F k70 w OK A rs.length rs := by
 obtain ⟨A, c, rfl⟩ := Kd.V_slice h.row
 have := Kd.V_at h.row
 exact ⟨A, c, rfl, this.2.1, this.2.2⟩
end RLAt
theorem grown_set1 {w W : World} {q j : Nat} {u : Value} (hb : Below w.heap.size w W) : w.grownBy (W.setCell ⟨q, j, none⟩ u) (some q) :=
 ⟨hb.os, hb.tape, hb.output, by simp only [World.setCell, Array.size_modify]; exact hb.size, fun k hk hne => (Below.heap_setCell W ⟨q, j, none⟩ u k (fun e => hne (by rw [e]))).trans (hb.block k hk)⟩
def lvlLe (x : Bk) (b : Bk) : Bool := decide (b.f0 ≤ x.f0)
def layAt (x : Bk) (bs : List Bk) : Nat := match bs.findIdx? (lvlLe x) with | some i => i | none => bs.length
def layL (x : Bk) (bs : List Bk) : List Bk := if x.f1 = [] then bs else bs.take (layAt x bs) ++ x :: bs.drop (layAt x bs)
theorem layL_some {x : Bk} {bs : List Bk} (h : x.f1 ≠ []) : layL x bs = bs.take (layAt x bs) ++ x :: bs.drop (layAt x bs) := by unfold layL; rw [if_neg h]
theorem layL_none {x : Bk} {bs : List Bk} (h : x.f1 = []) : layL x bs = bs := by unfold layL; rw [if_pos h]
theorem map_mid {x : Bk} {bs : List Bk} {k : Nat} : (bs.take k ++ x :: bs.drop k).map toR = ((bs.map toR).take k ++ [toR x]) ++ (bs.map toR).drop k := by
 rw [List.map_append, ut, List.map_take, List.map_drop, List.append_assoc]
 rfl
theorem layAt_le (x : Bk) (bs : List Bk) : layAt x bs ≤ bs.length := by
 unfold layAt
 cases h : bs.findIdx? (lvlLe x) with
 | none => exact vn _
 | some i => rw [List.findIdx?_eq_some_iff_getElem] at h; exact Nat.le_of_lt h.1
theorem layAt_lt {x b : Bk} {bs : List Bk} {k : Nat} (h : k < layAt x bs) (hb : bs[k]? = some b) : x.f0 < b.f0 := by
 obtain ⟨h4, h5⟩ := List.getElem?_eq_some_iff.1 hb
 unfold layAt at h
 cases hf : bs.findIdx? (lvlLe x) with
 | none =>
  have := (List.findIdx?_eq_none_iff.1 hf) b (List.mem_of_getElem? hb)
  simpa [lvlLe] using this
 | some i =>
  rw [hf] at h
  rw [List.findIdx?_eq_some_iff_getElem] at hf
  have := hf.2.2 k h
  rw [h5] at this
  simpa [lvlLe] using this
theorem layAt_at {x b : Bk} {bs : List Bk} {k : Nat} (h : layAt x bs = k) (hb : bs[k]? = some b) : b.f0 ≤ x.f0 := by
 obtain ⟨h4, h5⟩ := List.getElem?_eq_some_iff.1 hb
 unfold layAt at h
 cases hf : bs.findIdx? (lvlLe x) with
 | none => rw [hf] at h; dsimp only at h; omega
 | some i =>
  rw [hf] at h
  dsimp only at h
  subst h
  rw [List.findIdx?_eq_some_iff_getElem] at hf
  obtain ⟨_, h2, _⟩ := hf
  rw [h5] at h2
  exact ug h2
set_option maxRecDepth 100000 in
set_option maxHeartbeats 8000000 in
theorem rl_lay (base q : Nat) (OK : Nat → Prop) (v : Value) (cs : List Bk) (x : Bk) (Au : Option Addr) (cu : Nat) (w : World) (h : RLAt w base q OK v (cs.map toR)) (hfr : ∀ k, w.heap.size ≤ k → OK k) (hx : Kd.F k46 w OK Au x.f1.length x.f1) (hcu : x.f1.length ≤ cu) (hl : cs.length ≤ 900) :
 Calls Try.prog 79 #[.pointer (some ⟨q, 0, none⟩), .agg #[.int .i64 x.f0, .slice Au x.f1.length cu]] w fun e w' => e = .returned (.tuple #[]) ∧ ∃ v', RLAt w' base q OK v' ((layL x cs).map toR) ∧ w.grownBy w' (some q) := by
 obtain ⟨rs, hrs⟩ : ∃ rs, rs = cs.map toR := ⟨_, rfl⟩
 rw [← hrs] at h
 obtain ⟨A, c, rfl, hc, hF0⟩ := h.reads
 obtain ⟨g, hg⟩ : ∃ g, g = w.heap.size := ⟨_, rfl⟩
 obtain ⟨wa, hwa⟩ : ∃ wa : World, wa = w.alloc (.cells #[.int .i64 x.f0, .slice Au x.f1.length cu] 70) := ⟨_, rfl⟩
 have HXB := Aside0.mk (show wa.heap[g]? = some (.cells #[.int .i64 x.f0, .slice Au x.f1.length cu] 70 (0, 0)) by rw [hwa, hg]; exact heap_alloc_new _ _)
 have HBa := Aside0.mk (show Below w.heap.size w wa by rw [hwa]; exact uf (Below.refl _ _) _)
 have HS := Aside0.mk h
 have HPA := Aside0.mk (h.below HBa.out)
 have HX := Aside0.mk (xm hx HBa.out)
 have HOK0 := Aside0.mk hfr
 have HRS := Aside0.mk hrs
 have hrl : rs.length = cs.length := by rw [hrs, List.length_map]
 have HRL := Aside0.mk hrl
 have hls : rs.length ≤ 900 := by omega
 have z0 : wa.cell? ⟨g, 0, none⟩ = some (.int .i64 x.f0) := (uv HXB.out 0).trans rfl
 have z1 : wa.cell? ⟨g, 1, none⟩ = some (.slice Au x.f1.length cu) := (uv HXB.out 1).trans rfl
 have q0 := HPA.out.cell0
 clear h hF0 hfr hx hrs hrl hl
 by_cases hne : x.f1 = []
 · have hx0 : x.f1.length = 0 := by rw [hne]; rfl
   have HL0 := Aside0.mk (layL_none (bs := cs) hne)
   have e1 : ((x.f1.length : Int) == 0) = true := by rw [hx0]; rfl
   have e2 : decide (x.f1.length = 0) = true := decide_eq_true hx0
   clear hne hx0
   go_enter Try.func79, Try.ntmps79
   go_upto_region 1 with fail
   rw [← hwa, ← hg]
   clear hwa hg
   go_wp2_with fail
   refine ⟨rfl, .tuple #[], by simp [results, Try.results79, go_sem], rfl, _, by rw [HL0.out, ← HRS.out]; exact HPA.out, ⟨HBa.out.os, HBa.out.tape, HBa.out.output, HBa.out.size, fun k hk _ => HBa.out.block k hk⟩⟩
 · have HNE := Aside0.mk hne
   have hxp : 0 < x.f1.length := by
    cases hq : x.f1 with
    | nil => exact absurd hq hne
    | cons _ _ => simp
   have e1 : ((x.f1.length : Int) == 0) = false := by rw [beq_eq_false_iff_ne]; omega
   have e2 : decide (x.f1.length = 0) = false := decide_eq_false (by omega)
   have e3 : decide (x.f1 = []) = false := decide_eq_false hne
   clear hne hxp
   go_enter Try.func79, Try.ntmps79
   go_upto_region 1 with fail
   rw [← hwa, ← hg]
   clear hwa hg
   go_upto_block 0 with fail
   have HBw := HBa
   have hpl := layAt_le x cs
   have hpn : layAt x cs ≤ rs.length := by rw [HRL.out]; exact hpl
   go_cut [4] (fun s4 wx => s4 = .int .i64 (layAt x cs) ∧ Aside0 (Below wa.heap.size wa wx))
   case first =>
    go_wp2_with fail
    go_loopw [4] (fun s4 wx => ∃ k : Nat, s4 = .int .i64 k ∧ k ≤ layAt x cs ∧ Aside0 (Below wa.heap.size wa wx)) (fun s4 _ => layAt x cs + 1 - (intOf s4).toNat)
    case atStart => exact ⟨0, rfl, Nat.zero_le _, ⟨Below.refl _ _⟩⟩
    case round =>
     obtain ⟨k, rfl, hk, HB⟩ := hrel
     have HPk := Aside0.mk (HPA.out.below HB.out)
     replace q0 := HPk.out.cell0
     replace z0 := uj HB.out z0
     by_cases hkl : k < rs.length
     · obtain ⟨b, hb⟩ : ∃ b, cs[k]? = some b := ⟨_, List.getElem?_eq_getElem (by have := HRL.out; omega)⟩
       have hrb : rs[k]? = some (toR b) := by rw [HRS.out, List.getElem?_map, hb]; rfl
       obtain ⟨ad, A1, c1, rfl, y0, y1, e4, e5⟩ := rb_at (xv HPk.out.row).2.2 hrb
       dsimp only [toR] at y0
       have hkil : (k : Int) < (rs.length : Int) := by omega
       have hk0 : (0 : Int) ≤ (k : Int) := by omega
       clear hrb e5 e4 y1
       by_cases hkp : k < layAt x cs
       · have hge := layAt_lt hkp hb
         clear hb
         go_wp2_with fail
         refine start_ (n := 20) (S := fun w' => w'.cell? ⟨q, 0, none⟩ = some (.slice (some ad) rs.length c) ∧ w'.cell? (ad.add (k * 2)) = some (.int .i64 b.f0) ∧ w'.cell? ⟨g, 0, none⟩ = some (.int .i64 x.f0)) (ds := []) #[xX, xX, xX, xX, xX, xX, xX, xX, xX, xX, xX, xX, xX, xX, xX, xX, xX, xX, xX, xX] (by kernel_rfl) rfl rfl ⟨q0, y0, z0⟩ (fun hHeld => ?_)
         refine pU (i := 0) (N := (some 9)) (bA 20 1) (by kernel_rfl) rfl ?_
         refine pU (i := 1) (N := (some 10)) (bA 20 3) (by kernel_rfl) rfl ?_
         refine pU (i := 2) (N := (some 11)) (bA 20 7) (by kernel_rfl) rfl ?_
         refine pU (i := 3) (N := (some 12)) (bA 20 15) (by kernel_rfl) rfl ?_
         refine tU (i := 4) (N := (some 13)) (bA 20 31) (by kernel_rfl) rfl hHeld (by (constructor; (rintro w' ⟨s0, s1, s2⟩; go_simp; (with_reducible rfl)); (simp only [Act.put, ua, ub, uc, uh, ui]; rfl))) ?_
         refine pU (i := 5) (N := (some 14)) (bA 20 63) (by kernel_rfl) rfl ?_
         refine pU (i := 6) (N := (some 15)) (bA 20 127) (by kernel_rfl) rfl ?_
         refine pU (i := 7) (N := (some 16)) (bA 20 255) (by kernel_rfl) rfl ?_
         refine pU (i := 8) (N := (some 17)) (bA 20 511) (by kernel_rfl) rfl ?_
         refine pU (i := 9) (N := (some 18)) (bA 20 1023) (by kernel_rfl) rfl ?_
         refine pU (i := 10) (N := (some 19)) (bA 20 2047) (by kernel_rfl) rfl ?_
         refine pU (i := 12) (N := (some 21)) (bA 20 6143) (by kernel_rfl) rfl ?_
         refine pU (i := 16) (N := (some 25)) (bA 20 71679) (by kernel_rfl) rfl ?_
         refine tU (i := 11) (N := (some 20)) (bA 20 73727) (by kernel_rfl) rfl hHeld (by (constructor; (rintro w' ⟨s0, s1, s2⟩; go_simp; (with_reducible rfl)); (simp only [Act.put, ua, ub, uc, uh, ui]; rfl))) ?_
         refine pU (i := 13) (N := (some 22)) (bA 20 81919) (by kernel_rfl) rfl ?_
         refine pU (i := 14) (N := (some 23)) (bA 20 98303) (by kernel_rfl) rfl ?_
         refine tU (i := 15) (N := (some 24)) (bA 20 131071) (by kernel_rfl) rfl hHeld (by (constructor; (rintro w' ⟨s0, s1, s2⟩; go_simp; (with_reducible rfl)); (simp only [Act.put, ua, ub, uc, uh, ui]; rfl))) ?_
         refine tU (i := 17) (N := (some 26)) (bA 20 262143) (by kernel_rfl) rfl hHeld (by (constructor; (rintro w' ⟨s0, s1, s2⟩; go_simp; (with_reducible rfl)); (simp only [Act.put, ua, ub, uc, uh, ui]; rfl))) ?_
         refine pU (i := 18) (N := (some 27)) (bA 20 524287) (by kernel_rfl) rfl ?_
         refine pU (i := 19) (N := (some 28)) (bA 20 1048575) (by kernel_rfl) rfl ?_
         refine done_ (by kernel_rfl) ?_
         go_wp2_with fail
         go_roundw
         case rel => exact ⟨k + 1, by go_num, by omega, ⟨ur HB.out (below_drew (Below.refl _ _))⟩⟩
         case measure => simp [intOf]; omega
       · have hke : layAt x cs = k := by omega
         have hge : ¬ x.f0 < b.f0 := by
          have := layAt_at hke hb
          omega
         clear hb
         go_wp2_with fail
         refine start_ (n := 20) (S := fun w' => w'.cell? ⟨q, 0, none⟩ = some (.slice (some ad) rs.length c) ∧ w'.cell? (ad.add (k * 2)) = some (.int .i64 b.f0) ∧ w'.cell? ⟨g, 0, none⟩ = some (.int .i64 x.f0)) (ds := []) #[xX, xX, xX, xX, xX, xX, xX, xX, xX, xX, xX, xX, xX, xX, xX, xX, xX, xX, xX, xX] (by kernel_rfl) rfl rfl ⟨q0, y0, z0⟩ (fun hHeld => ?_)
         refine pU (i := 0) (N := (some 9)) (bA 20 1) (by kernel_rfl) rfl ?_
         refine pU (i := 1) (N := (some 10)) (bA 20 3) (by kernel_rfl) rfl ?_
         refine pU (i := 2) (N := (some 11)) (bA 20 7) (by kernel_rfl) rfl ?_
         refine pU (i := 3) (N := (some 12)) (bA 20 15) (by kernel_rfl) rfl ?_
         refine tU (i := 4) (N := (some 13)) (bA 20 31) (by kernel_rfl) rfl hHeld (by (constructor; (rintro w' ⟨s0, s1, s2⟩; go_simp; (with_reducible rfl)); (simp only [Act.put, ua, ub, uc, uh, ui]; rfl))) ?_
         refine pU (i := 5) (N := (some 14)) (bA 20 63) (by kernel_rfl) rfl ?_
         refine pU (i := 6) (N := (some 15)) (bA 20 127) (by kernel_rfl) rfl ?_
         refine pU (i := 7) (N := (some 16)) (bA 20 255) (by kernel_rfl) rfl ?_
         refine pU (i := 8) (N := (some 17)) (bA 20 511) (by kernel_rfl) rfl ?_
         refine pU (i := 9) (N := (some 18)) (bA 20 1023) (by kernel_rfl) rfl ?_
         refine pU (i := 10) (N := (some 19)) (bA 20 2047) (by kernel_rfl) rfl ?_
         refine pU (i := 12) (N := (some 21)) (bA 20 6143) (by kernel_rfl) rfl ?_
         refine pU (i := 16) (N := (some 25)) (bA 20 71679) (by kernel_rfl) rfl ?_
         refine tU (i := 11) (N := (some 20)) (bA 20 73727) (by kernel_rfl) rfl hHeld (by (constructor; (rintro w' ⟨s0, s1, s2⟩; go_simp; (with_reducible rfl)); (simp only [Act.put, ua, ub, uc, uh, ui]; rfl))) ?_
         refine pU (i := 13) (N := (some 22)) (bA 20 81919) (by kernel_rfl) rfl ?_
         refine pU (i := 14) (N := (some 23)) (bA 20 98303) (by kernel_rfl) rfl ?_
         refine tU (i := 15) (N := (some 24)) (bA 20 131071) (by kernel_rfl) rfl hHeld (by (constructor; (rintro w' ⟨s0, s1, s2⟩; go_simp; (with_reducible rfl)); (simp only [Act.put, ua, ub, uc, uh, ui]; rfl))) ?_
         refine tU (i := 17) (N := (some 26)) (bA 20 262143) (by kernel_rfl) rfl hHeld (by (constructor; (rintro w' ⟨s0, s1, s2⟩; go_simp; (with_reducible rfl)); (simp only [Act.put, ua, ub, uc, uh, ui]; rfl))) ?_
         refine pU (i := 18) (N := (some 27)) (bA 20 524287) (by kernel_rfl) rfl ?_
         refine pU (i := 19) (N := (some 28)) (bA 20 1048575) (by kernel_rfl) rfl ?_
         refine done_ (by kernel_rfl) ?_
         go_wp2_with fail
         go_meet
         exact ⟨by rw [hke], ⟨ur HB.out (below_drew (Below.refl _ _))⟩⟩
     · have hke : layAt x cs = k := by omega
       go_wp2_with fail
       refine start_ (n := 20) (S := fun w' => w'.cell? ⟨q, 0, none⟩ = some (.slice A rs.length c) ∧ True) (ds := []) #[xX, xX, xX, xX, xX, xX, xX, xX, xX, xX, xX, xX, xX, xX, xX, xX, xX, xX, xX, xX] (by kernel_rfl) rfl rfl ⟨q0, trivial⟩ (fun hHeld => ?_)
       refine pU (i := 0) (N := (some 9)) (bA 20 1) (by kernel_rfl) rfl ?_
       refine pU (i := 1) (N := (some 10)) (bA 20 3) (by kernel_rfl) rfl ?_
       refine pU (i := 2) (N := (some 11)) (bA 20 7) (by kernel_rfl) rfl ?_
       refine pU (i := 3) (N := (some 12)) (bA 20 15) (by kernel_rfl) rfl ?_
       refine tU (i := 4) (N := (some 13)) (bA 20 31) (by kernel_rfl) rfl hHeld (by (constructor; (rintro w' ⟨s0, s1⟩; go_simp; (with_reducible rfl)); (simp only [Act.put, ua, ub, uc, uh, ui]; rfl))) ?_
       refine pU (i := 5) (N := (some 14)) (bA 20 63) (by kernel_rfl) rfl ?_
       refine pU (i := 6) (N := (some 15)) (bA 20 127) (by kernel_rfl) rfl ?_
       refine pU (i := 7) (N := (some 16)) (bA 20 255) (by kernel_rfl) rfl ?_
       refine uk (i := 8) (N := (some 17)) (v := undef) (a' := ?_) (bA 20 511) rfl rfl (by kernel_rfl) (fun _ _ _ h => h) (Or.inr ⟨by rfl, rfl⟩) ?_ ?_
       rotate_left
       · simp only [Act.put, ua, ub, uc, uh, ui]
         rfl
       refine uk (i := 9) (N := (some 18)) (v := undef) (a' := ?_) (bA 20 1023) rfl rfl (by kernel_rfl) (fun _ _ _ h => h) (Or.inr ⟨by rfl, rfl⟩) ?_ ?_
       rotate_left
       · simp only [Act.put, ua, ub, uc, uh, ui]
         rfl
       refine uk (i := 10) (N := (some 19)) (v := undef) (a' := ?_) (bA 20 2047) rfl rfl (by kernel_rfl) (fun _ _ _ h => h) (Or.inr ⟨by rfl, rfl⟩) ?_ ?_
       rotate_left
       · simp only [Act.put, ua, ub, uc, uh, ui]
         rfl
       refine uk (i := 11) (N := (some 20)) (v := undef) (a' := ?_) (bA 20 4095) rfl rfl (by kernel_rfl) (fun _ _ _ h => h) (Or.inr ⟨by rfl, rfl⟩) ?_ ?_
       rotate_left
       · simp only [Act.put, ua, ub, uc, uh, ui]
         rfl
       refine uk (i := 12) (N := (some 21)) (v := undef) (a' := ?_) (bA 20 8191) rfl rfl (by kernel_rfl) (fun _ _ _ h => h) (Or.inr ⟨by rfl, rfl⟩) ?_ ?_
       rotate_left
       · simp only [Act.put, ua, ub, uc, uh, ui]
         rfl
       refine uk (i := 13) (N := (some 22)) (v := undef) (a' := ?_) (bA 20 16383) rfl rfl (by kernel_rfl) (fun _ _ _ h => h) (Or.inr ⟨by rfl, rfl⟩) ?_ ?_
       rotate_left
       · simp only [Act.put, ua, ub, uc, uh, ui]
         rfl
       refine uk (i := 14) (N := (some 23)) (v := undef) (a' := ?_) (bA 20 32767) rfl rfl (by kernel_rfl) (fun _ _ _ h => h) (Or.inr ⟨by rfl, rfl⟩) ?_ ?_
       rotate_left
       · simp only [Act.put, ua, ub, uc, uh, ui]
         rfl
       refine uk (i := 15) (N := (some 24)) (v := undef) (a' := ?_) (bA 20 65535) rfl rfl (by kernel_rfl) (fun _ _ _ h => h) (Or.inr ⟨by rfl, rfl⟩) ?_ ?_
       rotate_left
       · simp only [Act.put, ua, ub, uc, uh, ui]
         rfl
       refine uk (i := 16) (N := (some 25)) (v := undef) (a' := ?_) (bA 20 131071) rfl rfl (by kernel_rfl) (fun _ _ _ h => h) (Or.inr ⟨by rfl, rfl⟩) ?_ ?_
       rotate_left
       · simp only [Act.put, ua, ub, uc, uh, ui]
         rfl
       refine uk (i := 17) (N := (some 26)) (v := undef) (a' := ?_) (bA 20 262143) rfl rfl (by kernel_rfl) (fun _ _ _ h => h) (Or.inr ⟨by rfl, rfl⟩) ?_ ?_
       rotate_left
       · simp only [Act.put, ua, ub, uc, uh, ui]
         rfl
       refine uk (i := 18) (N := (some 27)) (v := undef) (a' := ?_) (bA 20 524287) rfl rfl (by kernel_rfl) (fun _ _ _ h => h) (Or.inr ⟨by rfl, rfl⟩) ?_ ?_
       rotate_left
       · simp only [Act.put, ua, ub, uc, uh, ui]
         rfl
       refine pU (i := 19) (N := (some 28)) (bA 20 1048575) (by kernel_rfl) rfl ?_
       refine done_ (by kernel_rfl) ?_
       go_wp2_with fail
       go_meet
       exact ⟨by rw [hke], ⟨ur HB.out (below_drew (Below.refl _ _))⟩⟩
   case rest =>
    obtain ⟨rfl, HBZ⟩ := hcut
    rename World => wz
    have HPZ := Aside0.mk (HPA.out.below HBZ.out)
    clear HBw
    have HBw := Aside0.mk (ur HBa.out HBZ.out)
    replace q0 := HPZ.out.cell0
    replace z0 := uj HBZ.out z0
    replace z1 := uj HBZ.out z1
    have HXV := Aside0.mk (show x.f1.length ≤ cu ∧ Kd.F k46 wz (fun k => OK k ∧ k < wz.heap.size) Au x.f1.length x.f1 from ⟨hcu, Kd.F_bound (xm HX.out HBZ.out)⟩)
    obtain ⟨T, D, AD, cD, hT, hD, hct, hcf, hf1, hf2, hcD⟩ := rcutsAt HPZ.out.row hpn
    have HCU := Aside0.mk (And.intro hf1 hf2)
    rw [HRS.out] at hT hD
    have HTQ := Aside0.mk (And.intro hT hD)
    have hTl : T.length ≤ 900 := by rw [hT, uq, ← HRS.out]; omega
    have hDl : D.length ≤ 900 := by rw [hD, uo, ← HRS.out]; omega
    have HOK := Aside0.mk (show ∀ k, wz.heap.size ≤ k → OK k from fun k hk => HOK0.out k (Nat.le_trans HBw.out.size hk))
    obtain ⟨RF, hRF⟩ : ∃ RF, RF = T ++ [toR x] ++ D := ⟨_, rfl⟩
    have HRF := Aside0.mk hRF
    clear hT hD hf1 hf2 hRF
    go_wp2_with fail
    have HB := Aside0.mk (below_drew (Below.refl wz.heap.size wz))
    refine start_ (n := 22) (S := fun w' => w'.cell? ⟨q, 0, none⟩ = some (.slice A rs.length c) ∧ w'.cell? ⟨g, 0, none⟩ = some (.int .i64 x.f0) ∧ w'.cell? ⟨g, 1, none⟩ = some (.slice Au x.f1.length cu)) (ds := [21]) #[xX, xX, xX, xX, xX, xX, xX, xX, xX, xX, xX, xX, xX, xX, xX, xX, xX, xX, xX, xX, xX, xX] (by kernel_rfl) rfl rfl ⟨q0, z0, z1⟩ (fun hHeld => ?_)
    refine pU (i := 0) (N := (some 31)) (bA 22 1) (by kernel_rfl) rfl ?_
    refine pU (i := 2) (N := (some 33)) (bA 22 5) (by kernel_rfl) rfl ?_
    refine pU (i := 3) (N := (some 34)) (bA 22 13) (by kernel_rfl) rfl ?_
    refine pU (i := 4) (N := (some 35)) (bA 22 29) (by kernel_rfl) rfl ?_
    refine pU (i := 6) (N := (some 37)) (bA 22 93) (by kernel_rfl) rfl ?_
    refine pU (i := 12) (N := (some 43)) (bA 22 4189) (by kernel_rfl) rfl ?_
    refine pU (i := 13) (N := (some 44)) (bA 22 12381) (by kernel_rfl) rfl ?_
    refine pU (i := 14) (N := (some 45)) (bA 22 28765) (by kernel_rfl) rfl ?_
    refine pU (i := 16) (N := (some 47)) (bA 22 94301) (by kernel_rfl) rfl ?_
    refine tU (i := 5) (N := (some 36)) (bA 22 94333) (by kernel_rfl) rfl hHeld (by (constructor; (rintro w' ⟨s0, s1, s2⟩; go_simp; (with_reducible rfl)); (simp only [Act.put, ua, ub, uc, uh, ui]; rfl))) ?_
    refine pU (i := 7) (N := (some 38)) (bA 22 94461) (by kernel_rfl) rfl ?_
    refine tU (i := 9) (N := (some 40)) (bA 22 94973) (by kernel_rfl) rfl hHeld (by (constructor; (rintro w' ⟨s0, s1, s2⟩; go_simp; (with_reducible rfl)); (simp only [Act.put, ua, ub, uc, uh, ui]; rfl))) ?_
    refine tU (i := 15) (N := (some 46)) (bA 22 127741) (by kernel_rfl) rfl hHeld (by (constructor; (rintro w' ⟨s0, s1, s2⟩; go_simp; (with_reducible rfl)); (simp only [Act.put, ua, ub, uc, uh, ui]; rfl))) ?_
    refine pU (i := 17) (N := (some 48)) (bA 22 258813) (by kernel_rfl) rfl ?_
    refine two_ (i := 1) (j := 10) (Ni := (some 32)) (Nj := (some 41)) #[yY, yY, yY, yY, yY, yY, yY, yY, xX, yY, xX, xX, yY, yY, yY, yY, yY, yY, xX, xX, xX, xX] #[yY, xX, yY, yY, yY, yY, yY, yY, xX, yY, yY, xX, yY, yY, yY, yY, yY, yY, xX, xX, xX, xX] rfl rfl rfl rfl (by kernel_rfl) (by decide) (by decide) (fun K hK => ?_) (fun K hK => ?_)
    · skip
      refine Kd.N_lit_step k70 _ 70 ?hg (N' := 32) ?hd (xs := ([] : List RBk)) (inner := []) (ok := OK) (okp := fun _ => False) ?hr ?hp (fun _ hk => hk.elim) ?hf (Below.refl _ _) (vn _) (by simp) ?_; (case hd => rfl); (case hg => rfl); (case hr => first | (go_simp; done) | (go_simp; rfl)); (case hp => exact (Reps.none _ _)); (case hf => exact HOK.out _ HB.out.size)
      intro vC wC ho6 hb6 hg6 hnew6
      (try (have HLn := Aside0.mk (show Kd.F k70 wC (fun k => OK k ∧ some k ≠ vC.ownBlock) _ _ _ from Kd.F_mono (xm (Kd.F_bound HL.out) hb6) (fun k hk => ⟨hk.1, fun e => by obtain ⟨b', h1, h2⟩ := hnew6; rw [h1] at e; injection e with e; have := hk.2; omega⟩)); clear HL; have HL := HLn; clear HLn))
      have n_ := Aside0.mk (Kd.N_lower ho6 HB.out.size)
      (try clear HO)
      have HO := n_
      clear n_
      have n_ := Aside0.mk (ur HB.out hb6)
      (try clear HB)
      have HB := n_
      clear n_
      clear ho6 hb6 hg6 hnew6
      refine hK.out _ _ ⟨uj HB.out q0, uj HB.out z0, uj HB.out z1⟩ (fun hHeld => ?_)
      clear hK K
      refine vz (a' := ?_) ?_ ?_; rotate_left; (· (show Act.put _ (some 32) _ = _); (simp only [Act.put, ua, ub, uc, uh, ui]); rfl)
      refine two_ (i := 8) (j := 10) (Ni := (some 39)) (Nj := (some 41)) #[yY, yY, yY, yY, yY, yY, yY, yY, yY, yY, xX, xX, yY, yY, yY, yY, yY, yY, xX, xX, xX, xX] #[yY, yY, yY, yY, yY, yY, yY, yY, xX, yY, yY, xX, yY, yY, yY, yY, yY, yY, xX, xX, xX, xX] rfl rfl rfl rfl (by kernel_rfl) (by decide) (by decide) (fun K hK => ?_) (fun K hK => ?_)
      · skip
        refine vx k70 (w0 := wz) wz.heap.size (by rfl) (.tmp 32) (.tmp 38) 27 70 (.agg #[.int .i64 0, .slice none 0 0]) 32 rfl Try.underlying27 infoRB rfl (by decide) (by decide) _ ([] : List RBk) T _ _ _ OK (fun k => OK k ∧ k < wz.heap.size) rfl rfl HO.out (xm (Kd.F_bound HCU.out.1) HB.out) (fun k hk => ⟨hk.1, fun e => by have h1 := Kd.N_base HO.out k e.symm; have := hk.2; omega⟩) (fun k hk => HOK.out k (Nat.le_trans HB.out.size hk)) HB.out HB.out.size (by (try simp only [List.length_nil, List.length_append, List.length_cons]); omega) ?_
        intro vD wC ho hb hg hat
        (try rw [List.nil_append] at ho)
        (try (have HLn := Aside0.mk (Kd.F_after HL.out hg hat); clear HL; have HL := HLn; clear HLn))
        clear HO HB
        obtain ⟨vC, hvC⟩ : ∃ vC, vC = vD := ⟨_, rfl⟩
        subst hvC
        have HO := Aside0.mk ho
        have HB := Aside0.mk hb
        clear ho hb hg hat
        refine hK.out _ _ ⟨uj HB.out q0, uj HB.out z0, uj HB.out z1⟩ (fun hHeld => ?_)
        clear hK K
        refine vz (a' := ?_) ?_ ?_; rotate_left; (· (show Act.put _ (some 39) _ = _); (simp only [Act.put, ua, ub, uc, uh, ui]); rfl)
        refine one_ (i := 10) (N := (some 41)) #[yY, yY, yY, yY, yY, yY, yY, yY, yY, yY, yY, xX, yY, yY, yY, yY, yY, yY, xX, xX, xX, xX] rfl rfl (by kernel_rfl) (by decide) (fun K hK => ?_)
        first
         | (refine Kd.N_lit_step k70 _ 70 ?hg (N' := 41) ?hd (xs := [toR x]) (inner := [.int .i64 x.f0, .slice Au x.f1.length cu]) (ok := (fun k => OK k ∧ some k ≠ vC.ownBlock)) (okp := fun k => OK k ∧ k < wz.heap.size) ?hr ?hp (fun k hk => ⟨hk.1, fun e => by have := Kd.N_base HO.out k e.symm; have := hk.2; omega⟩) ?hf (Below.refl _ _) (vn _) (by simp) ?_; (case hd => rfl); (case hg => rfl); (case hr => first | (go_simp; done) | (go_simp; rfl)); (case hp => exact reps_oneR (k70_mkF _ _ (toR x) HXV.out.1 (xm HXV.out.2 HB.out))); (case hf => exact ⟨HOK.out _ HB.out.size, fun e => by have := Kd.N_lt HO.out _ e.symm; omega⟩); intro vL wL ho6 hb6 hg6 hnew6; (try (have HOn := Aside0.mk (Kd.N_below HO.out hb6); clear HO; have HO := HOn; clear HOn)))
         | (refine Kd.N_lit_step k70 _ 70 ?hg (N' := 41) ?hd (xs := [toR x]) (inner := [.int .i64 x.f0, .slice Au x.f1.length cu]) (ok := OK) (okp := fun k => OK k ∧ k < wz.heap.size) ?hr ?hp (fun k hk => hk.1) ?hf (Below.refl _ _) (vn _) (by simp) ?_; (case hd => rfl); (case hg => rfl); (case hr => first | (go_simp; done) | (go_simp; rfl)); (case hp => exact reps_oneR (k70_mkF _ _ (toR x) HXV.out.1 (xm HXV.out.2 HB.out))); (case hf => exact HOK.out _ HB.out.size); intro vL wL ho6 hb6 hg6 hnew6; (try (have HOn := Aside0.mk (Kd.N_below HO.out hb6); clear HO; have HO := HOn; clear HOn)))
        obtain ⟨AL, cL, e_⟩ := Kd.N_slice ho6
        subst e_
        have HL := Aside0.mk (Kd.N_F ho6)
        have n_ := Aside0.mk (ur HB.out hb6)
        (try clear HB)
        have HB := n_
        clear n_
        clear ho6 hb6 hg6 hnew6
        refine hK.out _ _ ⟨uj HB.out q0, uj HB.out z0, uj HB.out z1⟩ (fun hHeld => ?_)
        clear hK K
        refine vz (a' := ?_) ?_ ?_; rotate_left; (· (show Act.put _ (some 41) _ = _); (simp only [Act.put, ua, ub, uc, uh, ui]); rfl)
        refine one_ (i := 11) (N := (some 42)) #[yY, yY, yY, yY, yY, yY, yY, yY, yY, yY, yY, yY, yY, yY, yY, yY, yY, yY, xX, xX, xX, xX] rfl rfl (by kernel_rfl) (by decide) (fun K hK => ?_)
        refine vx k70 (w0 := wz) wz.heap.size (by rfl) (.tmp 39) (.tmp 41) 27 70 (.agg #[.int .i64 0, .slice none 0 0]) 32 rfl Try.underlying27 infoRB rfl (by decide) (by decide) _ T [toR x] _ _ _ OK (fun k => OK k ∧ some k ≠ vC.ownBlock) rfl rfl HO.out HL.out (fun k hk => hk) (fun k hk => HOK.out k (Nat.le_trans HB.out.size hk)) HB.out HB.out.size (by (try simp only [List.length_nil, List.length_append, List.length_cons]); omega) ?_
        intro vD wC ho hb hg hat
        (try rw [List.nil_append] at ho)
        (try (have HLn := Aside0.mk (Kd.F_after HL.out hg hat); clear HL; have HL := HLn; clear HLn))
        clear HO HB
        obtain ⟨vC, hvC⟩ : ∃ vC, vC = vD := ⟨_, rfl⟩
        subst hvC
        have HO := Aside0.mk ho
        have HB := Aside0.mk hb
        clear ho hb hg hat
        refine hK.out _ _ ⟨uj HB.out q0, uj HB.out z0, uj HB.out z1⟩ (fun hHeld => ?_)
        clear hK K
        refine vz (a' := ?_) ?_ ?_; rotate_left; (· (show Act.put _ (some 42) _ = _); (simp only [Act.put, ua, ub, uc, uh, ui]); rfl)
        refine one_ (i := 18) (N := (some 49)) #[yY, yY, yY, yY, yY, yY, yY, yY, yY, yY, yY, yY, yY, yY, yY, yY, yY, yY, yY, xX, xX, xX] rfl rfl (by kernel_rfl) (by decide) (fun K hK => ?_)
        refine vx k70 (w0 := wz) wz.heap.size (by rfl) (.tmp 42) (.tmp 48) 27 70 (.agg #[.int .i64 0, .slice none 0 0]) 32 rfl Try.underlying27 infoRB rfl (by decide) (by decide) _ (T ++ [toR x]) D _ _ _ OK (fun k => OK k ∧ k < wz.heap.size) rfl rfl HO.out (xm (Kd.F_bound HCU.out.2) HB.out) (fun k hk => ⟨hk.1, fun e => by have h1 := Kd.N_base HO.out k e.symm; have := hk.2; omega⟩) (fun k hk => HOK.out k (Nat.le_trans HB.out.size hk)) HB.out HB.out.size (by (try simp only [List.length_nil, List.length_append, List.length_cons]); omega) ?_
        intro vD wC ho hb hg hat
        (try rw [List.nil_append] at ho)
        (try (have HLn := Aside0.mk (Kd.F_after HL.out hg hat); clear HL; have HL := HLn; clear HLn))
        clear HO HB
        obtain ⟨vC, hvC⟩ : ∃ vC, vC = vD := ⟨_, rfl⟩
        subst hvC
        have HO := Aside0.mk ho
        have HB := Aside0.mk hb
        clear ho hb hg hat
        have HO_ := HO.out
        rw [← HRF.out] at HO_
        obtain ⟨AF, cF, e_⟩ := Kd.N_slice HO_
        subst e_
        clear HO
        have HO := Aside0.mk HO_
        clear HO_
        have hp_ := HPZ.out.below HB.out
        have k0 := hp_.cell0
        have g0 := hp_.froz 0
        have HPC := Aside0.mk hp_
        clear hp_
        refine hK.out _ _ ⟨uj HB.out q0, uj HB.out z0, uj HB.out z1⟩ (fun hHeld => ?_)
        clear hK K
        refine vz (a' := ?_) ?_ ?_; rotate_left; (· (show Act.put _ (some 49) _ = _); (simp only [Act.put, ua, ub, uc, uh, ui]); rfl)
        refine pU (i := 19) (N := (some 50)) (bA 22 1048575) (by kernel_rfl) rfl ?_
        refine pU (i := 20) (N := (some 51)) (bA 22 2097151) (by kernel_rfl) rfl ?_
        refine last_ (i := 21) (N := none) #[yY, yY, yY, yY, yY, yY, yY, yY, yY, yY, yY, yY, yY, yY, yY, yY, yY, yY, yY, yY, yY, yY] rfl rfl (by kernel_rfl) (by decide) (fun K hK => ?_)
        go_simp
        refine hK.out _ _ ?_
        clear hK K
        (try simp only [Act.put, ua, ub, uc, uh, ui])
        refine done_ (by kernel_rfl) ?_
        go_wp2_with fail
        refine ⟨rfl, .tuple #[], by simp [results, Try.results79, go_sem], rfl, _, ⟨blk_put HPC.out.hd 0 (.slice AF RF.length cF) rfl, ?_, HS.out.lo, HS.out.okq⟩, grown_set1 (ur HBw.out HB.out)⟩
        rw [layL_some HNE.out, map_mid, ← HTQ.out.1, ← HTQ.out.2, ← HRF.out]
        exact Kd.V_far (Kd.V_mk (Kd.N_reads' HO.out).2.1 (Kd.N_F HO.out) (e := 70) (base := 0)) (p := ⟨q, 0, none⟩) (fun k hk => HS.out.okq k hk) _
      · skip
        first
         | (refine Kd.N_lit_step k70 _ 70 ?hg (N' := 41) ?hd (xs := [toR x]) (inner := [.int .i64 x.f0, .slice Au x.f1.length cu]) (ok := (fun k => OK k ∧ some k ≠ vC.ownBlock)) (okp := fun k => OK k ∧ k < wz.heap.size) ?hr ?hp (fun k hk => ⟨hk.1, fun e => by have := Kd.N_base HO.out k e.symm; have := hk.2; omega⟩) ?hf (Below.refl _ _) (vn _) (by simp) ?_; (case hd => rfl); (case hg => rfl); (case hr => first | (go_simp; done) | (go_simp; rfl)); (case hp => exact reps_oneR (k70_mkF _ _ (toR x) HXV.out.1 (xm HXV.out.2 HB.out))); (case hf => exact ⟨HOK.out _ HB.out.size, fun e => by have := Kd.N_lt HO.out _ e.symm; omega⟩); intro vL wL ho6 hb6 hg6 hnew6; (try (have HOn := Aside0.mk (Kd.N_below HO.out hb6); clear HO; have HO := HOn; clear HOn)))
         | (refine Kd.N_lit_step k70 _ 70 ?hg (N' := 41) ?hd (xs := [toR x]) (inner := [.int .i64 x.f0, .slice Au x.f1.length cu]) (ok := OK) (okp := fun k => OK k ∧ k < wz.heap.size) ?hr ?hp (fun k hk => hk.1) ?hf (Below.refl _ _) (vn _) (by simp) ?_; (case hd => rfl); (case hg => rfl); (case hr => first | (go_simp; done) | (go_simp; rfl)); (case hp => exact reps_oneR (k70_mkF _ _ (toR x) HXV.out.1 (xm HXV.out.2 HB.out))); (case hf => exact HOK.out _ HB.out.size); intro vL wL ho6 hb6 hg6 hnew6; (try (have HOn := Aside0.mk (Kd.N_below HO.out hb6); clear HO; have HO := HOn; clear HOn)))
        obtain ⟨AL, cL, e_⟩ := Kd.N_slice ho6
        subst e_
        have HL := Aside0.mk (Kd.N_F ho6)
        have n_ := Aside0.mk (ur HB.out hb6)
        (try clear HB)
        have HB := n_
        clear n_
        clear ho6 hb6 hg6 hnew6
        refine hK.out _ _ ⟨uj HB.out q0, uj HB.out z0, uj HB.out z1⟩ (fun hHeld => ?_)
        clear hK K
        refine vz (a' := ?_) ?_ ?_; rotate_left; (· (show Act.put _ (some 41) _ = _); (simp only [Act.put, ua, ub, uc, uh, ui]); rfl)
        refine one_ (i := 8) (N := (some 39)) #[yY, yY, yY, yY, yY, yY, yY, yY, yY, yY, yY, xX, yY, yY, yY, yY, yY, yY, xX, xX, xX, xX] rfl rfl (by kernel_rfl) (by decide) (fun K hK => ?_)
        refine vx k70 (w0 := wz) wz.heap.size (by rfl) (.tmp 32) (.tmp 38) 27 70 (.agg #[.int .i64 0, .slice none 0 0]) 32 rfl Try.underlying27 infoRB rfl (by decide) (by decide) _ ([] : List RBk) T _ _ _ OK (fun k => OK k ∧ k < wz.heap.size) rfl rfl HO.out (xm (Kd.F_bound HCU.out.1) HB.out) (fun k hk => ⟨hk.1, fun e => by have h1 := Kd.N_base HO.out k e.symm; have := hk.2; omega⟩) (fun k hk => HOK.out k (Nat.le_trans HB.out.size hk)) HB.out HB.out.size (by (try simp only [List.length_nil, List.length_append, List.length_cons]); omega) ?_
        intro vD wC ho hb hg hat
        (try rw [List.nil_append] at ho)
        (try (have HLn := Aside0.mk (Kd.F_after HL.out hg hat); clear HL; have HL := HLn; clear HLn))
        clear HO HB
        obtain ⟨vC, hvC⟩ : ∃ vC, vC = vD := ⟨_, rfl⟩
        subst hvC
        have HO := Aside0.mk ho
        have HB := Aside0.mk hb
        clear ho hb hg hat
        refine hK.out _ _ ⟨uj HB.out q0, uj HB.out z0, uj HB.out z1⟩ (fun hHeld => ?_)
        clear hK K
        refine vz (a' := ?_) ?_ ?_; rotate_left; (· (show Act.put _ (some 39) _ = _); (simp only [Act.put, ua, ub, uc, uh, ui]); rfl)
        refine one_ (i := 11) (N := (some 42)) #[yY, yY, yY, yY, yY, yY, yY, yY, yY, yY, yY, yY, yY, yY, yY, yY, yY, yY, xX, xX, xX, xX] rfl rfl (by kernel_rfl) (by decide) (fun K hK => ?_)
        refine vx k70 (w0 := wz) wz.heap.size (by rfl) (.tmp 39) (.tmp 41) 27 70 (.agg #[.int .i64 0, .slice none 0 0]) 32 rfl Try.underlying27 infoRB rfl (by decide) (by decide) _ T [toR x] _ _ _ OK (fun k => OK k ∧ some k ≠ vC.ownBlock) rfl rfl HO.out HL.out (fun k hk => hk) (fun k hk => HOK.out k (Nat.le_trans HB.out.size hk)) HB.out HB.out.size (by (try simp only [List.length_nil, List.length_append, List.length_cons]); omega) ?_
        intro vD wC ho hb hg hat
        (try rw [List.nil_append] at ho)
        (try (have HLn := Aside0.mk (Kd.F_after HL.out hg hat); clear HL; have HL := HLn; clear HLn))
        clear HO HB
        obtain ⟨vC, hvC⟩ : ∃ vC, vC = vD := ⟨_, rfl⟩
        subst hvC
        have HO := Aside0.mk ho
        have HB := Aside0.mk hb
        clear ho hb hg hat
        refine hK.out _ _ ⟨uj HB.out q0, uj HB.out z0, uj HB.out z1⟩ (fun hHeld => ?_)
        clear hK K
        refine vz (a' := ?_) ?_ ?_; rotate_left; (· (show Act.put _ (some 42) _ = _); (simp only [Act.put, ua, ub, uc, uh, ui]); rfl)
        refine one_ (i := 18) (N := (some 49)) #[yY, yY, yY, yY, yY, yY, yY, yY, yY, yY, yY, yY, yY, yY, yY, yY, yY, yY, yY, xX, xX, xX] rfl rfl (by kernel_rfl) (by decide) (fun K hK => ?_)
        refine vx k70 (w0 := wz) wz.heap.size (by rfl) (.tmp 42) (.tmp 48) 27 70 (.agg #[.int .i64 0, .slice none 0 0]) 32 rfl Try.underlying27 infoRB rfl (by decide) (by decide) _ (T ++ [toR x]) D _ _ _ OK (fun k => OK k ∧ k < wz.heap.size) rfl rfl HO.out (xm (Kd.F_bound HCU.out.2) HB.out) (fun k hk => ⟨hk.1, fun e => by have h1 := Kd.N_base HO.out k e.symm; have := hk.2; omega⟩) (fun k hk => HOK.out k (Nat.le_trans HB.out.size hk)) HB.out HB.out.size (by (try simp only [List.length_nil, List.length_append, List.length_cons]); omega) ?_
        intro vD wC ho hb hg hat
        (try rw [List.nil_append] at ho)
        (try (have HLn := Aside0.mk (Kd.F_after HL.out hg hat); clear HL; have HL := HLn; clear HLn))
        clear HO HB
        obtain ⟨vC, hvC⟩ : ∃ vC, vC = vD := ⟨_, rfl⟩
        subst hvC
        have HO := Aside0.mk ho
        have HB := Aside0.mk hb
        clear ho hb hg hat
        have HO_ := HO.out
        rw [← HRF.out] at HO_
        obtain ⟨AF, cF, e_⟩ := Kd.N_slice HO_
        subst e_
        clear HO
        have HO := Aside0.mk HO_
        clear HO_
        have hp_ := HPZ.out.below HB.out
        have k0 := hp_.cell0
        have g0 := hp_.froz 0
        have HPC := Aside0.mk hp_
        clear hp_
        refine hK.out _ _ ⟨uj HB.out q0, uj HB.out z0, uj HB.out z1⟩ (fun hHeld => ?_)
        clear hK K
        refine vz (a' := ?_) ?_ ?_; rotate_left; (· (show Act.put _ (some 49) _ = _); (simp only [Act.put, ua, ub, uc, uh, ui]); rfl)
        refine pU (i := 19) (N := (some 50)) (bA 22 1048575) (by kernel_rfl) rfl ?_
        refine pU (i := 20) (N := (some 51)) (bA 22 2097151) (by kernel_rfl) rfl ?_
        refine last_ (i := 21) (N := none) #[yY, yY, yY, yY, yY, yY, yY, yY, yY, yY, yY, yY, yY, yY, yY, yY, yY, yY, yY, yY, yY, yY] rfl rfl (by kernel_rfl) (by decide) (fun K hK => ?_)
        go_simp
        refine hK.out _ _ ?_
        clear hK K
        (try simp only [Act.put, ua, ub, uc, uh, ui])
        refine done_ (by kernel_rfl) ?_
        go_wp2_with fail
        refine ⟨rfl, .tuple #[], by simp [results, Try.results79, go_sem], rfl, _, ⟨blk_put HPC.out.hd 0 (.slice AF RF.length cF) rfl, ?_, HS.out.lo, HS.out.okq⟩, grown_set1 (ur HBw.out HB.out)⟩
        rw [layL_some HNE.out, map_mid, ← HTQ.out.1, ← HTQ.out.2, ← HRF.out]
        exact Kd.V_far (Kd.V_mk (Kd.N_reads' HO.out).2.1 (Kd.N_F HO.out) (e := 70) (base := 0)) (p := ⟨q, 0, none⟩) (fun k hk => HS.out.okq k hk) _
    · skip
      first
       | (refine Kd.N_lit_step k70 _ 70 ?hg (N' := 41) ?hd (xs := [toR x]) (inner := [.int .i64 x.f0, .slice Au x.f1.length cu]) (ok := (fun k => OK k ∧ some k ≠ vC.ownBlock)) (okp := fun k => OK k ∧ k < wz.heap.size) ?hr ?hp (fun k hk => ⟨hk.1, fun e => by have := Kd.N_base HO.out k e.symm; have := hk.2; omega⟩) ?hf (Below.refl _ _) (vn _) (by simp) ?_; (case hd => rfl); (case hg => rfl); (case hr => first | (go_simp; done) | (go_simp; rfl)); (case hp => exact reps_oneR (k70_mkF _ _ (toR x) HXV.out.1 (xm HXV.out.2 HB.out))); (case hf => exact ⟨HOK.out _ HB.out.size, fun e => by have := Kd.N_lt HO.out _ e.symm; omega⟩); intro vL wL ho6 hb6 hg6 hnew6; (try (have HOn := Aside0.mk (Kd.N_below HO.out hb6); clear HO; have HO := HOn; clear HOn)))
       | (refine Kd.N_lit_step k70 _ 70 ?hg (N' := 41) ?hd (xs := [toR x]) (inner := [.int .i64 x.f0, .slice Au x.f1.length cu]) (ok := OK) (okp := fun k => OK k ∧ k < wz.heap.size) ?hr ?hp (fun k hk => hk.1) ?hf (Below.refl _ _) (vn _) (by simp) ?_; (case hd => rfl); (case hg => rfl); (case hr => first | (go_simp; done) | (go_simp; rfl)); (case hp => exact reps_oneR (k70_mkF _ _ (toR x) HXV.out.1 (xm HXV.out.2 HB.out))); (case hf => exact HOK.out _ HB.out.size); intro vL wL ho6 hb6 hg6 hnew6; (try (have HOn := Aside0.mk (Kd.N_below HO.out hb6); clear HO; have HO := HOn; clear HOn)))
      obtain ⟨AL, cL, e_⟩ := Kd.N_slice ho6
      subst e_
      have HL := Aside0.mk (Kd.N_F ho6)
      have n_ := Aside0.mk (ur HB.out hb6)
      (try clear HB)
      have HB := n_
      clear n_
      clear ho6 hb6 hg6 hnew6
      refine hK.out _ _ ⟨uj HB.out q0, uj HB.out z0, uj HB.out z1⟩ (fun hHeld => ?_)
      clear hK K
      refine vz (a' := ?_) ?_ ?_; rotate_left; (· (show Act.put _ (some 41) _ = _); (simp only [Act.put, ua, ub, uc, uh, ui]); rfl)
      refine one_ (i := 1) (N := (some 32)) #[yY, yY, yY, yY, yY, yY, yY, yY, xX, yY, yY, xX, yY, yY, yY, yY, yY, yY, xX, xX, xX, xX] rfl rfl (by kernel_rfl) (by decide) (fun K hK => ?_)
      refine Kd.N_lit_step k70 _ 70 ?hg (N' := 32) ?hd (xs := ([] : List RBk)) (inner := []) (ok := OK) (okp := fun _ => False) ?hr ?hp (fun _ hk => hk.elim) ?hf (Below.refl _ _) (vn _) (by simp) ?_; (case hd => rfl); (case hg => rfl); (case hr => first | (go_simp; done) | (go_simp; rfl)); (case hp => exact (Reps.none _ _)); (case hf => exact HOK.out _ HB.out.size)
      intro vC wC ho6 hb6 hg6 hnew6
      (try (have HLn := Aside0.mk (show Kd.F k70 wC (fun k => OK k ∧ some k ≠ vC.ownBlock) _ _ _ from Kd.F_mono (xm (Kd.F_bound HL.out) hb6) (fun k hk => ⟨hk.1, fun e => by obtain ⟨b', h1, h2⟩ := hnew6; rw [h1] at e; injection e with e; have := hk.2; omega⟩)); clear HL; have HL := HLn; clear HLn))
      have n_ := Aside0.mk (Kd.N_lower ho6 HB.out.size)
      (try clear HO)
      have HO := n_
      clear n_
      have n_ := Aside0.mk (ur HB.out hb6)
      (try clear HB)
      have HB := n_
      clear n_
      clear ho6 hb6 hg6 hnew6
      refine hK.out _ _ ⟨uj HB.out q0, uj HB.out z0, uj HB.out z1⟩ (fun hHeld => ?_)
      clear hK K
      refine vz (a' := ?_) ?_ ?_; rotate_left; (· (show Act.put _ (some 32) _ = _); (simp only [Act.put, ua, ub, uc, uh, ui]); rfl)
      refine one_ (i := 8) (N := (some 39)) #[yY, yY, yY, yY, yY, yY, yY, yY, yY, yY, yY, xX, yY, yY, yY, yY, yY, yY, xX, xX, xX, xX] rfl rfl (by kernel_rfl) (by decide) (fun K hK => ?_)
      refine vx k70 (w0 := wz) wz.heap.size (by rfl) (.tmp 32) (.tmp 38) 27 70 (.agg #[.int .i64 0, .slice none 0 0]) 32 rfl Try.underlying27 infoRB rfl (by decide) (by decide) _ ([] : List RBk) T _ _ _ OK (fun k => OK k ∧ k < wz.heap.size) rfl rfl HO.out (xm (Kd.F_bound HCU.out.1) HB.out) (fun k hk => ⟨hk.1, fun e => by have h1 := Kd.N_base HO.out k e.symm; have := hk.2; omega⟩) (fun k hk => HOK.out k (Nat.le_trans HB.out.size hk)) HB.out HB.out.size (by (try simp only [List.length_nil, List.length_append, List.length_cons]); omega) ?_
      intro vD wC ho hb hg hat
      (try rw [List.nil_append] at ho)
      (try (have HLn := Aside0.mk (Kd.F_after HL.out hg hat); clear HL; have HL := HLn; clear HLn))
      clear HO HB
      obtain ⟨vC, hvC⟩ : ∃ vC, vC = vD := ⟨_, rfl⟩
      subst hvC
      have HO := Aside0.mk ho
      have HB := Aside0.mk hb
      clear ho hb hg hat
      refine hK.out _ _ ⟨uj HB.out q0, uj HB.out z0, uj HB.out z1⟩ (fun hHeld => ?_)
      clear hK K
      refine vz (a' := ?_) ?_ ?_; rotate_left; (· (show Act.put _ (some 39) _ = _); (simp only [Act.put, ua, ub, uc, uh, ui]); rfl)
      refine one_ (i := 11) (N := (some 42)) #[yY, yY, yY, yY, yY, yY, yY, yY, yY, yY, yY, yY, yY, yY, yY, yY, yY, yY, xX, xX, xX, xX] rfl rfl (by kernel_rfl) (by decide) (fun K hK => ?_)
      refine vx k70 (w0 := wz) wz.heap.size (by rfl) (.tmp 39) (.tmp 41) 27 70 (.agg #[.int .i64 0, .slice none 0 0]) 32 rfl Try.underlying27 infoRB rfl (by decide) (by decide) _ T [toR x] _ _ _ OK (fun k => OK k ∧ some k ≠ vC.ownBlock) rfl rfl HO.out HL.out (fun k hk => hk) (fun k hk => HOK.out k (Nat.le_trans HB.out.size hk)) HB.out HB.out.size (by (try simp only [List.length_nil, List.length_append, List.length_cons]); omega) ?_
      intro vD wC ho hb hg hat
      (try rw [List.nil_append] at ho)
      (try (have HLn := Aside0.mk (Kd.F_after HL.out hg hat); clear HL; have HL := HLn; clear HLn))
      clear HO HB
      obtain ⟨vC, hvC⟩ : ∃ vC, vC = vD := ⟨_, rfl⟩
      subst hvC
      have HO := Aside0.mk ho
      have HB := Aside0.mk hb
      clear ho hb hg hat
      refine hK.out _ _ ⟨uj HB.out q0, uj HB.out z0, uj HB.out z1⟩ (fun hHeld => ?_)
      clear hK K
      refine vz (a' := ?_) ?_ ?_; rotate_left; (· (show Act.put _ (some 42) _ = _); (simp only [Act.put, ua, ub, uc, uh, ui]); rfl)
      refine one_ (i := 18) (N := (some 49)) #[yY, yY, yY, yY, yY, yY, yY, yY, yY, yY, yY, yY, yY, yY, yY, yY, yY, yY, yY, xX, xX, xX] rfl rfl (by kernel_rfl) (by decide) (fun K hK => ?_)
      refine vx k70 (w0 := wz) wz.heap.size (by rfl) (.tmp 42) (.tmp 48) 27 70 (.agg #[.int .i64 0, .slice none 0 0]) 32 rfl Try.underlying27 infoRB rfl (by decide) (by decide) _ (T ++ [toR x]) D _ _ _ OK (fun k => OK k ∧ k < wz.heap.size) rfl rfl HO.out (xm (Kd.F_bound HCU.out.2) HB.out) (fun k hk => ⟨hk.1, fun e => by have h1 := Kd.N_base HO.out k e.symm; have := hk.2; omega⟩) (fun k hk => HOK.out k (Nat.le_trans HB.out.size hk)) HB.out HB.out.size (by (try simp only [List.length_nil, List.length_append, List.length_cons]); omega) ?_
      intro vD wC ho hb hg hat
      (try rw [List.nil_append] at ho)
      (try (have HLn := Aside0.mk (Kd.F_after HL.out hg hat); clear HL; have HL := HLn; clear HLn))
      clear HO HB
      obtain ⟨vC, hvC⟩ : ∃ vC, vC = vD := ⟨_, rfl⟩
      subst hvC
      have HO := Aside0.mk ho
      have HB := Aside0.mk hb
      clear ho hb hg hat
      have HO_ := HO.out
      rw [← HRF.out] at HO_
      obtain ⟨AF, cF, e_⟩ := Kd.N_slice HO_
      subst e_
      clear HO
      have HO := Aside0.mk HO_
      clear HO_
      have hp_ := HPZ.out.below HB.out
      have k0 := hp_.cell0
      have g0 := hp_.froz 0
      have HPC := Aside0.mk hp_
      clear hp_
      refine hK.out _ _ ⟨uj HB.out q0, uj HB.out z0, uj HB.out z1⟩ (fun hHeld => ?_)
      clear hK K
      refine vz (a' := ?_) ?_ ?_; rotate_left; (· (show Act.put _ (some 49) _ = _); (simp only [Act.put, ua, ub, uc, uh, ui]); rfl)
      refine pU (i := 19) (N := (some 50)) (bA 22 1048575) (by kernel_rfl) rfl ?_
      refine pU (i := 20) (N := (some 51)) (bA 22 2097151) (by kernel_rfl) rfl ?_
      refine last_ (i := 21) (N := none) #[yY, yY, yY, yY, yY, yY, yY, yY, yY, yY, yY, yY, yY, yY, yY, yY, yY, yY, yY, yY, yY, yY] rfl rfl (by kernel_rfl) (by decide) (fun K hK => ?_)
      go_simp
      refine hK.out _ _ ?_
      clear hK K
      (try simp only [Act.put, ua, ub, uc, uh, ui])
      refine done_ (by kernel_rfl) ?_
      go_wp2_with fail
      refine ⟨rfl, .tuple #[], by simp [results, Try.results79, go_sem], rfl, _, ⟨blk_put HPC.out.hd 0 (.slice AF RF.length cF) rfl, ?_, HS.out.lo, HS.out.okq⟩, grown_set1 (ur HBw.out HB.out)⟩
      rw [layL_some HNE.out, map_mid, ← HTQ.out.1, ← HTQ.out.2, ← HRF.out]
      exact Kd.V_far (Kd.V_mk (Kd.N_reads' HO.out).2.1 (Kd.N_F HO.out) (e := 70) (base := 0)) (p := ⟨q, 0, none⟩) (fun k hk => HS.out.okq k hk) _
end Go.Proofs.Ytdfndglenbckhaa.V
