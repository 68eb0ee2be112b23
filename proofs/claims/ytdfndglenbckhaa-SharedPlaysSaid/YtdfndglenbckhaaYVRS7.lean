-- a text of this work, without what this claim doesn't use (wip/shake.py)
import Derived.Test.YtdfndglenbckhaaYVGenS
import Derived.Test.YtdfndglenbckhaaYVPvergerref51
import Derived.Test.YtdfndglenbckhaaYVRS5
import Derived.Deep.DeepCutAuto
import Derived.Deep.CutBlock
import Derived.Test.YtdfndglenbckhaaYVE46
section
set_option linter.unusedVariables false
set_option linter.unusedSimpArgs false
namespace Go.Proofs.Ytdfndglenbckhaa.V
open Go.RowKit Go.Proofs.YtdfndglenbckhaaW.PrintWords Go.Proofs.YtdfndglenbckhaaW.PrintLast Go.Proofs.YtdfndglenbckhaaW.PrintMore
def NoI (w : World) (G : Nat) : Prop := ∀ (a : Addr) x, a.block = G → w.cell? a ≠ some (.int .i64 x)
theorem noI_mk {w : World} {G : Nat} {cur : Array Value} {ty : TypeId} (h : w.heap[G]? = some (.cells cur ty (0, 0))) (hn : ∀ x, Value.int .i64 x ∉ cur.toList) : NoI w G := by
 intro a x ha hv
 simp only [World.cell?, ha, h] at hv
 split at hv
 · cases hv
 · exact hn x (by rw [← Array.getElem?_toList] at hv; exact List.mem_of_getElem? hv)
theorem FE_noi {w : World} {ok : Nat → Prop} {A : Option Addr} {l : List E} (h : Kd.F k46 w ok A l.length l) {G : Nat} (hG : NoI w G) : Kd.F k46 w (fun k => ok k ∧ k ≠ G) A l.length l := by
 intro W' hW
 refine ⟨rfl, (Kd.F_now h).2.1, fun hp => ?_⟩
 obtain ⟨ad, rfl, _⟩ := (Kd.F_now h).2.2 hp
 have hne : ad.block ≠ G := by
  intro e
  obtain ⟨ad', c, he, hcl, hK, hcc, _⟩ := Kd.F_get h z46 0 (by omega) (by omega)
  injection he with he
  subst he
  obtain rfl := k46_open (Kd.FK_now hK)
  exact hG _ _ (by rw [add_block]; exact e) (hcc 1 _ rfl)
 refine ⟨ad, rfl, fun j p hj => ?_⟩
 obtain ⟨hjl, hjp⟩ := List.getElem?_eq_some_iff.1 hj
 obtain ⟨ad', c, he, hcl, hK, hcc, hok⟩ := Kd.F_get h p (j : Int) (by omega) (by omega)
 injection he with he
 subst he
 simp only [Int.toNat_natCast] at hK hcc
 rw [List.getD_eq_getElem?_getD, hj] at hK
 obtain rfl := k46_open (Kd.FK_now hK)
 refine ⟨_, hcl, k46_mk W' p, fun i u hu => ?_⟩
 have h5 := hcc i u hu
 have h6 := World.block_lt_of_cell? w _ h5
 rw [add_block] at h6
 have hb : W'.heap[ad.block]? = w.heap[ad.block]? := hW _ ⟨hok (by decide), hne⟩ h6
 have h7 : W'.cell? (ad.add (j * k46.sz + i)) = w.cell? (ad.add (j * k46.sz + i)) := by simp [World.cell?, add_block, hb]
 exact h7.trans h5
theorem FB_noi {w : World} {ok : Nat → Prop} {A : Option Addr} {l : List Bk} (h : Kd.F k84 w ok A l.length l) {G : Nat} (hG : NoI w G) : Kd.F k84 w (fun k => ok k ∧ k ≠ G) A l.length l := by
 intro W' hW
 refine ⟨rfl, (Kd.F_now h).2.1, fun hp => ?_⟩
 obtain ⟨ad, rfl, _⟩ := (Kd.F_now h).2.2 hp
 have hne : ad.block ≠ G := by
  intro e
  obtain ⟨ad', c, he, hcl, hK, hcc, _⟩ := Kd.F_get h z84 0 (by omega) (by omega)
  injection he with he
  subst he
  obtain ⟨A1, c1, rfl, l1, g1⟩ := k84_openF hK
  exact hG _ _ (by rw [add_block]; exact e) (hcc 0 _ rfl)
 refine ⟨ad, rfl, fun j p hj => ?_⟩
 obtain ⟨hjl, hjp⟩ := List.getElem?_eq_some_iff.1 hj
 obtain ⟨ad', c, he, hcl, hK, hcc, hok⟩ := Kd.F_get h p (j : Int) (by omega) (by omega)
 injection he with he
 subst he
 simp only [Int.toNat_natCast] at hK hcc
 rw [List.getD_eq_getElem?_getD, hj] at hK
 obtain ⟨A1, c1, rfl, l1, g1⟩ := k84_openF hK
 refine ⟨_, hcl, k84_mk W' p l1 (FE_noi g1 hG W' hW), fun i u hu => ?_⟩
 have h5 := hcc i u hu
 have h6 := World.block_lt_of_cell? w _ h5
 rw [add_block] at h6
 have hb : W'.heap[ad.block]? = w.heap[ad.block]? := hW _ ⟨hok (by decide), hne⟩ h6
 have h7 : W'.cell? (ad.add (j * k84.sz + i)) = w.cell? (ad.add (j * k84.sz + i)) := by simp [World.cell?, add_block, hb]
 exact h7.trans h5
structure But (w1 w2 : World) (G : Nat) : Prop where
  size : w1.heap.size ≤ w2.heap.size
  blk : ∀ k, k < w1.heap.size → k ≠ G → w2.heap[k]? = w1.heap[k]?
  os : w2.os = w1.os
  tape : w2.tape = w1.tape
  output : w2.output = w1.output
theorem But.refl (w : World) (G : Nat) : But w w G := ⟨Nat.le_refl _, fun _ _ _ => rfl, rfl, rfl, rfl⟩
end Go.Proofs.Ytdfndglenbckhaa.V
end
section
set_option linter.unusedVariables false
set_option linter.unusedSimpArgs false
namespace Go.Proofs.Ytdfndglenbckhaa.V
open Go.RowKit Go.Proofs.YtdfndglenbckhaaW.PrintWords Go.Proofs.YtdfndglenbckhaaW.PrintLast Go.Proofs.YtdfndglenbckhaaW.PrintMore
theorem FR_noi {w : World} {ok : Nat → Prop} {A : Option Addr} {l : List RBk} (h : Kd.F k70 w ok A l.length l) {G : Nat} (hG : NoI w G) : Kd.F k70 w (fun k => ok k ∧ k ≠ G) A l.length l := by
 intro W' hW
 refine ⟨rfl, (Kd.F_now h).2.1, fun hp => ?_⟩
 obtain ⟨ad, rfl, _⟩ := (Kd.F_now h).2.2 hp
 have hne : ad.block ≠ G := by
  intro e
  obtain ⟨ad', c, he, hcl, hK, hcc, _⟩ := Kd.F_get h z70 0 (by omega) (by omega)
  injection he with he
  subst he
  obtain ⟨A1, c1, rfl, l1, g1⟩ := k70_openF hK
  exact hG _ _ (by rw [add_block]; exact e) (hcc 0 _ rfl)
 refine ⟨ad, rfl, fun j p hj => ?_⟩
 obtain ⟨hjl, hjp⟩ := List.getElem?_eq_some_iff.1 hj
 obtain ⟨ad', c, he, hcl, hK, hcc, hok⟩ := Kd.F_get h p (j : Int) (by omega) (by omega)
 injection he with he
 subst he
 simp only [Int.toNat_natCast] at hK hcc
 rw [List.getD_eq_getElem?_getD, hj] at hK
 obtain ⟨A1, c1, rfl, l1, g1⟩ := k70_openF hK
 refine ⟨_, hcl, k70_mk W' p l1 (FE_noi g1 hG W' hW), fun i u hu => ?_⟩
 have h5 := hcc i u hu
 have h6 := World.block_lt_of_cell? w _ h5
 rw [add_block] at h6
 have hb : W'.heap[ad.block]? = w.heap[ad.block]? := hW _ ⟨hok (by decide), hne⟩ h6
 have h7 : W'.cell? (ad.add (j * k70.sz + i)) = w.cell? (ad.add (j * k70.sz + i)) := by simp [World.cell?, add_block, hb]
 exact h7.trans h5
set_option maxRecDepth 100000 in
set_option maxHeartbeats 4000000 in
theorem l8same (ver : Int) (A : Option Addr) (c : Nat) (bs : List Bk) (base q : Nat) (v : Value) (w : World) (hA : k84.C w A bs.length bs) (hc : bs.length ≤ c) (h : RShAt w base q ver v (bs.map toR)) (hl : bs.length ≤ 1000) (ha : (allB bs).length ≤ 1000000) :
 Calls Try.prog 21 #[.agg #[.int .u64 ver, .slice A bs.length c], .pointer (some ⟨q, 0, none⟩)] w fun x w' => x = .returned (.bool true) ∧ Below w.heap.size w w' := by
 obtain ⟨g, hg⟩ : ∃ g, g = w.heap.size := ⟨_, rfl⟩
 have HZ := Aside0.mk (uf (Below.refl w.heap.size w) (.cells #[.int .u64 ver, .slice A bs.length c] 36))
 have HX := Aside0.mk (heap_alloc_new w (.cells #[.int .u64 ver, .slice A bs.length c] 36))
 obtain ⟨A', c', hv', hc', hF'⟩ := h.reads
 rw [List.length_map] at hv' hc'
 subst hv'
 have HS := Aside0.mk (h.below HZ.out)
 have HR := Aside0.mk (Kd.F_now (xg hF' HZ.out))
 have HA := Aside0.mk (xb hA HZ.out)
 have HBL := Aside0.mk ha
 rw [← hg] at HX
 clear h hF' hA ha
 go_enter Try.func21, Try.ntmps21
 go_upto_region 1 with fail
 obtain ⟨wz, hwz⟩ : ∃ wz : World, wz = w.alloc (.cells #[.int .u64 ver, .slice A bs.length c] 36) := ⟨_, rfl⟩
 rw [← hwz] at HX HZ HS HR HA ⊢
 rw [← hg]
 have x0 : wz.cell? ⟨g, 0, none⟩ = some (.int .u64 ver) := (uk HX.out 0).trans rfl
 have x1 : wz.cell? ⟨g, 1, none⟩ = some (.slice A bs.length c) := (uk HX.out 1).trans rfl
 have q0 := HS.out.cell0
 have q1 := HS.out.cell1
 clear hwz hg
 refine start_ (n := 18) (S := fun w' => w'.cell? ⟨g, 0, none⟩ = some (.int .u64 ver) ∧ w'.cell? ⟨g, 1, none⟩ = some (.slice A bs.length c) ∧ w'.cell? ⟨q, 0, none⟩ = some (.int .u64 ver) ∧ w'.cell? ⟨q, 1, none⟩ = some (.slice A' bs.length c')) (ds := []) #[xX, xX, xX, xX, xX, xX, xX, xX, xX, xX, xX, xX, xX, xX, xX, xX, xX, xX] (by kernel_rfl) rfl rfl ⟨x0, x1, q0, q1⟩ (fun hHeld => ?_)
 refine uj (i := 0) (N := (some 6)) (v := ?_) (a' := ?_) (bA 18 1) rfl rfl (by kernel_rfl) (fun _ _ _ h => h) (Or.inl ⟨by rfl, ?_⟩) ?_ ?_
 rotate_left; (· (intro w'); go_simp; (with_reducible rfl)); rotate_left; (· (simp only [Act.put, ua, ub, uc, uh, ui]); rfl)
 refine uj (i := 2) (N := (some 8)) (v := ?_) (a' := ?_) (bA 18 5) rfl rfl (by kernel_rfl) (fun _ _ _ h => h) (Or.inl ⟨by rfl, ?_⟩) ?_ ?_
 rotate_left; (· (intro w'); go_simp; (with_reducible rfl)); rotate_left; (· (simp only [Act.put, ua, ub, uc, uh, ui]); rfl)
 refine uj (i := 3) (N := (some 9)) (v := ?_) (a' := ?_) (bA 18 13) rfl rfl (by kernel_rfl) (fun _ _ _ h => h) (Or.inl ⟨by rfl, ?_⟩) ?_ ?_
 rotate_left; (· (intro w'); go_simp; (with_reducible rfl)); rotate_left; (· (simp only [Act.put, ua, ub, uc, uh, ui]); rfl)
 refine uj (i := 4) (N := (some 10)) (v := ?_) (a' := ?_) (bA 18 29) rfl rfl (by kernel_rfl) (fun _ _ _ h => h) (Or.inl ⟨by rfl, ?_⟩) ?_ ?_
 rotate_left; (· (intro w'); go_simp; (with_reducible rfl)); rotate_left; (· (simp only [Act.put, ua, ub, uc, uh, ui]); rfl)
 refine xk (i := 1) (N := (some 7)) (v := ?_) (a' := ?_) (bA 18 31) rfl rfl (by kernel_rfl) (fun _ _ _ h => h) (Or.inl ⟨by rfl, ?_⟩) hHeld ?_ ?_
 rotate_left; (· (rintro w' ⟨s0, s1, s2, s3⟩); go_simp; (with_reducible rfl)); rotate_left; (· (simp only [Act.put, ua, ub, uc, uh, ui]); rfl)
 refine xk (i := 5) (N := (some 11)) (v := ?_) (a' := ?_) (bA 18 63) rfl rfl (by kernel_rfl) (fun _ _ _ h => h) (Or.inl ⟨by rfl, ?_⟩) hHeld ?_ ?_
 rotate_left; (· (rintro w' ⟨s0, s1, s2, s3⟩); go_simp; (with_reducible rfl)); rotate_left; (· (simp only [Act.put, ua, ub, uc, uh, ui]); rfl)
 refine uj (i := 6) (N := (some 12)) (v := ?_) (a' := ?_) (bA 18 127) rfl rfl (by kernel_rfl) (fun _ _ _ h => h) (Or.inl ⟨by rfl, ?_⟩) ?_ ?_
 rotate_left; (· (intro w'); go_simp; (with_reducible rfl)); rotate_left; (· (simp only [Act.put, ua, ub, uc, uh, ui]); rfl)
 refine uj (i := 7) (N := (some 13)) (v := ?_) (a' := ?_) (bA 18 255) rfl rfl (by kernel_rfl) (fun _ _ _ h => h) (Or.inl ⟨by rfl, ?_⟩) ?_ ?_
 rotate_left; (· (intro w'); go_simp; (with_reducible rfl)); rotate_left; (· (simp only [Act.put, ua, ub, uc, uh, ui]); rfl)
 refine uj (i := 8) (N := (some 14)) (v := ?_) (a' := ?_) (bA 18 511) rfl rfl (by kernel_rfl) (fun _ _ _ h => h) (Or.inl ⟨by rfl, ?_⟩) ?_ ?_
 rotate_left; (· (intro w'); go_simp; (with_reducible rfl)); rotate_left; (· (simp only [Act.put, ua, ub, uc, uh, ui]); rfl)
 refine uj (i := 11) (N := (some 17)) (v := ?_) (a' := ?_) (bA 18 2559) rfl rfl (by kernel_rfl) (fun _ _ _ h => h) (Or.inl ⟨by rfl, ?_⟩) ?_ ?_
 rotate_left; (· (intro w'); go_simp; (with_reducible rfl)); rotate_left; (· (simp only [Act.put, ua, ub, uc, uh, ui]); rfl)
 refine uj (i := 12) (N := (some 18)) (v := ?_) (a' := ?_) (bA 18 6655) rfl rfl (by kernel_rfl) (fun _ _ _ h => h) (Or.inl ⟨by rfl, ?_⟩) ?_ ?_
 rotate_left; (· (intro w'); go_simp; (with_reducible rfl)); rotate_left; (· (simp only [Act.put, ua, ub, uc, uh, ui]); rfl)
 refine uj (i := 13) (N := (some 19)) (v := ?_) (a' := ?_) (bA 18 14847) rfl rfl (by kernel_rfl) (fun _ _ _ h => h) (Or.inl ⟨by rfl, ?_⟩) ?_ ?_
 rotate_left; (· (intro w'); go_simp; (with_reducible rfl)); rotate_left; (· (simp only [Act.put, ua, ub, uc, uh, ui]); rfl)
 refine xk (i := 9) (N := (some 15)) (v := ?_) (a' := ?_) (bA 18 15359) rfl rfl (by kernel_rfl) (fun _ _ _ h => h) (Or.inl ⟨by rfl, ?_⟩) hHeld ?_ ?_
 rotate_left; (· (rintro w' ⟨s0, s1, s2, s3⟩); go_simp; (with_reducible rfl)); rotate_left; (· (simp only [Act.put, ua, ub, uc, uh, ui]); rfl)
 refine uj (i := 10) (N := (some 16)) (v := ?_) (a' := ?_) (bA 18 16383) rfl rfl (by kernel_rfl) (fun _ _ _ h => h) (Or.inl ⟨by rfl, ?_⟩) ?_ ?_
 rotate_left; (· (intro w'); go_simp; (with_reducible rfl)); rotate_left; (· (simp only [Act.put, ua, ub, uc, uh, ui]); rfl)
 refine xk (i := 14) (N := (some 20)) (v := ?_) (a' := ?_) (bA 18 32767) rfl rfl (by kernel_rfl) (fun _ _ _ h => h) (Or.inl ⟨by rfl, ?_⟩) hHeld ?_ ?_
 rotate_left; (· (rintro w' ⟨s0, s1, s2, s3⟩); go_simp; (with_reducible rfl)); rotate_left; (· (simp only [Act.put, ua, ub, uc, uh, ui]); rfl)
 refine uj (i := 15) (N := (some 21)) (v := ?_) (a' := ?_) (bA 18 65535) rfl rfl (by kernel_rfl) (fun _ _ _ h => h) (Or.inl ⟨by rfl, ?_⟩) ?_ ?_
 rotate_left; (· (intro w'); go_simp; (with_reducible rfl)); rotate_left; (· (simp only [Act.put, ua, ub, uc, uh, ui]); rfl)
 refine uj (i := 16) (N := (some 22)) (v := ?_) (a' := ?_) (bA 18 131071) rfl rfl (by kernel_rfl) (fun _ _ _ h => h) (Or.inl ⟨by rfl, ?_⟩) ?_ ?_
 rotate_left; (· (intro w'); go_simp; (with_reducible rfl)); rotate_left; (· (simp only [Act.put, ua, ub, uc, uh, ui]); rfl)
 refine uj (i := 17) (N := (some 23)) (v := ?_) (a' := ?_) (bA 18 262143) rfl rfl (by kernel_rfl) (fun _ _ _ h => h) (Or.inl ⟨by rfl, ?_⟩) ?_ ?_
 rotate_left; (· (intro w'); go_simp; (with_reducible rfl)); rotate_left; (· (simp only [Act.put, ua, ub, uc, uh, ui]); rfl)
 refine done_ (by kernel_rfl) ?_
 go_wp2_with fail
 clear x0 x1 q0 q1
 go_loopw [5] (fun s5 wr => ∃ i : Nat, s5 = .int .i64 i ∧ i ≤ bs.length ∧ Aside0 (Below wz.heap.size wz wr)) (fun i _ => bs.length - (intOf i).toNat)
 case atStart => exact ⟨0, rfl, Nat.zero_le _, ⟨below_drew (Below.refl _ _)⟩⟩
 case round =>
  obtain ⟨i, rfl, hi, HB⟩ := hrel
  have q1 := (HS.out.below HB.out).cell1
  by_cases hlt : i < bs.length
  · obtain ⟨b, hb⟩ : ∃ b, bs[i]? = some b := ⟨_, List.getElem?_eq_getElem hlt⟩
    have hrb : (bs.map toR)[i]? = some (toR b) := by rw [List.getElem?_map, hb]; rfl
    obtain ⟨ad, A1, c1, rfl, y0, y1, e4, e45⟩ := bk_at (xb HA.out HB.out) hb
    obtain ⟨ad', A2, c2, rfl, z0, z1, e5, e55⟩ := rb_at (xb HR.out HB.out) hrb
    dsimp only [toR] at z0 z1 e5 e55
    have x1 : wr.cell? ⟨g, 1, none⟩ = some (.slice (some ad) bs.length c) := (uk (vw HX.out HB.out) 1).trans rfl
    have HC1 := Aside0.mk e45
    have HC2 := Aside0.mk e55
    have hble := allB_at_le hb
    have hbl : b.f1.length ≤ 1000000 := by have := HBL.out; omega
    have hil : (i : Int) < (bs.length : Int) := by omega
    have hi0 : (0 : Int) ≤ (i : Int) := by omega
    have HBD := Aside0.mk (below_drew (Below.refl wr.heap.size wr))
    clear hb hrb e45 e55 hble
    go_wp2_with fail
    refine start_ (n := 33) (S := fun w' => w'.cell? ⟨g, 1, none⟩ = some (.slice (some ad) bs.length c) ∧ w'.cell? ⟨q, 1, none⟩ = some (.slice (some ad') bs.length c') ∧ w'.cell? (ad.add (i * 2)) = some (.int .i64 b.f0) ∧ w'.cell? ⟨(ad.add (i * 2)).block, (ad.add (i * 2)).off + 1, none⟩ = some (.slice A1 b.f1.length c1) ∧ w'.cell? (ad'.add (i * 2)) = some (.int .i64 b.f0) ∧ w'.cell? ⟨(ad'.add (i * 2)).block, (ad'.add (i * 2)).off + 1, none⟩ = some (.slice A2 b.f1.length c2)) (ds := [30]) #[xX, xX, xX, xX, xX, xX, xX, xX, xX, xX, xX, xX, xX, xX, xX, xX, xX, xX, xX, xX, xX, xX, xX, xX, xX, xX, xX, xX, xX, xX, xX, xX, xX] (by kernel_rfl) rfl rfl ⟨x1, q1, y0, y1, z0, z1⟩ (fun hHeld => ?_)
    refine uj (i := 0) (N := (some 33)) (v := ?_) (a' := ?_) (bA 33 1) rfl rfl (by kernel_rfl) (fun _ _ _ h => h) (Or.inl ⟨by rfl, ?_⟩) ?_ ?_
    rotate_left; (· (intro w'); go_simp; (with_reducible rfl)); rotate_left; (· (simp only [Act.put, ua, ub, uc, uh, ui]); rfl)
    refine uj (i := 2) (N := (some 35)) (v := ?_) (a' := ?_) (bA 33 5) rfl rfl (by kernel_rfl) (fun _ _ _ h => h) (Or.inl ⟨by rfl, ?_⟩) ?_ ?_
    rotate_left; (· (intro w'); go_simp; (with_reducible rfl)); rotate_left; (· (simp only [Act.put, ua, ub, uc, uh, ui]); rfl)
    refine uj (i := 6) (N := (some 39)) (v := ?_) (a' := ?_) (bA 33 69) rfl rfl (by kernel_rfl) (fun _ _ _ h => h) (Or.inl ⟨by rfl, ?_⟩) ?_ ?_
    rotate_left; (· (intro w'); go_simp; (with_reducible rfl)); rotate_left; (· (simp only [Act.put, ua, ub, uc, uh, ui]); rfl)
    refine uj (i := 7) (N := (some 40)) (v := ?_) (a' := ?_) (bA 33 197) rfl rfl (by kernel_rfl) (fun _ _ _ h => h) (Or.inl ⟨by rfl, ?_⟩) ?_ ?_
    rotate_left; (· (intro w'); go_simp; (with_reducible rfl)); rotate_left; (· (simp only [Act.put, ua, ub, uc, uh, ui]); rfl)
    refine uj (i := 8) (N := (some 41)) (v := ?_) (a' := ?_) (bA 33 453) rfl rfl (by kernel_rfl) (fun _ _ _ h => h) (Or.inl ⟨by rfl, ?_⟩) ?_ ?_
    rotate_left; (· (intro w'); go_simp; (with_reducible rfl)); rotate_left; (· (simp only [Act.put, ua, ub, uc, uh, ui]); rfl)
    refine uj (i := 10) (N := (some 43)) (v := ?_) (a' := ?_) (bA 33 1477) rfl rfl (by kernel_rfl) (fun _ _ _ h => h) (Or.inl ⟨by rfl, ?_⟩) ?_ ?_
    rotate_left; (· (intro w'); go_simp; (with_reducible rfl)); rotate_left; (· (simp only [Act.put, ua, ub, uc, uh, ui]); rfl)
    refine xk (i := 1) (N := (some 34)) (v := ?_) (a' := ?_) (bA 33 1479) rfl rfl (by kernel_rfl) (fun _ _ _ h => h) (Or.inl ⟨by rfl, ?_⟩) hHeld ?_ ?_
    rotate_left; (· (rintro w' ⟨s0, s1, s2, s3, s4, s5⟩); go_simp; (with_reducible rfl)); rotate_left; (· (simp only [Act.put, ua, ub, uc, uh, ui]); rfl)
    refine uj (i := 3) (N := (some 36)) (v := ?_) (a' := ?_) (bA 33 1487) rfl rfl (by kernel_rfl) (fun _ _ _ h => h) (Or.inl ⟨by rfl, ?_⟩) ?_ ?_
    rotate_left; (· (intro w'); go_simp; (with_reducible rfl)); rotate_left; (· (simp only [Act.put, ua, ub, uc, uh, ui]); rfl)
    refine uj (i := 4) (N := (some 37)) (v := ?_) (a' := ?_) (bA 33 1503) rfl rfl (by kernel_rfl) (fun _ _ _ h => h) (Or.inl ⟨by rfl, ?_⟩) ?_ ?_
    rotate_left; (· (intro w'); go_simp; (with_reducible rfl)); rotate_left; (· (simp only [Act.put, ua, ub, uc, uh, ui]); rfl)
    refine xk (i := 5) (N := (some 38)) (v := ?_) (a' := ?_) (bA 33 1535) rfl rfl (by kernel_rfl) (fun _ _ _ h => h) (Or.inl ⟨by rfl, ?_⟩) hHeld ?_ ?_
    rotate_left; (· (rintro w' ⟨s0, s1, s2, s3, s4, s5⟩); go_simp; (with_reducible rfl)); rotate_left; (· (simp only [Act.put, ua, ub, uc, uh, ui]); rfl)
    refine xk (i := 9) (N := (some 42)) (v := ?_) (a' := ?_) (bA 33 2047) rfl rfl (by kernel_rfl) (fun _ _ _ h => h) (Or.inl ⟨by rfl, ?_⟩) hHeld ?_ ?_
    rotate_left; (· (rintro w' ⟨s0, s1, s2, s3, s4, s5⟩); go_simp; (with_reducible rfl)); rotate_left; (· (simp only [Act.put, ua, ub, uc, uh, ui]); rfl)
    refine uj (i := 11) (N := (some 44)) (v := ?_) (a' := ?_) (bA 33 4095) rfl rfl (by kernel_rfl) (fun _ _ _ h => h) (Or.inl ⟨by rfl, ?_⟩) ?_ ?_
    rotate_left; (· (intro w'); go_simp; (with_reducible rfl)); rotate_left; (· (simp only [Act.put, ua, ub, uc, uh, ui]); rfl)
    refine uj (i := 12) (N := (some 45)) (v := ?_) (a' := ?_) (bA 33 8191) rfl rfl (by kernel_rfl) (fun _ _ _ h => h) (Or.inl ⟨by rfl, ?_⟩) ?_ ?_
    rotate_left; (· (intro w'); go_simp; (with_reducible rfl)); rotate_left; (· (simp only [Act.put, ua, ub, uc, uh, ui]); rfl)
    refine xk (i := 13) (N := (some 46)) (v := ?_) (a' := ?_) (bA 33 16383) rfl rfl (by kernel_rfl) (fun _ _ _ h => h) (Or.inl ⟨by rfl, ?_⟩) hHeld ?_ ?_
    rotate_left; (· (rintro w' ⟨s0, s1, s2, s3, s4, s5⟩); go_simp; (with_reducible rfl)); rotate_left; (· (simp only [Act.put, ua, ub, uc, uh, ui]); rfl)
    refine uj (i := 14) (N := (some 47)) (v := ?_) (a' := ?_) (bA 33 32767) rfl rfl (by kernel_rfl) (fun _ _ _ h => h) (Or.inl ⟨by rfl, ?_⟩) ?_ ?_
    rotate_left; (· (intro w'); go_simp; (with_reducible rfl)); rotate_left; (· (simp only [Act.put, ua, ub, uc, uh, ui]); rfl)
    refine uj (i := 15) (N := (some 48)) (v := ?_) (a' := ?_) (bA 33 65535) rfl rfl (by kernel_rfl) (fun _ _ _ h => h) (Or.inl ⟨by rfl, ?_⟩) ?_ ?_
    rotate_left; (· (intro w'); go_simp; (with_reducible rfl)); rotate_left; (· (simp only [Act.put, ua, ub, uc, uh, ui]); rfl)
    refine uj (i := 16) (N := (some 49)) (v := ?_) (a' := ?_) (bA 33 131071) rfl rfl (by kernel_rfl) (fun _ _ _ h => h) (Or.inl ⟨by rfl, ?_⟩) ?_ ?_
    rotate_left; (· (intro w'); go_simp; (with_reducible rfl)); rotate_left; (· (simp only [Act.put, ua, ub, uc, uh, ui]); rfl)
    refine uj (i := 18) (N := (some 51)) (v := ?_) (a' := ?_) (bA 33 393215) rfl rfl (by kernel_rfl) (fun _ _ _ h => h) (Or.inl ⟨by rfl, ?_⟩) ?_ ?_
    rotate_left; (· (intro w'); go_simp; (with_reducible rfl)); rotate_left; (· (simp only [Act.put, ua, ub, uc, uh, ui]); rfl)
    refine uj (i := 22) (N := (some 55)) (v := ?_) (a' := ?_) (bA 33 4587519) rfl rfl (by kernel_rfl) (fun _ _ _ h => h) (Or.inl ⟨by rfl, ?_⟩) ?_ ?_
    rotate_left; (· (intro w'); go_simp; (with_reducible rfl)); rotate_left; (· (simp only [Act.put, ua, ub, uc, uh, ui]); rfl)
    refine uj (i := 23) (N := (some 56)) (v := ?_) (a' := ?_) (bA 33 12976127) rfl rfl (by kernel_rfl) (fun _ _ _ h => h) (Or.inl ⟨by rfl, ?_⟩) ?_ ?_
    rotate_left; (· (intro w'); go_simp; (with_reducible rfl)); rotate_left; (· (simp only [Act.put, ua, ub, uc, uh, ui]); rfl)
    refine uj (i := 24) (N := (some 57)) (v := ?_) (a' := ?_) (bA 33 29753343) rfl rfl (by kernel_rfl) (fun _ _ _ h => h) (Or.inl ⟨by rfl, ?_⟩) ?_ ?_
    rotate_left; (· (intro w'); go_simp; (with_reducible rfl)); rotate_left; (· (simp only [Act.put, ua, ub, uc, uh, ui]); rfl)
    refine uj (i := 26) (N := (some 59)) (v := ?_) (a' := ?_) (bA 33 96862207) rfl rfl (by kernel_rfl) (fun _ _ _ h => h) (Or.inl ⟨by rfl, ?_⟩) ?_ ?_
    rotate_left; (· (intro w'); go_simp; (with_reducible rfl)); rotate_left; (· (simp only [Act.put, ua, ub, uc, uh, ui]); rfl)
    refine xk (i := 17) (N := (some 50)) (v := ?_) (a' := ?_) (bA 33 96993279) rfl rfl (by kernel_rfl) (fun _ _ _ h => h) (Or.inl ⟨by rfl, ?_⟩) hHeld ?_ ?_
    rotate_left; (· (rintro w' ⟨s0, s1, s2, s3, s4, s5⟩); go_simp; (with_reducible rfl)); rotate_left; (· (simp only [Act.put, ua, ub, uc, uh, ui]); rfl)
    refine uj (i := 19) (N := (some 52)) (v := ?_) (a' := ?_) (bA 33 97517567) rfl rfl (by kernel_rfl) (fun _ _ _ h => h) (Or.inl ⟨by rfl, ?_⟩) ?_ ?_
    rotate_left; (· (intro w'); go_simp; (with_reducible rfl)); rotate_left; (· (simp only [Act.put, ua, ub, uc, uh, ui]); rfl)
    refine uj (i := 20) (N := (some 53)) (v := ?_) (a' := ?_) (bA 33 98566143) rfl rfl (by kernel_rfl) (fun _ _ _ h => h) (Or.inl ⟨by rfl, ?_⟩) ?_ ?_
    rotate_left; (· (intro w'); go_simp; (with_reducible rfl)); rotate_left; (· (simp only [Act.put, ua, ub, uc, uh, ui]); rfl)
    refine xk (i := 21) (N := (some 54)) (v := ?_) (a' := ?_) (bA 33 100663295) rfl rfl (by kernel_rfl) (fun _ _ _ h => h) (Or.inl ⟨by rfl, ?_⟩) hHeld ?_ ?_
    rotate_left; (· (rintro w' ⟨s0, s1, s2, s3, s4, s5⟩); go_simp; (with_reducible rfl)); rotate_left; (· (simp only [Act.put, ua, ub, uc, uh, ui]); rfl)
    refine xk (i := 25) (N := (some 58)) (v := ?_) (a' := ?_) (bA 33 134217727) rfl rfl (by kernel_rfl) (fun _ _ _ h => h) (Or.inl ⟨by rfl, ?_⟩) hHeld ?_ ?_
    rotate_left; (· (rintro w' ⟨s0, s1, s2, s3, s4, s5⟩); go_simp; (with_reducible rfl)); rotate_left; (· (simp only [Act.put, ua, ub, uc, uh, ui]); rfl)
    refine uj (i := 27) (N := (some 60)) (v := ?_) (a' := ?_) (bA 33 268435455) rfl rfl (by kernel_rfl) (fun _ _ _ h => h) (Or.inl ⟨by rfl, ?_⟩) ?_ ?_
    rotate_left; (· (intro w'); go_simp; (with_reducible rfl)); rotate_left; (· (simp only [Act.put, ua, ub, uc, uh, ui]); rfl)
    refine uj (i := 28) (N := (some 61)) (v := ?_) (a' := ?_) (bA 33 536870911) rfl rfl (by kernel_rfl) (fun _ _ _ h => h) (Or.inl ⟨by rfl, ?_⟩) ?_ ?_
    rotate_left; (· (intro w'); go_simp; (with_reducible rfl)); rotate_left; (· (simp only [Act.put, ua, ub, uc, uh, ui]); rfl)
    refine xk (i := 29) (N := (some 62)) (v := ?_) (a' := ?_) (bA 33 1073741823) rfl rfl (by kernel_rfl) (fun _ _ _ h => h) (Or.inl ⟨by rfl, ?_⟩) hHeld ?_ ?_
    rotate_left; (· (rintro w' ⟨s0, s1, s2, s3, s4, s5⟩); go_simp; (with_reducible rfl)); rotate_left; (· (simp only [Act.put, ua, ub, uc, uh, ui]); rfl)
    refine last_ (i := 30) (N := (some 63)) #[yY, yY, yY, yY, yY, yY, yY, yY, yY, yY, yY, yY, yY, yY, yY, yY, yY, yY, yY, yY, yY, yY, yY, yY, yY, yY, yY, yY, yY, yY, yY, xX, xX] rfl rfl (by kernel_rfl) (by decide) (fun K hK => ?_)
    refine goes_ Try.func22 (by kernel_rfl) rfl #[.slice A1 b.f1.length c1, .slice A2 b.f1.length c2] (by rfl) rfl rfl (by (try simp only [un, uu, uv]); first | done | rfl) ?_
    refine (vergerref5_Same.calls 2000000 A1 c1 b.f1 A2 c2 b.f1 true _ (xb HC1.out HBD.out) e4 (xb HC2.out HBD.out) e5 (same_told 2000000 b.f1 (by omega) (by omega))).mono ?_
    rintro y w8 ⟨rfl, hd8⟩
    have HB8 := Aside0.mk (uo HB.out (uo HBD.out hd8.below))
    clear hd8
    refine ⟨_, rfl, ?_⟩
    refine hK.out _ _ ?_
    clear hK K
    refine xj (a' := ?_) ?_ ?_; rotate_left; (· (show Act.put _ (some 63) _ = _); (simp only [Act.put, ua, ub, uc, uh, ui]); rfl)
    refine uj (i := 31) (N := (some 64)) (v := ?_) (a' := ?_) (bA 33 4294967295) rfl rfl (by kernel_rfl) (fun _ _ _ h => h) (Or.inl ⟨by rfl, ?_⟩) ?_ ?_
    rotate_left; (· (intro w'); go_simp; (with_reducible rfl)); rotate_left; (· (simp only [Act.put, ua, ub, uc, uh, ui]); rfl)
    refine uj (i := 32) (N := (some 65)) (v := ?_) (a' := ?_) (bA 33 8589934591) rfl rfl (by kernel_rfl) (fun _ _ _ h => h) (Or.inl ⟨by rfl, ?_⟩) ?_ ?_
    rotate_left; (· (intro w'); go_simp; (with_reducible rfl)); rotate_left; (· (simp only [Act.put, ua, ub, uc, uh, ui]); rfl)
    refine done_ (by kernel_rfl) ?_
    go_wp2_with fail
    go_roundw
    case rel => exact ⟨i + 1, by go_num, by omega, HB8⟩
    case measure => simp [intOf]; omega
  · obtain rfl : i = bs.length := by omega
    go_wp2
    go_ret
    exact ⟨rfl, uo HZ.out HB.out⟩
end Go.Proofs.Ytdfndglenbckhaa.V
end
