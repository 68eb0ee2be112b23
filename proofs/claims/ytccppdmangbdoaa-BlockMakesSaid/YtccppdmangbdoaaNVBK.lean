-- a text of this work, without what this claim doesn't use (wip/shake.py)
import Derived.Test.YtccppdmangbdoaaNVE31
import Derived.Test.YtccppdmangbdoaaNVPcmp
import Derived.Test.YtccppdmangbdoaaNVPawakeLb
import Derived.Test.YtccppdmangbdoaaNVPblock
import Derived.Test.YtccppdmangbdoaaNVPblockb
import Derived.Test.YtccppdmangbdoaaNVPvergerref5
import Derived.Test.YtccppdmangbdoaaNVL6
import Derived.Test.YtccppdmangbdoaaNVEqE
import Derived.Deep.DeepCutAuto
import Derived.Deep.CutBlock
set_option linter.unusedVariables false
set_option linter.unusedSimpArgs false
namespace Go.Proofs.Ytccppdmangbdoaa.V
open Go.RowKit Go.Proofs.YtccppdmangbdoaaW.PrintWords Go.Proofs.YtccppdmangbdoaaW.PrintLast Go.Proofs.YtccppdmangbdoaaW.PrintMore
def BxB (W : World) (g : Nat) (ty : TypeId) (L : Int) (A : Option Addr) (c : Nat) (l : List E) : Prop := W.heap[g]? = some (.cells #[.int .i64 L, .slice A l.length c] ty (0, 0)) ∧ k31.C W A l.length l ∧ l.length ≤ c
theorem BxB.below {W W1 : World} {g c : Nat} {ty : TypeId} {L : Int} {A : Option Addr} {l : List E} (h : BxB W g ty L A c l) (hb : Below W.heap.size W W1) : BxB W1 g ty L A c l := ⟨blk_below h.1 hb, Kd.C_below h.2.1 hb, h.2.2⟩
theorem BxB.c0 {W : World} {g c : Nat} {ty : TypeId} {L : Int} {A : Option Addr} {l : List E} (h : BxB W g ty L A c l) : W.cell? ⟨g, 0, none⟩ = some (.int .i64 L) := (blk_cell h.1 0).trans rfl
theorem BxB.c1 {W : World} {g c : Nat} {ty : TypeId} {L : Int} {A : Option Addr} {l : List E} (h : BxB W g ty L A c l) : W.cell? ⟨g, 1, none⟩ = some (.slice A l.length c) := (blk_cell h.1 1).trans rfl
structure KMk (w W : World) (g9 g10 g11 g12 g14 : Nat) (X : List E) (f0 : Int) (A9 : Option Addr) (c9 : Nat) (L : Int) (R : Option Addr) (cr : Nat) (raw : List E) (e : E) (A14 : Option Addr) (c14 : Nat) : Prop where
  b9 : BxB W g9 26 f0 A9 c9 X
  b10 : BxB W g10 26 L R cr raw
  b11 : BxB W g11 28 L R cr raw
  b12 : W.heap[g12]? = some (.cells #[.int .u64 e.f0, .int .i64 e.f1] 31 (0, 0))
  b14 : BxB W g14 28 f0 A14 c14 X
  bel : Below w.heap.size w W
theorem KMk.below {w W W1 : World} {g9 g10 g11 g12 g14 : Nat} {X : List E} {f0 : Int} {A9 : Option Addr} {c9 : Nat} {L : Int} {R : Option Addr} {cr : Nat} {raw : List E} {e : E} {A14 : Option Addr} {c14 : Nat} (h : KMk w W g9 g10 g11 g12 g14 X f0 A9 c9 L R cr raw e A14 c14) (hb : Below W.heap.size W W1) : KMk w W1 g9 g10 g11 g12 g14 X f0 A9 c9 L R cr raw e A14 c14 :=
 ⟨h.b9.below hb, h.b10.below hb, h.b11.below hb, blk_below h.b12 hb, h.b14.below hb, below_step h.bel hb⟩
set_option maxRecDepth 100000 in
set_option maxHeartbeats 8000000 in
theorem blockMakes_walk (A : Option Addr) (ca : Nat) (l : List E) (L : Int) (R : Option Addr) (cr : Nat) (raw : List E) (n : Int) (w : World) (hra : k31.C w A l.length l) (hca : l.length ≤ ca) (hrr : k31.C w R raw.length raw) (hcr : raw.length ≤ cr) :
 Calls Try.prog 3 #[.slice A l.length ca, .int .i64 L, .slice R raw.length cr, .int .i64 n] w fun e w' => e = .returned (.bool true) ∧ Below w.heap.size w w' := by
 have HCA := Aside0.mk hra
 have HCR := Aside0.mk hrr
 clear hra hrr
 go_enter Try.func3, Try.ntmps3
 go_wp2_with fail
 by_cases ha : l.length ≤ 120
 · have hd : decide ((l.length : Int) ≤ 120) = true := decide_eq_true (by omega)
   refine (vergerlaw6_Few.calls A ca l true _ HCA.out hca (by rw [few_told, hd])).mono ?_
   rintro y w1 ⟨rfl, ⟨nd, rfl⟩⟩
   have HB1 := Aside0.mk (pw_below_drewN (Below.refl w.heap.size w) nd)
   have HCR1 := Aside0.mk (Kd.C_below HCR.out HB1.out)
   clear hd
   go_wp2_with fail
   by_cases hb : raw.length ≤ 120
   · have hd : decide ((raw.length : Int) ≤ 120) = true := decide_eq_true (by omega)
     refine (vergerlaw6_Few.calls R cr raw true _ HCR1.out hcr (by rw [few_told, hd])).mono ?_
     rintro y w1 ⟨rfl, ⟨nd2, rfl⟩⟩
     have HB2 := Aside0.mk (below_step HB1.out (pw_below_drewN (Below.refl _ _) nd2))
     obtain ⟨w1, hw1⟩ : ∃ w1 : World, w1 = (w.drewN nd).drewN nd2 := ⟨_, rfl⟩
     have HCA1 := Aside0.mk (Kd.C_below HCA.out HB2.out)
     have HCR2 := Aside0.mk (Kd.C_below HCR.out HB2.out)
     rw [← hw1] at HB2 HCA1 HCR2 ⊢
     clear hd hw1 HCA HCR HB1 HCR1
     have HOA := Aside0.mk (show block_Of.f 1000 l = some ((mkB l).f0, (mkB l).f1) from of_told 1000 l (by omega) (by omega))
     go_wp2_with fail
     refine (block_Of.calls 1000 A ca l _ _ _ HCA1.out hca HOA.out).mono ?_
     rintro y w2 ⟨v2, rfl, hv2, hb2⟩
     obtain ⟨A9, c9, rfl⟩ := Kd.V_slice hv2
     obtain ⟨X, hX⟩ : ∃ X, (mkB l).f1 = X := ⟨_, rfl⟩
     obtain ⟨f0, hf0⟩ : ∃ f0, (mkB l).f0 = f0 := ⟨_, rfl⟩
     rw [hX] at hv2 ⊢
     rw [hf0]
     have HXS := Aside0.mk hX
     have HF0 := Aside0.mk hf0
     have HXL := Aside0.mk (show X.length = l.length by rw [← hX, mkB_len])
     clear hX hf0
     have z1 := below_alloc (Below.refl w2.heap.size w2) (.cells #[.int .i64 f0, .slice A9 X.length c9] 26)
     have z2 := below_alloc (Below.refl (w2.alloc (.cells #[.int .i64 f0, .slice A9 X.length c9] 26)).heap.size (w2.alloc (.cells #[.int .i64 f0, .slice A9 X.length c9] 26))) (.cells #[.int .i64 L, .slice R raw.length cr] 26)
     have z3 := below_alloc (Below.refl ((w2.alloc (.cells #[.int .i64 f0, .slice A9 X.length c9] 26)).alloc (.cells #[.int .i64 L, .slice R raw.length cr] 26)).heap.size ((w2.alloc (.cells #[.int .i64 f0, .slice A9 X.length c9] 26)).alloc (.cells #[.int .i64 L, .slice R raw.length cr] 26))) (.cells #[.int .i64 L, .slice R raw.length cr] 28)
     have x1 := heap_alloc_new w2 (.cells #[.int .i64 f0, .slice A9 X.length c9] 26)
     have x2 := heap_alloc_new (w2.alloc (.cells #[.int .i64 f0, .slice A9 X.length c9] 26)) (.cells #[.int .i64 L, .slice R raw.length cr] 26)
     have x3 := heap_alloc_new ((w2.alloc (.cells #[.int .i64 f0, .slice A9 X.length c9] 26)).alloc (.cells #[.int .i64 L, .slice R raw.length cr] 26)) (.cells #[.int .i64 L, .slice R raw.length cr] 28)
     rw [World.size_alloc] at x2
     rw [World.size_alloc, World.size_alloc] at x3
     have hc3 := Kd.C_below (Kd.C_below (Kd.C_below (Kd.C_below HCR2.out hb2) z1) z2) z3
     have HG9 := Aside0.mk (show BxB _ w2.heap.size 26 f0 A9 c9 X from ⟨blk_below (blk_below x1 z2) z3, Kd.C_below (Kd.V_reads' hv2).2.2 (below_step (below_step z1 z2) z3), (Kd.V_reads' hv2).2.1⟩)
     have HG10 := Aside0.mk (show BxB _ (w2.heap.size + 1) 26 L R cr raw from ⟨blk_below x2 z3, hc3, hcr⟩)
     have HG11 := Aside0.mk (show BxB _ (w2.heap.size + 1 + 1) 28 L R cr raw from ⟨x3, hc3, hcr⟩)
     have HBE := Aside0.mk (below_step HB2.out (below_step hb2 (below_step (below_step z1 z2) z3)))
     have HCA3 := Aside0.mk (Kd.C_below HCA1.out (below_step hb2 (below_step (below_step z1 z2) z3)))
     clear hv2 hb2 z1 z2 z3 x1 x2 x3 hc3 HB2 HCA1 HCR2
     go_wp2_with fail
     obtain ⟨w3, hw3⟩ : ∃ w3 : World, w3 = ((w2.alloc (.cells #[.int .i64 f0, .slice A9 X.length c9] 26)).alloc (.cells #[.int .i64 L, .slice R raw.length cr] 26)).alloc (.cells #[.int .i64 L, .slice R raw.length cr] 28) := ⟨_, rfl⟩
     rw [← hw3] at HG9 HG10 HG11 HBE HCA3 ⊢
     clear hw3
     obtain ⟨g9, hg9⟩ : ∃ g9, g9 = w2.heap.size := ⟨_, rfl⟩
     obtain ⟨g10, hg10⟩ : ∃ g10, g10 = w2.heap.size + 1 := ⟨_, rfl⟩
     obtain ⟨g11, hg11⟩ : ∃ g11, g11 = w2.heap.size + 1 + 1 := ⟨_, rfl⟩
     rw [show w2.heap.size + 2 = w2.heap.size + 1 + 1 from rfl]
     rw [← hg11, ← hg10, ← hg9]
     rw [← hg9] at HG9
     rw [← hg10] at HG10
     rw [← hg11] at HG11
     clear hg9 hg10 hg11
     obtain ⟨e, ok, hmin, hok⟩ : ∃ (e : E) (ok : Bool), block_Block_Min.f f0 X = some (e.f0, e.f1, ok) ∧ ((ok = true ∧ ∃ t, X = e :: t) ∨ (ok = false ∧ X = [])) := by
      rw [min_told]
      cases X with
      | nil => exact ⟨⟨0, 0⟩, false, rfl, .inr ⟨rfl, rfl⟩⟩
      | cons a t => exact ⟨a, true, rfl, .inl ⟨rfl, t, rfl⟩⟩
     have HKO := Aside0.mk hok
     refine (block_Block_Min.calls f0 A9 c9 X _ _ _ _ HG9.out.2.1 HG9.out.2.2 hmin).mono ?_
     rintro y w4 ⟨rfl, hb4⟩
     clear hmin hok
     have z4 := below_step hb4 (below_alloc (Below.refl w4.heap.size w4) (.cells #[.int .u64 e.f0, .int .i64 e.f1] 31))
     have HX12 := Aside0.mk (heap_alloc_new w4 (.cells #[.int .u64 e.f0, .int .i64 e.f1] 31))
     have HZ4 := Aside0.mk z4
     have HCA4 := Aside0.mk (Kd.C_below HCA3.out z4)
     have HRF := Aside0.mk (show vergerref5_Of.f 2000 l = some (f0, X) by rw [← HXS.out, ← HF0.out]; exact refof_mk 2000 l (by omega) (by omega))
     clear hb4 z4
     go_wp2_with fail
     refine (vergerref5_Of.calls 2000 A ca l f0 X _ HCA4.out hca HRF.out).mono ?_
     rintro y w5 ⟨v5, rfl, hv5, hb5⟩
     obtain ⟨A14, c14, e_⟩ := Kd.R_slice hv5
     subst e_
     have z6 := below_alloc (Below.refl w5.heap.size w5) (.cells #[.int .i64 f0, .slice A14 X.length c14] 28)
     have z5 := below_step (below_step HZ4.out hb5) z6
     have HK6 := Aside0.mk (show KMk w (w5.alloc (.cells #[.int .i64 f0, .slice A14 X.length c14] 28)) g9 g10 g11 w4.heap.size w5.heap.size X f0 A9 c9 L R cr raw e A14 c14 from
      ⟨HG9.out.below z5, HG10.out.below z5, HG11.out.below z5, blk_below (blk_below HX12.out hb5) z6, ⟨heap_alloc_new w5 _, Kd.C_below (Kd.R_reads' hv5).2.2 z6, (Kd.R_reads' hv5).2.1⟩, below_step HBE.out z5⟩)
     have HOK := Aside0.mk (show block_Block_Ok.f 2000 f0 X = some true by rw [← HXS.out, ← HF0.out]; exact blockok_of 2000 l (by omega) (by omega))
     obtain ⟨rr, hrr⟩ : ∃ rr, (decide (L = ((lev (raw.length : Int) : Nat) : Int)) && okTo raw (raw.length - 1)) = rr := ⟨_, rfl⟩
     have HRO := Aside0.mk (show block_Block_Ok.f 2000 L raw = some rr ∧ vergerref5_Ok.f 2000 L raw = some rr by rw [← hrr]; exact ⟨blockok_told 2000 L raw (by omega) (by omega), refok_told 2000 L raw (by omega) (by omega)⟩)
     clear hv5 hb5 z5 z6 hrr HG9 HG10 HG11 HX12 HZ4 HCA4 HCA3 HBE
     go_upto_region 8 with fail
     obtain ⟨w6, hw6⟩ : ∃ w6 : World, w6 = w5.alloc (.cells #[.int .i64 f0, .slice A14 X.length c14] 28) := ⟨_, rfl⟩
     obtain ⟨g12, hg12⟩ : ∃ g12, g12 = w4.heap.size := ⟨_, rfl⟩
     obtain ⟨g14, hg14⟩ : ∃ g14, g14 = w5.heap.size := ⟨_, rfl⟩
     rw [← hw6, ← hg12, ← hg14] at HK6
     rw [← hw6, ← hg12, ← hg14]
     clear hw6 hg12 hg14
     have mixed : Try.prog.follows .mixedOrders = true := by kernel_rfl
     have hneq := fun (a b : Int) (W : World) => neqE_same a b W
     have HK := Aside0.mk (HK6.out.below (below_drew (Below.refl _ _)))
     clear HK6
     go_cut [77] (fun s77 wx => s77 = .bool false ∧ Aside0 (Below w.heap.size w wx))
     case first =>
      rcases HKO.out with ⟨rfl, t, hXt⟩ | ⟨rfl, hXt⟩
      · have hpos : 0 < X.length := by rw [hXt]; simp
        have hpl : 0 < l.length := by have := HXL.out; omega
        obtain ⟨ad, rfl⟩ : ∃ ad, A14 = some ad := by
         obtain ⟨ad, e1, _⟩ := HK.out.b14.2.1.2.2 hpos
         exact ⟨ad, e1⟩
        have HAD : Aside0 (∀ W : World, k31.C W (some ad) X.length X → W.cell? ad = some (.int .u64 e.f0) ∧ W.cell? ⟨ad.block, ad.off + 1, none⟩ = some (.int .i64 e.f1)) := ⟨fun W hW => by
         obtain ⟨ad', e1, y0, y1⟩ := at_T31 hW 0 (by omega) (by omega)
         injection e1 with e1
         subst e1
         have hrd : rd_T31 X 0 = e := by unfold rd_T31; rw [hXt]; rfl
         rw [hrd] at y0 y1
         exact ⟨by simpa [Addr.add] using y0, by simpa [Addr.add] using y1⟩⟩
        have hp1 : (0 : Int) < (l.length : Int) := by omega
        have hp2 : (l.length : Int) > 0 := by omega
        have hp3 : decide ((l.length : Int) > 0) = true := decide_eq_true hp2
        have hp4 : decide (0 < l.length) = true := decide_eq_true hpl
        have hp5 : (0 : Int) < (X.length : Int) := by omega
        clear hXt
        refine start_ (n := 39) (S := fun w' => w'.cell? ⟨g9, 0, none⟩ = some (.int .i64 f0) ∧ w'.cell? ⟨g9, 1, none⟩ = some (.slice A9 X.length c9) ∧ w'.cell? ⟨g14, 0, none⟩ = some (.int .i64 f0) ∧ w'.cell? ⟨g14, 1, none⟩ = some (.slice (some ad) X.length c14) ∧ w'.cell? ⟨g10, 0, none⟩ = some (.int .i64 L) ∧ w'.cell? ⟨g10, 1, none⟩ = some (.slice R raw.length cr) ∧ w'.cell? ⟨g11, 0, none⟩ = some (.int .i64 L) ∧ w'.cell? ⟨g11, 1, none⟩ = some (.slice R raw.length cr) ∧ w'.cell? ⟨g12, 0, none⟩ = some (.int .u64 e.f0) ∧ w'.cell? ⟨g12, 1, none⟩ = some (.int .i64 e.f1) ∧ w'.cell? ad = some (.int .u64 e.f0) ∧ w'.cell? ⟨ad.block, ad.off + 1, none⟩ = some (.int .i64 e.f1)) (ds := []) #[false, false, false, false, false, false, false, false, false, false, false, false, false, false, false, false, false, false, false, false, false, false, false, false, false, false, false, false, false, false, false, false, false, false, false, false, false, false, false] (by kernel_rfl) rfl rfl ⟨HK.out.b9.c0, HK.out.b9.c1, HK.out.b14.c0, HK.out.b14.c1, HK.out.b10.c0, HK.out.b10.c1, HK.out.b11.c0, HK.out.b11.c1, (blk_cell HK.out.b12 0).trans rfl, (blk_cell HK.out.b12 1).trans rfl, (HAD.out _ HK.out.b14.2.1).1, (HAD.out _ HK.out.b14.2.1).2⟩ (fun hHeld => ?_)
        refine take_ (i := 0) (N := (some 39)) (v := ?_) (a' := ?_) #[true, false, false, false, false, false, false, false, false, false, false, false, false, false, false, false, false, false, false, false, false, false, false, false, false, false, false, false, false, false, false, false, false, false, false, false, false, false, false] rfl rfl (by kernel_rfl) (fun _ _ _ h => h) (Or.inl ⟨by rfl, ?_⟩) hHeld ?_ ?_
        rotate_left
        · rintro w' ⟨s0, s1, s2, s3, s4, s5, s6, s7, s8, s9, s10, s11⟩
          go_simp
          with_reducible rfl
        rotate_left
        · simp only [Act.put, List.setIfInBounds_toArray, List.set_cons_zero, List.set_cons_succ, i64_w, i32_w]
          rfl
        refine take_ (i := 1) (N := (some 40)) (v := ?_) (a' := ?_) #[true, true, false, false, false, false, false, false, false, false, false, false, false, false, false, false, false, false, false, false, false, false, false, false, false, false, false, false, false, false, false, false, false, false, false, false, false, false, false] rfl rfl (by kernel_rfl) (fun _ _ _ h => h) (Or.inl ⟨by rfl, ?_⟩) hHeld ?_ ?_
        rotate_left
        · rintro w' ⟨s0, s1, s2, s3, s4, s5, s6, s7, s8, s9, s10, s11⟩
          go_simp
          with_reducible rfl
        rotate_left
        · simp only [Act.put, List.setIfInBounds_toArray, List.set_cons_zero, List.set_cons_succ, i64_w, i32_w]
          rfl
        refine one_ (i := 2) (N := (some 41)) #[true, true, true, false, false, false, false, false, false, false, false, false, false, false, false, false, false, false, false, false, false, false, false, false, false, false, false, false, false, false, false, false, false, false, false, false, false, false, false] rfl rfl (by kernel_rfl) (by decide) (fun K hK => ?_)
        refine goes_ Try.func15 (by kernel_rfl) rfl #[.agg #[.int .i64 f0, .slice A9 X.length c9], .agg #[.int .i64 f0, .slice (some ad) X.length c14]] (by rfl) rfl rfl (by (try simp only [List.map_toArray, List.map_cons, List.map_nil]); first | done | rfl) ?_
        refine (vergerlaw6_Same.calls 2000 f0 _ _ X f0 _ _ X true _ HK.out.b9.2.1 HK.out.b9.2.2 HK.out.b14.2.1 HK.out.b14.2.2 (same6_tells 2000 f0 X (by have := HXL.out; omega) (by have := HXL.out; omega))).mono ?_
        rintro y w7 ⟨rfl, hb7⟩
        have n_ := Aside0.mk (HK.out.below hb7)
        clear HK
        have HK := n_
        clear n_ hb7
        refine ⟨_, rfl, ?_⟩
        refine hK.out _ _ ⟨HK.out.b9.c0, HK.out.b9.c1, HK.out.b14.c0, HK.out.b14.c1, HK.out.b10.c0, HK.out.b10.c1, HK.out.b11.c0, HK.out.b11.c1, (blk_cell HK.out.b12 0).trans rfl, (blk_cell HK.out.b12 1).trans rfl, (HAD.out _ HK.out.b14.2.1).1, (HAD.out _ HK.out.b14.2.1).2⟩ (fun hHeld => ?_)
        clear hK K
        refine norm_ (a' := ?_) ?_ ?_
        rotate_left
        · show Act.put _ (some 41) _ = _
          simp only [Act.put, List.setIfInBounds_toArray, List.set_cons_zero, List.set_cons_succ, i64_w, i32_w]
          rfl
        refine pure_ (i := 3) (N := (some 42)) (v := ?_) (a' := ?_) #[true, true, true, true, false, false, false, false, false, false, false, false, false, false, false, false, false, false, false, false, false, false, false, false, false, false, false, false, false, false, false, false, false, false, false, false, false, false, false] rfl rfl (by kernel_rfl) (fun _ _ _ h => h) (Or.inl ⟨by rfl, ?_⟩) ?_ ?_
        rotate_left
        · intro w'
          go_simp
          with_reducible rfl
        rotate_left
        · simp only [Act.put, List.setIfInBounds_toArray, List.set_cons_zero, List.set_cons_succ, i64_w, i32_w]
          rfl
        refine pure_ (i := 4) (N := (some 43)) (v := ?_) (a' := ?_) #[true, true, true, true, true, false, false, false, false, false, false, false, false, false, false, false, false, false, false, false, false, false, false, false, false, false, false, false, false, false, false, false, false, false, false, false, false, false, false] rfl rfl (by kernel_rfl) (fun _ _ _ h => h) (Or.inl ⟨by rfl, ?_⟩) ?_ ?_
        rotate_left
        · intro w'
          go_simp
          with_reducible rfl
        rotate_left
        · simp only [Act.put, List.setIfInBounds_toArray, List.set_cons_zero, List.set_cons_succ, i64_w, i32_w]
          rfl
        refine take_ (i := 5) (N := (some 44)) (v := ?_) (a' := ?_) #[true, true, true, true, true, true, false, false, false, false, false, false, false, false, false, false, false, false, false, false, false, false, false, false, false, false, false, false, false, false, false, false, false, false, false, false, false, false, false] rfl rfl (by kernel_rfl) (fun _ _ _ h => h) (Or.inl ⟨by rfl, ?_⟩) hHeld ?_ ?_
        rotate_left
        · rintro w' ⟨s0, s1, s2, s3, s4, s5, s6, s7, s8, s9, s10, s11⟩
          go_simp
          with_reducible rfl
        rotate_left
        · simp only [Act.put, List.setIfInBounds_toArray, List.set_cons_zero, List.set_cons_succ, i64_w, i32_w]
          rfl
        refine one_ (i := 6) (N := (some 45)) #[true, true, true, true, true, true, true, false, false, false, false, false, false, false, false, false, false, false, false, false, false, false, false, false, false, false, false, false, false, false, false, false, false, false, false, false, false, false, false] rfl rfl (by kernel_rfl) (by decide) (fun K hK => ?_)
        refine goes_ Try.func16 (by kernel_rfl) rfl #[.agg #[.int .i64 f0, .slice A9 X.length c9]] (by rfl) rfl rfl (by (try simp only [List.map_toArray, List.map_cons, List.map_nil]); first | done | rfl) ?_
        refine (block_Block_Ok.calls 2000 f0 A9 c9 X true _ HK.out.b9.2.1 HK.out.b9.2.2 HOK.out).mono ?_
        rintro y w8 ⟨rfl, hb8⟩
        have n_ := Aside0.mk (HK.out.below hb8)
        clear HK
        have HK := n_
        clear n_ hb8
        refine ⟨_, rfl, ?_⟩
        refine hK.out _ _ ⟨HK.out.b9.c0, HK.out.b9.c1, HK.out.b14.c0, HK.out.b14.c1, HK.out.b10.c0, HK.out.b10.c1, HK.out.b11.c0, HK.out.b11.c1, (blk_cell HK.out.b12 0).trans rfl, (blk_cell HK.out.b12 1).trans rfl, (HAD.out _ HK.out.b14.2.1).1, (HAD.out _ HK.out.b14.2.1).2⟩ (fun hHeld => ?_)
        clear hK K
        refine norm_ (a' := ?_) ?_ ?_
        rotate_left
        · show Act.put _ (some 45) _ = _
          simp only [Act.put, List.setIfInBounds_toArray, List.set_cons_zero, List.set_cons_succ, i64_w, i32_w]
          rfl
        refine pure_ (i := 7) (N := (some 46)) (v := ?_) (a' := ?_) #[true, true, true, true, true, true, true, true, false, false, false, false, false, false, false, false, false, false, false, false, false, false, false, false, false, false, false, false, false, false, false, false, false, false, false, false, false, false, false] rfl rfl (by kernel_rfl) (fun _ _ _ h => h) (Or.inl ⟨by rfl, ?_⟩) ?_ ?_
        rotate_left
        · intro w'
          go_simp
          with_reducible rfl
        rotate_left
        · simp only [Act.put, List.setIfInBounds_toArray, List.set_cons_zero, List.set_cons_succ, i64_w, i32_w]
          rfl
        refine pure_ (i := 8) (N := (some 47)) (v := ?_) (a' := ?_) #[true, true, true, true, true, true, true, true, true, false, false, false, false, false, false, false, false, false, false, false, false, false, false, false, false, false, false, false, false, false, false, false, false, false, false, false, false, false, false] rfl rfl (by kernel_rfl) (fun _ _ _ h => h) (Or.inl ⟨by rfl, ?_⟩) ?_ ?_
        rotate_left
        · intro w'
          go_simp
          with_reducible rfl
        rotate_left
        · simp only [Act.put, List.setIfInBounds_toArray, List.set_cons_zero, List.set_cons_succ, i64_w, i32_w]
          rfl
        refine pure_ (i := 9) (N := (some 48)) (v := undef) (a' := ?_) #[true, true, true, true, true, true, true, true, true, true, false, false, false, false, false, false, false, false, false, false, false, false, false, false, false, false, false, false, false, false, false, false, false, false, false, false, false, false, false] rfl rfl (by kernel_rfl) (fun _ _ _ h => h) (Or.inr ⟨by rfl, rfl⟩) ?_ ?_
        rotate_left
        · simp only [Act.put, List.setIfInBounds_toArray, List.set_cons_zero, List.set_cons_succ, i64_w, i32_w]
          rfl
        refine pure_ (i := 10) (N := (some 49)) (v := undef) (a' := ?_) #[true, true, true, true, true, true, true, true, true, true, true, false, false, false, false, false, false, false, false, false, false, false, false, false, false, false, false, false, false, false, false, false, false, false, false, false, false, false, false] rfl rfl (by kernel_rfl) (fun _ _ _ h => h) (Or.inr ⟨by rfl, rfl⟩) ?_ ?_
        rotate_left
        · simp only [Act.put, List.setIfInBounds_toArray, List.set_cons_zero, List.set_cons_succ, i64_w, i32_w]
          rfl
        refine pure_ (i := 11) (N := (some 50)) (v := undef) (a' := ?_) #[true, true, true, true, true, true, true, true, true, true, true, true, false, false, false, false, false, false, false, false, false, false, false, false, false, false, false, false, false, false, false, false, false, false, false, false, false, false, false] rfl rfl (by kernel_rfl) (fun _ _ _ h => h) (Or.inr ⟨by rfl, rfl⟩) ?_ ?_
        rotate_left
        · simp only [Act.put, List.setIfInBounds_toArray, List.set_cons_zero, List.set_cons_succ, i64_w, i32_w]
          rfl
        refine pure_ (i := 12) (N := (some 51)) (v := ?_) (a' := ?_) #[true, true, true, true, true, true, true, true, true, true, true, true, true, false, false, false, false, false, false, false, false, false, false, false, false, false, false, false, false, false, false, false, false, false, false, false, false, false, false] rfl rfl (by kernel_rfl) (fun _ _ _ h => h) (Or.inl ⟨by rfl, ?_⟩) ?_ ?_
        rotate_left
        · intro w'
          go_simp
          with_reducible rfl
        rotate_left
        · simp only [Act.put, List.setIfInBounds_toArray, List.set_cons_zero, List.set_cons_succ, i64_w, i32_w]
          rfl
        refine pure_ (i := 13) (N := (some 52)) (v := ?_) (a' := ?_) #[true, true, true, true, true, true, true, true, true, true, true, true, true, true, false, false, false, false, false, false, false, false, false, false, false, false, false, false, false, false, false, false, false, false, false, false, false, false, false] rfl rfl (by kernel_rfl) (fun _ _ _ h => h) (Or.inl ⟨by rfl, ?_⟩) ?_ ?_
        rotate_left
        · intro w'
          go_simp
          with_reducible rfl
        rotate_left
        · simp only [Act.put, List.setIfInBounds_toArray, List.set_cons_zero, List.set_cons_succ, i64_w, i32_w]
          rfl
        refine pure_ (i := 14) (N := (some 53)) (v := ?_) (a' := ?_) #[true, true, true, true, true, true, true, true, true, true, true, true, true, true, true, false, false, false, false, false, false, false, false, false, false, false, false, false, false, false, false, false, false, false, false, false, false, false, false] rfl rfl (by kernel_rfl) (fun _ _ _ h => h) (Or.inl ⟨by rfl, ?_⟩) ?_ ?_
        rotate_left
        · intro w'
          go_simp
          with_reducible rfl
        rotate_left
        · simp only [Act.put, List.setIfInBounds_toArray, List.set_cons_zero, List.set_cons_succ, i64_w, i32_w]
          rfl
        refine pure_ (i := 15) (N := (some 54)) (v := ?_) (a' := ?_) #[true, true, true, true, true, true, true, true, true, true, true, true, true, true, true, true, false, false, false, false, false, false, false, false, false, false, false, false, false, false, false, false, false, false, false, false, false, false, false] rfl rfl (by kernel_rfl) (fun _ _ _ h => h) (Or.inl ⟨by rfl, ?_⟩) ?_ ?_
        rotate_left
        · intro w'
          go_simp
          with_reducible rfl
        rotate_left
        · simp only [Act.put, List.setIfInBounds_toArray, List.set_cons_zero, List.set_cons_succ, i64_w, i32_w]
          rfl
        refine pure_ (i := 16) (N := (some 55)) (v := ?_) (a' := ?_) #[true, true, true, true, true, true, true, true, true, true, true, true, true, true, true, true, true, false, false, false, false, false, false, false, false, false, false, false, false, false, false, false, false, false, false, false, false, false, false] rfl rfl (by kernel_rfl) (fun _ _ _ h => h) (Or.inl ⟨by rfl, ?_⟩) ?_ ?_
        rotate_left
        · intro w'
          go_simp
          with_reducible rfl
        rotate_left
        · simp only [Act.put, List.setIfInBounds_toArray, List.set_cons_zero, List.set_cons_succ, i64_w, i32_w]
          rfl
        refine pure_ (i := 17) (N := (some 56)) (v := ?_) (a' := ?_) #[true, true, true, true, true, true, true, true, true, true, true, true, true, true, true, true, true, true, false, false, false, false, false, false, false, false, false, false, false, false, false, false, false, false, false, false, false, false, false] rfl rfl (by kernel_rfl) (fun _ _ _ h => h) (Or.inl ⟨by rfl, ?_⟩) ?_ ?_
        rotate_left
        · intro w'
          go_simp
          with_reducible rfl
        rotate_left
        · simp only [Act.put, List.setIfInBounds_toArray, List.set_cons_zero, List.set_cons_succ, i64_w, i32_w]
          rfl
        refine pure_ (i := 18) (N := (some 57)) (v := ?_) (a' := ?_) #[true, true, true, true, true, true, true, true, true, true, true, true, true, true, true, true, true, true, true, false, false, false, false, false, false, false, false, false, false, false, false, false, false, false, false, false, false, false, false] rfl rfl (by kernel_rfl) (fun _ _ _ h => h) (Or.inl ⟨by rfl, ?_⟩) ?_ ?_
        rotate_left
        · intro w'
          go_simp
          with_reducible rfl
        rotate_left
        · simp only [Act.put, List.setIfInBounds_toArray, List.set_cons_zero, List.set_cons_succ, i64_w, i32_w]
          rfl
        refine pure_ (i := 19) (N := (some 58)) (v := ?_) (a' := ?_) #[true, true, true, true, true, true, true, true, true, true, true, true, true, true, true, true, true, true, true, true, false, false, false, false, false, false, false, false, false, false, false, false, false, false, false, false, false, false, false] rfl rfl (by kernel_rfl) (fun _ _ _ h => h) (Or.inl ⟨by rfl, ?_⟩) ?_ ?_
        rotate_left
        · intro w'
          go_simp
          with_reducible rfl
        rotate_left
        · simp only [Act.put, List.setIfInBounds_toArray, List.set_cons_zero, List.set_cons_succ, i64_w, i32_w]
          rfl
        refine pure_ (i := 20) (N := (some 59)) (v := ?_) (a' := ?_) #[true, true, true, true, true, true, true, true, true, true, true, true, true, true, true, true, true, true, true, true, true, false, false, false, false, false, false, false, false, false, false, false, false, false, false, false, false, false, false] rfl rfl (by kernel_rfl) (fun _ _ _ h => h) (Or.inl ⟨by rfl, ?_⟩) ?_ ?_
        rotate_left
        · intro w'
          go_simp
          with_reducible rfl
        rotate_left
        · simp only [Act.put, List.setIfInBounds_toArray, List.set_cons_zero, List.set_cons_succ, i64_w, i32_w]
          rfl
        refine pure_ (i := 21) (N := (some 60)) (v := ?_) (a' := ?_) #[true, true, true, true, true, true, true, true, true, true, true, true, true, true, true, true, true, true, true, true, true, true, false, false, false, false, false, false, false, false, false, false, false, false, false, false, false, false, false] rfl rfl (by kernel_rfl) (fun _ _ _ h => h) (Or.inl ⟨by rfl, ?_⟩) ?_ ?_
        rotate_left
        · intro w'
          go_simp
          with_reducible rfl
        rotate_left
        · simp only [Act.put, List.setIfInBounds_toArray, List.set_cons_zero, List.set_cons_succ, i64_w, i32_w]
          rfl
        refine pure_ (i := 22) (N := (some 61)) (v := ?_) (a' := ?_) #[true, true, true, true, true, true, true, true, true, true, true, true, true, true, true, true, true, true, true, true, true, true, true, false, false, false, false, false, false, false, false, false, false, false, false, false, false, false, false] rfl rfl (by kernel_rfl) (fun _ _ _ h => h) (Or.inl ⟨by rfl, ?_⟩) ?_ ?_
        rotate_left
        · intro w'
          go_simp
          with_reducible rfl
        rotate_left
        · simp only [Act.put, List.setIfInBounds_toArray, List.set_cons_zero, List.set_cons_succ, i64_w, i32_w]
          rfl
        refine pure_ (i := 23) (N := (some 62)) (v := ?_) (a' := ?_) #[true, true, true, true, true, true, true, true, true, true, true, true, true, true, true, true, true, true, true, true, true, true, true, true, false, false, false, false, false, false, false, false, false, false, false, false, false, false, false] rfl rfl (by kernel_rfl) (fun _ _ _ h => h) (Or.inl ⟨by rfl, ?_⟩) ?_ ?_
        rotate_left
        · intro w'
          go_simp
          with_reducible rfl
        rotate_left
        · simp only [Act.put, List.setIfInBounds_toArray, List.set_cons_zero, List.set_cons_succ, i64_w, i32_w]
          rfl
        refine pure_ (i := 25) (N := (some 64)) (v := ?_) (a' := ?_) #[true, true, true, true, true, true, true, true, true, true, true, true, true, true, true, true, true, true, true, true, true, true, true, true, false, true, false, false, false, false, false, false, false, false, false, false, false, false, false] rfl rfl (by kernel_rfl) (fun _ _ _ h => h) (Or.inl ⟨by rfl, ?_⟩) ?_ ?_
        rotate_left
        · intro w'
          go_simp
          with_reducible rfl
        rotate_left
        · simp only [Act.put, List.setIfInBounds_toArray, List.set_cons_zero, List.set_cons_succ, i64_w, i32_w]
          rfl
        refine take_ (i := 24) (N := (some 63)) (v := ?_) (a' := ?_) #[true, true, true, true, true, true, true, true, true, true, true, true, true, true, true, true, true, true, true, true, true, true, true, true, true, true, false, false, false, false, false, false, false, false, false, false, false, false, false] rfl rfl (by kernel_rfl) (fun _ _ _ h => h) (Or.inl ⟨by rfl, ?_⟩) hHeld ?_ ?_
        rotate_left
        · rintro w' ⟨s0, s1, s2, s3, s4, s5, s6, s7, s8, s9, s10, s11⟩
          go_simp
          with_reducible rfl
        rotate_left
        · simp only [Act.put, List.setIfInBounds_toArray, List.set_cons_zero, List.set_cons_succ, i64_w, i32_w]
          rfl
        refine take_ (i := 26) (N := (some 65)) (v := ?_) (a' := ?_) #[true, true, true, true, true, true, true, true, true, true, true, true, true, true, true, true, true, true, true, true, true, true, true, true, true, true, true, false, false, false, false, false, false, false, false, false, false, false, false] rfl rfl (by kernel_rfl) (fun _ _ _ h => h) (Or.inl ⟨by rfl, ?_⟩) hHeld ?_ ?_
        rotate_left
        · rintro w' ⟨s0, s1, s2, s3, s4, s5, s6, s7, s8, s9, s10, s11⟩
          go_simp
          with_reducible rfl
        rotate_left
        · simp only [Act.put, List.setIfInBounds_toArray, List.set_cons_zero, List.set_cons_succ, i64_w, i32_w]
          rfl
        refine pure_ (i := 27) (N := (some 66)) (v := ?_) (a' := ?_) #[true, true, true, true, true, true, true, true, true, true, true, true, true, true, true, true, true, true, true, true, true, true, true, true, true, true, true, true, false, false, false, false, false, false, false, false, false, false, false] rfl rfl (by kernel_rfl) (fun _ _ _ h => h) (Or.inl ⟨by rfl, ?_⟩) ?_ ?_
        rotate_left
        · intro w'
          go_simp
          with_reducible rfl
        rotate_left
        · simp only [Act.put, List.setIfInBounds_toArray, List.set_cons_zero, List.set_cons_succ, i64_w, i32_w]
          rfl
        refine take_ (i := 28) (N := (some 67)) (v := ?_) (a' := ?_) #[true, true, true, true, true, true, true, true, true, true, true, true, true, true, true, true, true, true, true, true, true, true, true, true, true, true, true, true, true, false, false, false, false, false, false, false, false, false, false] rfl rfl (by kernel_rfl) (fun _ _ _ h => h) (Or.inl ⟨by rfl, ?_⟩) hHeld ?_ ?_
        rotate_left
        · rintro w' ⟨s0, s1, s2, s3, s4, s5, s6, s7, s8, s9, s10, s11⟩
          go_simp
          with_reducible rfl
        rotate_left
        · simp only [Act.put, List.setIfInBounds_toArray, List.set_cons_zero, List.set_cons_succ, i64_w, i32_w]
          rfl
        refine pure_ (i := 29) (N := (some 68)) (v := ?_) (a' := ?_) #[true, true, true, true, true, true, true, true, true, true, true, true, true, true, true, true, true, true, true, true, true, true, true, true, true, true, true, true, true, true, false, false, false, false, false, false, false, false, false] rfl rfl (by kernel_rfl) (fun _ _ _ h => h) (Or.inl ⟨by rfl, ?_⟩) ?_ ?_
        rotate_left
        · intro w'
          go_simp
          with_reducible rfl
        rotate_left
        · simp only [Act.put, List.setIfInBounds_toArray, List.set_cons_zero, List.set_cons_succ, i64_w, i32_w]
          rfl
        refine pure_ (i := 30) (N := (some 69)) (v := ?_) (a' := ?_) #[true, true, true, true, true, true, true, true, true, true, true, true, true, true, true, true, true, true, true, true, true, true, true, true, true, true, true, true, true, true, true, false, false, false, false, false, false, false, false] rfl rfl (by kernel_rfl) (fun _ _ _ h => h) (Or.inl ⟨by rfl, ?_⟩) ?_ ?_
        rotate_left
        · intro w'
          go_simp
          with_reducible rfl
        rotate_left
        · simp only [Act.put, List.setIfInBounds_toArray, List.set_cons_zero, List.set_cons_succ, i64_w, i32_w]
          rfl
        refine pure_ (i := 31) (N := (some 70)) (v := ?_) (a' := ?_) #[true, true, true, true, true, true, true, true, true, true, true, true, true, true, true, true, true, true, true, true, true, true, true, true, true, true, true, true, true, true, true, true, false, false, false, false, false, false, false] rfl rfl (by kernel_rfl) (fun _ _ _ h => h) (Or.inl ⟨by rfl, ?_⟩) ?_ ?_
        rotate_left
        · intro w'
          go_simp
          with_reducible rfl
        rotate_left
        · simp only [Act.put, List.setIfInBounds_toArray, List.set_cons_zero, List.set_cons_succ, i64_w, i32_w]
          rfl
        refine pure_ (i := 32) (N := (some 71)) (v := ?_) (a' := ?_) #[true, true, true, true, true, true, true, true, true, true, true, true, true, true, true, true, true, true, true, true, true, true, true, true, true, true, true, true, true, true, true, true, true, false, false, false, false, false, false] rfl rfl (by kernel_rfl) (fun _ _ _ h => h) (Or.inl ⟨by rfl, ?_⟩) ?_ ?_
        rotate_left
        · intro w'
          go_simp
          with_reducible rfl
        rotate_left
        · simp only [Act.put, List.setIfInBounds_toArray, List.set_cons_zero, List.set_cons_succ, i64_w, i32_w]
          rfl
        refine take_ (i := 33) (N := (some 72)) (v := ?_) (a' := ?_) #[true, true, true, true, true, true, true, true, true, true, true, true, true, true, true, true, true, true, true, true, true, true, true, true, true, true, true, true, true, true, true, true, true, true, false, false, false, false, false] rfl rfl (by kernel_rfl) (fun _ _ _ h => h) (Or.inl ⟨by rfl, ?_⟩) hHeld ?_ ?_
        rotate_left
        · rintro w' ⟨s0, s1, s2, s3, s4, s5, s6, s7, s8, s9, s10, s11⟩
          go_simp
          with_reducible rfl
        rotate_left
        · simp only [Act.put, List.setIfInBounds_toArray, List.set_cons_zero, List.set_cons_succ, i64_w, i32_w]
          rfl
        refine take_ (i := 35) (N := (some 74)) (v := ?_) (a' := ?_) #[true, true, true, true, true, true, true, true, true, true, true, true, true, true, true, true, true, true, true, true, true, true, true, true, true, true, true, true, true, true, true, true, true, true, false, true, false, false, false] rfl rfl (by kernel_rfl) (fun _ _ _ h => h) (Or.inl ⟨by rfl, ?_⟩) hHeld ?_ ?_
        rotate_left
        · rintro w' ⟨s0, s1, s2, s3, s4, s5, s6, s7, s8, s9, s10, s11⟩
          go_simp
          with_reducible rfl
        rotate_left
        · simp only [Act.put, List.setIfInBounds_toArray, List.set_cons_zero, List.set_cons_succ, i64_w, i32_w]
          rfl
        refine one_ (i := 34) (N := (some 73)) #[true, true, true, true, true, true, true, true, true, true, true, true, true, true, true, true, true, true, true, true, true, true, true, true, true, true, true, true, true, true, true, true, true, true, true, true, false, false, false] rfl rfl (by kernel_rfl) (by decide) (fun K hK => ?_)
        refine goes_ Try.func16 (by kernel_rfl) rfl #[.agg #[.int .i64 L, .slice R raw.length cr]] (by rfl) rfl rfl (by (try simp only [List.map_toArray, List.map_cons, List.map_nil]); first | done | rfl) ?_
        refine (block_Block_Ok.calls 2000 L R cr raw rr _ HK.out.b10.2.1 HK.out.b10.2.2 HRO.out.1).mono ?_
        rintro y w9 ⟨rfl, hb9⟩
        have n_ := Aside0.mk (HK.out.below hb9)
        clear HK
        have HK := n_
        clear n_ hb9
        refine ⟨_, rfl, ?_⟩
        refine hK.out _ _ ⟨HK.out.b9.c0, HK.out.b9.c1, HK.out.b14.c0, HK.out.b14.c1, HK.out.b10.c0, HK.out.b10.c1, HK.out.b11.c0, HK.out.b11.c1, (blk_cell HK.out.b12 0).trans rfl, (blk_cell HK.out.b12 1).trans rfl, (HAD.out _ HK.out.b14.2.1).1, (HAD.out _ HK.out.b14.2.1).2⟩ (fun hHeld => ?_)
        clear hK K
        refine norm_ (a' := ?_) ?_ ?_
        rotate_left
        · show Act.put _ (some 73) _ = _
          simp only [Act.put, List.setIfInBounds_toArray, List.set_cons_zero, List.set_cons_succ, i64_w, i32_w]
          rfl
        refine one_ (i := 36) (N := (some 75)) #[true, true, true, true, true, true, true, true, true, true, true, true, true, true, true, true, true, true, true, true, true, true, true, true, true, true, true, true, true, true, true, true, true, true, true, true, true, false, false] rfl rfl (by kernel_rfl) (by decide) (fun K hK => ?_)
        refine goes_ Try.func17 (by kernel_rfl) rfl #[.agg #[.int .i64 L, .slice R raw.length cr]] (by rfl) rfl rfl (by (try simp only [List.map_toArray, List.map_cons, List.map_nil]); first | done | rfl) ?_
        refine (vergerref5_Ok.calls 2000 L R cr raw rr _ HK.out.b11.2.1 HK.out.b11.2.2 HRO.out.2).mono ?_
        rintro y wA ⟨rfl, hbA⟩
        have n_ := Aside0.mk (HK.out.below hbA)
        clear HK
        have HK := n_
        clear n_ hbA
        refine ⟨_, rfl, ?_⟩
        refine hK.out _ _ ⟨HK.out.b9.c0, HK.out.b9.c1, HK.out.b14.c0, HK.out.b14.c1, HK.out.b10.c0, HK.out.b10.c1, HK.out.b11.c0, HK.out.b11.c1, (blk_cell HK.out.b12 0).trans rfl, (blk_cell HK.out.b12 1).trans rfl, (HAD.out _ HK.out.b14.2.1).1, (HAD.out _ HK.out.b14.2.1).2⟩ (fun hHeld => ?_)
        clear hK K
        refine norm_ (a' := ?_) ?_ ?_
        rotate_left
        · show Act.put _ (some 75) _ = _
          simp only [Act.put, List.setIfInBounds_toArray, List.set_cons_zero, List.set_cons_succ, i64_w, i32_w]
          rfl
        refine pure_ (i := 37) (N := (some 76)) (v := ?_) (a' := ?_) #[true, true, true, true, true, true, true, true, true, true, true, true, true, true, true, true, true, true, true, true, true, true, true, true, true, true, true, true, true, true, true, true, true, true, true, true, true, true, false] rfl rfl (by kernel_rfl) (fun _ _ _ h => h) (Or.inl ⟨by rfl, ?_⟩) ?_ ?_
        rotate_left
        · intro w'
          go_simp
          with_reducible rfl
        rotate_left
        · simp only [Act.put, List.setIfInBounds_toArray, List.set_cons_zero, List.set_cons_succ, i64_w, i32_w]
          rfl
        refine pure_ (i := 38) (N := (some 77)) (v := ?_) (a' := ?_) #[true, true, true, true, true, true, true, true, true, true, true, true, true, true, true, true, true, true, true, true, true, true, true, true, true, true, true, true, true, true, true, true, true, true, true, true, true, true, true] rfl rfl (by kernel_rfl) (fun _ _ _ h => h) (Or.inl ⟨by rfl, ?_⟩) ?_ ?_
        rotate_left
        · intro w'
          go_simp
          with_reducible rfl
        rotate_left
        · simp only [Act.put, List.setIfInBounds_toArray, List.set_cons_zero, List.set_cons_succ, i64_w, i32_w]
          rfl
        refine done_ (by kernel_rfl) ?_
        go_wp2_with fail
        go_meet
        exact ⟨rfl, ⟨HK.out.bel⟩⟩
      · have hpl : l.length = 0 := by have := HXL.out; rw [hXt] at this; simp at this; omega
        have hp1 : ¬ (0 : Int) < (l.length : Int) := by omega
        have hp2 : ¬ (l.length : Int) > 0 := by omega
        have hp3 : decide ((l.length : Int) > 0) = false := decide_eq_false hp2
        have hp4 : decide (0 < l.length) = false := decide_eq_false (by omega)
        clear hXt hpl
        refine start_ (n := 39) (S := fun w' => w'.cell? ⟨g9, 0, none⟩ = some (.int .i64 f0) ∧ w'.cell? ⟨g9, 1, none⟩ = some (.slice A9 X.length c9) ∧ w'.cell? ⟨g14, 0, none⟩ = some (.int .i64 f0) ∧ w'.cell? ⟨g14, 1, none⟩ = some (.slice A14 X.length c14) ∧ w'.cell? ⟨g10, 0, none⟩ = some (.int .i64 L) ∧ w'.cell? ⟨g10, 1, none⟩ = some (.slice R raw.length cr) ∧ w'.cell? ⟨g11, 0, none⟩ = some (.int .i64 L) ∧ w'.cell? ⟨g11, 1, none⟩ = some (.slice R raw.length cr)) (ds := []) #[false, false, false, false, false, false, false, false, false, false, false, false, false, false, false, false, false, false, false, false, false, false, false, false, false, false, false, false, false, false, false, false, false, false, false, false, false, false, false] (by kernel_rfl) rfl rfl ⟨HK.out.b9.c0, HK.out.b9.c1, HK.out.b14.c0, HK.out.b14.c1, HK.out.b10.c0, HK.out.b10.c1, HK.out.b11.c0, HK.out.b11.c1⟩ (fun hHeld => ?_)
        refine take_ (i := 0) (N := (some 39)) (v := ?_) (a' := ?_) #[true, false, false, false, false, false, false, false, false, false, false, false, false, false, false, false, false, false, false, false, false, false, false, false, false, false, false, false, false, false, false, false, false, false, false, false, false, false, false] rfl rfl (by kernel_rfl) (fun _ _ _ h => h) (Or.inl ⟨by rfl, ?_⟩) hHeld ?_ ?_
        rotate_left
        · rintro w' ⟨s0, s1, s2, s3, s4, s5, s6, s7⟩
          go_simp
          with_reducible rfl
        rotate_left
        · simp only [Act.put, List.setIfInBounds_toArray, List.set_cons_zero, List.set_cons_succ, i64_w, i32_w]
          rfl
        refine take_ (i := 1) (N := (some 40)) (v := ?_) (a' := ?_) #[true, true, false, false, false, false, false, false, false, false, false, false, false, false, false, false, false, false, false, false, false, false, false, false, false, false, false, false, false, false, false, false, false, false, false, false, false, false, false] rfl rfl (by kernel_rfl) (fun _ _ _ h => h) (Or.inl ⟨by rfl, ?_⟩) hHeld ?_ ?_
        rotate_left
        · rintro w' ⟨s0, s1, s2, s3, s4, s5, s6, s7⟩
          go_simp
          with_reducible rfl
        rotate_left
        · simp only [Act.put, List.setIfInBounds_toArray, List.set_cons_zero, List.set_cons_succ, i64_w, i32_w]
          rfl
        refine one_ (i := 2) (N := (some 41)) #[true, true, true, false, false, false, false, false, false, false, false, false, false, false, false, false, false, false, false, false, false, false, false, false, false, false, false, false, false, false, false, false, false, false, false, false, false, false, false] rfl rfl (by kernel_rfl) (by decide) (fun K hK => ?_)
        refine goes_ Try.func15 (by kernel_rfl) rfl #[.agg #[.int .i64 f0, .slice A9 X.length c9], .agg #[.int .i64 f0, .slice A14 X.length c14]] (by rfl) rfl rfl (by (try simp only [List.map_toArray, List.map_cons, List.map_nil]); first | done | rfl) ?_
        refine (vergerlaw6_Same.calls 2000 f0 _ _ X f0 _ _ X true _ HK.out.b9.2.1 HK.out.b9.2.2 HK.out.b14.2.1 HK.out.b14.2.2 (same6_tells 2000 f0 X (by have := HXL.out; omega) (by have := HXL.out; omega))).mono ?_
        rintro y w7 ⟨rfl, hb7⟩
        have n_ := Aside0.mk (HK.out.below hb7)
        clear HK
        have HK := n_
        clear n_ hb7
        refine ⟨_, rfl, ?_⟩
        refine hK.out _ _ ⟨HK.out.b9.c0, HK.out.b9.c1, HK.out.b14.c0, HK.out.b14.c1, HK.out.b10.c0, HK.out.b10.c1, HK.out.b11.c0, HK.out.b11.c1⟩ (fun hHeld => ?_)
        clear hK K
        refine norm_ (a' := ?_) ?_ ?_
        rotate_left
        · show Act.put _ (some 41) _ = _
          simp only [Act.put, List.setIfInBounds_toArray, List.set_cons_zero, List.set_cons_succ, i64_w, i32_w]
          rfl
        refine pure_ (i := 3) (N := (some 42)) (v := ?_) (a' := ?_) #[true, true, true, true, false, false, false, false, false, false, false, false, false, false, false, false, false, false, false, false, false, false, false, false, false, false, false, false, false, false, false, false, false, false, false, false, false, false, false] rfl rfl (by kernel_rfl) (fun _ _ _ h => h) (Or.inl ⟨by rfl, ?_⟩) ?_ ?_
        rotate_left
        · intro w'
          go_simp
          with_reducible rfl
        rotate_left
        · simp only [Act.put, List.setIfInBounds_toArray, List.set_cons_zero, List.set_cons_succ, i64_w, i32_w]
          rfl
        refine pure_ (i := 4) (N := (some 43)) (v := ?_) (a' := ?_) #[true, true, true, true, true, false, false, false, false, false, false, false, false, false, false, false, false, false, false, false, false, false, false, false, false, false, false, false, false, false, false, false, false, false, false, false, false, false, false] rfl rfl (by kernel_rfl) (fun _ _ _ h => h) (Or.inl ⟨by rfl, ?_⟩) ?_ ?_
        rotate_left
        · intro w'
          go_simp
          with_reducible rfl
        rotate_left
        · simp only [Act.put, List.setIfInBounds_toArray, List.set_cons_zero, List.set_cons_succ, i64_w, i32_w]
          rfl
        refine take_ (i := 5) (N := (some 44)) (v := ?_) (a' := ?_) #[true, true, true, true, true, true, false, false, false, false, false, false, false, false, false, false, false, false, false, false, false, false, false, false, false, false, false, false, false, false, false, false, false, false, false, false, false, false, false] rfl rfl (by kernel_rfl) (fun _ _ _ h => h) (Or.inl ⟨by rfl, ?_⟩) hHeld ?_ ?_
        rotate_left
        · rintro w' ⟨s0, s1, s2, s3, s4, s5, s6, s7⟩
          go_simp
          with_reducible rfl
        rotate_left
        · simp only [Act.put, List.setIfInBounds_toArray, List.set_cons_zero, List.set_cons_succ, i64_w, i32_w]
          rfl
        refine one_ (i := 6) (N := (some 45)) #[true, true, true, true, true, true, true, false, false, false, false, false, false, false, false, false, false, false, false, false, false, false, false, false, false, false, false, false, false, false, false, false, false, false, false, false, false, false, false] rfl rfl (by kernel_rfl) (by decide) (fun K hK => ?_)
        refine goes_ Try.func16 (by kernel_rfl) rfl #[.agg #[.int .i64 f0, .slice A9 X.length c9]] (by rfl) rfl rfl (by (try simp only [List.map_toArray, List.map_cons, List.map_nil]); first | done | rfl) ?_
        refine (block_Block_Ok.calls 2000 f0 A9 c9 X true _ HK.out.b9.2.1 HK.out.b9.2.2 HOK.out).mono ?_
        rintro y w8 ⟨rfl, hb8⟩
        have n_ := Aside0.mk (HK.out.below hb8)
        clear HK
        have HK := n_
        clear n_ hb8
        refine ⟨_, rfl, ?_⟩
        refine hK.out _ _ ⟨HK.out.b9.c0, HK.out.b9.c1, HK.out.b14.c0, HK.out.b14.c1, HK.out.b10.c0, HK.out.b10.c1, HK.out.b11.c0, HK.out.b11.c1⟩ (fun hHeld => ?_)
        clear hK K
        refine norm_ (a' := ?_) ?_ ?_
        rotate_left
        · show Act.put _ (some 45) _ = _
          simp only [Act.put, List.setIfInBounds_toArray, List.set_cons_zero, List.set_cons_succ, i64_w, i32_w]
          rfl
        refine pure_ (i := 7) (N := (some 46)) (v := ?_) (a' := ?_) #[true, true, true, true, true, true, true, true, false, false, false, false, false, false, false, false, false, false, false, false, false, false, false, false, false, false, false, false, false, false, false, false, false, false, false, false, false, false, false] rfl rfl (by kernel_rfl) (fun _ _ _ h => h) (Or.inl ⟨by rfl, ?_⟩) ?_ ?_
        rotate_left
        · intro w'
          go_simp
          with_reducible rfl
        rotate_left
        · simp only [Act.put, List.setIfInBounds_toArray, List.set_cons_zero, List.set_cons_succ, i64_w, i32_w]
          rfl
        refine pure_ (i := 8) (N := (some 47)) (v := ?_) (a' := ?_) #[true, true, true, true, true, true, true, true, true, false, false, false, false, false, false, false, false, false, false, false, false, false, false, false, false, false, false, false, false, false, false, false, false, false, false, false, false, false, false] rfl rfl (by kernel_rfl) (fun _ _ _ h => h) (Or.inl ⟨by rfl, ?_⟩) ?_ ?_
        rotate_left
        · intro w'
          go_simp
          with_reducible rfl
        rotate_left
        · simp only [Act.put, List.setIfInBounds_toArray, List.set_cons_zero, List.set_cons_succ, i64_w, i32_w]
          rfl
        refine pure_ (i := 9) (N := (some 48)) (v := undef) (a' := ?_) #[true, true, true, true, true, true, true, true, true, true, false, false, false, false, false, false, false, false, false, false, false, false, false, false, false, false, false, false, false, false, false, false, false, false, false, false, false, false, false] rfl rfl (by kernel_rfl) (fun _ _ _ h => h) (Or.inr ⟨by rfl, rfl⟩) ?_ ?_
        rotate_left
        · simp only [Act.put, List.setIfInBounds_toArray, List.set_cons_zero, List.set_cons_succ, i64_w, i32_w]
          rfl
        refine pure_ (i := 10) (N := (some 49)) (v := undef) (a' := ?_) #[true, true, true, true, true, true, true, true, true, true, true, false, false, false, false, false, false, false, false, false, false, false, false, false, false, false, false, false, false, false, false, false, false, false, false, false, false, false, false] rfl rfl (by kernel_rfl) (fun _ _ _ h => h) (Or.inr ⟨by rfl, rfl⟩) ?_ ?_
        rotate_left
        · simp only [Act.put, List.setIfInBounds_toArray, List.set_cons_zero, List.set_cons_succ, i64_w, i32_w]
          rfl
        refine pure_ (i := 11) (N := (some 50)) (v := undef) (a' := ?_) #[true, true, true, true, true, true, true, true, true, true, true, true, false, false, false, false, false, false, false, false, false, false, false, false, false, false, false, false, false, false, false, false, false, false, false, false, false, false, false] rfl rfl (by kernel_rfl) (fun _ _ _ h => h) (Or.inr ⟨by rfl, rfl⟩) ?_ ?_
        rotate_left
        · simp only [Act.put, List.setIfInBounds_toArray, List.set_cons_zero, List.set_cons_succ, i64_w, i32_w]
          rfl
        refine pure_ (i := 12) (N := (some 51)) (v := ?_) (a' := ?_) #[true, true, true, true, true, true, true, true, true, true, true, true, true, false, false, false, false, false, false, false, false, false, false, false, false, false, false, false, false, false, false, false, false, false, false, false, false, false, false] rfl rfl (by kernel_rfl) (fun _ _ _ h => h) (Or.inl ⟨by rfl, ?_⟩) ?_ ?_
        rotate_left
        · intro w'
          go_simp
          with_reducible rfl
        rotate_left
        · simp only [Act.put, List.setIfInBounds_toArray, List.set_cons_zero, List.set_cons_succ, i64_w, i32_w]
          rfl
        refine pure_ (i := 13) (N := (some 52)) (v := ?_) (a' := ?_) #[true, true, true, true, true, true, true, true, true, true, true, true, true, true, false, false, false, false, false, false, false, false, false, false, false, false, false, false, false, false, false, false, false, false, false, false, false, false, false] rfl rfl (by kernel_rfl) (fun _ _ _ h => h) (Or.inl ⟨by rfl, ?_⟩) ?_ ?_
        rotate_left
        · intro w'
          go_simp
          with_reducible rfl
        rotate_left
        · simp only [Act.put, List.setIfInBounds_toArray, List.set_cons_zero, List.set_cons_succ, i64_w, i32_w]
          rfl
        refine pure_ (i := 14) (N := (some 53)) (v := ?_) (a' := ?_) #[true, true, true, true, true, true, true, true, true, true, true, true, true, true, true, false, false, false, false, false, false, false, false, false, false, false, false, false, false, false, false, false, false, false, false, false, false, false, false] rfl rfl (by kernel_rfl) (fun _ _ _ h => h) (Or.inl ⟨by rfl, ?_⟩) ?_ ?_
        rotate_left
        · intro w'
          go_simp
          with_reducible rfl
        rotate_left
        · simp only [Act.put, List.setIfInBounds_toArray, List.set_cons_zero, List.set_cons_succ, i64_w, i32_w]
          rfl
        refine pure_ (i := 15) (N := (some 54)) (v := ?_) (a' := ?_) #[true, true, true, true, true, true, true, true, true, true, true, true, true, true, true, true, false, false, false, false, false, false, false, false, false, false, false, false, false, false, false, false, false, false, false, false, false, false, false] rfl rfl (by kernel_rfl) (fun _ _ _ h => h) (Or.inl ⟨by rfl, ?_⟩) ?_ ?_
        rotate_left
        · intro w'
          go_simp
          with_reducible rfl
        rotate_left
        · simp only [Act.put, List.setIfInBounds_toArray, List.set_cons_zero, List.set_cons_succ, i64_w, i32_w]
          rfl
        refine pure_ (i := 16) (N := (some 55)) (v := ?_) (a' := ?_) #[true, true, true, true, true, true, true, true, true, true, true, true, true, true, true, true, true, false, false, false, false, false, false, false, false, false, false, false, false, false, false, false, false, false, false, false, false, false, false] rfl rfl (by kernel_rfl) (fun _ _ _ h => h) (Or.inl ⟨by rfl, ?_⟩) ?_ ?_
        rotate_left
        · intro w'
          go_simp
          with_reducible rfl
        rotate_left
        · simp only [Act.put, List.setIfInBounds_toArray, List.set_cons_zero, List.set_cons_succ, i64_w, i32_w]
          rfl
        refine pure_ (i := 17) (N := (some 56)) (v := ?_) (a' := ?_) #[true, true, true, true, true, true, true, true, true, true, true, true, true, true, true, true, true, true, false, false, false, false, false, false, false, false, false, false, false, false, false, false, false, false, false, false, false, false, false] rfl rfl (by kernel_rfl) (fun _ _ _ h => h) (Or.inl ⟨by rfl, ?_⟩) ?_ ?_
        rotate_left
        · intro w'
          go_simp
          with_reducible rfl
        rotate_left
        · simp only [Act.put, List.setIfInBounds_toArray, List.set_cons_zero, List.set_cons_succ, i64_w, i32_w]
          rfl
        refine pure_ (i := 18) (N := (some 57)) (v := ?_) (a' := ?_) #[true, true, true, true, true, true, true, true, true, true, true, true, true, true, true, true, true, true, true, false, false, false, false, false, false, false, false, false, false, false, false, false, false, false, false, false, false, false, false] rfl rfl (by kernel_rfl) (fun _ _ _ h => h) (Or.inl ⟨by rfl, ?_⟩) ?_ ?_
        rotate_left
        · intro w'
          go_simp
          with_reducible rfl
        rotate_left
        · simp only [Act.put, List.setIfInBounds_toArray, List.set_cons_zero, List.set_cons_succ, i64_w, i32_w]
          rfl
        refine pure_ (i := 19) (N := (some 58)) (v := ?_) (a' := ?_) #[true, true, true, true, true, true, true, true, true, true, true, true, true, true, true, true, true, true, true, true, false, false, false, false, false, false, false, false, false, false, false, false, false, false, false, false, false, false, false] rfl rfl (by kernel_rfl) (fun _ _ _ h => h) (Or.inl ⟨by rfl, ?_⟩) ?_ ?_
        rotate_left
        · intro w'
          go_simp
          with_reducible rfl
        rotate_left
        · simp only [Act.put, List.setIfInBounds_toArray, List.set_cons_zero, List.set_cons_succ, i64_w, i32_w]
          rfl
        refine pure_ (i := 20) (N := (some 59)) (v := ?_) (a' := ?_) #[true, true, true, true, true, true, true, true, true, true, true, true, true, true, true, true, true, true, true, true, true, false, false, false, false, false, false, false, false, false, false, false, false, false, false, false, false, false, false] rfl rfl (by kernel_rfl) (fun _ _ _ h => h) (Or.inl ⟨by rfl, ?_⟩) ?_ ?_
        rotate_left
        · intro w'
          go_simp
          with_reducible rfl
        rotate_left
        · simp only [Act.put, List.setIfInBounds_toArray, List.set_cons_zero, List.set_cons_succ, i64_w, i32_w]
          rfl
        refine pure_ (i := 21) (N := (some 60)) (v := ?_) (a' := ?_) #[true, true, true, true, true, true, true, true, true, true, true, true, true, true, true, true, true, true, true, true, true, true, false, false, false, false, false, false, false, false, false, false, false, false, false, false, false, false, false] rfl rfl (by kernel_rfl) (fun _ _ _ h => h) (Or.inl ⟨by rfl, ?_⟩) ?_ ?_
        rotate_left
        · intro w'
          go_simp
          with_reducible rfl
        rotate_left
        · simp only [Act.put, List.setIfInBounds_toArray, List.set_cons_zero, List.set_cons_succ, i64_w, i32_w]
          rfl
        refine pure_ (i := 22) (N := (some 61)) (v := ?_) (a' := ?_) #[true, true, true, true, true, true, true, true, true, true, true, true, true, true, true, true, true, true, true, true, true, true, true, false, false, false, false, false, false, false, false, false, false, false, false, false, false, false, false] rfl rfl (by kernel_rfl) (fun _ _ _ h => h) (Or.inl ⟨by rfl, ?_⟩) ?_ ?_
        rotate_left
        · intro w'
          go_simp
          with_reducible rfl
        rotate_left
        · simp only [Act.put, List.setIfInBounds_toArray, List.set_cons_zero, List.set_cons_succ, i64_w, i32_w]
          rfl
        refine pure_ (i := 23) (N := (some 62)) (v := ?_) (a' := ?_) #[true, true, true, true, true, true, true, true, true, true, true, true, true, true, true, true, true, true, true, true, true, true, true, true, false, false, false, false, false, false, false, false, false, false, false, false, false, false, false] rfl rfl (by kernel_rfl) (fun _ _ _ h => h) (Or.inl ⟨by rfl, ?_⟩) ?_ ?_
        rotate_left
        · intro w'
          go_simp
          with_reducible rfl
        rotate_left
        · simp only [Act.put, List.setIfInBounds_toArray, List.set_cons_zero, List.set_cons_succ, i64_w, i32_w]
          rfl
        refine pure_ (i := 24) (N := (some 63)) (v := undef) (a' := ?_) #[true, true, true, true, true, true, true, true, true, true, true, true, true, true, true, true, true, true, true, true, true, true, true, true, true, false, false, false, false, false, false, false, false, false, false, false, false, false, false] rfl rfl (by kernel_rfl) (fun _ _ _ h => h) (Or.inr ⟨by rfl, rfl⟩) ?_ ?_
        rotate_left
        · simp only [Act.put, List.setIfInBounds_toArray, List.set_cons_zero, List.set_cons_succ, i64_w, i32_w]
          rfl
        refine pure_ (i := 25) (N := (some 64)) (v := undef) (a' := ?_) #[true, true, true, true, true, true, true, true, true, true, true, true, true, true, true, true, true, true, true, true, true, true, true, true, true, true, false, false, false, false, false, false, false, false, false, false, false, false, false] rfl rfl (by kernel_rfl) (fun _ _ _ h => h) (Or.inr ⟨by rfl, rfl⟩) ?_ ?_
        rotate_left
        · simp only [Act.put, List.setIfInBounds_toArray, List.set_cons_zero, List.set_cons_succ, i64_w, i32_w]
          rfl
        refine pure_ (i := 26) (N := (some 65)) (v := undef) (a' := ?_) #[true, true, true, true, true, true, true, true, true, true, true, true, true, true, true, true, true, true, true, true, true, true, true, true, true, true, true, false, false, false, false, false, false, false, false, false, false, false, false] rfl rfl (by kernel_rfl) (fun _ _ _ h => h) (Or.inr ⟨by rfl, rfl⟩) ?_ ?_
        rotate_left
        · simp only [Act.put, List.setIfInBounds_toArray, List.set_cons_zero, List.set_cons_succ, i64_w, i32_w]
          rfl
        refine pure_ (i := 27) (N := (some 66)) (v := undef) (a' := ?_) #[true, true, true, true, true, true, true, true, true, true, true, true, true, true, true, true, true, true, true, true, true, true, true, true, true, true, true, true, false, false, false, false, false, false, false, false, false, false, false] rfl rfl (by kernel_rfl) (fun _ _ _ h => h) (Or.inr ⟨by rfl, rfl⟩) ?_ ?_
        rotate_left
        · simp only [Act.put, List.setIfInBounds_toArray, List.set_cons_zero, List.set_cons_succ, i64_w, i32_w]
          rfl
        refine pure_ (i := 28) (N := (some 67)) (v := undef) (a' := ?_) #[true, true, true, true, true, true, true, true, true, true, true, true, true, true, true, true, true, true, true, true, true, true, true, true, true, true, true, true, true, false, false, false, false, false, false, false, false, false, false] rfl rfl (by kernel_rfl) (fun _ _ _ h => h) (Or.inr ⟨by rfl, rfl⟩) ?_ ?_
        rotate_left
        · simp only [Act.put, List.setIfInBounds_toArray, List.set_cons_zero, List.set_cons_succ, i64_w, i32_w]
          rfl
        refine pure_ (i := 29) (N := (some 68)) (v := undef) (a' := ?_) #[true, true, true, true, true, true, true, true, true, true, true, true, true, true, true, true, true, true, true, true, true, true, true, true, true, true, true, true, true, true, false, false, false, false, false, false, false, false, false] rfl rfl (by kernel_rfl) (fun _ _ _ h => h) (Or.inr ⟨by rfl, rfl⟩) ?_ ?_
        rotate_left
        · simp only [Act.put, List.setIfInBounds_toArray, List.set_cons_zero, List.set_cons_succ, i64_w, i32_w]
          rfl
        refine pure_ (i := 30) (N := (some 69)) (v := ?_) (a' := ?_) #[true, true, true, true, true, true, true, true, true, true, true, true, true, true, true, true, true, true, true, true, true, true, true, true, true, true, true, true, true, true, true, false, false, false, false, false, false, false, false] rfl rfl (by kernel_rfl) (fun _ _ _ h => h) (Or.inl ⟨by rfl, ?_⟩) ?_ ?_
        rotate_left
        · intro w'
          go_simp
          with_reducible rfl
        rotate_left
        · simp only [Act.put, List.setIfInBounds_toArray, List.set_cons_zero, List.set_cons_succ, i64_w, i32_w]
          rfl
        refine pure_ (i := 31) (N := (some 70)) (v := ?_) (a' := ?_) #[true, true, true, true, true, true, true, true, true, true, true, true, true, true, true, true, true, true, true, true, true, true, true, true, true, true, true, true, true, true, true, true, false, false, false, false, false, false, false] rfl rfl (by kernel_rfl) (fun _ _ _ h => h) (Or.inl ⟨by rfl, ?_⟩) ?_ ?_
        rotate_left
        · intro w'
          go_simp
          with_reducible rfl
        rotate_left
        · simp only [Act.put, List.setIfInBounds_toArray, List.set_cons_zero, List.set_cons_succ, i64_w, i32_w]
          rfl
        refine pure_ (i := 32) (N := (some 71)) (v := ?_) (a' := ?_) #[true, true, true, true, true, true, true, true, true, true, true, true, true, true, true, true, true, true, true, true, true, true, true, true, true, true, true, true, true, true, true, true, true, false, false, false, false, false, false] rfl rfl (by kernel_rfl) (fun _ _ _ h => h) (Or.inl ⟨by rfl, ?_⟩) ?_ ?_
        rotate_left
        · intro w'
          go_simp
          with_reducible rfl
        rotate_left
        · simp only [Act.put, List.setIfInBounds_toArray, List.set_cons_zero, List.set_cons_succ, i64_w, i32_w]
          rfl
        refine take_ (i := 33) (N := (some 72)) (v := ?_) (a' := ?_) #[true, true, true, true, true, true, true, true, true, true, true, true, true, true, true, true, true, true, true, true, true, true, true, true, true, true, true, true, true, true, true, true, true, true, false, false, false, false, false] rfl rfl (by kernel_rfl) (fun _ _ _ h => h) (Or.inl ⟨by rfl, ?_⟩) hHeld ?_ ?_
        rotate_left
        · rintro w' ⟨s0, s1, s2, s3, s4, s5, s6, s7⟩
          go_simp
          with_reducible rfl
        rotate_left
        · simp only [Act.put, List.setIfInBounds_toArray, List.set_cons_zero, List.set_cons_succ, i64_w, i32_w]
          rfl
        refine take_ (i := 35) (N := (some 74)) (v := ?_) (a' := ?_) #[true, true, true, true, true, true, true, true, true, true, true, true, true, true, true, true, true, true, true, true, true, true, true, true, true, true, true, true, true, true, true, true, true, true, false, true, false, false, false] rfl rfl (by kernel_rfl) (fun _ _ _ h => h) (Or.inl ⟨by rfl, ?_⟩) hHeld ?_ ?_
        rotate_left
        · rintro w' ⟨s0, s1, s2, s3, s4, s5, s6, s7⟩
          go_simp
          with_reducible rfl
        rotate_left
        · simp only [Act.put, List.setIfInBounds_toArray, List.set_cons_zero, List.set_cons_succ, i64_w, i32_w]
          rfl
        refine one_ (i := 34) (N := (some 73)) #[true, true, true, true, true, true, true, true, true, true, true, true, true, true, true, true, true, true, true, true, true, true, true, true, true, true, true, true, true, true, true, true, true, true, true, true, false, false, false] rfl rfl (by kernel_rfl) (by decide) (fun K hK => ?_)
        refine goes_ Try.func16 (by kernel_rfl) rfl #[.agg #[.int .i64 L, .slice R raw.length cr]] (by rfl) rfl rfl (by (try simp only [List.map_toArray, List.map_cons, List.map_nil]); first | done | rfl) ?_
        refine (block_Block_Ok.calls 2000 L R cr raw rr _ HK.out.b10.2.1 HK.out.b10.2.2 HRO.out.1).mono ?_
        rintro y w9 ⟨rfl, hb9⟩
        have n_ := Aside0.mk (HK.out.below hb9)
        clear HK
        have HK := n_
        clear n_ hb9
        refine ⟨_, rfl, ?_⟩
        refine hK.out _ _ ⟨HK.out.b9.c0, HK.out.b9.c1, HK.out.b14.c0, HK.out.b14.c1, HK.out.b10.c0, HK.out.b10.c1, HK.out.b11.c0, HK.out.b11.c1⟩ (fun hHeld => ?_)
        clear hK K
        refine norm_ (a' := ?_) ?_ ?_
        rotate_left
        · show Act.put _ (some 73) _ = _
          simp only [Act.put, List.setIfInBounds_toArray, List.set_cons_zero, List.set_cons_succ, i64_w, i32_w]
          rfl
        refine one_ (i := 36) (N := (some 75)) #[true, true, true, true, true, true, true, true, true, true, true, true, true, true, true, true, true, true, true, true, true, true, true, true, true, true, true, true, true, true, true, true, true, true, true, true, true, false, false] rfl rfl (by kernel_rfl) (by decide) (fun K hK => ?_)
        refine goes_ Try.func17 (by kernel_rfl) rfl #[.agg #[.int .i64 L, .slice R raw.length cr]] (by rfl) rfl rfl (by (try simp only [List.map_toArray, List.map_cons, List.map_nil]); first | done | rfl) ?_
        refine (vergerref5_Ok.calls 2000 L R cr raw rr _ HK.out.b11.2.1 HK.out.b11.2.2 HRO.out.2).mono ?_
        rintro y wA ⟨rfl, hbA⟩
        have n_ := Aside0.mk (HK.out.below hbA)
        clear HK
        have HK := n_
        clear n_ hbA
        refine ⟨_, rfl, ?_⟩
        refine hK.out _ _ ⟨HK.out.b9.c0, HK.out.b9.c1, HK.out.b14.c0, HK.out.b14.c1, HK.out.b10.c0, HK.out.b10.c1, HK.out.b11.c0, HK.out.b11.c1⟩ (fun hHeld => ?_)
        clear hK K
        refine norm_ (a' := ?_) ?_ ?_
        rotate_left
        · show Act.put _ (some 75) _ = _
          simp only [Act.put, List.setIfInBounds_toArray, List.set_cons_zero, List.set_cons_succ, i64_w, i32_w]
          rfl
        refine pure_ (i := 37) (N := (some 76)) (v := ?_) (a' := ?_) #[true, true, true, true, true, true, true, true, true, true, true, true, true, true, true, true, true, true, true, true, true, true, true, true, true, true, true, true, true, true, true, true, true, true, true, true, true, true, false] rfl rfl (by kernel_rfl) (fun _ _ _ h => h) (Or.inl ⟨by rfl, ?_⟩) ?_ ?_
        rotate_left
        · intro w'
          go_simp
          with_reducible rfl
        rotate_left
        · simp only [Act.put, List.setIfInBounds_toArray, List.set_cons_zero, List.set_cons_succ, i64_w, i32_w]
          rfl
        refine pure_ (i := 38) (N := (some 77)) (v := ?_) (a' := ?_) #[true, true, true, true, true, true, true, true, true, true, true, true, true, true, true, true, true, true, true, true, true, true, true, true, true, true, true, true, true, true, true, true, true, true, true, true, true, true, true] rfl rfl (by kernel_rfl) (fun _ _ _ h => h) (Or.inl ⟨by rfl, ?_⟩) ?_ ?_
        rotate_left
        · intro w'
          go_simp
          with_reducible rfl
        rotate_left
        · simp only [Act.put, List.setIfInBounds_toArray, List.set_cons_zero, List.set_cons_succ, i64_w, i32_w]
          rfl
        refine done_ (by kernel_rfl) ?_
        go_wp2_with fail
        go_meet
        exact ⟨rfl, ⟨HK.out.bel⟩⟩
     case rest =>
      obtain ⟨rfl, HBR⟩ := hcut
      clear HK
      have HLV := Aside0.mk (show block_Level.f 100 n = some ((lev n : Nat) : Int) ∧ vergerref5_Level.f 100 n = some ((lev n : Nat) : Int) from ⟨level_told 100 n (by omega), reflevel_told 100 n (by omega)⟩)
      obtain ⟨v, hv⟩ : ∃ v : Int, ((lev n : Nat) : Int) = v := ⟨_, rfl⟩
      rw [hv] at HLV
      clear hv
      go_wp2_with fail
      refine (block_Level.calls 100 n v _ HLV.out.1).mono ?_
      rintro y wL ⟨rfl, ⟨nd3, rfl⟩⟩
      go_wp2_with fail
      refine (vergerref5_Level.calls 100 n v _ HLV.out.2).mono ?_
      rintro y wM ⟨rfl, ⟨nd4, rfl⟩⟩
      go_wp2_with fail
      refine (vergerlaw6_awake.calls 100 true _ (awake6 100 (by omega))).mono ?_
      rintro y wN ⟨rfl, hbN⟩
      have HBN := Aside0.mk (below_step (below_step HBR.out (pw_below_drewN (Below.refl _ _) (nd3 + nd4))) hbN)
      clear hbN
      go_wp2
      go_ret
      exact ⟨by first | rfl | simp, HBN.out⟩
   · have hd : decide ((raw.length : Int) ≤ 120) = false := decide_eq_false (by omega)
     refine (vergerlaw6_Few.calls R cr raw false _ HCR1.out hcr (by rw [few_told, hd])).mono ?_
     rintro y w1 ⟨rfl, ⟨nd2, rfl⟩⟩
     clear hd
     go_wp2_with fail
     refine (vergerlaw6_awake.calls 100 true _ (awake6 100 (by omega))).mono ?_
     rintro y w3 ⟨rfl, hb3⟩
     have HB3 := Aside0.mk (below_step (pw_below_drewN (Below.refl w.heap.size w) (nd + nd2)) hb3)
     clear hb3
     go_wp2
     go_ret
     exact ⟨rfl, HB3.out⟩
 · have hd : decide ((l.length : Int) ≤ 120) = false := decide_eq_false (by omega)
   refine (vergerlaw6_Few.calls A ca l false _ HCA.out hca (by rw [few_told, hd])).mono ?_
   rintro y w2 ⟨rfl, ⟨nd, rfl⟩⟩
   clear hd
   go_wp2_with fail
   refine (vergerlaw6_awake.calls 100 true _ (awake6 100 (by omega))).mono ?_
   rintro y w3 ⟨rfl, hb3⟩
   have HB3 := Aside0.mk (below_step (pw_below_drewN (Below.refl w.heap.size w) nd) hb3)
   clear hb3
   go_wp2
   go_ret
   exact ⟨rfl, HB3.out⟩
end Go.Proofs.Ytccppdmangbdoaa.V
