-- a text of this work, without what this claim doesn't use (wip/shake.py)
import Derived.Test.YtccppdmangbdoaaKVPentry
import Derived.Test.YtccppdmangbdoaaKVPawakeLb
import Derived.Test.YtccppdmangbdoaaKVPblockb
import Derived.Test.YtccppdmangbdoaaKVBits
import Derived.Deep.DeepCutAuto
import Derived.Deep.CutBlock
import Derived.Test.YtccppdmangbdoaaKWWords
import Derived.SizedLaws
import Derived.ChangeSlices
import Derived.WalkKit
import Derived.ProofKit
import Derived.OpenShut
import Derived.ShutString
import Derived.ChangeOld
import Derived.Below
import Derived.Deep.Slices
section
set_option linter.unusedVariables false
set_option linter.unusedSimpArgs false
namespace Go.Proofs.Ytccppdmangbdoaa.V
open Go.RowKit Go.Proofs.YtccppdmangbdoaaW.PrintWords Go.Proofs.YtccppdmangbdoaaW.PrintLast Go.Proofs.YtccppdmangbdoaaW.PrintMore
theorem mkB_sorted {l : List E} (h : SortedE l) : (mkB l).f1 = l := sortE_of_sorted h
theorem sorted_filter {p : E → Bool} {l : List E} (h : SortedE l) : SortedE (l.filter p) := List.Pairwise.sublist List.filter_sublist h
theorem mkB_mkB (l : List E) : mkB (mkB l).f1 = mkB l := by
 have h : (mkB l).f1 = sortE l := rfl
 unfold mkB
 dsimp only
 rw [sortE_of_sorted (sortE_sorted l), sortE_length]
theorem shrinks_two (p q : Int → Bool) (l : List E) : mkB ((mkB ((mkB l).f1.filter fun e => !p e.f1)).f1.filter fun e => !q e.f1) = mkB ((mkB l).f1.filter fun e => !(p e.f1 || q e.f1)) := by
 rw [mkB_sorted (sorted_filter (show SortedE (mkB l).f1 from sortE_sorted l)), List.filter_filter]
 congr 2
 funext e
 cases p e.f1 <;> cases q e.f1 <;> rfl
theorem shrinks_none (l : List E) : mkB ((mkB l).f1.filter fun _ => !false) = mkB l := by
 rw [show ((mkB l).f1.filter fun _ => !false) = (mkB l).f1 from List.filter_eq_self.2 (fun _ _ => rfl), mkB_mkB]
theorem shrinks_all (l : List E) : mkB ((mkB l).f1.filter fun _ => !true) = ⟨0, []⟩ := by
 rw [show ((mkB l).f1.filter fun _ => !true) = [] from List.filter_eq_nil_iff.2 (fun _ _ => by simp)]
 unfold mkB
 rw [sortE_nil]
 rfl
structure BSt (w W : World) (n g7 f8 f9 g4 g5 : Nat) (a b : Int) (x : Bk) (A : Option Addr) (c : Nat) : Prop where
  cap : Cap W f8 f9 g4 g5 a b
  box : W.heap[g7]? = some (.cells #[.int .i64 x.f0, .slice A x.f1.length c] 26 (0, 0))
  row : k31.C W A x.f1.length x.f1
  bel : Below w.heap.size w W
  top : w.heap.size ≤ n ∧ g4 < n ∧ g5 < n ∧ g7 < n ∧ f8 < n ∧ f9 < n ∧ n ≤ W.heap.size
namespace BSt
variable {w W W1 : World} {n g7 f8 f9 g4 g5 X : Nat} {a b : Int} {x : Bk} {A A2 : Option Addr} {c c2 : Nat} {q : Bk}
theorem below (h : BSt w W n g7 f8 f9 g4 g5 a b x A c) (hb : Below W.heap.size W W1) : BSt w W1 n g7 f8 f9 g4 g5 a b x A c :=
 ⟨h.cap.below hb, blk_below h.box hb, Kd.C_below h.row hb, below_step h.bel hb, by have h1 := h.top; have h2 := hb.size; omega⟩
theorem sees (h : BSt w W n g7 f8 f9 g4 g5 a b x A c) :
 W.cell? ⟨g7, 0, none⟩ = some (.int .i64 x.f0) ∧ W.cell? ⟨g7, 1, none⟩ = some (.slice A x.f1.length c) ∧ W.cell? ⟨f8, 0, none⟩ = some (.func (.func 23) #[] #[.pointer (some ⟨g4, 0, none⟩)]) ∧ W.cell? ⟨f9, 0, none⟩ = some (.func (.func 24) #[] #[.pointer (some ⟨g5, 0, none⟩)]) :=
 ⟨(blk_cell h.box 0).trans rfl, (blk_cell h.box 1).trans rfl, h.cap.p8.c0, h.cap.p9.c0⟩
theorem alloc (_ : BSt w W n g7 f8 f9 g4 g5 a b x A c) (o : Obj) : Below W.heap.size W (W.alloc o) := below_alloc (Below.refl _ _) o
theorem made (h : BSt w W n g7 f8 f9 g4 g5 a b x A c) (o : Obj) : (W.alloc o).heap[W.heap.size]? = some o ∧ n ≤ W.heap.size := ⟨heap_alloc_new W o, h.top.2.2.2.2.2.2⟩
theorem put2 (h : BSt w W n g7 f8 f9 g4 g5 a b x A c) (hX : W.heap[X]? = some (.cells #[.int .i64 0, .slice none 0 0] 26 (0, 0)) ∧ n ≤ X) (hq : k31.C W A2 q.f1.length q.f1 ∧ q.f1.length ≤ c2) :
 BSt w ((W.setCell ⟨X, 0, none⟩ (.int .i64 q.f0)).setCell ⟨X, 1, none⟩ (.slice A2 q.f1.length c2)) n g7 f8 f9 g4 g5 a b x A c ∧ ((W.setCell ⟨X, 0, none⟩ (.int .i64 q.f0)).setCell ⟨X, 1, none⟩ (.slice A2 q.f1.length c2)).heap[X]? = some (.cells #[.int .i64 q.f0, .slice A2 q.f1.length c2] 26 (0, 0)) ∧ k31.C ((W.setCell ⟨X, 0, none⟩ (.int .i64 q.f0)).setCell ⟨X, 1, none⟩ (.slice A2 q.f1.length c2)) A2 q.f1.length q.f1 ∧ q.f1.length ≤ c2 := by
 obtain ⟨h1, h2, h3, h4, h5, h6, h7⟩ := h.top
 have hx1 := blk_put hX.1 0 (.int .i64 q.f0) rfl
 have hx2 := blk_put hx1 1 (.slice A2 q.f1.length c2) rfl
 have k1 : ∀ (a : Addr) y, a.block = X → W.cell? a ≠ some (.int .u64 y) := fun a y ha hv => by
  simp only [World.cell?, ha, hX.1] at hv
  split at hv
  · cases hv
  · match a.off, hv with
    | 0, hv => simp at hv
    | 1, hv => simp at hv
    | (k + 2), hv => simp at hv
 have k2 : ∀ (a : Addr) y, a.block = X → (W.setCell ⟨X, 0, none⟩ (.int .i64 q.f0)).cell? a ≠ some (.int .u64 y) := fun a y ha hv => by
  simp only [World.cell?, ha, hx1] at hv
  split at hv
  · cases hv
  · match a.off, hv with
    | 0, hv => simp at hv
    | 1, hv => simp at hv
    | (k + 2), hv => simp at hv
 have ko : ∀ k, k ≠ X → ((W.setCell ⟨X, 0, none⟩ (.int .i64 q.f0)).setCell ⟨X, 1, none⟩ (.slice A2 q.f1.length c2)).heap[k]? = W.heap[k]? := fun k hk => (Below.heap_setCell _ ⟨X, 1, none⟩ _ k hk).trans (Below.heap_setCell _ ⟨X, 0, none⟩ _ k hk)
 refine ⟨⟨⟨(ko _ (by omega)).trans h.cap.p8, (ko _ (by omega)).trans h.cap.p9, (ko _ (by omega)).trans h.cap.i4, (ko _ (by omega)).trans h.cap.i5⟩, (ko _ (by omega)).trans h.box, C_nou (C_nou h.row k1 _) k2 _, (h.bel.setCell (by show w.heap.size ≤ X; omega) _).setCell (by show w.heap.size ≤ X; omega) _, ⟨h1, h2, h3, h4, h5, h6, by simpa [World.setCell] using h7⟩⟩, hx2, C_nou (C_nou hq.1 k1 _) k2 _, hq.2⟩
end BSt
theorem BxI.nou {W : World} {g : Nat} {id : Int} (h : BxI W g id) : ∀ (a : Addr) y, a.block = g → W.cell? a ≠ some (.int .u64 y) := fun a y ha hv => by
 unfold BxI at h
 simp only [World.cell?, ha, h] at hv
 split at hv
 · cases hv
 · match a.off, hv with
   | 0, hv => simp at hv
   | (k + 1), hv => simp at hv
theorem run_store_funcB (P : Program) (w : World) (a : Addr) (m : Mode) (f : Fn) (x y : Array Value) : (store a (.func f x y) m).run P w = stored P w a (.func f x y) m := run_store P w a _ m rfl
attribute [local go_sem] run_store_funcB
set_option maxRecDepth 100000 in
set_option maxHeartbeats 4000000 in
theorem blockShrinks_walk (A : Option Addr) (c : Nat) (l : List E) (a b : Int) (w : World) (hr : k31.C w A l.length l) (hc : l.length ≤ c) :
 Calls Try.prog 5 #[.slice A l.length c, .int .i64 a, .int .i64 b] w fun e w' => e = .returned (.bool true) ∧ Below w.heap.size w w' := by
 have hz1 := below_alloc (Below.refl w.heap.size w) (.cells #[.int .i64 a] 3)
 have hz2 := below_alloc (Below.refl (w.alloc (.cells #[.int .i64 a] 3)).heap.size (w.alloc (.cells #[.int .i64 a] 3))) (.cells #[.int .i64 b] 3)
 have HZ := Aside0.mk (below_step hz1 hz2)
 have HI4 := Aside0.mk (show BxI ((w.alloc (.cells #[.int .i64 a] 3)).alloc (.cells #[.int .i64 b] 3)) w.heap.size a from blk_below (heap_alloc_new w _) hz2)
 have HI5 := Aside0.mk (show BxI ((w.alloc (.cells #[.int .i64 a] 3)).alloc (.cells #[.int .i64 b] 3)) (w.heap.size + 1) b from by
  have := heap_alloc_new (w.alloc (.cells #[.int .i64 a] 3)) (.cells #[.int .i64 b] 3)
  rwa [World.size_alloc] at this)
 have HC0 := Aside0.mk (Kd.C_below hr HZ.out)
 have HSZ := Aside0.mk (show ((w.alloc (.cells #[.int .i64 a] 3)).alloc (.cells #[.int .i64 b] 3)).heap.size = w.heap.size + 2 by simp)
 clear hz1 hz2 hr
 go_enter Try.func5, Try.ntmps5
 go_wp2_with fail
 obtain ⟨w1, hw1⟩ : ∃ w1 : World, w1 = (w.alloc (.cells #[.int .i64 a] 3)).alloc (.cells #[.int .i64 b] 3) := ⟨_, rfl⟩
 rw [← hw1] at HZ HI4 HI5 HC0 HSZ ⊢
 clear hw1
 by_cases hl : l.length ≤ 120
 · have hd : decide ((l.length : Int) ≤ 120) = true := decide_eq_true (by omega)
   refine (vergerlaw6_Few.calls A c l true _ HC0.out hc (by rw [few_told, hd])).mono ?_
   rintro y w2 ⟨rfl, ⟨nd, rfl⟩⟩
   have HB2 := Aside0.mk (pw_below_drewN (Below.refl w1.heap.size w1) nd)
   have HC2 := Aside0.mk (Kd.C_below HC0.out HB2.out)
   have HOF := Aside0.mk (show block_Of.f 1000 l = some ((mkB l).f0, (mkB l).f1) from of_told 1000 l (by omega) (by omega))
   clear hd
   go_wp2_with fail
   refine (block_Of.calls 1000 A c l _ _ _ HC2.out hc HOF.out).mono ?_
   rintro y w3 ⟨v3, rfl, hv3, hb3⟩
   obtain ⟨A3, c3, rfl⟩ := Kd.V_slice hv3
   have HB3 := Aside0.mk (below_step HB2.out hb3)
   have HV3 := Aside0.mk (Kd.V_reads' hv3)
   have hx7 := heap_alloc_new w3 (.cells #[.int .i64 (mkB l).f0, .slice A3 (mkB l).f1.length c3] 26)
   have hz7 := below_alloc (Below.refl w3.heap.size w3) (.cells #[.int .i64 (mkB l).f0, .slice A3 (mkB l).f1.length c3] 26)
   have HXL := Aside0.mk (show (mkB l).f1.length ≤ 120 by rw [show (mkB l).f1.length = l.length from sortE_length l]; exact hl)
   obtain ⟨x, hx⟩ : ∃ x, x = mkB l := ⟨_, rfl⟩
   have HX := Aside0.mk hx
   clear hv3 hb3
   go_wp2_with fail
   rw [← hx] at HV3 hx7 hz7 HXL ⊢
   clear hx
   obtain ⟨w4, hw4⟩ : ∃ w4 : World, w4 = w3.alloc (.cells #[.int .i64 x.f0, .slice A3 x.f1.length c3] 26) := ⟨_, rfl⟩
   obtain ⟨g7, hg7⟩ : ∃ g7, g7 = w3.heap.size := ⟨_, rfl⟩
   rw [← hw4] at hx7 hz7 ⊢
   rw [← hg7] at hx7 ⊢
   have HB4 := Aside0.mk (below_step HB3.out hz7)
   have HX7 := Aside0.mk (show w4.drew.heap[g7]? = some (.cells #[.int .i64 x.f0, .slice A3 x.f1.length c3] 26 (0, 0)) from hx7)
   have HS7 := Aside0.mk (show w.heap.size + 2 ≤ g7 ∧ g7 < w4.heap.size from ⟨by have := HB3.out.size; have := HSZ.out; omega, (Array.getElem?_eq_some_iff.1 hx7).1⟩)
   have HC4 := Aside0.mk (Kd.C_below HV3.out.2.2 hz7)
   have HI44 := Aside0.mk ((HI4.out.below HB4.out).below (below_drew (Below.refl _ _)))
   have HI45 := Aside0.mk ((HI5.out.below HB4.out).below (below_drew (Below.refl _ _)))
   have HBW := Aside0.mk (below_then HZ.out HZ.out.size HB4.out)
   clear hx7 hz7 hw4 hg7 HB2 HC2 HB3 HB4 HI4 HI5 HC0
   have ha := and_maskL a 7 (by omega)
   have hb := and_maskL b 7 (by omega)
   rw [show ((7 : Nat) : Int) = 7 from rfl] at ha hb
   obtain ⟨a1, ha1⟩ : ∃ a1 : Int, bits BinOp.and IntKind.i64 a 7 = a1 := ⟨_, rfl⟩
   obtain ⟨b1, hb1⟩ : ∃ b1 : Int, bits BinOp.and IntKind.i64 b 7 = b1 := ⟨_, rfl⟩
   rw [ha1] at ha
   rw [hb1] at hb
   have ha2 : a1 ≤ 7 := ha.2
   have ha3 : 0 ≤ a1 := ha.1
   have hb2 : b1 ≤ 7 := hb.2
   have hb3 : 0 ≤ b1 := hb.1
   have y4 := HI44.out.c0
   have y5 := HI45.out.c0
   have f4 : w4.frozen? ⟨w.heap.size, 0, none⟩ = false := frozen_row HI44.out 0
   have f5 : w4.frozen? ⟨w.heap.size + 1, 0, none⟩ = false := frozen_row HI45.out 0
   have s1 : wrap64 (a1 + 2) = a1 + 2 := by unfold wrap64; omega
   have s2 : wrap64 (b1 + 2) = b1 + 2 := by unfold wrap64; omega
   have hj51 : BxI (w4.setCell ⟨w.heap.size, 0, none⟩ (.int .i64 (a1 + 2))) (w.heap.size + 1) b := (Below.heap_setCell w4 ⟨w.heap.size, 0, none⟩ _ (w.heap.size + 1) (by show w.heap.size + 1 ≠ w.heap.size; omega)).trans HI45.out
   have y6 := hj51.c0
   have f6 : (w4.setCell ⟨w.heap.size, 0, none⟩ (.int .i64 (a1 + 2))).frozen? ⟨w.heap.size + 1, 0, none⟩ = false := frozen_row hj51 0
   have mixed : Try.prog.follows .mixedOrders = true := by kernel_rfl
   go_upto_region 4 with fail
   go_cut [] (fun wx => Aside0 (wx = ((w4.setCell ⟨w.heap.size, 0, none⟩ (.int .i64 (a1 + 2))).setCell ⟨w.heap.size + 1, 0, none⟩ (.int .i64 (b1 + 2))).drew))
   case first =>
    refine start_ (n := 8) (S := fun w' => True) (ds := []) #[false, false, false, false, false, false, false, false] (by kernel_rfl) rfl rfl trivial (fun hHeld => ?_)
    refine two_ (i := 0) (j := 3) (Ni := (some 20)) (Nj := (some 23)) #[true, false, false, false, false, false, false, false] #[false, false, false, true, false, false, false, false] rfl rfl rfl rfl (by kernel_rfl) (by decide) (by decide) (fun K hK => ?_) (fun K hK => ?_)
    · skip
      go_simp
      refine hK.out _ _ trivial (fun hHeld => ?_)
      clear hK K
      (try simp only [Act.put, List.setIfInBounds_toArray, List.set_cons_zero, List.set_cons_succ, i64_w, i32_w])
      refine pure_ (i := 1) (N := (some 21)) (v := ?_) (a' := ?_) #[true, true, false, false, false, false, false, false] rfl rfl (by kernel_rfl) (fun _ _ _ h => h) (Or.inl ⟨by rfl, ?_⟩) ?_ ?_
      rotate_left
      · intro w'
        go_simp
        with_reducible rfl
      rotate_left
      · simp only [Act.put, List.setIfInBounds_toArray, List.set_cons_zero, List.set_cons_succ, i64_w, i32_w]
        rfl
      refine pure_ (i := 2) (N := (some 22)) (v := ?_) (a' := ?_) #[true, true, true, false, false, false, false, false] rfl rfl (by kernel_rfl) (fun _ _ _ h => h) (Or.inl ⟨by rfl, ?_⟩) ?_ ?_
      rotate_left
      · intro w'
        go_simp
        with_reducible rfl
      rotate_left
      · simp only [Act.put, List.setIfInBounds_toArray, List.set_cons_zero, List.set_cons_succ, i64_w, i32_w]
        rfl
      refine two_ (i := 3) (j := 6) (Ni := (some 23)) (Nj := none) #[true, true, true, true, false, false, false, false] #[true, true, true, false, false, false, true, false] rfl rfl rfl rfl (by kernel_rfl) (by decide) (by decide) (fun K hK => ?_) (fun K hK => ?_)
      · skip
        go_simp
        refine hK.out _ _ trivial (fun hHeld => ?_)
        clear hK K
        (try simp only [Act.put, List.setIfInBounds_toArray, List.set_cons_zero, List.set_cons_succ, i64_w, i32_w])
        refine pure_ (i := 4) (N := (some 24)) (v := ?_) (a' := ?_) #[true, true, true, true, true, false, false, false] rfl rfl (by kernel_rfl) (fun _ _ _ h => h) (Or.inl ⟨by rfl, ?_⟩) ?_ ?_
        rotate_left
        · intro w'
          go_simp
          with_reducible rfl
        rotate_left
        · simp only [Act.put, List.setIfInBounds_toArray, List.set_cons_zero, List.set_cons_succ, i64_w, i32_w]
          rfl
        refine pure_ (i := 5) (N := (some 25)) (v := ?_) (a' := ?_) #[true, true, true, true, true, true, false, false] rfl rfl (by kernel_rfl) (fun _ _ _ h => h) (Or.inl ⟨by rfl, ?_⟩) ?_ ?_
        rotate_left
        · intro w'
          go_simp
          with_reducible rfl
        rotate_left
        · simp only [Act.put, List.setIfInBounds_toArray, List.set_cons_zero, List.set_cons_succ, i64_w, i32_w]
          rfl
        refine one_ (i := 6) (N := none) #[true, true, true, true, true, true, true, false] rfl rfl (by kernel_rfl) (by decide) (fun K hK => ?_)
        go_simp
        refine hK.out _ _ trivial (fun hHeld => ?_)
        clear hK K
        (try simp only [Act.put, List.setIfInBounds_toArray, List.set_cons_zero, List.set_cons_succ, i64_w, i32_w])
        refine one_ (i := 7) (N := none) #[true, true, true, true, true, true, true, true] rfl rfl (by kernel_rfl) (by decide) (fun K hK => ?_)
        go_simp
        refine hK.out _ _ trivial (fun hHeld => ?_)
        clear hK K
        (try simp only [Act.put, List.setIfInBounds_toArray, List.set_cons_zero, List.set_cons_succ, i64_w, i32_w])
        refine done_ (by kernel_rfl) ?_
        go_wp2_with fail
        go_meet
        exact ⟨rfl⟩
      · skip
        go_simp
        refine hK.out _ _ trivial (fun hHeld => ?_)
        clear hK K
        (try simp only [Act.put, List.setIfInBounds_toArray, List.set_cons_zero, List.set_cons_succ, i64_w, i32_w])
        refine one_ (i := 3) (N := (some 23)) #[true, true, true, true, false, false, true, false] rfl rfl (by kernel_rfl) (by decide) (fun K hK => ?_)
        go_simp
        refine hK.out _ _ trivial (fun hHeld => ?_)
        clear hK K
        (try simp only [Act.put, List.setIfInBounds_toArray, List.set_cons_zero, List.set_cons_succ, i64_w, i32_w])
        refine pure_ (i := 4) (N := (some 24)) (v := ?_) (a' := ?_) #[true, true, true, true, true, false, true, false] rfl rfl (by kernel_rfl) (fun _ _ _ h => h) (Or.inl ⟨by rfl, ?_⟩) ?_ ?_
        rotate_left
        · intro w'
          go_simp
          with_reducible rfl
        rotate_left
        · simp only [Act.put, List.setIfInBounds_toArray, List.set_cons_zero, List.set_cons_succ, i64_w, i32_w]
          rfl
        refine pure_ (i := 5) (N := (some 25)) (v := ?_) (a' := ?_) #[true, true, true, true, true, true, true, false] rfl rfl (by kernel_rfl) (fun _ _ _ h => h) (Or.inl ⟨by rfl, ?_⟩) ?_ ?_
        rotate_left
        · intro w'
          go_simp
          with_reducible rfl
        rotate_left
        · simp only [Act.put, List.setIfInBounds_toArray, List.set_cons_zero, List.set_cons_succ, i64_w, i32_w]
          rfl
        refine one_ (i := 7) (N := none) #[true, true, true, true, true, true, true, true] rfl rfl (by kernel_rfl) (by decide) (fun K hK => ?_)
        go_simp
        refine hK.out _ _ trivial (fun hHeld => ?_)
        clear hK K
        (try simp only [Act.put, List.setIfInBounds_toArray, List.set_cons_zero, List.set_cons_succ, i64_w, i32_w])
        refine done_ (by kernel_rfl) ?_
        go_wp2_with fail
        go_meet
        exact ⟨rfl⟩
    · skip
      go_simp
      refine hK.out _ _ trivial (fun hHeld => ?_)
      clear hK K
      (try simp only [Act.put, List.setIfInBounds_toArray, List.set_cons_zero, List.set_cons_succ, i64_w, i32_w])
      refine pure_ (i := 4) (N := (some 24)) (v := ?_) (a' := ?_) #[false, false, false, true, true, false, false, false] rfl rfl (by kernel_rfl) (fun _ _ _ h => h) (Or.inl ⟨by rfl, ?_⟩) ?_ ?_
      rotate_left
      · intro w'
        go_simp
        with_reducible rfl
      rotate_left
      · simp only [Act.put, List.setIfInBounds_toArray, List.set_cons_zero, List.set_cons_succ, i64_w, i32_w]
        rfl
      refine pure_ (i := 5) (N := (some 25)) (v := ?_) (a' := ?_) #[false, false, false, true, true, true, false, false] rfl rfl (by kernel_rfl) (fun _ _ _ h => h) (Or.inl ⟨by rfl, ?_⟩) ?_ ?_
      rotate_left
      · intro w'
        go_simp
        with_reducible rfl
      rotate_left
      · simp only [Act.put, List.setIfInBounds_toArray, List.set_cons_zero, List.set_cons_succ, i64_w, i32_w]
        rfl
      refine one_ (i := 0) (N := (some 20)) #[true, false, false, true, true, true, false, false] rfl rfl (by kernel_rfl) (by decide) (fun K hK => ?_)
      go_simp
      refine hK.out _ _ trivial (fun hHeld => ?_)
      clear hK K
      (try simp only [Act.put, List.setIfInBounds_toArray, List.set_cons_zero, List.set_cons_succ, i64_w, i32_w])
      refine pure_ (i := 1) (N := (some 21)) (v := ?_) (a' := ?_) #[true, true, false, true, true, true, false, false] rfl rfl (by kernel_rfl) (fun _ _ _ h => h) (Or.inl ⟨by rfl, ?_⟩) ?_ ?_
      rotate_left
      · intro w'
        go_simp
        with_reducible rfl
      rotate_left
      · simp only [Act.put, List.setIfInBounds_toArray, List.set_cons_zero, List.set_cons_succ, i64_w, i32_w]
        rfl
      refine pure_ (i := 2) (N := (some 22)) (v := ?_) (a' := ?_) #[true, true, true, true, true, true, false, false] rfl rfl (by kernel_rfl) (fun _ _ _ h => h) (Or.inl ⟨by rfl, ?_⟩) ?_ ?_
      rotate_left
      · intro w'
        go_simp
        with_reducible rfl
      rotate_left
      · simp only [Act.put, List.setIfInBounds_toArray, List.set_cons_zero, List.set_cons_succ, i64_w, i32_w]
        rfl
      refine one_ (i := 6) (N := none) #[true, true, true, true, true, true, true, false] rfl rfl (by kernel_rfl) (by decide) (fun K hK => ?_)
      go_simp
      refine hK.out _ _ trivial (fun hHeld => ?_)
      clear hK K
      (try simp only [Act.put, List.setIfInBounds_toArray, List.set_cons_zero, List.set_cons_succ, i64_w, i32_w])
      refine one_ (i := 7) (N := none) #[true, true, true, true, true, true, true, true] rfl rfl (by kernel_rfl) (by decide) (fun K hK => ?_)
      go_simp
      refine hK.out _ _ trivial (fun hHeld => ?_)
      clear hK K
      (try simp only [Act.put, List.setIfInBounds_toArray, List.set_cons_zero, List.set_cons_succ, i64_w, i32_w])
      refine done_ (by kernel_rfl) ?_
      go_wp2_with fail
      go_meet
      exact ⟨rfl⟩
   case rest =>
    have hcut_ := hcut.out
    subst hcut_
    obtain ⟨w5, hw5⟩ : ∃ w5 : World, w5 = ((w4.setCell ⟨w.heap.size, 0, none⟩ (.int .i64 (a1 + 2))).setCell ⟨w.heap.size + 1, 0, none⟩ (.int .i64 (b1 + 2))).drew := ⟨_, rfl⟩
    have h51 := blk_put (show w4.heap[w.heap.size]? = some (.cells #[.int .i64 a] 3 (0, 0)) from HI44.out) 0 (.int .i64 (a1 + 2)) rfl
    have HJ5 := Aside0.mk (show BxI w5 (w.heap.size + 1) (b1 + 2) by rw [hw5]; exact blk_put hj51 0 _ rfl)
    have HJ4 := Aside0.mk (show BxI w5 w.heap.size (a1 + 2) by rw [hw5]; exact (Below.heap_setCell _ ⟨w.heap.size + 1, 0, none⟩ _ w.heap.size (by show w.heap.size ≠ w.heap.size + 1; omega)).trans h51)
    have HC5 := Aside0.mk (show k31.C w5 A3 x.f1.length x.f1 by rw [hw5]; exact Kd.C_drew (C_nou (C_nou HC4.out (show BxI w4 w.heap.size a from HI44.out).nou _) hj51.nou _))
    have HX5 := Aside0.mk (show w5.heap[g7]? = some (.cells #[.int .i64 x.f0, .slice A3 x.f1.length c3] 26 (0, 0)) by rw [hw5]; exact (Below.heap_setCell _ ⟨w.heap.size + 1, 0, none⟩ _ g7 (by have := HS7.out; show g7 ≠ w.heap.size + 1; omega)).trans ((Below.heap_setCell w4 ⟨w.heap.size, 0, none⟩ _ g7 (by have := HS7.out; show g7 ≠ w.heap.size; omega)).trans HX7.out))
    have HB5 := Aside0.mk (show Below w.heap.size w w5 by rw [hw5]; exact below_drew ((HBW.out.setCell (Nat.le_refl _) _).setCell (Nat.le_succ _) _))
    have HS5 := Aside0.mk (show w5.heap.size = w4.heap.size by rw [hw5]; simp [World.setCell])
    rw [← hw5]
    clear hw5 h51 hj51 y4 y5 f4 f5 y6 f6 HI44 HI45 HC4 HX7 HBW
    go_upto_region 7 with fail
    obtain ⟨w7, hw7⟩ : ∃ w7 : World, w7 = (w5.alloc (.cells #[.func (.func 23) #[] #[.pointer (some ⟨w.heap.size, 0, none⟩)]] 46)).alloc (.cells #[.func (.func 24) #[] #[.pointer (some ⟨w.heap.size + 1, 0, none⟩)]] 46) := ⟨_, rfl⟩
    obtain ⟨f9, hf9⟩ : ∃ f9, f9 = w5.heap.size + 1 := ⟨_, rfl⟩
    obtain ⟨f8, hf8⟩ : ∃ f8, f8 = w5.heap.size := ⟨_, rfl⟩
    have HS : Aside0 (BSt w w7 (w5.heap.size + 2) g7 f8 f9 w.heap.size (w.heap.size + 1) (a1 + 2) (b1 + 2) x A3 c3) := ⟨by
     have h1 := below_alloc (Below.refl w5.heap.size w5) (.cells #[.func (.func 23) #[] #[.pointer (some ⟨w.heap.size, 0, none⟩)]] 46)
     have h2 := heap_alloc_new w5 (.cells #[.func (.func 23) #[] #[.pointer (some ⟨w.heap.size, 0, none⟩)]] 46)
     have h3 := heap_alloc_new (w5.alloc (.cells #[.func (.func 23) #[] #[.pointer (some ⟨w.heap.size, 0, none⟩)]] 46)) (.cells #[.func (.func 24) #[] #[.pointer (some ⟨w.heap.size + 1, 0, none⟩)]] 46)
     have h4 := below_alloc (Below.refl (w5.alloc (.cells #[.func (.func 23) #[] #[.pointer (some ⟨w.heap.size, 0, none⟩)]] 46)).heap.size (w5.alloc (.cells #[.func (.func 23) #[] #[.pointer (some ⟨w.heap.size, 0, none⟩)]] 46))) (.cells #[.func (.func 24) #[] #[.pointer (some ⟨w.heap.size + 1, 0, none⟩)]] 46)
     have h5 : (w5.alloc (.cells #[.func (.func 23) #[] #[.pointer (some ⟨w.heap.size, 0, none⟩)]] 46)).heap.size = w5.heap.size + 1 := by simp
     have h7 : w7.heap.size = w5.heap.size + 2 := by rw [hw7]; simp
     rw [← hw7] at h3 h4
     rw [h5, ← hf9] at h3
     rw [← hf8] at h2
     have h6 := below_step h1 h4
     have h8 := HS5.out
     have h9 := HS7.out
     exact ⟨⟨blk_below h2 h4, h3, HJ4.out.below h6, HJ5.out.below h6⟩, blk_below HX5.out h6, Kd.C_below HC5.out h6, below_step HB5.out h6, by omega⟩⟩
    rw [← hw7, ← hf9, ← hf8]
    obtain ⟨n, hn⟩ : ∃ n, n = w5.heap.size + 2 := ⟨_, rfl⟩
    rw [← hn] at HS
    obtain ⟨a2, ha4⟩ : ∃ a2, a2 = a1 + 2 := ⟨_, rfl⟩
    obtain ⟨b2, hb4⟩ : ∃ b2, b2 = b1 + 2 := ⟨_, rfl⟩
    rw [← ha4, ← hb4] at HS
    have HAB := Aside0.mk (show (2 ≤ a2 ∧ a2 ≤ 9) ∧ (2 ≤ b2 ∧ b2 ≤ 9) by omega)
    obtain ⟨p1, hp1⟩ : ∃ p1, mkB (x.f1.filter fun e => !divs a2 e.f1) = p1 := ⟨_, rfl⟩
    obtain ⟨q, hq⟩ : ∃ q, mkB (x.f1.filter fun e => !(divs a2 e.f1 || divs b2 e.f1)) = q := ⟨_, rfl⟩
    have HP1 := Aside0.mk hp1
    have HQ := Aside0.mk hq
    have HPQ := Aside0.mk (show mkB (p1.f1.filter fun e => !divs b2 e.f1) = q by rw [← hp1, ← hq, HX.out]; exact shrinks_two (divs a2) (divs b2) l)
    have HPL := Aside0.mk (show p1.f1.length ≤ 120 ∧ q.f1.length ≤ 120 from by
     have h1 : p1.f1.length = (x.f1.filter fun e => !divs a2 e.f1).length := by rw [← hp1]; exact sortE_length _
     have h2 : q.f1.length = (x.f1.filter fun e => !(divs a2 e.f1 || divs b2 e.f1)).length := by rw [← hq]; exact sortE_length _
     have h3 := List.length_filter_le (fun e => !divs a2 e.f1) x.f1
     have h4 := List.length_filter_le (fun e => !(divs a2 e.f1 || divs b2 e.f1)) x.f1
     have h5 := HXL.out
     omega)
    have HC3 := Aside0.mk HV3.out.2.1
    clear hw7 hf9 hf8 hn ha4 hb4 hp1 hq HJ4 HJ5 HC5 HX5 HB5 HS5 HS7 HV3 s1 s2 ha1 hb1 ha hb ha2 ha3 hb2 hb3
    go_cut [10] (fun s10 wx => ∃ (X : Nat) (A10 : Option Addr) (c10 : Nat), s10 = .pointer (some ⟨X, 0, none⟩) ∧ Aside0 (wx.heap[X]? = some (.cells #[.int .i64 q.f0, .slice A10 q.f1.length c10] 26 (0, 0))) ∧ Aside0 (k31.C wx A10 q.f1.length q.f1 ∧ q.f1.length ≤ c10) ∧ Aside0 (BSt w wx n g7 f8 f9 w.heap.size (w.heap.size + 1) a2 b2 x A3 c3))
    case first =>
     have HS_ := Aside0.mk (HS.out.below (below_drew (Below.refl _ _)))
     clear HS
     have HS := HS_
     clear HS_
     refine start_ (n := 7) (S := fun w' => w'.cell? ⟨g7, 0, none⟩ = some (.int .i64 x.f0) ∧ w'.cell? ⟨g7, 1, none⟩ = some (.slice A3 x.f1.length c3) ∧ w'.cell? ⟨f8, 0, none⟩ = some (.func (.func 23) #[] #[.pointer (some ⟨w.heap.size, 0, none⟩)]) ∧ w'.cell? ⟨f9, 0, none⟩ = some (.func (.func 24) #[] #[.pointer (some ⟨w.heap.size + 1, 0, none⟩)])) (ds := [6]) #[false, false, false, false, false, false, false] (by kernel_rfl) rfl rfl HS.out.sees (fun hHeld => ?_)
     refine take_ (i := 0) (N := (some 28)) (v := ?_) (a' := ?_) #[true, false, false, false, false, false, false] rfl rfl (by kernel_rfl) (fun _ _ _ h => h) (Or.inl ⟨by rfl, ?_⟩) hHeld ?_ ?_
     rotate_left
     · rintro w' ⟨s0, s1, s2, s3⟩
       go_simp
       with_reducible rfl
     rotate_left
     · simp only [Act.put, List.setIfInBounds_toArray, List.set_cons_zero, List.set_cons_succ, i64_w, i32_w]
       rfl
     refine take_ (i := 1) (N := (some 29)) (v := ?_) (a' := ?_) #[true, true, false, false, false, false, false] rfl rfl (by kernel_rfl) (fun _ _ _ h => h) (Or.inl ⟨by rfl, ?_⟩) hHeld ?_ ?_
     rotate_left
     · rintro w' ⟨s0, s1, s2, s3⟩
       go_simp
       with_reducible rfl
     rotate_left
     · simp only [Act.put, List.setIfInBounds_toArray, List.set_cons_zero, List.set_cons_succ, i64_w, i32_w]
       rfl
     refine take_ (i := 3) (N := (some 31)) (v := ?_) (a' := ?_) #[true, true, false, true, false, false, false] rfl rfl (by kernel_rfl) (fun _ _ _ h => h) (Or.inl ⟨by rfl, ?_⟩) hHeld ?_ ?_
     rotate_left
     · rintro w' ⟨s0, s1, s2, s3⟩
       go_simp
       with_reducible rfl
     rotate_left
     · simp only [Act.put, List.setIfInBounds_toArray, List.set_cons_zero, List.set_cons_succ, i64_w, i32_w]
       rfl
     refine two_ (i := 2) (j := 5) (Ni := (some 30)) (Nj := (some 10)) #[true, true, true, true, false, false, false] #[true, true, false, true, false, true, false] rfl rfl rfl rfl (by kernel_rfl) (by decide) (by decide) (fun K hK => ?_) (fun K hK => ?_)
     · skip
       refine goes_ Try.func25 (by kernel_rfl) rfl #[.agg #[.int .i64 x.f0, .slice A3 x.f1.length c3], .func (.func 23) #[] #[.pointer (some ⟨w.heap.size, 0, none⟩)]] (by rfl) rfl rfl (by (try simp only [List.map_toArray, List.map_cons, List.map_nil]); first | done | rfl) ?_
       refine (shrink_gen x A3 c3 _ (askS1a w.heap.size a2 HAB.out.1) HS.out.row HC3.out (by have := HXL.out; omega) HS.out.cap.i4).mono ?_
       rintro y w9 ⟨A9, c9, rfl, hv9, hb9⟩
       rw [HP1.out] at hv9 ⊢
       have h9_ := Kd.V_reads' hv9
       (try (have n_ := Aside0.mk (HS.out.below hb9); clear HS; have HS := n_; clear n_))
       (try (have n_ := Aside0.mk ((⟨Kd.C_below HR9.out.1 hb9, HR9.out.2⟩ : _ ∧ _)); clear HR9; have HR9 := n_; clear n_))
       (try (have n_ := Aside0.mk ((⟨Kd.C_below HR10.out.1 hb9, HR10.out.2⟩ : _ ∧ _)); clear HR10; have HR10 := n_; clear n_))
       (try (have n_ := Aside0.mk ((⟨blk_below HBX.out.1 hb9, HBX.out.2⟩ : _ ∧ _)); clear HBX; have HBX := n_; clear n_))
       have HR9 := Aside0.mk (show k31.C w9 A9 p1.f1.length p1.f1 ∧ p1.f1.length ≤ c9 from ⟨h9_.2.2, h9_.2.1⟩)
       clear h9_ hv9 hb9
       refine ⟨_, rfl, ?_⟩
       refine hK.out _ _ HS.out.sees (fun hHeld => ?_)
       clear hK K
       refine norm_ (a' := ?_) ?_ ?_
       rotate_left
       · show Act.put _ (some 30) _ = _
         simp only [Act.put, List.setIfInBounds_toArray, List.set_cons_zero, List.set_cons_succ, i64_w, i32_w]
         rfl
       refine two_ (i := 4) (j := 5) (Ni := (some 32)) (Nj := (some 10)) #[true, true, true, true, true, false, false] #[true, true, true, true, false, true, false] rfl rfl rfl rfl (by kernel_rfl) (by decide) (by decide) (fun K hK => ?_) (fun K hK => ?_)
       · skip
         refine goes_ Try.func25 (by kernel_rfl) rfl #[.agg #[.int .i64 p1.f0, .slice A9 p1.f1.length c9], .func (.func 24) #[] #[.pointer (some ⟨w.heap.size + 1, 0, none⟩)]] (by rfl) rfl rfl (by (try simp only [List.map_toArray, List.map_cons, List.map_nil]); first | done | rfl) ?_
         refine (shrink_gen p1 A9 c9 _ (askS1b (w.heap.size + 1) b2 HAB.out.2) HR9.out.1 HR9.out.2 (by have := HPL.out; omega) HS.out.cap.i5).mono ?_
         rintro y w10 ⟨A10, c10, rfl, hv10, hb10⟩
         rw [HPQ.out] at hv10 ⊢
         have h10_ := Kd.V_reads' hv10
         (try (have n_ := Aside0.mk (HS.out.below hb10); clear HS; have HS := n_; clear n_))
         (try (have n_ := Aside0.mk ((⟨Kd.C_below HR9.out.1 hb10, HR9.out.2⟩ : _ ∧ _)); clear HR9; have HR9 := n_; clear n_))
         (try (have n_ := Aside0.mk ((⟨Kd.C_below HR10.out.1 hb10, HR10.out.2⟩ : _ ∧ _)); clear HR10; have HR10 := n_; clear n_))
         (try (have n_ := Aside0.mk ((⟨blk_below HBX.out.1 hb10, HBX.out.2⟩ : _ ∧ _)); clear HBX; have HBX := n_; clear n_))
         have HR10 := Aside0.mk (show k31.C w10 A10 q.f1.length q.f1 ∧ q.f1.length ≤ c10 from ⟨h10_.2.2, h10_.2.1⟩)
         clear h10_ hv10 hb10
         refine ⟨_, rfl, ?_⟩
         refine hK.out _ _ HS.out.sees (fun hHeld => ?_)
         clear hK K
         refine norm_ (a' := ?_) ?_ ?_
         rotate_left
         · show Act.put _ (some 32) _ = _
           simp only [Act.put, List.setIfInBounds_toArray, List.set_cons_zero, List.set_cons_succ, i64_w, i32_w]
           rfl
         refine one_ (i := 5) (N := (some 10)) #[true, true, true, true, true, true, false] rfl rfl (by kernel_rfl) (by decide) (fun K hK => ?_)
         go_simp
         have HSP := HS
         (try have HRP := HR10)
         have HBX := Aside0.mk (HS.out.made (.cells #[.int .i64 0, .slice none 0 0] 26))
         (try (have n_ : Aside0 ((w7.drew.alloc (.cells #[.int .i64 0, .slice none 0 0] 26)).heap[w7.heap.size]? = some (.cells #[.int .i64 0, .slice none 0 0] 26) ∧ n ≤ w7.heap.size) := HBX; clear HBX; have HBX := n_; clear n_))
         have hb_ := HS.out.alloc (.cells #[.int .i64 0, .slice none 0 0] 26)
         (try (have n_ := Aside0.mk (HS.out.below hb_); clear HS; have HS := n_; clear n_))
         (try (have n_ := Aside0.mk ((⟨Kd.C_below HR9.out.1 hb_, HR9.out.2⟩ : _ ∧ _)); clear HR9; have HR9 := n_; clear n_))
         (try (have n_ := Aside0.mk ((⟨Kd.C_below HR10.out.1 hb_, HR10.out.2⟩ : _ ∧ _)); clear HR10; have HR10 := n_; clear n_))
         clear hb_
         refine hK.out _ _ HS.out.sees (fun hHeld => ?_)
         clear hK K
         (try simp only [Act.put, List.setIfInBounds_toArray, List.set_cons_zero, List.set_cons_succ, i64_w, i32_w])
         refine last_ (i := 6) (N := none) #[true, true, true, true, true, true, true] rfl rfl (by kernel_rfl) (by decide) (fun K hK => ?_)
         have x0 := (blk_cell HBX.out.1 0).trans rfl
         have x1 := (blk_cell HBX.out.1 1).trans rfl
         have f0 := frozen_row HBX.out.1 0
         have f1 := frozen_row HBX.out.1 1
         have HPX := Aside0.mk (HS.out.put2 HBX.out HR10.out)
         go_simp
         refine hK.out _ _ ?_
         clear hK K
         (try simp only [Act.put, List.setIfInBounds_toArray, List.set_cons_zero, List.set_cons_succ, i64_w, i32_w])
         refine done_ (by kernel_rfl) ?_
         go_wp2_with fail
         go_meet
         first | exact ⟨_, _, _, rfl, ⟨HPX.out.2.1⟩, ⟨HPX.out.2.2⟩, ⟨HPX.out.1⟩⟩ | exact ⟨_, _, _, rfl, ⟨(HSP.out.made (.cells #[.int .i64 q.f0, .slice A10 q.f1.length c10] 26)).1⟩, ⟨Kd.C_below HRP.out.1 (HSP.out.alloc _), HRP.out.2⟩, ⟨HSP.out.below (HSP.out.alloc _)⟩⟩
       · skip
         go_simp
         have HSP := HS
         (try have HRP := HR10)
         have HBX := Aside0.mk (HS.out.made (.cells #[.int .i64 0, .slice none 0 0] 26))
         (try (have n_ : Aside0 ((w7.drew.alloc (.cells #[.int .i64 0, .slice none 0 0] 26)).heap[w7.heap.size]? = some (.cells #[.int .i64 0, .slice none 0 0] 26) ∧ n ≤ w7.heap.size) := HBX; clear HBX; have HBX := n_; clear n_))
         have hb_ := HS.out.alloc (.cells #[.int .i64 0, .slice none 0 0] 26)
         (try (have n_ := Aside0.mk (HS.out.below hb_); clear HS; have HS := n_; clear n_))
         (try (have n_ := Aside0.mk ((⟨Kd.C_below HR9.out.1 hb_, HR9.out.2⟩ : _ ∧ _)); clear HR9; have HR9 := n_; clear n_))
         (try (have n_ := Aside0.mk ((⟨Kd.C_below HR10.out.1 hb_, HR10.out.2⟩ : _ ∧ _)); clear HR10; have HR10 := n_; clear n_))
         clear hb_
         refine hK.out _ _ HS.out.sees (fun hHeld => ?_)
         clear hK K
         (try simp only [Act.put, List.setIfInBounds_toArray, List.set_cons_zero, List.set_cons_succ, i64_w, i32_w])
         refine one_ (i := 4) (N := (some 32)) #[true, true, true, true, true, true, false] rfl rfl (by kernel_rfl) (by decide) (fun K hK => ?_)
         refine goes_ Try.func25 (by kernel_rfl) rfl #[.agg #[.int .i64 p1.f0, .slice A9 p1.f1.length c9], .func (.func 24) #[] #[.pointer (some ⟨w.heap.size + 1, 0, none⟩)]] (by rfl) rfl rfl (by (try simp only [List.map_toArray, List.map_cons, List.map_nil]); first | done | rfl) ?_
         refine (shrink_gen p1 A9 c9 _ (askS1b (w.heap.size + 1) b2 HAB.out.2) HR9.out.1 HR9.out.2 (by have := HPL.out; omega) HS.out.cap.i5).mono ?_
         rintro y w10 ⟨A10, c10, rfl, hv10, hb10⟩
         rw [HPQ.out] at hv10 ⊢
         have h10_ := Kd.V_reads' hv10
         (try (have n_ := Aside0.mk (HS.out.below hb10); clear HS; have HS := n_; clear n_))
         (try (have n_ := Aside0.mk ((⟨Kd.C_below HR9.out.1 hb10, HR9.out.2⟩ : _ ∧ _)); clear HR9; have HR9 := n_; clear n_))
         (try (have n_ := Aside0.mk ((⟨Kd.C_below HR10.out.1 hb10, HR10.out.2⟩ : _ ∧ _)); clear HR10; have HR10 := n_; clear n_))
         (try (have n_ := Aside0.mk ((⟨blk_below HBX.out.1 hb10, HBX.out.2⟩ : _ ∧ _)); clear HBX; have HBX := n_; clear n_))
         have HR10 := Aside0.mk (show k31.C w10 A10 q.f1.length q.f1 ∧ q.f1.length ≤ c10 from ⟨h10_.2.2, h10_.2.1⟩)
         clear h10_ hv10 hb10
         refine ⟨_, rfl, ?_⟩
         refine hK.out _ _ HS.out.sees (fun hHeld => ?_)
         clear hK K
         refine norm_ (a' := ?_) ?_ ?_
         rotate_left
         · show Act.put _ (some 32) _ = _
           simp only [Act.put, List.setIfInBounds_toArray, List.set_cons_zero, List.set_cons_succ, i64_w, i32_w]
           rfl
         refine last_ (i := 6) (N := none) #[true, true, true, true, true, true, true] rfl rfl (by kernel_rfl) (by decide) (fun K hK => ?_)
         have x0 := (blk_cell HBX.out.1 0).trans rfl
         have x1 := (blk_cell HBX.out.1 1).trans rfl
         have f0 := frozen_row HBX.out.1 0
         have f1 := frozen_row HBX.out.1 1
         have HPX := Aside0.mk (HS.out.put2 HBX.out HR10.out)
         go_simp
         refine hK.out _ _ ?_
         clear hK K
         (try simp only [Act.put, List.setIfInBounds_toArray, List.set_cons_zero, List.set_cons_succ, i64_w, i32_w])
         refine done_ (by kernel_rfl) ?_
         go_wp2_with fail
         go_meet
         first | exact ⟨_, _, _, rfl, ⟨HPX.out.2.1⟩, ⟨HPX.out.2.2⟩, ⟨HPX.out.1⟩⟩ | exact ⟨_, _, _, rfl, ⟨(HSP.out.made (.cells #[.int .i64 q.f0, .slice A10 q.f1.length c10] 26)).1⟩, ⟨Kd.C_below HRP.out.1 (HSP.out.alloc _), HRP.out.2⟩, ⟨HSP.out.below (HSP.out.alloc _)⟩⟩
     · skip
       go_simp
       have HSP := HS
       (try have HRP := HR10)
       have HBX := Aside0.mk (HS.out.made (.cells #[.int .i64 0, .slice none 0 0] 26))
       (try (have n_ : Aside0 ((w7.drew.alloc (.cells #[.int .i64 0, .slice none 0 0] 26)).heap[w7.heap.size]? = some (.cells #[.int .i64 0, .slice none 0 0] 26) ∧ n ≤ w7.heap.size) := HBX; clear HBX; have HBX := n_; clear n_))
       have hb_ := HS.out.alloc (.cells #[.int .i64 0, .slice none 0 0] 26)
       (try (have n_ := Aside0.mk (HS.out.below hb_); clear HS; have HS := n_; clear n_))
       (try (have n_ := Aside0.mk ((⟨Kd.C_below HR9.out.1 hb_, HR9.out.2⟩ : _ ∧ _)); clear HR9; have HR9 := n_; clear n_))
       (try (have n_ := Aside0.mk ((⟨Kd.C_below HR10.out.1 hb_, HR10.out.2⟩ : _ ∧ _)); clear HR10; have HR10 := n_; clear n_))
       clear hb_
       refine hK.out _ _ HS.out.sees (fun hHeld => ?_)
       clear hK K
       (try simp only [Act.put, List.setIfInBounds_toArray, List.set_cons_zero, List.set_cons_succ, i64_w, i32_w])
       refine one_ (i := 2) (N := (some 30)) #[true, true, true, true, false, true, false] rfl rfl (by kernel_rfl) (by decide) (fun K hK => ?_)
       refine goes_ Try.func25 (by kernel_rfl) rfl #[.agg #[.int .i64 x.f0, .slice A3 x.f1.length c3], .func (.func 23) #[] #[.pointer (some ⟨w.heap.size, 0, none⟩)]] (by rfl) rfl rfl (by (try simp only [List.map_toArray, List.map_cons, List.map_nil]); first | done | rfl) ?_
       refine (shrink_gen x A3 c3 _ (askS1a w.heap.size a2 HAB.out.1) HS.out.row HC3.out (by have := HXL.out; omega) HS.out.cap.i4).mono ?_
       rintro y w9 ⟨A9, c9, rfl, hv9, hb9⟩
       rw [HP1.out] at hv9 ⊢
       have h9_ := Kd.V_reads' hv9
       (try (have n_ := Aside0.mk (HS.out.below hb9); clear HS; have HS := n_; clear n_))
       (try (have n_ := Aside0.mk ((⟨Kd.C_below HR9.out.1 hb9, HR9.out.2⟩ : _ ∧ _)); clear HR9; have HR9 := n_; clear n_))
       (try (have n_ := Aside0.mk ((⟨Kd.C_below HR10.out.1 hb9, HR10.out.2⟩ : _ ∧ _)); clear HR10; have HR10 := n_; clear n_))
       (try (have n_ := Aside0.mk ((⟨blk_below HBX.out.1 hb9, HBX.out.2⟩ : _ ∧ _)); clear HBX; have HBX := n_; clear n_))
       have HR9 := Aside0.mk (show k31.C w9 A9 p1.f1.length p1.f1 ∧ p1.f1.length ≤ c9 from ⟨h9_.2.2, h9_.2.1⟩)
       clear h9_ hv9 hb9
       refine ⟨_, rfl, ?_⟩
       refine hK.out _ _ HS.out.sees (fun hHeld => ?_)
       clear hK K
       refine norm_ (a' := ?_) ?_ ?_
       rotate_left
       · show Act.put _ (some 30) _ = _
         simp only [Act.put, List.setIfInBounds_toArray, List.set_cons_zero, List.set_cons_succ, i64_w, i32_w]
         rfl
       refine one_ (i := 4) (N := (some 32)) #[true, true, true, true, true, true, false] rfl rfl (by kernel_rfl) (by decide) (fun K hK => ?_)
       refine goes_ Try.func25 (by kernel_rfl) rfl #[.agg #[.int .i64 p1.f0, .slice A9 p1.f1.length c9], .func (.func 24) #[] #[.pointer (some ⟨w.heap.size + 1, 0, none⟩)]] (by rfl) rfl rfl (by (try simp only [List.map_toArray, List.map_cons, List.map_nil]); first | done | rfl) ?_
       refine (shrink_gen p1 A9 c9 _ (askS1b (w.heap.size + 1) b2 HAB.out.2) HR9.out.1 HR9.out.2 (by have := HPL.out; omega) HS.out.cap.i5).mono ?_
       rintro y w10 ⟨A10, c10, rfl, hv10, hb10⟩
       rw [HPQ.out] at hv10 ⊢
       have h10_ := Kd.V_reads' hv10
       (try (have n_ := Aside0.mk (HS.out.below hb10); clear HS; have HS := n_; clear n_))
       (try (have n_ := Aside0.mk ((⟨Kd.C_below HR9.out.1 hb10, HR9.out.2⟩ : _ ∧ _)); clear HR9; have HR9 := n_; clear n_))
       (try (have n_ := Aside0.mk ((⟨Kd.C_below HR10.out.1 hb10, HR10.out.2⟩ : _ ∧ _)); clear HR10; have HR10 := n_; clear n_))
       (try (have n_ := Aside0.mk ((⟨blk_below HBX.out.1 hb10, HBX.out.2⟩ : _ ∧ _)); clear HBX; have HBX := n_; clear n_))
       have HR10 := Aside0.mk (show k31.C w10 A10 q.f1.length q.f1 ∧ q.f1.length ≤ c10 from ⟨h10_.2.2, h10_.2.1⟩)
       clear h10_ hv10 hb10
       refine ⟨_, rfl, ?_⟩
       refine hK.out _ _ HS.out.sees (fun hHeld => ?_)
       clear hK K
       refine norm_ (a' := ?_) ?_ ?_
       rotate_left
       · show Act.put _ (some 32) _ = _
         simp only [Act.put, List.setIfInBounds_toArray, List.set_cons_zero, List.set_cons_succ, i64_w, i32_w]
         rfl
       refine last_ (i := 6) (N := none) #[true, true, true, true, true, true, true] rfl rfl (by kernel_rfl) (by decide) (fun K hK => ?_)
       have x0 := (blk_cell HBX.out.1 0).trans rfl
       have x1 := (blk_cell HBX.out.1 1).trans rfl
       have f0 := frozen_row HBX.out.1 0
       have f1 := frozen_row HBX.out.1 1
       have HPX := Aside0.mk (HS.out.put2 HBX.out HR10.out)
       go_simp
       refine hK.out _ _ ?_
       clear hK K
       (try simp only [Act.put, List.setIfInBounds_toArray, List.set_cons_zero, List.set_cons_succ, i64_w, i32_w])
       refine done_ (by kernel_rfl) ?_
       go_wp2_with fail
       go_meet
       first | exact ⟨_, _, _, rfl, ⟨HPX.out.2.1⟩, ⟨HPX.out.2.2⟩, ⟨HPX.out.1⟩⟩ | exact ⟨_, _, _, rfl, ⟨(HSP.out.made (.cells #[.int .i64 q.f0, .slice A10 q.f1.length c10] 26)).1⟩, ⟨Kd.C_below HRP.out.1 (HSP.out.alloc _), HRP.out.2⟩, ⟨HSP.out.below (HSP.out.alloc _)⟩⟩
    case rest =>
     obtain ⟨X, A10, c10, rfl, HBX, HC10, HS2⟩ := hcut
     clear HS
     have HN := Aside0.mk (show mkB (x.f1.filter fun _ => !false) = x by rw [HX.out]; exact shrinks_none l)
     have HA := Aside0.mk (show mkB (x.f1.filter fun _ => !true) = ⟨0, []⟩ by rw [HX.out]; exact shrinks_all l)
     obtain ⟨y70, y71, _, _⟩ := HS2.out.sees
     go_wp2_with fail
     refine (shrink_gen x A3 c3 _ (askS3 f8 f9 w.heap.size (w.heap.size + 1) a2 b2 HAB.out.1 HAB.out.2) HS2.out.row HC3.out (by have := HXL.out; omega) HS2.out.cap).mono ?_
     rintro y wb11 ⟨A11, c11, rfl, hv11, hb11⟩
     rw [HQ.out] at hv11 ⊢
     have h_ := Kd.V_reads' hv11
     have n_ := Aside0.mk (HS2.out.below hb11); clear HS2; have HS2 := n_; clear n_
     have n_ := Aside0.mk (show _ ∧ _ from ⟨Kd.C_below HC10.out.1 hb11, HC10.out.2⟩); clear HC10; have HC10 := n_; clear n_
     have n_ := Aside0.mk (blk_below HBX.out hb11); clear HBX; have HBX := n_; clear n_
     have HC11 := Aside0.mk (show k31.C wb11 A11 (q).f1.length (q).f1 ∧ (q).f1.length ≤ c11 from ⟨h_.2.2, h_.2.1⟩)
     clear h_ hv11 hb11 y70 y71
     have hz_ := below_alloc (Below.refl wb11.heap.size wb11) (.cells #[.int .i64 (q).f0, .slice A11 (q).f1.length c11] 26)
     have HY11 := Aside0.mk (heap_alloc_new wb11 (.cells #[.int .i64 (q).f0, .slice A11 (q).f1.length c11] 26))
     have n_ := Aside0.mk (HS2.out.below hz_); clear HS2; have HS2 := n_; clear n_
     have n_ := Aside0.mk (show _ ∧ _ from ⟨Kd.C_below HC10.out.1 hz_, HC10.out.2⟩); clear HC10; have HC10 := n_; clear n_
     have n_ := Aside0.mk (show _ ∧ _ from ⟨Kd.C_below HC11.out.1 hz_, HC11.out.2⟩); clear HC11; have HC11 := n_; clear n_
     have n_ := Aside0.mk (blk_below HBX.out hz_); clear HBX; have HBX := n_; clear n_
     clear hz_
     obtain ⟨y70, y71, _, _⟩ := HS2.out.sees
     go_wp2_with fail
     refine (shrink_gen x A3 c3 _ (askS4) HS2.out.row HC3.out (by have := HXL.out; omega) trivial).mono ?_
     rintro y wb12 ⟨A12, c12, rfl, hv12, hb12⟩
     rw [show mkB (x.f1.filter fun e => !(fun (_ : Int) => false) e.f1) = x from HN.out] at hv12 ⊢
     have h_ := Kd.V_reads' hv12
     have n_ := Aside0.mk (HS2.out.below hb12); clear HS2; have HS2 := n_; clear n_
     have n_ := Aside0.mk (show _ ∧ _ from ⟨Kd.C_below HC10.out.1 hb12, HC10.out.2⟩); clear HC10; have HC10 := n_; clear n_
     have n_ := Aside0.mk (show _ ∧ _ from ⟨Kd.C_below HC11.out.1 hb12, HC11.out.2⟩); clear HC11; have HC11 := n_; clear n_
     have n_ := Aside0.mk (blk_below HBX.out hb12); clear HBX; have HBX := n_; clear n_
     have n_ := Aside0.mk (blk_below HY11.out hb12); clear HY11; have HY11 := n_; clear n_
     have HC12 := Aside0.mk (show k31.C wb12 A12 (x).f1.length (x).f1 ∧ (x).f1.length ≤ c12 from ⟨h_.2.2, h_.2.1⟩)
     clear h_ hv12 hb12 y70 y71
     have hz_ := below_alloc (Below.refl wb12.heap.size wb12) (.cells #[.int .i64 (x).f0, .slice A12 (x).f1.length c12] 26)
     have HY12 := Aside0.mk (heap_alloc_new wb12 (.cells #[.int .i64 (x).f0, .slice A12 (x).f1.length c12] 26))
     have n_ := Aside0.mk (HS2.out.below hz_); clear HS2; have HS2 := n_; clear n_
     have n_ := Aside0.mk (show _ ∧ _ from ⟨Kd.C_below HC10.out.1 hz_, HC10.out.2⟩); clear HC10; have HC10 := n_; clear n_
     have n_ := Aside0.mk (show _ ∧ _ from ⟨Kd.C_below HC11.out.1 hz_, HC11.out.2⟩); clear HC11; have HC11 := n_; clear n_
     have n_ := Aside0.mk (show _ ∧ _ from ⟨Kd.C_below HC12.out.1 hz_, HC12.out.2⟩); clear HC12; have HC12 := n_; clear n_
     have n_ := Aside0.mk (blk_below HBX.out hz_); clear HBX; have HBX := n_; clear n_
     have n_ := Aside0.mk (blk_below HY11.out hz_); clear HY11; have HY11 := n_; clear n_
     clear hz_
     obtain ⟨y70, y71, _, _⟩ := HS2.out.sees
     go_wp2_with fail
     refine (shrink_gen x A3 c3 _ (askS5) HS2.out.row HC3.out (by have := HXL.out; omega) trivial).mono ?_
     rintro y wb13 ⟨A13, c13, rfl, hv13, hb13⟩
     rw [show mkB (x.f1.filter fun e => !(fun (_ : Int) => true) e.f1) = ⟨0, []⟩ from HA.out] at hv13 ⊢
     have h_ := Kd.V_reads' hv13
     have n_ := Aside0.mk (HS2.out.below hb13); clear HS2; have HS2 := n_; clear n_
     have n_ := Aside0.mk (show _ ∧ _ from ⟨Kd.C_below HC10.out.1 hb13, HC10.out.2⟩); clear HC10; have HC10 := n_; clear n_
     have n_ := Aside0.mk (show _ ∧ _ from ⟨Kd.C_below HC11.out.1 hb13, HC11.out.2⟩); clear HC11; have HC11 := n_; clear n_
     have n_ := Aside0.mk (show _ ∧ _ from ⟨Kd.C_below HC12.out.1 hb13, HC12.out.2⟩); clear HC12; have HC12 := n_; clear n_
     have n_ := Aside0.mk (blk_below HBX.out hb13); clear HBX; have HBX := n_; clear n_
     have n_ := Aside0.mk (blk_below HY11.out hb13); clear HY11; have HY11 := n_; clear n_
     have n_ := Aside0.mk (blk_below HY12.out hb13); clear HY12; have HY12 := n_; clear n_
     clear h_ hv13 hb13 y70 y71
     have hz_ := below_alloc (Below.refl wb13.heap.size wb13) (.cells #[.int .i64 0, .slice A13 0 c13] 26)
     have HY13 := Aside0.mk (heap_alloc_new wb13 (.cells #[.int .i64 0, .slice A13 0 c13] 26))
     have n_ := Aside0.mk (HS2.out.below hz_); clear HS2; have HS2 := n_; clear n_
     have n_ := Aside0.mk (show _ ∧ _ from ⟨Kd.C_below HC10.out.1 hz_, HC10.out.2⟩); clear HC10; have HC10 := n_; clear n_
     have n_ := Aside0.mk (show _ ∧ _ from ⟨Kd.C_below HC11.out.1 hz_, HC11.out.2⟩); clear HC11; have HC11 := n_; clear n_
     have n_ := Aside0.mk (show _ ∧ _ from ⟨Kd.C_below HC12.out.1 hz_, HC12.out.2⟩); clear HC12; have HC12 := n_; clear n_
     have n_ := Aside0.mk (blk_below HBX.out hz_); clear HBX; have HBX := n_; clear n_
     have n_ := Aside0.mk (blk_below HY11.out hz_); clear HY11; have HY11 := n_; clear n_
     have n_ := Aside0.mk (blk_below HY12.out hz_); clear HY12; have HY12 := n_; clear n_
     clear hz_
     obtain ⟨y70, y71, _, _⟩ := HS2.out.sees
     have x100 := (blk_cell HBX.out 0).trans rfl
     have x101 := (blk_cell HBX.out 1).trans rfl
     have x110 := (blk_cell HY11.out 0).trans rfl
     have x111 := (blk_cell HY11.out 1).trans rfl
     have x120 := (blk_cell HY12.out 0).trans rfl
     have x121 := (blk_cell HY12.out 1).trans rfl
     have x130 := (blk_cell HY13.out 0).trans rfl
     have x131 := (blk_cell HY13.out 1).trans rfl
     go_wp2_with fail
     refine (vergerref5_Same.calls 1000 _ _ q.f1 _ _ q.f1 true _ HC10.out.1 HC10.out.2 HC11.out.1 HC11.out.2 (same_told 1000 q.f1 (by have := HPL.out; omega) (by have := HPL.out; omega))).mono ?_
     rintro y wc ⟨rfl, ⟨nd, rfl⟩⟩
     have hd_ := pw_below_drewN (Below.refl (wb13.alloc (.cells #[.int .i64 0, .slice A13 0 c13] 26)).heap.size (wb13.alloc (.cells #[.int .i64 0, .slice A13 0 c13] 26))) nd
     have HR3 := Aside0.mk (Kd.C_below HS2.out.row hd_)
     have HR12 := Aside0.mk (Kd.C_below HC12.out.1 hd_)
     have HE := Aside0.mk HS2.out.bel
     clear hd_
     go_wp2_with fail
     refine (vergerref5_Same.calls 1000 _ _ x.f1 _ _ x.f1 true _ HR12.out HC12.out.2 HR3.out HC3.out (same_told 1000 x.f1 (by have := HXL.out; omega) (by have := HXL.out; omega))).mono ?_
     rintro y wd ⟨rfl, ⟨nd2, rfl⟩⟩
     go_wp2_with fail
     refine (vergerlaw6_awake.calls 100 true _ (awake6 100 (by omega))).mono ?_
     rintro y we ⟨rfl, hbe⟩
     have HE3 := Aside0.mk (below_step (below_step HE.out (pw_below_drewN (Below.refl _ _) (nd + nd2))) hbe)
     clear hbe
     go_wp2
     go_ret
     exact ⟨by first | rfl | simp, HE3.out⟩
 · have hd : decide ((l.length : Int) ≤ 120) = false := decide_eq_false (by omega)
   refine (vergerlaw6_Few.calls A c l false _ HC0.out hc (by rw [few_told, hd])).mono ?_
   rintro y w2 ⟨rfl, ⟨nd, rfl⟩⟩
   clear hd
   go_wp2_with fail
   refine (vergerlaw6_awake.calls 100 true _ (awake6 100 (by omega))).mono ?_
   rintro y w3 ⟨rfl, hb3⟩
   have HB3 := Aside0.mk (below_then HZ.out HZ.out.size (below_step (pw_below_drewN (Below.refl w1.heap.size w1) nd) hb3))
   clear hb3
   go_wp2
   go_ret
   exact ⟨rfl, HB3.out⟩
end Go.Proofs.Ytccppdmangbdoaa.V
end
section
set_option linter.unusedVariables false
set_option linter.unusedSimpArgs false
namespace Go.Proofs.Ytccppdmangbdoaa.VOpen
open Go.RowKit Go.Proofs.YtccppdmangbdoaaW.PrintWords Go.Deep Go.ChangeShapes Go.WideShapes
structure Fits {α : Type} (P : Program) (t : TypeId) (d : Kd α) (good : α → Prop) : Prop where
  sz : P.cellsOf t = d.sz
  opens : ∀ {H : Type} {enc : TypeId × Value → H} {w : World} {base : Nat} {spare : Nat → Bool} {held : Bool} {fuel : Nat} {cs : List Value} {x : DataW H × List MemPlace},
    DataW.trod enc P w base spare held fuel t cs = some x → ∃ a, d.K w a cs ∧ good a
theorem fits_int {P : Program} {t : TypeId} {k : IntKind} (ht : P.underlying t = some (.int k)) (hc : P.cellsOf t = 1) : Fits P t (Kd.int k) (fun n => (Lit.int k n).wf = true) where
 sz := hc
 opens := fun h => by
  obtain ⟨n, rfl, _, hw⟩ := DataW.trod_int ht h
  exact ⟨n, rfl, hw⟩
theorem fits_iso {α β : Type} {P : Program} {t : TypeId} {d : Kd α} {good : α → Prop} (f : β → α) (g : α → β) (hfg : ∀ a, f (g a) = a) (h : Fits P t d good) : Fits P t (Kd.iso d f) (fun b => good (f b)) where
 sz := h.sz
 opens := fun hx => by
  obtain ⟨a, hk, hg⟩ := h.opens hx
  exact ⟨g a, by show d.K _ (f (g a)) _; rw [hfg]; exact hk, by rw [hfg]; exact hg⟩
structure FitsRow {α : Type} (P : Program) (fs : List Field) (o : Nat) (d : Kd α) (good : α → Prop) : Prop where
  opens : ∀ {H : Type} {enc : TypeId × Value → H} {w : World} {base : Nat} {spare : Nat → Bool} {held : Bool} {n : Nat} {cs : List Value} {xs : List (DataW H × List MemPlace)},
    cs.length = d.sz → xs.length = fs.length →
    (∀ (i : Nat) (f : Field), fs[i]? = some f → DataW.trod enc P w base spare held n f.type ((cs.drop (f.offset - o)).take (P.cellsOf f.type)) = xs[i]?) → (∀ (i : Nat) (f : Field), fs[i]? = some f → o ≤ f.offset) → ∃ a, d.K w a cs ∧ good a
theorem fitsRow_one {α : Type} {P : Program} {f : Field} {o : Nat} {d : Kd α} {good : α → Prop} (ho : f.offset = o) (h : Fits P f.type d good) : FitsRow P [f] o d good where
 opens := fun {H enc w base spare held n cs xs} hl hx hf _ => by
  match xs, hx with
  | [x], _ =>
   have := hf 0 f rfl
   rw [ho, Nat.sub_self, List.drop_zero, h.sz, List.take_of_length_le (Nat.le_of_eq hl)] at this
   exact h.opens this
theorem fitsRow_cons {α β : Type} {P : Program} {f : Field} {fs : List Field} {o : Nat} {a : Kd α} {b : Kd β} {ga : α → Prop} {gb : β → Prop} (ho : f.offset = o) (hos : ∀ (i : Nat) (f' : Field), fs[i]? = some f' → o + a.sz ≤ f'.offset)
 (h : Fits P f.type a ga) (hs : FitsRow P fs (o + a.sz) b gb) : FitsRow P (f :: fs) o (Kd.pair a b) (fun p => ga p.1 ∧ gb p.2) where
 opens := fun {H enc w base spare held n cs xs} hl hx hf _ => by
  match xs, hx with
  | x :: xs, hx =>
   have hl' : cs.length = a.sz + b.sz := hl
   have h0 := hf 0 f rfl
   rw [ho, Nat.sub_self, List.drop_zero, h.sz] at h0
   obtain ⟨u, hu, gu⟩ := h.opens h0
   obtain ⟨v, hv, gv⟩ := hs.opens (cs := cs.drop a.sz) (xs := xs) (by rw [List.length_drop]; omega) (by simpa using hx) (fun i f' hi => by
    have h1 := hf (i + 1) f' hi
    have h2 := hos i f' hi
    rw [List.drop_drop, show a.sz + (f'.offset - (o + a.sz)) = f'.offset - o from by omega]
    exact h1) hos
   exact ⟨(u, v), ⟨cs.take a.sz, cs.drop a.sz, (List.take_append_drop _ _).symm, hu, hv⟩, gu, gv⟩
theorem fits_struct {α : Type} {P : Program} {t : TypeId} {fs : Array Field} {d : Kd α} {good : α → Prop} (ht : P.underlying t = some (.struct fs)) (hc : P.cellsOf t = d.sz) (h : FitsRow P fs.toList 0 d good) : Fits P t d good where
 sz := hc
 opens := fun hx => by
  obtain ⟨xs, n, _, _, hl, hxl, hf⟩ := DataW.trod_struct ht hx
  exact h.opens (xs := xs) (n := n) (by rw [hl, hc]) (by rw [hxl]; simp) (fun i f hi => by
   have := hf i f (by simpa using hi)
   rw [Nat.sub_zero]
   exact this) (fun _ _ _ => Nat.zero_le _)
theorem filter_all {α : Type} (f : Nat → Option α) : ∀ (len : Nat), (∀ i, i < len → ∃ u, f i = some u) → ((List.range len).filterMap f).length = len ∧ ∀ i, i < len → ((List.range len).filterMap f)[i]? = f i := by
 intro len
 induction len with
 | zero => simp
 | succ k ih =>
  intro hf
  obtain ⟨h1, h2⟩ := ih (fun i hi => hf i (by omega))
  obtain ⟨u, hu⟩ := hf k (by omega)
  rw [List.range_succ, List.filterMap_append]
  simp only [List.filterMap_cons, hu, List.filterMap_nil]
  refine ⟨by simp [h1], fun i hi => ?_⟩
  by_cases hik : i < k
  · rw [List.getElem?_append_left (by omega)]
    exact h2 i hik
  · have : i = k := by omega
    subst this
    rw [List.getElem?_append_right (by omega), h1, hu]
    simp
theorem fits_slice {α : Type} {P : Program} {t e : TypeId} {d : Kd α} {good : α → Prop} (ht : P.underlying t = some (.slice e)) (hc : P.cellsOf t = 1) (h : Fits P e d good) : Fits P t (Kd.slice e d) (fun l => ∀ x ∈ l, good x) where
 sz := hc
 opens := fun {H enc w base spare held fuel cs x} hx => by
  rcases open_slice ht hx with ⟨rfl, _⟩ | ⟨a, len, cap, m, n, D, Pl, rfl, _, hl, hm, hmm, _, hcell⟩
  · exact ⟨[], ⟨none, 0, rfl, Nat.le_refl _, rfl, by simp, fun h0 => absurd h0 (by simp)⟩, by simp⟩
  · have hlm : len ≤ m := by rw [hmm]; split <;> omega
    have each : ∀ i, i < len → ∃ u : α, (∃ c, c.length = d.sz ∧ d.K w u c ∧ ∀ j v, c[j]? = some v → w.cell? (a.add (i * d.sz + j)) = some v) ∧ good u := by
     intro i hi
     obtain ⟨c, h1, h2⟩ := hcell i (by omega)
     rw [h.sz] at h1
     obtain ⟨_, h3, h4⟩ := World.cells?_some h1
     obtain ⟨u, hu, gu⟩ := h.opens h2
     refine ⟨u, ⟨c, h3, hu, fun j v hj => ?_⟩, gu⟩
     have hjl : j < d.sz := by have := (List.getElem?_eq_some_iff.1 hj).1; omega
     have := h4 j hjl
     rw [Addr.add_add] at this
     rw [this, hj]
    have hex : ∃ f : Nat → Option α, ∀ i, i < len → ∃ u, f i = some u ∧ (∃ c, c.length = d.sz ∧ d.K w u c ∧ ∀ j v, c[j]? = some v → w.cell? (a.add (i * d.sz + j)) = some v) ∧ good u := by
     classical
     refine ⟨fun i => if hi : i < len then some (Classical.choose (each i hi)) else none, fun i hi => ⟨Classical.choose (each i hi), by simp [hi], Classical.choose_spec (each i hi)⟩⟩
    obtain ⟨f, hf⟩ := hex
    have hlen := filter_all f len (fun i hi => (hf i hi).imp fun _ h => h.1)
    refine ⟨(List.range len).filterMap f, ⟨some a, cap, by rw [hlen.1], by rw [hlen.1]; exact hl, rfl, by rw [hlen.1]; unfold maxLen at hm; omega, fun _ => ⟨a, rfl, fun j p hj => ?_⟩⟩, fun x hx => ?_⟩
    · have hjl : j < len := by have := (List.getElem?_eq_some_iff.1 hj).1; rw [hlen.1] at this; exact this
      obtain ⟨u, hu, hc, _⟩ := hf j hjl
      rw [hlen.2 j hjl, hu] at hj
      injection hj with hj
      subst hj
      exact hc
    · obtain ⟨j, hj⟩ := List.mem_iff_getElem?.1 hx
      have hjl : j < len := by have := (List.getElem?_eq_some_iff.1 hj).1; rw [hlen.1] at this; exact this
      obtain ⟨u, hu, _, gu⟩ := hf j hjl
      rw [hlen.2 j hjl, hu] at hj
      injection hj with hj
      subst hj
      exact gu
theorem slice_arg {α : Type} {P : Program} {t e : TypeId} {d : Kd α} {good : List α → Prop} (h : Fits P t (Kd.slice e d) good) {H : Type} {enc : TypeId × Value → H} {w : World} {base : Nat} {spare : Nat → Bool} {held : Bool} {fuel : Nat} {v : Value}
 {x : DataW H × List MemPlace} {A : Option Addr} {len cap : Nat} (hv : v = .slice A len cap) (hx : DataW.trod enc P w base spare held fuel t v.cells.toList = some x) : ∃ l : List α, len = l.length ∧ l.length ≤ cap ∧ d.C w A l.length l ∧ good l := by
 subst hv
 obtain ⟨l, ⟨A', c', hcs, hl, hC⟩, hg⟩ := h.opens hx
 simp only [Value.cells, List.cons.injEq, and_true, Value.slice.injEq] at hcs
 obtain ⟨rfl, rfl, rfl⟩ := hcs
 exact ⟨l, rfl, hl, hC, hg⟩
theorem slice_bound {P : Program} {t e : TypeId} (ht : P.underlying t = some (.slice e)) {H : Type} {enc : TypeId × Value → H} {w : World} {base : Nat} {spare : Nat → Bool} {held : Bool} {fuel : Nat}
 {x : DataW H × List MemPlace} {A : Option Addr} {len cap : Nat} (hx : DataW.trod enc P w base spare held fuel t (Value.slice A len cap).cells.toList = some x)
 {ts : List TypeId} {ds : List (DataW H)} (hs : (DataW.weightsEach P ts ds).all (· ≤ reachBytes) = true) {j : Nat} (h1 : ts[j]? = some t) (h2 : ds[j]? = some x.1) {b : Nat} (hb : P.bytesOf e = b) : len * b ≤ 140737488351232 := by
 rcases DataW.trod_slice ht hx with ⟨hc, rfl⟩ | ⟨a, len', cap', elems, rest, n, _, hc, rfl, _, _, _, hl, _⟩
 · simp only [Value.cells, List.cons.injEq, and_true, Value.slice.injEq] at hc
   obtain ⟨rfl, rfl, rfl⟩ := hc
   omega
 · simp only [Value.cells, List.cons.injEq, and_true, Value.slice.injEq] at hc
   obtain ⟨rfl, rfl, rfl⟩ := hc
   have := sized_slice hs h1 h2 ht
   rw [hb, List.length_map, hl] at this
   refine Nat.le_trans (Nat.mul_le_mul_right b (Nat.le_add_right len _)) this
end Go.Proofs.Ytccppdmangbdoaa.VOpen
end
section
set_option linter.unusedVariables false
set_option linter.unusedSimpArgs false
namespace Go.Proofs.Ytccppdmangbdoaa.V
open Go.RowKit Go.Proofs.YtccppdmangbdoaaW.PrintWords Go.Proofs.YtccppdmangbdoaaW.PrintLast Go.Proofs.YtccppdmangbdoaaW.PrintMore
def vergerlaw6_BlockShrinks.f (l0 : List E) (a1 : Int) (a2 : Int) : Option Bool := some true
theorem vergerlaw6_BlockShrinks.calls (A0 : Option Addr) (c0 : Nat) (l0 : List E) (a1 : Int) (a2 : Int) (r : Bool) (w : World) (hr0 : Kd.C k31 w A0 l0.length l0) (hc0 : l0.length ≤ c0) (h : vergerlaw6_BlockShrinks.f l0 a1 a2 = some r) :
 Calls Try.prog 5 #[.slice A0 l0.length c0, .int .i64 a1, .int .i64 a2] w fun e w' => e = .returned (.bool r) ∧ Below w.heap.size w w' := by
 obtain rfl := Option.some.inj h
 exact blockShrinks_walk A0 c0 l0 a1 a2 w hr0 hc0
theorem BlockShrinks_pure (l0 : List E) (a1 : Int) (a2 : Int) {P0 P1 P2 P3 : Prop} (_ : P0) (_ : P1) (_ : P2) (_ : P3) : vergerlaw6_BlockShrinks.f l0 a1 a2 = some true := rfl
end Go.Proofs.Ytccppdmangbdoaa.V
end
