-- a text of this work, without what this claim doesn't use (wip/shake.py)
import Derived.Test.YthghkglkifeagaaGreatKVLsm6
import Derived.Test.YthghkglkifeagaaGreatKVPslicesZb
import Derived.Shelf.Spec.SlicesInsert
import Derived.Deep.RegionWith
import Derived.IntWalk
section
set_option linter.unusedVariables false
set_option linter.unusedSimpArgs false
namespace Go.Proofs.YthghkglkifeagaaGreat.V
open Go.RowKit Go.Proofs.YthghkglkifeagaaGreatW.PrintWords Go.Proofs.YthghkglkifeagaaGreatW.PrintLast Go.Proofs.YthghkglkifeagaaGreatW.PrintMore
set_option maxRecDepth 100000 in
set_option maxHeartbeats 4000000 in
theorem bins_Lm2 (base g n cap : Nat) (ok : Nat → Prop) (bs : List Bk) (w : World) (hN : Kd.N k109 109 w base ok (.slice (some ⟨g, 0, none⟩) n cap) bs) (hs : ∀ b ∈ bs, Sound b) (hn : bs.length ≤ 1000) :
 Calls Tryz.prog 126 #[.slice (some ⟨g, 0, none⟩) n cap, .int .i64 0, .int .i64 (n : Int), .func (.func 97) #[] #[]] w fun e w' => e = .returned (.tuple #[]) ∧ Kd.N k109 109 w' base ok (.slice (some ⟨g, 0, none⟩) n cap) (isort bs) ∧ w.grownBy w' (some g) := by
 have hnl := (Kd.N_reads' hN).1
 have HNL := Aside0.mk hnl
 have hn1 : n ≤ 1000 := by omega
 have HS := Aside0.mk (show ∀ b ∈ bs, 0 ≤ b.f0 ∧ b.f0 ≤ 62 from fun b hb => sound_lv (hs b hb))
 have HN := Aside0.mk hN
 clear hN hs hnl hn
 go_enter Tryz.func126, Tryz.ntmps126
 go_wp2
 go_loopw [8] (fun i wr => ∃ m : Nat, 1 ≤ m ∧ (m ≤ n ∨ m = 1) ∧ i = .int .i64 m ∧ Aside0 (Kd.N k109 109 wr base ok (.slice (some ⟨g, 0, none⟩) n cap) (isort (bs.take m) ++ bs.drop m)) ∧ Aside0 (w.grownBy wr (some g))) (fun i _ => n + 1 - (intOf i).toNat)
 case atStart =>
  refine ⟨1, Nat.le_refl _, .inr rfl, rfl, ⟨?_⟩, ⟨grown_of_below (Below.refl _ _) _⟩⟩
  have : isort (bs.take 1) = bs.take 1 := by cases bs <;> rfl
  rw [this, List.take_append_drop]
  exact HN.out
 case round =>
  obtain ⟨m, hm1, hm, rfl, HR, HG⟩ := hrel
  by_cases hlt : m < n
  · obtain ⟨y, hy⟩ : ∃ y, bs[m]? = some y := ⟨_, List.getElem?_eq_getElem (by have := HNL.out; omega)⟩
    have HY := Aside0.mk hy
    have HPL := Aside0.mk (show (isort (bs.take m)).length = m by rw [isort_length, List.length_take]; have := HNL.out; omega)
    have HPS := Aside0.mk (show ∀ b ∈ isort (bs.take m), 0 ≤ b.f0 ∧ b.f0 ≤ 62 from fun b hb => HS.out b (List.mem_of_mem_take ((isort_perm _).mem_iff.1 hb)))
    have HYS := Aside0.mk (HS.out y (List.mem_of_getElem? hy))
    have HD := Aside0.mk (show bs.drop m = y :: bs.drop (m + 1) by obtain ⟨h1, rfl⟩ := List.getElem?_eq_some_iff.1 hy; exact List.drop_eq_getElem_cons h1)
    have HT := Aside0.mk (show isort (bs.take (m + 1)) = sink (isort (bs.take m)) y by obtain ⟨h1, rfl⟩ := List.getElem?_eq_some_iff.1 hy; exact isort_take h1)
    clear hy
    generalize isort (bs.take m) = P at HR HPL HPS HT
    go_wp2_with fail
    go_loopw [9] (fun j wr2 => ∃ q : Nat, q ≤ m ∧ j = .int .i64 q ∧ Aside0 (Kd.N k109 109 wr2 base ok (.slice (some ⟨g, 0, none⟩) n cap) (P.take q ++ y :: P.drop q ++ bs.drop (m + 1))) ∧ Aside0 (∀ p ∈ P.drop q, p.f0 < y.f0) ∧ Aside0 (w.grownBy wr2 (some g))) (fun j _ => (intOf j).toNat)
    case atStart =>
     refine ⟨m, Nat.le_refl _, rfl, ⟨?_⟩, ⟨?_⟩, HG⟩
     · have h1 : P.take m = P := List.take_of_length_le (by have := HPL.out; omega)
       have h2 : P.drop m = [] := List.drop_eq_nil_of_le (by have := HPL.out; omega)
       have := HR.out
       rw [HD.out] at this
       rw [h1, h2]
       simpa using this
     · have h2 : P.drop m = [] := List.drop_eq_nil_of_le (by have := HPL.out; omega)
       rw [h2]; simp
    case round =>
     clear HR HG
     obtain ⟨q, hq, rfl, HR, HA, HG⟩ := hrel
     cases q with
     | zero =>
      have d0 : decide (0 < (0 : Nat)) = false := rfl
      have HSK := Aside0.mk (show sink P y = P.take 0 ++ y :: P.drop 0 from sink_eq (Nat.zero_le _) HA.out (fun p h0 => absurd h0 (by omega)))
      have HR3 : Aside0 (Kd.N k109 109 wr base ok (.slice (some ⟨g, 0, none⟩) n cap) (isort (bs.take (m + 1)) ++ bs.drop (m + 1))) := ⟨by rw [HT.out, HSK.out]; exact HR.out⟩
      clear HSK HA HR
      go_wp2
      go_quiet (fail)
      go_wp2
      go_roundw
      case rel => exact ⟨m + 1, by omega, by omega, by go_num, ⟨Kd.N_drewN HR3.out _⟩, ⟨⟨HG.out.os, HG.out.tape, HG.out.output, HG.out.size, HG.out.block⟩⟩⟩
      case measure => simp [intOf]; omega
     | succ q =>
      have hqP : q < P.length := by have := HPL.out; omega
      obtain ⟨x, hx⟩ : ∃ x, P[q]? = some x := ⟨_, List.getElem?_eq_getElem hqP⟩
      have hxe : P[q] = x := (List.getElem?_eq_some_iff.1 hx).2
      have HX := Aside0.mk hx
      have hxs := HPS.out x (List.mem_of_getElem? hx)
      obtain ⟨c1, c2⟩ := cur_at (y := y) (bs.drop (m + 1)) hqP
      rw [hxe] at c1
      obtain ⟨A1, k1, x0, x1, hxl, hxK, xf⟩ := bk_elem HR.out c1
      obtain ⟨A2, k2, y0, y1, hyl, hyK, yf⟩ := bk_elem HR.out c2
      have HXK := Aside0.mk hxK
      have HYK := Aside0.mk hyK
      have HLn := Aside0.mk (show q < (P.take (q + 1) ++ y :: P.drop (q + 1) ++ bs.drop (m + 1)).length ∧ q + 1 < (P.take (q + 1) ++ y :: P.drop (q + 1) ++ bs.drop (m + 1)).length from ⟨(List.getElem?_eq_some_iff.1 c1).1, (List.getElem?_eq_some_iff.1 c2).1⟩)
      have xf0 : wr.frozen? ⟨g, q * 2, none⟩ = false := xf 0
      have xf1 := xf 1
      have yf0 : wr.frozen? ⟨g, (q + 1) * 2, none⟩ = false := yf 0
      have yf1 := yf 1
      have hys := HYS.out
      have HGL := Aside0.mk (show g < wr.heap.size from Kd.N_lt HR.out g rfl)
      have d0 : decide (0 < q + 1) = true := decide_eq_true (by omega)
      have hq1 : q < n := by omega
      have hq2 : q + 1 < n := by omega
      have hq3 : (q : Int) < (n : Int) := by omega
      have hq4 : (q : Int) + 1 < (n : Int) := by omega
      have HXS := Aside0.mk hxs
      clear hx hxe c1 c2 xf yf hxK hyK hxl hyl hqP
      have s3 : IntKind.i64.wrap (q : Int) = (q : Int) := IntWalk.i64_in _ (by omega)
      have s4 : (0 : Int) ≤ (q : Int) := by omega
      have s5 : (0 : Int) ≤ (q : Int) + 1 := by omega
      have s6 : ((q : Int) + 1).toNat = q + 1 := by omega
      by_cases hc : x.f0 < y.f0
      · have dc : decide (x.f0 - y.f0 < 0) = true := decide_eq_true (by omega)
        have dc2 : decide (x.f0 < y.f0) = true := decide_eq_true hc
        have HC := Aside0.mk hc
        clear hxs hys hc
        go_wp2
        go_region_held3 (fun W => W.cell? ⟨g, q * 2, none⟩ = some (.int .i64 x.f0) ∧ W.cell? ⟨g, q * 2 + 1, none⟩ = some (.slice A1 x.f1.length k1) ∧ W.cell? ⟨g, (q + 1) * 2, none⟩ = some (.int .i64 y.f0) ∧ W.cell? ⟨g, (q + 1) * 2 + 1, none⟩ = some (.slice A2 y.f1.length k2) ∧ Aside0 (Below wr.heap.size wr W)) (first | exact ⟨x0, x1, y0, y1, ⟨below_drew (Below.refl _ _)⟩⟩ | exact ⟨z0, z1, z2, z3, HB1⟩)
         (first | (go_at_call 97; go_loud (refine (cmp_Lm2 y.f0 x.f0 _ _ _ _ _ _ _ HYS.out HXS.out).mono ?_; rintro e w1 ⟨rfl, hb1⟩; have HB1 := Aside0.mk (below_step (below_drew (Below.refl wr.heap.size wr)) hb1); have z0 := pw_cell_below HB1.out x0; have z1 := pw_cell_below HB1.out x1; have z2 := pw_cell_below HB1.out y0; have z3 := pw_cell_below HB1.out y1; clear hb1)))
        have f0 := froz_below HB1.out HGL.out xf0
        have f1 := froz_below HB1.out HGL.out xf1
        have f2 := froz_below HB1.out HGL.out yf0
        have f3 := froz_below HB1.out HGL.out yf1
        have HN1 := Aside0.mk (Kd.N_below HR.out HB1.out)
        have HXK1 := Aside0.mk (Kd.FK_below HXK.out HB1.out)
        have HYK1 := Aside0.mk (Kd.FK_below HYK.out HB1.out)
        have HG1 := Aside0.mk (grown_step HG.out HB1.out)
        clear x0 x1 y0 y1 xf0 xf1 yf0 yf1
        go_wp2
        go_region
        go_wp2
        have HN2 : Aside0 (Kd.N k109 109 ((((w1.setCell ⟨g, (q + 1) * 2, none⟩ (.int .i64 x.f0)).setCell ⟨g, (q + 1) * 2 + 1, none⟩ (.slice A1 x.f1.length k1)).setCell ⟨g, q * 2, none⟩ (.int .i64 y.f0)).setCell ⟨g, q * 2 + 1, none⟩ (.slice A2 y.f1.length k2)).drew base ok (.slice (some ⟨g, 0, none⟩) n cap) (P.take q ++ y :: P.drop q ++ bs.drop (m + 1))) := ⟨by
         have h1 := bk_set (bk_set HN1.out HLn.out.2 HXK1.out) (by rw [List.length_set]; exact HLn.out.1) (fk_set2 HYK1.out)
         rw [swap_cur _ HX.out] at h1
         exact Kd.N_drew h1⟩
        have HA2 : Aside0 (∀ p ∈ P.drop q, p.f0 < y.f0) := ⟨by
         obtain ⟨h1, h2⟩ := List.getElem?_eq_some_iff.1 HX.out
         rw [List.drop_eq_getElem_cons h1, h2]
         intro p hp
         rcases List.mem_cons.1 hp with rfl | hp
         · exact HC.out
         · exact HA.out p hp⟩
        have HG2 : Aside0 (w.grownBy ((((w1.setCell ⟨g, (q + 1) * 2, none⟩ (.int .i64 x.f0)).setCell ⟨g, (q + 1) * 2 + 1, none⟩ (.slice A1 x.f1.length k1)).setCell ⟨g, q * 2, none⟩ (.int .i64 y.f0)).setCell ⟨g, q * 2 + 1, none⟩ (.slice A2 y.f1.length k2)).drew (some g)) := ⟨by
         have h1 := set2_grown (j1 := (q + 1) * 2) (j2 := (q + 1) * 2 + 1) (u1 := .int .i64 x.f0) (u2 := .slice A1 x.f1.length k1) HG1.out
         have h2 := set2_grown (j1 := q * 2) (j2 := q * 2 + 1) (u1 := .int .i64 y.f0) (u2 := .slice A2 y.f1.length k2) h1
         exact ⟨h2.os, h2.tape, h2.output, h2.size, h2.block⟩⟩
        go_roundw
        case rel => exact ⟨q, by omega, by go_num, HN2, HA2, HG2⟩
        case measure => simp [intOf]
      · have dc : decide (x.f0 - y.f0 < 0) = false := decide_eq_false (by omega)
        have dc2 : decide (x.f0 < y.f0) = false := decide_eq_false hc
        have HSK := Aside0.mk (show sink P y = P.take (q + 1) ++ y :: P.drop (q + 1) from sink_eq (by have := HPL.out; omega) HA.out (fun p h0 hp => by
         rw [Nat.add_sub_cancel, HX.out] at hp
         injection hp with hp
         subst hp
         exact hc))
        have HR3 : Aside0 (Kd.N k109 109 wr base ok (.slice (some ⟨g, 0, none⟩) n cap) (isort (bs.take (m + 1)) ++ bs.drop (m + 1))) := ⟨by rw [HT.out, HSK.out]; exact HR.out⟩
        clear hxs hys hc HSK
        go_wp2
        go_region_held3 (fun W => W.cell? ⟨g, q * 2, none⟩ = some (.int .i64 x.f0) ∧ W.cell? ⟨g, q * 2 + 1, none⟩ = some (.slice A1 x.f1.length k1) ∧ W.cell? ⟨g, (q + 1) * 2, none⟩ = some (.int .i64 y.f0) ∧ W.cell? ⟨g, (q + 1) * 2 + 1, none⟩ = some (.slice A2 y.f1.length k2) ∧ Aside0 (Below wr.heap.size wr W)) (first | exact ⟨x0, x1, y0, y1, ⟨below_drew (Below.refl _ _)⟩⟩ | exact ⟨z0, z1, z2, z3, HB1⟩)
         (first | (go_at_call 97; go_loud (refine (cmp_Lm2 y.f0 x.f0 _ _ _ _ _ _ _ HYS.out HXS.out).mono ?_; rintro e w1 ⟨rfl, hb1⟩; have HB1 := Aside0.mk (below_step (below_drew (Below.refl wr.heap.size wr)) hb1); have z0 := pw_cell_below HB1.out x0; have z1 := pw_cell_below HB1.out x1; have z2 := pw_cell_below HB1.out y0; have z3 := pw_cell_below HB1.out y1; clear hb1)))
        have HN1 := Aside0.mk (Kd.N_below HR3.out HB1.out)
        have HG1 := Aside0.mk (grown_step HG.out HB1.out)
        clear s3 s4 s5 s6
        go_wp2
        go_roundw
        case rel => exact ⟨m + 1, by omega, by omega, by go_num, HN1, HG1⟩
        case measure => simp [intOf]; omega
  · have hmn : ¬ m < n := hlt
    have HE : Aside0 (Kd.N k109 109 wr base ok (.slice (some ⟨g, 0, none⟩) n cap) (isort bs)) := ⟨by
     have h1 : bs.length ≤ m := by have := HNL.out; omega
     have := HR.out
     rw [List.take_of_length_le h1, List.drop_eq_nil_of_le h1, List.append_nil] at this
     exact this⟩
    clear HR hm
    go_wp2
    exact ⟨rfl, .tuple #[], by simp [results, Tryz.results126, go_sem], rfl, HE.out, HG.out⟩
end Go.Proofs.YthghkglkifeagaaGreat.V
end
section
set_option linter.unusedVariables false
set_option linter.unusedSimpArgs false
namespace Go.Proofs.YthghkglkifeagaaGreat.V
open Go.RowKit Go.Proofs.YthghkglkifeagaaGreatW.PrintWords Go.Proofs.YthghkglkifeagaaGreatW.PrintLast Go.Proofs.YthghkglkifeagaaGreatW.PrintMore
set_option maxRecDepth 100000 in
set_option maxHeartbeats 1000000 in
theorem bins0_Lm1 (A : Option Addr) (c : Nat) (w : World) :
 Calls Tryz.prog 126 #[.slice A 0 c, .int .i64 0, .int .i64 0, .func (.func 95) #[] #[]] w fun e w' => e = .returned (.tuple #[]) ∧ w = w' := by
 go_enter Tryz.func126, Tryz.ntmps126
 go_wp2
 go_loopw [8] (fun i wr => i = .int .i64 1 ∧ w = wr) (fun i _ => (intOf i).toNat)
 case atStart => exact ⟨rfl, rfl⟩
 case round =>
  obtain ⟨rfl, rfl⟩ := hrel
  go_wp2
  exact ⟨rfl, .tuple #[], by simp [results, Tryz.results126, go_sem], rfl, rfl⟩
set_option maxRecDepth 100000 in
set_option maxHeartbeats 1000000 in
theorem bstable_Lm1 (base : Nat) (ok : Nat → Prop) (A : Option Addr) (n c : Nat) (bs : List Bk) (w : World) (hN : Kd.N k109 109 w base ok (.slice A n c) bs) (hs : ∀ b ∈ bs, Sound b) (hn : n ≤ 19) :
 Calls Tryz.prog 116 #[.slice A n c, .int .i64 (n : Int), .func (.func 95) #[] #[]] w fun e w' => e = .returned (.tuple #[]) ∧ Kd.N k109 109 w' base ok (.slice A n c) (isort bs) ∧ w.grownBy w' (Value.slice A n c).ownBlock := by
 have hnl := (Kd.N_reads' hN).1
 have d1 : decide (20 ≤ n) = false := decide_eq_false (by omega)
 have d2 : decide (20 < n) = false := decide_eq_false (by omega)
 have hcall : Calls Tryz.prog 126 #[.slice A n c, .int .i64 0, .int .i64 (n : Int), .func (.func 95) #[] #[]] w fun e w' => e = .returned (.tuple #[]) ∧ Kd.N k109 109 w' base ok (.slice A n c) (isort bs) ∧ w.grownBy w' (Value.slice A n c).ownBlock := by
  by_cases h0 : n = 0
  · subst h0
    obtain rfl : bs = [] := List.length_eq_zero_iff.1 hnl.symm
    refine (bins0_Lm1 A c w).mono ?_
    rintro e w' ⟨rfl, rfl⟩
    exact ⟨rfl, hN, grown_of_below (Below.refl _ _) _⟩
  · obtain ⟨g, cap, hv, _⟩ := Kd.N_form hN (by omega)
    injection hv with e1 e2 e3
    subst e1
    exact bins_Lm1 base g n c ok bs w hN hs (by omega)
 have HCALL := Aside0.mk hcall
 clear hcall hN hs hnl
 go_enter Tryz.func116, Tryz.ntmps116
 go_wp2
 go_loopw [7, 8] (fun a b wr => a = .int .i64 0 ∧ b = .int .i64 20 ∧ w = wr) (fun a _ _ => (intOf a).toNat)
 case atStart => exact ⟨rfl, rfl, rfl⟩
 case round =>
  obtain ⟨rfl, rfl, rfl⟩ := hrel
  go_wp2_with fail
  refine HCALL.out.mono ?_
  rintro e w1 ⟨rfl, hN1, hg1⟩
  have HN1 := Aside0.mk hN1
  have HG1 := Aside0.mk hg1
  clear hN1 hg1
  go_wp2
  go_loopw [6] (fun a wr => a = .int .i64 20 ∧ w1 = wr) (fun a _ => (intOf a).toNat)
  case atStart => exact ⟨rfl, rfl⟩
  case round =>
   obtain ⟨rfl, rfl⟩ := hrel
   go_wp2
   exact ⟨rfl, .tuple #[], by simp [results, Tryz.results116, go_sem], rfl, HN1.out, HG1.out⟩
set_option maxRecDepth 100000 in
set_option maxHeartbeats 1000000 in
theorem bsort_Lm1 (base : Nat) (ok : Nat → Prop) (v : Value) (bs : List Bk) (w : World) (hN : Kd.N k109 109 w base ok v bs) (hs : ∀ b ∈ bs, Sound b) (hn : bs.length ≤ 19) :
 Calls Tryz.prog 94 #[v, .func (.func 95) #[] #[]] w fun e w' => e = .returned (.tuple #[]) ∧ Kd.N k109 109 w' base ok v (isort bs) ∧ w.grownBy w' v.ownBlock := by
 obtain ⟨A, c, rfl⟩ := Kd.N_slice hN
 have HN := Aside0.mk hN
 have HS := Aside0.mk hs
 clear hN hs
 go_enter Tryz.func94, Tryz.ntmps94
 go_wp2_with fail
 refine (bstable_Lm1 base ok A bs.length c bs w HN.out HS.out hn).mono ?_
 rintro e w1 ⟨rfl, hN1, hg1⟩
 have HN1 := Aside0.mk hN1
 have HG1 := Aside0.mk hg1
 clear hN1 hg1
 go_wp2
 exact ⟨rfl, .tuple #[], by simp [results, Tryz.results94, go_sem], rfl, HN1.out, HG1.out⟩
set_option maxRecDepth 100000 in
set_option maxHeartbeats 1000000 in
theorem bins0_Lm2 (A : Option Addr) (c : Nat) (w : World) :
 Calls Tryz.prog 126 #[.slice A 0 c, .int .i64 0, .int .i64 0, .func (.func 97) #[] #[]] w fun e w' => e = .returned (.tuple #[]) ∧ w = w' := by
 go_enter Tryz.func126, Tryz.ntmps126
 go_wp2
 go_loopw [8] (fun i wr => i = .int .i64 1 ∧ w = wr) (fun i _ => (intOf i).toNat)
 case atStart => exact ⟨rfl, rfl⟩
 case round =>
  obtain ⟨rfl, rfl⟩ := hrel
  go_wp2
  exact ⟨rfl, .tuple #[], by simp [results, Tryz.results126, go_sem], rfl, rfl⟩
set_option maxRecDepth 100000 in
set_option maxHeartbeats 1000000 in
theorem bstable_Lm2 (base : Nat) (ok : Nat → Prop) (A : Option Addr) (n c : Nat) (bs : List Bk) (w : World) (hN : Kd.N k109 109 w base ok (.slice A n c) bs) (hs : ∀ b ∈ bs, Sound b) (hn : n ≤ 19) :
 Calls Tryz.prog 116 #[.slice A n c, .int .i64 (n : Int), .func (.func 97) #[] #[]] w fun e w' => e = .returned (.tuple #[]) ∧ Kd.N k109 109 w' base ok (.slice A n c) (isort bs) ∧ w.grownBy w' (Value.slice A n c).ownBlock := by
 have hnl := (Kd.N_reads' hN).1
 have d1 : decide (20 ≤ n) = false := decide_eq_false (by omega)
 have d2 : decide (20 < n) = false := decide_eq_false (by omega)
 have hcall : Calls Tryz.prog 126 #[.slice A n c, .int .i64 0, .int .i64 (n : Int), .func (.func 97) #[] #[]] w fun e w' => e = .returned (.tuple #[]) ∧ Kd.N k109 109 w' base ok (.slice A n c) (isort bs) ∧ w.grownBy w' (Value.slice A n c).ownBlock := by
  by_cases h0 : n = 0
  · subst h0
    obtain rfl : bs = [] := List.length_eq_zero_iff.1 hnl.symm
    refine (bins0_Lm2 A c w).mono ?_
    rintro e w' ⟨rfl, rfl⟩
    exact ⟨rfl, hN, grown_of_below (Below.refl _ _) _⟩
  · obtain ⟨g, cap, hv, _⟩ := Kd.N_form hN (by omega)
    injection hv with e1 e2 e3
    subst e1
    exact bins_Lm2 base g n c ok bs w hN hs (by omega)
 have HCALL := Aside0.mk hcall
 clear hcall hN hs hnl
 go_enter Tryz.func116, Tryz.ntmps116
 go_wp2
 go_loopw [7, 8] (fun a b wr => a = .int .i64 0 ∧ b = .int .i64 20 ∧ w = wr) (fun a _ _ => (intOf a).toNat)
 case atStart => exact ⟨rfl, rfl, rfl⟩
 case round =>
  obtain ⟨rfl, rfl, rfl⟩ := hrel
  go_wp2_with fail
  refine HCALL.out.mono ?_
  rintro e w1 ⟨rfl, hN1, hg1⟩
  have HN1 := Aside0.mk hN1
  have HG1 := Aside0.mk hg1
  clear hN1 hg1
  go_wp2
  go_loopw [6] (fun a wr => a = .int .i64 20 ∧ w1 = wr) (fun a _ => (intOf a).toNat)
  case atStart => exact ⟨rfl, rfl⟩
  case round =>
   obtain ⟨rfl, rfl⟩ := hrel
   go_wp2
   exact ⟨rfl, .tuple #[], by simp [results, Tryz.results116, go_sem], rfl, HN1.out, HG1.out⟩
set_option maxRecDepth 100000 in
set_option maxHeartbeats 1000000 in
theorem bsort_Lm2 (base : Nat) (ok : Nat → Prop) (v : Value) (bs : List Bk) (w : World) (hN : Kd.N k109 109 w base ok v bs) (hs : ∀ b ∈ bs, Sound b) (hn : bs.length ≤ 19) :
 Calls Tryz.prog 94 #[v, .func (.func 97) #[] #[]] w fun e w' => e = .returned (.tuple #[]) ∧ Kd.N k109 109 w' base ok v (isort bs) ∧ w.grownBy w' v.ownBlock := by
 obtain ⟨A, c, rfl⟩ := Kd.N_slice hN
 have HN := Aside0.mk hN
 have HS := Aside0.mk hs
 clear hN hs
 go_enter Tryz.func94, Tryz.ntmps94
 go_wp2_with fail
 refine (bstable_Lm2 base ok A bs.length c bs w HN.out HS.out hn).mono ?_
 rintro e w1 ⟨rfl, hN1, hg1⟩
 have HN1 := Aside0.mk hN1
 have HG1 := Aside0.mk hg1
 clear hN1 hg1
 go_wp2
 exact ⟨rfl, .tuple #[], by simp [results, Tryz.results94, go_sem], rfl, HN1.out, HG1.out⟩
end Go.Proofs.YthghkglkifeagaaGreat.V
end
section
set_option linter.unusedVariables false
set_option linter.unusedSimpArgs false
namespace Go.Proofs.YthghkglkifeagaaGreat.V
open Go.RowKit Go.Proofs.YthghkglkifeagaaGreatW.PrintWords Go.Proofs.YthghkglkifeagaaGreatW.PrintLast Go.Proofs.YthghkglkifeagaaGreatW.PrintMore
section
variable {P : Program} {ops : Array Oper} {rest : List Oper} {o : Oper} {a : Act} {Q : Exit → Act → World → Prop}
theorem wpList_clear_run (w : World) (hgd : o.guard = none) (x : Operand) (t : TypeId) (ho : o.op = .call { callee := .builtin .clear, args := #[x], argTypes := #[t] }) (v : Value) (hx : a.eval x = v) {v' : Value} {w' : World}
 (hr : (Builtin.clear_ #[t] o.type #[v]).run P w = .ok v' w') (h : wpList P ops Q rest (a.put o.dst v') w') : wpList P ops Q (o :: rest) a w :=
 wpList_plain hgd fun K hK => by
  unfold Oper.wp
  simp [execOp, ho, resolve, invoke, builtin, hx, hr, Result.andThen]
  exact hK _ _ h
theorem wpList_append_run (w : World) (hgd : o.guard = none) (s x : Operand) (t : TypeId) (ho : o.op = .call { callee := .builtin .append, args := #[s, x], argTypes := #[t, t] }) (v u : Value) (hs : a.eval s = v) (hx : a.eval x = u) {v' : Value} {w' : World}
 (hr : (Builtin.append_ #[t, t] o.type #[v, u]).run P w = .ok v' w') (h : wpList P ops Q rest (a.put o.dst v') w') : wpList P ops Q (o :: rest) a w :=
 wpList_plain hgd fun K hK => by
  unfold Oper.wp
  simp [execOp, ho, resolve, invoke, builtin, hs, hx, hr, Result.andThen]
  exact hK _ _ h
end
theorem flat_len {rows : List (List Value)} (h : ∀ c ∈ rows, c.length = 2) : rows.flatten.length = rows.length * 2 := by
 induction rows with
 | nil => rfl
 | cons c r ih => rw [List.flatten_cons, List.length_append, h c (by simp), ih (fun q hq => h q (by simp [hq])), List.length_cons]; omega
theorem bk_open {W : World} {base g n cap : Nat} {ok : Nat → Prop} {bs : List Bk} (h : Kd.N k109 109 W base ok (.slice (some ⟨g, 0, none⟩) n cap) bs) :
 ∃ (cur : Array Value) (rows : List (List Value)) (T : List Value), W.heap[g]? = some (.cells cur 109 (0, 0)) ∧ cur.size = cap * 2 ∧ n ≤ cap ∧ cap ≤ 9223372036854775807 ∧ base ≤ g ∧ ok g ∧ rows.length = bs.length ∧ (∀ c ∈ rows, c.length = 2 ∧ ∀ u ∈ c, u.oneCell' = true) ∧ cur.toList = rows.flatten ++ T ∧
  ∀ (j : Nat) (b : Bk) (c : List Value), bs[j]? = some b → rows[j]? = some c → Kd.FK k109 W (fun k => ok k ∧ k ≠ g) b c := by
 have hn := (Kd.N_reads' h).1
 obtain ⟨hok, rows, hl, ⟨_, inner, ⟨h1, h2⟩, hr⟩, hf⟩ := h
 have hown : (Value.slice (some ⟨g, 0, none⟩) n cap).ownBlock = some g := rfl
 have hrow : ∀ c ∈ rows, c.length = 2 ∧ ∀ u ∈ c, u.oneCell' = true := by
  intro c hc
  obtain ⟨j, hj, rfl⟩ := List.getElem_of_mem hc
  have := hr.2 j _ (List.getElem?_eq_getElem hj)
  obtain ⟨e1, e2, e3⟩ := this
  rw [e1] at e2 e3
  exact ⟨e2, e3⟩
 have hfl : inner = rows.flatten := by
  have : ∀ (rows : List (List Value)) (inner : List Value), inner.length = rows.length * 2 → (∀ (j : Nat) (c : List Value), rows[j]? = some c → c = (inner.drop (j * 2)).take 2) → inner = rows.flatten := by
   intro rows
   induction rows with
   | nil => intro inner hi _; exact List.length_eq_zero_iff.1 (by simpa using hi)
   | cons c r ih =>
    intro inner hi hc
    have h0 := hc 0 c rfl
    rw [Nat.zero_mul, List.drop_zero] at h0
    rw [List.flatten_cons, ← ih (inner.drop 2) (by rw [List.length_drop, hi, List.length_cons]; omega) (fun j d hd => by
     have := hc (j + 1) d hd
     rw [List.drop_drop]
     rwa [Nat.succ_mul, Nat.add_comm (j * 2) 2] at this), h0, List.take_append_drop]
  refine this rows inner hr.1 (fun j c hc => ?_)
  exact (hr.2 j c hc).1.symm
 rcases h2 with ⟨he, h0⟩ | ⟨g', cap', cur, he, hb, hh, hnc, hcm, hcs, ht⟩
 · cases he
 · injection he with ha hn' hc
   injection ha with ha
   injection ha with ha
   subst ha; subst hc
   refine ⟨cur, rows, cur.toList.drop (rows.length * 2), hh, hcs, by omega, by unfold maxLen at hcm; omega, hb, hok _ rfl, hl, hrow, ?_, ?_⟩
   · have ht' : cur.toList.take (rows.length * 2) = inner := ht
     rw [← hfl, ← ht', List.take_append_drop]
   · intro j b c hb hc
     exact Kd.FK_mono (hf j b c hb hc) (fun k hk => ⟨hk.1, fun e => hk.2 (by rw [e, hown])⟩)
theorem bk_close {W : World} {base g n cap : Nat} {ok : Nat → Prop} {bs : List Bk} {cur : Array Value} {rows : List (List Value)} {T : List Value} (hh : W.heap[g]? = some (.cells cur 109 (0, 0))) (hs : cur.size = cap * 2) (hn : n ≤ cap) (hc : cap ≤ 9223372036854775807) (hb : base ≤ g) (hok : ok g)
 (hl : rows.length = bs.length) (hnb : n = bs.length) (hrow : ∀ c ∈ rows, c.length = 2 ∧ ∀ u ∈ c, u.oneCell' = true) (ht : cur.toList = rows.flatten ++ T)
 (hf : ∀ (j : Nat) (b : Bk) (c : List Value), bs[j]? = some b → rows[j]? = some c → Kd.FK k109 W (fun k => ok k ∧ k ≠ g) b c) :
 Kd.N k109 109 W base ok (.slice (some ⟨g, 0, none⟩) n cap) bs := by
 have hown : (Value.slice (some ⟨g, 0, none⟩) n cap).ownBlock = some g := rfl
 have hfl := flat_len (fun c hc => (hrow c hc).1)
 refine ⟨fun k hk => (by simpa [Value.ownBlock] using hk : g = k) ▸ hok, rows, hl, ⟨fun k hk => hk.symm, rows.flatten, ⟨hfl, .inr ⟨g, cap, cur, ?_, hb, hh, by omega, by unfold maxLen; omega, hs, ?_⟩⟩, ⟨hfl, fun j c hj => ?_⟩⟩, fun j b c hb hc => ?_⟩
 · rw [show rows.length = n by omega]
 · show cur.toList.take (rows.length * 2) = _
   rw [ht, List.take_append_of_le_length (by omega), List.take_of_length_le (by omega)]
 · obtain ⟨hjl, rfl⟩ := List.getElem?_eq_some_iff.1 hj
   have hd : rows.flatten = (rows.take j).flatten ++ (rows[j] ++ (rows.drop (j + 1)).flatten) := by
    conv => lhs; rw [← List.take_append_drop j rows, List.flatten_append, List.drop_eq_getElem_cons hjl, List.flatten_cons]
   have hlen : (rows.take j).flatten.length = j * 2 := by
    rw [flat_len (fun c hc => (hrow c (List.mem_of_mem_take hc)).1), List.length_take]
    omega
   have hch : (rows.flatten.drop (j * 2)).take 2 = rows[j] := by
    rw [hd, List.drop_append_of_le_length (by omega), List.drop_of_length_le (by omega), List.nil_append, List.take_append_of_le_length (by rw [(hrow _ (List.getElem_mem hjl)).1]; omega), List.take_of_length_le (by rw [(hrow _ (List.getElem_mem hjl)).1]; omega)]
   have h2 := hrow _ (List.getElem_mem hjl)
   rw [← hch] at h2
   exact ⟨hch, h2.1, h2.2⟩
 · exact Kd.FK_mono (hf j b c hb hc) (fun k hk => ⟨hk.1, fun e => hk.2 (by rw [hown] at e; injection e)⟩)
theorem zeroB : ∀ w, (zeroValue 109).run Tryz.prog w = .ok (.agg #[.int .i64 0, .slice none 0 0]) w := by
 intro w
 have h : (Tryz.prog.info? 109).bind (fun i => i.zero) = some (.agg #[.int .i64 0, .slice none 0 0]) := by kernel_rfl
 obtain ⟨i, hi, hz⟩ := Option.bind_eq_some_iff.1 h
 simp [zeroValue, typeInfo, hi, hz]
theorem run_clear_one (w : World) (g o c : Nat) (ty : TypeId) (cur : Array Value) (hg : w.heap[g]? = some (.cells cur 109 (0, 0))) (ho : o + 2 ≤ cur.size) :
 (Builtin.clear_ #[96] ty #[.slice (some ⟨g, o, none⟩) 1 c]).run Tryz.prog w = .ok (.tuple #[]) (w.setCells g o [.int .i64 0, .slice none 0 0]) := by
 have hst := run_storeCells_cells (P := Tryz.prog) g o [.int .i64 0, .slice none 0 0] 0 w
  (by intro j hj; rw [cell_row hg]; simp at hj; simp; omega) (by intro j hj; exact frozen_row hg _) (by intro v hv; simp at hv; rcases hv with rfl | rfl <;> rfl)
 simp only [Nat.add_zero] at hst
 have hzc : (Builtin.zeroCells (Value.agg #[.int .i64 0, .slice none 0 0]).cells 1).toList = [.int .i64 0, .slice none 0 0] := by
  simp [Builtin.zeroCells, Value.cells, Array.toList_map, Array.toList_range, List.range, List.range.loop]
 simp [Builtin.clear_, run_underlying Tryz.underlying96, zeroB, hzc, hst]
end Go.Proofs.YthghkglkifeagaaGreat.V
end
section
set_option linter.unusedVariables false
set_option linter.unusedSimpArgs false
namespace Go.Proofs.YthghkglkifeagaaGreat.V
open Go.RowKit Go.Proofs.YthghkglkifeagaaGreatW.PrintWords Go.Proofs.YthghkglkifeagaaGreatW.PrintLast Go.Proofs.YthghkglkifeagaaGreatW.PrintMore
structure OnlyG (w W : World) (g : Nat) : Prop where
  os : W.os = w.os
  tape : W.tape = w.tape
  output : W.output = w.output
  size : W.heap.size = w.heap.size
  other : ∀ k, k ≠ g → W.heap[k]? = w.heap[k]?
namespace OnlyG
variable {w W : World} {g : Nat}
theorem refl (w : World) (g : Nat) : OnlyG w w g := ⟨rfl, rfl, rfl, rfl, fun _ _ => rfl⟩
theorem drew (h : OnlyG w W g) : OnlyG w W.drew g := ⟨h.os, h.tape, h.output, h.size, h.other⟩
theorem drewN (h : OnlyG w W g) (m : Nat) : OnlyG w (W.drewN m) g := ⟨h.os, h.tape, h.output, h.size, h.other⟩
theorem setRow (h : OnlyG w W g) (cs : Array Value) : OnlyG w (W.setRow g cs) g := ⟨h.os, h.tape, h.output, by simp [World.setRow, h.size], fun k hk => (setRow_other _ _ _ _ hk).trans (h.other k hk)⟩
theorem setCell (h : OnlyG w W g) (j : Nat) (u : Value) : OnlyG w (W.setCell ⟨g, j, none⟩ u) g := ⟨h.os, h.tape, h.output, by simp [World.setCell, h.size], fun k hk => (Below.heap_setCell W ⟨g, j, none⟩ u k hk).trans (h.other k hk)⟩
theorem set2 (h : OnlyG w W g) (j : Nat) (u v : Value) : OnlyG w (W.setCells g j [u, v]) g := (h.setCell j u).setCell (j + 1) v
theorem grown (h : OnlyG w W g) : w.grownBy W (some g) := ⟨h.os, h.tape, h.output, by rw [h.size]; exact Nat.le_refl _, fun i _ hne => h.other i (fun e => hne (by rw [e]))⟩
end OnlyG
theorem set2_row {W : World} {g o : Nat} {cur : Array Value} {t : TypeId} {u v : Value} (h : W.heap[g]? = some (.cells cur t (0, 0))) : (W.setCells g o [u, v]).heap[g]? = some (.cells ((cur.setIfInBounds o u).setIfInBounds (o + 1) v) t (0, 0)) :=
 blk_put (blk_put h o u rfl) (o + 1) v rfl
theorem set2_list (X T : List Value) (u v : Value) : ∃ T', ((((X ++ T).toArray.setIfInBounds X.length u).setIfInBounds (X.length + 1) v)).toList = X ++ T' := by
 refine ⟨(T.set 0 u).set 1 v, ?_⟩
 simp only [List.setIfInBounds_toArray]
 rw [List.set_append_right _ _ (Nat.le_refl _), Nat.sub_self, List.set_append_right _ _ (by omega), show X.length + 1 - X.length = 1 by omega]
theorem bk_final {w W : World} {base g n cap : Nat} {ok : Nat → Prop} {bs : List Bk} {cur : Array Value} {rows : List (List Value)} {T : List Value} (ho : OnlyG w W g) (hh : W.heap[g]? = some (.cells cur 109 (0, 0))) (hs : cur.size = cap * 2) (hn : n ≤ cap) (hc : cap ≤ 9223372036854775807) (hb : base ≤ g) (hok : ok g)
 (hl : rows.length = bs.length) (hnb : n = bs.length) (hrow : ∀ c ∈ rows, c.length = 2 ∧ ∀ u ∈ c, u.oneCell' = true) (ht : cur.toList = rows.flatten ++ T)
 (hf : ∀ (j : Nat) (b : Bk) (c : List Value), bs[j]? = some b → rows[j]? = some c → Kd.FK k109 w (fun k => ok k ∧ k ≠ g) b c) :
 Kd.N k109 109 W base ok (.slice (some ⟨g, 0, none⟩) n cap) bs :=
 bk_close hh hs hn hc hb hok hl hnb hrow ht (fun j b c h1 h2 => Kd.FK_step (hf j b c h1 h2) (fun k hk _ => ho.other k hk.2))
theorem repl_at {α β : Type} {R : α → β → Prop} {xs : List α} {ys : List β} {q : Nat} {x : α} {y : β} (hl : ys.length = xs.length) (hq : q + 2 ≤ xs.length) (h : ∀ (j : Nat) (a : α) (b : β), xs[j]? = some a → ys[j]? = some b → R a b) (hxy : R x y) :
 ∀ (j : Nat) (a : α) (b : β), (xs.take q ++ x :: xs.drop (q + 2))[j]? = some a → (ys.take q ++ y :: ys.drop (q + 2))[j]? = some b → R a b := by
 intro j a b ha hb
 have l1 : (xs.take q).length = q := by rw [List.length_take]; omega
 have l2 : (ys.take q).length = q := by rw [List.length_take]; omega
 by_cases h1 : j < q
 · rw [List.getElem?_append_left (by omega), List.getElem?_take, if_pos h1] at ha hb
   exact h j a b ha hb
 · rw [List.getElem?_append_right (by omega), l1] at ha
   rw [List.getElem?_append_right (by omega), l2] at hb
   obtain ⟨d, hd⟩ : ∃ d, j - q = d := ⟨_, rfl⟩
   rw [hd] at ha hb
   cases d with
   | zero =>
    obtain rfl : x = a := by simpa using ha
    obtain rfl : y = b := by simpa using hb
    exact hxy
   | succ d =>
    rw [List.getElem?_cons_succ, List.getElem?_drop] at ha hb
    exact h _ a b ha hb
set_option maxRecDepth 100000 in
set_option maxHeartbeats 4000000 in
theorem brepl_mid (base g n cap q vb vc : Nat) (ok : Nat → Prop) (bs : List Bk) (m : Bk) (u : Value) (w : World) (hN : Kd.N k109 109 w base ok (.slice (some ⟨g, 0, none⟩) n cap) bs) (hq : q + 2 < n) (hn : n ≤ 1000)
 (hv : w.heap[vb]? = some (.cells #[.int .i64 m.f0, u] 109 (0, 0))) (hne : vb ≠ g) (hM : Kd.FK k109 w (fun k => ok k ∧ k ≠ g) m [.int .i64 m.f0, u]) :
 Calls Tryz.prog 96 #[.slice (some ⟨g, 0, none⟩) n cap, .int .i64 (q : Int), .int .i64 ((q : Int) + 2), .slice (some ⟨vb, 0, none⟩) 1 vc] w fun e w' => e = .returned (.slice (some ⟨g, 0, none⟩) (n - 1) cap) ∧ Kd.N k109 109 w' base ok (.slice (some ⟨g, 0, none⟩) (n - 1) cap) (bs.take q ++ m :: bs.drop (q + 2)) ∧ w.grownBy w' (some g) := by
 have hnl := (Kd.N_reads' hN).1
 obtain ⟨cur, rows, T, hg, hs, hnc, hcm, hb, hok, hl, hrow, ht, hf⟩ := bk_open hN
 have hmr : ([.int .i64 m.f0, u] : List Value).length = 2 ∧ ∀ x ∈ ([.int .i64 m.f0, u] : List Value), x.oneCell' = true := (Kd.FK_raw hM).2
 have hsz : (Tryz.prog.info? 109).map (·.size) = some 2 := by kernel_rfl
 have hX : (rows.take q).flatten.length = q * 2 := by rw [flat_len (fun c hc => (hrow c (List.mem_of_mem_take hc)).1), List.length_take]; omega
 have hY : (rows.drop (q + 2)).flatten.length = (n - (q + 2)) * 2 := by rw [flat_len (fun c hc => (hrow c (List.mem_of_mem_drop hc)).1), List.length_drop]; omega
 have hZ : ((rows.drop q).take 2).flatten.length = 2 * 2 := by rw [flat_len (fun c hc => (hrow c (List.mem_of_mem_drop (List.mem_of_mem_take hc))).1), List.length_take, List.length_drop]; omega
 have hsplit : rows.flatten = (rows.take q).flatten ++ (((rows.drop q).take 2).flatten ++ (rows.drop (q + 2)).flatten) := by
  rw [← List.flatten_append, ← List.flatten_append, show rows.drop (q + 2) = (rows.drop q).drop 2 by rw [List.drop_drop], List.take_append_drop, List.take_append_drop]
 have hR' : (rows.take q ++ [.int .i64 m.f0, u] :: rows.drop (q + 2)).flatten = (rows.take q).flatten ++ ([.int .i64 m.f0, u] ++ (rows.drop (q + 2)).flatten) := by rw [List.flatten_append, List.flatten_cons]
 have hrow' : ∀ c ∈ rows.take q ++ [.int .i64 m.f0, u] :: rows.drop (q + 2), c.length = 2 ∧ ∀ x ∈ c, x.oneCell' = true := by
  intro c hc
  rcases List.mem_append.1 hc with hc | hc
  · exact hrow c (List.mem_of_mem_take hc)
  · rcases List.mem_cons.1 hc with rfl | hc
    · exact hmr
    · exact hrow c (List.mem_of_mem_drop hc)
 have hf' := repl_at (q := q) (R := fun b c => Kd.FK k109 w (fun k => ok k ∧ k ≠ g) b c) hl (by omega) hf hM
 have hl' : (rows.take q ++ [.int .i64 m.f0, u] :: rows.drop (q + 2)).length = (bs.take q ++ m :: bs.drop (q + 2)).length := by simp only [List.length_append, List.length_take, List.length_cons, List.length_drop, hl]
 have hnb' : n - 1 = (bs.take q ++ m :: bs.drop (q + 2)).length := by simp only [List.length_append, List.length_take, List.length_cons, List.length_drop]; omega
 have hYo : ∀ x ∈ (rows.drop (q + 2)).flatten, x.oneCell' = true := by
  intro x hx
  obtain ⟨c, hc, hxc⟩ := List.mem_flatten.1 hx
  exact (hrow c (List.mem_of_mem_drop hc)).2 x hxc
 rw [hsplit] at ht
 have hcl : cur.toList.length = cap * 2 := by rw [Array.length_toList, hs]
 generalize (rows.take q).flatten = X at *
 generalize ((rows.drop q).take 2).flatten = Z at *
 generalize (rows.drop (q + 2)).flatten = Y at *
 obtain ⟨C1, hC1⟩ : ∃ C1 : List Value, C1 = X ++ ([.int .i64 m.f0, u] ++ (Z.drop 2 ++ (Y ++ T))) := ⟨_, rfl⟩
 obtain ⟨C2, hC2⟩ : ∃ C2 : List Value, C2 = X ++ ([.int .i64 m.f0, u] ++ (Y ++ ((Z.drop 2 ++ (Y ++ T)).drop Y.length))) := ⟨_, rfl⟩
 have hTl : X.length + (Z.length + (Y.length + T.length)) = cap * 2 := by
  rw [← hcl, ht]; simp only [List.length_append]; omega
 have hC1l : C1.length = cap * 2 := by rw [hC1]; simp only [List.length_append, List.length_cons, List.length_nil, List.length_drop]; omega
 have hC2l : C2.length = cap * 2 := by rw [hC2]; simp only [List.length_append, List.length_cons, List.length_nil, List.length_drop]; omega
 have hcp1 : ∀ (W : World) ty, W.heap[g]? = some (.cells cur 109 (0, 0)) → W.heap[vb]? = some (.cells #[.int .i64 m.f0, u] 109 (0, 0)) → (Builtin.copy_ #[96, 96] ty #[.slice (some ⟨g, q * 2, none⟩) (n - 1 - q) (cap - q), .slice (some ⟨vb, 0, none⟩) 1 vc]).run Tryz.prog W = .ok (goInt 1) (W.setRow g C1.toArray) := fun W ty hW hV => by
  have h1 : Nat.min 1 (n - 1 - q) = 1 := by simp only [Nat.min_def]; split <;> omega
  have := run_copy_row2 (P := Tryz.prog) W 96 96 ty 109 g (q * 2) (n - 1 - q) (cap - q) ⟨vb, 0, none⟩ 1 vc cur 109 [.int .i64 m.f0, u] Tryz.underlying96 hsz hW (by rw [h1]; rfl)
   (fun j v hj => by rw [Addr.add_lit, Nat.zero_add, cell_row hV]; simpa using hj) (by rw [hs]; show q * 2 + 2 ≤ _; omega) hmr.2
  rw [this, h1, hC1, ht]
  congr 3
  show ((X ++ (Z ++ Y) ++ T).take (q * 2) ++ [.int .i64 m.f0, u] ++ (X ++ (Z ++ Y) ++ T).drop (q * 2 + 2)) = _
  have e1 : (X ++ (Z ++ Y) ++ T).take (q * 2) = X := by rw [List.append_assoc]; exact List.take_left' hX
  have e2 : (X ++ (Z ++ Y) ++ T).drop (q * 2 + 2) = Z.drop 2 ++ (Y ++ T) := by
   rw [List.append_assoc, List.append_assoc, List.drop_append, List.drop_of_length_le (by omega), List.nil_append, show q * 2 + 2 - X.length = 2 by omega, List.drop_append_of_le_length (by omega)]
  rw [e1, e2]
  simp
 have hcp2 : ∀ (W : World) ty dc sc, W.heap[g]? = some (.cells C1.toArray 109 (0, 0)) → (Builtin.copy_ #[96, 96] ty #[.slice (some ⟨g, (q + 1) * 2, none⟩) (n - 1 - (q + 1)) dc, .slice (some ⟨g, (q + 2) * 2, none⟩) (n - (q + 2)) sc]).run Tryz.prog W = .ok (goInt ((n - (q + 2) : Nat) : Int)) (W.setRow g C2.toArray) := fun W ty dc sc hW => by
  have h1 : Nat.min (n - (q + 2)) (n - 1 - (q + 1)) = n - (q + 2) := by simp only [Nat.min_def]; split <;> omega
  have := run_copy_row2 (P := Tryz.prog) W 96 96 ty 109 g ((q + 1) * 2) (n - 1 - (q + 1)) dc ⟨g, (q + 2) * 2, none⟩ (n - (q + 2)) sc C1.toArray 109 Y Tryz.underlying96 hsz hW (by rw [h1, hY])
   (fun j v hj => by
    rw [Addr.add_lit, cell_row hW, List.getElem?_toArray, hC1]
    rw [List.getElem?_append_right (by omega), List.getElem?_append_right (by simp; omega), List.getElem?_append_right (by simp; omega), List.getElem?_append_left (by
     have := (List.getElem?_eq_some_iff.1 hj).1
     simp; omega)]
    rw [← hj]
    congr 1
    simp
    omega) (by simp only [List.size_toArray, hC1l]; omega) hYo
  rw [this, h1, hC2]
  congr 3
  have e1 : C1.take ((q + 1) * 2) = X ++ [.int .i64 m.f0, u] := by
   rw [hC1, ← List.append_assoc]
   exact List.take_left' (by simp; omega)
  have e2 : C1.drop ((q + 1) * 2 + Y.length) = (Z.drop 2 ++ (Y ++ T)).drop Y.length := by
   rw [hC1, ← List.append_assoc, List.drop_append, List.drop_of_length_le (by simp; omega), List.nil_append]
   congr 1
   simp
   omega
  show C1.take ((q + 1) * 2) ++ Y ++ C1.drop ((q + 1) * 2 + Y.length) = _
  rw [e1, e2]
  simp
 have hclr : ∀ (W : World) ty c, W.heap[g]? = some (.cells C2.toArray 109 (0, 0)) → (Builtin.clear_ #[96] ty #[.slice (some ⟨g, (n - 1) * 2, none⟩) 1 c]).run Tryz.prog W = .ok (.tuple #[]) (W.setCells g ((n - 1) * 2) [.int .i64 0, .slice none 0 0]) := fun W ty c hW =>
  run_clear_one W g ((n - 1) * 2) c ty C2.toArray hW (by simp only [List.size_toArray, hC2l]; omega)
 have hend : ∀ W, OnlyG w W g → W.heap[g]? = some (.cells C2.toArray 109 (0, 0)) → Kd.N k109 109 (W.setCells g ((n - 1) * 2) [.int .i64 0, .slice none 0 0]) base ok (.slice (some ⟨g, 0, none⟩) (n - 1) cap) (bs.take q ++ m :: bs.drop (q + 2)) ∧ w.grownBy (W.setCells g ((n - 1) * 2) [.int .i64 0, .slice none 0 0]) (some g) := fun W hO hW => by
  have hlen : (X ++ ([.int .i64 m.f0, u] ++ Y)).length = (n - 1) * 2 := by simp; omega
  obtain ⟨T', hT'⟩ := set2_list (X ++ ([.int .i64 m.f0, u] ++ Y)) ((Z.drop 2 ++ (Y ++ T)).drop Y.length) (.int .i64 0) (.slice none 0 0)
  have hC2' : C2 = (X ++ ([.int .i64 m.f0, u] ++ Y)) ++ ((Z.drop 2 ++ (Y ++ T)).drop Y.length) := by rw [hC2]; simp
  rw [← hC2', hlen] at hT'
  refine ⟨bk_final (hO.set2 _ _ _) (set2_row hW) (by simp [hC2l]) (by omega) hcm hb hok hl' hnb' hrow' (by rw [hT', hR']) hf', (hO.set2 _ _ _).grown⟩
 have HCP1 := Aside0.mk hcp1
 have HCP2 := Aside0.mk hcp2
 have HCLR := Aside0.mk hclr
 have HEND := Aside0.mk hend
 have HG := Aside0.mk hg
 have HV := Aside0.mk hv
 have mixed : Tryz.prog.follows .mixedOrders = true := by kernel_rfl
 have b10 : (0 : Int) ≤ (q : Int) + 2 := by omega
 have d1 : ((q : Int) == (q : Int) + 2) = false := by rw [beq_eq_false_iff_ne]; omega
 have d2 : ((q : Int) + 2 == (n : Int)) = false := by rw [beq_eq_false_iff_ne]; omega
 have d3 : decide (cap < n - 1) = false := decide_eq_false (by omega)
 have d4 : decide ((q : Int) + 1 ≤ (q : Int) + 2) = true := decide_eq_true (by omega)
 have b1 : (0 : Int) ≤ (q : Int) := by omega
 have b2 : (q : Int) ≤ (q : Int) + 2 := by omega
 have b3 : (q : Int) + 2 ≤ (n : Int) := by omega
 have b4 : (q : Int) + 2 ≤ (cap : Int) := by omega
 have b5 : q ≤ cap := by omega
 have b6 : ¬ (cap = q) := by omega
 have b7 : ((q : Int) + 2).toNat = q + 2 := by omega
 have b8 : ¬ (cap = q + 2) := by omega
 have b9 : n - 1 ≤ cap := by omega
 have c1 : q ≤ n - 1 := by omega
 have c2 : ((q : Int) + 1).toNat = q + 1 := by omega
 have c3 : ¬ (cap = q + 1) := by omega
 have c4 : (0 : Int) ≤ (q : Int) + 1 := by omega
 have c5 : (q : Int) + 1 ≤ ((n - 1 : Nat) : Int) := by omega
 have c6 : ¬ (cap = n - 1) := by omega
 have c7 : n - 1 ≤ n := by omega
 have c8 : n - (n - 1) = 1 := by omega
 have s1 : IntKind.i64.wrap ((q : Int) + 1) = (q : Int) + 1 := IntWalk.i64_in _ (by omega)
 have s2 : IntKind.i64.wrap ((q : Int) + 1 + ((n - (q + 2) : Nat) : Int)) = ((n - 1 : Nat) : Int) := by rw [show (q : Int) + 1 + ((n - (q + 2) : Nat) : Int) = ((n - 1 : Nat) : Int) by omega]; exact IntWalk.i64_in _ (by omega)
 have HCU := Aside0.mk hs
 clear hN hnl hg hs hnc hcm hb hl hrow ht hf hv hM hcp1 hcp2 hclr hend hX hY hZ hsplit hR' hrow' hf' hl' hnb' hYo hcl hTl hC1l hC2l hmr hn hC1 hC2
 go_enter Tryz.func96, Tryz.ntmps96
 go_wp2_with fail
 go_quiet (fail)
 go_wp2_with (first | ((with_reducible refine gate_builtin (b := .copy) (xs := #[.tmp 95, .tmp 96]) rfl ?_); go_loud (refine wpList_copy_runI _ rfl _ _ 96 96 rfl _ _ rfl rfl (HCP1.out _ _ HG.out HV.out) ?_)))
 have hw1 := setRow_heap (w.drewN nq) g cur C1.toArray 109 (0, 0) HG.out
 have HW1 := Aside0.mk hw1
 clear hw1
 go_region_law_o (go_loud (refine step_copy_runI rfl (.tmp 103) (.tmp 106) 96 96 rfl (.slice (some ⟨g, (q + 1) * 2, none⟩) (n - 1 - (q + 1)) (cap - (q + 1))) (.slice (some ⟨g, (q + 2) * 2, none⟩) (n - (q + 2)) (cap - (q + 2))) ?h1 ?h2 (HCP2.out ((w.drewN nq).setRow g C1.toArray).drew _ _ _ HW1.out) ?_; (case h1 => (simp [Act.eval, Act.put]; done)); (case h2 => (simp [Act.eval, Act.put]; done))))
 have hw2 := setRow_heap ((w.drewN nq).setRow g C1.toArray).drew g C1.toArray C2.toArray 109 (0, 0) HW1.out
 have HW2 := Aside0.mk hw2
 clear hw2
 go_wp2_with (first | ((with_reducible refine gate_builtin (b := .clear) (xs := #[.tmp 110]) rfl ?_); go_loud (refine wpList_clear_run _ rfl _ 96 rfl _ rfl (HCLR.out _ _ _ HW2.out) ?_)))
 go_ret
 have := HEND.out _ ((((OnlyG.refl w g).drewN nq).setRow C1.toArray).drew.setRow C2.toArray) HW2.out
 exact ⟨rfl, this.1, this.2⟩
end Go.Proofs.YthghkglkifeagaaGreat.V
end
section
set_option linter.unusedVariables false
set_option linter.unusedSimpArgs false
namespace Go.Proofs.YthghkglkifeagaaGreat.V
open Go.RowKit Go.Proofs.YthghkglkifeagaaGreatW.PrintWords Go.Proofs.YthghkglkifeagaaGreatW.PrintLast Go.Proofs.YthghkglkifeagaaGreatW.PrintMore
set_option maxRecDepth 100000 in
set_option maxHeartbeats 4000000 in
theorem brepl_end (base g n cap q vb vc : Nat) (ok : Nat → Prop) (bs : List Bk) (m : Bk) (u : Value) (w : World) (hN : Kd.N k109 109 w base ok (.slice (some ⟨g, 0, none⟩) n cap) bs) (hq : q + 2 = n) (hn : n ≤ 1000)
 (hv : w.heap[vb]? = some (.cells #[.int .i64 m.f0, u] 109 (0, 0))) (hne : vb ≠ g) (hM : Kd.FK k109 w (fun k => ok k ∧ k ≠ g) m [.int .i64 m.f0, u]) :
 Calls Tryz.prog 96 #[.slice (some ⟨g, 0, none⟩) n cap, .int .i64 (q : Int), .int .i64 ((q : Int) + 2), .slice (some ⟨vb, 0, none⟩) 1 vc] w fun e w' => e = .returned (.slice (some ⟨g, 0, none⟩) (n - 1) cap) ∧ Kd.N k109 109 w' base ok (.slice (some ⟨g, 0, none⟩) (n - 1) cap) (bs.take q ++ m :: bs.drop (q + 2)) ∧ w.grownBy w' (some g) := by
 have hnl := (Kd.N_reads' hN).1
 obtain ⟨cur, rows, T, hg, hs, hnc, hcm, hb, hok, hl, hrow, ht, hf⟩ := bk_open hN
 have hmr : ([.int .i64 m.f0, u] : List Value).length = 2 ∧ ∀ x ∈ ([.int .i64 m.f0, u] : List Value), x.oneCell' = true := (Kd.FK_raw hM).2
 have hX : (rows.take q).flatten.length = q * 2 := by rw [flat_len (fun c hc => (hrow c (List.mem_of_mem_take hc)).1), List.length_take]; omega
 have hZ : (rows.drop q).flatten.length = 2 * 2 := by rw [flat_len (fun c hc => (hrow c (List.mem_of_mem_drop hc)).1), List.length_drop]; omega
 have hY0 : rows.drop (q + 2) = [] := List.drop_eq_nil_of_le (by omega)
 have hsplit : rows.flatten = (rows.take q).flatten ++ (rows.drop q).flatten := by rw [← List.flatten_append, List.take_append_drop]
 have hR' : (rows.take q ++ [.int .i64 m.f0, u] :: rows.drop (q + 2)).flatten = (rows.take q).flatten ++ [.int .i64 m.f0, u] := by rw [hY0, List.flatten_append]; simp
 have hrow' : ∀ c ∈ rows.take q ++ [.int .i64 m.f0, u] :: rows.drop (q + 2), c.length = 2 ∧ ∀ x ∈ c, x.oneCell' = true := by
  intro c hc
  rcases List.mem_append.1 hc with hc | hc
  · exact hrow c (List.mem_of_mem_take hc)
  · rcases List.mem_cons.1 hc with rfl | hc
    · exact hmr
    · exact hrow c (List.mem_of_mem_drop hc)
 have hf' := repl_at (q := q) (R := fun b c => Kd.FK k109 w (fun k => ok k ∧ k ≠ g) b c) hl (by omega) hf hM
 have hl' : (rows.take q ++ [.int .i64 m.f0, u] :: rows.drop (q + 2)).length = (bs.take q ++ m :: bs.drop (q + 2)).length := by simp only [List.length_append, List.length_take, List.length_cons, List.length_drop, hl]
 have hnb' : q + 1 = (bs.take q ++ m :: bs.drop (q + 2)).length := by simp only [List.length_append, List.length_take, List.length_cons, List.length_drop]; omega
 rw [hsplit] at ht
 have hcl : cur.toList.length = cap * 2 := by rw [Array.length_toList, hs]
 generalize (rows.take q).flatten = X at *
 generalize (rows.drop q).flatten = Z at *
 have hTl : X.length + (Z.length + T.length) = cap * 2 := by rw [← hcl, ht]; simp only [List.length_append]; omega
 have hi0 : ∃ i, Tryz.prog.info? 109 = some i ∧ i.size = 2 := by
  have h : (Tryz.prog.info? 109).map (·.size) = some 2 := by kernel_rfl
  obtain ⟨i, h1, h2⟩ := Option.map_eq_some_iff.1 h
  exact ⟨i, h1, h2⟩
 obtain ⟨i0, hi0, hi2⟩ := hi0
 obtain ⟨C1, hC1⟩ : ∃ C1 : Array Value, C1 = (cur.setIfInBounds (q * 2) (.int .i64 m.f0)).setIfInBounds (q * 2 + 1) u := ⟨_, rfl⟩
 have hC1s : C1.size = cap * 2 := by rw [hC1]; simp [hs]
 have hC1l : ∃ T1, C1.toList = X ++ ([.int .i64 m.f0, u] ++ T1) := by
  refine ⟨(Z ++ T).drop 2, ?_⟩
  have hcur : cur = (X ++ (Z ++ T)).toArray := by rw [← List.append_assoc, ← ht]
  obtain ⟨z0, z1, R, hzr⟩ : ∃ z0 z1 R, Z ++ T = z0 :: z1 :: R := by
   match hz : Z ++ T with
   | [] => have := congrArg List.length hz; rw [List.length_append] at this; simp only [List.length_nil] at this; omega
   | [_] => have := congrArg List.length hz; rw [List.length_append] at this; simp only [List.length_cons, List.length_nil] at this; omega
   | z0 :: z1 :: R => exact ⟨z0, z1, R, rfl⟩
  rw [hC1, hcur, hzr]
  simp only [List.setIfInBounds_toArray]
  rw [List.set_append_right _ _ (by omega), show q * 2 - X.length = 0 by omega, List.set_append_right _ _ (by omega), show q * 2 + 1 - X.length = 1 by omega]
  rfl
 obtain ⟨T1, hC1l⟩ := hC1l
 have happ : ∀ (W : World) ty, W.heap[g]? = some (.cells cur 109 (0, 0)) → W.heap[vb]? = some (.cells #[.int .i64 m.f0, u] 109 (0, 0)) → (Builtin.append_ #[96, 96] ty #[.slice (some ⟨g, 0, none⟩) q cap, .slice (some ⟨vb, 0, none⟩) 1 vc]).run Tryz.prog W = .ok (.slice (some ⟨g, 0, none⟩) (q + 1) cap) (W.setCells g (q * 2) [.int .i64 m.f0, u]) := fun W ty hW hV => by
  have := run_append_room_cells (P := Tryz.prog) W 96 ty 109 i0 Tryz.underlying96 hi0 g 0 q cap ⟨vb, 0, none⟩ 1 vc [.int .i64 m.f0, u] (by rw [hi2]; rfl)
   (fun j v hj => by rw [Addr.add_lit, Nat.zero_add, cell_row hV]; simpa using hj) hmr.2 (by omega)
   (fun j hj => by rw [cell_row hW, hi2]; simp at hj; simp; omega) (fun j hj => frozen_row hW _)
  rw [this, hi2, Nat.zero_add]
 have hclr : ∀ (W : World) ty c, W.heap[g]? = some (.cells C1 109 (0, 0)) → (Builtin.clear_ #[96] ty #[.slice (some ⟨g, (q + 1) * 2, none⟩) 1 c]).run Tryz.prog W = .ok (.tuple #[]) (W.setCells g ((q + 1) * 2) [.int .i64 0, .slice none 0 0]) := fun W ty c hW =>
  run_clear_one W g ((q + 1) * 2) c ty C1 hW (by omega)
 have hend : ∀ W, OnlyG w W g → W.heap[g]? = some (.cells C1 109 (0, 0)) → Kd.N k109 109 (W.setCells g ((q + 1) * 2) [.int .i64 0, .slice none 0 0]) base ok (.slice (some ⟨g, 0, none⟩) (q + 1) cap) (bs.take q ++ m :: bs.drop (q + 2)) ∧ w.grownBy (W.setCells g ((q + 1) * 2) [.int .i64 0, .slice none 0 0]) (some g) := fun W hO hW => by
  have hlen : (X ++ [.int .i64 m.f0, u]).length = (q + 1) * 2 := by simp; omega
  obtain ⟨T', hT'⟩ := set2_list (X ++ [.int .i64 m.f0, u]) T1 (.int .i64 0) (.slice none 0 0)
  have hC1' : C1 = ((X ++ [.int .i64 m.f0, u]) ++ T1).toArray := by rw [List.append_assoc, ← hC1l]
  rw [hlen, ← hC1'] at hT'
  refine ⟨bk_final (hO.set2 _ _ _) (set2_row hW) (by simp [hC1s]) (by omega) hcm hb hok hl' hnb' hrow' (by rw [hT', hR']) hf', (hO.set2 _ _ _).grown⟩
 have HAPP := Aside0.mk happ
 have HCLR := Aside0.mk hclr
 have HEND := Aside0.mk hend
 have HG := Aside0.mk hg
 have HV := Aside0.mk hv
 have HC1 := Aside0.mk hC1
 have hq' : n = q + 2 := hq.symm
 clear hN hnl hs hcm hb hl hrow ht hf hM happ hclr hend hX hZ hsplit hR' hrow' hf' hl' hnb' hcl hTl hC1l hC1s hmr hC1 hi0 hi2 hY0 hg hv
 subst hq'
 have d1 : ((q : Int) == (q : Int) + 2) = false := by rw [beq_eq_false_iff_ne]; omega
 have d2 : ((q : Int) + 2 == ((q + 2 : Nat) : Int)) = true := by rw [beq_iff_eq]; omega
 have d3 : decide (q + 1 < q + 2) = true := decide_eq_true (by omega)
 have b1 : (0 : Int) ≤ (q : Int) := by omega
 have b2 : (q : Int) ≤ (q : Int) + 2 := by omega
 have b4 : (q : Int) + 2 ≤ (cap : Int) := by omega
 have b5 : q ≤ cap := by omega
 have b6 : ¬ (cap = q) := by omega
 have b7 : ((q : Int) + 2).toNat = q + 2 := by omega
 have b8 : ¬ (cap = q + 1) := by omega
 have b9 : (0 : Int) ≤ (q : Int) + 1 := by omega
 have c1 : ((q : Int) + 1).toNat = q + 1 := by omega
 have c2 : q + 1 ≤ q + 2 := by omega
 have c3 : q + 2 - (q + 1) = 1 := by omega
 have c4 : (q : Int) + 1 ≤ (q : Int) + 2 := by omega
 clear hn hnc
 go_enter Tryz.func96, Tryz.ntmps96
 go_wp2_with (first | ((with_reducible refine gate_builtin (b := .append) (xs := #[.tmp 32, .tmp 33]) rfl ?_); go_loud (refine wpList_append_run _ rfl (.tmp 32) (.tmp 33) 96 rfl (.slice (some ⟨g, 0, none⟩) q cap) (.slice (some ⟨vb, 0, none⟩) 1 vc) (by simp [Act.eval, Act.put]) (by simp [Act.eval, Act.put]) (HAPP.out _ _ HG.out HV.out) ?_)) | ((with_reducible refine gate_builtin (b := .clear) (xs := #[.tmp 43]) rfl ?_); go_loud (refine wpList_clear_run _ rfl (.tmp 43) 96 rfl (.slice (some ⟨g, (q + 1) * 2, none⟩) 1 (cap - (q + 1))) (by simp [Act.eval, Act.put]) (HCLR.out _ _ _ (by rw [HC1.out]; exact set2_row HG.out)) ?_)))
 go_ret
 have := HEND.out (w.setCells g (q * 2) [.int .i64 m.f0, u]) ((OnlyG.refl w g).set2 _ _ _) (by rw [HC1.out]; exact set2_row HG.out)
 exact ⟨rfl, this.1, this.2⟩
end Go.Proofs.YthghkglkifeagaaGreat.V
end
