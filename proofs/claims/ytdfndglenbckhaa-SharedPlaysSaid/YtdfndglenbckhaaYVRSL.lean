-- a text of this work, without what this claim doesn't use (wip/shake.py)
import Derived.Test.YtdfndglenbckhaaYVPvergerref51
import Derived.Test.YtdfndglenbckhaaYVEqE
import Derived.Deep.DeepCutAuto
import Derived.Deep.CutBlock
import Derived.Test.YtdfndglenbckhaaYVE46
set_option linter.unusedVariables false
set_option linter.unusedSimpArgs false
namespace Go.Proofs.Ytdfndglenbckhaa.V
open Go.RowKit Go.Proofs.YtdfndglenbckhaaW.PrintWords Go.Proofs.YtdfndglenbckhaaW.PrintLast Go.Proofs.YtdfndglenbckhaaW.PrintMore
attribute [local go_sem] max2_int min2_int max_two min_two max_three min_three max_four min_four
theorem op8_at {w : World} {A : Option Addr} {l : List S32} (h : k32.C w A l.length l) {i : Nat} {o : S32} (ho : l[i]? = some o) :
 ∃ ad A4 c4 A5 c5, A = some ad ∧ w.cell? (ad.add (i * 6)) = some (.int .i64 o.f0) ∧ w.cell? ⟨(ad.add (i * 6)).block, (ad.add (i * 6)).off + 1, none⟩ = some (.int .i64 o.f1) ∧ w.cell? ⟨(ad.add (i * 6)).block, (ad.add (i * 6)).off + 2, none⟩ = some (.int .i64 o.f2) ∧ w.cell? ⟨(ad.add (i * 6)).block, (ad.add (i * 6)).off + 3, none⟩ = some (.bool o.f3) ∧ w.cell? ⟨(ad.add (i * 6)).block, (ad.add (i * 6)).off + 4, none⟩ = some (.slice A4 o.f4.length c4) ∧ w.cell? ⟨(ad.add (i * 6)).block, (ad.add (i * 6)).off + 5, none⟩ = some (.slice A5 o.f5.length c5) ∧ o.f4.length ≤ c4 ∧ k46.C w A4 o.f4.length o.f4 ∧ o.f5.length ≤ c5 ∧ k46.C w A5 o.f5.length o.f5 := by
 obtain ⟨hlt, rfl⟩ := List.getElem?_eq_some_iff.1 ho
 have := at_T32 h (i : Int) (by omega) (by omega)
 have hr : rd_T32 l (i : Int) = l[i] := by unfold rd_T32; rw [Int.toNat_natCast, List.getD_eq_getElem?_getD, List.getElem?_eq_getElem hlt]; rfl
 rw [hr, Int.toNat_natCast] at this
 exact this
theorem drop8 {w wr w1 w2 : World} {p q i ver : Nat} {v v' v1 v2 : Value} {bs : List Bk} {id : Int} (h : St8 w wr p q i ver v v' bs) (hs : ShAt w1 w.heap.size p (if (dropS id bs).1 = true then (ver : Int) + 1 else ver) v1 (dropS id bs).2) (hg : wr.grownBy w1 (some p)) (hr : RShAt w2 w.heap.size q (if (dropS id bs).1 = true then (ver : Int) + 1 else ver) v2 ((dropS id bs).2.map toR)) (hg2 : w1.grownBy w2 (some q)) :
 St8 w w2 p q (i + 1) (if (dropS id bs).1 = true then ver + 1 else ver) v1 v2 (dropS id bs).2 := by
 have hf := dropS_few (id := id) (bs := bs)
 have h0 := h.few
 have e : (((if (dropS id bs).1 = true then ver + 1 else ver : Nat)) : Int) = if (dropS id bs).1 = true then (ver : Int) + 1 else ver := by split <;> simp
 refine h.close (by rw [e]; exact hs) hg (by rw [e]; exact hr) hg2 (dropS_okB h.ok) ⟨by omega, by omega, ?_⟩
 split <;> omega
set_option maxRecDepth 100000 in
set_option maxHeartbeats 16000000 in
theorem sharedPlays_walk (A : Option Addr) (c : Nat) (l : List S32) (k : Int) (d : Nat) (w : World) (hr : k32.C w A l.length l) (hc : l.length ≤ c) (hd : d < 18446744073709551616) :
 Calls Try.prog 3 #[.slice A l.length c, .int .i64 k, .int .u64 (d : Int)] w fun e w' => e = .returned (.bool true) ∧ Below w.heap.size w w' := by
 have HR := Aside0.mk hr
 have hl63 : l.length ≤ 9223372036854775807 := hr.2.1
 have HD := Aside0.mk hd
 clear hr hd
 go_enter Try.func3, Try.ntmps3
 go_wp2_with fail
 refine (sh_new w).mono ?_
 rintro y w1 ⟨rfl, hs1, hb1⟩
 have HS1 := Aside0.mk hs1
 have HB1 := Aside0.mk hb1
 clear hs1 hb1
 go_upto_region 5 with fail
 obtain ⟨p, hp⟩ : ∃ p, p = w.heap.size := ⟨_, rfl⟩
 obtain ⟨q, hq⟩ : ∃ q, q = w1.heap.size := ⟨_, rfl⟩
 obtain ⟨w2, hw2⟩ : ∃ w2 : World, w2 = w1.alloc (.cells #[.int .u64 0, .slice none 0 0] 29) := ⟨_, rfl⟩
 rw [← hw2, ← hp, ← hq]
 have HST : Aside0 (St8 w w2 p q 0 0 (.slice none 0 0) (.slice none 0 0) []) := ⟨by
  have hz := uf (Below.refl w1.heap.size w1) (.cells #[.int .u64 0, .slice none 0 0] 29)
  have hn := heap_alloc_new w1 (.cells #[.int .u64 0, .slice none 0 0] 29)
  have hlt := HS1.out.lt
  rw [← hw2] at hz hn
  rw [← hp] at hlt
  refine ⟨by rw [hp]; exact HS1.out.below hz, ⟨by rw [hq]; exact hn, Kd.V_nil _ _ _ _ _, by rw [hq]; exact HB1.out.size⟩, by simp, ⟨vn _, by rw [allB_nil]; exact vn _, vn _⟩, by omega, uo HB1.out hz⟩⟩
 clear hp hq hw2 HS1 HB1
 go_wp2_with fail
 go_loopw [9] (fun s9 wr => ∃ (i ver : Nat) (v v' : Value) (bs : List Bk), s9 = .int .i64 i ∧ i ≤ l.length ∧ i ≤ 30 ∧ Aside0 (St8 w wr p q i ver v v' bs)) (fun s9 _ => 31 - (intOf s9).toNat)
 case atStart => exact ⟨0, 0, _, _, [], rfl, Nat.zero_le _, by omega, HST⟩
 case round =>
  clear HST
  obtain ⟨i, ver, v, v', bs, rfl, hil, hi30, HST⟩ := hrel
  obtain ⟨Av, cv, hve, _⟩ := HST.out.r.reads
  rw [List.length_map] at hve
  subst hve
  by_cases hlt : i < l.length ∧ i < 30
  · obtain ⟨hlt, hlt30⟩ := hlt
    obtain ⟨o, ho⟩ : ∃ o, l[i]? = some o := ⟨_, List.getElem?_eq_getElem hlt⟩
    obtain ⟨ad, A4, c4, A5, c5, rfl, y0, y1, y2, y3, y4, y5, e4, g4, e5, g5⟩ := op8_at HR.out ho
    replace y0 := us HST.out.bel y0
    replace y1 := us HST.out.bel y1
    replace y2 := us HST.out.bel y2
    replace y3 := us HST.out.bel y3
    replace y4 := us HST.out.bel y4
    replace y5 := us HST.out.bel y5
    have HF4 := Aside0.mk (Kd.C_F k46_heap g4)
    have HG4 := Aside0.mk g4
    have HG5 := Aside0.mk g5
    have hil0 : (i : Int) < (l.length : Int) := by omega
    have hi0 : (0 : Int) ≤ (i : Int) := by omega
    have d30 : decide ((i : Int) < 30) = true := decide_eq_true (by omega)
    have hi30' : (i : Int) < 30 := by omega
    clear ho g4 g5
    go_upto_region 9 with fail
    obtain ⟨go, hgo⟩ : ∃ go, go = wr.heap.size := ⟨_, rfl⟩
    obtain ⟨wa, hwa⟩ : ∃ wa : World, wa = wr.alloc (.cells #[.int .i64 o.f0, .int .i64 o.f1, .int .i64 o.f2, .bool o.f3, .slice A4 o.f4.length c4, .slice A5 o.f5.length c5] 32) := ⟨_, rfl⟩
    rw [← hwa, ← hgo]
    have HXO := Aside0.mk (show wa.heap[go]? = some (.cells #[.int .i64 o.f0, .int .i64 o.f1, .int .i64 o.f2, .bool o.f3, .slice A4 o.f4.length c4, .slice A5 o.f5.length c5] 32 (0, 0)) by rw [hwa, hgo]; exact heap_alloc_new _ _)
    have hba : Below wr.heap.size wr wa := by rw [hwa]; exact uf (Below.refl _ _) _
    have HSTa := Aside0.mk (HST.out.below hba)
    have HGN := Aside0.mk (show p < go ∧ q < go from ⟨by rw [hgo]; exact HST.out.s.lt, by rw [hgo]; exact HST.out.r.lt⟩)
    have HVR := Aside0.mk (show (0 : Int) ≤ (ver : Int) ∧ (ver : Int) ≤ 1000000 from by have := HST.out.few; omega)
    have HBN := Aside0.mk (show bs.length ≤ 900 ∧ (allB bs).length ≤ 1000000 ∧ (allB bs).length + 40 ≤ 1000000 from by have := HST.out.few; omega)
    have x4 : wa.cell? ⟨go, 4, none⟩ = some (.slice A4 o.f4.length c4) := (uk HXO.out 4).trans rfl
    have x5 : wa.cell? ⟨go, 5, none⟩ = some (.slice A5 o.f5.length c5) := (uk HXO.out 5).trans rfl
    clear hgo hwa hba y0 y1 y2 y3 y4 y5
    by_cases hL : o.f4.length ≤ 40
    · have n1 : ¬ 40 < o.f4.length := by omega
      have n2 : ¬ (40 : Int) < (o.f4.length : Int) := by omega
      have n3 : decide (40 < o.f4.length) = false := decide_eq_false n1
      have n4 : decide ((40 : Int) < (o.f4.length : Int)) = false := decide_eq_false n2
      by_cases hM : o.f5.length ≤ 40
      · have n5 : ¬ 40 < o.f5.length := by omega
        have n6 : ¬ (40 : Int) < (o.f5.length : Int) := by omega
        have n7 : decide (40 < o.f5.length) = false := decide_eq_false n5
        have n8 : decide ((40 : Int) < (o.f5.length : Int)) = false := decide_eq_false n6
        go_wp2_with fail
        refine (sh_snap w.heap.size p (ver : Int) v bs _ HSTa.out.s (by have := HBN.out; omega) HBN.out.2.1).mono ?_
        rintro y w3 ⟨A1, c1, rfl, hv3, hb3⟩
        go_upto_region 12 with fail
        obtain ⟨gs, hgs⟩ : ∃ gs, gs = w3.heap.size := ⟨_, rfl⟩
        obtain ⟨w4, hw4⟩ : ∃ w4 : World, w4 = w3.alloc (.cells #[.int .u64 (ver : Int), .slice A1 bs.length c1] 36) := ⟨_, rfl⟩
        rw [← hw4, ← hgs]
        have HXS := Aside0.mk (show w4.heap[gs]? = some (.cells #[.int .u64 (ver : Int), .slice A1 bs.length c1] 36 (0, 0)) by rw [hw4, hgs]; exact heap_alloc_new _ _)
        have hb4 : Below w3.heap.size w3 w4 := by rw [hw4]; exact uf (Below.refl _ _) _
        have HV4 := Aside0.mk (Kd.V_mono (Kd.V_below hv3 hb4) (ok' := fun _ => True) (fun _ _ => trivial))
        have HBa4 := Aside0.mk (uo hb3 hb4)
        have HST4 := Aside0.mk (HSTa.out.below HBa4.out)
        have HGS := Aside0.mk (show go < gs ∧ gs < w4.heap.size from ⟨by rw [hgs]; exact Nat.lt_of_lt_of_le (blk_lt HXO.out) hb3.size, blk_lt HXS.out⟩)
        have q0 := HST4.out.r.cell0
        have q1 := HST4.out.r.cell1
        clear hv3 hb3 hb4 hw4 hgs x4 x5 n1 n2 n3 n4 n5 n6 n7 n8
        refine start_ (n := 11) (S := fun w' => w'.cell? ⟨q, 0, none⟩ = some (.int .u64 (ver : Int)) ∧ w'.cell? ⟨q, 1, none⟩ = some (.slice Av bs.length cv)) (ds := [9]) #[xX, xX, xX, xX, xX, xX, xX, xX, xX, xX, xX] (by kernel_rfl) rfl rfl ⟨q0, q1⟩ (fun hHeld => ?_)
        refine uj (i := 0) (N := (some 54)) (v := ?_) (a' := ?_) (bA 11 1) rfl rfl (by kernel_rfl) (fun _ _ _ h => h) (Or.inl ⟨by rfl, ?_⟩) ?_ ?_
        rotate_left; (· (intro w'); go_simp; (with_reducible rfl)); rotate_left; (· (simp only [Act.put, ua, ub, uc, uh, ui]); rfl)
        refine uj (i := 1) (N := (some 55)) (v := ?_) (a' := ?_) (bA 11 3) rfl rfl (by kernel_rfl) (fun _ _ _ h => h) (Or.inl ⟨by rfl, ?_⟩) ?_ ?_
        rotate_left; (· (intro w'); go_simp; (with_reducible rfl)); rotate_left; (· (simp only [Act.put, ua, ub, uc, uh, ui]); rfl)
        refine uj (i := 2) (N := (some 56)) (v := ?_) (a' := ?_) (bA 11 7) rfl rfl (by kernel_rfl) (fun _ _ _ h => h) (Or.inl ⟨by rfl, ?_⟩) ?_ ?_
        rotate_left; (· (intro w'); go_simp; (with_reducible rfl)); rotate_left; (· (simp only [Act.put, ua, ub, uc, uh, ui]); rfl)
        refine uj (i := 4) (N := (some 58)) (v := ?_) (a' := ?_) (bA 11 23) rfl rfl (by kernel_rfl) (fun _ _ _ h => h) (Or.inl ⟨by rfl, ?_⟩) ?_ ?_
        rotate_left; (· (intro w'); go_simp; (with_reducible rfl)); rotate_left; (· (simp only [Act.put, ua, ub, uc, uh, ui]); rfl)
        refine uj (i := 5) (N := (some 59)) (v := ?_) (a' := ?_) (bA 11 55) rfl rfl (by kernel_rfl) (fun _ _ _ h => h) (Or.inl ⟨by rfl, ?_⟩) ?_ ?_
        rotate_left; (· (intro w'); go_simp; (with_reducible rfl)); rotate_left; (· (simp only [Act.put, ua, ub, uc, uh, ui]); rfl)
        refine uj (i := 6) (N := (some 60)) (v := ?_) (a' := ?_) (bA 11 119) rfl rfl (by kernel_rfl) (fun _ _ _ h => h) (Or.inl ⟨by rfl, ?_⟩) ?_ ?_
        rotate_left; (· (intro w'); go_simp; (with_reducible rfl)); rotate_left; (· (simp only [Act.put, ua, ub, uc, uh, ui]); rfl)
        refine xk (i := 3) (N := (some 57)) (v := ?_) (a' := ?_) (bA 11 127) rfl rfl (by kernel_rfl) (fun _ _ _ h => h) (Or.inl ⟨by rfl, ?_⟩) hHeld ?_ ?_
        rotate_left; (· (rintro w' ⟨s0, s1⟩); go_simp; (with_reducible rfl)); rotate_left; (· (simp only [Act.put, ua, ub, uc, uh, ui]); rfl)
        refine xk (i := 7) (N := (some 61)) (v := ?_) (a' := ?_) (bA 11 255) rfl rfl (by kernel_rfl) (fun _ _ _ h => h) (Or.inl ⟨by rfl, ?_⟩) hHeld ?_ ?_
        rotate_left; (· (rintro w' ⟨s0, s1⟩); go_simp; (with_reducible rfl)); rotate_left; (· (simp only [Act.put, ua, ub, uc, uh, ui]); rfl)
        refine uj (i := 8) (N := (some 62)) (v := ?_) (a' := ?_) (bA 11 511) rfl rfl (by kernel_rfl) (fun _ _ _ h => h) (Or.inl ⟨by rfl, ?_⟩) ?_ ?_
        rotate_left; (· (intro w'); go_simp; (with_reducible rfl)); rotate_left; (· (simp only [Act.put, ua, ub, uc, uh, ui]); rfl)
        refine last_ (i := 9) (N := (some 63)) #[yY, yY, yY, yY, yY, yY, yY, yY, yY, yY, xX] rfl rfl (by kernel_rfl) (by decide) (fun K hK => ?_)
        go_simp
        refine hK.out _ _ ?_
        clear hK K
        (try simp only [Act.put, ua, ub, uc, uh, ui])
        refine uj (i := 10) (N := (some 12)) (v := ?_) (a' := ?_) (bA 11 2047) rfl rfl (by kernel_rfl) (fun _ _ _ h => h) (Or.inl ⟨by rfl, ?_⟩) ?_ ?_
        rotate_left; (· (intro w'); go_simp; (with_reducible rfl)); rotate_left; (· (simp only [Act.put, ua, ub, uc, uh, ui]); rfl)
        refine done_ (by kernel_rfl) ?_
        go_upto_region 13 with fail
        obtain ⟨gw, hgw⟩ : ∃ gw, gw = w4.heap.size := ⟨_, rfl⟩
        obtain ⟨w5, hw5⟩ : ∃ w5 : World, w5 = (w4.alloc (.cells #[.int .u64 (ver : Int), .slice Av bs.length cv] 29)).drew := ⟨_, rfl⟩
        rw [← hw5, ← hgw]
        have HXW := Aside0.mk (show w5.heap[gw]? = some (.cells #[.int .u64 (ver : Int), .slice Av bs.length cv] 29 (0, 0)) by rw [hw5, hgw]; exact heap_alloc_new _ _)
        have hb5 : Below w4.heap.size w4 w5 := by rw [hw5]; exact uo (uf (Below.refl w4.heap.size w4) _) (below_drew (Below.refl _ _))
        have HST5 := Aside0.mk (HST4.out.below hb5)
        have HO5 : Aside0 (Old8 w w5 p q go gs gw o A4 A5 A1 c4 c5 c1 ver (.slice Av bs.length cv) bs) := ⟨by
         have h1 := HGN.out
         have h2 := HGS.out
         have h3 := HST4.out.bel.size
         have h4 := HST4.out.s.lt
         have h5 := HST4.out.r.lt
         have h6 : gw = w4.heap.size := hgw
         have h7 : q < w4.heap.size := h5
         refine ⟨vw (vw HXO.out HBa4.out) hb5, vw HXS.out hb5, Kd.V_below HV4.out hb5, ⟨HXW.out, Kd.V_mono (Kd.V_below (Kd.V_bound HST4.out.r.row) hb5) (fun k hk => by have := hk.2; omega), by omega⟩, ⟨⟨by omega, by omega⟩, ⟨by omega, by omega⟩, by omega, by omega⟩⟩⟩
        clear hw5 hgw hb5 q0 q1 HXW HXS HXO HV4 HBa4 HSTa HST4
        have x0 : w5.cell? ⟨go, 0, none⟩ = some (.int .i64 o.f0) := (uk HO5.out.op 0).trans rfl
        go_upto_block 2 with fail
        go_cut [] (fun wx => ∃ (ver2 : Nat) (v2 v2' : Value) (bs2 : List Bk), Aside0 (St8 w wx p q (i + 1) ver2 v2 v2' bs2) ∧ Aside0 (Old8 w wx p q go gs gw o A4 A5 A1 c4 c5 c1 ver (.slice Av bs.length cv) bs))
        case first =>
         have HA4 := Aside0.mk (xb HG4.out HST5.out.bel)
         have HO := HO5
         by_cases k0 : o.f0 = 0
         · have kq : (o.f0 == 0) = true := by rw [k0]; rfl
           have x4 := (uk HO5.out.op 4).trans rfl
           clear k0
           by_cases hne : o.f4 = []
           · have hl0 : o.f4.length = 0 := by rw [hne]; rfl
             have HL0 := Aside0.mk hl0
             clear hne hl0
             go_wp2_with fail
             refine (sh_add_nilN p A4 o.f4.length c4 _ HL0.out).mono ?_
             rintro y w6 ⟨rfl, rfl⟩
             go_wp2_with fail
             refine (rs_add_nilN q A4 o.f4.length c4 _ HL0.out).mono ?_
             rintro y w6 ⟨rfl, rfl⟩
             go_wp2_with fail
             go_meet
             exact ⟨_, _, _, _, ⟨HST5.out.stay (Below.refl _ _)⟩, HO5⟩
           · have HNE := Aside0.mk hne
             clear hne
             go_wp2_with fail
             refine (sh_add w.heap.size p (ver : Int) v bs A4 c4 o.f4 _ HST5.out.s HVR.out HA4.out e4 HNE.out HBN.out.1 (by have := HBN.out; omega) HST5.out.ok).mono ?_
             rintro y w6 ⟨rfl, v6, hs6, hg6⟩
             have HR6 := Aside0.mk (HST5.out.next hg6)
             have HO6 := Aside0.mk (HO5.out.grown HST5.out.s.noI hg6 (.inl rfl))
             have hb6 : Below w.heap.size w w6 := below_grown HST5.out.bel hg6 (fun k hk => by injection hk with hk; have := HST5.out.s.lo; omega)
             have HA6 := Aside0.mk (xb HG4.out hb6)
             have HS6 := Aside0.mk hs6
             have HG6 := Aside0.mk hg6
             have z4 := (uk HO6.out.op 4).trans rfl
             clear hs6 hg6 hb6 x4
             go_wp2_with fail
             refine (rs_add w.heap.size q (ver : Int) (.slice Av bs.length cv) bs A4 c4 o.f4 _ HR6.out HVR.out HA6.out e4 HNE.out HBN.out.1 (by have := HBN.out; omega)).mono ?_
             rintro y w7 ⟨rfl, v7, hr7, hg7⟩
             have HST7 := Aside0.mk (HST5.out.close (ver1 := ver + 1) (by push_cast; exact HS6.out) HG6.out (by push_cast; exact hr7) hg7 (addL_okB HST5.out.ok) (by have h1 := addL_few (l := o.f4) (i := i) ⟨HST5.out.few.1, HST5.out.few.2.1⟩ hL; have := HST5.out.few; omega))
             have HO7 := Aside0.mk (HO6.out.grown HR6.out.noI hg7 (.inr rfl))
             clear hr7 hg7 z4
             go_wp2_with fail
             go_meet
             exact ⟨_, _, _, _, HST7, HO7⟩
         · have kq : (o.f0 == 0) = false := by rw [beq_eq_false_iff_ne]; exact k0
           have kq2 : decide (o.f0 = 0) = false := decide_eq_false k0
           by_cases k1 : o.f0 = 1
           · have kr : (o.f0 == 1) = true := by rw [k1]; rfl
             have x1 : w5.cell? ⟨go, 1, none⟩ = some (.int .i64 o.f1) := (uk HO5.out.op 1).trans rfl
             have HST5d := Aside0.mk (HST5.out.below (below_drew (Below.refl _ _)))
             clear HO
             have HO := Aside0.mk (HO5.out.below (below_drew (Below.refl _ _)))
             clear k0 k1
             as_aux_lemma =>
              go_wp2_with fail
              refine start_ (n := 9) (S := fun w' => w'.cell? ⟨go, 1, none⟩ = some (.int .i64 o.f1) ∧ True) (ds := []) #[xX, xX, xX, xX, xX, xX, xX, xX, xX] (by kernel_rfl) rfl rfl ⟨x1, trivial⟩ (fun hHeld => ?_)
              refine uj (i := 0) (N := (some 100)) (v := ?_) (a' := ?_) (bA 9 1) rfl rfl (by kernel_rfl) (fun _ _ _ h => h) (Or.inl ⟨by rfl, ?_⟩) ?_ ?_
              rotate_left; (· (intro w'); go_simp; (with_reducible rfl)); rotate_left; (· (simp only [Act.put, ua, ub, uc, uh, ui]); rfl)
              refine uj (i := 1) (N := (some 101)) (v := ?_) (a' := ?_) (bA 9 3) rfl rfl (by kernel_rfl) (fun _ _ _ h => h) (Or.inl ⟨by rfl, ?_⟩) ?_ ?_
              rotate_left; (· (intro w'); go_simp; (with_reducible rfl)); rotate_left; (· (simp only [Act.put, ua, ub, uc, uh, ui]); rfl)
              refine uj (i := 4) (N := (some 104)) (v := ?_) (a' := ?_) (bA 9 19) rfl rfl (by kernel_rfl) (fun _ _ _ h => h) (Or.inl ⟨by rfl, ?_⟩) ?_ ?_
              rotate_left; (· (intro w'); go_simp; (with_reducible rfl)); rotate_left; (· (simp only [Act.put, ua, ub, uc, uh, ui]); rfl)
              refine uj (i := 5) (N := (some 105)) (v := ?_) (a' := ?_) (bA 9 51) rfl rfl (by kernel_rfl) (fun _ _ _ h => h) (Or.inl ⟨by rfl, ?_⟩) ?_ ?_
              rotate_left; (· (intro w'); go_simp; (with_reducible rfl)); rotate_left; (· (simp only [Act.put, ua, ub, uc, uh, ui]); rfl)
              refine xk (i := 2) (N := (some 102)) (v := ?_) (a' := ?_) (bA 9 55) rfl rfl (by kernel_rfl) (fun _ _ _ h => h) (Or.inl ⟨by rfl, ?_⟩) hHeld ?_ ?_
              rotate_left; (· (rintro w' ⟨s0, s1⟩); go_simp; (with_reducible rfl)); rotate_left; (· (simp only [Act.put, ua, ub, uc, uh, ui]); rfl)
              refine xk (i := 6) (N := (some 106)) (v := ?_) (a' := ?_) (bA 9 119) rfl rfl (by kernel_rfl) (fun _ _ _ h => h) (Or.inl ⟨by rfl, ?_⟩) hHeld ?_ ?_
              rotate_left; (· (rintro w' ⟨s0, s1⟩); go_simp; (with_reducible rfl)); rotate_left; (· (simp only [Act.put, ua, ub, uc, uh, ui]); rfl)
              refine one_ (i := 3) (N := (some 103)) #[yY, yY, yY, yY, yY, yY, yY, xX, xX] rfl rfl (by kernel_rfl) (by decide) (fun K hK => ?_)
              refine goes_ Try.func13 (by kernel_rfl) rfl #[.pointer (some ⟨p, 0, none⟩), .int .i64 o.f1] (by rfl) rfl rfl (by (try simp only [un, uu, uv]); first | done | rfl) ?_
              refine (sh_drop w.heap.size p (ver : Int) v bs o.f1 _ HST5d.out.s HVR.out HBN.out.1 HBN.out.2.1 HST5d.out.ok).mono ?_
              rintro y w6 ⟨rfl, v6, hs6, hg6⟩
              have HR6 := Aside0.mk (HST5d.out.next hg6)
              have HS6 := Aside0.mk hs6
              have HG6 := Aside0.mk hg6
              have n_ := Aside0.mk (HO.out.grown HST5d.out.s.noI hg6 (.inl rfl))
              (try clear HO)
              have HO := n_
              clear n_
              clear hs6 hg6
              refine ⟨_, rfl, ?_⟩
              refine hK.out _ _ ⟨(uk HO.out.op 1).trans rfl, trivial⟩ (fun hHeld => ?_)
              clear hK K
              refine xj (a' := ?_) ?_ ?_; rotate_left; (· (show Act.put _ (some 103) _ = _); (simp only [Act.put, ua, ub, uc, uh, ui]); rfl)
              refine one_ (i := 7) (N := (some 107)) #[yY, yY, yY, yY, yY, yY, yY, yY, xX] rfl rfl (by kernel_rfl) (by decide) (fun K hK => ?_)
              refine goes_ Try.func14 (by kernel_rfl) rfl #[.pointer (some ⟨q, 0, none⟩), .int .i64 o.f1] (by rfl) rfl rfl (by (try simp only [un, uu, uv]); first | done | rfl) ?_
              refine (rs_drop w.heap.size q (ver : Int) (.slice Av bs.length cv) bs o.f1 _ HR6.out HVR.out HBN.out.1 HBN.out.2.1).mono ?_
              rintro y w7 ⟨rfl, v7, hr7, hg7⟩
              have HR7 := Aside0.mk hr7
              have HG7 := Aside0.mk hg7
              have n_ := Aside0.mk (HO.out.grown HR6.out.noI hg7 (.inr rfl))
              (try clear HO)
              have HO := n_
              clear n_
              clear hr7 hg7
              refine ⟨_, rfl, ?_⟩
              refine hK.out _ _ ⟨(uk HO.out.op 1).trans rfl, trivial⟩ (fun hHeld => ?_)
              clear hK K
              refine xj (a' := ?_) ?_ ?_; rotate_left; (· (show Act.put _ (some 107) _ = _); (simp only [Act.put, ua, ub, uc, uh, ui]); rfl)
              refine uj (i := 8) (N := (some 108)) (v := ?_) (a' := ?_) (bA 9 511) rfl rfl (by kernel_rfl) (fun _ _ _ h => h) (Or.inl ⟨by rfl, ?_⟩) ?_ ?_
              rotate_left; (· (intro w'); go_simp; (with_reducible rfl)); rotate_left; (· (simp only [Act.put, ua, ub, uc, uh, ui]); rfl)
              refine done_ (by kernel_rfl) ?_
              go_wp2_with fail
              go_meet
              exact ⟨_, _, _, _, ⟨drop8 HST5d.out HS6.out HG6.out HR7.out HG7.out⟩, HO⟩
           · have kr : (o.f0 == 1) = false := by rw [beq_eq_false_iff_ne]; exact k1
             have kr2 : decide (o.f0 = 1) = false := decide_eq_false k1
             have x1 : w5.cell? ⟨go, 1, none⟩ = some (.int .i64 o.f1) := (uk HO5.out.op 1).trans rfl
             have x2 : w5.cell? ⟨go, 2, none⟩ = some (.int .i64 o.f2) := (uk HO5.out.op 2).trans rfl
             have x3 : w5.cell? ⟨go, 3, none⟩ = some (.bool o.f3) := (uk HO5.out.op 3).trans rfl
             have x4 : w5.cell? ⟨go, 4, none⟩ = some (.slice A4 o.f4.length c4) := (uk HO5.out.op 4).trans rfl
             have x5 : w5.cell? ⟨go, 5, none⟩ = some (.slice A5 o.f5.length c5) := (uk HO5.out.op 5).trans rfl
             have HF5 := Aside0.mk (xg (Kd.F_bound HF4.out) HST5.out.bel)
             have HA5 := Aside0.mk (xb HG5.out HST5.out.bel)
             clear k0 k1
             go_wp2_with fail
             refine (l8blocks (fun k => k < w.heap.size) o.f0 o.f1 o.f2 o.f3 A4 c4 o.f4 A5 c5 o.f5 _ (Kd.F_mono HF5.out (fun k hk => hk.1)) e4 HA5.out e5 (by omega) (by omega)).mono ?_
             rintro y w6 ⟨A6, c6, A7, c7, rfl, n6, n7, f6, f7, hb6⟩
             have HFW := Aside0.mk (raw8_few o.f2 o.f4 o.f5)
             obtain ⟨cs, hcs⟩ : ∃ cs, cs = raw8 o.f2 o.f4 o.f5 := ⟨_, rfl⟩
             rw [← hcs] at n6 n7 f6 f7 HFW ⊢
             have HPQ := Aside0.mk (show w.heap.size ≤ p ∧ w.heap.size ≤ q ∧ p < w5.heap.size ∧ q < w5.heap.size from ⟨HST5.out.s.lo, HST5.out.r.lo, HST5.out.s.lt, HST5.out.r.lt⟩)
             have HF6 := Aside0.mk (show Kd.F k84 w6 (fun k => k ≠ p) A6 cs.length cs from Kd.F_mono f6 (fun k hk => by have := HPQ.out; rcases hk with hk | hk <;> omega))
             have HF7 := Aside0.mk (show Kd.F k70 w6 (fun k => k ≠ q ∧ k ≠ p) A7 (cs.map toR).length (cs.map toR) from Kd.F_mono f7 (fun k hk => by have := HPQ.out; rcases hk with hk | hk <;> exact ⟨by omega, by omega⟩))
             have HST6 := Aside0.mk (HST5.out.below hb6)
             have HO6 := Aside0.mk (HO5.out.below hb6)
             have HCF := Aside0.mk (show cs.length ≤ 1000 ∧ (allB cs).length ≤ 1000000 ∧ cs.length ≤ 2 * (i + 1) ∧ (allB cs).length ≤ 80 * (i + 1) from by have := HFW.out; omega)
             have HN67 := Aside0.mk (And.intro n6 n7)
             have z3 : w6.cell? ⟨go, 3, none⟩ = some (.bool o.f3) := (uk HO6.out.op 3).trans rfl
             have z0 := HST6.out.r.cell0
             have hv1 : (ver : Int) ≤ 1000000 := HVR.out.2
             have hw3 : IntKind.u64.wrap ((ver : Int) + 3) = (ver : Int) + 3 := IntWalk.u64_in _ (by omega)
             clear hcs f6 f7 hb6 n6 n7 x0 x1 x2 x3 x4 x5 HFW
             as_aux_lemma =>
              cases hold : o.f3 with
              | true =>
               rw [hold] at z3
               clear hold
               go_wp2_with fail
               refine (sh_swap_old w.heap.size p (ver : Int) ((ver : Int) + 3) v bs A6 cs.length c6 _ HST6.out.s (by omega)).mono ?_
               rintro y w8 ⟨rfl, hb8⟩
               have HST8 := Aside0.mk (HST6.out.below hb8)
               have HO8 := Aside0.mk (HO6.out.below hb8)
               clear hb8
               go_wp2_with fail
               refine (rs_swap_old w.heap.size q (ver : Int) ((ver : Int) + 3) (.slice Av bs.length cv) (bs.map toR) A7 cs.length c7 _ HST8.out.r (by omega)).mono ?_
               rintro y w9 ⟨rfl, hb9⟩
               have HST9 := Aside0.mk (HST8.out.stay hb9)
               have HO9 := Aside0.mk (HO8.out.below hb9)
               clear hb9
               go_wp2_with fail
               go_meet
               exact ⟨_, _, _, _, HST9, HO9⟩
              | false =>
               rw [hold] at z3
               clear hold
               by_cases hok : ∀ b ∈ cs, okB b = true
               · have HOKC := Aside0.mk hok
                 clear hok
                 go_wp2_with fail
                 refine (sh_swap_yes w.heap.size p (ver : Int) v bs cs A6 c6 _ HST6.out.s HVR.out HF6.out HN67.out.1 HOKC.out HCF.out.1 HCF.out.2.1).mono ?_
                 rintro y w8 ⟨rfl, v8, hs8, hg8⟩
                 have HR8 := Aside0.mk (HST6.out.next hg8)
                 have HF8 := Aside0.mk (Kd.F_mono (Kd.F_grown HF7.out hg8 (fun k hk e => hk.2 (by injection e))) (ok' := fun k => k ≠ q) (fun k hk => hk.1))
                 have HO8 := Aside0.mk (HO6.out.grown HST6.out.s.noI hg8 (.inl rfl))
                 have HS8 := Aside0.mk hs8
                 have HG8 := Aside0.mk hg8
                 clear hs8 hg8
                 go_wp2_with fail
                 refine (rs_swap_yesM w.heap.size q (ver : Int) (.slice Av bs.length cv) bs cs A7 cs.length c7 _ rfl HR8.out HVR.out HF8.out HN67.out.2 HOKC.out HCF.out.1 HCF.out.2.1).mono ?_
                 rintro y w9 ⟨rfl, v9, hr9, hg9⟩
                 have HST9 := Aside0.mk (HST6.out.close (ver1 := ver + 1) (by push_cast; exact HS8.out) HG8.out (by push_cast; exact hr9) hg9 HOKC.out ⟨HCF.out.2.2.1, HCF.out.2.2.2, by have := HST6.out.few; omega⟩)
                 have HO9 := Aside0.mk (HO8.out.grown HR8.out.noI hg9 (.inr rfl))
                 clear hr9 hg9
                 go_wp2_with fail
                 go_meet
                 exact ⟨_, _, _, _, HST9, HO9⟩
               · have HANY := Aside0.mk (show cs.any (fun b => !okB b) = true from by
                  rw [List.any_eq_true]
                  refine Classical.byContradiction fun hno => hok (fun b hb => ?_)
                  cases hbb : okB b with
                  | true => rfl
                  | false => exact absurd ⟨b, hb, by rw [hbb]; rfl⟩ hno)
                 clear hok
                 go_wp2_with fail
                 refine (sh_swap_bad w.heap.size p (ver : Int) v bs cs A6 c6 _ HST6.out.s HF6.out HN67.out.1 HANY.out HCF.out.1 HCF.out.2.1).mono ?_
                 rintro y w8 ⟨rfl, hb8⟩
                 have HST8 := Aside0.mk (HST6.out.below hb8)
                 have HO8 := Aside0.mk (HO6.out.below hb8)
                 have HF8 := Aside0.mk (xg HF7.out hb8)
                 clear hb8
                 go_wp2_with fail
                 refine (rs_swap_badM w.heap.size q (ver : Int) (.slice Av bs.length cv) bs cs A7 cs.length c7 _ rfl HST8.out.r (Kd.F_mono HF8.out (fun k hk => hk.1)) HANY.out HCF.out.1 HCF.out.2.1).mono ?_
                 rintro y w9 ⟨rfl, hb9⟩
                 have HST9 := Aside0.mk (HST8.out.stay hb9)
                 have HO9 := Aside0.mk (HO8.out.below hb9)
                 clear hb9
                 go_wp2_with fail
                 go_meet
                 exact ⟨_, _, _, _, HST9, HO9⟩
        case rest =>
         obtain ⟨ver2, v2, v2', bs2, HSx, HOx⟩ := hcut
         rename World => wx
         have HBO := Aside0.mk (show bs.length ≤ c1 ∧ bs.length ≤ 1000 ∧ (allB bs).length ≤ 1000000 from ⟨(Kd.V_at HOx.out.row).2.1, by have := HBN.out; omega, HBN.out.2.1⟩)
         have HB2 := Aside0.mk (show bs2.length ≤ 1000 ∧ (allB bs2).length ≤ 1000000 from by have := HSx.out.few; omega)
         obtain ⟨T, hT⟩ : ∃ T, T = sortE (allB bs2) := ⟨_, rfl⟩
         have HT := Aside0.mk hT
         have hTn : T.length = (allB bs2).length := by rw [hT]; exact sortE_length _
         have HTN := Aside0.mk hTn
         have HTL := Aside0.mk (show T.length ≤ 1000000 by rw [hTn]; exact HB2.out.2)
         have hTl : T.length ≤ 1000000 := HTL.out
         obtain ⟨Aw, cw, hve2, hcall⟩ := rs_all HSx.out.r HB2.out.1 HB2.out.2
         subst hve2
         have HCALL := Aside0.mk hcall
         have q1 := HSx.out.r.cell1
         rw [← hT] at hcall HCALL
         clear hcall hT hTn HST5 HO5 x0
         go_wp2_with fail
         refine HCALL.out.mono ?_
         rintro y w6 ⟨AT, cT, rfl, hcT, hC6, hb6⟩
         have HS6 := Aside0.mk (HSx.out.below hb6)
         have HO6 := Aside0.mk (HOx.out.below hb6)
         have HT6 := Aside0.mk hC6
         clear hb6 hC6 q1 HCALL HSx HOx
         go_wp2_with fail
         refine (sh_cand w.heap.size p (ver2 : Int) v2 bs2 k d _ HS6.out.s HD.out HB2.out.1 HB2.out.2).mono ?_
         rintro y w7 hp7
         obtain ⟨e, r, hdr⟩ := drawn_form k d (allB bs2)
         unfold CandPost at hp7
         rw [hdr] at hp7
         obtain ⟨rfl, hb7⟩ := hp7
         have HDR := Aside0.mk hdr
         clear hdr
         go_upto_region 28 with fail
         obtain ⟨ge, hge⟩ : ∃ ge, ge = w7.heap.size := ⟨_, rfl⟩
         obtain ⟨w8, hw8⟩ : ∃ w8 : World, w8 = w7.alloc (.cells #[.int .u64 e.f0, .int .i64 e.f1] 46) := ⟨_, rfl⟩
         rw [← hw8, ← hge]
         have HXE := Aside0.mk (show w8.heap[ge]? = some (.cells #[.int .u64 e.f0, .int .i64 e.f1] 46 (0, 0)) by rw [hw8, hge]; exact heap_alloc_new _ _)
         have HB8 := Aside0.mk (uo hb7 (show Below w7.heap.size w7 w8 by rw [hw8]; exact uf (Below.refl _ _) _))
         have HS8 := Aside0.mk (HS6.out.below HB8.out)
         obtain ⟨n, hn, hn31⟩ : ∃ n : Nat, bits BinOp.and IntKind.i64 k 31 = (n : Int) ∧ n ≤ 31 := by
          have hx := and_maskL k 31 (by omega)
          rw [show ((31 : Nat) : Int) = 31 from rfl] at hx
          exact ⟨(bits BinOp.and IntKind.i64 k 31).toNat, by omega, by omega⟩
         clear hge hw8 hb7
         go_wp2_with fail
         refine (rs_candM HS8.out.r k d HD.out HB2.out.1 HB2.out.2).mono ?_
         rintro y w9 hp9
         unfold CandPost at hp9
         rw [HDR.out] at hp9
         obtain ⟨rfl, hb9⟩ := hp9
         go_upto_region 30 with fail
         obtain ⟨gf, hgf⟩ : ∃ gf, gf = w9.heap.size := ⟨_, rfl⟩
         obtain ⟨wz, hwz⟩ : ∃ wz : World, wz = w9.alloc (.cells #[.int .u64 e.f0, .int .i64 e.f1] 46) := ⟨_, rfl⟩
         rw [← hwz, ← hgf]
         have HXF := Aside0.mk (show wz.heap[gf]? = some (.cells #[.int .u64 e.f0, .int .i64 e.f1] 46 (0, 0)) by rw [hwz, hgf]; exact heap_alloc_new _ _)
         have HBz9 := Aside0.mk (uo hb9 (show Below w9.heap.size w9 wz by rw [hwz]; exact uf (Below.refl _ _) _))
         have HSz := Aside0.mk (HS8.out.below HBz9.out)
         have HOz := Aside0.mk (HO6.out.below (uo HB8.out HBz9.out))
         have HTC := Aside0.mk (show k46.C wz AT T.length T ∧ T.length ≤ cT from ⟨xb HT6.out (uo HB8.out HBz9.out), hcT⟩)
         have m0 := (uk HOz.out.sn 0).trans rfl
         have m1 := (uk HOz.out.sn 1).trans rfl
         have hxe := vw HXE.out HBz9.out
         have m2 : wz.cell? ⟨ge, 0, none⟩ = some (.int .u64 e.f0) := (uk hxe 0).trans rfl
         have m3 : wz.cell? ⟨ge, 1, none⟩ = some (.int .i64 e.f1) := (uk hxe 1).trans rfl
         have m4 : wz.cell? ⟨gf, 0, none⟩ = some (.int .u64 e.f0) := (uk HXF.out 0).trans rfl
         have m5 : wz.cell? ⟨gf, 1, none⟩ = some (.int .i64 e.f1) := (uk HXF.out 1).trans rfl
         obtain ⟨F, hF⟩ : ∃ F, F = T.take (min n T.length) := ⟨_, rfl⟩
         have hFl : F.length = min n T.length := by rw [hF, uq]; omega
         have HFL := Aside0.mk (show F.length ≤ T.length by omega)
         have HFF := Aside0.mk (show (sortE (allB bs2)).take (clampN (n : Int) (allB bs2).length) = F by
          rw [← HT.out, hF, ← HTN.out]
          congr 1
          unfold clampN mn mx
          (repeat' split) <;> omega)
         have HFC := Aside0.mk (show k46.C wz AT F.length F ∧ F.length ≤ cT from ⟨by rw [hF]; exact Kd.C_take HTC.out.1 (Nat.min_le_right _ _), by omega⟩)
         have hmin : (if T.length < n then (T.length : Int) else (n : Int)) = (F.length : Int) := by split <;> omega
         have hct : ∀ W : World, (Instr.slice 30 (.slice AT T.length cT) none (some (.int .i64 (F.length : Int))) none).run Try.prog W = .ok (.slice AT F.length cT) W := by
          intro W
          obtain ⟨inf, h1, h2⟩ := Option.map_eq_some_iff.1 info46
          have := cut_to (P := Try.prog) 30 46 .i64 Try.underlying30 h1 AT T.length cT (F.length : Int) (by omega) (by omega) hcT W
          rw [Int.toNat_natCast] at this
          exact this
         have hneq := fun W => neqE_same e.f0 e.f1 W
         clear hgf hwz hxe hF hFl hb9 HXE HXF hn
         as_aux_lemma =>
          go_wp2_with fail
          have HB := Aside0.mk (below_drew (Below.refl wz.heap.size wz))
          refine start_ (n := 48) (S := fun w' => w'.cell? ⟨gs, 0, none⟩ = some (.int .u64 (ver : Int)) ∧ w'.cell? ⟨gs, 1, none⟩ = some (.slice A1 bs.length c1) ∧ w'.cell? ⟨ge, 0, none⟩ = some (.int .u64 e.f0) ∧ w'.cell? ⟨ge, 1, none⟩ = some (.int .i64 e.f1) ∧ w'.cell? ⟨gf, 0, none⟩ = some (.int .u64 e.f0) ∧ w'.cell? ⟨gf, 1, none⟩ = some (.int .i64 e.f1)) (ds := []) #[xX, xX, xX, xX, xX, xX, xX, xX, xX, xX, xX, xX, xX, xX, xX, xX, xX, xX, xX, xX, xX, xX, xX, xX, xX, xX, xX, xX, xX, xX, xX, xX, xX, xX, xX, xX, xX, xX, xX, xX, xX, xX, xX, xX, xX, xX, xX, xX] (by kernel_rfl) rfl rfl ⟨m0, m1, m2, m3, m4, m5⟩ (fun hHeld => ?_)
          refine uj (i := 1) (N := (some 131)) (v := ?_) (a' := ?_) (bA 48 2) rfl rfl (by kernel_rfl) (fun _ _ _ h => h) (Or.inl ⟨by rfl, ?_⟩) ?_ ?_
          rotate_left; (· (intro w'); go_simp; (with_reducible rfl)); rotate_left; (· (simp only [Act.put, ua, ub, uc, uh, ui]); rfl)
          refine xk (i := 0) (N := (some 130)) (v := ?_) (a' := ?_) (bA 48 3) rfl rfl (by kernel_rfl) (fun _ _ _ h => h) (Or.inl ⟨by rfl, ?_⟩) hHeld ?_ ?_
          rotate_left; (· (rintro w' ⟨s0, s1, s2, s3, s4, s5⟩); go_simp; (with_reducible rfl)); rotate_left; (· (simp only [Act.put, ua, ub, uc, uh, ui]); rfl)
          refine one_ (i := 2) (N := (some 132)) #[yY, yY, yY, xX, xX, xX, xX, xX, xX, xX, xX, xX, xX, xX, xX, xX, xX, xX, xX, xX, xX, xX, xX, xX, xX, xX, xX, xX, xX, xX, xX, xX, xX, xX, xX, xX, xX, xX, xX, xX, xX, xX, xX, xX, xX, xX, xX, xX] rfl rfl (by kernel_rfl) (by decide) (fun K hK => ?_)
          refine goes_ Try.func21 (by kernel_rfl) rfl #[.agg #[.int .u64 (ver : Int), .slice A1 bs.length c1], .pointer (some ⟨gw, 0, none⟩)] (by rfl) rfl rfl (by (try simp only [un, uu, uv]); first | done | rfl) ?_
          refine (l8same (ver : Int) A1 c1 bs w.heap.size gw (.slice Av bs.length cv) _ (Kd.V_reads' (HOz.out.below HB.out).row).2.2 HBO.out.1 (HOz.out.below HB.out).was HBO.out.2.1 HBO.out.2.2).mono ?_
          rintro y w9 ⟨rfl, hb9⟩
          have n_ := Aside0.mk (uo HB.out hb9)
          (try clear HB)
          have HB := n_
          clear n_
          clear hb9
          refine ⟨_, rfl, ?_⟩
          refine hK.out _ _ ⟨us HB.out m0, us HB.out m1, us HB.out m2, us HB.out m3, us HB.out m4, us HB.out m5⟩ (fun hHeld => ?_)
          clear hK K
          refine xj (a' := ?_) ?_ ?_; rotate_left; (· (show Act.put _ (some 132) _ = _); (simp only [Act.put, ua, ub, uc, uh, ui]); rfl)
          refine uj (i := 3) (N := (some 133)) (v := ?_) (a' := ?_) (bA 48 15) rfl rfl (by kernel_rfl) (fun _ _ _ h => h) (Or.inl ⟨by rfl, ?_⟩) ?_ ?_
          rotate_left; (· (intro w'); go_simp; (with_reducible rfl)); rotate_left; (· (simp only [Act.put, ua, ub, uc, uh, ui]); rfl)
          refine uj (i := 4) (N := (some 134)) (v := ?_) (a' := ?_) (bA 48 31) rfl rfl (by kernel_rfl) (fun _ _ _ h => h) (Or.inl ⟨by rfl, ?_⟩) ?_ ?_
          rotate_left; (· (intro w'); go_simp; (with_reducible rfl)); rotate_left; (· (simp only [Act.put, ua, ub, uc, uh, ui]); rfl)
          refine uj (i := 5) (N := (some 135)) (v := ?_) (a' := ?_) (bA 48 63) rfl rfl (by kernel_rfl) (fun _ _ _ h => h) (Or.inl ⟨by rfl, ?_⟩) ?_ ?_
          rotate_left; (· (intro w'); go_simp; (with_reducible rfl)); rotate_left; (· (simp only [Act.put, ua, ub, uc, uh, ui]); rfl)
          refine uj (i := 7) (N := (some 137)) (v := ?_) (a' := ?_) (bA 48 191) rfl rfl (by kernel_rfl) (fun _ _ _ h => h) (Or.inl ⟨by rfl, ?_⟩) ?_ ?_
          rotate_left; (· (intro w'); go_simp; (with_reducible rfl)); rotate_left; (· (simp only [Act.put, ua, ub, uc, uh, ui]); rfl)
          refine one_ (i := 6) (N := (some 136)) #[yY, yY, yY, yY, yY, yY, yY, yY, xX, xX, xX, xX, xX, xX, xX, xX, xX, xX, xX, xX, xX, xX, xX, xX, xX, xX, xX, xX, xX, xX, xX, xX, xX, xX, xX, xX, xX, xX, xX, xX, xX, xX, xX, xX, xX, xX, xX, xX] rfl rfl (by kernel_rfl) (by decide) (fun K hK => ?_)
          refine goes_ Try.func10 (by kernel_rfl) rfl #[.pointer (some ⟨p, 0, none⟩)] (by rfl) rfl rfl (by (try simp only [un, uu, uv]); first | done | rfl) ?_
          refine (sh_snap w.heap.size p (ver2 : Int) v2 bs2 _ (HSz.out.below HB.out).s HB2.out.1 HB2.out.2).mono ?_
          rintro y w9 ⟨A9, c9, rfl, hv9, hb9⟩
          have HV9 := Aside0.mk (Kd.V_reads' hv9)
          clear hv9
          have n_ := Aside0.mk (uo HB.out hb9)
          (try clear HB)
          have HB := n_
          clear n_
          clear hb9
          refine ⟨_, rfl, ?_⟩
          refine hK.out _ _ ⟨us HB.out m0, us HB.out m1, us HB.out m2, us HB.out m3, us HB.out m4, us HB.out m5⟩ (fun hHeld => ?_)
          clear hK K
          refine xj (a' := ?_) ?_ ?_; rotate_left; (· (show Act.put _ (some 136) _ = _); (simp only [Act.put, ua, ub, uc, uh, ui]); rfl)
          refine one_ (i := 8) (N := (some 138)) #[yY, yY, yY, yY, yY, yY, yY, yY, yY, xX, xX, xX, xX, xX, xX, xX, xX, xX, xX, xX, xX, xX, xX, xX, xX, xX, xX, xX, xX, xX, xX, xX, xX, xX, xX, xX, xX, xX, xX, xX, xX, xX, xX, xX, xX, xX, xX, xX] rfl rfl (by kernel_rfl) (by decide) (fun K hK => ?_)
          refine goes_ Try.func21 (by kernel_rfl) rfl #[.agg #[.int .u64 (ver2 : Int), .slice A9 bs2.length c9], .pointer (some ⟨q, 0, none⟩)] (by rfl) rfl rfl (by (try simp only [un, uu, uv]); first | done | rfl) ?_
          refine (l8same (ver2 : Int) A9 c9 bs2 w.heap.size q (.slice Aw bs2.length cw) _ HV9.out.2.2 HV9.out.2.1 (HSz.out.below HB.out).r HB2.out.1 HB2.out.2).mono ?_
          rintro y w9 ⟨rfl, hb9⟩
          have n_ := Aside0.mk (uo HB.out hb9)
          (try clear HB)
          have HB := n_
          clear n_
          clear hb9
          refine ⟨_, rfl, ?_⟩
          refine hK.out _ _ ⟨us HB.out m0, us HB.out m1, us HB.out m2, us HB.out m3, us HB.out m4, us HB.out m5⟩ (fun hHeld => ?_)
          clear hK K
          refine xj (a' := ?_) ?_ ?_; rotate_left; (· (show Act.put _ (some 138) _ = _); (simp only [Act.put, ua, ub, uc, uh, ui]); rfl)
          refine uj (i := 9) (N := (some 139)) (v := ?_) (a' := ?_) (bA 48 1023) rfl rfl (by kernel_rfl) (fun _ _ _ h => h) (Or.inl ⟨by rfl, ?_⟩) ?_ ?_
          rotate_left; (· (intro w'); go_simp; (with_reducible rfl)); rotate_left; (· (simp only [Act.put, ua, ub, uc, uh, ui]); rfl)
          refine uj (i := 10) (N := (some 140)) (v := ?_) (a' := ?_) (bA 48 2047) rfl rfl (by kernel_rfl) (fun _ _ _ h => h) (Or.inl ⟨by rfl, ?_⟩) ?_ ?_
          rotate_left; (· (intro w'); go_simp; (with_reducible rfl)); rotate_left; (· (simp only [Act.put, ua, ub, uc, uh, ui]); rfl)
          refine uj (i := 11) (N := (some 141)) (v := ?_) (a' := ?_) (bA 48 4095) rfl rfl (by kernel_rfl) (fun _ _ _ h => h) (Or.inl ⟨by rfl, ?_⟩) ?_ ?_
          rotate_left; (· (intro w'); go_simp; (with_reducible rfl)); rotate_left; (· (simp only [Act.put, ua, ub, uc, uh, ui]); rfl)
          refine uj (i := 12) (N := (some 142)) (v := ?_) (a' := ?_) (bA 48 8191) rfl rfl (by kernel_rfl) (fun _ _ _ h => h) (Or.inl ⟨by rfl, ?_⟩) ?_ ?_
          rotate_left; (· (intro w'); go_simp; (with_reducible rfl)); rotate_left; (· (simp only [Act.put, ua, ub, uc, uh, ui]); rfl)
          refine uj (i := 14) (N := (some 144)) (v := ?_) (a' := ?_) (bA 48 24575) rfl rfl (by kernel_rfl) (fun _ _ _ h => h) (Or.inl ⟨by rfl, ?_⟩) ?_ ?_
          rotate_left; (· (intro w'); go_simp; (with_reducible rfl)); rotate_left; (· (simp only [Act.put, ua, ub, uc, uh, ui]); rfl)
          refine one_ (i := 13) (N := (some 143)) #[yY, yY, yY, yY, yY, yY, yY, yY, yY, yY, yY, yY, yY, yY, yY, xX, xX, xX, xX, xX, xX, xX, xX, xX, xX, xX, xX, xX, xX, xX, xX, xX, xX, xX, xX, xX, xX, xX, xX, xX, xX, xX, xX, xX, xX, xX, xX, xX] rfl rfl (by kernel_rfl) (by decide) (fun K hK => ?_)
          refine goes_ Try.func23 (by kernel_rfl) rfl #[.pointer (some ⟨p, 0, none⟩)] (by rfl) rfl rfl (by (try simp only [un, uu, uv]); first | done | rfl) ?_
          refine (sh_all w.heap.size p (ver2 : Int) v2 bs2 _ (HSz.out.below HB.out).s HB2.out.1 HB2.out.2).mono ?_
          rintro y w9 ⟨v9, rfl, hv9, hb9⟩
          rw [← HT.out] at hv9
          obtain ⟨AA, cA, e_⟩ := Kd.V_slice hv9
          subst e_
          have HVA := Aside0.mk (Kd.V_reads' hv9)
          clear hv9
          have n_ := Aside0.mk (uo HB.out hb9)
          (try clear HB)
          have HB := n_
          clear n_
          clear hb9
          refine ⟨_, rfl, ?_⟩
          refine hK.out _ _ ⟨us HB.out m0, us HB.out m1, us HB.out m2, us HB.out m3, us HB.out m4, us HB.out m5⟩ (fun hHeld => ?_)
          clear hK K
          refine xj (a' := ?_) ?_ ?_; rotate_left; (· (show Act.put _ (some 143) _ = _); (simp only [Act.put, ua, ub, uc, uh, ui]); rfl)
          refine one_ (i := 15) (N := (some 145)) #[yY, yY, yY, yY, yY, yY, yY, yY, yY, yY, yY, yY, yY, yY, yY, yY, xX, xX, xX, xX, xX, xX, xX, xX, xX, xX, xX, xX, xX, xX, xX, xX, xX, xX, xX, xX, xX, xX, xX, xX, xX, xX, xX, xX, xX, xX, xX, xX] rfl rfl (by kernel_rfl) (by decide) (fun K hK => ?_)
          refine goes_ Try.func22 (by kernel_rfl) rfl #[.slice AA T.length cA, .slice AT T.length cT] (by rfl) rfl rfl (by (try simp only [un, uu, uv]); first | done | rfl) ?_
          refine (vergerref5_Same.calls 3000000 AA cA T AT cT T true _ HVA.out.2.2 HVA.out.2.1 (xb HTC.out.1 HB.out) HTC.out.2 (same_told 3000000 T (by have := HTL.out; omega) (by have := HTL.out; omega))).mono ?_
          rintro y w9 ⟨rfl, hd9⟩
          have hb9 := hd9.below
          clear hd9
          have n_ := Aside0.mk (uo HB.out hb9)
          (try clear HB)
          have HB := n_
          clear n_
          clear hb9
          refine ⟨_, rfl, ?_⟩
          refine hK.out _ _ ⟨us HB.out m0, us HB.out m1, us HB.out m2, us HB.out m3, us HB.out m4, us HB.out m5⟩ (fun hHeld => ?_)
          clear hK K
          refine xj (a' := ?_) ?_ ?_; rotate_left; (· (show Act.put _ (some 145) _ = _); (simp only [Act.put, ua, ub, uc, uh, ui]); rfl)
          refine uj (i := 16) (N := (some 146)) (v := ?_) (a' := ?_) (bA 48 131071) rfl rfl (by kernel_rfl) (fun _ _ _ h => h) (Or.inl ⟨by rfl, ?_⟩) ?_ ?_
          rotate_left; (· (intro w'); go_simp; (with_reducible rfl)); rotate_left; (· (simp only [Act.put, ua, ub, uc, uh, ui]); rfl)
          refine uj (i := 17) (N := (some 147)) (v := ?_) (a' := ?_) (bA 48 262143) rfl rfl (by kernel_rfl) (fun _ _ _ h => h) (Or.inl ⟨by rfl, ?_⟩) ?_ ?_
          rotate_left; (· (intro w'); go_simp; (with_reducible rfl)); rotate_left; (· (simp only [Act.put, ua, ub, uc, uh, ui]); rfl)
          refine uj (i := 18) (N := (some 148)) (v := ?_) (a' := ?_) (bA 48 524287) rfl rfl (by kernel_rfl) (fun _ _ _ h => h) (Or.inl ⟨by rfl, ?_⟩) ?_ ?_
          rotate_left; (· (intro w'); go_simp; (with_reducible rfl)); rotate_left; (· (simp only [Act.put, ua, ub, uc, uh, ui]); rfl)
          refine uj (i := 19) (N := (some 149)) (v := ?_) (a' := ?_) (bA 48 1048575) rfl rfl (by kernel_rfl) (fun _ _ _ h => h) (Or.inl ⟨by rfl, ?_⟩) ?_ ?_
          rotate_left; (· (intro w'); go_simp; (with_reducible rfl)); rotate_left; (· (simp only [Act.put, ua, ub, uc, uh, ui]); rfl)
          refine uj (i := 21) (N := (some 151)) (v := ?_) (a' := ?_) (bA 48 3145727) rfl rfl (by kernel_rfl) (fun _ _ _ h => h) (Or.inl ⟨by rfl, ?_⟩) ?_ ?_
          rotate_left; (· (intro w'); go_simp; (with_reducible rfl)); rotate_left; (· (simp only [Act.put, ua, ub, uc, uh, ui]); rfl)
          refine uj (i := 22) (N := (some 152)) (v := ?_) (a' := ?_) (bA 48 7340031) rfl rfl (by kernel_rfl) (fun _ _ _ h => h) (Or.inl ⟨by rfl, ?_⟩) ?_ ?_
          rotate_left; (· (intro w'); go_simp; (with_reducible rfl)); rotate_left; (· (simp only [Act.put, ua, ub, uc, uh, ui]); rfl)
          refine one_ (i := 20) (N := (some 150)) #[yY, yY, yY, yY, yY, yY, yY, yY, yY, yY, yY, yY, yY, yY, yY, yY, yY, yY, yY, yY, yY, yY, yY, xX, xX, xX, xX, xX, xX, xX, xX, xX, xX, xX, xX, xX, xX, xX, xX, xX, xX, xX, xX, xX, xX, xX, xX, xX] rfl rfl (by kernel_rfl) (by decide) (fun K hK => ?_)
          refine goes_ Try.func24 (by kernel_rfl) rfl #[.pointer (some ⟨p, 0, none⟩)] (by rfl) rfl rfl (by (try simp only [un, uu, uv]); first | done | rfl) ?_
          refine (sh_len w.heap.size p (ver2 : Int) v2 bs2 _ (HSz.out.below HB.out).s HB2.out.1 HB2.out.2).mono ?_
          rintro y w9 ⟨rfl, hb9⟩
          rw [← HTN.out]
          have n_ := Aside0.mk (uo HB.out hb9)
          (try clear HB)
          have HB := n_
          clear n_
          clear hb9
          refine ⟨_, rfl, ?_⟩
          refine hK.out _ _ ⟨us HB.out m0, us HB.out m1, us HB.out m2, us HB.out m3, us HB.out m4, us HB.out m5⟩ (fun hHeld => ?_)
          clear hK K
          refine xj (a' := ?_) ?_ ?_; rotate_left; (· (show Act.put _ (some 150) _ = _); (simp only [Act.put, ua, ub, uc, uh, ui]); rfl)
          refine uj (i := 23) (N := (some 153)) (v := ?_) (a' := ?_) (bA 48 16777215) rfl rfl (by kernel_rfl) (fun _ _ _ h => h) (Or.inl ⟨by rfl, ?_⟩) ?_ ?_
          rotate_left; (· (intro w'); go_simp; (with_reducible rfl)); rotate_left; (· (simp only [Act.put, ua, ub, uc, uh, ui]); rfl)
          refine uj (i := 24) (N := (some 154)) (v := ?_) (a' := ?_) (bA 48 33554431) rfl rfl (by kernel_rfl) (fun _ _ _ h => h) (Or.inl ⟨by rfl, ?_⟩) ?_ ?_
          rotate_left; (· (intro w'); go_simp; (with_reducible rfl)); rotate_left; (· (simp only [Act.put, ua, ub, uc, uh, ui]); rfl)
          refine uj (i := 25) (N := (some 155)) (v := ?_) (a' := ?_) (bA 48 67108863) rfl rfl (by kernel_rfl) (fun _ _ _ h => h) (Or.inl ⟨by rfl, ?_⟩) ?_ ?_
          rotate_left; (· (intro w'); go_simp; (with_reducible rfl)); rotate_left; (· (simp only [Act.put, ua, ub, uc, uh, ui]); rfl)
          refine xk (i := 26) (N := (some 156)) (v := ?_) (a' := ?_) (bA 48 134217727) rfl rfl (by kernel_rfl) (fun _ _ _ h => h) (Or.inl ⟨by rfl, ?_⟩) hHeld ?_ ?_
          rotate_left; (· (rintro w' ⟨s0, s1, s2, s3, s4, s5⟩); go_simp; (with_reducible rfl)); rotate_left; (· (simp only [Act.put, ua, ub, uc, uh, ui]); rfl)
          refine xk (i := 27) (N := (some 157)) (v := ?_) (a' := ?_) (bA 48 268435455) rfl rfl (by kernel_rfl) (fun _ _ _ h => h) (Or.inl ⟨by rfl, ?_⟩) hHeld ?_ ?_
          rotate_left; (· (rintro w' ⟨s0, s1, s2, s3, s4, s5⟩); go_simp; (with_reducible rfl)); rotate_left; (· (simp only [Act.put, ua, ub, uc, uh, ui]); rfl)
          refine uj (i := 28) (N := (some 158)) (v := ?_) (a' := ?_) (bA 48 536870911) rfl rfl (by kernel_rfl) (fun _ _ _ h => h) (Or.inl ⟨by rfl, ?_⟩) ?_ ?_
          rotate_left; (· (intro w'); go_simp; (with_reducible rfl)); rotate_left; (· (simp only [Act.put, ua, ub, uc, uh, ui]); rfl)
          refine uj (i := 29) (N := (some 159)) (v := ?_) (a' := ?_) (bA 48 1073741823) rfl rfl (by kernel_rfl) (fun _ _ _ h => h) (Or.inl ⟨by rfl, ?_⟩) ?_ ?_
          rotate_left; (· (intro w'); go_simp; (with_reducible rfl)); rotate_left; (· (simp only [Act.put, ua, ub, uc, uh, ui]); rfl)
          refine uj (i := 30) (N := (some 160)) (v := ?_) (a' := ?_) (bA 48 2147483647) rfl rfl (by kernel_rfl) (fun _ _ _ h => h) (Or.inl ⟨by rfl, ?_⟩) ?_ ?_
          rotate_left; (· (intro w'); go_simp; (with_reducible rfl)); rotate_left; (· (simp only [Act.put, ua, ub, uc, uh, ui]); rfl)
          refine uj (i := 31) (N := (some 161)) (v := ?_) (a' := ?_) (bA 48 4294967295) rfl rfl (by kernel_rfl) (fun _ _ _ h => h) (Or.inl ⟨by rfl, ?_⟩) ?_ ?_
          rotate_left; (· (intro w'); go_simp; (with_reducible rfl)); rotate_left; (· (simp only [Act.put, ua, ub, uc, uh, ui]); rfl)
          refine uj (i := 32) (N := (some 162)) (v := ?_) (a' := ?_) (bA 48 8589934591) rfl rfl (by kernel_rfl) (fun _ _ _ h => h) (Or.inl ⟨by rfl, ?_⟩) ?_ ?_
          rotate_left; (· (intro w'); go_simp; (with_reducible rfl)); rotate_left; (· (simp only [Act.put, ua, ub, uc, uh, ui]); rfl)
          refine uj (i := 33) (N := (some 163)) (v := ?_) (a' := ?_) (bA 48 17179869183) rfl rfl (by kernel_rfl) (fun _ _ _ h => h) (Or.inl ⟨by rfl, ?_⟩) ?_ ?_
          rotate_left; (· (intro w'); go_simp; (with_reducible rfl)); rotate_left; (· (simp only [Act.put, ua, ub, uc, uh, ui]); rfl)
          refine uj (i := 34) (N := (some 164)) (v := ?_) (a' := ?_) (bA 48 34359738367) rfl rfl (by kernel_rfl) (fun _ _ _ h => h) (Or.inl ⟨by rfl, ?_⟩) ?_ ?_
          rotate_left; (· (intro w'); go_simp; (with_reducible rfl)); rotate_left; (· (simp only [Act.put, ua, ub, uc, uh, ui]); rfl)
          refine uj (i := 35) (N := (some 165)) (v := ?_) (a' := ?_) (bA 48 68719476735) rfl rfl (by kernel_rfl) (fun _ _ _ h => h) (Or.inl ⟨by rfl, ?_⟩) ?_ ?_
          rotate_left; (· (intro w'); go_simp; (with_reducible rfl)); rotate_left; (· (simp only [Act.put, ua, ub, uc, uh, ui]); rfl)
          refine uj (i := 36) (N := (some 166)) (v := ?_) (a' := ?_) (bA 48 137438953471) rfl rfl (by kernel_rfl) (fun _ _ _ h => h) (Or.inl ⟨by rfl, ?_⟩) ?_ ?_
          rotate_left; (· (intro w'); go_simp; (with_reducible rfl)); rotate_left; (· (simp only [Act.put, ua, ub, uc, uh, ui]); rfl)
          refine uj (i := 37) (N := (some 167)) (v := ?_) (a' := ?_) (bA 48 274877906943) rfl rfl (by kernel_rfl) (fun _ _ _ h => h) (Or.inl ⟨by rfl, ?_⟩) ?_ ?_
          rotate_left; (· (intro w'); go_simp; (with_reducible rfl)); rotate_left; (· (simp only [Act.put, ua, ub, uc, uh, ui]); rfl)
          refine uj (i := 39) (N := (some 169)) (v := ?_) (a' := ?_) (bA 48 824633720831) rfl rfl (by kernel_rfl) (fun _ _ _ h => h) (Or.inl ⟨by rfl, ?_⟩) ?_ ?_
          rotate_left; (· (intro w'); go_simp; (with_reducible rfl)); rotate_left; (· (simp only [Act.put, ua, ub, uc, uh, ui]); rfl)
          refine uj (i := 40) (N := (some 170)) (v := ?_) (a' := ?_) (bA 48 1924145348607) rfl rfl (by kernel_rfl) (fun _ _ _ h => h) (Or.inl ⟨by rfl, ?_⟩) ?_ ?_
          rotate_left; (· (intro w'); go_simp; (with_reducible rfl)); rotate_left; (· (simp only [Act.put, ua, ub, uc, uh, ui]); rfl)
          refine uj (i := 41) (N := (some 171)) (v := ?_) (a' := ?_) (bA 48 4123168604159) rfl rfl (by kernel_rfl) (fun _ _ _ h => h) (Or.inl ⟨by rfl, ?_⟩) ?_ ?_
          rotate_left; (· (intro w'); go_simp; (with_reducible rfl)); rotate_left; (· (simp only [Act.put, ua, ub, uc, uh, ui]); rfl)
          refine uj (i := 42) (N := (some 172)) (v := ?_) (a' := ?_) (bA 48 8521215115263) rfl rfl (by kernel_rfl) (fun _ _ _ h => h) (Or.inl ⟨by rfl, ?_⟩) ?_ ?_
          rotate_left; (· (intro w'); go_simp; (with_reducible rfl)); rotate_left; (· (simp only [Act.put, ua, ub, uc, uh, ui]); rfl)
          refine uj (i := 43) (N := (some 173)) (v := ?_) (a' := ?_) (bA 48 17317308137471) rfl rfl (by kernel_rfl) (fun _ _ _ h => h) (Or.inl ⟨by rfl, ?_⟩) ?_ ?_
          rotate_left; (· (intro w'); go_simp; (with_reducible rfl)); rotate_left; (· (simp only [Act.put, ua, ub, uc, uh, ui]); rfl)
          refine uj (i := 44) (N := (some 174)) (v := ?_) (a' := ?_) (bA 48 34909494181887) rfl rfl (by kernel_rfl) (fun _ _ _ h => h) (Or.inl ⟨by rfl, ?_⟩) ?_ ?_
          rotate_left; (· (intro w'); go_simp; (with_reducible rfl)); rotate_left; (· (simp only [Act.put, ua, ub, uc, uh, ui]); rfl)
          refine one_ (i := 38) (N := (some 168)) #[yY, yY, yY, yY, yY, yY, yY, yY, yY, yY, yY, yY, yY, yY, yY, yY, yY, yY, yY, yY, yY, yY, yY, yY, yY, yY, yY, yY, yY, yY, yY, yY, yY, yY, yY, yY, yY, yY, yY, yY, yY, yY, yY, yY, yY, xX, xX, xX] rfl rfl (by kernel_rfl) (by decide) (fun K hK => ?_)
          refine goes_ Try.func25 (by kernel_rfl) rfl #[.pointer (some ⟨p, 0, none⟩), .int .i64 (n : Int)] (by rfl) rfl rfl (by (try simp only [un, uu, uv]); first | done | rfl) ?_
          refine (sh_first w.heap.size p (ver2 : Int) v2 bs2 (n : Int) _ (HSz.out.below HB.out).s HB2.out.1 HB2.out.2).mono ?_
          rintro y w9 ⟨v9, rfl, hv9, hb9⟩
          rw [HFF.out] at hv9
          obtain ⟨AF, cF, e_⟩ := Kd.V_slice hv9
          subst e_
          have HVF := Aside0.mk (Kd.V_reads' hv9)
          clear hv9
          have n_ := Aside0.mk (uo HB.out hb9)
          (try clear HB)
          have HB := n_
          clear n_
          clear hb9
          refine ⟨_, rfl, ?_⟩
          refine hK.out _ _ ⟨us HB.out m0, us HB.out m1, us HB.out m2, us HB.out m3, us HB.out m4, us HB.out m5⟩ (fun hHeld => ?_)
          clear hK K
          refine xj (a' := ?_) ?_ ?_; rotate_left; (· (show Act.put _ (some 168) _ = _); (simp only [Act.put, ua, ub, uc, uh, ui]); rfl)
          refine one_ (i := 45) (N := (some 175)) #[yY, yY, yY, yY, yY, yY, yY, yY, yY, yY, yY, yY, yY, yY, yY, yY, yY, yY, yY, yY, yY, yY, yY, yY, yY, yY, yY, yY, yY, yY, yY, yY, yY, yY, yY, yY, yY, yY, yY, yY, yY, yY, yY, yY, yY, yY, xX, xX] rfl rfl (by kernel_rfl) (by decide) (fun K hK => ?_)
          refine goes_ Try.func22 (by kernel_rfl) rfl #[.slice AF F.length cF, .slice AT F.length cT] (by rfl) rfl rfl (by (try simp only [un, uu, uv]); first | done | rfl) ?_
          refine (vergerref5_Same.calls 3000000 AF cF F AT cT F true _ HVF.out.2.2 HVF.out.2.1 (xb HFC.out.1 HB.out) HFC.out.2 (same_told 3000000 F (by have := HTL.out; have := HFC.out.2; have := HFL.out; omega) (by have := HTL.out; have := HFL.out; omega))).mono ?_
          rintro y w9 ⟨rfl, hd9⟩
          have hb9 := hd9.below
          clear hd9
          have n_ := Aside0.mk (uo HB.out hb9)
          (try clear HB)
          have HB := n_
          clear n_
          clear hb9
          refine ⟨_, rfl, ?_⟩
          refine hK.out _ _ ⟨us HB.out m0, us HB.out m1, us HB.out m2, us HB.out m3, us HB.out m4, us HB.out m5⟩ (fun hHeld => ?_)
          clear hK K
          refine xj (a' := ?_) ?_ ?_; rotate_left; (· (show Act.put _ (some 175) _ = _); (simp only [Act.put, ua, ub, uc, uh, ui]); rfl)
          refine uj (i := 46) (N := (some 176)) (v := ?_) (a' := ?_) (bA 48 140737488355327) rfl rfl (by kernel_rfl) (fun _ _ _ h => h) (Or.inl ⟨by rfl, ?_⟩) ?_ ?_
          rotate_left; (· (intro w'); go_simp; (with_reducible rfl)); rotate_left; (· (simp only [Act.put, ua, ub, uc, uh, ui]); rfl)
          refine uj (i := 47) (N := (some 177)) (v := ?_) (a' := ?_) (bA 48 281474976710655) rfl rfl (by kernel_rfl) (fun _ _ _ h => h) (Or.inl ⟨by rfl, ?_⟩) ?_ ?_
          rotate_left; (· (intro w'); go_simp; (with_reducible rfl)); rotate_left; (· (simp only [Act.put, ua, ub, uc, uh, ui]); rfl)
          refine done_ (by kernel_rfl) ?_
          go_wp2_with fail
          go_roundw
          case rel => exact ⟨i + 1, ver2, v2, _, bs2, by go_num, by omega, by omega, ⟨HSz.out.below HB.out⟩⟩
          case measure => simp [intOf]; omega
      · have n5 : 40 < o.f5.length := by omega
        have n6 : (40 : Int) < (o.f5.length : Int) := by omega
        have n7 : decide (40 < o.f5.length) = true := decide_eq_true n5
        have n8 : decide ((40 : Int) < (o.f5.length : Int)) = true := decide_eq_true n6
        go_wp2_with fail
        refine (awake8 _).mono ?_
        rintro y w9 ⟨rfl, hb9⟩
        have HB9 := Aside0.mk (uo HSTa.out.bel hb9)
        clear hb9
        go_wp2
        go_ret
        exact ⟨rfl, HB9.out⟩
    · have n1 : 40 < o.f4.length := by omega
      have n2 : (40 : Int) < (o.f4.length : Int) := by omega
      have n3 : decide (40 < o.f4.length) = true := decide_eq_true n1
      have n4 : decide ((40 : Int) < (o.f4.length : Int)) = true := decide_eq_true n2
      go_wp2_with fail
      refine (awake8 _).mono ?_
      rintro y w9 ⟨rfl, hb9⟩
      have HB9 := Aside0.mk (uo HSTa.out.bel hb9)
      clear hb9
      go_wp2
      go_ret
      exact ⟨rfl, HB9.out⟩
  · by_cases h1 : i < l.length
    · have h2 : decide ((i : Int) < 30) = false := decide_eq_false (by have : ¬ i < 30 := fun h => hlt ⟨h1, h⟩; omega)
      have h3 : ¬ (i : Int) < 30 := by have : ¬ i < 30 := fun h => hlt ⟨h1, h⟩; omega
      have h4 : (i : Int) < (l.length : Int) := by omega
      clear hlt
      go_wp2_with fail
      refine (awake8 _).mono ?_
      rintro y w9 ⟨rfl, hb9⟩
      have HB9 := Aside0.mk (uo HST.out.bel hb9)
      clear hb9
      go_wp2
      go_ret
      exact ⟨rfl, HB9.out⟩
    · have h2 : ¬ (i : Int) < (l.length : Int) := by omega
      clear hlt
      go_wp2_with fail
      refine (awake8 _).mono ?_
      rintro y w9 ⟨rfl, hb9⟩
      have HB9 := Aside0.mk (uo HST.out.bel hb9)
      clear hb9
      go_wp2
      go_ret
      exact ⟨rfl, HB9.out⟩
end Go.Proofs.Ytdfndglenbckhaa.V
