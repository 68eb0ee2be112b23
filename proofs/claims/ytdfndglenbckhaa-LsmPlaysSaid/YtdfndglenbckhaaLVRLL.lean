-- a text of this work, without what this claim doesn't use (wip/shake.py)
import Derived.Test.YtdfndglenbckhaaLVShP
import Derived.Test.YtdfndglenbckhaaLVLsm1L
import Derived.Test.YtdfndglenbckhaaLVPcmp
import Derived.Deep.DeepCutAuto
import Derived.Deep.CutBlock
import Derived.Test.YtdfndglenbckhaaLVE46
section
set_option linter.unusedVariables false
set_option linter.unusedSimpArgs false
namespace Go.Proofs.Ytdfndglenbckhaa.V
open Go.RowKit Go.Proofs.YtdfndglenbckhaaW.PrintWords Go.Proofs.YtdfndglenbckhaaW.PrintLast Go.Proofs.YtdfndglenbckhaaW.PrintMore
theorem sorted3 : SortedE ([⟨6, 3⟩, ⟨7, 2⟩, ⟨8, 1⟩] : List E) := by
 simp [SortedE, leE, ltE]
set_option maxRecDepth 100000 in
set_option maxHeartbeats 4000000 in
theorem awake7 (w : World) : Calls Try.prog 37 #[] w fun e w' => e = .returned (.bool true) ∧ Below w.heap.size w w' := by
 go_enter Try.func37, Try.ntmps37
 go_wp2_with fail
 refine (new_ok w).mono ?_
 rintro x w1 ⟨rfl, hk1⟩
 have HK1 := Aside0.mk hk1
 clear hk1
 go_wp2_with fail
 go_loopw [2] (fun i wr => ∃ (j : Int) (v : Value) (bs : List Bk), i = .int .i64 j ∧ ((j = 1 ∧ Aside0 (LOk w wr w.heap.size v bs [] [])) ∨ (j = 2 ∧ Aside0 (LOk w wr w.heap.size v bs (lvN 1) [⟨8, 1⟩])) ∨ (j = 3 ∧ Aside0 (LOk w wr w.heap.size v bs (lvN 2) [⟨7, 2⟩, ⟨8, 1⟩])) ∨ (j = 4 ∧ Aside0 (LOk w wr w.heap.size v bs (lvN 3) [⟨6, 3⟩, ⟨7, 2⟩, ⟨8, 1⟩])))) (fun i _ => (5 - intOf i).toNat)
 case atStart => exact ⟨1, _, _, rfl, .inl ⟨rfl, HK1⟩⟩
 case round =>
  obtain ⟨j, v, bs, rfl, hj⟩ := hrel
  rcases hj with ⟨rfl, HK⟩ | ⟨rfl, HK⟩ | ⟨rfl, HK⟩ | ⟨rfl, HK⟩
  · go_wp2_with fail
    refine (put_ok HK.out ⟨8, 1⟩ (by simp) (by simp)).mono ?_
    rintro x w2 ⟨rfl, v2, bs2, hk2⟩
    have HK2 := Aside0.mk hk2
    clear hk2
    go_wp2
    go_roundw
    case rel => exact ⟨2, v2, bs2, rfl, .inr (.inl ⟨rfl, HK2⟩)⟩
    case measure => simp [intOf]
  · go_wp2_with fail
    refine (put_ok HK.out ⟨7, 2⟩ (by simp) (by decide)).mono ?_
    rintro x w2 ⟨rfl, v2, bs2, hk2⟩
    have HK2 := Aside0.mk hk2
    clear hk2
    go_wp2
    go_roundw
    case rel => exact ⟨3, v2, bs2, rfl, .inr (.inr (.inl ⟨rfl, HK2⟩))⟩
    case measure => simp [intOf]
  · go_wp2_with fail
    refine (put_ok HK.out ⟨6, 3⟩ (by simp) (by decide)).mono ?_
    rintro x w2 ⟨rfl, v2, bs2, hk2⟩
    have HK2 := Aside0.mk hk2
    clear hk2
    go_wp2
    go_roundw
    case rel => exact ⟨4, v2, bs2, rfl, .inr (.inr (.inr ⟨rfl, HK2⟩))⟩
    case measure => simp [intOf]
  · have hlen := HK.out.len
    have hcnt := HK.out.cnt
    have hl3 : lvN 3 = [1, 0] := by decide
    have hlv := HK.out.lv
    rw [hl3] at hlv hlen
    have HLV := Aside0.mk hlv
    have HLEN := Aside0.mk (show bs.length ≤ 100 ∧ (allB bs).length ≤ 1000000 by simp at hlen hcnt; omega)
    have HCNT := Aside0.mk (show (allB bs).length = 3 from hcnt)
    have hso : sortE (allB bs) = [⟨6, 3⟩, ⟨7, 2⟩, ⟨8, 1⟩] := by rw [sortE_of_perm HK.out.all]; exact sortE_of_sorted sorted3
    have HSO := Aside0.mk hso
    clear hlen hcnt hlv hl3 hso
    go_wp2_with fail
    refine (lsm_min w.heap.size w.heap.size v bs _ HK.out.hat HLEN.out.1 HLEN.out.2).mono ?_
    rintro x w3 ⟨rfl, hb3⟩
    rw [HSO.out]
    rw [show minV ([⟨6, 3⟩, ⟨7, 2⟩, ⟨8, 1⟩] : List E) = (.agg #[.int .u64 6, .int .i64 3], true) from rfl]
    have HK3 := Aside0.mk (HK.out.below (below_step hb3 (below_alloc (Below.refl _ _) (.cells #[.int .u64 6, .int .i64 3] 46))))
    have HX := Aside0.mk (heap_alloc_new w3 (.cells #[.int .u64 6, .int .i64 3] 46))
    have HB3 := Aside0.mk (below_step HK.out.bel hb3)
    clear hb3
    go_wp2_with fail
    refine (lsm_levels w.heap.size w.heap.size v bs _ HK3.out.hat HLEN.out.1).mono ?_
    rintro x w4 ⟨v4, rfl, hv4, hb4⟩
    rw [show (bs.map fun b => b.f0) = [1, 0] from HLV.out] at hv4
    obtain ⟨A4, c4, rfl⟩ := Kd.V_slice hv4
    have hr4 := Kd.V_reads' hv4
    have hb5 := (hb4.block _ (by simp : w3.heap.size < _)).trans HX.out
    have x0 : w4.cell? ⟨w3.heap.size, 0, none⟩ = some (.int .u64 6) := by simp [World.cell?, hb5]
    have HK4 := Aside0.mk (HK3.out.below hb4)
    obtain ⟨ad, rfl⟩ : ∃ ad, A4 = some ad := by
     obtain ⟨ad, e, _⟩ := hr4.2.2.2.2 (by simp)
     exact ⟨ad, e⟩
    have y0 := Kd.foot_int hr4.2.2 0 (by omega) (by simp)
    have y1 := Kd.foot_int hr4.2.2 1 (by omega) (by simp)
    simp only [show Int.toNat 0 = 0 from rfl, show Int.toNat 1 = 1 from rfl, Addr.add_zero', show rd [1, 0] 0 = 1 from rfl, show rd [1, 0] 1 = 0 from rfl] at y0 y1
    have y2 : w4.cell? ⟨(ad.add 0).block, (ad.add 0).off + 1, none⟩ = some (.int .i64 0) := by rw [← add_field _ _ 1 (by omega)]; exact y1
    simp only [Addr.add_zero'] at y2
    clear hv4 hb4 hb5 hr4
    go_wp2_with fail
    refine (lsm_check w.heap.size w.heap.size v bs _ HK4.out.hat HK4.out.good HLEN.out.1 HLEN.out.2).mono ?_
    rintro x w5 ⟨rfl, hb5⟩
    have HK5 := Aside0.mk (HK4.out.below hb5)
    clear hb5 x0 y0 y1 y2
    go_wp2_with fail
    refine (lsm_len w.heap.size w.heap.size v bs _ HK5.out.hat HLEN.out.1 HLEN.out.2).mono ?_
    rintro x w6 ⟨rfl, hb6⟩
    rw [HCNT.out]
    have HK6 := Aside0.mk (HK5.out.below hb6)
    clear hb6
    go_wp2
    go_ret
    exact ⟨by first | rfl | simp, HK6.out.bel⟩
end Go.Proofs.Ytdfndglenbckhaa.V
end
section
set_option linter.unusedVariables false
set_option linter.unusedSimpArgs false
namespace Go.Proofs.Ytdfndglenbckhaa.V
open Go.RowKit Go.Proofs.YtdfndglenbckhaaW.PrintWords Go.Proofs.YtdfndglenbckhaaW.PrintLast Go.Proofs.YtdfndglenbckhaaW.PrintMore
theorem rdL_at {L : List Int} {k : Nat} {x : Int} (h : L[k]? = some x) : rd L (k : Int) = x := by
 unfold rd
 rw [Int.toNat_natCast, List.getD_eq_getElem?_getD, h]
 rfl
set_option maxRecDepth 100000 in
set_option maxHeartbeats 16000000 in
theorem lsmPlays_walk (A : Option Addr) (c : Nat) (l : List S62) (w : World) (hr : k62.C w A l.length l) (hc : l.length ≤ c) :
 Calls Try.prog 4 #[.slice A l.length c] w fun e w' => e = .returned (.bool true) ∧ Below w.heap.size w w' := by
 have HR := Aside0.mk hr
 have hl63 : l.length ≤ 9223372036854775807 := hr.2.1
 clear hr
 go_enter Try.func4, Try.ntmps4
 go_wp2_with fail
 refine (lsm_new w).mono ?_
 rintro y w1 ⟨rfl, hs1, hb1⟩
 have HS1 := Aside0.mk hs1
 have HB1 := Aside0.mk hb1
 clear hs1 hb1
 go_upto_region 5 with fail
 obtain ⟨p, hp⟩ : ∃ p, p = w.heap.size := ⟨_, rfl⟩
 obtain ⟨q, hq⟩ : ∃ q, q = w1.heap.size := ⟨_, rfl⟩
 obtain ⟨w2, hw2⟩ : ∃ w2 : World, w2 = w1.alloc (.cells #[.slice none 0 0] 60) := ⟨_, rfl⟩
 rw [← hw2, ← hp, ← hq]
 have HST : Aside0 (St7 w w2 p q (.slice none 0 0) (.slice none 0 0) [] 0) := ⟨by
  have hz := uf (Below.refl w1.heap.size w1) (.cells #[.slice none 0 0] 60)
  have hn := heap_alloc_new w1 (.cells #[.slice none 0 0] 60)
  have hlt := HS1.out.lt
  rw [← hw2] at hz hn
  rw [← hp] at hlt
  refine ⟨by rw [hp]; exact HS1.out.below hz, ⟨by rw [hq]; exact hn, Kd.V_nil _ _ _ _ _, by rw [hq]; exact HB1.out.size, fun k hk => hk.1⟩, good_nil, by rw [allB_nil]; exact vn _, by omega, by simp [Value.ownBlock], ur HB1.out hz⟩⟩
 clear hp hq hw2 HS1 HB1
 go_wp2_with fail
 go_loopw [5] (fun s5 wr => ∃ (i : Nat) (v v' : Value) (bs : List Bk), s5 = .int .i64 i ∧ i ≤ l.length ∧ i ≤ 80 ∧ Aside0 (St7 w wr p q v v' bs i)) (fun s5 _ => 81 - (intOf s5).toNat)
 case atStart => exact ⟨0, _, _, [], rfl, Nat.zero_le _, by omega, HST⟩
 case round =>
  clear HST
  obtain ⟨i, v, v', bs, rfl, hil, hi80, HST⟩ := hrel
  have HFW := Aside0.mk (HST.out.few (by omega))
  by_cases hlt : i < l.length ∧ i < 80
  · obtain ⟨hlt, hlt80⟩ := hlt
    obtain ⟨o, ho⟩ : ∃ o, l[i]? = some o := ⟨_, List.getElem?_eq_getElem hlt⟩
    obtain ⟨ad, rfl, y0, y1, y2⟩ := op7_at (xk HR.out HST.out.bel) ho
    have hil0 : (i : Int) < (l.length : Int) := by omega
    have hi0 : (0 : Int) ≤ (i : Int) := by omega
    have d80 : decide ((i : Int) < 80) = true := decide_eq_true (by omega)
    have hi80' : (i : Int) < 80 := by omega
    clear ho
    go_upto_region 9 with fail
    obtain ⟨go, hgo⟩ : ∃ go, go = wr.heap.size := ⟨_, rfl⟩
    obtain ⟨wa, hwa⟩ : ∃ wa : World, wa = wr.alloc (.cells #[.int .i64 o.f0, .int .u64 o.f1.f0, .int .i64 o.f1.f1] 62) := ⟨_, rfl⟩
    rw [← hwa, ← hgo]
    have HX := Aside0.mk (show wa.heap[go]? = some (.cells #[.int .i64 o.f0, .int .u64 o.f1.f0, .int .i64 o.f1.f1] 62 (0, 0)) by rw [hwa, hgo]; exact heap_alloc_new _ _)
    have hba : Below wr.heap.size wr wa := by rw [hwa]; exact uf (Below.refl _ _) _
    have HSa := Aside0.mk (HST.out.below hba)
    have HGP := Aside0.mk (show go ≠ p ∧ go ≠ q ∧ some go ≠ v.ownBlock from ⟨by have := HST.out.l.lt; omega, by have := HST.out.r.lt; omega, fun e => by have := (HST.out.l.own go e.symm).2.1; omega⟩)
    have x0 : wa.cell? ⟨go, 0, none⟩ = some (.int .i64 o.f0) := (uv HX.out 0).trans rfl
    clear hgo hwa hba y0 y1 y2
    go_upto_block 2 with fail
    go_cut [] (fun wx => ∃ (v2 v2' : Value) (bs2 : List Bk), Aside0 (St7 w wx p q v2 v2' bs2 (i + 1)))
    case first =>
     by_cases k0 : o.f0 = 0
     · have kq : (o.f0 == 0) = true := by rw [k0]; rfl
       have x1 : wa.cell? ⟨go, 1, none⟩ = some (.int .u64 o.f1.f0) := (uv HX.out 1).trans rfl
       have x2 : wa.cell? ⟨go, 2, none⟩ = some (.int .i64 o.f1.f1) := (uv HX.out 2).trans rfl
       clear k0
       as_aux_lemma =>
        go_wp2_with fail
        refine (lsm_put w.heap.size p v bs o.f1 _ HSa.out.l HSa.out.good (by have := HFW.out; omega) (by have := HSa.out.cnt; omega)).mono ?_
        rintro y w6 ⟨rfl, v6, hl6, ht6⟩
        have HL6 := Aside0.mk hl6
        have HT6 := Aside0.mk ht6
        have HN6 := Aside0.mk (HSa.out.next hl6 ht6)
        have HX6 := Aside0.mk (turn_blk HX.out ht6 HGP.out.1 HGP.out.2.2)
        have z1 : w6.cell? ⟨go, 1, none⟩ = some (.int .u64 o.f1.f0) := (uv HX6.out 1).trans rfl
        have z2 : w6.cell? ⟨go, 2, none⟩ = some (.int .i64 o.f1.f1) := (uv HX6.out 2).trans rfl
        clear hl6 ht6 x1 x2
        go_wp2_with fail
        refine (rl_put w.heap.size q (OK7 p q v6) v' bs o.f1 _ HN6.out.1 HN6.out.2.2 HSa.out.good (by have := HFW.out; omega) (by have := HSa.out.cnt; omega)).mono ?_
        rintro y w7 ⟨rfl, v7, hr7, hg7⟩
        have HS7 := Aside0.mk (HSa.out.close HL6.out HT6.out hr7 hg7 (good_put HSa.out.good o.f1 (by have := HSa.out.cnt; omega)) (by have h1 := (put_all bs o.f1).length_eq; rw [List.length_cons] at h1; have := HSa.out.cnt; omega))
        clear hr7 hg7
        go_wp2_with fail
        go_meet
        exact ⟨_, _, _, HS7⟩
     · have kq : (o.f0 == 0) = false := by rw [beq_eq_false_iff_ne]; exact k0
       have kq2 : decide (o.f0 = 0) = false := decide_eq_false k0
       by_cases k1 : o.f0 = 1
       · have kr : (o.f0 == 1) = true := by rw [k1]; rfl
         have x2 : wa.cell? ⟨go, 2, none⟩ = some (.int .i64 o.f1.f1) := (uv HX.out 2).trans rfl
         have HSd := Aside0.mk (HSa.out.below (below_drew (Below.refl _ _)))
         have HXd := Aside0.mk (vy HX.out (below_drew (Below.refl _ _)))
         clear k0 k1
         as_aux_lemma =>
          go_wp2_with fail
          refine start_ (n := 11) (S := fun w' => w'.cell? ⟨go, 2, none⟩ = some (.int .i64 o.f1.f1) ∧ True) (ds := []) #[xX, xX, xX, xX, xX, xX, xX, xX, xX, xX, xX] (by kernel_rfl) rfl rfl ⟨x2, trivial⟩ (fun hHeld => ?_)
          refine pU (i := 0) (N := (some 57)) (bA 11 1) (by kernel_rfl) rfl ?_
          refine pU (i := 1) (N := (some 58)) (bA 11 3) (by kernel_rfl) rfl ?_
          refine pU (i := 2) (N := (some 59)) (bA 11 7) (by kernel_rfl) rfl ?_
          refine pU (i := 5) (N := (some 62)) (bA 11 39) (by kernel_rfl) rfl ?_
          refine pU (i := 6) (N := (some 63)) (bA 11 103) (by kernel_rfl) rfl ?_
          refine pU (i := 7) (N := (some 64)) (bA 11 231) (by kernel_rfl) rfl ?_
          refine tU (i := 3) (N := (some 60)) (bA 11 239) (by kernel_rfl) rfl hHeld (by (constructor; (rintro w' ⟨s0, s1⟩; go_simp; (with_reducible rfl)); (simp only [Act.put, ua, ub, uc, uh, ui]; rfl))) ?_
          refine tU (i := 8) (N := (some 65)) (bA 11 495) (by kernel_rfl) rfl hHeld (by (constructor; (rintro w' ⟨s0, s1⟩; go_simp; (with_reducible rfl)); (simp only [Act.put, ua, ub, uc, uh, ui]; rfl))) ?_
          refine one_ (i := 4) (N := (some 61)) #[yY, yY, yY, yY, yY, yY, yY, yY, yY, xX, xX] rfl rfl (by kernel_rfl) (by decide) (fun K hK => ?_)
          refine goes_ Try.func29 (by kernel_rfl) rfl #[.pointer (some ⟨p, 0, none⟩), .int .i64 o.f1.f1] (by rfl) rfl rfl (by (try simp only [ul, ut, uu]); first | done | rfl) ?_
          refine (lsm_drop w.heap.size p v bs o.f1.f1 _ HSd.out.l HSd.out.good (by have := HFW.out; omega) (by have := HSd.out.cnt; omega)).mono ?_
          rintro y w6 ⟨rfl, v6, hl6, ht6⟩
          have HL6 := Aside0.mk hl6
          have HT6 := Aside0.mk ht6
          have HN6 := Aside0.mk (HSd.out.next hl6 ht6)
          have HX6 := Aside0.mk (turn_blk HXd.out ht6 HGP.out.1 HGP.out.2.2)
          have kk := (uv HX6.out 2).trans rfl
          clear hl6 ht6
          refine ⟨_, rfl, ?_⟩
          refine hK.out _ _ ⟨kk, trivial⟩ (fun hHeld => ?_)
          clear hK K
          refine vz (a' := ?_) ?_ ?_; rotate_left; (· (show Act.put _ (some 61) _ = _); (simp only [Act.put, ua, ub, uc, uh, ui]); rfl)
          refine one_ (i := 9) (N := (some 66)) #[yY, yY, yY, yY, yY, yY, yY, yY, yY, yY, xX] rfl rfl (by kernel_rfl) (by decide) (fun K hK => ?_)
          refine goes_ Try.func30 (by kernel_rfl) rfl #[.pointer (some ⟨q, 0, none⟩), .int .i64 o.f1.f1] (by rfl) rfl rfl (by (try simp only [ul, ut, uu]); first | done | rfl) ?_
          refine (rl_drop w.heap.size q (OK7 p q v6) v' bs o.f1.f1 _ HN6.out.1 HN6.out.2.2 HSd.out.good (by have := HFW.out; omega) (by have := HSd.out.cnt; omega)).mono ?_
          rintro y w7 ⟨rfl, v7, hr7, hg7⟩
          have HR7 := Aside0.mk hr7
          have HG7 := Aside0.mk hg7
          have kk := (uv ((hg7.block go (blk_lt HX6.out) (fun e => HGP.out.2.1 (by injection e))).trans HX6.out) 2).trans rfl
          clear hr7 hg7
          refine ⟨_, rfl, ?_⟩
          refine hK.out _ _ ⟨kk, trivial⟩ (fun hHeld => ?_)
          clear hK K
          refine vz (a' := ?_) ?_ ?_; rotate_left; (· (show Act.put _ (some 66) _ = _); (simp only [Act.put, ua, ub, uc, uh, ui]); rfl)
          refine pU (i := 10) (N := (some 67)) (bA 11 2047) (by kernel_rfl) rfl ?_
          refine done_ (by kernel_rfl) ?_
          go_wp2_with fail
          go_meet
          exact ⟨_, _, _, ⟨HSd.out.close HL6.out HT6.out HR7.out HG7.out (drop_good HSd.out.good _ (by have := HSd.out.cnt; omega)) (by have h1 := drop_len HSd.out.good o.f1.f1 (by have := HSd.out.cnt; omega); have := HSd.out.cnt; omega)⟩⟩
       · have kr : (o.f0 == 1) = false := by rw [beq_eq_false_iff_ne]; exact k1
         have kr2 : decide (o.f0 = 1) = false := decide_eq_false k1
         obtain ⟨T, hT⟩ : ∃ T, T = sortE (allB bs) := ⟨_, rfl⟩
         have HT := Aside0.mk hT
         have HTL := Aside0.mk (show T.length ≤ 1000000 by rw [hT, sortE_length]; have := HST.out.cnt; omega)
         clear k0 k1 hT
         obtain ⟨Aw, cw, hve, _⟩ := HSa.out.r.reads
         rw [List.length_map] at hve
         subst hve
         have HSd := Aside0.mk (HSa.out.below (below_drew (Below.refl _ _)))
         have q0 := HSa.out.r.cell0
         as_aux_lemma =>
          go_wp2_with fail
          refine start_ (n := 9) (S := fun w' => w'.cell? ⟨q, 0, none⟩ = some (.slice Aw bs.length cw) ∧ True) (ds := []) #[xX, xX, xX, xX, xX, xX, xX, xX, xX] (by kernel_rfl) rfl rfl ⟨q0, trivial⟩ (fun hHeld => ?_)
          refine pU (i := 0) (N := (some 33)) (bA 9 1) (by kernel_rfl) rfl ?_
          refine pU (i := 2) (N := (some 35)) (bA 9 5) (by kernel_rfl) rfl ?_
          refine pU (i := 3) (N := (some 36)) (bA 9 13) (by kernel_rfl) rfl ?_
          refine pU (i := 4) (N := (some 37)) (bA 9 29) (by kernel_rfl) rfl ?_
          refine tU (i := 5) (N := (some 38)) (bA 9 61) (by kernel_rfl) rfl hHeld (by (constructor; (rintro w' ⟨s0, s1⟩; go_simp; (with_reducible rfl)); (simp only [Act.put, ua, ub, uc, uh, ui]; rfl))) ?_
          refine one_ (i := 1) (N := (some 34)) #[yY, yY, yY, yY, yY, yY, xX, xX, xX] rfl rfl (by kernel_rfl) (by decide) (fun K hK => ?_)
          refine goes_ Try.func31 (by kernel_rfl) rfl #[.pointer (some ⟨p, 0, none⟩)] (by rfl) rfl rfl (by (try simp only [ul, ut, uu]); first | done | rfl) ?_
          refine (lsm_drain w.heap.size p v bs _ HSd.out.l HSd.out.good.snd (by have := HFW.out; omega) (by have := HSd.out.cnt; omega)).mono ?_
          rintro y w6 ⟨v0, rfl, hv0, hl6, ht6⟩
          rw [← HT.out] at hv0
          obtain ⟨A0, c0, e_⟩ := Kd.V_slice hv0
          subst e_
          have HV0 := Aside0.mk hv0
          have HL6 := Aside0.mk hl6
          have HT6 := Aside0.mk ht6
          have HN6 := Aside0.mk (HSd.out.next hl6 ht6)
          have kk := HN6.out.1.cell0
          clear hl6 ht6 hv0
          refine ⟨_, rfl, ?_⟩
          refine hK.out _ _ ⟨kk, trivial⟩ (fun hHeld => ?_)
          clear hK K
          refine vz (a' := ?_) ?_ ?_; rotate_left; (· (show Act.put _ (some 34) _ = _); (simp only [Act.put, ua, ub, uc, uh, ui]); rfl)
          refine one_ (i := 6) (N := (some 39)) #[yY, yY, yY, yY, yY, yY, yY, xX, xX] rfl rfl (by kernel_rfl) (by decide) (fun K hK => ?_)
          refine goes_ Try.func18 (by kernel_rfl) rfl #[.slice Aw bs.length cw] (by rfl) rfl rfl (by (try simp only [ul, ut, uu]); first | done | rfl) ?_
          refine (rl_allS HN6.out.1 (by have := HFW.out; omega) (by have := HSd.out.cnt; omega)).mono ?_
          rintro y w7 ⟨AT, cT, rfl, hcT, hC7, hb7⟩
          rw [← HT.out] at hcT hC7 ⊢
          have HV7 := Aside0.mk (xv (Kd.V_below HV0.out hb7))
          have HB7 := Aside0.mk hb7
          have HC7 := Aside0.mk hC7
          have kk := (HN6.out.1.below HB7.out).cell0
          clear hC7 hb7
          refine ⟨_, rfl, ?_⟩
          refine hK.out _ _ ⟨kk, trivial⟩ (fun hHeld => ?_)
          clear hK K
          refine vz (a' := ?_) ?_ ?_; rotate_left; (· (show Act.put _ (some 39) _ = _); (simp only [Act.put, ua, ub, uc, uh, ui]); rfl)
          refine one_ (i := 7) (N := (some 40)) #[yY, yY, yY, yY, yY, yY, yY, yY, xX] rfl rfl (by kernel_rfl) (by decide) (fun K hK => ?_)
          refine goes_ Try.func22 (by kernel_rfl) rfl #[.slice A0 T.length c0, .slice AT T.length cT] (by rfl) rfl rfl (by (try simp only [ul, ut, uu]); first | done | rfl) ?_
          refine (vergerref5_Same.calls 3000000 A0 c0 T AT cT T true _ HV7.out.2.2 HV7.out.2.1 HC7.out hcT (same_told 3000000 T (by have := HTL.out; omega) (by have := HTL.out; omega))).mono ?_
          rintro y w8 ⟨rfl, hd8⟩
          have HB8 := Aside0.mk (ur HB7.out hd8.below)
          have HR8 := Aside0.mk (HN6.out.1.below HB8.out)
          have kk := HR8.out.cell0
          have g0 := HR8.out.froz 0
          clear hd8
          refine ⟨_, rfl, ?_⟩
          refine hK.out _ _ ⟨kk, trivial⟩ (fun hHeld => ?_)
          clear hK K
          refine vz (a' := ?_) ?_ ?_; rotate_left; (· (show Act.put _ (some 40) _ = _); (simp only [Act.put, ua, ub, uc, uh, ui]); rfl)
          refine pU (i := 8) (N := (some 41)) (bA 9 511) (by kernel_rfl) rfl ?_
          refine done_ (by kernel_rfl) ?_
          go_wp2_with fail
          go_meet
          refine ⟨.slice none 0 0, .slice none 0 0, [], ⟨HSd.out.close HL6.out HT6.out ⟨blk_put HR8.out.hd 0 (.slice none 0 0) rfl, Kd.V_nil _ _ _ _ _, HR8.out.lo, HR8.out.okq⟩ (grown_set1 HB8.out) good_nil (by rw [allB_nil]; exact Nat.zero_le _)⟩⟩
    case rest =>
     obtain ⟨v2, v2', bs2, HSx⟩ := hcut
     rename World => wx
     have HB2 := Aside0.mk (show bs2.length ≤ 100 ∧ (allB bs2).length ≤ 1000000 from by have h1 := HSx.out.few (by omega); have h2 := HSx.out.cnt; omega)
     obtain ⟨T, hT⟩ : ∃ T, T = sortE (allB bs2) := ⟨_, rfl⟩
     have HT := Aside0.mk hT
     have hTn : T.length = (allB bs2).length := by rw [hT]; exact sortE_length _
     have HTN := Aside0.mk hTn
     have HTL := Aside0.mk (show T.length ≤ 1000000 by rw [hTn]; exact HB2.out.2)
     have hTl : T.length ≤ 1000000 := HTL.out
     obtain ⟨Aw, cw, hve2, hcall⟩ := rl_all HSx.out.r (by have := HB2.out; omega) HB2.out.2
     subst hve2
     rw [← hT] at hcall
     have HCALL := Aside0.mk hcall
     have q0 := HSx.out.r.cell0
     clear hcall hT hTn HST HSa x0 HFW
     go_wp2_with fail
     refine HCALL.out.mono ?_
     rintro y w6 ⟨AT, cT, rfl, hcT, hC6, hb6⟩
     have HS6 := Aside0.mk (HSx.out.below hb6)
     have HC6 := Aside0.mk hC6
     clear hC6 hb6 q0 HCALL HSx
     go_wp2_with fail
     refine (lsm_levels w.heap.size p v2 bs2 _ HS6.out.l HB2.out.1).mono ?_
     rintro y w7 ⟨v7, rfl, hv7, hb7⟩
     obtain ⟨L, hL⟩ : ∃ L, L = bs2.map fun b => b.f0 := ⟨_, rfl⟩
     rw [← hL] at hv7
     have HLV := Aside0.mk hL
     have hLl : L.length = bs2.length := by rw [hL, List.length_map]
     obtain ⟨AL, cL, rfl⟩ := Kd.V_slice hv7
     have HLC7 := Aside0.mk (xv hv7)
     have HS7 := Aside0.mk (HS6.out.below hb7)
     have HC7 := Aside0.mk (xk HC6.out hb7)
     have HLL := Aside0.mk hLl
     rw [hLl]
     clear hv7 hb7 hL
     go_wp2_with fail
     refine (lsm_min w.heap.size p v2 bs2 _ HS7.out.l HB2.out.1 HB2.out.2).mono ?_
     rintro y w8 ⟨rfl, hb8⟩
     rw [← HT.out]
     obtain ⟨e, r, hmv, hmr⟩ : ∃ (e : E) (r : Bool), minV T = (.agg #[.int .u64 e.f0, .int .i64 e.f1], r) ∧ ((r = false ∧ T = []) ∨ (r = true ∧ T[0]? = some e)) := by
      cases T with
      | nil => exact ⟨⟨0, 0⟩, false, rfl, .inl ⟨rfl, rfl⟩⟩
      | cons a T => exact ⟨a, true, rfl, .inr ⟨rfl, rfl⟩⟩
     rw [hmv]
     clear hmv
     go_upto_region 22 with fail
     obtain ⟨ge, hge⟩ : ∃ ge, ge = w8.heap.size := ⟨_, rfl⟩
     obtain ⟨wz, hwz⟩ : ∃ wz : World, wz = w8.alloc (.cells #[.int .u64 e.f0, .int .i64 e.f1] 46) := ⟨_, rfl⟩
     rw [← hwz, ← hge]
     have HXE := Aside0.mk (show wz.heap[ge]? = some (.cells #[.int .u64 e.f0, .int .i64 e.f1] 46 (0, 0)) by rw [hwz, hge]; exact heap_alloc_new _ _)
     have HBz := Aside0.mk (ur hb8 (show Below w8.heap.size w8 wz by rw [hwz]; exact uf (Below.refl _ _) _))
     have HSz := Aside0.mk (HS7.out.below HBz.out)
     have HTC := Aside0.mk (And.intro (xk HC7.out HBz.out) hcT)
     have HLC := Aside0.mk (And.intro (xk HLC7.out.2.2 HBz.out) HLC7.out.2.1)
     have m0 := HSz.out.r.cell0
     have m1 : wz.cell? ⟨ge, 0, none⟩ = some (.int .u64 e.f0) := (uv HXE.out 0).trans rfl
     have m2 : wz.cell? ⟨ge, 1, none⟩ = some (.int .i64 e.f1) := (uv HXE.out 1).trans rfl
     have hneq := fun W => neqE_same e.f0 e.f1 W
     clear hge hwz hb8 HXE HC7 HLC7
     rcases hmr with ⟨rfl, hTe⟩ | ⟨rfl, hTe⟩
     · have ht0 : T.length = 0 := by rw [hTe]; rfl
       have t1 : ¬ (0 : Int) < (T.length : Int) := by omega
       have t2 : ¬ 0 < T.length := by omega
       have t3 : decide (0 < T.length) = false := decide_eq_false t2
       have t4 : decide ((0 : Int) < (T.length : Int)) = false := decide_eq_false t1
       clear ht0 hTe
       as_aux_lemma =>
        go_wp2_with fail
        have HB := Aside0.mk (below_drew (Below.refl wz.heap.size wz))
        refine start_ (n := 44) (S := fun w' => w'.cell? ⟨q, 0, none⟩ = some (.slice Aw bs2.length cw) ∧ w'.cell? ⟨ge, 0, none⟩ = some (.int .u64 e.f0) ∧ w'.cell? ⟨ge, 1, none⟩ = some (.int .i64 e.f1)) (ds := []) #[xX, xX, xX, xX, xX, xX, xX, xX, xX, xX, xX, xX, xX, xX, xX, xX, xX, xX, xX, xX, xX, xX, xX, xX, xX, xX, xX, xX, xX, xX, xX, xX, xX, xX, xX, xX, xX, xX, xX, xX, xX, xX, xX, xX] (by kernel_rfl) rfl rfl ⟨m0, m1, m2⟩ (fun hHeld => ?_)
        refine pU (i := 0) (N := (some 80)) (bA 44 1) (by kernel_rfl) rfl ?_
        refine pU (i := 2) (N := (some 82)) (bA 44 5) (by kernel_rfl) rfl ?_
        refine one_ (i := 1) (N := (some 81)) #[yY, yY, yY, xX, xX, xX, xX, xX, xX, xX, xX, xX, xX, xX, xX, xX, xX, xX, xX, xX, xX, xX, xX, xX, xX, xX, xX, xX, xX, xX, xX, xX, xX, xX, xX, xX, xX, xX, xX, xX, xX, xX, xX, xX] rfl rfl (by kernel_rfl) (by decide) (fun K hK => ?_)
        refine goes_ Try.func34 (by kernel_rfl) rfl #[.pointer (some ⟨p, 0, none⟩)] (by rfl) rfl rfl (by (try simp only [ul, ut, uu]); first | done | rfl) ?_
        refine (lsm_all w.heap.size p v2 bs2 _ (HSz.out.below HB.out).l HSz.out.good.snd HB2.out.1 HB2.out.2).mono ?_
        rintro y w9 ⟨v9, rfl, hv9, hb9⟩
        rw [← HT.out] at hv9
        obtain ⟨AA, cA, e_⟩ := Kd.V_slice hv9
        subst e_
        have HVA := Aside0.mk (xv hv9)
        clear hv9
        have n_ := Aside0.mk (ur HB.out hb9)
        (try clear HB)
        have HB := n_
        clear n_
        clear hb9
        refine ⟨_, rfl, ?_⟩
        refine hK.out _ _ ⟨uj HB.out m0, uj HB.out m1, uj HB.out m2⟩ (fun hHeld => ?_)
        clear hK K
        refine vz (a' := ?_) ?_ ?_; rotate_left; (· (show Act.put _ (some 81) _ = _); (simp only [Act.put, ua, ub, uc, uh, ui]); rfl)
        refine one_ (i := 3) (N := (some 83)) #[yY, yY, yY, yY, xX, xX, xX, xX, xX, xX, xX, xX, xX, xX, xX, xX, xX, xX, xX, xX, xX, xX, xX, xX, xX, xX, xX, xX, xX, xX, xX, xX, xX, xX, xX, xX, xX, xX, xX, xX, xX, xX, xX, xX] rfl rfl (by kernel_rfl) (by decide) (fun K hK => ?_)
        refine goes_ Try.func22 (by kernel_rfl) rfl #[.slice AA T.length cA, .slice AT T.length cT] (by rfl) rfl rfl (by (try simp only [ul, ut, uu]); first | done | rfl) ?_
        refine (vergerref5_Same.calls 3000000 AA cA T AT cT T true _ HVA.out.2.2 HVA.out.2.1 (xk HTC.out.1 HB.out) HTC.out.2 (same_told 3000000 T (by have := HTL.out; omega) (by have := HTL.out; omega))).mono ?_
        rintro y w9 ⟨rfl, hd9⟩
        have hb9 := hd9.below
        clear hd9
        have n_ := Aside0.mk (ur HB.out hb9)
        (try clear HB)
        have HB := n_
        clear n_
        clear hb9
        refine ⟨_, rfl, ?_⟩
        refine hK.out _ _ ⟨uj HB.out m0, uj HB.out m1, uj HB.out m2⟩ (fun hHeld => ?_)
        clear hK K
        refine vz (a' := ?_) ?_ ?_; rotate_left; (· (show Act.put _ (some 83) _ = _); (simp only [Act.put, ua, ub, uc, uh, ui]); rfl)
        refine pU (i := 4) (N := (some 84)) (bA 44 31) (by kernel_rfl) rfl ?_
        refine pU (i := 5) (N := (some 85)) (bA 44 63) (by kernel_rfl) rfl ?_
        refine pU (i := 6) (N := (some 86)) (bA 44 127) (by kernel_rfl) rfl ?_
        refine pU (i := 8) (N := (some 88)) (bA 44 383) (by kernel_rfl) rfl ?_
        refine pU (i := 9) (N := (some 89)) (bA 44 895) (by kernel_rfl) rfl ?_
        refine one_ (i := 7) (N := (some 87)) #[yY, yY, yY, yY, yY, yY, yY, yY, yY, yY, xX, xX, xX, xX, xX, xX, xX, xX, xX, xX, xX, xX, xX, xX, xX, xX, xX, xX, xX, xX, xX, xX, xX, xX, xX, xX, xX, xX, xX, xX, xX, xX, xX, xX] rfl rfl (by kernel_rfl) (by decide) (fun K hK => ?_)
        refine goes_ Try.func35 (by kernel_rfl) rfl #[.pointer (some ⟨p, 0, none⟩)] (by rfl) rfl rfl (by (try simp only [ul, ut, uu]); first | done | rfl) ?_
        refine (lsm_len w.heap.size p v2 bs2 _ (HSz.out.below HB.out).l HB2.out.1 HB2.out.2).mono ?_
        rintro y w9 ⟨rfl, hb9⟩
        rw [← HTN.out]
        have n_ := Aside0.mk (ur HB.out hb9)
        (try clear HB)
        have HB := n_
        clear n_
        clear hb9
        refine ⟨_, rfl, ?_⟩
        refine hK.out _ _ ⟨uj HB.out m0, uj HB.out m1, uj HB.out m2⟩ (fun hHeld => ?_)
        clear hK K
        refine vz (a' := ?_) ?_ ?_; rotate_left; (· (show Act.put _ (some 87) _ = _); (simp only [Act.put, ua, ub, uc, uh, ui]); rfl)
        refine pU (i := 10) (N := (some 90)) (bA 44 2047) (by kernel_rfl) rfl ?_
        refine pU (i := 11) (N := (some 91)) (bA 44 4095) (by kernel_rfl) rfl ?_
        refine pU (i := 12) (N := (some 92)) (bA 44 8191) (by kernel_rfl) rfl ?_
        refine pU (i := 13) (N := (some 93)) (bA 44 16383) (by kernel_rfl) rfl ?_
        refine one_ (i := 14) (N := (some 94)) #[yY, yY, yY, yY, yY, yY, yY, yY, yY, yY, yY, yY, yY, yY, yY, xX, xX, xX, xX, xX, xX, xX, xX, xX, xX, xX, xX, xX, xX, xX, xX, xX, xX, xX, xX, xX, xX, xX, xX, xX, xX, xX, xX, xX] rfl rfl (by kernel_rfl) (by decide) (fun K hK => ?_)
        refine goes_ Try.func36 (by kernel_rfl) rfl #[.pointer (some ⟨p, 0, none⟩)] (by rfl) rfl rfl (by (try simp only [ul, ut, uu]); first | done | rfl) ?_
        refine (lsm_check w.heap.size p v2 bs2 _ (HSz.out.below HB.out).l HSz.out.good HB2.out.1 HB2.out.2).mono ?_
        rintro y w9 ⟨rfl, hb9⟩
        have n_ := Aside0.mk (ur HB.out hb9)
        (try clear HB)
        have HB := n_
        clear n_
        clear hb9
        refine ⟨_, rfl, ?_⟩
        refine hK.out _ _ ⟨uj HB.out m0, uj HB.out m1, uj HB.out m2⟩ (fun hHeld => ?_)
        clear hK K
        refine vz (a' := ?_) ?_ ?_; rotate_left; (· (show Act.put _ (some 94) _ = _); (simp only [Act.put, ua, ub, uc, uh, ui]); rfl)
        refine pU (i := 15) (N := (some 95)) (bA 44 65535) (by kernel_rfl) rfl ?_
        refine pU (i := 16) (N := (some 96)) (bA 44 131071) (by kernel_rfl) rfl ?_
        refine pU (i := 17) (N := (some 97)) (bA 44 262143) (by kernel_rfl) rfl ?_
        refine pU (i := 18) (N := (some 98)) (bA 44 524287) (by kernel_rfl) rfl ?_
        refine pU (i := 19) (N := (some 99)) (bA 44 1048575) (by kernel_rfl) rfl ?_
        refine pU (i := 20) (N := (some 100)) (bA 44 2097151) (by kernel_rfl) rfl ?_
        refine pU (i := 21) (N := (some 101)) (bA 44 4194303) (by kernel_rfl) rfl ?_
        refine pU (i := 22) (N := (some 102)) (bA 44 8388607) (by kernel_rfl) rfl ?_
        refine pU (i := 23) (N := (some 103)) (bA 44 16777215) (by kernel_rfl) rfl ?_
        refine pU (i := 24) (N := (some 104)) (bA 44 33554431) (by kernel_rfl) rfl ?_
        refine pU (i := 25) (N := (some 105)) (bA 44 67108863) (by kernel_rfl) rfl ?_
        refine pU (i := 26) (N := (some 106)) (bA 44 134217727) (by kernel_rfl) rfl ?_
        refine uk (i := 27) (N := (some 107)) (v := undef) (a' := ?_) (bA 44 268435455) rfl rfl (by kernel_rfl) (fun _ _ _ h => h) (Or.inr ⟨by rfl, rfl⟩) ?_ ?_
        rotate_left
        · simp only [Act.put, ua, ub, uc, uh, ui]
          rfl
        refine uk (i := 28) (N := (some 108)) (v := undef) (a' := ?_) (bA 44 536870911) rfl rfl (by kernel_rfl) (fun _ _ _ h => h) (Or.inr ⟨by rfl, rfl⟩) ?_ ?_
        rotate_left
        · simp only [Act.put, ua, ub, uc, uh, ui]
          rfl
        refine uk (i := 29) (N := (some 109)) (v := undef) (a' := ?_) (bA 44 1073741823) rfl rfl (by kernel_rfl) (fun _ _ _ h => h) (Or.inr ⟨by rfl, rfl⟩) ?_ ?_
        rotate_left
        · simp only [Act.put, ua, ub, uc, uh, ui]
          rfl
        refine uk (i := 30) (N := (some 110)) (v := undef) (a' := ?_) (bA 44 2147483647) rfl rfl (by kernel_rfl) (fun _ _ _ h => h) (Or.inr ⟨by rfl, rfl⟩) ?_ ?_
        rotate_left
        · simp only [Act.put, ua, ub, uc, uh, ui]
          rfl
        refine uk (i := 31) (N := (some 111)) (v := undef) (a' := ?_) (bA 44 4294967295) rfl rfl (by kernel_rfl) (fun _ _ _ h => h) (Or.inr ⟨by rfl, rfl⟩) ?_ ?_
        rotate_left
        · simp only [Act.put, ua, ub, uc, uh, ui]
          rfl
        refine pU (i := 32) (N := (some 112)) (bA 44 8589934591) (by kernel_rfl) rfl ?_
        refine pU (i := 33) (N := (some 113)) (bA 44 17179869183) (by kernel_rfl) rfl ?_
        refine pU (i := 34) (N := (some 114)) (bA 44 34359738367) (by kernel_rfl) rfl ?_
        refine pU (i := 35) (N := (some 115)) (bA 44 68719476735) (by kernel_rfl) rfl ?_
        refine pU (i := 36) (N := (some 116)) (bA 44 137438953471) (by kernel_rfl) rfl ?_
        refine pU (i := 37) (N := (some 117)) (bA 44 274877906943) (by kernel_rfl) rfl ?_
        refine pU (i := 38) (N := (some 118)) (bA 44 549755813887) (by kernel_rfl) rfl ?_
        refine pU (i := 39) (N := (some 119)) (bA 44 1099511627775) (by kernel_rfl) rfl ?_
        refine tU (i := 40) (N := (some 120)) (bA 44 2199023255551) (by kernel_rfl) rfl hHeld (by (constructor; (rintro w' ⟨s0, s1, s2⟩; go_simp; (with_reducible rfl)); (simp only [Act.put, ua, ub, uc, uh, ui]; rfl))) ?_
        refine pU (i := 41) (N := (some 121)) (bA 44 4398046511103) (by kernel_rfl) rfl ?_
        refine pU (i := 42) (N := (some 122)) (bA 44 8796093022207) (by kernel_rfl) rfl ?_
        refine pU (i := 43) (N := (some 123)) (bA 44 17592186044415) (by kernel_rfl) rfl ?_
        refine done_ (by kernel_rfl) ?_
        go_wp2_with fail
        rename World => wo
        go_loopw [2, 11] (fun s2 s11 wx => ∃ k : Nat, s11 = .int .i64 k ∧ k ≤ bs2.length ∧ Aside0 (Below wo.heap.size wo wx)) (fun _ s11 _ => bs2.length + 1 - (intOf s11).toNat)
        case atStart => exact ⟨0, rfl, Nat.zero_le _, ⟨Below.refl _ _⟩⟩
        case round =>
         obtain ⟨k, rfl, hk, HBk⟩ := hrel
         have HBa := Aside0.mk (ur HB.out HBk.out)
         have hbl100 : bs2.length ≤ 100 := HB2.out.1
         by_cases hkl : k < bs2.length
         · obtain ⟨b, hb⟩ : ∃ b, bs2[k]? = some b := ⟨_, List.getElem?_eq_getElem hkl⟩
           have hrb : (bs2.map toR)[k]? = some (toR b) := by rw [List.getElem?_map, hb]; rfl
           have hlb : L[k]? = some b.f0 := by rw [HLV.out, List.getElem?_map, hb]; rfl
           have HSk := Aside0.mk (HSz.out.below HBa.out)
           obtain ⟨A9, c9, e9, _, hF9⟩ := HSk.out.r.reads
           rw [List.length_map] at e9
           injection e9 with e9a _ e9c
           subst e9a
           subst e9c
           obtain ⟨adw, A1, c1, rfl, z0, z1, la, ga⟩ := rb_at (Kd.F_now hF9) hrb
           dsimp only [toR] at z0
           have hcl := xk HLC.out.1 HBa.out
           obtain ⟨adl, rfl⟩ : ∃ adl, AL = some adl := by
            obtain ⟨adl, e, _⟩ := hcl.2.2 (by omega)
            exact ⟨adl, e⟩
           have y0 := Kd.foot_int hcl (k : Int) (by omega) (by omega)
           rw [Int.toNat_natCast, rdL_at hlb] at y0
           have q0 := HSk.out.r.cell0
           have hkl1 : (k : Int) < (bs2.length : Int) := by omega
           have hkl2 : (k : Int) < (L.length : Int) := by omega
           have hk0 : (0 : Int) ≤ (k : Int) := by omega
           clear hrb hlb hF9 la ga z1 hcl hb
           go_wp2_with fail
           refine start_ (n := 13) (S := fun w' => w'.cell? (adl.add k) = some (.int .i64 b.f0) ∧ w'.cell? ⟨q, 0, none⟩ = some (.slice (some adw) bs2.length cw) ∧ w'.cell? (adw.add (k * 2)) = some (.int .i64 b.f0)) (ds := []) #[xX, xX, xX, xX, xX, xX, xX, xX, xX, xX, xX, xX, xX] (by kernel_rfl) rfl rfl ⟨y0, q0, z0⟩ (fun hHeld => ?_)
           refine pU (i := 0) (N := (some 130)) (bA 13 1) (by kernel_rfl) rfl ?_
           refine pU (i := 1) (N := (some 131)) (bA 13 3) (by kernel_rfl) rfl ?_
           refine pU (i := 2) (N := (some 132)) (bA 13 7) (by kernel_rfl) rfl ?_
           refine pU (i := 4) (N := (some 134)) (bA 13 23) (by kernel_rfl) rfl ?_
           refine pU (i := 5) (N := (some 135)) (bA 13 55) (by kernel_rfl) rfl ?_
           refine pU (i := 6) (N := (some 136)) (bA 13 119) (by kernel_rfl) rfl ?_
           refine pU (i := 8) (N := (some 138)) (bA 13 375) (by kernel_rfl) rfl ?_
           refine tU (i := 3) (N := (some 133)) (bA 13 383) (by kernel_rfl) rfl hHeld (by (constructor; (rintro w' ⟨s0, s1, s2⟩; go_simp; (with_reducible rfl)); (simp only [Act.put, ua, ub, uc, uh, ui]; rfl))) ?_
           refine tU (i := 7) (N := (some 137)) (bA 13 511) (by kernel_rfl) rfl hHeld (by (constructor; (rintro w' ⟨s0, s1, s2⟩; go_simp; (with_reducible rfl)); (simp only [Act.put, ua, ub, uc, uh, ui]; rfl))) ?_
           refine pU (i := 9) (N := (some 139)) (bA 13 1023) (by kernel_rfl) rfl ?_
           refine pU (i := 10) (N := (some 140)) (bA 13 2047) (by kernel_rfl) rfl ?_
           refine tU (i := 11) (N := (some 141)) (bA 13 4095) (by kernel_rfl) rfl hHeld (by (constructor; (rintro w' ⟨s0, s1, s2⟩; go_simp; (with_reducible rfl)); (simp only [Act.put, ua, ub, uc, uh, ui]; rfl))) ?_
           refine pU (i := 12) (N := (some 142)) (bA 13 8191) (by kernel_rfl) rfl ?_
           refine done_ (by kernel_rfl) ?_
           go_wp2_with fail
           go_roundw
           case rel => exact ⟨k + 1, by go_num, by omega, ⟨ur HBk.out (below_drew (Below.refl _ _))⟩⟩
           case measure => simp [intOf]; omega
         · obtain rfl : k = bs2.length := by omega
           have hkl2 : ¬ (bs2.length : Int) < (L.length : Int) := by omega
           go_wp2_with fail
           go_roundw
           case rel => exact ⟨i + 1, v2, _, bs2, by go_num, by omega, by omega, ⟨HSz.out.below HBa.out⟩⟩
           case measure => simp [intOf]; omega
     · have ht0 : 0 < T.length := (List.getElem?_eq_some_iff.1 hTe).1
       have t1 : (0 : Int) < (T.length : Int) := by omega
       have t3 : decide (0 < T.length) = true := decide_eq_true ht0
       have t4 : decide ((0 : Int) < (T.length : Int)) = true := decide_eq_true t1
       obtain ⟨adt, e1, n3, n4⟩ := at_T46 HTC.out.1 (0 : Int) (by omega) (by omega)
       subst e1
       have hrd : rd_T46 T (0 : Int) = e := by unfold rd_T46; rw [List.getD_eq_getElem?_getD]; show (T[0]?).getD _ = e; rw [hTe]; rfl
       rw [hrd] at n3 n4
       have m3 : wz.cell? adt = some (.int .u64 e.f0) := by simpa [Addr.add] using n3
       have m4 : wz.cell? ⟨adt.block, adt.off + 1, none⟩ = some (.int .i64 e.f1) := by simpa [Addr.add] using n4
       clear hTe hrd n3 n4
       as_aux_lemma =>
        go_wp2_with fail
        have HB := Aside0.mk (below_drew (Below.refl wz.heap.size wz))
        refine start_ (n := 44) (S := fun w' => w'.cell? ⟨q, 0, none⟩ = some (.slice Aw bs2.length cw) ∧ w'.cell? ⟨ge, 0, none⟩ = some (.int .u64 e.f0) ∧ w'.cell? ⟨ge, 1, none⟩ = some (.int .i64 e.f1) ∧ w'.cell? adt = some (.int .u64 e.f0) ∧ w'.cell? ⟨adt.block, adt.off + 1, none⟩ = some (.int .i64 e.f1)) (ds := []) #[xX, xX, xX, xX, xX, xX, xX, xX, xX, xX, xX, xX, xX, xX, xX, xX, xX, xX, xX, xX, xX, xX, xX, xX, xX, xX, xX, xX, xX, xX, xX, xX, xX, xX, xX, xX, xX, xX, xX, xX, xX, xX, xX, xX] (by kernel_rfl) rfl rfl ⟨m0, m1, m2, m3, m4⟩ (fun hHeld => ?_)
        refine pU (i := 0) (N := (some 80)) (bA 44 1) (by kernel_rfl) rfl ?_
        refine pU (i := 2) (N := (some 82)) (bA 44 5) (by kernel_rfl) rfl ?_
        refine one_ (i := 1) (N := (some 81)) #[yY, yY, yY, xX, xX, xX, xX, xX, xX, xX, xX, xX, xX, xX, xX, xX, xX, xX, xX, xX, xX, xX, xX, xX, xX, xX, xX, xX, xX, xX, xX, xX, xX, xX, xX, xX, xX, xX, xX, xX, xX, xX, xX, xX] rfl rfl (by kernel_rfl) (by decide) (fun K hK => ?_)
        refine goes_ Try.func34 (by kernel_rfl) rfl #[.pointer (some ⟨p, 0, none⟩)] (by rfl) rfl rfl (by (try simp only [ul, ut, uu]); first | done | rfl) ?_
        refine (lsm_all w.heap.size p v2 bs2 _ (HSz.out.below HB.out).l HSz.out.good.snd HB2.out.1 HB2.out.2).mono ?_
        rintro y w9 ⟨v9, rfl, hv9, hb9⟩
        rw [← HT.out] at hv9
        obtain ⟨AA, cA, e_⟩ := Kd.V_slice hv9
        subst e_
        have HVA := Aside0.mk (xv hv9)
        clear hv9
        have n_ := Aside0.mk (ur HB.out hb9)
        (try clear HB)
        have HB := n_
        clear n_
        clear hb9
        refine ⟨_, rfl, ?_⟩
        refine hK.out _ _ ⟨uj HB.out m0, uj HB.out m1, uj HB.out m2, uj HB.out m3, uj HB.out m4⟩ (fun hHeld => ?_)
        clear hK K
        refine vz (a' := ?_) ?_ ?_; rotate_left; (· (show Act.put _ (some 81) _ = _); (simp only [Act.put, ua, ub, uc, uh, ui]); rfl)
        refine one_ (i := 3) (N := (some 83)) #[yY, yY, yY, yY, xX, xX, xX, xX, xX, xX, xX, xX, xX, xX, xX, xX, xX, xX, xX, xX, xX, xX, xX, xX, xX, xX, xX, xX, xX, xX, xX, xX, xX, xX, xX, xX, xX, xX, xX, xX, xX, xX, xX, xX] rfl rfl (by kernel_rfl) (by decide) (fun K hK => ?_)
        refine goes_ Try.func22 (by kernel_rfl) rfl #[.slice AA T.length cA, .slice (some adt) T.length cT] (by rfl) rfl rfl (by (try simp only [ul, ut, uu]); first | done | rfl) ?_
        refine (vergerref5_Same.calls 3000000 AA cA T (some adt) cT T true _ HVA.out.2.2 HVA.out.2.1 (xk HTC.out.1 HB.out) HTC.out.2 (same_told 3000000 T (by have := HTL.out; omega) (by have := HTL.out; omega))).mono ?_
        rintro y w9 ⟨rfl, hd9⟩
        have hb9 := hd9.below
        clear hd9
        have n_ := Aside0.mk (ur HB.out hb9)
        (try clear HB)
        have HB := n_
        clear n_
        clear hb9
        refine ⟨_, rfl, ?_⟩
        refine hK.out _ _ ⟨uj HB.out m0, uj HB.out m1, uj HB.out m2, uj HB.out m3, uj HB.out m4⟩ (fun hHeld => ?_)
        clear hK K
        refine vz (a' := ?_) ?_ ?_; rotate_left; (· (show Act.put _ (some 83) _ = _); (simp only [Act.put, ua, ub, uc, uh, ui]); rfl)
        refine pU (i := 4) (N := (some 84)) (bA 44 31) (by kernel_rfl) rfl ?_
        refine pU (i := 5) (N := (some 85)) (bA 44 63) (by kernel_rfl) rfl ?_
        refine pU (i := 6) (N := (some 86)) (bA 44 127) (by kernel_rfl) rfl ?_
        refine pU (i := 8) (N := (some 88)) (bA 44 383) (by kernel_rfl) rfl ?_
        refine pU (i := 9) (N := (some 89)) (bA 44 895) (by kernel_rfl) rfl ?_
        refine one_ (i := 7) (N := (some 87)) #[yY, yY, yY, yY, yY, yY, yY, yY, yY, yY, xX, xX, xX, xX, xX, xX, xX, xX, xX, xX, xX, xX, xX, xX, xX, xX, xX, xX, xX, xX, xX, xX, xX, xX, xX, xX, xX, xX, xX, xX, xX, xX, xX, xX] rfl rfl (by kernel_rfl) (by decide) (fun K hK => ?_)
        refine goes_ Try.func35 (by kernel_rfl) rfl #[.pointer (some ⟨p, 0, none⟩)] (by rfl) rfl rfl (by (try simp only [ul, ut, uu]); first | done | rfl) ?_
        refine (lsm_len w.heap.size p v2 bs2 _ (HSz.out.below HB.out).l HB2.out.1 HB2.out.2).mono ?_
        rintro y w9 ⟨rfl, hb9⟩
        rw [← HTN.out]
        have n_ := Aside0.mk (ur HB.out hb9)
        (try clear HB)
        have HB := n_
        clear n_
        clear hb9
        refine ⟨_, rfl, ?_⟩
        refine hK.out _ _ ⟨uj HB.out m0, uj HB.out m1, uj HB.out m2, uj HB.out m3, uj HB.out m4⟩ (fun hHeld => ?_)
        clear hK K
        refine vz (a' := ?_) ?_ ?_; rotate_left; (· (show Act.put _ (some 87) _ = _); (simp only [Act.put, ua, ub, uc, uh, ui]); rfl)
        refine pU (i := 10) (N := (some 90)) (bA 44 2047) (by kernel_rfl) rfl ?_
        refine pU (i := 11) (N := (some 91)) (bA 44 4095) (by kernel_rfl) rfl ?_
        refine pU (i := 12) (N := (some 92)) (bA 44 8191) (by kernel_rfl) rfl ?_
        refine pU (i := 13) (N := (some 93)) (bA 44 16383) (by kernel_rfl) rfl ?_
        refine one_ (i := 14) (N := (some 94)) #[yY, yY, yY, yY, yY, yY, yY, yY, yY, yY, yY, yY, yY, yY, yY, xX, xX, xX, xX, xX, xX, xX, xX, xX, xX, xX, xX, xX, xX, xX, xX, xX, xX, xX, xX, xX, xX, xX, xX, xX, xX, xX, xX, xX] rfl rfl (by kernel_rfl) (by decide) (fun K hK => ?_)
        refine goes_ Try.func36 (by kernel_rfl) rfl #[.pointer (some ⟨p, 0, none⟩)] (by rfl) rfl rfl (by (try simp only [ul, ut, uu]); first | done | rfl) ?_
        refine (lsm_check w.heap.size p v2 bs2 _ (HSz.out.below HB.out).l HSz.out.good HB2.out.1 HB2.out.2).mono ?_
        rintro y w9 ⟨rfl, hb9⟩
        have n_ := Aside0.mk (ur HB.out hb9)
        (try clear HB)
        have HB := n_
        clear n_
        clear hb9
        refine ⟨_, rfl, ?_⟩
        refine hK.out _ _ ⟨uj HB.out m0, uj HB.out m1, uj HB.out m2, uj HB.out m3, uj HB.out m4⟩ (fun hHeld => ?_)
        clear hK K
        refine vz (a' := ?_) ?_ ?_; rotate_left; (· (show Act.put _ (some 94) _ = _); (simp only [Act.put, ua, ub, uc, uh, ui]); rfl)
        refine pU (i := 15) (N := (some 95)) (bA 44 65535) (by kernel_rfl) rfl ?_
        refine pU (i := 16) (N := (some 96)) (bA 44 131071) (by kernel_rfl) rfl ?_
        refine pU (i := 17) (N := (some 97)) (bA 44 262143) (by kernel_rfl) rfl ?_
        refine pU (i := 18) (N := (some 98)) (bA 44 524287) (by kernel_rfl) rfl ?_
        refine pU (i := 19) (N := (some 99)) (bA 44 1048575) (by kernel_rfl) rfl ?_
        refine pU (i := 20) (N := (some 100)) (bA 44 2097151) (by kernel_rfl) rfl ?_
        refine pU (i := 21) (N := (some 101)) (bA 44 4194303) (by kernel_rfl) rfl ?_
        refine pU (i := 22) (N := (some 102)) (bA 44 8388607) (by kernel_rfl) rfl ?_
        refine pU (i := 23) (N := (some 103)) (bA 44 16777215) (by kernel_rfl) rfl ?_
        refine pU (i := 24) (N := (some 104)) (bA 44 33554431) (by kernel_rfl) rfl ?_
        refine pU (i := 25) (N := (some 105)) (bA 44 67108863) (by kernel_rfl) rfl ?_
        refine pU (i := 26) (N := (some 106)) (bA 44 134217727) (by kernel_rfl) rfl ?_
        refine pU (i := 28) (N := (some 108)) (bA 44 402653183) (by kernel_rfl) rfl ?_
        refine pU (i := 29) (N := (some 109)) (bA 44 939524095) (by kernel_rfl) rfl ?_
        refine tU (i := 27) (N := (some 107)) (bA 44 1073741823) (by kernel_rfl) rfl hHeld (by (constructor; (rintro w' ⟨s0, s1, s2, s3, s4⟩; go_simp; (with_reducible rfl)); (simp only [Act.put, ua, ub, uc, uh, ui]; rfl))) ?_
        refine tU (i := 30) (N := (some 110)) (bA 44 2147483647) (by kernel_rfl) rfl hHeld (by (constructor; (rintro w' ⟨s0, s1, s2, s3, s4⟩; go_simp; (with_reducible rfl)); (simp only [Act.put, ua, ub, uc, uh, ui]; rfl))) ?_
        refine pU (i := 31) (N := (some 111)) (bA 44 4294967295) (by kernel_rfl) rfl ?_
        refine pU (i := 32) (N := (some 112)) (bA 44 8589934591) (by kernel_rfl) rfl ?_
        refine pU (i := 33) (N := (some 113)) (bA 44 17179869183) (by kernel_rfl) rfl ?_
        refine pU (i := 34) (N := (some 114)) (bA 44 34359738367) (by kernel_rfl) rfl ?_
        refine pU (i := 35) (N := (some 115)) (bA 44 68719476735) (by kernel_rfl) rfl ?_
        refine pU (i := 36) (N := (some 116)) (bA 44 137438953471) (by kernel_rfl) rfl ?_
        refine pU (i := 37) (N := (some 117)) (bA 44 274877906943) (by kernel_rfl) rfl ?_
        refine pU (i := 38) (N := (some 118)) (bA 44 549755813887) (by kernel_rfl) rfl ?_
        refine pU (i := 39) (N := (some 119)) (bA 44 1099511627775) (by kernel_rfl) rfl ?_
        refine tU (i := 40) (N := (some 120)) (bA 44 2199023255551) (by kernel_rfl) rfl hHeld (by (constructor; (rintro w' ⟨s0, s1, s2, s3, s4⟩; go_simp; (with_reducible rfl)); (simp only [Act.put, ua, ub, uc, uh, ui]; rfl))) ?_
        refine pU (i := 41) (N := (some 121)) (bA 44 4398046511103) (by kernel_rfl) rfl ?_
        refine pU (i := 42) (N := (some 122)) (bA 44 8796093022207) (by kernel_rfl) rfl ?_
        refine pU (i := 43) (N := (some 123)) (bA 44 17592186044415) (by kernel_rfl) rfl ?_
        refine done_ (by kernel_rfl) ?_
        go_wp2_with fail
        rename World => wo
        go_loopw [2, 11] (fun s2 s11 wx => ∃ k : Nat, s11 = .int .i64 k ∧ k ≤ bs2.length ∧ Aside0 (Below wo.heap.size wo wx)) (fun _ s11 _ => bs2.length + 1 - (intOf s11).toNat)
        case atStart => exact ⟨0, rfl, Nat.zero_le _, ⟨Below.refl _ _⟩⟩
        case round =>
         obtain ⟨k, rfl, hk, HBk⟩ := hrel
         have HBa := Aside0.mk (ur HB.out HBk.out)
         have hbl100 : bs2.length ≤ 100 := HB2.out.1
         by_cases hkl : k < bs2.length
         · obtain ⟨b, hb⟩ : ∃ b, bs2[k]? = some b := ⟨_, List.getElem?_eq_getElem hkl⟩
           have hrb : (bs2.map toR)[k]? = some (toR b) := by rw [List.getElem?_map, hb]; rfl
           have hlb : L[k]? = some b.f0 := by rw [HLV.out, List.getElem?_map, hb]; rfl
           have HSk := Aside0.mk (HSz.out.below HBa.out)
           obtain ⟨A9, c9, e9, _, hF9⟩ := HSk.out.r.reads
           rw [List.length_map] at e9
           injection e9 with e9a _ e9c
           subst e9a
           subst e9c
           obtain ⟨adw, A1, c1, rfl, z0, z1, la, ga⟩ := rb_at (Kd.F_now hF9) hrb
           dsimp only [toR] at z0
           have hcl := xk HLC.out.1 HBa.out
           obtain ⟨adl, rfl⟩ : ∃ adl, AL = some adl := by
            obtain ⟨adl, e, _⟩ := hcl.2.2 (by omega)
            exact ⟨adl, e⟩
           have y0 := Kd.foot_int hcl (k : Int) (by omega) (by omega)
           rw [Int.toNat_natCast, rdL_at hlb] at y0
           have q0 := HSk.out.r.cell0
           have hkl1 : (k : Int) < (bs2.length : Int) := by omega
           have hkl2 : (k : Int) < (L.length : Int) := by omega
           have hk0 : (0 : Int) ≤ (k : Int) := by omega
           clear hrb hlb hF9 la ga z1 hcl hb
           go_wp2_with fail
           refine start_ (n := 13) (S := fun w' => w'.cell? (adl.add k) = some (.int .i64 b.f0) ∧ w'.cell? ⟨q, 0, none⟩ = some (.slice (some adw) bs2.length cw) ∧ w'.cell? (adw.add (k * 2)) = some (.int .i64 b.f0)) (ds := []) #[xX, xX, xX, xX, xX, xX, xX, xX, xX, xX, xX, xX, xX] (by kernel_rfl) rfl rfl ⟨y0, q0, z0⟩ (fun hHeld => ?_)
           refine pU (i := 0) (N := (some 130)) (bA 13 1) (by kernel_rfl) rfl ?_
           refine pU (i := 1) (N := (some 131)) (bA 13 3) (by kernel_rfl) rfl ?_
           refine pU (i := 2) (N := (some 132)) (bA 13 7) (by kernel_rfl) rfl ?_
           refine pU (i := 4) (N := (some 134)) (bA 13 23) (by kernel_rfl) rfl ?_
           refine pU (i := 5) (N := (some 135)) (bA 13 55) (by kernel_rfl) rfl ?_
           refine pU (i := 6) (N := (some 136)) (bA 13 119) (by kernel_rfl) rfl ?_
           refine pU (i := 8) (N := (some 138)) (bA 13 375) (by kernel_rfl) rfl ?_
           refine tU (i := 3) (N := (some 133)) (bA 13 383) (by kernel_rfl) rfl hHeld (by (constructor; (rintro w' ⟨s0, s1, s2⟩; go_simp; (with_reducible rfl)); (simp only [Act.put, ua, ub, uc, uh, ui]; rfl))) ?_
           refine tU (i := 7) (N := (some 137)) (bA 13 511) (by kernel_rfl) rfl hHeld (by (constructor; (rintro w' ⟨s0, s1, s2⟩; go_simp; (with_reducible rfl)); (simp only [Act.put, ua, ub, uc, uh, ui]; rfl))) ?_
           refine pU (i := 9) (N := (some 139)) (bA 13 1023) (by kernel_rfl) rfl ?_
           refine pU (i := 10) (N := (some 140)) (bA 13 2047) (by kernel_rfl) rfl ?_
           refine tU (i := 11) (N := (some 141)) (bA 13 4095) (by kernel_rfl) rfl hHeld (by (constructor; (rintro w' ⟨s0, s1, s2⟩; go_simp; (with_reducible rfl)); (simp only [Act.put, ua, ub, uc, uh, ui]; rfl))) ?_
           refine pU (i := 12) (N := (some 142)) (bA 13 8191) (by kernel_rfl) rfl ?_
           refine done_ (by kernel_rfl) ?_
           go_wp2_with fail
           go_roundw
           case rel => exact ⟨k + 1, by go_num, by omega, ⟨ur HBk.out (below_drew (Below.refl _ _))⟩⟩
           case measure => simp [intOf]; omega
         · obtain rfl : k = bs2.length := by omega
           have hkl2 : ¬ (bs2.length : Int) < (L.length : Int) := by omega
           go_wp2_with fail
           go_roundw
           case rel => exact ⟨i + 1, v2, _, bs2, by go_num, by omega, by omega, ⟨HSz.out.below HBa.out⟩⟩
           case measure => simp [intOf]; omega
  · by_cases h1 : i < l.length
    · have h2 : decide ((i : Int) < 80) = false := decide_eq_false (by have : ¬ i < 80 := fun h => hlt ⟨h1, h⟩; omega)
      have h3 : ¬ (i : Int) < 80 := by have : ¬ i < 80 := fun h => hlt ⟨h1, h⟩; omega
      have h4 : (i : Int) < (l.length : Int) := by omega
      clear hlt
      go_wp2_with fail
      refine (awake7 _).mono ?_
      rintro y w9 ⟨rfl, hb9⟩
      have HB9 := Aside0.mk (ur HST.out.bel hb9)
      clear hb9
      go_wp2
      go_ret
      exact ⟨rfl, HB9.out⟩
    · have h2 : ¬ (i : Int) < (l.length : Int) := by omega
      clear hlt
      go_wp2_with fail
      refine (awake7 _).mono ?_
      rintro y w9 ⟨rfl, hb9⟩
      have HB9 := Aside0.mk (ur HST.out.bel hb9)
      clear hb9
      go_wp2
      go_ret
      exact ⟨rfl, HB9.out⟩
end Go.Proofs.Ytdfndglenbckhaa.V
end
