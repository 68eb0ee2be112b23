-- a text of this work, without what this claim doesn't use (wip/shake.py)
import Derived.Test.YthghkglkifeagaaGreatPVPvergerref5
import Derived.Test.YthghkglkifeagaaGreatPVPvergerref51
import Derived.Test.YthghkglkifeagaaGreatPVRQ7
import Derived.Test.YthghkglkifeagaaGreatPVRQ3
import Derived.Test.YthghkglkifeagaaGreatPVGenS
import Derived.Test.YthghkglkifeagaaGreatPVSh7
import Derived.Maps.OwnSet
import Derived.WideKeyPair
set_option maxRecDepth 100000
set_option maxHeartbeats 8000000
section
set_option linter.unusedVariables false
set_option linter.unusedSimpArgs false
namespace Go.Proofs.YthghkglkifeagaaGreat.V
open Go.RowKit Go.Proofs.YthghkglkifeagaaGreatW.PrintWords Go.Proofs.YthghkglkifeagaaGreatW.PrintLast Go.Proofs.YthghkglkifeagaaGreatW.PrintMore
theorem b9s {w : World} {ok : Nat → Prop} {r : Rq} {a : Qa} (h : RQ w ok r a) (t : Int) (ht : t < 0 ∨ (a.S.length : Int) ≤ t) (d : Int) :
 Calls Tryz.prog 20 #[.pointer (some ⟨r.pr, 0, none⟩), .int .i64 t, .int .u64 d] w fun x w' => x = .returned (retV none) ∧ Below w.heap.size w w' := by
 have HZ := za (ZBox.first w)
 have HS := za (h.below HZ.out.bel)
 have HT := za ht
 clear h ht
 go_enter Tryz.func20, Tryz.ntmps20
 go_wp2_with fail
 refine (a3b HS.out t false (decide_eq_false (by have := HT.out; omega))).mono ?_
 rintro x w1 ⟨rfl, rfl⟩
 obtain ⟨z0, z1, z2, z3⟩ := HZ.out.facts
 go_wp2
 exact bodyPost_ret (v := retV none) (by simp [results, Tryz.results20, go_sem, z0, z1, retV, optV]) rfl ⟨rfl, by first | exact HZ.out.bel | exact HZ.out.done _ _⟩
theorem b5p (x y : E) (o : Option E) : a4w (some x) (some y) o = if ltE x y = true then some x else some y := by
 unfold a4w
 show (if ltE y x = true then some y else some x) = _
 by_cases h1 : ltE y x = true
 · rw [if_pos h1]
   by_cases h2 : ltE x y = true
   · exfalso
     rw [a4e] at h1 h2
     omega
   · rw [if_neg h2]
 · rw [if_neg h1]
   by_cases h2 : ltE x y = true
   · rw [if_pos h2]
   · rw [if_neg h2]
     rw [Bool.not_eq_true, a7e] at h1 h2
     have e0 : x.f0 = y.f0 := by omega
     have e1 : x.f1 = y.f1 := by omega
     cases x; cases y
     subst e0; subst e1
     rfl
theorem b8l {w : World} {ok : Nat → Prop} {r : Rq} {a : Qa} (h : RQ w ok r a) (hn : sumL a.loc + a.sh.length ≤ 900) (hk : a.k ≤ 16) (t : Nat) (ht : t < a.S.length) (d : Nat) (hd : d < 18446744073709551616) :
 Calls Tryz.prog 20 #[.pointer (some ⟨r.pr, 0, none⟩), .int .i64 t, .int .u64 (d : Int)] w fun e w' => e = .returned (retV (a1j a t d)) ∧ Below w.heap.size w w' := by
 have HZ := za (ZBox.first w)
 have HS := za (h.below HZ.out.bel)
 have HC := za hn
 have HD := za hd
 have hla := h.la
 have h8 := h.few
 obtain ⟨m, hm⟩ : ∃ m : Nat, m = min (a.k + 1) a.sh.length := ⟨_, rfl⟩
 have hw1 : IntKind.i64.wrap ((a.k : Int) + 1) = (a.k : Int) + 1 := IntWalk.i64_in _ (by omega)
 have i0 : (0 : Int) ≤ (t : Int) := by omega
 have i1 : (t : Int) < (a.S.length : Int) := by omega
 have HM := za hm
 clear h hd
 go_enter Tryz.func20, Tryz.ntmps20
 go_wp2_with fail
 refine (a3b HS.out (t : Int) true (decide_eq_true ⟨by omega, by omega⟩)).mono ?_
 rintro x w1 ⟨rfl, rfl⟩
 obtain ⟨wz, hwz⟩ : ∃ wz : World, wz = w.alloc (.cells #[.int .u64 0, .int .i64 0] 33) := ⟨_, rfl⟩
 rw [← hwz] at HZ HS ⊢
 clear hwz
 have k0 := HS.out.c0
 obtain ⟨As, cs, k3, hs2, hs3, _⟩ := HS.out.shc
 clear hs3
 go_upto_region 3 with fail
 go_cut [8] (fun s wx => s = .int .i64 (m : Int) ∧ Aside0 (ZBox w wx w.heap.size) ∧ Aside0 (RQ wx ok r a))
 case first =>
  rcases Nat.lt_or_ge (a.k + 1) a.sh.length with hlt | hge
  · have e0 : (a.k : Int) + 1 < (a.sh.length : Int) := by omega
    obtain rfl : m = a.k + 1 := by omega
    clear hm
    go_region_with fail
    all_goals (go_wp2_with fail)
    all_goals go_meet
    all_goals exact ⟨by go_num, ⟨HZ.out.below (vu (Below.refl _ _))⟩, ⟨HS.out.below (vu (Below.refl _ _))⟩⟩
  · have e0 : ¬ (a.k : Int) + 1 < (a.sh.length : Int) := by omega
    obtain rfl : m = a.sh.length := by omega
    clear hm
    go_region_with fail
    all_goals (go_wp2_with fail)
    all_goals go_meet
    all_goals exact ⟨by go_num, ⟨HZ.out.below (vu (Below.refl _ _))⟩, ⟨HS.out.below (vu (Below.refl _ _))⟩⟩
 case rest =>
  obtain ⟨rfl, HZ1, HS1⟩ := hcut
  clear k0 k3 hs2
  have k2 := HS1.out.c2
  obtain ⟨As, cs, k3, hs2, hs3, _⟩ := HS1.out.shc
  have HFS := za (Kd.F_now hs3)
  obtain ⟨l, hl2⟩ : ∃ l, l = a.loc.getD t [] := ⟨_, rfl⟩
  have HAT := za (HS1.out.at_ ht)
  rw [← hl2] at HAT
  obtain ⟨A6, c6, x1, hc6, hf6, _⟩ := HS1.out.locc HAT.out
  have HF := za (Kd.F_now hf6)
  obtain ⟨z0, z1, y0, y1⟩ := HZ1.out.facts
  have HREL := za (show a1j a t d = a4w l.head? (a3f a d) (a2d a t) by unfold a1j; rw [← hl2])
  have HL2 := za hl2
  clear hs3 hf6 hl2
  by_cases hs : a.sh = []
  · obtain rfl : m = 0 := by rw [HM.out, hs]; simp
    have HCN := za (show a3f a d = none by unfold a3f a3y; rw [hs, List.take_nil, if_pos rfl])
    clear hs hm
    cases l with
    | cons e0 l' =>
     obtain ⟨ad, rfl, u0, u1⟩ := e_at HF.out (i := 0) (e := e0) rfl
     rw [show ad.add (0 * 2) = ad from by simp [Addr.add]] at u0 u1
     have HE := za (show a1j a t d = some e0 by rw [HREL.out, HCN.out]; rfl)
     go_wp2
     exact bodyPost_ret (v := retV (some e0)) (by simp [results, Tryz.results20, go_sem, z0, z1, retV, optV]) rfl ⟨by rw [HE.out], HZ1.out.done _ _⟩
    | nil =>
     have HE := za (show a1j a t d = a2d a t by rw [HREL.out, HCN.out]; rfl)
     go_wp2
     go_loopw [11] (fun i wr => ∃ j : Nat, 1 ≤ j ∧ j ≤ a.S.length ∧ i = .int .i64 j ∧ Aside0 (∀ q, q + 1 < j → a1q a t q = none) ∧ Aside0 (ZBox w wr w.heap.size) ∧ Aside0 (RQ wr ok r a)) (fun i _ => a.S.length - (intOf i).toNat)
     case atStart => exact ⟨1, ut _, by omega, rfl, ⟨fun q h => by omega⟩, HZ1, HS1⟩
     case round =>
      obtain ⟨j, hj1, hj, rfl, HN, HZR, HSR⟩ := hrel
      have k2 := HSR.out.c2
      obtain ⟨z0, z1, y0, y1⟩ := HZR.out.facts
      by_cases hlt : j < a.S.length
      · obtain ⟨rr, hr⟩ : ∃ rr, (t + j) % a.S.length = rr := ⟨_, rfl⟩
        have hrl : rr < a.S.length := by rw [← hr]; exact Nat.mod_lt _ (by omega)
        have r1 : ((t : Int) + (j : Int)).tmod (a.S.length : Int) = (rr : Int) := by
         rw [Int.tmod_eq_emod_of_nonneg (by omega), ← hr]
         rfl
        have r2 : ((t : Int) + (j : Int)) % (a.S.length : Int) = (rr : Int) := by
         rw [← hr]
         rfl
        have r3 : ((a.S.length : Int) == 0) = false := by rw [beq_eq_false_iff_ne]; omega
        have r4 : ¬ ((a.S.length : Int) = 0) := by omega
        have r5 : ¬ (a.S.length = 0) := by omega
        have v2 : IntKind.i64.wrap ((t : Int) + (j : Int)) = (t : Int) + (j : Int) := IntWalk.i64_in _ (by omega)
        have r6 : ¬ (a.S = []) := fun e => by rw [e] at hlt; simp at hlt
        have r7 : decide (a.S = []) = false := decide_eq_false r6
        have r8 : decide (a.S.length = 0) = false := decide_eq_false r5
        have hri : (rr : Int) < (a.S.length : Int) := by omega
        have hri0 : (0 : Int) ≤ (rr : Int) := by omega
        obtain ⟨l, hl2⟩ : ∃ l, l = a.loc.getD rr [] := ⟨_, rfl⟩
        have HAR := za (HSR.out.at_ hrl)
        rw [← hl2] at HAR
        obtain ⟨A7, c7, x7, hc7, hf7, _⟩ := HSR.out.locc HAR.out
        have HF7 := za (Kd.F_now hf7)
        have HNH := za (show a1q a t (j - 1) = l.head? by unfold a1q; rw [hla, show t + 1 + (j - 1) = t + j by omega, hr, ← hl2])
        clear hf7 hl2 hr
        go_upto_region 17 with fail
        go_cut [12] (fun s wx => s = .slice A7 l.length c7 ∧ Aside0 (Below wr.heap.size wr wx))
        case first =>
         go_region_with fail
         all_goals (go_wp2_with fail)
         all_goals go_meet
         all_goals exact ⟨rfl, ⟨vu (Below.refl _ _)⟩⟩
        case rest =>
         obtain ⟨rfl, HB1⟩ := hcut
         have HZC := za (HZR.out.below HB1.out)
         have HSC := za (HSR.out.below HB1.out)
         obtain ⟨z0, z1, y0, y1⟩ := HZC.out.facts
         have HFC := za (vt HF7.out HB1.out)
         cases l with
         | nil =>
          have HN1 := za (show ∀ q, q + 1 < j + 1 → a1q a t q = none from fun q hq => by
           by_cases e1 : q + 1 < j
           · exact HN.out q e1
           · obtain rfl : q = j - 1 := by omega
             rw [HNH.out]; rfl)
          go_wp2
          go_roundw
          case rel => exact ⟨j + 1, by omega, by omega, by go_num, HN1, HZC, HSC⟩
          case measure => simp [intOf]; omega
         | cons e0 l' =>
          obtain ⟨ad, rfl, u0, u1⟩ := e_at HFC.out (i := 0) (e := e0) rfl
          rw [show ad.add (0 * 2) = ad from by simp [Addr.add]] at u0 u1
          have HH := za (b0h (a := a) (t := t) (m := j - 1) (e := e0) (by omega) (by rw [HNH.out]; rfl) (fun q hq => HN.out q (by omega)))
          go_wp2
          exact bodyPost_ret (v := retV (some e0)) (by simp [results, Tryz.results20, go_sem, z0, z1, retV, optV]) rfl ⟨by rw [HE.out, HH.out], HZC.out.done _ _⟩
      · obtain rfl : j = a.S.length := by omega
        have HX := za (show a2d a t = (a0b (a0l a)).head? from a8z (fun q hq => by
         by_cases e1 : q + 1 < a.S.length
         · exact HN.out q e1
         · obtain rfl : q = a.S.length - 1 := by omega
           unfold a1q
           rw [hla, show t + 1 + (a.S.length - 1) = t + a.S.length by omega, Nat.add_mod_right, Nat.mod_eq_of_lt ht, ← HL2.out]
           rfl))
        obtain ⟨L, hL⟩ : ∃ L, L = a0b (a0l a) := ⟨_, rfl⟩
        have HLE := za hL
        have HTS := za (a9i 1000000 (a0l a) (by have := a3g a; omega) (by have := a3g a; omega))
        rw [← hL] at HX HTS
        clear hL
        have HZR1 := za HZR.out
        go_wp2_with fail
        refine (a6v HSR.out).mono ?_
        rintro e w1 ⟨v1, rfl, hv1, hb1⟩
        obtain ⟨A1, c1, rfl⟩ := Kd.R_slice hv1
        have HZ5 := za (HZR1.out.below hb1)
        have HV5 := za (Kd.R_reads' hv1)
        clear hv1 hb1
        go_wp2_with fail
        refine (vergerref5_Sort.calls 1000000 A1 c1 (a0l a) _ w1 HV5.out.2.2 HV5.out.2.1 HTS.out).mono ?_
        rintro e w2 ⟨v2, rfl, hv2, hb2⟩
        obtain ⟨A2, c2, rfl⟩ := Kd.R_slice hv2
        have HZ6 := za (HZ5.out.below hb2)
        have HV6 := za (Kd.R_reads' hv2)
        obtain ⟨z0, z1, y0, y1⟩ := HZ6.out.facts
        clear hv2 hb2
        cases L with
        | nil =>
         go_wp2
         exact bodyPost_ret (v := retV none) (by simp [results, Tryz.results20, go_sem, z0, z1, retV, optV]) rfl ⟨by rw [HE.out, HX.out]; rfl, by first | exact HZ6.out.done _ _ | exact HZ6.out.bel⟩
        | cons e0 L' =>
         obtain ⟨ad, rfl, u0, u1⟩ := e_at HV6.out.2.2 (i := 0) (e := e0) rfl
         rw [show ad.add (0 * 2) = ad from by simp [Addr.add]] at u0 u1
         go_wp2
         exact bodyPost_ret (v := retV (some e0)) (by simp [results, Tryz.results20, go_sem, z0, z1, retV, optV]) rfl ⟨by rw [HE.out, HX.out]; rfl, HZ6.out.done _ _⟩
  · have hpos : 0 < a.sh.length := by
     cases hsh : a.sh with
     | nil => exact absurd hsh hs
     | cons _ _ => simp
    have hmp : 0 < m := by omega
    have hm9 : m ≤ 900 := by have := HC.out; omega
    obtain ⟨rx, hr⟩ : ∃ rx, d % m = rx := ⟨_, rfl⟩
    have hrl : rx < m := by rw [← hr]; exact Nat.mod_lt _ hmp
    have hrs : rx < a.sh.length := by omega
    obtain ⟨e, he⟩ : ∃ e, a.sh[rx]? = some e := ⟨_, List.getElem?_eq_getElem hrs⟩
    obtain ⟨ad, rfl, u0, u1⟩ := e_at HFS.out he
    have HCN := za (show a3f a d = some e by
     unfold a3f a3y
     have e1 : (a.sh.take (a.k + 1)).length = m := by rw [uj, HM.out]
     have e2 : a.sh.take (a.k + 1) ≠ [] := fun h => by rw [h] at e1; simp at e1; omega
     rw [if_neg e2, e1, hr, List.getD_eq_getElem?_getD, List.getElem?_take, if_pos (by omega), he]
     rfl)
    have r1 : (d : Int).tmod (m : Int) = (rx : Int) := by rw [Int.tmod_eq_emod_of_nonneg (by omega), ← hr]; rfl
    have r2 : (d : Int) % (m : Int) = (rx : Int) := by rw [← hr]; rfl
    have r3 : ¬ ((m : Int) = 0) := by omega
    have r4 : ¬ (m = 0) := by omega
    have r6 : ((m : Int) == 0) = false := by rw [beq_eq_false_iff_ne]; omega
    have s1 : IntKind.u64.wrap (m : Int) = (m : Int) := IntWalk.u64_in _ (by omega)
    have s2 : IntKind.u64.wrap (rx : Int) = (rx : Int) := IntWalk.u64_in _ (by omega)
    have s3 : IntKind.i64.wrap (rx : Int) = (rx : Int) := IntWalk.i64_in _ (by omega)
    have r8 : decide (m = 0) = false := decide_eq_false r4
    have hri : (rx : Int) < (a.sh.length : Int) := by omega
    have hri0 : (0 : Int) ≤ (rx : Int) := by omega
    have hmi : (0 : Int) < (m : Int) := by omega
    clear hm hs hr he hrl
    cases l with
    | nil =>
     have HE := za (show a1j a t d = some e by rw [HREL.out, HCN.out]; rfl)
     go_upto_region 11 with fail
     clear k2 x1
     refine start_ (n := 13) (S := fun w' => w'.cell? ⟨r.pr, 3, none⟩ = some (.slice (some ad) a.sh.length cs) ∧ w'.cell? (ad.add (rx * 2)) = some (.int .u64 e.f0) ∧ w'.cell? ⟨(ad.add (rx * 2)).block, (ad.add (rx * 2)).off + 1, none⟩ = some (.int .i64 e.f1) ∧ w'.cell? ⟨w.heap.size, 0, none⟩ = some (.int .u64 0) ∧ w'.cell? ⟨w.heap.size, 1, none⟩ = some (.int .i64 0) ∧ w'.frozen? ⟨w.heap.size, 0, none⟩ = false ∧ w'.frozen? ⟨w.heap.size, 1, none⟩ = false) (ds := [11]) #[xX, xX, xX, xX, xX, xX, xX, xX, xX, xX, xX, xX, xX] (by kernel_rfl) rfl rfl ⟨k3, u0, u1, z0, z1, y0, y1⟩ (fun hHeld => ?_)
     refine pU (i := 0) (N := (some 68)) (bA 13 1) (by kernel_rfl) rfl ?_
     refine pU (i := 1) (N := (some 69)) (bA 13 3) (by kernel_rfl) rfl ?_
     refine pU (i := 2) (N := (some 70)) (bA 13 7) (by kernel_rfl) rfl ?_
     refine pU (i := 4) (N := (some 72)) (bA 13 23) (by kernel_rfl) rfl ?_
     refine pU (i := 5) (N := (some 73)) (bA 13 55) (by kernel_rfl) rfl ?_
     refine pU (i := 6) (N := (some 74)) (bA 13 119) (by kernel_rfl) rfl ?_
     refine pU (i := 7) (N := (some 75)) (bA 13 247) (by kernel_rfl) rfl ?_
     refine pU (i := 8) (N := (some 76)) (bA 13 503) (by kernel_rfl) rfl ?_
     refine tU (i := 3) (N := (some 71)) (bA 13 511) (by kernel_rfl) rfl hHeld (by (constructor; (rintro w' ⟨s0, s1, s2, s3, s4, s5, s6⟩; go_simp; (with_reducible rfl)); (simp only [Act.put, ua, ub, uc, ue, uf]; rfl))) ?_
     refine pU (i := 9) (N := (some 77)) (bA 13 1023) (by kernel_rfl) rfl ?_
     refine tU (i := 10) (N := (some 78)) (bA 13 2047) (by kernel_rfl) rfl hHeld (by (constructor; (rintro w' ⟨s0, s1, s2, s3, s4, s5, s6⟩; go_simp; (with_reducible rfl)); (simp only [Act.put, ua, ub, uc, ue, uf]; rfl))) ?_
     refine last_ (i := 11) (N := none) (bA 13 4095) rfl rfl (by kernel_rfl) (by decide) (fun K hK => ?_)
     go_simp
     refine hK.out _ _ ?_
     clear hK K
     (try simp only [Act.put, ua, ub, uc, ue, uf])
     refine pU (i := 12) (N := (some 7)) (bA 13 8191) (by kernel_rfl) rfl ?_
     refine done_ (by kernel_rfl) ?_
     go_wp2
     exact bodyPost_ret (v := retV (some e)) (by simp [results, Tryz.results20, go_sem, z0, z1, retV, optV]) rfl ⟨by rw [HE.out], (HZ1.out.below (vu (Below.refl _ _))).done _ _⟩
    | cons e0 l' =>
     obtain ⟨b, hb⟩ : ∃ b, ltE e0 e = b := ⟨_, rfl⟩
     have HE := za (show a1j a t d = if b = true then some e0 else some e by rw [HREL.out, HCN.out, ← hb]; exact b5p e0 e _)
     have HLS := za (show vergerref5_Less.f e0.f0 e0.f1 e.f0 e.f1 = some b by rw [← hb]; exact b0e _ _ _ _)
     obtain ⟨au, rfl, v0, v1⟩ := e_at HF.out (i := 0) (e := e0) rfl
     rw [show au.add (0 * 2) = au from by simp [Addr.add]] at v0 v1
     clear hb
     rename World => wc
     go_upto_region 6 with fail
     clear k2 x1
     go_cut [10] (fun s wx => ∃ g, s = .pointer (some ⟨g, 0, none⟩) ∧ Aside0 (wx.heap[g]? = some (.cells #[.int .u64 e.f0, .int .i64 e.f1] 33 (0, 0)) ∧ wc.heap.size ≤ g) ∧ Aside0 (Below wc.heap.size wc wx))
     case first =>
      refine start_ (n := 13) (S := fun w' => w'.cell? ⟨r.pr, 3, none⟩ = some (.slice (some ad) a.sh.length cs) ∧ w'.cell? (ad.add (rx * 2)) = some (.int .u64 e.f0) ∧ w'.cell? ⟨(ad.add (rx * 2)).block, (ad.add (rx * 2)).off + 1, none⟩ = some (.int .i64 e.f1)) (ds := [12]) #[xX, xX, xX, xX, xX, xX, xX, xX, xX, xX, xX, xX, xX] (by kernel_rfl) rfl rfl ⟨k3, u0, u1⟩ (fun hHeld => ?_)
      refine pU (i := 0) (N := (some 45)) (bA 13 1) (by kernel_rfl) rfl ?_
      refine pU (i := 1) (N := (some 46)) (bA 13 3) (by kernel_rfl) rfl ?_
      refine pU (i := 2) (N := (some 47)) (bA 13 7) (by kernel_rfl) rfl ?_
      refine pU (i := 4) (N := (some 49)) (bA 13 23) (by kernel_rfl) rfl ?_
      refine pU (i := 5) (N := (some 50)) (bA 13 55) (by kernel_rfl) rfl ?_
      refine pU (i := 6) (N := (some 51)) (bA 13 119) (by kernel_rfl) rfl ?_
      refine pU (i := 7) (N := (some 52)) (bA 13 247) (by kernel_rfl) rfl ?_
      refine pU (i := 8) (N := (some 53)) (bA 13 503) (by kernel_rfl) rfl ?_
      refine tU (i := 3) (N := (some 48)) (bA 13 511) (by kernel_rfl) rfl hHeld (by (constructor; (rintro w' ⟨s0, s1, s2⟩; go_simp; (with_reducible rfl)); (simp only [Act.put, ua, ub, uc, ue, uf]; rfl))) ?_
      refine pU (i := 9) (N := (some 54)) (bA 13 1023) (by kernel_rfl) rfl ?_
      refine tU (i := 10) (N := (some 55)) (bA 13 2047) (by kernel_rfl) rfl hHeld (by (constructor; (rintro w' ⟨s0, s1, s2⟩; go_simp; (with_reducible rfl)); (simp only [Act.put, ua, ub, uc, ue, uf]; rfl))) ?_
      refine one_ (i := 11) (N := (some 10)) (bA 13 4095) rfl rfl (by kernel_rfl) (by decide) (fun K hK => ?_)
      go_simp
      have hz := heap_alloc_new wc.drew (.cells #[.int .u64 0, .int .i64 0] 33)
      have hba := uv (Below.refl wc.drew.heap.size wc.drew) (.cells #[.int .u64 0, .int .i64 0] 33)
      have q0 := (uq hz 0).trans rfl
      have q1 := (uq hz 1).trans rfl
      have q2 := vk hz 0
      have q3 := vk hz 1
      refine hK.out _ _ ⟨uy hba k3, uy hba u0, uy hba u1⟩ (fun hHeld => ?_)
      clear hK K
      (try simp only [Act.put, ua, ub, uc, ue, uf])
      refine last_ (i := 12) (N := none) (bA 13 8191) rfl rfl (by kernel_rfl) (by decide) (fun K hK => ?_)
      go_simp
      refine hK.out _ _ ?_
      clear hK K
      (try simp only [Act.put, ua, ub, uc, ue, uf])
      refine done_ (by kernel_rfl) ?_
      go_wp2_with fail
      go_meet
      exact ⟨_, rfl, ⟨heap_alloc_new wc _, ut _⟩, ⟨vu (uv (Below.refl _ _) _)⟩⟩
     case rest =>
      obtain ⟨g, rfl, HG, HBW⟩ := hcut
      rename World => wd
      have HZ2 := za (HZ1.out.below HBW.out)
      have q0 := (uq HG.out.1 0).trans rfl
      have q1 := (uq HG.out.1 1).trans rfl
      have v2 := uy HBW.out v0
      have v3 := uy HBW.out v1
      clear z0 z1 y0 y1 v0 v1 u0 u1 k3
      go_upto_region 7 with fail
      refine start_ (n := 5) (S := fun w' => w'.cell? au = some (.int .u64 e0.f0) ∧ w'.cell? ⟨au.block, au.off + 1, none⟩ = some (.int .i64 e0.f1) ∧ w'.cell? ⟨g, 0, none⟩ = some (.int .u64 e.f0) ∧ w'.cell? ⟨g, 1, none⟩ = some (.int .i64 e.f1)) (ds := []) #[xX, xX, xX, xX, xX] (by kernel_rfl) rfl rfl ⟨v2, v3, q0, q1⟩ (fun hHeld => ?_)
      refine pU (i := 0) (N := (some 56)) (bA 5 1) (by kernel_rfl) rfl ?_
      refine pU (i := 1) (N := (some 57)) (bA 5 3) (by kernel_rfl) rfl ?_
      refine tU (i := 2) (N := (some 58)) (bA 5 7) (by kernel_rfl) rfl hHeld (by (constructor; (rintro w' ⟨s0, s1, s2, s3⟩; go_simp; (with_reducible rfl)); (simp only [Act.put, ua, ub, uc, ue, uf]; rfl))) ?_
      refine tU (i := 3) (N := (some 59)) (bA 5 15) (by kernel_rfl) rfl hHeld (by (constructor; (rintro w' ⟨s0, s1, s2, s3⟩; go_simp; (with_reducible rfl)); (simp only [Act.put, ua, ub, uc, ue, uf]; rfl))) ?_
      refine one_ (i := 4) (N := (some 60)) (bA 5 31) rfl rfl (by kernel_rfl) (by decide) (fun K hK => ?_)
      refine goes_ Tryz.func16 (by kernel_rfl) rfl #[.agg #[.int .u64 e0.f0, .int .i64 e0.f1], .agg #[.int .u64 e.f0, .int .i64 e.f1]] (by rfl) rfl rfl (by (try simp only [ug, ul, uo]); first | done | rfl) ?_
      refine (vergerref5_Less.calls e0.f0 e0.f1 e.f0 e.f1 b _ HLS.out).mono ?_
      rintro q we ⟨rfl, hbe⟩
      have HBE := za (show Below wd.heap.size wd we from below_then (vu (Below.refl wd.heap.size wd)) (ut _) hbe)
      clear hbe
      refine ⟨_, rfl, ?_⟩
      refine hK.out _ _ ⟨uy HBE.out v2, uy HBE.out v3, uy HBE.out q0, uy HBE.out q1⟩ (fun hHeld => ?_)
      clear hK K
      refine vv (a' := ?_) ?_ ?_; rotate_left; (· (show Act.put _ (some 60) _ = _); (simp only [Act.put, ua, ub, uc, ue, uf]); rfl)
      refine done_ (by kernel_rfl) ?_
      obtain ⟨z0, z1, y0, y1⟩ := (HZ2.out.below HBE.out).facts
      have g0 := uy HBE.out q0
      have g1 := uy HBE.out q1
      have g2 := vk (vo HG.out.1 HBE.out) 0
      have g3 := vk (vo HG.out.1 HBE.out) 1
      have v4 := uy HBE.out v2
      have v5 := uy HBE.out v3
      have hgz : g ≠ w.heap.size := by have h1 := HG.out.2; have h2 := (Array.getElem?_eq_some_iff.1 HZ1.out.at_).1; omega
      have hgz2 : w.heap.size ≠ g := fun h => hgz h.symm
      have HD0 := za (fun x y => (HZ2.out.below HBE.out).done x y)
      have HD1 := za (fun u v x y => ((((HZ2.out.below HBE.out).bel.setCell (p := ⟨g, 0, none⟩) (by have h1 := HG.out.2; have h2 := HZ1.out.bel.size; show w.heap.size ≤ g; omega) u).setCell (p := ⟨g, 1, none⟩) (by have h1 := HG.out.2; have h2 := HZ1.out.bel.size; show w.heap.size ≤ g; omega) v).setCell (p := ⟨w.heap.size, 0, none⟩) (ut _) x).setCell (p := ⟨w.heap.size, 1, none⟩) (ut _) y)
      clear q0 q1 v2 v3
      cases b with
      | true =>
       go_wp2
       exact bodyPost_ret (v := retV (some e0)) (by simp [results, Tryz.results20, go_sem, z0, z1, retV, optV]) rfl ⟨by rw [HE.out]; rfl, HD1.out _ _ _ _⟩
      | false =>
       go_wp2
       exact bodyPost_ret (v := retV (some e)) (by simp [results, Tryz.results20, go_sem, z0, z1, retV, optV]) rfl ⟨by rw [HE.out]; rfl, HD0.out _ _⟩
theorem a6z {who : Nat → Nat} {w : World} {base pq : Nat} {q : QSt} (h : QAt who w base pq q) (t : Int) (ht : t < 0 ∨ (q.ms.length : Int) ≤ t) :
 Calls Tryz.prog 32 #[.pointer (some ⟨pq, 0, none⟩), .int .i64 t] w fun e w' => e = .returned (.bool false) ∧ w = w' := by
 obtain ⟨g, cap, hv, hc, _, _⟩ := h.lists
 have hp := h.c2
 rw [hv] at hp
 clear h hv hc
 by_cases h0 : t < 0
 · have d0 : ¬ t ≥ 0 := by omega
   have d1 : ¬ (0 : Int) ≤ t := by omega
   clear ht
   go_enter Tryz.func32, Tryz.ntmps32
   go_wp2
   go_ret
   exact ⟨rfl, rfl⟩
 · have d0 : t ≥ 0 := by omega
   have d1 : (0 : Int) ≤ t := by omega
   have d2 : ¬ t < (q.ms.length : Int) := by omega
   clear ht
   go_enter Tryz.func32, Tryz.ntmps32
   go_wp2
   go_ret
   exact ⟨rfl, rfl⟩
section
variable {w0 w : World} {pq : Nat} {a : Qa} {n : Nat} {B : List (Nat × Obj)}
theorem b9q (h : QOk w0 w pq a n B) (t : Int) (ht : t < 0 ∨ (a.loc.length : Int) ≤ t) (e : E) :
 Calls Tryz.prog 8 #[.pointer (some ⟨pq, 0, none⟩), .int .i64 t, .agg #[.int .u64 e.f0, .int .i64 e.f1]] w fun x w' => x = .returned (.int .i64 1) ∧ Below w.heap.size w w' := by
 have hb := below_alloc (Below.refl w.heap.size w) (.cells #[.int .u64 e.f0, .int .i64 e.f1] 33)
 obtain ⟨who, q, h1, h2, _⟩ := (h.below hb).ex
 have HT := za (a6z h1 t (by rw [h2.len]; exact ht))
 have HB := za hb
 clear h h1 h2 hb ht
 go_enter Tryz.func8, Tryz.ntmps8
 go_wp2_with fail
 refine HT.out.mono ?_
 rintro x w1 ⟨rfl, rfl⟩
 go_wp2
 go_ret
 exact ⟨rfl, HB.out⟩
theorem b3g (h : QOk w0 w pq a n B) (t : Int) (ht : t < 0 ∨ (a.loc.length : Int) ≤ t) :
 Calls Tryz.prog 28 #[.pointer (some ⟨pq, 0, none⟩), .int .i64 t] w fun x w' => x = .returned (.slice none 0 0) ∧ w = w' := by
 obtain ⟨who, q, h1, h2, _⟩ := h.ex
 have HT := za (a6z h1 t (by rw [h2.len]; exact ht))
 clear h h1 h2 ht
 go_enter Tryz.func28, Tryz.ntmps28
 go_wp2_with fail
 refine HT.out.mono ?_
 rintro x w1 ⟨rfl, rfl⟩
 go_wp2
 go_ret
 exact ⟨rfl, rfl⟩
theorem b7m (h : QOk w0 w pq a n B) (t : Int) (ht : t < 0 ∨ (a.loc.length : Int) ≤ t) :
 Calls Tryz.prog 9 #[.pointer (some ⟨pq, 0, none⟩), .int .i64 t] w fun x w' => x = .returned (.bool false) ∧ Below w.heap.size w w' := by
 obtain ⟨f1, f2, f3⟩ := h.few
 obtain ⟨who, q, h1, h2, _⟩ := h.ex
 have hp1 := h1.c1
 have HS := za h1.sl
 have HT := za (show t < 0 ∨ (q.L.length : Int) ≤ t by rw [h2.lenS, f3]; exact ht)
 clear h h1 h2 ht f1 f2 f3
 go_enter Tryz.func9, Tryz.ntmps9
 go_wp2_with fail
 refine (c2x _ _ _ t _ HS.out (by have := HT.out; omega)).mono ?_
 rintro x w1 ⟨rfl, hb1⟩
 have HB1 := za (below_step hb1 (below_alloc (Below.refl w1.heap.size w1) (.cells #[.int .u64 0, .int .i64 0] 33)))
 have HB2 := za hb1
 clear hb1
 go_wp2_with fail
 go_ret
 first
  | exact ⟨rfl, HB1.out⟩
  | exact ⟨rfl, HB2.out⟩
theorem c1f (h : QOk w0 w pq a n B) (t : Int) (ht : t < 0 ∨ (a.loc.length : Int) ≤ t) (d : Int) :
 Calls Tryz.prog 15 #[.pointer (some ⟨pq, 0, none⟩), .int .i64 t, .int .u64 d] w fun x w' => x = .returned (retV none) ∧ Below w.heap.size w w' := by
 have HZ := za (ZBox.first w)
 obtain ⟨who, q, h1, h2, _⟩ := (h.below HZ.out.bel).ex
 have HT := za (a6z h1 t (by rw [h2.len]; exact ht))
 clear h h1 h2 ht
 go_enter Tryz.func15, Tryz.ntmps15
 go_wp2_with fail
 refine HT.out.mono ?_
 rintro x w1 ⟨rfl, rfl⟩
 obtain ⟨z0, z1, z2, z3⟩ := HZ.out.facts
 go_wp2
 exact bodyPost_ret (v := retV none) (by simp [results, Tryz.results15, go_sem, z0, z1, retV, optV]) rfl ⟨rfl, HZ.out.bel⟩
end
theorem b8v (n k : Int) (w : World) (h : n < 1 ∨ 8 < n ∨ k < 0 ∨ 16 < k) :
 Calls Tryz.prog 7 #[.int .i64 n, .int .i64 k] w fun e w' => e = .returned (.tuple #[.pointer none, .int .i64 1]) ∧ Below w.heap.size w w' := by
 by_cases h0 : n < 1 ∨ 8 < n
 · have H0 := za h0
   clear h h0
   go_enter Tryz.func7, Tryz.ntmps7
   go_wp2_with fail
   refine (c1g n w H0.out).mono ?_
   rintro e w1 ⟨rfl, rfl⟩
   go_wp2
   exact bodyPost_ret (v := .tuple #[.pointer none, .int .i64 1]) (by simp [results, Tryz.results7, go_sem]) rfl ⟨rfl, Below.refl _ _⟩
 · obtain ⟨m, rfl⟩ : ∃ m : Nat, n = (m : Int) := ⟨n.toNat, by omega⟩
   have HM := za (show 1 ≤ m ∧ m ≤ 8 by omega)
   have hk : k < 0 ∨ (¬ k < 0 ∧ 16 < k) := by omega
   clear h h0
   rcases hk with hk | ⟨hk0, hk⟩
   · go_enter Tryz.func7, Tryz.ntmps7
     go_wp2_with fail
     refine (a6u m w HM.out.1 HM.out.2).mono ?_
     rintro e w1 ⟨ps, gs, hps, hgs, rfl, hs1, hb1⟩
     have HB1 := za hb1
     clear hb1 hs1 hps hgs
     go_wp2
     exact bodyPost_ret (v := .tuple #[.pointer none, .int .i64 1]) (by simp [results, Tryz.results7, go_sem]) rfl ⟨rfl, HB1.out⟩
   · go_enter Tryz.func7, Tryz.ntmps7
     go_wp2_with fail
     refine (a6u m w HM.out.1 HM.out.2).mono ?_
     rintro e w1 ⟨ps, gs, hps, hgs, rfl, hs1, hb1⟩
     have HB1 := za hb1
     clear hb1 hs1 hps hgs
     go_wp2
     exact bodyPost_ret (v := .tuple #[.pointer none, .int .i64 1]) (by simp [results, Tryz.results7, go_sem]) rfl ⟨rfl, HB1.out⟩
def bxP (pq : Nat) : Obj := .cells #[.pointer (some ⟨pq, 0, none⟩)] 23
def bxI (x : Int) : Obj := .cells #[.int .i64 x] 3
section
variable {w0 w : World} {pq : Nat} {a : Qa} {n : Nat} {B : List (Nat × Obj)} {P : List Nat} {s : Nat}
theorem c0i {who : Nat → Nat} {q : QSt} {W : World} (hB : Below w0.heap.size w0 W) (h1 : QAt who W w0.heap.size pq q) (h2 : QV q a n) (h3 : ∀ x ∈ B, W.heap[x.1]? = some x.2 ∧ who x.1 = 11 ∧ w0.heap.size ≤ x.1) (h4 : q.ms.map Own1.p = P) (h5 : q.psh = s) (t : Nat) (o : One) (ho : q.L[t]? = some o) (hf : o.full = true) (id : Int) :
 Calls Tryz.prog 35 #[.pointer (some ⟨q.ps, 0, none⟩), .int .i64 t, .int .u64 o.ver] W fun e w' => e = .returned (.tuple #[.agg #[.int .u64 o.key, .int .i64 o.id], .bool true]) ∧ QOkP w0 w' pq (outQ a id (1, t)) (n + 1) B P s := by
 refine (a8w _ _ _ (t : Int) o _ h1.sl (by omega) (by rw [Int.toNat_natCast]; exact ho) hf).mono ?_
 rintro e w3 ⟨rfl, hs3, hg3⟩
 have e0 : ∀ x, setO q.L (t : Int) x = q.L.set t x := fun x => by unfold setO; rw [Int.toNat_natCast]
 rw [e0] at hs3
 refine ⟨rfl, ⟨⟨_, _, h1.turnS hs3 hg3 (by rw [List.length_set]), (h2.empty rfl).mono (by omega), QOk.boxes h3 (h1.keepS hg3), h4, h5⟩, pw_below_grown hB _ hB.size hg3 (fun k hk => by injection hk with hk; rw [← hk]; exact h1.ls.2)⟩⟩
theorem c0m (h : QOkP w0 w pq a n B P s) (t : Nat) (ht : t < a.loc.length) (id : Int) (g1 gt : Nat) (hg1 : (g1, bxP pq) ∈ B) (hgt : (gt, bxI t) ∈ B) :
 Calls Tryz.prog 79 #[.int .i64 id, .pointer (some ⟨g1, 0, none⟩), .pointer (some ⟨gt, 0, none⟩)] w (a1w w0 pq a n B P s id (1, t)) := by
 have hb1 : w.heap[g1]? = some (.cells #[.pointer (some ⟨pq, 0, none⟩)] 23 (0, 0)) := h.at_ hg1
 have hb2 : w.heap[gt]? = some (.cells #[.int .i64 t] 3 (0, 0)) := h.at_ hgt
 have HP := za h
 have hfw := h.ok.few
 obtain ⟨who, q, h1, h2, h3, h4, h5⟩ := h.ex
 obtain ⟨o, ho⟩ : ∃ o, q.L[t]? = some o := ⟨_, List.getElem?_eq_getElem (by rw [h2.lenS]; omega)⟩
 have HS := za (show a0k a t = o.o from h2.slot ho)
 have HA := za (show ∀ wr, Below w.heap.size w wr → QAt (upO who 11 w.heap.size) wr w0.heap.size pq q from fun wr hb => h1.below hb 11 (by have := h1.few; omega))
 have HQ := za h2
 have HO := za ho
 have HX3 := za (show ∀ wr, Below w.heap.size w wr → (∀ x ∈ B, wr.heap[x.1]? = some x.2 ∧ upO who 11 w.heap.size x.1 = 11 ∧ w0.heap.size ≤ x.1) from fun wr hb => QOk.boxes h3 (Keep.below hb 11))
 have H45 := za (show q.ms.map Own1.p = P ∧ q.psh = s from ⟨h4, h5⟩)
 have b1 : w.cell? ⟨g1, 0, none⟩ = some (.pointer (some ⟨pq, 0, none⟩)) := (blk_cell hb1 0).trans rfl
 have b2 : w.cell? ⟨gt, 0, none⟩ = some (.int .i64 t) := (blk_cell hb2 0).trans rfl
 have c1 := h1.c1
 have HB1 := za hb1
 have HB2 := za hb2
 have b1a := fun o => pw_cell_below (below_alloc (Below.refl w.heap.size w) o) b1
 have b2a := fun o => pw_cell_below (below_alloc (Below.refl w.heap.size w) o) b2
 have c1a := fun o => pw_cell_below (below_alloc (Below.refl w.heap.size w) o) c1
 have HGET := za (show ∀ W, Below w.heap.size w W → Calls Tryz.prog 34 #[.pointer (some ⟨q.ps, 0, none⟩), .int .i64 t] W fun e w' => e = .returned (.tuple #[.agg #[.int .u64 o.key, .int .i64 o.id], .int .u64 o.ver, .bool o.full]) ∧ Below W.heap.size W w' from fun W hb =>
  a3q _ _ _ (t : Int) o _ (HA.out W hb).sl (by omega) (by rw [Int.toNat_natCast]; exact HO.out))
 have HBD := za (below_drew (Below.refl w.heap.size w))
 have HBD2 := za (show ∀ o, Below w.heap.size w (w.alloc o).drew from fun o => below_drew (below_alloc (Below.refl w.heap.size w) o))
 clear h h1 h2 h3 h4 h5 ho hb1 hb2 hg1 hgt
 go_enter Tryz.func79, Tryz.ntmps79
 go_upto_region 1 with fail
 go_cut [5, 6, 7] (fun s5 s6 s7 wx => ∃ X, s5 = .pointer (some ⟨X, 0, none⟩) ∧ s6 = .int .u64 o.ver ∧ s7 = .bool o.full ∧ Aside0 (wx.heap[X]? = some (.cells #[.int .u64 o.key, .int .i64 o.id] 33 (0, 0))) ∧ Aside0 (Below w.heap.size w wx))
 case first =>
  go_region_with (first
   | (go_at_call 34; go_loud ((first | refine (HGET.out _ HBD.out).mono ?_ | refine (HGET.out _ (HBD2.out _)).mono ?_); rintro x_ w6 ⟨rfl, hb6⟩; (first | (have H6 := za (a5g hb6); obtain ⟨zc0, zc1, zf0, zf1⟩ := a5k H6.out.1; clear hb6) | (have H6 := za (a5l hb6); clear hb6)))))
  all_goals (go_wp2_with fail)
  all_goals go_meet
  all_goals first
   | exact ⟨_, rfl, rfl, rfl, ⟨heap_alloc_new w6 _⟩, ⟨below_step H6.out (below_alloc (Below.refl w6.heap.size w6) _)⟩⟩
   | exact ⟨_, rfl, rfl, rfl, ⟨(a2u H6.out.1 H6.out.2 (Nat.le_refl _)).1⟩, ⟨(a2u H6.out.1 H6.out.2 (Nat.le_refl _)).2⟩⟩
 case rest =>
  obtain ⟨X, rfl, rfl, rfl, HX, HBX⟩ := hcut
  clear b1 b2 c1 b1a b2a c1a
  have x1 : wc.cell? ⟨X, 1, none⟩ = some (.int .i64 o.id) := (blk_cell HX.out 1).trans rfl
  cases hf : o.full with
  | false =>
   have HH := za (show hitQ a id (1, t) = false by show hasO id (a0k a t) = false; rw [HS.out]; unfold One.o; rw [hf]; rfl)
   have HPO := za (show a1w w0 pq a n B P s id (1, t) (.returned (.bool false)) wc from ⟨by rw [HH.out], by rw [HH.out, if_neg (by simp)]; exact HP.out.below HBX.out⟩)
   clear hf
   go_wp2_with fail
   go_ret
   exact HPO.out
  | true =>
   have HF := za hf
   by_cases hid : o.id = id
   · have HH := za (show hitQ a id (1, t) = true by show hasO id (a0k a t) = true; rw [HS.out]; unfold One.o; rw [if_pos hf]; exact decide_eq_true hid)
     have b1 := pw_cell_below HBX.out ((blk_cell HB1.out 0).trans rfl : w.cell? ⟨g1, 0, none⟩ = some (.pointer (some ⟨pq, 0, none⟩)))
     have b2 := pw_cell_below HBX.out ((blk_cell HB2.out 0).trans rfl : w.cell? ⟨gt, 0, none⟩ = some (.int .i64 t))
     have c1 := (HA.out wc HBX.out).c1
     have HBC := za (show Below w.heap.size w wc.drew from below_drew HBX.out)
     have HTK := za (c0i (id := id) (below_then HP.out.bel HP.out.ok.lo HBC.out) (HA.out _ HBC.out) HQ.out (HX3.out _ HBC.out) H45.out.1 H45.out.2 t o HO.out HF.out)
     have d1 : (o.id != id) = false := by simp [hid]
     have d2 : decide (o.id = id) = true := decide_eq_true hid
     have d3 : (o.id == id) = true := by rw [beq_iff_eq]; exact hid
     clear hf hid
     go_wp2_with fail
     go_upto_region 4 with fail
     go_cut [7] (fun s7 wx => s7 = .bool true ∧ Aside0 (QOkP w0 wx pq (outQ a id (1, t)) (n + 1) B P s))
     case first =>
      go_region_with (first
       | (go_at_call 35; go_loud (refine HTK.out.mono ?_; rintro x_ w6 ⟨rfl, hq6⟩; have HQ6 := za hq6; clear hq6)))
      all_goals (go_wp2_with fail)
      all_goals go_meet
      all_goals exact ⟨rfl, HQ6⟩
     case rest =>
      obtain ⟨rfl, HQ6⟩ := hcut
      have HPO := za (show a1w w0 pq a n B P s id (1, t) (.returned (.bool true)) wc from ⟨by rw [HH.out], by rw [HH.out, if_pos rfl]; exact HQ6.out⟩)
      go_wp2_with fail
      go_ret
      exact HPO.out
   · have HH := za (show hitQ a id (1, t) = false by show hasO id (a0k a t) = false; rw [HS.out]; unfold One.o; rw [if_pos hf]; exact decide_eq_false hid)
     have d2 : decide (o.id = id) = false := decide_eq_false hid
     have d3 : (o.id == id) = false := by rw [beq_eq_false_iff_ne]; exact hid
     have HPO := za (show a1w w0 pq a n B P s id (1, t) (.returned (.bool false)) wc from ⟨by rw [HH.out], by rw [HH.out, if_neg (by simp)]; exact HP.out.below HBX.out⟩)
     clear hf
     go_wp2_with fail
     go_ret
     exact HPO.out
end
end Go.Proofs.YthghkglkifeagaaGreat.V
end
section
set_option linter.unusedVariables false
set_option linter.unusedSimpArgs false
namespace Go.Proofs.YthghkglkifeagaaGreat.V
open Go.RowKit Go.Proofs.YthghkglkifeagaaGreatW.PrintWords Go.Proofs.YthghkglkifeagaaGreatW.PrintLast Go.Proofs.YthghkglkifeagaaGreatW.PrintMore
open Go.Maps (Keyed IsMap)
open Go.WideMaps
def Rf (v : Value) : Option (DataW Value × List MemPlace) := some (.held v, [])
theorem arrPl : Go.WideMaps.ArrKey Tryz.prog 77 3 2 := ⟨Tryz.underlying77, by kernel_rfl, by kernel_rfl, by kernel_rfl⟩
theorem keyedPl : Keyed Tryz.prog 77 := Keyed.of_law arrPl.law
theorem wf64 {n : Nat} (h : n < 1000) : (Lit.int .i64 (n : Int)).wf = true := by
 have h0 : IntKind.i64.min = -9223372036854775808 := by decide
 have h1 : IntKind.i64.max = 9223372036854775807 := by decide
 simp only [Lit.wf, decide_eq_true_eq, Bool.and_eq_true]
 rw [h0, h1]
 omega
def plV (p : Nat × Nat) : Value := .agg #[.int .i64 (p.1 : Int), .int .i64 (p.2 : Int)]
def plK (p : Nat × Nat) : Lit := .string (keyBytes [.int .i64 (p.1 : Int), .int .i64 (p.2 : Int)])
theorem a5s (p : Nat × Nat) (h0 : p.1 < 1000) (h1 : p.2 < 1000) : keyOf Tryz.prog 77 (plV p) = some (plK p) :=
 keyOf_pair arrPl Tryz.underlying3 ⟨Tryz.prog.types.size - 1, by kernel_rfl⟩ (wf64 h0) (wf64 h1)
theorem c2z {p q : Nat × Nat} (h : plV p = plV q) : p = q := by
 unfold plV at h
 simp only [Value.agg.injEq, Array.mk.injEq, List.cons.injEq, Value.int.injEq, true_and, and_true] at h
 exact Prod.ext (by omega) (by omega)
theorem plK_ne {p q : Nat × Nat} (h0 : p.1 < 1000) (h1 : p.2 < 1000) (k0 : q.1 < 1000) (k1 : q.2 < 1000) (hne : p ≠ q) : plK p ≠ plK q := fun e =>
 hne (c2z (keyedPl.inj (a5s p h0 h1) (by rw [e]; exact a5s q k0 k1)))
def MapF (w : World) (b n : Nat) (f : Nat × Nat → Value) : Prop :=
  ∃ D : DataW Value, w.ownsMap Tryz.prog 77 Rf b n D ∧ ∀ p : Nat × Nat, p.1 < 1000 → p.2 < 1000 → D.atKey (plK p) (.held .nilFunc) = .held (f p)
theorem MapF.made (w : World) : MapF (w.alloc (.map #[] 0)) w.heap.size 0 (fun _ => .nilFunc) := ⟨_, World.ownsMap_made _ _ _ _, fun p _ _ => rfl⟩
theorem MapF.lt {w : World} {b n : Nat} {f : Nat × Nat → Value} (h : MapF w b n f) : b < w.heap.size := by
 obtain ⟨D, h1, h2⟩ := h
 exact h1.lt
theorem MapF.at_ {w : World} {b n : Nat} {f : Nat × Nat → Value} (h : MapF w b n f) : ∃ es clock, w.heap[b]? = some (.map es clock) := by
 obtain ⟨D, ⟨es, clock, h1, _⟩, _⟩ := h
 exact ⟨es, clock, h1⟩
theorem MapF.move {w w' : World} {b n : Nat} {f : Nat × Nat → Value} (h : MapF w b n f) (hh : w'.heap[b]? = w.heap[b]?) : MapF w' b n f := by
 obtain ⟨D, ⟨es, clock, h1, h2⟩, h3⟩ := h
 exact ⟨D, ⟨es, clock, hh.trans h1, h2⟩, h3⟩
theorem zeroF (w : World) : (zeroValue 34).run Tryz.prog w = .ok .nilFunc w := by
 obtain ⟨i0, hi, hz⟩ := Option.map_eq_some_iff.1 (show (Tryz.prog.info? 34).map (fun i => i.zero) = some (some .nilFunc) from by kernel_rfl)
 simp [zeroValue, typeInfo, hi, hz]
theorem MapF.look {w : World} {b n : Nat} {f : Nat × Nat → Value} (h : MapF w b n f) (p : Nat × Nat) (h0 : p.1 < 1000) (h1 : p.2 < 1000) :
 (Instr.lookup 72 (.map (some b)) (plV p) false).run Tryz.prog w = .ok (f p) w := by
 obtain ⟨D, d1, d2⟩ := h
 obtain ⟨v, ps, hrun, hv⟩ := d1.lookup keyedPl Tryz.underlying72 (zeroF w) (show Rf .nilFunc = some (.held .nilFunc, []) from rfl) (a5s p h0 h1)
 rw [d2 p h0 h1] at hv
 have : v = f p := by
  unfold Rf at hv
  simp only [Option.some.injEq, Prod.mk.injEq, DataW.held.injEq] at hv
  exact hv.1
 rw [← this]
 exact hrun
theorem MapF.store {w : World} {b n : Nat} {f : Nat × Nat → Value} (h : MapF w b n f) (hn : n < 1000) (p : Nat × Nat) (h0 : p.1 < 1000) (h1 : p.2 < 1000) (v : Value) :
 ∃ w', (Instr.mapUpdate 72 (.map (some b)) (plV p) v).run Tryz.prog w = .ok () w' ∧ MapF w' b (n + 1) (fun q => if q = p then v else f q) ∧ w.grownBy w' (some b) := by
 obtain ⟨D, d1, d2⟩ := h
 obtain ⟨w', hrun, h3, h4⟩ := d1.update keyedPl Tryz.underlying72 (show n < maxLen by unfold maxLen; omega) (a5s p h0 h1) (show Rf v = some (.held v, []) from rfl)
 refine ⟨w', hrun, ⟨_, h3, fun q q0 q1 => ?_⟩, h4⟩
 by_cases hq : q = p
 · subst hq
   rw [Maps.atKey_put_same d1.isMap (by simp [WideAt.IsKeyLit, plK])]
   simp
 · rw [Maps.atKey_put_other (plK_ne q0 q1 h0 h1 hq), d2 q q0 q1]
   show DataW.held (f q) = DataW.held (if q = p then v else f q)
   rw [if_neg hq]
end Go.Proofs.YthghkglkifeagaaGreat.V
end
section
set_option linter.unusedVariables false
set_option linter.unusedSimpArgs false
namespace Go.Proofs.YthghkglkifeagaaGreat.V
open Go.RowKit Go.Proofs.YthghkglkifeagaaGreatW.PrintWords Go.Proofs.YthghkglkifeagaaGreatW.PrintLast Go.Proofs.YthghkglkifeagaaGreatW.PrintMore
def kPl : Kd (Nat × Nat) := Kd.iso (Kd.pair (Kd.int .i64) (Kd.int .i64)) (fun p : Nat × Nat => ((p.1 : Int), (p.2 : Int)))
theorem b7b {w : World} {p : Nat × Nat} {cs : List Value} (h : kPl.K w p cs) : cs = [.int .i64 (p.1 : Int), .int .i64 (p.2 : Int)] := by
 obtain ⟨c0, c1, h0, h1, h2⟩ := h
 have e0 : c0 = [.int .i64 (p.1 : Int)] := h1
 have e1 : c1 = [.int .i64 (p.2 : Int)] := h2
 rw [h0, e0, e1]; rfl
theorem b7f (w : World) (base : Nat) (ok : Nat → Prop) (p : Nat × Nat) : kPl.M w base ok p [.int .i64 (p.1 : Int), .int .i64 (p.2 : Int)] := ⟨[.int .i64 (p.1 : Int)], [.int .i64 (p.2 : Int)], rfl, rfl, rfl⟩
theorem infoPl : (Tryz.prog.info? 77).map (fun i => (i.zero, i.size, i.bytes)) = some (some (.agg #[(.int .i64 0), (.int .i64 0)]), 2, 16) := by kernel_rfl
section
variable {ops : Array Oper} {Q : Exit → Act → World → Prop}
theorem b8q (w : World) {rest : List Oper} {o : Oper} {a : Act} (hg : o.guard = none) (m x y : Operand) (hop : o.op = Op.mapUpdate 72 m x y) (b n : Nat) (f : Nat × Nat → Value) (hm : a.eval m = .map (some b)) (h : MapF w b n f) (hn : n < 1000) (p : Nat × Nat) (h0 : p.1 < 1000) (h1 : p.2 < 1000) (v : Value) (hx : a.eval x = plV p) (hy : a.eval y = v)
 (hK : ∀ w', MapF w' b (n + 1) (fun q => if q = p then v else f q) → w.grownBy w' (some b) → wpList Tryz.prog ops Q rest (a.put o.dst undef) w') : wpList Tryz.prog ops Q (o :: rest) a w := by
 refine wpList_plain hg fun K' hK' => ?_
 obtain ⟨w', hrun, r1, r2⟩ := h.store hn p h0 h1 v
 unfold Oper.wp
 simp [execOp, hop, hm, hx, hy, hrun, Result.andThen]
 exact hK' _ _ (hK w' r1 r2)
end
def ToldF (g1 : Nat) (P : List Nat) (s : Nat) (bx : List (Nat × Nat)) (p : Nat × Nat) (v : Value) : Prop :=
  (p.1 = 1 ∧ ∃ gt, v = .func (.func 79) #[] #[.pointer (some ⟨g1, 0, none⟩), .pointer (some ⟨gt, 0, none⟩)] ∧ (gt, p.2) ∈ bx) ∨
  (p.1 = 2 ∧ ∃ pl, P[p.2]? = some pl ∧ v = .func (.func 80) #[.pointer (some ⟨pl, 0, none⟩)] #[]) ∨ (p.1 = 3 ∧ p.2 = 0 ∧ v = .func (.func 81) #[.pointer (some ⟨s, 0, none⟩)] #[])
theorem ToldF.more {g1 : Nat} {P : List Nat} {s : Nat} {bx bx' : List (Nat × Nat)} {p : Nat × Nat} {v : Value} (h : ToldF g1 P s bx p v) (hb : ∀ x ∈ bx, x ∈ bx') : ToldF g1 P s bx' p v := by
 rcases h with ⟨h1, gt, h2, h3⟩ | h | h
 · exact .inl ⟨h1, gt, h2, hb _ h3⟩
 · exact .inr (.inl h)
 · exact .inr (.inr h)
structure DpSt (w wr : World) (pq : Nat) (P : List Nat) (s : Nat) (l : List (Nat × Nat)) (bx : List (Nat × Nat)) (f : Nat × Nat → Value) : Prop where
  bel : Below w.heap.size w wr
  h1 : wr.heap[w.heap.size]? = some (.cells #[.pointer (some ⟨pq, 0, none⟩)] 23 (0, 0))
  h2 : ∃ v, wr.heap[w.heap.size + 1]? = some (.cells #[v] 71 (0, 0)) ∧ Kd.R kPl 77 wr w.heap.size (fun _ => True) v l
  h3 : wr.heap[w.heap.size + 2]? = some (.cells #[.map (some (w.heap.size + 3))] 72 (0, 0))
  hm : MapF wr (w.heap.size + 3) l.length f
  bxs : ∀ x ∈ bx, wr.heap[x.1]? = some (.cells #[.int .i64 (x.2 : Int)] 3 (0, 0)) ∧ w.heap.size + 3 < x.1
  told : ∀ p ∈ l, p.1 < 1000 ∧ p.2 < 1000 ∧ ToldF w.heap.size P s bx p (f p)
namespace DpSt
variable {w wr w1 : World} {pq : Nat} {P : List Nat} {s : Nat} {l : List (Nat × Nat)} {bx : List (Nat × Nat)} {f : Nat × Nat → Value}
theorem below (h : DpSt w wr pq P s l bx f) (hb : Below wr.heap.size wr w1) : DpSt w w1 pq P s l bx f := by
 obtain ⟨v, e1, e2⟩ := h.h2
 exact ⟨below_step h.bel hb, blk_below h.h1 hb, ⟨v, blk_below e1 hb, Kd.R_below e2 hb⟩, blk_below h.h3 hb, h.hm.move (hb.block _ h.hm.lt), fun x hx => ⟨blk_below (h.bxs x hx).1 hb, (h.bxs x hx).2⟩, h.told⟩
theorem box (h : DpSt w wr pq P s l bx f) (t : Nat) : DpSt w (wr.alloc (.cells #[.int .i64 (t : Int)] 3)) pq P s l ((wr.heap.size, t) :: bx) f := by
 have h1 := h.below (below_alloc (Below.refl wr.heap.size wr) (.cells #[.int .i64 (t : Int)] 3))
 refine ⟨h1.bel, h1.h1, h1.h2, h1.h3, h1.hm, fun x hx => ?_, fun p hp => ⟨(h.told p hp).1, (h.told p hp).2.1, (h.told p hp).2.2.more (fun x hx => List.mem_cons_of_mem _ hx)⟩⟩
 rcases List.mem_cons.1 hx with rfl | hx
 · exact ⟨heap_alloc_new wr _, h.hm.lt⟩
 · exact h1.bxs x hx
theorem lt (h : DpSt w wr pq P s l bx f) : w.heap.size + 3 < wr.heap.size := h.hm.lt
end DpSt
theorem a7x {w wr : World} {pq : Nat} {P : List Nat} {s : Nat} {l : List (Nat × Nat)} {bx : List (Nat × Nat)} {f : Nat × Nat → Value} (h : DpSt w wr pq P s l bx f) (p : Nat × Nat) (fv : Value) (hp0 : p.1 < 1000) (hp1 : p.2 < 1000) (hl : l.length ≤ 100) (hnew : ∀ q ∈ l, q ≠ p) (ht : ToldF w.heap.size P s bx p fv) (hfv : ∃ fn a b, fv = .func fn a b) :
 Calls Tryz.prog 78 #[plV p, fv, .pointer (some ⟨w.heap.size + 1, 0, none⟩), .pointer (some ⟨w.heap.size + 2, 0, none⟩)] wr fun e w' => e = .returned (.tuple #[]) ∧ DpSt w w' pq P s (l ++ [p]) bx (fun q => if q = p then fv else f q) := by
 obtain ⟨v, e1, e2⟩ := h.h2
 obtain ⟨A0, c0, hv⟩ := Kd.R_slice e2
 subst hv
 have HH := za h
 have HR := za e2
 have HE1 := za e1
 obtain ⟨fn, fa, fb, rfl⟩ := hfv
 have HT := za ht
 have HN := za hnew
 obtain ⟨p0, p1⟩ := p
 have HB0 := za (below_alloc (Below.refl wr.heap.size wr) (.cells #[.int .i64 (p0 : Int), .int .i64 (p1 : Int)] 77))
 have HX0 := za (heap_alloc_new wr (.cells #[.int .i64 (p0 : Int), .int .i64 (p1 : Int)] 77))
 have x0 : wr.cell? ⟨w.heap.size + 1, 0, none⟩ = some (.slice A0 l.length c0) := (blk_cell e1 0).trans rfl
 have x0a := fun o => pw_cell_below (below_alloc (Below.refl wr.heap.size wr) o) x0
 have HB1 := za (show ∀ o, Below wr.heap.size wr ((wr.alloc (.cells #[.int .i64 (p0 : Int), .int .i64 (p1 : Int)] 77)).alloc o) from fun o => below_alloc HB0.out o)
 have HLEN := za (show (l ++ [(p0, p1)]).length = l.length + 1 by simp)
 show Calls Tryz.prog 78 #[.agg #[.int .i64 (p0 : Int), .int .i64 (p1 : Int)], .func fn fa fb, .pointer (some ⟨w.heap.size + 1, 0, none⟩), .pointer (some ⟨w.heap.size + 2, 0, none⟩)] wr _
 clear h e1 e2 ht hnew
 have HLT := za HH.out.lt
 have hlw := HLT.out
 have hsz0 : (wr.alloc (.cells #[.int .i64 (p0 : Int), .int .i64 (p1 : Int)] 77)).heap.size = wr.heap.size + 1 := World.size_alloc _ _
 have HSZ := za hsz0
 clear hsz0
 have HOWN := za (show some (w.heap.size + 1) ≠ (Value.slice A0 l.length c0).ownBlock ∧ some (w.heap.size + 2) ≠ (Value.slice A0 l.length c0).ownBlock ∧ some w.heap.size ≠ (Value.slice A0 l.length c0).ownBlock ∧ (∀ x ∈ bx, some x.1 ≠ (Value.slice A0 l.length c0).ownBlock) ∧ some (w.heap.size + 3) ≠ (Value.slice A0 l.length c0).ownBlock ∧ ∀ k, (Value.slice A0 l.length c0).ownBlock = some k → w.heap.size ≤ k ∧ k < wr.heap.size from by
  refine ⟨Kd.R_ne HR.out HE1.out (by decide), Kd.R_ne HR.out HH.out.h3 (by decide), Kd.R_ne HR.out HH.out.h1 (by decide), fun x hx => Kd.R_ne HR.out (HH.out.bxs x hx).1 (by decide), fun e => ?_, fun k hk => ?_⟩
  · obtain ⟨inner, ho⟩ := Kd.R_own HR.out
    obtain ⟨cells, hc⟩ := own_typed ho _ e.symm
    obtain ⟨es, ck, hmm⟩ := HH.out.hm.at_
    rw [hc] at hmm
    simp at hmm
  · obtain ⟨inner, ho⟩ := Kd.R_own HR.out
    exact ⟨own_base ho k hk, own_lt ho k hk⟩)
 go_enter Tryz.func78, Tryz.ntmps78
 go_wp2_with (first
  | (at_builtin; go_loud (refine Kd.R_append kPl (w0 := w) w.heap.size rfl (.tmp 6) (.tmp 8) 71 77 (.agg #[(.int .i64 0), (.int .i64 0)]) 16 rfl Tryz.underlying71 infoPl rfl (by decide) (by omega) (.slice A0 l.length c0) l (p0, p1) [.int .i64 (p0 : Int), .int .i64 (p1 : Int)] (fun _ => True) (fun _ => False) rfl ?aX ?aP (fun _ hk => hk.elim) ?aF ?aO ?aB ?aS ?aL ?_; (case aX => simp [Act.eval]); (case aP => exact b7f _ _ _ (p0, p1)); (case aF => exact fun _ _ => trivial); (case aO => exact Kd.R_below HR.out HB0.out); (case aB => exact below_step HH.out.bel HB0.out); (case aS => exact (below_step HH.out.bel HB0.out).size); (case aL => omega); intro v1 w1 ho1 hb1 hg1 hat1; obtain ⟨A1, c1, hv1⟩ := Kd.R_slice ho1; rw [HLEN.out] at hv1; subst hv1; have HR1 := za ho1; have HG1 := za hg1; have HBW1 := za hb1; have hP2 := (hg1.block (w.heap.size + 1) (by rw [HSZ.out]; omega) HOWN.out.1).trans ((HB0.out.block _ (by omega)).trans HE1.out); have hP3 := (hg1.block (w.heap.size + 2) (by rw [HSZ.out]; omega) HOWN.out.2.1).trans ((HB0.out.block _ (by omega)).trans HH.out.h3); have hP4 := (hg1.block wr.heap.size (by rw [HSZ.out]; omega) (fun e => by have := (HOWN.out.2.2.2.2.2 _ e.symm).2; omega)).trans HX0.out; have HP2 := za hP2; have y0 := (blk_cell hP2 0).trans rfl; have y1 := a1h hP2 0; have z3 : ∀ v, (w1.setCell ⟨w.heap.size + 1, 0, none⟩ v).cell? ⟨w.heap.size + 2, 0, none⟩ = some (.map (some (w.heap.size + 3))) := (fun v => (blk_cell ((a0z (by omega)).trans hP3) 0).trans rfl); have z4 : ∀ v, (w1.setCell ⟨w.heap.size + 1, 0, none⟩ v).cell? ⟨wr.heap.size, 0, none⟩ = some (.int .i64 (p0 : Int)) := (fun v => (blk_cell ((a0z (by omega)).trans hP4) 0).trans rfl); have z5 : ∀ v, (w1.setCell ⟨w.heap.size + 1, 0, none⟩ v).cell? ⟨wr.heap.size, 1, none⟩ = some (.int .i64 (p1 : Int)) := (fun v => (blk_cell ((a0z (by omega)).trans hP4) 1).trans rfl); have HM1 := za (show ∀ v, MapF (w1.setCell ⟨w.heap.size + 1, 0, none⟩ v) (w.heap.size + 3) l.length f from fun v => HH.out.hm.move ((a0z (by omega)).trans ((hg1.block (w.heap.size + 3) (by rw [HSZ.out]; omega) HOWN.out.2.2.2.2.1).trans (HB0.out.block _ (by omega))))); clear ho1 hg1 hb1 hat1 hP2 hP3 hP4))
  | (refine b8q _ rfl (.tmp 10) (.tmp 11) (.tmp 12) rfl (w.heap.size + 3) l.length f rfl (HM1.out _) (by omega) (p0, p1) hp0 hp1 (.func fn fa fb) rfl rfl ?_; intro w3 hm3 hg3; have HM3 := za hm3; have HG3 := za hg3; clear hm3 hg3))
 refine ⟨rfl, .tuple #[], by simp [results, Tryz.results78, go_sem], ?_⟩
 have HK : ∀ k, k < wr.heap.size → k ≠ w.heap.size + 1 → k ≠ w.heap.size + 3 → some k ≠ (Value.slice A0 l.length c0).ownBlock → w3.heap[k]? = wr.heap[k]? := fun k hk n1 n2 n3 => by
  have s1 : wr.heap.size ≤ w1.heap.size := by have := HG1.out.size; rw [HSZ.out] at this; omega
  refine (HG3.out.block k (by simp only [World.setCell, Array.size_modify]; omega) (fun e => n2 (by injection e))).trans ?_
  refine (a0z n1).trans ?_
  exact (HG1.out.block k (by rw [HSZ.out]; omega) n3).trans (HB0.out.block k hk)
 have s1 : wr.heap.size ≤ w1.heap.size := by have := HG1.out.size; rw [HSZ.out] at this; omega
 refine ⟨rfl, ⟨?_, (HK _ (by omega) (by omega) (by omega) HOWN.out.2.2.1).trans HH.out.h1, ⟨.slice A1 (l.length + 1) c1, ?_, ?_⟩, (HK _ (by omega) (by omega) (by omega) HOWN.out.2.1).trans HH.out.h3, by rw [HLEN.out]; exact HM3.out, fun x hx => ⟨(HK _ (Array.getElem?_eq_some_iff.1 (HH.out.bxs x hx).1).1 (by have := (HH.out.bxs x hx).2; omega) (by have := (HH.out.bxs x hx).2; omega) (HOWN.out.2.2.2.1 x hx)).trans (HH.out.bxs x hx).1, (HH.out.bxs x hx).2⟩, fun q hq => ?_⟩⟩
 · exact pw_below_grown (HBW1.out.setCell (by show w.heap.size ≤ w.heap.size + 1; omega) _) _ (by simp only [World.setCell, Array.size_modify]; omega) HG3.out (fun k hk => by injection hk with hk; omega)
 · exact (HG3.out.block _ (by simp only [World.setCell, Array.size_modify]; omega) (fun e => by injection e with e; omega)).trans (blk_put HP2.out 0 _ rfl)
 · have hr1 := Kd.R_set HR1.out HP2.out (by decide) 0 (.slice A1 (l.length + 1) c1)
   refine Kd.R_mono (Kd.R_step (Kd.R_bound hr1) (fun k hk hlt => HG3.out.block k hlt (fun e => ?_))) (fun _ _ => trivial)
   obtain ⟨_, _, _, q, _, cells, hc⟩ := hk
   injection e with e
   subst e
   obtain ⟨es, ck, hmm⟩ := (HM1.out (.slice A1 (l.length + 1) c1)).at_
   rw [hc] at hmm
   simp at hmm
 · rcases List.mem_append.1 hq with h1 | h1
   · obtain ⟨t1, t2, t3⟩ := HH.out.told q h1
     exact ⟨t1, t2, by rw [if_neg (HN.out q h1)]; exact t3⟩
   · obtain rfl := List.mem_singleton.1 h1
     exact ⟨hp0, hp1, by rw [if_pos rfl]; exact HT.out⟩
end Go.Proofs.YthghkglkifeagaaGreat.V
end
