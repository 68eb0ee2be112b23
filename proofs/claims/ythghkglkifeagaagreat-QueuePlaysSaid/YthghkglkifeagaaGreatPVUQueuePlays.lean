-- a text of this work, without what this claim doesn't use (wip/shake.py)
import Derived.Test.YthghkglkifeagaaGreatPVRQB
import Derived.Deep.DeepCutAuto
import Derived.Deep.CutBlock
import Derived.Test.YthghkglkifeagaaGreatPVPvergerref5
import Derived.Test.YthghkglkifeagaaGreatPWWords
import Derived.SizedLaws
import Derived.ChangeSlices
import Derived.WalkKit
import Derived.ProofKit
import Derived.OpenShut
import Derived.ShutString
import Derived.ChangeOld
import Derived.Below
import Derived.Deep.Slices
set_option maxRecDepth 100000
set_option maxHeartbeats 8000000
section
set_option linter.unusedVariables false
set_option linter.unusedSimpArgs false
namespace Go.Proofs.YthghkglkifeagaaGreat.V
open Go.RowKit Go.Proofs.YthghkglkifeagaaGreatW.PrintWords Go.Proofs.YthghkglkifeagaaGreatW.PrintLast Go.Proofs.YthghkglkifeagaaGreatW.PrintMore
theorem b6f {w wr : World} {A : Option Addr} {l : List S30} (h : k30.C w A l.length l) (hb : Below w.heap.size w wr) {i : Nat} {o : S30} (ho : l[i]? = some o) :
 ∃ ad, A = some ad ∧ wr.cell? (ad.add (i * 5)) = some (.int .i64 o.f0) ∧ wr.cell? ⟨(ad.add (i * 5)).block, (ad.add (i * 5)).off + 1, none⟩ = some (.int .i64 o.f1) ∧ wr.cell? ⟨(ad.add (i * 5)).block, (ad.add (i * 5)).off + 2, none⟩ = some (.int .i64 o.f2) ∧ wr.cell? ⟨(ad.add (i * 5)).block, (ad.add (i * 5)).off + 3, none⟩ = some (.int .u64 o.f3) ∧ wr.cell? ⟨(ad.add (i * 5)).block, (ad.add (i * 5)).off + 4, none⟩ = some (.int .u64 o.f4) := by
 have hlt := (List.getElem?_eq_some_iff.1 ho).1
 obtain ⟨ad, e1, h0, h1, h2, h3, h4⟩ := at_T30 h (i : Int) (by omega) (by omega)
 have hr : a3j l (i : Int) = o := by unfold a3j; rw [Int.toNat_natCast, List.getD_eq_getElem?_getD, ho]; rfl
 rw [Int.toNat_natCast, hr] at h0 h1 h2 h3 h4
 exact ⟨ad, e1, uy hb h0, uy hb h1, uy hb h2, uy hb h3, uy hb h4⟩
theorem b8w (x y : Int) (A : Option Addr) (c : Nat) (l : List S30) (w : World) (hr : Kd.C k30 w A l.length l) (hc : l.length ≤ c) (hg : ∀ o ∈ l, 0 ≤ o.f4 ∧ o.f4 < 18446744073709551616) :
 Calls Tryz.prog 5 #[.int .i64 x, .int .i64 y, .slice A l.length c] w fun e w' => e = .returned (.bool true) ∧ Below w.heap.size w w' := by
 by_cases hbad : x < 1 ∨ 8 < x ∨ y < 0 ∨ 16 < y
 · have HBD := za hbad
   clear hbad hr hg
   go_enter Tryz.func5, Tryz.ntmps5
   go_wp2_with fail
   refine (b8v x y w HBD.out).mono ?_
   rintro q w1 ⟨rfl, hb1⟩
   have HB1 := za hb1
   clear hb1
   go_wp2_with fail
   refine (c1k x y w1 HBD.out).mono ?_
   rintro q w2 ⟨rfl, rfl⟩
   go_wp2_with fail
   refine (a6n _).mono ?_
   rintro q w2 ⟨rfl, hb2⟩
   have HB2 := za (ur HB1.out hb2)
   clear hb2
   go_wp2
   go_ret
   exact ⟨rfl, HB2.out⟩
 · obtain ⟨n, rfl⟩ : ∃ n : Nat, x = (n : Int) := ⟨x.toNat, by omega⟩
   obtain ⟨k, rfl⟩ : ∃ k : Nat, y = (k : Int) := ⟨y.toNat, by omega⟩
   have HNK := za (show 1 ≤ n ∧ n ≤ 8 ∧ k ≤ 16 by omega)
   have HR := za hr
   have HG := za hg
   have hl63 : l.length ≤ 9223372036854775807 := hr.2.1
   clear hbad hr hg
   go_enter Tryz.func5, Tryz.ntmps5
   go_wp2_with fail
   refine (q_new n k w HNK.out.1 HNK.out.2.1 HNK.out.2.2).mono ?_
   rintro q w1 ⟨pq, rfl, h1⟩
   have HQ1 := za h1
   clear h1
   go_wp2_with fail
   refine (r_new n k w1 HNK.out.1 HNK.out.2.1 HNK.out.2.2).mono ?_
   rintro q w2 ⟨r, rfl, hr2, hb2⟩
   obtain ⟨pr, hpr⟩ : ∃ pr, r.pr = pr := ⟨_, rfl⟩
   have HS0 := za (show PlSt w w2 pq pr n k 0 [] from ⟨⟨_, by rw [← hpr]; exact b5y HQ1.out hr2 hb2, NearP.new n k⟩⟩)
   rw [hpr]
   clear hr2 hb2 hpr
   go_wp2_with fail
   go_loopw [10] (fun i wr => ∃ m : Nat, m ≤ l.length ∧ m ≤ 60 ∧ i = .int .i64 m ∧ Aside0 (PlSt w wr pq pr n k m [])) (fun i _ => 61 - (intOf i).toNat)
   case atStart => exact ⟨0, Nat.zero_le _, by omega, rfl, HS0⟩
   case round =>
    clear HS0
    obtain ⟨m, hml, hm60, rfl, HS⟩ := hrel
    by_cases hlt : m < l.length ∧ m < 60
    · obtain ⟨hlt, hlt60⟩ := hlt
      obtain ⟨a, ht2, hnp⟩ := HS.out.ex
      have HT := za ht2
      have HN := za hnp
      have hlt2 : (m : Int) < (l.length : Int) := by omega
      have hlt3 : (m : Int) < 60 := by omega
      obtain ⟨o, ho⟩ : ∃ o, l[m]? = some o := ⟨_, List.getElem?_eq_getElem hlt⟩
      obtain ⟨ad, rfl, y0, y1, y2, y3, y4⟩ := b6f HR.out ht2.bel ho
      have hgo := HG.out o (List.mem_of_getElem? ho)
      have HBM := za (show m ≤ 60 from hm60)
      have HCN := za (show sumL a.loc + a.sh.length ≤ 900 by have := ht2.cnt; omega)
      have HSO := za (show ∀ t, a0d (a.loc.getD t []) from fun t => ht2.sortedL t)
      have HUN := za (b8i hnp.un)
      clear ho ht2 hnp HS
      obtain ⟨K, t, id0, key, dr⟩ := o
      simp only at y0 y1 y2 y3 y4 hgo
      obtain ⟨dn, hdn, hdn2⟩ : ∃ dn : Nat, dr = (dn : Int) ∧ dn < 18446744073709551616 := ⟨dr.toNat, by omega, by omega⟩
      subst hdn
      have HDN := za hdn2
      clear hgo hdn2
      go_upto_block 2 with fail
      obtain ⟨g, hg⟩ : ∃ g, g = wr.heap.size := ⟨_, rfl⟩
      obtain ⟨wb, hwb⟩ : ∃ wb, wb = wr.alloc (.cells #[.int .i64 K, .int .i64 t, .int .i64 id0, .int .u64 key, .int .u64 (dn : Int)] 30) := ⟨_, rfl⟩
      have HTB := za (show Two w wb pq pr a a m [(g, opO K t id0 key dn)] from by rw [hwb, hg]; exact HT.out.box (uv (Below.refl _ _) _) (ut _) (heap_alloc_new _ _))
      rw [← hg, ← hwb]
      clear y0 y1 y2 y3 y4 hg hwb
      obtain ⟨y0, y1, y2, y3, y4⟩ := a2o (HTB.out.at_ (x := (g, opO K t id0 key dn)) List.mem_cons_self)
      go_cut [11] (fun s wx => s = .pointer (some ⟨g, 0, none⟩) ∧ Aside0 (PlSt w wx pq pr n k (m + 1) [(g, opO K t id0 key dn)]))
      case first =>
       by_cases hk0 : K = 0
       · subst hk0
         have HTX := za (show Two w (wb.alloc (.cells #[.int .u64 key, .int .i64 ((m : Int) + 1)] 33)) pq pr a a m [(wb.heap.size, eE ⟨key, (m : Int) + 1⟩), (g, opO 0 t id0 key dn)] from HTB.out.box (uv (Below.refl _ _) _) (ut _) (heap_alloc_new _ _))
         obtain ⟨gx, hgx⟩ : ∃ gx, gx = wb.heap.size := ⟨_, rfl⟩
         obtain ⟨wx, hwx⟩ : ∃ wx, wx = wb.alloc (.cells #[.int .u64 key, .int .i64 ((m : Int) + 1)] 33) := ⟨_, rfl⟩
         rw [← hwx, ← hgx] at HTX
         have hw1 : IntKind.i64.wrap ((m : Int) + 1) = (m : Int) + 1 := IntWalk.i64_in _ (by omega)
         cases hT : inT a t with
         | true =>
          go_upto_region 26 with fail
          rw [← hwx, ← hgx]
          clear hwx hgx y0 y1 y2 y3 y4
          obtain ⟨y0, y1, y2, y3, y4⟩ := a2o (HTX.out.at_ (x := (g, opO 0 t id0 key dn)) (List.mem_cons_of_mem _ List.mem_cons_self))
          obtain ⟨x0, x1⟩ := a2y (HTX.out.at_ (x := (gx, eE ⟨key, (m : Int) + 1⟩)) List.mem_cons_self)
          go_wp2_with fail
          refine (b2b HTX.out HCN.out HSO.out t ⟨key, (m : Int) + 1⟩).mono ?_
          rintro q w3 ⟨rfl, h3⟩
          have HT3 := za h3
          clear h3 y0 y1 y2 y3 y4 x0 x1
          rw [hT]
          obtain ⟨y0, y1, y2, y3, y4⟩ := a2o (HT3.out.at_ (x := (g, opO 0 t id0 key dn)) (List.mem_cons_of_mem _ List.mem_cons_self))
          obtain ⟨x0, x1⟩ := a2y (HT3.out.at_ (x := (gx, eE ⟨key, (m : Int) + 1⟩)) List.mem_cons_self)
          go_wp2_with fail
          refine (b0r HT3.out (by have := HBM.out; omega) t ⟨key, (m : Int) + 1⟩).mono ?_
          rintro q w4 ⟨rfl, h4⟩
          rw [hT]
          have HP4 := za (show PlSt w w4 pq pr n k (m + 1) [(g, opO 0 t id0 key dn)] from ⟨⟨_, h4.unbox, a9k HN.out t rfl⟩⟩)
          clear h4
          go_wp2_with fail
          go_meet
          exact ⟨rfl, HP4⟩
         | false =>
          go_upto_region 26 with fail
          rw [← hwx, ← hgx]
          clear hwx hgx y0 y1 y2 y3 y4
          obtain ⟨y0, y1, y2, y3, y4⟩ := a2o (HTX.out.at_ (x := (g, opO 0 t id0 key dn)) (List.mem_cons_of_mem _ List.mem_cons_self))
          obtain ⟨x0, x1⟩ := a2y (HTX.out.at_ (x := (gx, eE ⟨key, (m : Int) + 1⟩)) List.mem_cons_self)
          go_wp2_with fail
          refine (b2b HTX.out HCN.out HSO.out t ⟨key, (m : Int) + 1⟩).mono ?_
          rintro q w3 ⟨rfl, h3⟩
          have HT3 := za h3
          clear h3 y0 y1 y2 y3 y4 x0 x1
          rw [hT]
          obtain ⟨y0, y1, y2, y3, y4⟩ := a2o (HT3.out.at_ (x := (g, opO 0 t id0 key dn)) (List.mem_cons_of_mem _ List.mem_cons_self))
          obtain ⟨x0, x1⟩ := a2y (HT3.out.at_ (x := (gx, eE ⟨key, (m : Int) + 1⟩)) List.mem_cons_self)
          go_wp2_with fail
          refine (b0r HT3.out (by have := HBM.out; omega) t ⟨key, (m : Int) + 1⟩).mono ?_
          rintro q w4 ⟨rfl, h4⟩
          rw [hT]
          have HP4 := za (show PlSt w w4 pq pr n k (m + 1) [(g, opO 0 t id0 key dn)] from ⟨⟨_, h4.unbox, a9k HN.out t rfl⟩⟩)
          clear h4
          go_wp2_with fail
          go_meet
          exact ⟨rfl, HP4⟩
       · have n0 : (K == 0) = false := by rw [beq_eq_false_iff_ne]; omega
         by_cases hk1 : K = 1
         · subst hk1
           obtain ⟨b, hb⟩ : ∃ b, hadI a t = b := ⟨_, rfl⟩
           have HHB := za hb
           clear hb
           go_upto_region 31 with fail
           refine start_ (n := 9) (S := fun w' => w'.cell? ⟨g, 1, none⟩ = some (.int .i64 t)) (ds := []) #[xX, xX, xX, xX, xX, xX, xX, xX, xX] (by kernel_rfl) rfl rfl y1 (fun hHeld => ?_)
           refine pU (i := 0) (N := (some 146)) (bA 9 1) (by kernel_rfl) rfl ?_
           refine pU (i := 1) (N := (some 147)) (bA 9 3) (by kernel_rfl) rfl ?_
           refine pU (i := 4) (N := (some 150)) (bA 9 19) (by kernel_rfl) rfl ?_
           refine pU (i := 5) (N := (some 151)) (bA 9 51) (by kernel_rfl) rfl ?_
           refine vq (i := 2) (N := (some 148)) (v := ?_) (a' := ?_) (bA 9 55) rfl rfl (by kernel_rfl) (fun _ _ _ h => h) (Or.inl ⟨by rfl, ?_⟩) hHeld ?_ ?_
           rotate_left
           · intro w' s0
             go_simp
             with_reducible rfl
           rotate_left
           · simp only [Act.put, ua, ub, uc, ue, uf]
             rfl
           refine vq (i := 6) (N := (some 152)) (v := ?_) (a' := ?_) (bA 9 119) rfl rfl (by kernel_rfl) (fun _ _ _ h => h) (Or.inl ⟨by rfl, ?_⟩) hHeld ?_ ?_
           rotate_left
           · intro w' s0
             go_simp
             with_reducible rfl
           rotate_left
           · simp only [Act.put, ua, ub, uc, ue, uf]
             rfl
           refine one_ (i := 3) (N := (some 149)) (bA 9 127) rfl rfl (by kernel_rfl) (by decide) (fun K hK => ?_)
           refine goes_ Tryz.func9 (by kernel_rfl) rfl #[.pointer (some ⟨pq, 0, none⟩), .int .i64 t] (by rfl) rfl rfl (by (try simp only [ug, ul, uo]); first | done | rfl) ?_
           refine (b8d (HTB.out.below (vu (Below.refl _ _))) (by have := HBM.out; omega) t).mono ?_
           rintro q w3 ⟨rfl, h3⟩
           rw [HHB.out]
           have HT3 := za h3
           clear h3
           refine ⟨_, rfl, ?_⟩
           refine hK.out _ _ (a2o (HT3.out.at_ (x := (g, opO 1 t id0 key dn)) List.mem_cons_self)).2.1 (fun hHeld => ?_)
           clear hK K
           refine vv (a' := ?_) ?_ ?_; rotate_left; (· (show Act.put _ (some 149) _ = _); (simp only [Act.put, ua, ub, uc, ue, uf]); rfl)
           refine one_ (i := 7) (N := (some 153)) (bA 9 255) rfl rfl (by kernel_rfl) (by decide) (fun K hK => ?_)
           refine goes_ Tryz.func19 (by kernel_rfl) rfl #[.pointer (some ⟨pr, 0, none⟩), .int .i64 t] (by rfl) rfl rfl (by (try simp only [ug, ul, uo]); first | done | rfl) ?_
           refine (b4n HT3.out HCN.out HSO.out t).mono ?_
           rintro q w4 ⟨rfl, h4⟩
           rw [HHB.out]
           have HT4 := za h4
           clear h4
           refine ⟨_, rfl, ?_⟩
           refine hK.out _ _ (a2o (HT4.out.at_ (x := (g, opO 1 t id0 key dn)) List.mem_cons_self)).2.1 (fun hHeld => ?_)
           clear hK K
           refine vv (a' := ?_) ?_ ?_; rotate_left; (· (show Act.put _ (some 153) _ = _); (simp only [Act.put, ua, ub, uc, ue, uf]); rfl)
           refine pU (i := 8) (N := (some 154)) (bA 9 511) (by kernel_rfl) rfl ?_
           refine done_ (by kernel_rfl) ?_
           have HP4 := za (show PlSt w w4 pq pr n k (m + 1) [(g, opO 1 t id0 key dn)] from ⟨⟨_, HT4.out, c3h HN.out t⟩⟩)
           go_wp2_with fail
           go_meet
           exact ⟨rfl, HP4⟩
         · have n1 : (K == 1) = false := by rw [beq_eq_false_iff_ne]; omega
           go_upto_if 73 with fail
           go_cut [14] (fun s wx => ∃ id : Int, s = .int .i64 id ∧ Aside0 (Two w wx pq pr a a m [(g, opO K t id0 key dn)]))
           case first =>
            by_cases hk2 : K = 2
            · subst hk2
              go_wp2_with fail
              refine (b0t HTB.out HCN.out (by rw [HN.out.k_]; exact HNK.out.2.2) t dn HDN.out).mono ?_
              rintro q w3 ⟨hq, hb3⟩
              obtain ⟨xe, bx, hx, _⟩ := a3c (relI a t dn)
              rw [a3l hx] at hq
              subst hq
              have HT4 := za ((HTB.out.below hb3).below (uv (Below.refl w3.heap.size w3) (.cells #[.int .u64 xe.f0, .int .i64 xe.f1] 33)))
              obtain ⟨x0, x1⟩ := a2y (heap_alloc_new w3 (.cells #[.int .u64 xe.f0, .int .i64 xe.f1] 33))
              clear hx hb3
              go_wp2_with fail
              go_meet
              exact ⟨_, rfl, HT4⟩
            · have n2 : (K == 2) = false := by rw [beq_eq_false_iff_ne]; omega
              go_wp2_with fail
              go_meet
              exact ⟨_, rfl, HTB⟩
           case rest =>
            obtain ⟨id, rfl, HTC⟩ := hcut
            rename World => wc
            clear y0 y1 y2 y3 y4
            obtain ⟨y0, y1, y2, y3, y4⟩ := a2o (HTC.out.at_ (x := (g, opO K t id0 key dn)) List.mem_cons_self)
            go_upto_if 87 with fail
            go_cut [14] (fun s wx => ∃ id : Int, s = .int .i64 id ∧ Aside0 (Two w wx pq pr a a m [(g, opO K t id0 key dn)]))
            case first =>
             by_cases hk3 : K = 3
             · subst hk3
               go_wp2_with fail
               refine (b9w HTC.out HCN.out).mono ?_
               rintro q w3 ⟨hq, hb3⟩
               obtain ⟨xe, bx, hx, _⟩ := a3c (allQ a).head?
               rw [a3l hx] at hq
               subst hq
               have HT4 := za ((HTC.out.below hb3).below (uv (Below.refl w3.heap.size w3) (.cells #[.int .u64 xe.f0, .int .i64 xe.f1] 33)))
               obtain ⟨x0, x1⟩ := a2y (heap_alloc_new w3 (.cells #[.int .u64 xe.f0, .int .i64 xe.f1] 33))
               clear hx hb3
               go_wp2_with fail
               go_meet
               exact ⟨_, rfl, HT4⟩
             · have n3 : (K == 3) = false := by rw [beq_eq_false_iff_ne]; omega
               go_wp2_with fail
               go_meet
               exact ⟨_, rfl, HTC⟩
            case rest =>
             clear HTC
             obtain ⟨id, rfl, HTD⟩ := hcut
             rename World => wd
             clear y0 y1 y2 y3 y4
             obtain ⟨p, t9, hp9⟩ : ∃ p t9, a0p a id = (p, t9) := ⟨_, _, rfl⟩
             obtain ⟨b, hb⟩ : ∃ b, (a0x a id).1 = b := ⟨_, rfl⟩
             have HP9 := za hp9
             have HB9 := za hb
             clear hp9 hb
             go_wp2_with fail
             refine (c2e HTD.out (by have := HBM.out; omega) id).mono ?_
             rintro q w3 ⟨hq, hb3⟩
             rw [HP9.out] at hq
             unfold a0t at hq
             subst hq
             have HT3 := za (HTD.out.below hb3)
             clear hb3
             go_wp2_with fail
             refine (b9g HT3.out HCN.out id).mono ?_
             rintro q w4 ⟨hq, hb4⟩
             rw [HP9.out] at hq
             unfold a0t at hq
             subst hq
             have HT4 := za (HT3.out.below hb4)
             clear hb4
             go_wp2_with fail
             refine (b6v HT4.out (by have := HBM.out; omega) HUN.out id).mono ?_
             rintro q w5 ⟨rfl, h5⟩
             rw [HB9.out]
             have HT5 := za h5
             clear h5
             go_wp2_with fail
             refine (b5x HT5.out HCN.out id).mono ?_
             rintro q w6 ⟨rfl, h6⟩
             rw [HB9.out]
             have HP6 := za (show PlSt w w6 pq pr n k (m + 1) [(g, opO K t id0 key dn)] from ⟨⟨_, h6, (HN.out.take id).mono (by omega)⟩⟩)
             clear h6
             go_wp2_with fail
             go_meet
             exact ⟨rfl, HP6⟩
      case rest =>
       clear HT HN HCN HSO HUN HTB
       obtain ⟨rfl, HPC⟩ := hcut
       rename World => wc
       obtain ⟨a', ht2, hnp⟩ := HPC.out.ex
       have HT := za ht2
       have HN := za hnp
       have HCN := za (show sumL a'.loc + a'.sh.length ≤ 900 by have := ht2.cnt; omega)
       clear ht2 hnp HPC y0 y1 y2 y3 y4
       obtain ⟨y0, y1, y2, y3, y4⟩ := a2o (HT.out.at_ (x := (g, opO K t id0 key dn)) List.mem_cons_self)
       obtain ⟨xe, bx, hx, _⟩ := a3c (relI a' t dn)
       have HRV := za (a3l hx)
       have hneq := fun W => b4u xe.f0 xe.f1 W
       clear hx
       go_wp2_with fail
       refine (c2y HT.out (by have := HBM.out; omega) t dn HDN.out).mono ?_
       rintro q w3 ⟨hq, hb3⟩
       rw [HRV.out] at hq
       subst hq
       have HT3 := za ((HT.out.below hb3).box (uv (Below.refl w3.heap.size w3) (.cells #[.int .u64 xe.f0, .int .i64 xe.f1] 33)) (ut _) (heap_alloc_new _ _))
       obtain ⟨g3, hg3⟩ : ∃ g3, g3 = w3.heap.size := ⟨_, rfl⟩
       obtain ⟨w4, hw4⟩ : ∃ w4, w4 = w3.alloc (.cells #[.int .u64 xe.f0, .int .i64 xe.f1] 33) := ⟨_, rfl⟩
       rw [← hg3, ← hw4] at HT3
       clear hb3 y0 y1 y2 y3 y4
       go_upto_region 34 with fail
       rw [← hg3, ← hw4]
       clear hg3 hw4
       obtain ⟨y0, y1, y2, y3, y4⟩ := a2o (HT3.out.at_ (x := (g, opO K t id0 key dn)) (List.mem_cons_of_mem _ List.mem_cons_self))
       go_wp2_with fail
       refine (b0t HT3.out HCN.out (by rw [HN.out.k_]; exact HNK.out.2.2) t dn HDN.out).mono ?_
       rintro q w5 ⟨hq, hb5⟩
       rw [HRV.out] at hq
       subst hq
       have HT5 := za ((HT3.out.below hb5).box (uv (Below.refl w5.heap.size w5) (.cells #[.int .u64 xe.f0, .int .i64 xe.f1] 33)) (ut _) (heap_alloc_new _ _))
       obtain ⟨g5, hg5⟩ : ∃ g5, g5 = w5.heap.size := ⟨_, rfl⟩
       obtain ⟨w6, hw6⟩ : ∃ w6, w6 = w5.alloc (.cells #[.int .u64 xe.f0, .int .i64 xe.f1] 33) := ⟨_, rfl⟩
       rw [← hg5, ← hw6] at HT5
       clear hb5 y0 y1 y2 y3 y4
       go_upto_region 35 with fail
       rw [← hg5, ← hw6]
       clear hg5 hw6
       obtain ⟨x0, x1⟩ := a2y (x := xe) (HT5.out.at_ List.mem_cons_self)
       obtain ⟨x2, x3⟩ := a2y (x := xe) (HT5.out.at_ (List.mem_cons_of_mem _ List.mem_cons_self))
       go_wp2_with fail
       refine (b7g HT5.out (by have := HBM.out; omega)).mono ?_
       rintro q w7 ⟨rfl, hb7⟩
       have HS7 := za (show PlSt w w7 pq pr n k (m + 1) [] from ⟨⟨_, (HT5.out.below hb7).unbox.unbox.unbox, HN.out⟩⟩)
       clear hb7 x0 x1 x2 x3
       go_wp2
       go_roundw
       case rel => exact ⟨m + 1, by omega, by omega, by go_num, HS7⟩
       case measure => simp [intOf]; omega
    · have hout : (¬ (m : Int) < (l.length : Int)) ∨ ((m : Int) < (l.length : Int) ∧ ¬ (m : Int) < 60) := by omega
      have HBE := za (show Below w.heap.size w wr from by obtain ⟨a, h1, _⟩ := HS.out.ex; exact h1.bel)
      clear hlt HS
      rcases hout with hout | ⟨hout0, hout⟩
      · go_wp2_with fail
        refine (a6n _).mono ?_
        rintro q w7 ⟨rfl, hb7⟩
        have HB7 := za (ur HBE.out hb7)
        clear hb7
        go_wp2
        go_ret
        exact ⟨rfl, HB7.out⟩
      · go_wp2_with fail
        refine (a6n _).mono ?_
        rintro q w7 ⟨rfl, hb7⟩
        have HB7 := za (ur HBE.out hb7)
        clear hb7
        go_wp2
        go_ret
        exact ⟨rfl, HB7.out⟩
end Go.Proofs.YthghkglkifeagaaGreat.V
end
section
set_option linter.unusedVariables false
set_option linter.unusedSimpArgs false
namespace Go.Proofs.YthghkglkifeagaaGreat.VOpen
open Go.RowKit Go.Proofs.YthghkglkifeagaaGreatW.PrintWords Go.Deep Go.ChangeShapes Go.WideShapes
structure Fits {α : Type} (P : Program) (t : TypeId) (d : Kd α) (good : α → Prop) : Prop where
  sz : P.cellsOf t = d.sz
  opens : ∀ {H : Type} {enc : TypeId × Value → H} {w : World} {base : Nat} {spare : Nat → Bool} {held : Bool} {fuel : Nat} {cs : List Value} {x : DataW H × List MemPlace},
    DataW.trod enc P w base spare held fuel t cs = some x → ∃ a, d.K w a cs ∧ good a
theorem fits_int {P : Program} {t : TypeId} {k : IntKind} (ht : P.underlying t = some (.int k)) (hc : P.cellsOf t = 1) : Fits P t (Kd.int k) (fun n => (Lit.int k n).wf = true) where
 sz := hc
 opens := fun h => by
  obtain ⟨n, rfl, _, hw⟩ := DataW.trod_int ht h
  exact ⟨n, rfl, hw⟩
theorem fits_iso {α β : Type} {P : Program} {t : TypeId} {d : Kd α} {good : α → Prop} (f : β → α) (g : α → β) (hfg : ∀ a, f (g a) = a) (h : Fits P t d good) : Fits P t (Kd.iso d f) (fun b => good (f b)) where
 sz := h.sz
 opens := fun hx => by
  obtain ⟨a, hk, hg⟩ := h.opens hx
  exact ⟨g a, by show d.K _ (f (g a)) _; rw [hfg]; exact hk, by rw [hfg]; exact hg⟩
structure FitsRow {α : Type} (P : Program) (fs : List Field) (o : Nat) (d : Kd α) (good : α → Prop) : Prop where
  opens : ∀ {H : Type} {enc : TypeId × Value → H} {w : World} {base : Nat} {spare : Nat → Bool} {held : Bool} {n : Nat} {cs : List Value} {xs : List (DataW H × List MemPlace)},
    cs.length = d.sz → xs.length = fs.length →
    (∀ (i : Nat) (f : Field), fs[i]? = some f → DataW.trod enc P w base spare held n f.type ((cs.drop (f.offset - o)).take (P.cellsOf f.type)) = xs[i]?) → (∀ (i : Nat) (f : Field), fs[i]? = some f → o ≤ f.offset) → ∃ a, d.K w a cs ∧ good a
theorem fitsRow_one {α : Type} {P : Program} {f : Field} {o : Nat} {d : Kd α} {good : α → Prop} (ho : f.offset = o) (h : Fits P f.type d good) : FitsRow P [f] o d good where
 opens := fun {H enc w base spare held n cs xs} hl hx hf _ => by
  match xs, hx with
  | [x], _ =>
   have := hf 0 f rfl
   rw [ho, Nat.sub_self, List.drop_zero, h.sz, List.take_of_length_le (Nat.le_of_eq hl)] at this
   exact h.opens this
theorem fitsRow_cons {α β : Type} {P : Program} {f : Field} {fs : List Field} {o : Nat} {a : Kd α} {b : Kd β} {ga : α → Prop} {gb : β → Prop} (ho : f.offset = o) (hos : ∀ (i : Nat) (f' : Field), fs[i]? = some f' → o + a.sz ≤ f'.offset)
 (h : Fits P f.type a ga) (hs : FitsRow P fs (o + a.sz) b gb) : FitsRow P (f :: fs) o (Kd.pair a b) (fun p => ga p.1 ∧ gb p.2) where
 opens := fun {H enc w base spare held n cs xs} hl hx hf _ => by
  match xs, hx with
  | x :: xs, hx =>
   have hl' : cs.length = a.sz + b.sz := hl
   have h0 := hf 0 f rfl
   rw [ho, Nat.sub_self, List.drop_zero, h.sz] at h0
   obtain ⟨u, hu, gu⟩ := h.opens h0
   obtain ⟨v, hv, gv⟩ := hs.opens (cs := cs.drop a.sz) (xs := xs) (by rw [List.length_drop]; omega) (by simpa using hx) (fun i f' hi => by
    have h1 := hf (i + 1) f' hi
    have h2 := hos i f' hi
    rw [List.drop_drop, show a.sz + (f'.offset - (o + a.sz)) = f'.offset - o from by omega]
    exact h1) hos
   exact ⟨(u, v), ⟨cs.take a.sz, cs.drop a.sz, (List.take_append_drop _ _).symm, hu, hv⟩, gu, gv⟩
theorem fits_struct {α : Type} {P : Program} {t : TypeId} {fs : Array Field} {d : Kd α} {good : α → Prop} (ht : P.underlying t = some (.struct fs)) (hc : P.cellsOf t = d.sz) (h : FitsRow P fs.toList 0 d good) : Fits P t d good where
 sz := hc
 opens := fun hx => by
  obtain ⟨xs, n, _, _, hl, hxl, hf⟩ := DataW.trod_struct ht hx
  exact h.opens (xs := xs) (n := n) (by rw [hl, hc]) (by rw [hxl]; simp) (fun i f hi => by
   have := hf i f (by simpa using hi)
   rw [Nat.sub_zero]
   exact this) (fun _ _ _ => Nat.zero_le _)
theorem filter_all {α : Type} (f : Nat → Option α) : ∀ (len : Nat), (∀ i, i < len → ∃ u, f i = some u) → ((List.range len).filterMap f).length = len ∧ ∀ i, i < len → ((List.range len).filterMap f)[i]? = f i := by
 intro len
 induction len with
 | zero => simp
 | succ k ih =>
  intro hf
  obtain ⟨h1, h2⟩ := ih (fun i hi => hf i (by omega))
  obtain ⟨u, hu⟩ := hf k (by omega)
  rw [List.range_succ, List.filterMap_append]
  simp only [List.filterMap_cons, hu, List.filterMap_nil]
  refine ⟨by simp [h1], fun i hi => ?_⟩
  by_cases hik : i < k
  · rw [List.getElem?_append_left (by omega)]
    exact h2 i hik
  · have : i = k := by omega
    subst this
    rw [List.getElem?_append_right (by omega), h1, hu]
    simp
theorem fits_slice {α : Type} {P : Program} {t e : TypeId} {d : Kd α} {good : α → Prop} (ht : P.underlying t = some (.slice e)) (hc : P.cellsOf t = 1) (h : Fits P e d good) : Fits P t (Kd.slice e d) (fun l => ∀ x ∈ l, good x) where
 sz := hc
 opens := fun {H enc w base spare held fuel cs x} hx => by
  rcases open_slice ht hx with ⟨rfl, _⟩ | ⟨a, len, cap, m, n, D, Pl, rfl, _, hl, hm, hmm, _, hcell⟩
  · exact ⟨[], ⟨none, 0, rfl, Nat.le_refl _, rfl, by simp, fun h0 => absurd h0 (by simp)⟩, by simp⟩
  · have hlm : len ≤ m := by rw [hmm]; split <;> omega
    have each : ∀ i, i < len → ∃ u : α, (∃ c, c.length = d.sz ∧ d.K w u c ∧ ∀ j v, c[j]? = some v → w.cell? (a.add (i * d.sz + j)) = some v) ∧ good u := by
     intro i hi
     obtain ⟨c, h1, h2⟩ := hcell i (by omega)
     rw [h.sz] at h1
     obtain ⟨_, h3, h4⟩ := World.cells?_some h1
     obtain ⟨u, hu, gu⟩ := h.opens h2
     refine ⟨u, ⟨c, h3, hu, fun j v hj => ?_⟩, gu⟩
     have hjl : j < d.sz := by have := (List.getElem?_eq_some_iff.1 hj).1; omega
     have := h4 j hjl
     rw [Addr.add_add] at this
     rw [this, hj]
    have hex : ∃ f : Nat → Option α, ∀ i, i < len → ∃ u, f i = some u ∧ (∃ c, c.length = d.sz ∧ d.K w u c ∧ ∀ j v, c[j]? = some v → w.cell? (a.add (i * d.sz + j)) = some v) ∧ good u := by
     classical
     refine ⟨fun i => if hi : i < len then some (Classical.choose (each i hi)) else none, fun i hi => ⟨Classical.choose (each i hi), by simp [hi], Classical.choose_spec (each i hi)⟩⟩
    obtain ⟨f, hf⟩ := hex
    have hlen := filter_all f len (fun i hi => (hf i hi).imp fun _ h => h.1)
    refine ⟨(List.range len).filterMap f, ⟨some a, cap, by rw [hlen.1], by rw [hlen.1]; exact hl, rfl, by rw [hlen.1]; unfold maxLen at hm; omega, fun _ => ⟨a, rfl, fun j p hj => ?_⟩⟩, fun x hx => ?_⟩
    · have hjl : j < len := by have := (List.getElem?_eq_some_iff.1 hj).1; rw [hlen.1] at this; exact this
      obtain ⟨u, hu, hc, _⟩ := hf j hjl
      rw [hlen.2 j hjl, hu] at hj
      injection hj with hj
      subst hj
      exact hc
    · obtain ⟨j, hj⟩ := List.mem_iff_getElem?.1 hx
      have hjl : j < len := by have := (List.getElem?_eq_some_iff.1 hj).1; rw [hlen.1] at this; exact this
      obtain ⟨u, hu, _, gu⟩ := hf j hjl
      rw [hlen.2 j hjl, hu] at hj
      injection hj with hj
      subst hj
      exact gu
theorem slice_arg {α : Type} {P : Program} {t e : TypeId} {d : Kd α} {good : List α → Prop} (h : Fits P t (Kd.slice e d) good) {H : Type} {enc : TypeId × Value → H} {w : World} {base : Nat} {spare : Nat → Bool} {held : Bool} {fuel : Nat} {v : Value}
 {x : DataW H × List MemPlace} {A : Option Addr} {len cap : Nat} (hv : v = .slice A len cap) (hx : DataW.trod enc P w base spare held fuel t v.cells.toList = some x) : ∃ l : List α, len = l.length ∧ l.length ≤ cap ∧ d.C w A l.length l ∧ good l := by
 subst hv
 obtain ⟨l, ⟨A', c', hcs, hl, hC⟩, hg⟩ := h.opens hx
 simp only [Value.cells, List.cons.injEq, and_true, Value.slice.injEq] at hcs
 obtain ⟨rfl, rfl, rfl⟩ := hcs
 exact ⟨l, rfl, hl, hC, hg⟩
theorem slice_bound {P : Program} {t e : TypeId} (ht : P.underlying t = some (.slice e)) {H : Type} {enc : TypeId × Value → H} {w : World} {base : Nat} {spare : Nat → Bool} {held : Bool} {fuel : Nat}
 {x : DataW H × List MemPlace} {A : Option Addr} {len cap : Nat} (hx : DataW.trod enc P w base spare held fuel t (Value.slice A len cap).cells.toList = some x)
 {ts : List TypeId} {ds : List (DataW H)} (hs : (DataW.weightsEach P ts ds).all (· ≤ reachBytes) = true) {j : Nat} (h1 : ts[j]? = some t) (h2 : ds[j]? = some x.1) {b : Nat} (hb : P.bytesOf e = b) : len * b ≤ 140737488351232 := by
 rcases DataW.trod_slice ht hx with ⟨hc, rfl⟩ | ⟨a, len', cap', elems, rest, n, _, hc, rfl, _, _, _, hl, _⟩
 · simp only [Value.cells, List.cons.injEq, and_true, Value.slice.injEq] at hc
   obtain ⟨rfl, rfl, rfl⟩ := hc
   omega
 · simp only [Value.cells, List.cons.injEq, and_true, Value.slice.injEq] at hc
   obtain ⟨rfl, rfl, rfl⟩ := hc
   have := sized_slice hs h1 h2 ht
   rw [hb, List.length_map, hl] at this
   refine Nat.le_trans (Nat.mul_le_mul_right b (Nat.le_add_right len _)) this
end Go.Proofs.YthghkglkifeagaaGreat.VOpen
end
section
set_option linter.unusedVariables false
set_option linter.unusedSimpArgs false
namespace Go.Proofs.YthghkglkifeagaaGreat.V
open Go.RowKit Go.Proofs.YthghkglkifeagaaGreatW.PrintWords Go.Proofs.YthghkglkifeagaaGreatW.PrintLast Go.Proofs.YthghkglkifeagaaGreatW.PrintMore
def vergerlaw10_QueuePlays.f (a0 a1 : Int) (l2 : List S30) : Option Bool := if ∀ o ∈ l2, 0 ≤ o.f4 ∧ o.f4 < 18446744073709551616 then some true else none
theorem vergerlaw10_QueuePlays.calls (a0 a1 : Int) (A2 : Option Addr) (c2 : Nat) (l2 : List S30) (r : Bool) (w : World) (hr2 : Kd.C k30 w A2 l2.length l2) (hc2 : l2.length ≤ c2) (h : vergerlaw10_QueuePlays.f a0 a1 l2 = some r) :
 Calls Tryz.prog 5 #[.int .i64 a0, .int .i64 a1, .slice A2 l2.length c2] w fun e w' => e = .returned (.bool r) ∧ Below w.heap.size w w' := by
 unfold vergerlaw10_QueuePlays.f at h
 by_cases hl : ∀ o ∈ l2, 0 ≤ o.f4 ∧ o.f4 < 18446744073709551616
 · rw [if_pos hl] at h
   obtain rfl := Option.some.inj h
   exact b8w a0 a1 A2 c2 l2 w hr2 hc2 hl
 · rw [if_neg hl] at h
   cases h
theorem wf_u64 {x : Int} (h : (Lit.int .u64 x).wf = true) : 0 ≤ x ∧ x < 18446744073709551616 := by
 simp [Lit.wf, IntKind.min, IntKind.max, IntKind.signed, IntKind.bits] at h
 omega
theorem c0j (a0 a1 : Int) (l2 : List S30) {P Q R : Prop} (_ : P) (_ : Q) (_ : R) (hg : ∀ x ∈ l2, (Lit.int .i64 x.f0).wf = true ∧ (Lit.int .i64 x.f1).wf = true ∧ (Lit.int .i64 x.f2).wf = true ∧ (Lit.int .u64 x.f3).wf = true ∧ (Lit.int .u64 x.f4).wf = true) : vergerlaw10_QueuePlays.f a0 a1 l2 = some true :=
 if_pos fun o ho => wf_u64 (hg o ho).2.2.2.2
end Go.Proofs.YthghkglkifeagaaGreat.V
end
