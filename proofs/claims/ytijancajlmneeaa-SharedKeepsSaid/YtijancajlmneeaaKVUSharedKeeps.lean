-- a text of this work, without what this claim doesn't use (wip/shake.py)
import Derived.Test.YtijancajlmneeaaKVPvergerref51
import Derived.Test.YtijancajlmneeaaKVBits
import Derived.Test.YtijancajlmneeaaKVLsm13
import Derived.Test.YtijancajlmneeaaKVPblockb
import Derived.Test.YtijancajlmneeaaKVCall
import Derived.Test.YtijancajlmneeaaKVPentry1
import Derived.Test.YtijancajlmneeaaKVLsm12
import Derived.Deep.RegionWith
import Derived.Deep.DeepCutAuto
import Derived.Deep.CutBlock
import Derived.Test.YtijancajlmneeaaKWWords
import Derived.SizedLaws
import Derived.ChangeSlices
import Derived.WalkKit
import Derived.ProofKit
import Derived.OpenShut
import Derived.ShutString
import Derived.ChangeOld
import Derived.Below
import Derived.Deep.Slices
section
set_option linter.unusedVariables false
set_option linter.unusedSimpArgs false
namespace Go.Proofs.Ytijancajlmneeaa.V
open Go.RowKit Go.Proofs.YtijancajlmneeaaW.PrintWords Go.Proofs.YtijancajlmneeaaW.PrintLast Go.Proofs.YtijancajlmneeaaW.PrintMore
structure Two (w1 w2 : World) (p b : Nat) : Prop where
  size : w1.heap.size ≤ w2.heap.size
  blk : ∀ k, k < w1.heap.size → k ≠ p → k ≠ b → w2.heap[k]? = w1.heap[k]?
namespace Two
variable {w1 w2 w3 : World} {p b : Nat}
theorem below (h : Two w1 w2 p b) (hb : Below w2.heap.size w2 w3) : Two w1 w3 p b := ⟨Nat.le_trans h.size hb.size, fun k hk h1 h2 => (hb.block k (Nat.lt_of_lt_of_le hk h.size)).trans (h.blk k hk h1 h2)⟩
theorem grown (h : Two w1 w2 p b) (hg : w2.grownBy w3 (some p)) : Two w1 w3 p b := ⟨Nat.le_trans h.size hg.size, fun k hk h1 h2 => (hg.block k (Nat.lt_of_lt_of_le hk h.size) (fun e => h1 (by first | exact (Option.some.inj e).symm | exact Option.some.inj e))).trans (h.blk k hk h1 h2)⟩
theorem lay (h : Two w1 w2 p b) (j : Nat) (u : Value) : Two w1 (w2.setCell ⟨b, j, none⟩ u) p b := ⟨by simp only [World.setCell, Array.size_modify]; exact h.size, fun k hk h1 h2 => (Below.heap_setCell w2 ⟨b, j, none⟩ u k h2).trans (h.blk k hk h1 h2)⟩
theorem refl (w : World) : Two w w p b := ⟨Nat.le_refl _, fun _ _ _ _ => rfl⟩
theorem vrow (h : Two w1 w2 p b) {v : Value} {bs : List Bk} (hv : Kd.V k35 35 w1 0 (fun k => k ≠ p) v bs) (hB : BoolB w1 b) : Kd.V k35 35 w2 0 (fun k => k ≠ p) v bs :=
 Kd.V_map hv (fun A hf => Kd.F_mono (Kd.F_step (FB_bool hf hB) (fun k hk hlt => h.blk k hlt hk.1 hk.2)) (fun k hk => hk.1))
theorem row (h : Two w1 w2 p b) {base : Nat} {v : Value} {xs : List E} (hv : Kd.R k28 28 w1 base (fun k => base ≤ k) v xs) (hp : p < base) (hb : b < base) : Kd.R k28 28 w2 base (fun k => base ≤ k) v xs :=
 Kd.R_step hv (fun k hk hlt => h.blk k hlt (by have : base ≤ k := hk; omega) (by have : base ≤ k := hk; omega))
theorem at_ (h : Two w1 w2 p b) {g : Nat} {o : Obj} (hg : w1.heap[g]? = some o) (hp : g ≠ p) (hb : g ≠ b) : w2.heap[g]? = some o := (h.blk g (Array.getElem?_eq_some_iff.1 hg).1 hp hb).trans hg
end Two
theorem slen_okN {w0 wr : World} {p : Nat} {ver : Int} {v : Value} {bs : List Bk} {es : List E} (h : SOk w0 wr p ver v bs es) (n : Nat) (hn : n = es.length) (hl : bs.length ≤ 1000) (ha : es.length ≤ 1000000) :
 Calls Try.prog 15 #[.pointer (some ⟨p, 0, none⟩)] wr fun x w2 => x = .returned (.int .i64 n) ∧ Below wr.heap.size wr w2 := by
 subst hn; exact slen_ok h hl ha
set_option maxRecDepth 100000 in
set_option maxHeartbeats 4000000 in
theorem sharedKeeps_walk (A B : Option Addr) (c d : Nat) (l g : List Int) (w : World) (hr : Kd.C (Kd.int .u64) w A l.length l) (hc : l.length ≤ c) (hr2 : Kd.C (Kd.int .i64) w B g.length g) (hc2 : g.length ≤ d) :
 Calls Try.prog 6 #[.slice A l.length c, .slice B g.length d] w fun e w' => e = .returned (.bool true) ∧ Below w.heap.size w w' := by
 have HR := Aside0.mk hr
 have HR2 := Aside0.mk hr2
 have hl63 : l.length ≤ 9223372036854775807 := hr.2.1
 have hg63 : g.length ≤ 9223372036854775807 := hr2.2.1
 clear hr hr2
 obtain ⟨n, hn⟩ : ∃ n : Nat, n = min l.length 30 := ⟨_, rfl⟩
 go_enter Try.func6, Try.ntmps6
 go_wp2_with fail
 refine (snew_ok w).mono ?_
 rintro y w1 ⟨rfl, hk1⟩
 have HK1 := Aside0.mk hk1
 clear hk1
 have hm : min (l.length : Int) 30 = (n : Int) := by omega
 have hn30 : n ≤ 30 := by omega
 have hnl : n ≤ l.length := by omega
 clear hn
 have HK2 := Aside0.mk (show KSt w (w1.alloc (.cells ((List.replicate 31 false).map Value.bool).toArray 52)) w.heap.size w1.heap.size 0 (.slice none 0 0) [] [] 52 (List.replicate 31 false) from
  ⟨HK1.out.below (below_alloc (Below.refl _ _) _), heap_alloc_new w1 (.cells ((List.replicate 31 false).map Value.bool).toArray 52), by have := HK1.out.hat.lt; omega, HK1.out.bel.size⟩)
 go_wp2_with fail
 obtain ⟨b, hb⟩ : ∃ b, b = w1.heap.size := ⟨_, rfl⟩
 go_loopw [8, 9] (fun s8 s9 wr => ∃ (i left ver : Nat) (v : Value) (bs : List Bk) (es : List E) (L : List Bool), s8 = .int .i64 left ∧ s9 = .int .i64 i ∧ i ≤ n ∧ left ≤ i ∧ Aside0 (ver ≤ 2 * i ∧ bs.length ≤ i ∧ es.length = left) ∧ Aside0 (KpP l i es L) ∧ Aside0 (KSt w wr w.heap.size w1.heap.size (ver : Int) v bs es 52 L)) (fun _ i _ => n - (intOf i).toNat)
 case atStart => exact ⟨0, 0, 0, _, [], [], _, rfl, rfl, Nat.zero_le _, Nat.zero_le _, ⟨by omega, by simp, rfl⟩, ⟨KpP.start⟩, HK2⟩
 case round =>
  clear HK1 HK2
  obtain ⟨i, left, ver, v, bs, es, L, rfl, rfl, hin, hli, HN, HP, HK⟩ := hrel
  rw [← hb] at HK ⊢
  have hb' := HK.out.ne
  clear hb
  by_cases hlt : i < n
  · have HB0 := Aside0.mk (show bs.length ≤ 1000 ∧ es.length ≤ 1000000 ∧ bs.length ≤ 900 ∧ es.length + 1 ≤ 1000000 ∧ (0 : Int) ≤ (ver : Int) ∧ (ver : Int) ≤ 1000000 by have := HN.out; omega)
    rename World => wo
    go_wp2_with fail
    refine (ssnap_ok HK.out.sok HB0.out.1 HB0.out.2.1).mono ?_
    rintro y w3 ⟨A3, c3, rfl, hv3, hb3⟩
    have HX4 := Aside0.mk (heap_alloc_new w3 (.cells #[.int .u64 (ver : Int), .slice A3 bs.length c3] 31))
    have hz4 := below_alloc (Below.refl w3.heap.size w3) (.cells #[.int .u64 (ver : Int), .slice A3 bs.length c3] 31)
    have HK4 := Aside0.mk (HK.out.below (below_step hb3 hz4))
    have HV4 := Aside0.mk (Kd.V_below hv3 hz4)
    have HX3 := Aside0.mk (show wo.heap.size ≤ w3.heap.size from hb3.size)
    have HBL := Aside0.mk (show b < w3.heap.size ∧ w.heap.size < w3.heap.size from ⟨by have := HK.out.lt; have := hb3.size; omega, by have := HK.out.sok.hat.lt; have := hb3.size; omega⟩)
    clear hv3 hb3 hz4
    go_wp2_with fail
    obtain ⟨wB, hwB⟩ : ∃ wB : World, wB = w3.alloc (.cells #[.int .u64 (ver : Int), .slice A3 bs.length c3] 31) := ⟨_, rfl⟩
    obtain ⟨X, hX⟩ : ∃ X, X = w3.heap.size := ⟨_, rfl⟩
    rw [← hwB] at HX4 HK4 HV4 ⊢
    rw [← hX] at HX4 HBL ⊢
    have HXB := Aside0.mk (show X < wB.heap.size ∧ b < X ∧ w.heap.size < X from ⟨(Array.getElem?_eq_some_iff.1 HX4.out).1, HBL.out⟩)
    clear HBL HX3 HK hwB hX
    have HSN : Aside0 (∀ W : World, W.heap[X]? = some (.cells #[.int .u64 (ver : Int), .slice A3 bs.length c3] 31 (0, 0)) → W.cell? ⟨X, 1, none⟩ = some (.slice A3 bs.length c3)) := ⟨fun W h => (blk_cell h 1).trans rfl⟩
    have HLQ := Aside0.mk (show (allB bs).length ≤ 1000 by have := HK4.out.sok.cnt; have := HN.out; omega)
    obtain ⟨adl, rfl⟩ : ∃ adl, A = some adl := by
     obtain ⟨adl, e, _⟩ := HR.out.2.2 (by omega)
     exact ⟨adl, e⟩
    have HY : Aside0 (∀ W, Below w.heap.size w W → W.cell? (adl.add i) = some (.int .u64 (rd l (i : Int)))) := ⟨fun W hW => by have := Kd.foot_int (Kd.C_below HR.out hW) (i : Int) (by omega) (by omega); rwa [Int.toNat_natCast] at this⟩
    have HXX := Aside0.mk (show l[i]? = some (rd l (i : Int)) by unfold rd; rw [Int.toNat_natCast, List.getD_eq_getElem?_getD, List.getElem?_eq_getElem (show i < l.length by omega)]; rfl)
    obtain ⟨x, hx⟩ : ∃ x, rd l (i : Int) = x := ⟨_, rfl⟩
    rw [hx] at HY HXX
    clear hx
    have hbl : bs.length ≤ 1000 := HB0.out.1
    go_loopw [11, 12] (fun s11 s12 wr => ∃ k : Nat, s12 = .int .i64 k ∧ k ≤ bs.length ∧ Aside0 (Kd.R k28 28 wr wB.heap.size (fun k => wB.heap.size ≤ k) s11 (allB (bs.take k))) ∧ Aside0 (Below wB.heap.size wB wr)) (fun _ k _ => bs.length - (intOf k).toNat)
    case atStart => exact ⟨0, rfl, Nat.zero_le _, ⟨by rw [List.take_zero, allB_nil]; exact Kd.R_nil _ _ _ _ _⟩, ⟨Below.refl _ _⟩⟩
    case round =>
     obtain ⟨k, rfl, hk, HO, HB⟩ := hrel
     have y1 := HSN.out wr (blk_below HX4.out HB.out)
     by_cases hlk : k < bs.length
     · obtain ⟨q, hq⟩ : ∃ q, bs[k]? = some q := ⟨_, List.getElem?_eq_getElem hlk⟩
       have HVB := Aside0.mk (Kd.V_reads' (Kd.V_below HV4.out HB.out))
       obtain ⟨ad, A1, c1, rfl, z1, z2, e4, e5⟩ := bk_at HVB.out.2.2 hq
       have HC := Aside0.mk e5
       have HT := Aside0.mk (allB_take' hq)
       have HLE := Aside0.mk (show (allB (bs.take k)).length + q.f1.length ≤ 1000 by have := allB_at_le hq; have := HLQ.out; omega)
       have hik : (k : Int) < (bs.length : Int) := by omega
       have hik0 : (0 : Int) ≤ (k : Int) := by omega
       clear e5 hq HVB
       go_wp2_with ((with_reducible refine gate_builtin (b := .append) (xs := #[.tmp 38, .tmp 44]) rfl ?_); at_builtin; go_loud (refine Kd.R_append_rows k28 (w0 := wB) wB.heap.size rfl (.tmp 38) (.tmp 44) 25 28 (.agg #[(.int .u64 0), (.int .i64 0)]) 16 rfl Try.underlying25 info28 rfl (by decide) (by omega) _ (allB (bs.take k)) q.f1 _ _ _ (fun k => wB.heap.size ≤ k) (fun _ => False) rfl rfl HO.out HC.out (fun _ _ h => h) (fun _ h => h.elim) (fun _ hk => Nat.le_trans HB.out.size hk) HB.out HB.out.size (by have := HLE.out; omega) ?_; intro v2 w5 ho hb hg hat; have HO1 := Aside0.mk ho; have HB1 := Aside0.mk hb; clear ho hb hg hat))
       go_roundw
       case rel => exact ⟨k + 1, by go_num, by omega, ⟨by rw [HT.out]; exact HO1.out⟩, HB1⟩
       case measure => simp [intOf]; omega
     · obtain rfl : k = bs.length := by omega
       rw [List.take_length] at HO
       clear hlk hk
       obtain ⟨Aw, cw, ew⟩ := Kd.R_slice HO.out
       subst ew
       have hz5 := below_step HB.out (below_alloc (Below.refl wr.heap.size wr) (.cells #[.int .u64 x, .int .i64 ((i : Int) + 1)] 28))
       have HC5 := Aside0.mk (one_C (e := ⟨x, (i : Int) + 1⟩) (heap_alloc_new wr (.cells #[.int .u64 x, .int .i64 ((i : Int) + 1)] 28)))
       have HK5 := Aside0.mk (HK4.out.below hz5)
       have HT5 := Aside0.mk ((Two.refl (p := w.heap.size) (b := b) wr).below (below_alloc (Below.refl wr.heap.size wr) (.cells #[.int .u64 x, .int .i64 ((i : Int) + 1)] 28)))
       have y0 := HY.out wr (below_step HK4.out.sok.bel HB.out)
       have HVW := Aside0.mk (Kd.V_below HV4.out HB.out)
       have HXW := Aside0.mk (blk_below HX4.out HB.out)
       have HBO := Aside0.mk (boolB_mk (HK4.out.below HB.out).arr)
       have hil : (i : Int) < (l.length : Int) := by omega
       have hin' : (i : Int) < (n : Int) := by omega
       have hi0 : (0 : Int) ≤ (i : Int) := by omega
       clear hz5 HK4 HV4 HX4
       go_wp2_with fail
       refine (sadd_okN HK5.out.sok (some ⟨wr.heap.size, 0, none⟩) 1 1 [(⟨x, (i : Int) + 1⟩ : E)] rfl ⟨HB0.out.2.2.2.2.1, HB0.out.2.2.2.2.2⟩ HC5.out (by simp) (by simp) HB0.out.2.2.1 HB0.out.2.2.2.1).mono ?_
       rintro y w6 ⟨rfl, ⟨v6, hk6⟩, hg6⟩
       have HK6 := Aside0.mk (HK5.out.grown hk6 hg6)
       have HT6 := Aside0.mk ((HT5.out.grown hg6).lay (i + 1) (.bool true))
       have hj : i + 1 < L.length := by rw [HP.out.len]; omega
       have x0 := HK6.out.cell hj
       have f0 := HK6.out.froz (i + 1)
       have HK7 := Aside0.mk (HK6.out.put (i + 1) true)
       have HP7 := Aside0.mk (HP.out.put HXX.out (show i < 30 by omega))
       have HN7 := Aside0.mk (show ver + 1 ≤ 2 * i + 1 ∧ (addL [(⟨x, (i : Int) + 1⟩ : E)] bs).length ≤ i + 1 ∧ ([(⟨x, (i : Int) + 1⟩ : E)] ++ es).length = left + 1 from by
        have h1 := addS_len bs.length (mkB [(⟨x, (i : Int) + 1⟩ : E)]) bs
        have h2 := HN.out
        have h3 : (addL [(⟨x, (i : Int) + 1⟩ : E)] bs).length ≤ bs.length + 1 := h1
        exact ⟨by omega, by omega, by simp; omega⟩)
       have hj31 : (i : Int) + 1 < 31 := by omega
       have hj30 : (0 : Int) ≤ (i : Int) + 1 := by omega
       clear hk6 hg6 HK5 HT5 HC5 HK6 hj
       go_upto_if 64 with fail
       obtain ⟨w7, hw7⟩ : ∃ w7 : World, w7 = w6.setCell ⟨b, i + 1, none⟩ (.bool true) := ⟨_, rfl⟩
       rw [← hw7] at HK7 HT6 ⊢
       clear hw7 x0 f0 y0 y1 HB0 HXX HP HN
       go_cut [8] (fun s8 wx => ∃ (lf vr : Nat) (v8 : Value) (cs : List Bk) (fs : List E) (L8 : List Bool), s8 = .int .i64 lf ∧ lf ≤ i + 1 ∧ Aside0 (vr ≤ 2 * i + 2 ∧ cs.length ≤ i + 1 ∧ fs.length = lf) ∧ Aside0 (KpP l (i + 1) fs L8) ∧ Aside0 (KSt w wx w.heap.size b (vr : Int) v8 cs fs 52 L8) ∧ Aside0 (Two wr wx w.heap.size b))
       case first =>
        clear HO HVW HXW HBO HB
        by_cases hg : i < g.length
        · obtain ⟨adg, rfl⟩ : ∃ adg, B = some adg := by
           obtain ⟨adg, e, _⟩ := HR2.out.2.2 (by omega)
           exact ⟨adg, e⟩
          have y2 : w7.cell? (adg.add i) = some (.int .i64 (rd g (i : Int))) := by have := Kd.foot_int (Kd.C_below HR2.out HK7.out.sok.bel) (i : Int) (by omega) (by omega); rwa [Int.toNat_natCast] at this
          have hx := and_maskL (rd g (i : Int)) 255 (by omega)
          rw [show ((255 : Nat) : Int) = 255 from rfl] at hx
          generalize rd g (i : Int) = xx at y2 hx
          obtain ⟨z, hz⟩ : ∃ z : Int, bits BinOp.and IntKind.i64 xx 255 = z := ⟨_, rfl⟩
          rw [hz] at hx
          obtain ⟨hz0, hz1⟩ := hx
          have hm9 : z.tmod (n : Int) = z % (n : Int) := Int.tmod_eq_emod_of_nonneg hz0
          have hm8 := Int.emod_lt_of_pos z (b := (n : Int)) (by omega)
          have hm7 := Int.emod_nonneg z (b := (n : Int)) (by omega)
          obtain ⟨m, hm3⟩ : ∃ m : Nat, z % (n : Int) = (m : Int) := ⟨(z % (n : Int)).toNat, by omega⟩
          have hmn : m < n := by omega
          have hm1 : z.tmod (n : Int) = (m : Int) := by rw [hm9, hm3]
          have n0 : ¬ (n : Int) = 0 := by omega
          have n1 : ((n : Int) == 0) = false := by rw [beq_eq_false_iff_ne]; omega
          have n2 : ¬ n = 0 := by omega
          have m31 : (m : Int) + 1 < 31 := by omega
          have m30 : (0 : Int) ≤ (m : Int) + 1 := by omega
          have hig : (i : Int) < (g.length : Int) := by omega
          clear hm9 hm8 hm7
          obtain ⟨r, hr⟩ : ∃ r, (L.set (i + 1) true).getD (m + 1) false = r := ⟨_, rfl⟩
          have HRR := Aside0.mk (show ([(⟨x, (i : Int) + 1⟩ : E)] ++ es).any (isId ((m : Int) + 1)) = r by
           have := HP7.out.th (m + 1)
           rw [hr] at this
           rw [this]
           push_cast
           rfl)
          have HRL := Aside0.mk hr
          have HKD := Aside0.mk (HK7.out.below (below_drew (Below.refl _ _)))
          have HTD := Aside0.mk (HT6.out.below (below_drew (Below.refl _ _)))
          have k0 : w7.cell? ⟨b, m + 1, none⟩ = some (.bool r) := by
           have := HK7.out.cell (j := m + 1) (by have := HP7.out.len; omega)
           rwa [hr] at this
          have HBD := Aside0.mk (show ver + 1 ≤ 1000000 ∧ (addL [(⟨x, (i : Int) + 1⟩ : E)] bs).length ≤ 900 ∧ ([(⟨x, (i : Int) + 1⟩ : E)] ++ es).length ≤ 1000000 by have := HN7.out; omega)
          clear hr
          go_wp2_with fail
          clear hz hm1
          refine start_ (n := 7) (S := fun w' => w'.cell? ⟨b, m + 1, none⟩ = some (.bool r) ∧ True) (ds := []) #[false, false, false, false, false, false, false] (by kernel_rfl) rfl rfl ⟨k0, trivial⟩ (fun hHeld => ?_)
          refine pure_ (i := 0) (N := (some 73)) (v := ?_) (a' := ?_) #[true, false, false, false, false, false, false] rfl rfl (by kernel_rfl) (fun _ _ _ h => h) (Or.inl ⟨by rfl, ?_⟩) ?_ ?_
          rotate_left
          · intro w'
            go_simp
            with_reducible rfl
          rotate_left
          · simp only [Act.put, List.setIfInBounds_toArray, List.set_cons_zero, List.set_cons_succ, i64_w, i32_w]
            rfl
          refine pure_ (i := 1) (N := (some 74)) (v := ?_) (a' := ?_) #[true, true, false, false, false, false, false] rfl rfl (by kernel_rfl) (fun _ _ _ h => h) (Or.inl ⟨by rfl, ?_⟩) ?_ ?_
          rotate_left
          · intro w'
            go_simp
            with_reducible rfl
          rotate_left
          · simp only [Act.put, List.setIfInBounds_toArray, List.set_cons_zero, List.set_cons_succ, i64_w, i32_w]
            rfl
          refine pure_ (i := 3) (N := (some 76)) (v := ?_) (a' := ?_) #[true, true, false, true, false, false, false] rfl rfl (by kernel_rfl) (fun _ _ _ h => h) (Or.inl ⟨by rfl, ?_⟩) ?_ ?_
          rotate_left
          · intro w'
            go_simp
            with_reducible rfl
          rotate_left
          · simp only [Act.put, List.setIfInBounds_toArray, List.set_cons_zero, List.set_cons_succ, i64_w, i32_w]
            rfl
          refine pure_ (i := 4) (N := (some 77)) (v := ?_) (a' := ?_) #[true, true, false, true, true, false, false] rfl rfl (by kernel_rfl) (fun _ _ _ h => h) (Or.inl ⟨by rfl, ?_⟩) ?_ ?_
          rotate_left
          · intro w'
            go_simp
            with_reducible rfl
          rotate_left
          · simp only [Act.put, List.setIfInBounds_toArray, List.set_cons_zero, List.set_cons_succ, i64_w, i32_w]
            rfl
          refine take_ (i := 5) (N := (some 78)) (v := ?_) (a' := ?_) #[true, true, false, true, true, true, false] rfl rfl (by kernel_rfl) (fun _ _ _ h => h) (Or.inl ⟨by rfl, ?_⟩) hHeld ?_ ?_
          rotate_left
          · rintro w' ⟨s0, s1⟩
            go_simp
            with_reducible rfl
          rotate_left
          · simp only [Act.put, List.setIfInBounds_toArray, List.set_cons_zero, List.set_cons_succ, i64_w, i32_w]
            rfl
          refine one_ (i := 2) (N := (some 75)) #[true, true, true, true, true, true, false] rfl rfl (by kernel_rfl) (by decide) (fun K hK => ?_)
          refine goes_ Try.func24 (by kernel_rfl) rfl #[.pointer (some ⟨w.heap.size, 0, none⟩), .int .i64 ((m : Int) + 1)] (by rfl) rfl rfl (by (try simp only [List.map_toArray, List.map_cons, List.map_nil]); first | done | rfl) ?_
          refine (sdrop_ok HKD.out.sok _ r HRR.out HP7.out.un HBD.out.1 HBD.out.2.1 HBD.out.2.2).mono ?_
          rintro y w8 ⟨rfl, ⟨vr, v8, cs, hvr, hcs, hk8⟩, hg8⟩
          have HK8 := Aside0.mk (HKD.out.grown hk8 hg8)
          have HT8 := Aside0.mk (HTD.out.grown hg8)
          have HN8 := Aside0.mk (show vr ≤ ver + 2 ∧ cs.length ≤ i + 1 from ⟨by omega, by have := HN7.out; omega⟩)
          have k1 := HK8.out.cell (j := m + 1) (by have := HP7.out.len; omega)
          rw [HRL.out] at k1
          clear hk8 hg8 hvr hcs k0
          refine ⟨_, rfl, ?_⟩
          refine hK.out _ _ ⟨k1, trivial⟩ (fun hHeld => ?_)
          clear hK K
          refine norm_ (a' := ?_) ?_ ?_
          rotate_left
          · show Act.put _ (some 75) _ = _
            simp only [Act.put, List.setIfInBounds_toArray, List.set_cons_zero, List.set_cons_succ, i64_w, i32_w]
            rfl
          refine pure_ (i := 6) (N := (some 79)) (v := ?_) (a' := ?_) #[true, true, true, true, true, true, true] rfl rfl (by kernel_rfl) (fun _ _ _ h => h) (Or.inl ⟨by rfl, ?_⟩) ?_ ?_
          rotate_left
          · intro w'
            go_simp
            with_reducible rfl
          rotate_left
          · simp only [Act.put, List.setIfInBounds_toArray, List.set_cons_zero, List.set_cons_succ, i64_w, i32_w]
            rfl
          refine done_ (by kernel_rfl) ?_
          cases r with
          | true =>
           have f1 := HK8.out.froz (m + 1)
           have HK9 := Aside0.mk (HK8.out.put (m + 1) false)
           have HT9 := Aside0.mk (HT8.out.lay (m + 1) (.bool false))
           have HP9 := Aside0.mk (HP7.out.out (m + 1))
           have HL9 := Aside0.mk (show (others ((m : Int) + 1) ([(⟨x, (i : Int) + 1⟩ : E)] ++ es)).length + (if true = true then 1 else 0) = ([(⟨x, (i : Int) + 1⟩ : E)] ++ es).length from others_len HP7.out.un true HRR.out)
           go_wp2_with fail
           go_meet
           refine ⟨left, vr, v8, cs, others ((m : Int) + 1) ([(⟨x, (i : Int) + 1⟩ : E)] ++ es), (L.set (i + 1) true).set (m + 1) false, by first | rfl | go_num, by omega, ⟨by have := HN8.out; have := HN7.out.1; omega, HN8.out.2, ?_⟩, ⟨by have := HP9.out; push_cast at this; exact this⟩, HK9, HT9⟩
           have h1 := HL9.out
           have h2 := HN7.out.2.2
           rw [h2] at h1
           simp only [if_true] at h1
           omega
          | false =>
           have HP9 := Aside0.mk (HP7.out.stay (m + 1) HRL.out)
           have HL9 := Aside0.mk (show (others ((m : Int) + 1) ([(⟨x, (i : Int) + 1⟩ : E)] ++ es)).length + (if false = true then 1 else 0) = ([(⟨x, (i : Int) + 1⟩ : E)] ++ es).length from others_len HP7.out.un false HRR.out)
           go_wp2_with fail
           go_meet
           refine ⟨left + 1, vr, v8, cs, others ((m : Int) + 1) ([(⟨x, (i : Int) + 1⟩ : E)] ++ es), L.set (i + 1) true, by first | rfl | go_num, by omega, ⟨by have := HN8.out; have := HN7.out.1; omega, HN8.out.2, ?_⟩, ⟨by have := HP9.out; push_cast at this; exact this⟩, HK8, HT8⟩
           have h1 := HL9.out
           have h2 := HN7.out.2.2
           rw [h2] at h1
           simp only [Bool.false_eq_true, if_false] at h1
           omega
        · have hig : ¬ (i : Int) < (g.length : Int) := by omega
          go_wp2_with fail
          go_meet
          exact ⟨left + 1, ver + 1, v6, _, [(⟨x, (i : Int) + 1⟩ : E)] ++ es, _, by first | rfl | push_cast; rfl, by omega, ⟨by have := HN7.out; omega, HN7.out.2.1, HN7.out.2.2⟩, HP7, HK7, HT6⟩
       case rest =>
        obtain ⟨lf, vr, v8, cs, fs, L8, rfl, hlf, HN8, HP8, HK8, HT8⟩ := hcut
        clear HK7 HT6 HP7 HN7
        rename World => wx
        have HVX := Aside0.mk (HT8.out.vrow HVW.out HBO.out)
        have HOX := Aside0.mk (HT8.out.row HO.out (by have := HXB.out; omega) (by have := HXB.out; omega))
        have HX8 := Aside0.mk (HT8.out.at_ HXW.out (by have := HXB.out; omega) (by have := HXB.out; omega))
        clear HT8 HVW HO HXW HBO HB
        go_wp2_with fail
        go_loopw [14, 15] (fun s14 s15 wr => ∃ k : Nat, s15 = .int .i64 k ∧ k ≤ bs.length ∧ Aside0 (Kd.R k28 28 wr wx.heap.size (fun k => wx.heap.size ≤ k) s14 (allB (bs.take k))) ∧ Aside0 (Below wx.heap.size wx wr)) (fun _ k _ => bs.length - (intOf k).toNat)
        case atStart => exact ⟨0, rfl, Nat.zero_le _, ⟨by rw [List.take_zero, allB_nil]; exact Kd.R_nil _ _ _ _ _⟩, ⟨Below.refl _ _⟩⟩
        case round =>
         obtain ⟨k, rfl, hk, HO2, HB⟩ := hrel
         have y1 := HSN.out wr (blk_below HX8.out HB.out)
         by_cases hlk : k < bs.length
         · obtain ⟨q, hq⟩ : ∃ q, bs[k]? = some q := ⟨_, List.getElem?_eq_getElem hlk⟩
           have HVB := Aside0.mk (Kd.V_reads' (Kd.V_below HVX.out HB.out))
           obtain ⟨ad, A1, c1, rfl, z1, z2, e4, e5⟩ := bk_at HVB.out.2.2 hq
           have HC := Aside0.mk e5
           have HT := Aside0.mk (allB_take' hq)
           have HLE := Aside0.mk (show (allB (bs.take k)).length + q.f1.length ≤ 1000 by have := allB_at_le hq; have := HLQ.out; omega)
           have hik : (k : Int) < (bs.length : Int) := by omega
           have hik0 : (0 : Int) ≤ (k : Int) := by omega
           clear e5 hq HVB
           go_wp2_with ((with_reducible refine gate_builtin (b := .append) (xs := #[.tmp 94, .tmp 100]) rfl ?_); at_builtin; go_loud (refine Kd.R_append_rows k28 (w0 := wx) wx.heap.size rfl (.tmp 94) (.tmp 100) 25 28 (.agg #[(.int .u64 0), (.int .i64 0)]) 16 rfl Try.underlying25 info28 rfl (by decide) (by omega) _ (allB (bs.take k)) q.f1 _ _ _ (fun k => wx.heap.size ≤ k) (fun _ => False) rfl rfl HO2.out HC.out (fun _ _ h => h) (fun _ h => h.elim) (fun _ hk => Nat.le_trans HB.out.size hk) HB.out HB.out.size (by have := HLE.out; omega) ?_; intro v2 w5 ho hb hg hat; have HO1 := Aside0.mk ho; have HB1 := Aside0.mk hb; clear ho hb hg hat))
           go_roundw
           case rel => exact ⟨k + 1, by go_num, by omega, ⟨by rw [HT.out]; exact HO1.out⟩, HB1⟩
           case measure => simp [intOf]; omega
         · obtain rfl : k = bs.length := by omega
           rw [List.take_length] at HO2
           clear hlk hk
           obtain ⟨An, cn, en⟩ := Kd.R_slice HO2.out
           subst en
           have HK9 := Aside0.mk (HK8.out.below HB.out)
           have HN1 := Aside0.mk (Kd.R_reads' HO2.out)
           have HW1 := Aside0.mk (Kd.C_below (Kd.R_reads' HOX.out).2.2 HB.out)
           have HW2 := Aside0.mk (Kd.R_reads' HOX.out).2.1
           have HBC := Aside0.mk (show cs.length ≤ 1000 ∧ (allB cs).length ≤ 1000000 from ⟨by have := HN8.out; omega, by have := HK8.out.sok.cnt; have := HN8.out; omega⟩)
           clear HO2 HOX HVX HX8
           go_wp2_with fail
           refine (sh_all w.heap.size w.heap.size _ v8 cs _ HK9.out.sok.hat HBC.out.1 HBC.out.2).mono ?_
           rintro q w5 ⟨v5, rfl, hv5, hb5⟩
           obtain ⟨T, hT⟩ : ∃ T, T = sortE (allB cs) := ⟨_, rfl⟩
           rw [← hT] at hv5
           have HTP := Aside0.mk (show T.Perm fs by rw [hT]; exact (sortE_perm _).trans HK9.out.sok.all)
           have HTS := Aside0.mk (show SortedE T by rw [hT]; exact sortE_sorted _)
           clear hT
           obtain ⟨A5, c5, rfl⟩ := Kd.V_slice hv5
           obtain rfl : lf = T.length := by rw [HTP.out.length_eq, HN8.out.2.2]
           have HV5 := Aside0.mk (Kd.V_reads' hv5)
           have HK10 := Aside0.mk (HK9.out.below hb5)
           have HN5 := Aside0.mk (Kd.C_below HN1.out.2.2 hb5)
           have HW5 := Aside0.mk (Kd.C_below HW1.out hb5)
           have HSR := Aside0.mk (show vergerref5_Sorted.f 1000 T = some true by rw [refsorted_told 1000 T (by omega) (by omega), okTo_sorted HTS.out])
           have HSM := Aside0.mk (same_told 2000 (allB bs) (by have := HLQ.out; omega) (by have := HLQ.out; omega))
           clear hv5 hb5 HTS
           go_wp2_with fail
           refine (vergerref5_Same.calls 2000 _ _ (allB bs) _ _ (allB bs) true _ HW5.out HW2.out HN5.out HN1.out.2.1 HSM.out).mono ?_
           rintro q w6 ⟨rfl, ⟨nd, rfl⟩⟩
           have HK11 := Aside0.mk (HK10.out.below (pw_below_drewN (Below.refl _ _) nd))
           have HC6 := Aside0.mk (Kd.C_drewN HV5.out.2.2 nd)
           have HLE9 := Aside0.mk (show T.length = fs.length ∧ cs.length ≤ 1000 ∧ fs.length ≤ 1000000 from ⟨HTP.out.length_eq, HBC.out.1, by have := HN8.out; omega⟩)
           clear HW5 HN5 HW1 HN1 HK10
           go_wp2_with fail
           refine (slen_okN HK11.out.sok T.length HLE9.out.1 HLE9.out.2.1 HLE9.out.2.2).mono ?_
           rintro q w7 ⟨rfl, hb7⟩
           have HK12 := Aside0.mk (HK11.out.below hb7)
           have HC7 := Aside0.mk (Kd.C_below HC6.out hb7)
           clear hb7 HC6 HK11
           go_wp2_with fail
           refine (vergerref5_Sorted.calls 1000 A5 c5 T true _ HC7.out HV5.out.2.1 HSR.out).mono ?_
           rintro q w8 ⟨rfl, hb8⟩
           have HK13 := Aside0.mk (HK12.out.below hb8)
           have HC8 := Aside0.mk (Kd.C_below HC7.out hb8)
           clear hb8 HC7 HK12
           have hTl : T.length ≤ 30 := by omega
           rename World => wl
           go_wp2_with fail
           go_loopw [17] (fun s17 wr => ∃ k : Nat, s17 = .int .i64 k ∧ k ≤ T.length ∧ Aside0 (Below wl.heap.size wl wr)) (fun k _ => T.length - (intOf k).toNat)
           case atStart => exact ⟨0, rfl, Nat.zero_le _, ⟨Below.refl _ _⟩⟩
           case round =>
            obtain ⟨k, rfl, hk, HB⟩ := hrel
            by_cases hlk : k < T.length
            · obtain ⟨e, he⟩ : ∃ e, T[k]? = some e := ⟨_, List.getElem?_eq_getElem hlk⟩
              have hmem : e ∈ fs := HTP.out.mem_iff.1 (List.mem_of_getElem? he)
              obtain ⟨j, hj, h1, h2⟩ := HP8.out.mem e hmem
              obtain ⟨ad, e1, y0, y1⟩ := at_T28 (Kd.C_below HC8.out HB.out) (k : Int) (by omega) (by omega)
              subst e1
              have hrd : rd_T28 T (k : Int) = e := by unfold rd_T28; rw [Int.toNat_natCast, List.getD_eq_getElem?_getD, he]; rfl
              rw [Int.toNat_natCast, hrd] at y0 y1
              rw [h1] at y1
              have HKL := HK13.out.below HB.out
              have y2 := HKL.cell (j := j + 1) (by rw [HP8.out.len]; omega)
              rw [show L8.getD (j + 1) false = true by
               rw [HP8.out.th, List.any_eq_true]
               exact ⟨e, hmem, isId_true.2 (by rw [h1]; push_cast; rfl)⟩] at y2
              have y3 : wr.cell? (adl.add j) = some (.int .u64 e.f0) := by
               have := Kd.foot_int (Kd.C_below HR.out HKL.sok.bel) (j : Int) (by omega) (by have := (List.getElem?_eq_some_iff.1 h2).1; omega)
               rw [Int.toNat_natCast] at this
               rwa [show rd l (j : Int) = e.f0 by unfold rd; rw [Int.toNat_natCast, List.getD_eq_getElem?_getD, h2]; rfl] at this
              have hkT : (k : Int) < (T.length : Int) := by omega
              have hk0 : (0 : Int) ≤ (k : Int) := by omega
              have hjl : (j : Int) < (l.length : Int) := by have := (List.getElem?_eq_some_iff.1 h2).1; omega
              have hj0 : (0 : Int) ≤ (j : Int) := by omega
              have hj31 : (j : Int) + 1 < 31 := by omega
              have hj30 : (0 : Int) ≤ (j : Int) + 1 := by omega
              have hsb : (j : Int) + 1 - 1 = (j : Int) := by omega
              clear he hmem h1 h2 hrd HKL
              go_wp2
              go_quiet (fail)
              go_wp2
              go_roundw
              case rel => exact ⟨k + 1, by go_num, by omega, ⟨pw_below_drewN HB.out _⟩⟩
              case measure => simp [intOf]; omega
            · obtain rfl : k = T.length := by omega
              have HKE := Aside0.mk (HK13.out.below HB.out)
              clear hlk hk
              go_wp2
              go_roundw
              case rel => exact ⟨i + 1, T.length, vr, v8, cs, fs, L8, by first | rfl | go_num, by go_num, by omega, by omega, ⟨by have := HN8.out; omega, HN8.out.2.1, HN8.out.2.2⟩, HP8, HKE⟩
              case measure => simp [intOf]; omega
  · obtain rfl : i = n := by omega
    have HKE := HK
    clear HK hlt
    go_wp2_with fail
    refine (awake8 _).mono ?_
    rintro q w7 ⟨rfl, hb7⟩
    have HB7 := Aside0.mk (below_step HKE.out.sok.bel hb7)
    clear hb7
    go_wp2
    go_ret
    exact ⟨rfl, HB7.out⟩
end Go.Proofs.Ytijancajlmneeaa.V
end
section
set_option linter.unusedVariables false
set_option linter.unusedSimpArgs false
namespace Go.Proofs.Ytijancajlmneeaa.VOpen
open Go.RowKit Go.Proofs.YtijancajlmneeaaW.PrintWords Go.Deep Go.ChangeShapes Go.WideShapes
structure Fits {α : Type} (P : Program) (t : TypeId) (d : Kd α) (good : α → Prop) : Prop where
  sz : P.cellsOf t = d.sz
  opens : ∀ {H : Type} {enc : TypeId × Value → H} {w : World} {base : Nat} {spare : Nat → Bool} {held : Bool} {fuel : Nat} {cs : List Value} {x : DataW H × List MemPlace},
    DataW.trod enc P w base spare held fuel t cs = some x → ∃ a, d.K w a cs ∧ good a
theorem fits_int {P : Program} {t : TypeId} {k : IntKind} (ht : P.underlying t = some (.int k)) (hc : P.cellsOf t = 1) : Fits P t (Kd.int k) (fun n => (Lit.int k n).wf = true) where
 sz := hc
 opens := fun h => by
  obtain ⟨n, rfl, _, hw⟩ := DataW.trod_int ht h
  exact ⟨n, rfl, hw⟩
theorem filter_all {α : Type} (f : Nat → Option α) : ∀ (len : Nat), (∀ i, i < len → ∃ u, f i = some u) → ((List.range len).filterMap f).length = len ∧ ∀ i, i < len → ((List.range len).filterMap f)[i]? = f i := by
 intro len
 induction len with
 | zero => simp
 | succ k ih =>
  intro hf
  obtain ⟨h1, h2⟩ := ih (fun i hi => hf i (by omega))
  obtain ⟨u, hu⟩ := hf k (by omega)
  rw [List.range_succ, List.filterMap_append]
  simp only [List.filterMap_cons, hu, List.filterMap_nil]
  refine ⟨by simp [h1], fun i hi => ?_⟩
  by_cases hik : i < k
  · rw [List.getElem?_append_left (by omega)]
    exact h2 i hik
  · have : i = k := by omega
    subst this
    rw [List.getElem?_append_right (by omega), h1, hu]
    simp
theorem fits_slice {α : Type} {P : Program} {t e : TypeId} {d : Kd α} {good : α → Prop} (ht : P.underlying t = some (.slice e)) (hc : P.cellsOf t = 1) (h : Fits P e d good) : Fits P t (Kd.slice e d) (fun l => ∀ x ∈ l, good x) where
 sz := hc
 opens := fun {H enc w base spare held fuel cs x} hx => by
  rcases open_slice ht hx with ⟨rfl, _⟩ | ⟨a, len, cap, m, n, D, Pl, rfl, _, hl, hm, hmm, _, hcell⟩
  · exact ⟨[], ⟨none, 0, rfl, Nat.le_refl _, rfl, by simp, fun h0 => absurd h0 (by simp)⟩, by simp⟩
  · have hlm : len ≤ m := by rw [hmm]; split <;> omega
    have each : ∀ i, i < len → ∃ u : α, (∃ c, c.length = d.sz ∧ d.K w u c ∧ ∀ j v, c[j]? = some v → w.cell? (a.add (i * d.sz + j)) = some v) ∧ good u := by
     intro i hi
     obtain ⟨c, h1, h2⟩ := hcell i (by omega)
     rw [h.sz] at h1
     obtain ⟨_, h3, h4⟩ := World.cells?_some h1
     obtain ⟨u, hu, gu⟩ := h.opens h2
     refine ⟨u, ⟨c, h3, hu, fun j v hj => ?_⟩, gu⟩
     have hjl : j < d.sz := by have := (List.getElem?_eq_some_iff.1 hj).1; omega
     have := h4 j hjl
     rw [Addr.add_add] at this
     rw [this, hj]
    have hex : ∃ f : Nat → Option α, ∀ i, i < len → ∃ u, f i = some u ∧ (∃ c, c.length = d.sz ∧ d.K w u c ∧ ∀ j v, c[j]? = some v → w.cell? (a.add (i * d.sz + j)) = some v) ∧ good u := by
     classical
     refine ⟨fun i => if hi : i < len then some (Classical.choose (each i hi)) else none, fun i hi => ⟨Classical.choose (each i hi), by simp [hi], Classical.choose_spec (each i hi)⟩⟩
    obtain ⟨f, hf⟩ := hex
    have hlen := filter_all f len (fun i hi => (hf i hi).imp fun _ h => h.1)
    refine ⟨(List.range len).filterMap f, ⟨some a, cap, by rw [hlen.1], by rw [hlen.1]; exact hl, rfl, by rw [hlen.1]; unfold maxLen at hm; omega, fun _ => ⟨a, rfl, fun j p hj => ?_⟩⟩, fun x hx => ?_⟩
    · have hjl : j < len := by have := (List.getElem?_eq_some_iff.1 hj).1; rw [hlen.1] at this; exact this
      obtain ⟨u, hu, hc, _⟩ := hf j hjl
      rw [hlen.2 j hjl, hu] at hj
      injection hj with hj
      subst hj
      exact hc
    · obtain ⟨j, hj⟩ := List.mem_iff_getElem?.1 hx
      have hjl : j < len := by have := (List.getElem?_eq_some_iff.1 hj).1; rw [hlen.1] at this; exact this
      obtain ⟨u, hu, _, gu⟩ := hf j hjl
      rw [hlen.2 j hjl, hu] at hj
      injection hj with hj
      subst hj
      exact gu
theorem slice_arg {α : Type} {P : Program} {t e : TypeId} {d : Kd α} {good : List α → Prop} (h : Fits P t (Kd.slice e d) good) {H : Type} {enc : TypeId × Value → H} {w : World} {base : Nat} {spare : Nat → Bool} {held : Bool} {fuel : Nat} {v : Value}
 {x : DataW H × List MemPlace} {A : Option Addr} {len cap : Nat} (hv : v = .slice A len cap) (hx : DataW.trod enc P w base spare held fuel t v.cells.toList = some x) : ∃ l : List α, len = l.length ∧ l.length ≤ cap ∧ d.C w A l.length l ∧ good l := by
 subst hv
 obtain ⟨l, ⟨A', c', hcs, hl, hC⟩, hg⟩ := h.opens hx
 simp only [Value.cells, List.cons.injEq, and_true, Value.slice.injEq] at hcs
 obtain ⟨rfl, rfl, rfl⟩ := hcs
 exact ⟨l, rfl, hl, hC, hg⟩
theorem slice_bound {P : Program} {t e : TypeId} (ht : P.underlying t = some (.slice e)) {H : Type} {enc : TypeId × Value → H} {w : World} {base : Nat} {spare : Nat → Bool} {held : Bool} {fuel : Nat}
 {x : DataW H × List MemPlace} {A : Option Addr} {len cap : Nat} (hx : DataW.trod enc P w base spare held fuel t (Value.slice A len cap).cells.toList = some x)
 {ts : List TypeId} {ds : List (DataW H)} (hs : (DataW.weightsEach P ts ds).all (· ≤ reachBytes) = true) {j : Nat} (h1 : ts[j]? = some t) (h2 : ds[j]? = some x.1) {b : Nat} (hb : P.bytesOf e = b) : len * b ≤ 140737488351232 := by
 rcases DataW.trod_slice ht hx with ⟨hc, rfl⟩ | ⟨a, len', cap', elems, rest, n, _, hc, rfl, _, _, _, hl, _⟩
 · simp only [Value.cells, List.cons.injEq, and_true, Value.slice.injEq] at hc
   obtain ⟨rfl, rfl, rfl⟩ := hc
   omega
 · simp only [Value.cells, List.cons.injEq, and_true, Value.slice.injEq] at hc
   obtain ⟨rfl, rfl, rfl⟩ := hc
   have := sized_slice hs h1 h2 ht
   rw [hb, List.length_map, hl] at this
   refine Nat.le_trans (Nat.mul_le_mul_right b (Nat.le_add_right len _)) this
end Go.Proofs.Ytijancajlmneeaa.VOpen
end
section
set_option linter.unusedVariables false
set_option linter.unusedSimpArgs false
namespace Go.Proofs.Ytijancajlmneeaa.V
open Go.RowKit Go.Proofs.YtijancajlmneeaaW.PrintWords Go.Proofs.YtijancajlmneeaaW.PrintLast Go.Proofs.YtijancajlmneeaaW.PrintMore
def vergerlaw8_SharedKeeps.f (l0 : List Int) (l1 : List Int) : Option Bool := some true
theorem vergerlaw8_SharedKeeps.calls (A0 : Option Addr) (c0 : Nat) (l0 : List Int) (A1 : Option Addr) (c1 : Nat) (l1 : List Int) (r : Bool) (w : World) (hr0 : Kd.C (Kd.int .u64) w A0 l0.length l0) (hc0 : l0.length ≤ c0) (hr1 : Kd.C (Kd.int .i64) w A1 l1.length l1) (hc1 : l1.length ≤ c1) (h : vergerlaw8_SharedKeeps.f l0 l1 = some r) :
 Calls Try.prog 6 #[.slice A0 l0.length c0, .slice A1 l1.length c1] w fun e w' => e = .returned (.bool r) ∧ Below w.heap.size w w' := by
 obtain rfl := Option.some.inj h
 exact sharedKeeps_walk A0 A1 c0 c1 l0 l1 w hr0 hc0 hr1 hc1
theorem SharedKeeps_pure (l0 : List Int) (l1 : List Int) {P0 P1 P2 P3 : Prop} (_ : P0) (_ : P1) (_ : P2) (_ : P3) : vergerlaw8_SharedKeeps.f l0 l1 = some true := rfl
end Go.Proofs.Ytijancajlmneeaa.V
end
