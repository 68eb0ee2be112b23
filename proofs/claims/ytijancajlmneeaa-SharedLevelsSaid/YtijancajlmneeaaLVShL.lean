-- a text of this work, without what this claim doesn't use (wip/shake.py)
import Derived.Test.YtijancajlmneeaaLVPblock
import Derived.Test.YtijancajlmneeaaLVBits
import Derived.Deep.DeepCutAuto
import Derived.Deep.CutBlock
set_option linter.unusedVariables false
set_option linter.unusedSimpArgs false
namespace Go.Proofs.Ytijancajlmneeaa.V
open Go.RowKit Go.Proofs.YtijancajlmneeaaW.PrintWords Go.Proofs.YtijancajlmneeaaW.PrintLast Go.Proofs.YtijancajlmneeaaW.PrintMore
theorem ok_soundS {b : Bk} (h : Sound b) (hl : b.f1.length ≤ 1000000) : block_Block_Ok.f 2000000 b.f0 b.f1 = some true := by
 rw [blockok_told 2000000 b.f0 b.f1 (by omega) (by omega)]
 exact congrArg some (okB_sound h)
set_option maxRecDepth 100000 in
set_option maxHeartbeats 4000000 in
theorem sharedLevels_walk (A : Option Addr) (c : Nat) (l : List Int) (w : World) (hr : Kd.C (Kd.int .i64) w A l.length l) (hc : l.length ≤ c) :
 Calls Try.prog 3 #[.slice A l.length c] w fun e w' => e = .returned (.bool true) ∧ Below w.heap.size w w' := by
 have HR := Aside0.mk hr
 have hl63 : l.length ≤ 9223372036854775807 := hr.2.1
 have mixed : Try.prog.follows .mixedOrders = true := by kernel_rfl
 clear hr
 go_enter Try.func3, Try.ntmps3
 go_wp2_with fail
 refine (snew_ok w).mono ?_
 rintro y w1 ⟨rfl, hk1⟩
 have HK1 := Aside0.mk hk1
 clear hk1
 go_wp2_with fail
 go_loopw [4, 5] (fun s4 s5 wr => ∃ (i id ver : Nat) (v : Value) (bs : List Bk) (es : List E), s4 = .int .i64 id ∧ s5 = .int .i64 i ∧ i ≤ l.length ∧ i ≤ 40 ∧ ver ≤ i ∧ id ≤ 9 * i ∧ Aside0 (es.length = id) ∧ Aside0 (Good bs ∧ bs.length ≤ i) ∧ Aside0 (SOk w wr w.heap.size (ver : Int) v bs es)) (fun _ i _ => 41 - (intOf i).toNat)
 case atStart => exact ⟨0, 0, 0, _, [], [], rfl, rfl, Nat.zero_le _, by omega, by omega, by omega, ⟨rfl⟩, ⟨good_nil, by simp⟩, HK1⟩
 case round =>
  clear HK1
  obtain ⟨i, id, ver, v, bs, es, rfl, rfl, hil, hi40, hver, hid, HES, HG, HK⟩ := hrel
  have hbl := HG.out.2
  have hel : es.length ≤ 1000 := by have := HES.out; omega
  by_cases hlt : i < l.length ∧ i < 40
  · obtain ⟨hlt, hlt40⟩ := hlt
    have HRW := Aside0.mk (fun (W : World) (hW : Below w.heap.size w W) => Kd.C_below HR.out hW)
    obtain ⟨ad, rfl⟩ : ∃ ad, A = some ad := by
     obtain ⟨ad, e, _⟩ := HR.out.2.2 (by omega)
     exact ⟨ad, e⟩
    have HY : Aside0 (∀ W, Below w.heap.size w W → W.cell? (ad.add i) = some (.int .i64 (rd l (i : Int)))) := ⟨fun W hW => by have := Kd.foot_int (Kd.C_below HR.out hW) (i : Int) (by omega) (by omega); rwa [Int.toNat_natCast] at this⟩
    have hx := and_maskL (rd l (i : Int)) 255 (by omega)
    rw [show ((255 : Nat) : Int) = 255 from rfl] at hx
    generalize rd l (i : Int) = xx at HY hx
    obtain ⟨z, hz⟩ : ∃ z : Int, bits BinOp.and IntKind.i64 xx 255 = z := ⟨_, rfl⟩
    rw [hz] at hx
    obtain ⟨hz0, hz1⟩ := hx
    obtain ⟨m, hm, hm2⟩ : ∃ m : Nat, z.tmod 10 = (m : Int) ∧ m < 10 := ⟨(z.tmod 10).toNat, by rw [Int.tmod_eq_emod_of_nonneg hz0]; have := Int.emod_nonneg z (b := 10) (by omega); omega, by rw [Int.tmod_eq_emod_of_nonneg hz0]; have := Int.emod_lt_of_pos z (b := 10) (by omega); omega⟩
    have hm3 : z % 10 = (m : Int) := by rw [← Int.tmod_eq_emod_of_nonneg hz0]; exact hm
    clear HRW
    have HMM := Aside0.mk (show m < 10 from hm2)
    have d40 : decide ((i : Int) < 40) = true := decide_eq_true (by omega)
    rename World => wo
    go_wp2_with fail
    go_loopw [4, 6, 7] (fun s4 s6 s7 wq => ∃ (k q : Nat) (xs : List E), s4 = .int .i64 q ∧ q = id + k ∧ s7 = .int .i64 k ∧ k ≤ m ∧ Aside0 (xs.length = k) ∧ Aside0 (Kd.R k28 28 wq wo.heap.size (fun _ => True) s6 xs) ∧ Aside0 (Below wo.heap.size wo wq)) (fun _ _ k _ => m - (intOf k).toNat)
    case atStart => exact ⟨0, id, [], rfl, rfl, rfl, Nat.zero_le _, ⟨rfl⟩, ⟨Kd.R_nil _ _ _ _ _⟩, ⟨Below.refl _ _⟩⟩
    case round =>
     obtain ⟨k, q, xs, rfl, hq, rfl, hkm, HXL, HX, HB⟩ := hrel
     have HQ := Aside0.mk hq
     have hqb : q ≤ 1000 := by omega
     clear hq
     have y0 := HY.out wr (below_step HK.out.bel HB.out)
     by_cases hlk : k < m
     · have s1 : IntKind.i64.wrap (((q : Int) + 1) * 31) = ((q : Int) + 1) * 31 := IntWalk.i64_in _ (by omega)
       have s2 : (((q : Int) + 1) * 31).tmod 97 = ((q : Int) + 1) * 31 % 97 := Int.tmod_eq_emod_of_nonneg (by omega)
       have s3 : IntKind.i64.wrap (((q : Int) + 1) * 31 % 97) = ((q : Int) + 1) * 31 % 97 := IntWalk.i64_in _ (by omega)
       have s4 : IntKind.u64.wrap (((q : Int) + 1) * 31 % 97) = ((q : Int) + 1) * 31 % 97 := IntWalk.u64_in _ (by omega)
       have HXLe := Aside0.mk (show xs.length ≤ 1000 by have := HXL.out; omega)
       go_wp2_with ((with_reducible refine gate_builtin (b := .append) (xs := #[.tmp 36, .tmp 43]) rfl ?_); at_builtin; go_loud (refine Kd.R_append k28 (w0 := wo) wo.heap.size rfl (.tmp 36) (.tmp 43) 25 28 (.agg #[(.int .u64 0), (.int .i64 0)]) 16 rfl Try.underlying25 info28 rfl (by decide) (by decide) u6 xs (⟨((q : Int) + 1) * 31 % 97, (q : Int) + 1⟩ : E) [.int .u64 (((q : Int) + 1) * 31 % 97), .int .i64 ((q : Int) + 1)] (fun _ => True) (fun _ => False) rfl (by simp [Act.eval]) (k28_mkM _ _ _ (⟨((q : Int) + 1) * 31 % 97, (q : Int) + 1⟩ : E)) (fun _ hk => hk.elim) (fun _ _ => trivial) HX.out HB.out HB.out.size (by have := HXLe.out; omega) ?_; intro v1 w3 ho1 hb1 hg1 hat1; have HX1 := Aside0.mk ho1; have HB1 := Aside0.mk hb1; clear ho1 hb1 hg1 hat1))
       go_roundw
       case rel => exact ⟨k + 1, q + 1, _, by go_num, by have := HQ.out; omega, by go_num, by omega, ⟨by rw [List.length_append, HXL.out]; rfl⟩, HX1, HB1⟩
       case measure => simp [intOf]; omega
     · obtain rfl : k = m := by omega
       clear hlk hkm
       have HQ2 := HQ
       obtain ⟨Ax, cx, ex⟩ := Kd.R_slice HX.out
       subst ex
       have hxl := HXL.out
       have HXR := Aside0.mk (Kd.R_reads' HX.out)
       have HK2 := Aside0.mk (HK.out.below HB.out)
       have HBL2 := Aside0.mk (show bs.length ≤ 1000 ∧ es.length ≤ 1000000 ∧ bs.length ≤ 900 from ⟨by omega, by omega, by omega⟩)
       have hlm : ¬ ((k : Int) < (k : Int)) := by omega
       clear HX HB HY HXL HK
       rename World => wi
       go_wp2_with fail
       refine (ssnap_ok HK2.out HBL2.out.1 HBL2.out.2.1).mono ?_
       rintro y w3 ⟨A3, c3, rfl, hv3, hb3⟩
       have HK3 := Aside0.mk (HK2.out.below hb3)
       have HXR3 := Aside0.mk (Kd.C_below HXR.out.2.2 hb3)
       clear hv3 hb3
       have hfs := fun W => field_snap (ver : Int) A3 bs.length c3 W
       obtain ⟨ver', hver'⟩ : ∃ ver' : Nat, ver' = if xs = [] then ver else ver + 1 := ⟨_, rfl⟩
       go_upto_region 15 with fail
       clear hfs
       go_cut [50] (fun _ wx => ∃ (v' : Value) (cs : List Bk), Aside0 (SOk w wx w.heap.size (ver' : Int) v' cs (xs ++ es)) ∧ Aside0 (Good cs ∧ cs.length ≤ bs.length + 1))
       case first =>
        by_cases hx0 : xs = []
        · subst hx0
          rw [if_pos rfl] at hver'
          have hk0 : k = 0 := hxl.symm
          have HV := Aside0.mk hver'
          have HK0 := Aside0.mk hk0
          clear hver' hxl hk0
          go_wp2_with fail
          refine (sh_add_nilN w.heap.size Ax _ cx _ HK0.out).mono ?_
          rintro y w4 ⟨rfl, rfl⟩
          go_wp2_with fail
          go_meet
          exact ⟨_, bs, ⟨by rw [HV.out]; exact HK3.out⟩, ⟨HG.out.1, by omega⟩⟩
        · rw [if_neg hx0] at hver'
          have HV := Aside0.mk hver'
          have HX0 := Aside0.mk hx0
          have HXB := Aside0.mk (show es.length + xs.length ≤ 1000000 ∧ (0 : Int) ≤ (ver : Int) ∧ (ver : Int) ≤ 1000000 by omega)
          have HXN := Aside0.mk hxl.symm
          clear hver' hx0 hxl
          go_wp2_with fail
          refine (sadd_okN HK3.out Ax _ cx xs HXN.out HXB.out.2 HXR3.out HXR.out.2.1 HX0.out HBL2.out.2.2 HXB.out.1).mono ?_
          rintro y w4 ⟨rfl, ⟨v4, hk4⟩, _⟩
          have HK4 := Aside0.mk hk4
          clear hk4
          go_wp2_with fail
          go_meet
          exact ⟨v4, addL xs bs, ⟨by rw [HV.out]; exact HK4.out⟩, ⟨addL_good HG.out.1 HX0.out, addS_len _ _ _⟩⟩
       case rest =>
        obtain ⟨v4, cs, HK4, HG4⟩ := hcut
        have hver2 : (xs = [] → (ver' : Int) = ver) ∧ (xs ≠ [] → (ver' : Int) = ver + 1) := ⟨fun h => by rw [hver', if_pos h], fun h => by rw [hver', if_neg h]; omega⟩
        have hverb : ver' ≤ i + 1 := by rw [hver']; split <;> omega
        have hcl := HG4.out.2
        have hxe : (xs ++ es).length ≤ 2000 := by rw [List.length_append]; omega
        have HVV := Aside0.mk hver2
        have HVB := Aside0.mk hverb
        clear hver' hver2 hverb HK2 HK3 HXR3
        go_wp2_with fail
        refine (ssnap_ok HK4.out (by omega) (by omega)).mono ?_
        rintro y w5 ⟨Ab, cb, rfl, hv5, hb5⟩
        have HK5 := Aside0.mk (HK4.out.below hb5)
        have HV5 := Aside0.mk hv5
        clear hv5 hb5
        have HX6 := Aside0.mk (heap_alloc_new w5 (.cells #[.int .u64 (ver' : Int), .slice Ab cs.length cb] 31))
        have HB6 := Aside0.mk (below_alloc (Below.refl w5.heap.size w5) (.cells #[.int .u64 (ver' : Int), .slice Ab cs.length cb] 31))
        have HK6 := Aside0.mk (HK5.out.below HB6.out)
        have x0 : (w5.alloc (.cells #[.int .u64 (ver' : Int), .slice Ab cs.length cb] 31)).cell? ⟨w5.heap.size, 0, none⟩ = some (.int .u64 (ver' : Int)) := (blk_cell HX6.out 0).trans rfl
        have x1 : (w5.alloc (.cells #[.int .u64 (ver' : Int), .slice Ab cs.length cb] 31)).cell? ⟨w5.heap.size, 1, none⟩ = some (.slice Ab cs.length cb) := (blk_cell HX6.out 1).trans rfl
        have HV6 := Aside0.mk (Kd.V_reads' (Kd.V_below HV5.out HB6.out))
        have HLX := Aside0.mk hxl
        go_upto_region 17 with fail
        obtain ⟨X, hX⟩ : ∃ X, X = w5.heap.size := ⟨_, rfl⟩
        obtain ⟨w6, hw6⟩ : ∃ w6 : World, w6 = w5.alloc (.cells #[.int .u64 (ver' : Int), .slice Ab cs.length cb] 31) := ⟨_, rfl⟩
        rw [← hX] at x0 x1 ⊢
        rw [← hw6] at HK6 HV6 x0 x1 ⊢
        clear hX hw6 HX6 HB6 HV5 HK5 hxl
        go_cut [73] (fun s73 wx => s73 = .bool false ∧ Aside0 (wx = w6))
        case first =>
         by_cases hk0 : k = 0
         · have hvv : ver' = ver := by have := HVV.out.1 (List.length_eq_zero_iff.1 (by rw [HLX.out]; exact hk0)); omega
           subst hk0
           subst hvv
           clear HLX
           go_wp2_with fail
           go_meet
           exact ⟨rfl, ⟨rfl⟩⟩
         · have hvv : ver' = ver + 1 := by have := HVV.out.2 (fun e => hk0 (by rw [← HLX.out, e]; rfl)); omega
           have a1 : decide (0 < k) = true := decide_eq_true (by omega)
           have a2 : decide ((k : Int) > 0) = true := decide_eq_true (by omega)
           have a5 : ((k : Int) == 0) = false := by rw [beq_eq_false_iff_ne]; omega
           have a6 : decide (k = 0) = false := decide_eq_false hk0
           have c0 : IntKind.u64.wrap ((ver : Int) + 1) = (ver : Int) + 1 := IntWalk.u64_in _ (by omega)
           have b2 : ((ver' : Int) == (ver : Int) + 1) = true := by rw [beq_iff_eq]; omega
           have b3 : ((ver' : Int) != (ver : Int) + 1) = false := by simp [hvv]
           clear hk0 hvv
           go_wp2_with fail
           go_meet
           exact ⟨rfl, ⟨rfl⟩⟩
        case rest =>
         obtain ⟨rfl, HWC⟩ := hcut
         have hwc := HWC.out.symm
         subst hwc
         clear HWC HVV
         have hq0 := HQ2.out
         go_wp2_with fail
         go_loopw [10] (fun s10 wr => ∃ kb : Nat, s10 = .int .i64 kb ∧ kb ≤ cs.length ∧ Aside0 (Below w6.heap.size w6 wr)) (fun kb _ => cs.length - (intOf kb).toNat)
         case atStart => exact ⟨0, rfl, Nat.zero_le _, ⟨Below.refl _ _⟩⟩
         case round =>
          obtain ⟨kb, rfl, hkb, HB⟩ := hrel
          have y0 := pw_cell_below HB.out x1
          by_cases hlt2 : kb < cs.length
          · obtain ⟨b, hb⟩ : ∃ b, cs[kb]? = some b := ⟨_, List.getElem?_eq_getElem hlt2⟩
            obtain ⟨ab, A1, c1, eAb, y1, y2, e4, e5⟩ := bk_at (Kd.C_below HV6.out.2.2 HB.out) hb
            subst eAb
            have HBC := Aside0.mk (Kd.C_drew e5)
            have hsnd := HG4.out.1.snd b (List.mem_of_getElem? hb)
            have hbl2 := allB_at_le hb
            have hba := HK6.out.cnt
            have HBO := Aside0.mk (ok_soundS hsnd (by omega))
            have hbp := hsnd.pos
            have n1 : ((b.f1.length : Int) == 0) = false := by rw [beq_eq_false_iff_ne]; omega
            have n2 : decide (b.f1.length = 0) = false := decide_eq_false (by omega)
            have n3 : decide (b.f1 = []) = false := decide_eq_false hsnd.ne
            have n4 : ¬ b.f1 = [] := hsnd.ne
            have hin : (kb : Int) < (cs.length : Int) := by omega
            have hin0 : (0 : Int) ≤ (kb : Int) := by omega
            clear hsnd e5 hbl2 hba hbp
            by_cases hk0 : kb = 0
            · have d0 : decide (0 < kb) = false := decide_eq_false (by omega)
              have d1 : decide ((kb : Int) > 0) = false := decide_eq_false (by omega)
              clear hk0 hb
              go_wp2_with fail
              refine start_ (n := 37) (S := fun w' => w'.cell? ⟨X, 1, none⟩ = some (.slice (some ab) cs.length cb) ∧ w'.cell? (ab.add (kb * 2)) = some (.int .i64 b.f0) ∧ w'.cell? ⟨(ab.add (kb * 2)).block, (ab.add (kb * 2)).off + 1, none⟩ = some (.slice A1 b.f1.length c1)) (ds := []) #[false, false, false, false, false, false, false, false, false, false, false, false, false, false, false, false, false, false, false, false, false, false, false, false, false, false, false, false, false, false, false, false, false, false, false, false, false] (by kernel_rfl) rfl rfl ⟨y0, y1, y2⟩ (fun hHeld => ?_)
              refine pure_ (i := 0) (N := (some 81)) (v := ?_) (a' := ?_) #[true, false, false, false, false, false, false, false, false, false, false, false, false, false, false, false, false, false, false, false, false, false, false, false, false, false, false, false, false, false, false, false, false, false, false, false, false] rfl rfl (by kernel_rfl) (fun _ _ _ h => h) (Or.inl ⟨by rfl, ?_⟩) ?_ ?_
              rotate_left
              · intro w'
                go_simp
                with_reducible rfl
              rotate_left
              · simp only [Act.put, List.setIfInBounds_toArray, List.set_cons_zero, List.set_cons_succ, i64_w, i32_w]
                rfl
              refine pure_ (i := 2) (N := (some 83)) (v := ?_) (a' := ?_) #[true, false, true, false, false, false, false, false, false, false, false, false, false, false, false, false, false, false, false, false, false, false, false, false, false, false, false, false, false, false, false, false, false, false, false, false, false] rfl rfl (by kernel_rfl) (fun _ _ _ h => h) (Or.inl ⟨by rfl, ?_⟩) ?_ ?_
              rotate_left
              · intro w'
                go_simp
                with_reducible rfl
              rotate_left
              · simp only [Act.put, List.setIfInBounds_toArray, List.set_cons_zero, List.set_cons_succ, i64_w, i32_w]
                rfl
              refine take_ (i := 1) (N := (some 82)) (v := ?_) (a' := ?_) #[true, true, true, false, false, false, false, false, false, false, false, false, false, false, false, false, false, false, false, false, false, false, false, false, false, false, false, false, false, false, false, false, false, false, false, false, false] rfl rfl (by kernel_rfl) (fun _ _ _ h => h) (Or.inl ⟨by rfl, ?_⟩) hHeld ?_ ?_
              rotate_left
              · rintro w' ⟨s0, s1, s2⟩
                go_simp
                with_reducible rfl
              rotate_left
              · simp only [Act.put, List.setIfInBounds_toArray, List.set_cons_zero, List.set_cons_succ, i64_w, i32_w]
                rfl
              refine pure_ (i := 3) (N := (some 84)) (v := ?_) (a' := ?_) #[true, true, true, true, false, false, false, false, false, false, false, false, false, false, false, false, false, false, false, false, false, false, false, false, false, false, false, false, false, false, false, false, false, false, false, false, false] rfl rfl (by kernel_rfl) (fun _ _ _ h => h) (Or.inl ⟨by rfl, ?_⟩) ?_ ?_
              rotate_left
              · intro w'
                go_simp
                with_reducible rfl
              rotate_left
              · simp only [Act.put, List.setIfInBounds_toArray, List.set_cons_zero, List.set_cons_succ, i64_w, i32_w]
                rfl
              refine take_ (i := 4) (N := (some 85)) (v := ?_) (a' := ?_) #[true, true, true, true, true, false, false, false, false, false, false, false, false, false, false, false, false, false, false, false, false, false, false, false, false, false, false, false, false, false, false, false, false, false, false, false, false] rfl rfl (by kernel_rfl) (fun _ _ _ h => h) (Or.inl ⟨by rfl, ?_⟩) hHeld ?_ ?_
              rotate_left
              · rintro w' ⟨s0, s1, s2⟩
                go_simp
                with_reducible rfl
              rotate_left
              · simp only [Act.put, List.setIfInBounds_toArray, List.set_cons_zero, List.set_cons_succ, i64_w, i32_w]
                rfl
              refine one_ (i := 5) (N := (some 86)) #[true, true, true, true, true, true, false, false, false, false, false, false, false, false, false, false, false, false, false, false, false, false, false, false, false, false, false, false, false, false, false, false, false, false, false, false, false] rfl rfl (by kernel_rfl) (by decide) (fun K hK => ?_)
              refine goes_ Try.func14 (by kernel_rfl) rfl #[.agg #[.int .i64 b.f0, .slice A1 b.f1.length c1]] (by rfl) rfl rfl (by (try simp only [List.map_toArray, List.map_cons, List.map_nil]); first | done | rfl) ?_
              refine (block_Block_Ok.calls 2000000 _ _ _ _ true _ HBC.out e4 HBO.out).mono ?_
              rintro y w5 ⟨rfl, hb5⟩
              have HB5 := Aside0.mk (below_step (below_drew (Below.refl wr.heap.size wr)) hb5)
              have k0 := pw_cell_below HB5.out y0
              have k1 := pw_cell_below HB5.out y1
              have k2 := pw_cell_below HB5.out y2
              clear hb5
              refine ⟨_, rfl, ?_⟩
              refine hK.out _ _ ⟨k0, k1, k2⟩ (fun hHeld => ?_)
              clear hK K
              refine norm_ (a' := ?_) ?_ ?_
              rotate_left
              · show Act.put _ (some 86) _ = _
                simp only [Act.put, List.setIfInBounds_toArray, List.set_cons_zero, List.set_cons_succ, i64_w, i32_w]
                rfl
              refine pure_ (i := 6) (N := (some 87)) (v := ?_) (a' := ?_) #[true, true, true, true, true, true, true, false, false, false, false, false, false, false, false, false, false, false, false, false, false, false, false, false, false, false, false, false, false, false, false, false, false, false, false, false, false] rfl rfl (by kernel_rfl) (fun _ _ _ h => h) (Or.inl ⟨by rfl, ?_⟩) ?_ ?_
              rotate_left
              · intro w'
                go_simp
                with_reducible rfl
              rotate_left
              · simp only [Act.put, List.setIfInBounds_toArray, List.set_cons_zero, List.set_cons_succ, i64_w, i32_w]
                rfl
              refine pure_ (i := 7) (N := (some 88)) (v := ?_) (a' := ?_) #[true, true, true, true, true, true, true, true, false, false, false, false, false, false, false, false, false, false, false, false, false, false, false, false, false, false, false, false, false, false, false, false, false, false, false, false, false] rfl rfl (by kernel_rfl) (fun _ _ _ h => h) (Or.inl ⟨by rfl, ?_⟩) ?_ ?_
              rotate_left
              · intro w'
                go_simp
                with_reducible rfl
              rotate_left
              · simp only [Act.put, List.setIfInBounds_toArray, List.set_cons_zero, List.set_cons_succ, i64_w, i32_w]
                rfl
              refine pure_ (i := 8) (N := (some 89)) (v := ?_) (a' := ?_) #[true, true, true, true, true, true, true, true, true, false, false, false, false, false, false, false, false, false, false, false, false, false, false, false, false, false, false, false, false, false, false, false, false, false, false, false, false] rfl rfl (by kernel_rfl) (fun _ _ _ h => h) (Or.inl ⟨by rfl, ?_⟩) ?_ ?_
              rotate_left
              · intro w'
                go_simp
                with_reducible rfl
              rotate_left
              · simp only [Act.put, List.setIfInBounds_toArray, List.set_cons_zero, List.set_cons_succ, i64_w, i32_w]
                rfl
              refine pure_ (i := 10) (N := (some 91)) (v := ?_) (a' := ?_) #[true, true, true, true, true, true, true, true, true, false, true, false, false, false, false, false, false, false, false, false, false, false, false, false, false, false, false, false, false, false, false, false, false, false, false, false, false] rfl rfl (by kernel_rfl) (fun _ _ _ h => h) (Or.inl ⟨by rfl, ?_⟩) ?_ ?_
              rotate_left
              · intro w'
                go_simp
                with_reducible rfl
              rotate_left
              · simp only [Act.put, List.setIfInBounds_toArray, List.set_cons_zero, List.set_cons_succ, i64_w, i32_w]
                rfl
              refine take_ (i := 9) (N := (some 90)) (v := ?_) (a' := ?_) #[true, true, true, true, true, true, true, true, true, true, true, false, false, false, false, false, false, false, false, false, false, false, false, false, false, false, false, false, false, false, false, false, false, false, false, false, false] rfl rfl (by kernel_rfl) (fun _ _ _ h => h) (Or.inl ⟨by rfl, ?_⟩) hHeld ?_ ?_
              rotate_left
              · rintro w' ⟨s0, s1, s2⟩
                go_simp
                with_reducible rfl
              rotate_left
              · simp only [Act.put, List.setIfInBounds_toArray, List.set_cons_zero, List.set_cons_succ, i64_w, i32_w]
                rfl
              refine pure_ (i := 11) (N := (some 92)) (v := ?_) (a' := ?_) #[true, true, true, true, true, true, true, true, true, true, true, true, false, false, false, false, false, false, false, false, false, false, false, false, false, false, false, false, false, false, false, false, false, false, false, false, false] rfl rfl (by kernel_rfl) (fun _ _ _ h => h) (Or.inl ⟨by rfl, ?_⟩) ?_ ?_
              rotate_left
              · intro w'
                go_simp
                with_reducible rfl
              rotate_left
              · simp only [Act.put, List.setIfInBounds_toArray, List.set_cons_zero, List.set_cons_succ, i64_w, i32_w]
                rfl
              refine pure_ (i := 12) (N := (some 93)) (v := ?_) (a' := ?_) #[true, true, true, true, true, true, true, true, true, true, true, true, true, false, false, false, false, false, false, false, false, false, false, false, false, false, false, false, false, false, false, false, false, false, false, false, false] rfl rfl (by kernel_rfl) (fun _ _ _ h => h) (Or.inl ⟨by rfl, ?_⟩) ?_ ?_
              rotate_left
              · intro w'
                go_simp
                with_reducible rfl
              rotate_left
              · simp only [Act.put, List.setIfInBounds_toArray, List.set_cons_zero, List.set_cons_succ, i64_w, i32_w]
                rfl
              refine take_ (i := 13) (N := (some 94)) (v := ?_) (a' := ?_) #[true, true, true, true, true, true, true, true, true, true, true, true, true, true, false, false, false, false, false, false, false, false, false, false, false, false, false, false, false, false, false, false, false, false, false, false, false] rfl rfl (by kernel_rfl) (fun _ _ _ h => h) (Or.inl ⟨by rfl, ?_⟩) hHeld ?_ ?_
              rotate_left
              · rintro w' ⟨s0, s1, s2⟩
                go_simp
                with_reducible rfl
              rotate_left
              · simp only [Act.put, List.setIfInBounds_toArray, List.set_cons_zero, List.set_cons_succ, i64_w, i32_w]
                rfl
              refine pure_ (i := 14) (N := (some 95)) (v := ?_) (a' := ?_) #[true, true, true, true, true, true, true, true, true, true, true, true, true, true, true, false, false, false, false, false, false, false, false, false, false, false, false, false, false, false, false, false, false, false, false, false, false] rfl rfl (by kernel_rfl) (fun _ _ _ h => h) (Or.inl ⟨by rfl, ?_⟩) ?_ ?_
              rotate_left
              · intro w'
                go_simp
                with_reducible rfl
              rotate_left
              · simp only [Act.put, List.setIfInBounds_toArray, List.set_cons_zero, List.set_cons_succ, i64_w, i32_w]
                rfl
              refine pure_ (i := 15) (N := (some 96)) (v := ?_) (a' := ?_) #[true, true, true, true, true, true, true, true, true, true, true, true, true, true, true, true, false, false, false, false, false, false, false, false, false, false, false, false, false, false, false, false, false, false, false, false, false] rfl rfl (by kernel_rfl) (fun _ _ _ h => h) (Or.inl ⟨by rfl, ?_⟩) ?_ ?_
              rotate_left
              · intro w'
                go_simp
                with_reducible rfl
              rotate_left
              · simp only [Act.put, List.setIfInBounds_toArray, List.set_cons_zero, List.set_cons_succ, i64_w, i32_w]
                rfl
              refine pure_ (i := 16) (N := (some 97)) (v := ?_) (a' := ?_) #[true, true, true, true, true, true, true, true, true, true, true, true, true, true, true, true, true, false, false, false, false, false, false, false, false, false, false, false, false, false, false, false, false, false, false, false, false] rfl rfl (by kernel_rfl) (fun _ _ _ h => h) (Or.inl ⟨by rfl, ?_⟩) ?_ ?_
              rotate_left
              · intro w'
                go_simp
                with_reducible rfl
              rotate_left
              · simp only [Act.put, List.setIfInBounds_toArray, List.set_cons_zero, List.set_cons_succ, i64_w, i32_w]
                rfl
              refine pure_ (i := 17) (N := (some 98)) (v := ?_) (a' := ?_) #[true, true, true, true, true, true, true, true, true, true, true, true, true, true, true, true, true, true, false, false, false, false, false, false, false, false, false, false, false, false, false, false, false, false, false, false, false] rfl rfl (by kernel_rfl) (fun _ _ _ h => h) (Or.inl ⟨by rfl, ?_⟩) ?_ ?_
              rotate_left
              · intro w'
                go_simp
                with_reducible rfl
              rotate_left
              · simp only [Act.put, List.setIfInBounds_toArray, List.set_cons_zero, List.set_cons_succ, i64_w, i32_w]
                rfl
              refine pure_ (i := 18) (N := (some 99)) (v := ?_) (a' := ?_) #[true, true, true, true, true, true, true, true, true, true, true, true, true, true, true, true, true, true, true, false, false, false, false, false, false, false, false, false, false, false, false, false, false, false, false, false, false] rfl rfl (by kernel_rfl) (fun _ _ _ h => h) (Or.inl ⟨by rfl, ?_⟩) ?_ ?_
              rotate_left
              · intro w'
                go_simp
                with_reducible rfl
              rotate_left
              · simp only [Act.put, List.setIfInBounds_toArray, List.set_cons_zero, List.set_cons_succ, i64_w, i32_w]
                rfl
              refine pure_ (i := 19) (N := (some 100)) (v := ?_) (a' := ?_) #[true, true, true, true, true, true, true, true, true, true, true, true, true, true, true, true, true, true, true, true, false, false, false, false, false, false, false, false, false, false, false, false, false, false, false, false, false] rfl rfl (by kernel_rfl) (fun _ _ _ h => h) (Or.inl ⟨by rfl, ?_⟩) ?_ ?_
              rotate_left
              · intro w'
                go_simp
                with_reducible rfl
              rotate_left
              · simp only [Act.put, List.setIfInBounds_toArray, List.set_cons_zero, List.set_cons_succ, i64_w, i32_w]
                rfl
              refine pure_ (i := 20) (N := (some 101)) (v := ?_) (a' := ?_) #[true, true, true, true, true, true, true, true, true, true, true, true, true, true, true, true, true, true, true, true, true, false, false, false, false, false, false, false, false, false, false, false, false, false, false, false, false] rfl rfl (by kernel_rfl) (fun _ _ _ h => h) (Or.inl ⟨by rfl, ?_⟩) ?_ ?_
              rotate_left
              · intro w'
                go_simp
                with_reducible rfl
              rotate_left
              · simp only [Act.put, List.setIfInBounds_toArray, List.set_cons_zero, List.set_cons_succ, i64_w, i32_w]
                rfl
              refine pure_ (i := 21) (N := (some 102)) (v := undef) (a' := ?_) #[true, true, true, true, true, true, true, true, true, true, true, true, true, true, true, true, true, true, true, true, true, true, false, false, false, false, false, false, false, false, false, false, false, false, false, false, false] rfl rfl (by kernel_rfl) (fun _ _ _ h => h) (Or.inr ⟨by rfl, rfl⟩) ?_ ?_
              rotate_left
              · simp only [Act.put, List.setIfInBounds_toArray, List.set_cons_zero, List.set_cons_succ, i64_w, i32_w]
                rfl
              refine pure_ (i := 22) (N := (some 103)) (v := undef) (a' := ?_) #[true, true, true, true, true, true, true, true, true, true, true, true, true, true, true, true, true, true, true, true, true, true, true, false, false, false, false, false, false, false, false, false, false, false, false, false, false] rfl rfl (by kernel_rfl) (fun _ _ _ h => h) (Or.inr ⟨by rfl, rfl⟩) ?_ ?_
              rotate_left
              · simp only [Act.put, List.setIfInBounds_toArray, List.set_cons_zero, List.set_cons_succ, i64_w, i32_w]
                rfl
              refine pure_ (i := 23) (N := (some 104)) (v := undef) (a' := ?_) #[true, true, true, true, true, true, true, true, true, true, true, true, true, true, true, true, true, true, true, true, true, true, true, true, false, false, false, false, false, false, false, false, false, false, false, false, false] rfl rfl (by kernel_rfl) (fun _ _ _ h => h) (Or.inr ⟨by rfl, rfl⟩) ?_ ?_
              rotate_left
              · simp only [Act.put, List.setIfInBounds_toArray, List.set_cons_zero, List.set_cons_succ, i64_w, i32_w]
                rfl
              refine pure_ (i := 24) (N := (some 105)) (v := undef) (a' := ?_) #[true, true, true, true, true, true, true, true, true, true, true, true, true, true, true, true, true, true, true, true, true, true, true, true, true, false, false, false, false, false, false, false, false, false, false, false, false] rfl rfl (by kernel_rfl) (fun _ _ _ h => h) (Or.inr ⟨by rfl, rfl⟩) ?_ ?_
              rotate_left
              · simp only [Act.put, List.setIfInBounds_toArray, List.set_cons_zero, List.set_cons_succ, i64_w, i32_w]
                rfl
              refine pure_ (i := 25) (N := (some 106)) (v := undef) (a' := ?_) #[true, true, true, true, true, true, true, true, true, true, true, true, true, true, true, true, true, true, true, true, true, true, true, true, true, true, false, false, false, false, false, false, false, false, false, false, false] rfl rfl (by kernel_rfl) (fun _ _ _ h => h) (Or.inr ⟨by rfl, rfl⟩) ?_ ?_
              rotate_left
              · simp only [Act.put, List.setIfInBounds_toArray, List.set_cons_zero, List.set_cons_succ, i64_w, i32_w]
                rfl
              refine pure_ (i := 26) (N := (some 107)) (v := undef) (a' := ?_) #[true, true, true, true, true, true, true, true, true, true, true, true, true, true, true, true, true, true, true, true, true, true, true, true, true, true, true, false, false, false, false, false, false, false, false, false, false] rfl rfl (by kernel_rfl) (fun _ _ _ h => h) (Or.inr ⟨by rfl, rfl⟩) ?_ ?_
              rotate_left
              · simp only [Act.put, List.setIfInBounds_toArray, List.set_cons_zero, List.set_cons_succ, i64_w, i32_w]
                rfl
              refine pure_ (i := 27) (N := (some 108)) (v := undef) (a' := ?_) #[true, true, true, true, true, true, true, true, true, true, true, true, true, true, true, true, true, true, true, true, true, true, true, true, true, true, true, true, false, false, false, false, false, false, false, false, false] rfl rfl (by kernel_rfl) (fun _ _ _ h => h) (Or.inr ⟨by rfl, rfl⟩) ?_ ?_
              rotate_left
              · simp only [Act.put, List.setIfInBounds_toArray, List.set_cons_zero, List.set_cons_succ, i64_w, i32_w]
                rfl
              refine pure_ (i := 28) (N := (some 109)) (v := undef) (a' := ?_) #[true, true, true, true, true, true, true, true, true, true, true, true, true, true, true, true, true, true, true, true, true, true, true, true, true, true, true, true, true, false, false, false, false, false, false, false, false] rfl rfl (by kernel_rfl) (fun _ _ _ h => h) (Or.inr ⟨by rfl, rfl⟩) ?_ ?_
              rotate_left
              · simp only [Act.put, List.setIfInBounds_toArray, List.set_cons_zero, List.set_cons_succ, i64_w, i32_w]
                rfl
              refine pure_ (i := 29) (N := (some 110)) (v := undef) (a' := ?_) #[true, true, true, true, true, true, true, true, true, true, true, true, true, true, true, true, true, true, true, true, true, true, true, true, true, true, true, true, true, true, false, false, false, false, false, false, false] rfl rfl (by kernel_rfl) (fun _ _ _ h => h) (Or.inr ⟨by rfl, rfl⟩) ?_ ?_
              rotate_left
              · simp only [Act.put, List.setIfInBounds_toArray, List.set_cons_zero, List.set_cons_succ, i64_w, i32_w]
                rfl
              refine pure_ (i := 30) (N := (some 111)) (v := undef) (a' := ?_) #[true, true, true, true, true, true, true, true, true, true, true, true, true, true, true, true, true, true, true, true, true, true, true, true, true, true, true, true, true, true, true, false, false, false, false, false, false] rfl rfl (by kernel_rfl) (fun _ _ _ h => h) (Or.inr ⟨by rfl, rfl⟩) ?_ ?_
              rotate_left
              · simp only [Act.put, List.setIfInBounds_toArray, List.set_cons_zero, List.set_cons_succ, i64_w, i32_w]
                rfl
              refine pure_ (i := 31) (N := (some 112)) (v := undef) (a' := ?_) #[true, true, true, true, true, true, true, true, true, true, true, true, true, true, true, true, true, true, true, true, true, true, true, true, true, true, true, true, true, true, true, true, false, false, false, false, false] rfl rfl (by kernel_rfl) (fun _ _ _ h => h) (Or.inr ⟨by rfl, rfl⟩) ?_ ?_
              rotate_left
              · simp only [Act.put, List.setIfInBounds_toArray, List.set_cons_zero, List.set_cons_succ, i64_w, i32_w]
                rfl
              refine pure_ (i := 32) (N := (some 113)) (v := undef) (a' := ?_) #[true, true, true, true, true, true, true, true, true, true, true, true, true, true, true, true, true, true, true, true, true, true, true, true, true, true, true, true, true, true, true, true, true, false, false, false, false] rfl rfl (by kernel_rfl) (fun _ _ _ h => h) (Or.inr ⟨by rfl, rfl⟩) ?_ ?_
              rotate_left
              · simp only [Act.put, List.setIfInBounds_toArray, List.set_cons_zero, List.set_cons_succ, i64_w, i32_w]
                rfl
              refine pure_ (i := 33) (N := (some 114)) (v := undef) (a' := ?_) #[true, true, true, true, true, true, true, true, true, true, true, true, true, true, true, true, true, true, true, true, true, true, true, true, true, true, true, true, true, true, true, true, true, true, false, false, false] rfl rfl (by kernel_rfl) (fun _ _ _ h => h) (Or.inr ⟨by rfl, rfl⟩) ?_ ?_
              rotate_left
              · simp only [Act.put, List.setIfInBounds_toArray, List.set_cons_zero, List.set_cons_succ, i64_w, i32_w]
                rfl
              refine pure_ (i := 34) (N := (some 115)) (v := undef) (a' := ?_) #[true, true, true, true, true, true, true, true, true, true, true, true, true, true, true, true, true, true, true, true, true, true, true, true, true, true, true, true, true, true, true, true, true, true, true, false, false] rfl rfl (by kernel_rfl) (fun _ _ _ h => h) (Or.inr ⟨by rfl, rfl⟩) ?_ ?_
              rotate_left
              · simp only [Act.put, List.setIfInBounds_toArray, List.set_cons_zero, List.set_cons_succ, i64_w, i32_w]
                rfl
              refine pure_ (i := 35) (N := (some 116)) (v := ?_) (a' := ?_) #[true, true, true, true, true, true, true, true, true, true, true, true, true, true, true, true, true, true, true, true, true, true, true, true, true, true, true, true, true, true, true, true, true, true, true, true, false] rfl rfl (by kernel_rfl) (fun _ _ _ h => h) (Or.inl ⟨by rfl, ?_⟩) ?_ ?_
              rotate_left
              · intro w'
                go_simp
                with_reducible rfl
              rotate_left
              · simp only [Act.put, List.setIfInBounds_toArray, List.set_cons_zero, List.set_cons_succ, i64_w, i32_w]
                rfl
              refine pure_ (i := 36) (N := (some 117)) (v := ?_) (a' := ?_) #[true, true, true, true, true, true, true, true, true, true, true, true, true, true, true, true, true, true, true, true, true, true, true, true, true, true, true, true, true, true, true, true, true, true, true, true, true] rfl rfl (by kernel_rfl) (fun _ _ _ h => h) (Or.inl ⟨by rfl, ?_⟩) ?_ ?_
              rotate_left
              · intro w'
                go_simp
                with_reducible rfl
              rotate_left
              · simp only [Act.put, List.setIfInBounds_toArray, List.set_cons_zero, List.set_cons_succ, i64_w, i32_w]
                rfl
              refine done_ (by kernel_rfl) ?_
              go_wp2
              go_roundw
              case rel => exact ⟨kb + 1, by go_num, by omega, ⟨below_step HB.out HB5.out⟩⟩
              case measure => simp [intOf]; omega
            · obtain ⟨j, rfl⟩ : ∃ j, kb = j + 1 := ⟨kb - 1, by omega⟩
              obtain ⟨a, ha⟩ : ∃ a, cs[j]? = some a := ⟨_, List.getElem?_eq_getElem (by omega)⟩
              obtain ⟨_, _, _, e6, y3, _, _, _⟩ := bk_at (Kd.C_below HV6.out.2.2 HB.out) ha
              injection e6 with e6
              subst e6
              have hab : b.f0 < a.f0 := by
               obtain ⟨h1, rfl⟩ := List.getElem?_eq_some_iff.1 ha
               obtain ⟨h2, rfl⟩ := List.getElem?_eq_some_iff.1 hb
               exact List.pairwise_iff_getElem.1 HG4.out.1.desc j (j + 1) h1 h2 (by omega)
              have g0 : decide (a.f0 ≤ b.f0) = false := decide_eq_false (by omega)
              have g1 : decide (b.f0 ≥ a.f0) = false := decide_eq_false (by omega)
              have d0 : decide (0 < j + 1) = true := decide_eq_true (by omega)
              have d1 : decide (((j + 1 : Nat) : Int) > 0) = true := decide_eq_true (by omega)
              have d2 : decide ((j : Int) + 1 > 0) = true := decide_eq_true (by omega)
              have q1 : j < cs.length := by omega
              have q2 : (j : Int) < (cs.length : Int) := by omega
              have q3 : (0 : Int) ≤ (j : Int) := by omega
              have q0 : (0 : Int) ≤ (j : Int) + 1 := by omega
              have q7 : (j : Int) + 1 < (cs.length : Int) := by omega
              have q4 : IntKind.i64.wrap (j : Int) = (j : Int) := IntWalk.i64_in _ (by omega)
              have q5 : IntKind.i64.wrap ((j : Int) + 1 - 1) = (j : Int) := by rw [show (j : Int) + 1 - 1 = (j : Int) by omega]; exact q4
              have q6 : IntKind.i64.wrap (((j + 1 : Nat) : Int) - 1) = (j : Int) := by rw [show ((j + 1 : Nat) : Int) - 1 = (j : Int) by omega]; exact q4
              clear ha hb hab hk0
              go_wp2_with fail
              refine start_ (n := 37) (S := fun w' => w'.cell? ⟨X, 1, none⟩ = some (.slice (some ab) cs.length cb) ∧ w'.cell? (ab.add ((j + 1) * 2)) = some (.int .i64 b.f0) ∧ w'.cell? ⟨(ab.add ((j + 1) * 2)).block, (ab.add ((j + 1) * 2)).off + 1, none⟩ = some (.slice A1 b.f1.length c1) ∧ w'.cell? (ab.add (j * 2)) = some (.int .i64 a.f0)) (ds := []) #[false, false, false, false, false, false, false, false, false, false, false, false, false, false, false, false, false, false, false, false, false, false, false, false, false, false, false, false, false, false, false, false, false, false, false, false, false] (by kernel_rfl) rfl rfl ⟨y0, y1, y2, y3⟩ (fun hHeld => ?_)
              refine pure_ (i := 0) (N := (some 81)) (v := ?_) (a' := ?_) #[true, false, false, false, false, false, false, false, false, false, false, false, false, false, false, false, false, false, false, false, false, false, false, false, false, false, false, false, false, false, false, false, false, false, false, false, false] rfl rfl (by kernel_rfl) (fun _ _ _ h => h) (Or.inl ⟨by rfl, ?_⟩) ?_ ?_
              rotate_left
              · intro w'
                go_simp
                with_reducible rfl
              rotate_left
              · simp only [Act.put, List.setIfInBounds_toArray, List.set_cons_zero, List.set_cons_succ, i64_w, i32_w]
                rfl
              refine pure_ (i := 2) (N := (some 83)) (v := ?_) (a' := ?_) #[true, false, true, false, false, false, false, false, false, false, false, false, false, false, false, false, false, false, false, false, false, false, false, false, false, false, false, false, false, false, false, false, false, false, false, false, false] rfl rfl (by kernel_rfl) (fun _ _ _ h => h) (Or.inl ⟨by rfl, ?_⟩) ?_ ?_
              rotate_left
              · intro w'
                go_simp
                with_reducible rfl
              rotate_left
              · simp only [Act.put, List.setIfInBounds_toArray, List.set_cons_zero, List.set_cons_succ, i64_w, i32_w]
                rfl
              refine take_ (i := 1) (N := (some 82)) (v := ?_) (a' := ?_) #[true, true, true, false, false, false, false, false, false, false, false, false, false, false, false, false, false, false, false, false, false, false, false, false, false, false, false, false, false, false, false, false, false, false, false, false, false] rfl rfl (by kernel_rfl) (fun _ _ _ h => h) (Or.inl ⟨by rfl, ?_⟩) hHeld ?_ ?_
              rotate_left
              · rintro w' ⟨s0, s1, s2, s3⟩
                go_simp
                with_reducible rfl
              rotate_left
              · simp only [Act.put, List.setIfInBounds_toArray, List.set_cons_zero, List.set_cons_succ, i64_w, i32_w]
                rfl
              refine pure_ (i := 3) (N := (some 84)) (v := ?_) (a' := ?_) #[true, true, true, true, false, false, false, false, false, false, false, false, false, false, false, false, false, false, false, false, false, false, false, false, false, false, false, false, false, false, false, false, false, false, false, false, false] rfl rfl (by kernel_rfl) (fun _ _ _ h => h) (Or.inl ⟨by rfl, ?_⟩) ?_ ?_
              rotate_left
              · intro w'
                go_simp
                with_reducible rfl
              rotate_left
              · simp only [Act.put, List.setIfInBounds_toArray, List.set_cons_zero, List.set_cons_succ, i64_w, i32_w]
                rfl
              refine take_ (i := 4) (N := (some 85)) (v := ?_) (a' := ?_) #[true, true, true, true, true, false, false, false, false, false, false, false, false, false, false, false, false, false, false, false, false, false, false, false, false, false, false, false, false, false, false, false, false, false, false, false, false] rfl rfl (by kernel_rfl) (fun _ _ _ h => h) (Or.inl ⟨by rfl, ?_⟩) hHeld ?_ ?_
              rotate_left
              · rintro w' ⟨s0, s1, s2, s3⟩
                go_simp
                with_reducible rfl
              rotate_left
              · simp only [Act.put, List.setIfInBounds_toArray, List.set_cons_zero, List.set_cons_succ, i64_w, i32_w]
                rfl
              refine one_ (i := 5) (N := (some 86)) #[true, true, true, true, true, true, false, false, false, false, false, false, false, false, false, false, false, false, false, false, false, false, false, false, false, false, false, false, false, false, false, false, false, false, false, false, false] rfl rfl (by kernel_rfl) (by decide) (fun K hK => ?_)
              refine goes_ Try.func14 (by kernel_rfl) rfl #[.agg #[.int .i64 b.f0, .slice A1 b.f1.length c1]] (by rfl) rfl rfl (by (try simp only [List.map_toArray, List.map_cons, List.map_nil]); first | done | rfl) ?_
              refine (block_Block_Ok.calls 2000000 _ _ _ _ true _ HBC.out e4 HBO.out).mono ?_
              rintro y w5 ⟨rfl, hb5⟩
              have HB5 := Aside0.mk (below_step (below_drew (Below.refl wr.heap.size wr)) hb5)
              have k0 := pw_cell_below HB5.out y0
              have k1 := pw_cell_below HB5.out y1
              have k2 := pw_cell_below HB5.out y2
              have k3 := pw_cell_below HB5.out y3
              clear hb5
              refine ⟨_, rfl, ?_⟩
              refine hK.out _ _ ⟨k0, k1, k2, k3⟩ (fun hHeld => ?_)
              clear hK K
              refine norm_ (a' := ?_) ?_ ?_
              rotate_left
              · show Act.put _ (some 86) _ = _
                simp only [Act.put, List.setIfInBounds_toArray, List.set_cons_zero, List.set_cons_succ, i64_w, i32_w]
                rfl
              refine pure_ (i := 6) (N := (some 87)) (v := ?_) (a' := ?_) #[true, true, true, true, true, true, true, false, false, false, false, false, false, false, false, false, false, false, false, false, false, false, false, false, false, false, false, false, false, false, false, false, false, false, false, false, false] rfl rfl (by kernel_rfl) (fun _ _ _ h => h) (Or.inl ⟨by rfl, ?_⟩) ?_ ?_
              rotate_left
              · intro w'
                go_simp
                with_reducible rfl
              rotate_left
              · simp only [Act.put, List.setIfInBounds_toArray, List.set_cons_zero, List.set_cons_succ, i64_w, i32_w]
                rfl
              refine pure_ (i := 7) (N := (some 88)) (v := ?_) (a' := ?_) #[true, true, true, true, true, true, true, true, false, false, false, false, false, false, false, false, false, false, false, false, false, false, false, false, false, false, false, false, false, false, false, false, false, false, false, false, false] rfl rfl (by kernel_rfl) (fun _ _ _ h => h) (Or.inl ⟨by rfl, ?_⟩) ?_ ?_
              rotate_left
              · intro w'
                go_simp
                with_reducible rfl
              rotate_left
              · simp only [Act.put, List.setIfInBounds_toArray, List.set_cons_zero, List.set_cons_succ, i64_w, i32_w]
                rfl
              refine pure_ (i := 8) (N := (some 89)) (v := ?_) (a' := ?_) #[true, true, true, true, true, true, true, true, true, false, false, false, false, false, false, false, false, false, false, false, false, false, false, false, false, false, false, false, false, false, false, false, false, false, false, false, false] rfl rfl (by kernel_rfl) (fun _ _ _ h => h) (Or.inl ⟨by rfl, ?_⟩) ?_ ?_
              rotate_left
              · intro w'
                go_simp
                with_reducible rfl
              rotate_left
              · simp only [Act.put, List.setIfInBounds_toArray, List.set_cons_zero, List.set_cons_succ, i64_w, i32_w]
                rfl
              refine pure_ (i := 10) (N := (some 91)) (v := ?_) (a' := ?_) #[true, true, true, true, true, true, true, true, true, false, true, false, false, false, false, false, false, false, false, false, false, false, false, false, false, false, false, false, false, false, false, false, false, false, false, false, false] rfl rfl (by kernel_rfl) (fun _ _ _ h => h) (Or.inl ⟨by rfl, ?_⟩) ?_ ?_
              rotate_left
              · intro w'
                go_simp
                with_reducible rfl
              rotate_left
              · simp only [Act.put, List.setIfInBounds_toArray, List.set_cons_zero, List.set_cons_succ, i64_w, i32_w]
                rfl
              refine take_ (i := 9) (N := (some 90)) (v := ?_) (a' := ?_) #[true, true, true, true, true, true, true, true, true, true, true, false, false, false, false, false, false, false, false, false, false, false, false, false, false, false, false, false, false, false, false, false, false, false, false, false, false] rfl rfl (by kernel_rfl) (fun _ _ _ h => h) (Or.inl ⟨by rfl, ?_⟩) hHeld ?_ ?_
              rotate_left
              · rintro w' ⟨s0, s1, s2, s3⟩
                go_simp
                with_reducible rfl
              rotate_left
              · simp only [Act.put, List.setIfInBounds_toArray, List.set_cons_zero, List.set_cons_succ, i64_w, i32_w]
                rfl
              refine pure_ (i := 11) (N := (some 92)) (v := ?_) (a' := ?_) #[true, true, true, true, true, true, true, true, true, true, true, true, false, false, false, false, false, false, false, false, false, false, false, false, false, false, false, false, false, false, false, false, false, false, false, false, false] rfl rfl (by kernel_rfl) (fun _ _ _ h => h) (Or.inl ⟨by rfl, ?_⟩) ?_ ?_
              rotate_left
              · intro w'
                go_simp
                with_reducible rfl
              rotate_left
              · simp only [Act.put, List.setIfInBounds_toArray, List.set_cons_zero, List.set_cons_succ, i64_w, i32_w]
                rfl
              refine pure_ (i := 12) (N := (some 93)) (v := ?_) (a' := ?_) #[true, true, true, true, true, true, true, true, true, true, true, true, true, false, false, false, false, false, false, false, false, false, false, false, false, false, false, false, false, false, false, false, false, false, false, false, false] rfl rfl (by kernel_rfl) (fun _ _ _ h => h) (Or.inl ⟨by rfl, ?_⟩) ?_ ?_
              rotate_left
              · intro w'
                go_simp
                with_reducible rfl
              rotate_left
              · simp only [Act.put, List.setIfInBounds_toArray, List.set_cons_zero, List.set_cons_succ, i64_w, i32_w]
                rfl
              refine take_ (i := 13) (N := (some 94)) (v := ?_) (a' := ?_) #[true, true, true, true, true, true, true, true, true, true, true, true, true, true, false, false, false, false, false, false, false, false, false, false, false, false, false, false, false, false, false, false, false, false, false, false, false] rfl rfl (by kernel_rfl) (fun _ _ _ h => h) (Or.inl ⟨by rfl, ?_⟩) hHeld ?_ ?_
              rotate_left
              · rintro w' ⟨s0, s1, s2, s3⟩
                go_simp
                with_reducible rfl
              rotate_left
              · simp only [Act.put, List.setIfInBounds_toArray, List.set_cons_zero, List.set_cons_succ, i64_w, i32_w]
                rfl
              refine pure_ (i := 14) (N := (some 95)) (v := ?_) (a' := ?_) #[true, true, true, true, true, true, true, true, true, true, true, true, true, true, true, false, false, false, false, false, false, false, false, false, false, false, false, false, false, false, false, false, false, false, false, false, false] rfl rfl (by kernel_rfl) (fun _ _ _ h => h) (Or.inl ⟨by rfl, ?_⟩) ?_ ?_
              rotate_left
              · intro w'
                go_simp
                with_reducible rfl
              rotate_left
              · simp only [Act.put, List.setIfInBounds_toArray, List.set_cons_zero, List.set_cons_succ, i64_w, i32_w]
                rfl
              refine pure_ (i := 15) (N := (some 96)) (v := ?_) (a' := ?_) #[true, true, true, true, true, true, true, true, true, true, true, true, true, true, true, true, false, false, false, false, false, false, false, false, false, false, false, false, false, false, false, false, false, false, false, false, false] rfl rfl (by kernel_rfl) (fun _ _ _ h => h) (Or.inl ⟨by rfl, ?_⟩) ?_ ?_
              rotate_left
              · intro w'
                go_simp
                with_reducible rfl
              rotate_left
              · simp only [Act.put, List.setIfInBounds_toArray, List.set_cons_zero, List.set_cons_succ, i64_w, i32_w]
                rfl
              refine pure_ (i := 16) (N := (some 97)) (v := ?_) (a' := ?_) #[true, true, true, true, true, true, true, true, true, true, true, true, true, true, true, true, true, false, false, false, false, false, false, false, false, false, false, false, false, false, false, false, false, false, false, false, false] rfl rfl (by kernel_rfl) (fun _ _ _ h => h) (Or.inl ⟨by rfl, ?_⟩) ?_ ?_
              rotate_left
              · intro w'
                go_simp
                with_reducible rfl
              rotate_left
              · simp only [Act.put, List.setIfInBounds_toArray, List.set_cons_zero, List.set_cons_succ, i64_w, i32_w]
                rfl
              refine pure_ (i := 17) (N := (some 98)) (v := ?_) (a' := ?_) #[true, true, true, true, true, true, true, true, true, true, true, true, true, true, true, true, true, true, false, false, false, false, false, false, false, false, false, false, false, false, false, false, false, false, false, false, false] rfl rfl (by kernel_rfl) (fun _ _ _ h => h) (Or.inl ⟨by rfl, ?_⟩) ?_ ?_
              rotate_left
              · intro w'
                go_simp
                with_reducible rfl
              rotate_left
              · simp only [Act.put, List.setIfInBounds_toArray, List.set_cons_zero, List.set_cons_succ, i64_w, i32_w]
                rfl
              refine pure_ (i := 18) (N := (some 99)) (v := ?_) (a' := ?_) #[true, true, true, true, true, true, true, true, true, true, true, true, true, true, true, true, true, true, true, false, false, false, false, false, false, false, false, false, false, false, false, false, false, false, false, false, false] rfl rfl (by kernel_rfl) (fun _ _ _ h => h) (Or.inl ⟨by rfl, ?_⟩) ?_ ?_
              rotate_left
              · intro w'
                go_simp
                with_reducible rfl
              rotate_left
              · simp only [Act.put, List.setIfInBounds_toArray, List.set_cons_zero, List.set_cons_succ, i64_w, i32_w]
                rfl
              refine pure_ (i := 19) (N := (some 100)) (v := ?_) (a' := ?_) #[true, true, true, true, true, true, true, true, true, true, true, true, true, true, true, true, true, true, true, true, false, false, false, false, false, false, false, false, false, false, false, false, false, false, false, false, false] rfl rfl (by kernel_rfl) (fun _ _ _ h => h) (Or.inl ⟨by rfl, ?_⟩) ?_ ?_
              rotate_left
              · intro w'
                go_simp
                with_reducible rfl
              rotate_left
              · simp only [Act.put, List.setIfInBounds_toArray, List.set_cons_zero, List.set_cons_succ, i64_w, i32_w]
                rfl
              refine pure_ (i := 20) (N := (some 101)) (v := ?_) (a' := ?_) #[true, true, true, true, true, true, true, true, true, true, true, true, true, true, true, true, true, true, true, true, true, false, false, false, false, false, false, false, false, false, false, false, false, false, false, false, false] rfl rfl (by kernel_rfl) (fun _ _ _ h => h) (Or.inl ⟨by rfl, ?_⟩) ?_ ?_
              rotate_left
              · intro w'
                go_simp
                with_reducible rfl
              rotate_left
              · simp only [Act.put, List.setIfInBounds_toArray, List.set_cons_zero, List.set_cons_succ, i64_w, i32_w]
                rfl
              refine pure_ (i := 21) (N := (some 102)) (v := ?_) (a' := ?_) #[true, true, true, true, true, true, true, true, true, true, true, true, true, true, true, true, true, true, true, true, true, true, false, false, false, false, false, false, false, false, false, false, false, false, false, false, false] rfl rfl (by kernel_rfl) (fun _ _ _ h => h) (Or.inl ⟨by rfl, ?_⟩) ?_ ?_
              rotate_left
              · intro w'
                go_simp
                with_reducible rfl
              rotate_left
              · simp only [Act.put, List.setIfInBounds_toArray, List.set_cons_zero, List.set_cons_succ, i64_w, i32_w]
                rfl
              refine pure_ (i := 23) (N := (some 104)) (v := ?_) (a' := ?_) #[true, true, true, true, true, true, true, true, true, true, true, true, true, true, true, true, true, true, true, true, true, true, false, true, false, false, false, false, false, false, false, false, false, false, false, false, false] rfl rfl (by kernel_rfl) (fun _ _ _ h => h) (Or.inl ⟨by rfl, ?_⟩) ?_ ?_
              rotate_left
              · intro w'
                go_simp
                with_reducible rfl
              rotate_left
              · simp only [Act.put, List.setIfInBounds_toArray, List.set_cons_zero, List.set_cons_succ, i64_w, i32_w]
                rfl
              refine pure_ (i := 27) (N := (some 108)) (v := ?_) (a' := ?_) #[true, true, true, true, true, true, true, true, true, true, true, true, true, true, true, true, true, true, true, true, true, true, false, true, false, false, false, true, false, false, false, false, false, false, false, false, false] rfl rfl (by kernel_rfl) (fun _ _ _ h => h) (Or.inl ⟨by rfl, ?_⟩) ?_ ?_
              rotate_left
              · intro w'
                go_simp
                with_reducible rfl
              rotate_left
              · simp only [Act.put, List.setIfInBounds_toArray, List.set_cons_zero, List.set_cons_succ, i64_w, i32_w]
                rfl
              refine pure_ (i := 29) (N := (some 110)) (v := ?_) (a' := ?_) #[true, true, true, true, true, true, true, true, true, true, true, true, true, true, true, true, true, true, true, true, true, true, false, true, false, false, false, true, false, true, false, false, false, false, false, false, false] rfl rfl (by kernel_rfl) (fun _ _ _ h => h) (Or.inl ⟨by rfl, ?_⟩) ?_ ?_
              rotate_left
              · intro w'
                go_simp
                with_reducible rfl
              rotate_left
              · simp only [Act.put, List.setIfInBounds_toArray, List.set_cons_zero, List.set_cons_succ, i64_w, i32_w]
                rfl
              refine pure_ (i := 30) (N := (some 111)) (v := ?_) (a' := ?_) #[true, true, true, true, true, true, true, true, true, true, true, true, true, true, true, true, true, true, true, true, true, true, false, true, false, false, false, true, false, true, true, false, false, false, false, false, false] rfl rfl (by kernel_rfl) (fun _ _ _ h => h) (Or.inl ⟨by rfl, ?_⟩) ?_ ?_
              rotate_left
              · intro w'
                go_simp
                with_reducible rfl
              rotate_left
              · simp only [Act.put, List.setIfInBounds_toArray, List.set_cons_zero, List.set_cons_succ, i64_w, i32_w]
                rfl
              refine take_ (i := 22) (N := (some 103)) (v := ?_) (a' := ?_) #[true, true, true, true, true, true, true, true, true, true, true, true, true, true, true, true, true, true, true, true, true, true, true, true, false, false, false, true, false, true, true, false, false, false, false, false, false] rfl rfl (by kernel_rfl) (fun _ _ _ h => h) (Or.inl ⟨by rfl, ?_⟩) hHeld ?_ ?_
              rotate_left
              · rintro w' ⟨s0, s1, s2, s3⟩
                go_simp
                with_reducible rfl
              rotate_left
              · simp only [Act.put, List.setIfInBounds_toArray, List.set_cons_zero, List.set_cons_succ, i64_w, i32_w]
                rfl
              refine pure_ (i := 24) (N := (some 105)) (v := ?_) (a' := ?_) #[true, true, true, true, true, true, true, true, true, true, true, true, true, true, true, true, true, true, true, true, true, true, true, true, true, false, false, true, false, true, true, false, false, false, false, false, false] rfl rfl (by kernel_rfl) (fun _ _ _ h => h) (Or.inl ⟨by rfl, ?_⟩) ?_ ?_
              rotate_left
              · intro w'
                go_simp
                with_reducible rfl
              rotate_left
              · simp only [Act.put, List.setIfInBounds_toArray, List.set_cons_zero, List.set_cons_succ, i64_w, i32_w]
                rfl
              refine pure_ (i := 25) (N := (some 106)) (v := ?_) (a' := ?_) #[true, true, true, true, true, true, true, true, true, true, true, true, true, true, true, true, true, true, true, true, true, true, true, true, true, true, false, true, false, true, true, false, false, false, false, false, false] rfl rfl (by kernel_rfl) (fun _ _ _ h => h) (Or.inl ⟨by rfl, ?_⟩) ?_ ?_
              rotate_left
              · intro w'
                go_simp
                with_reducible rfl
              rotate_left
              · simp only [Act.put, List.setIfInBounds_toArray, List.set_cons_zero, List.set_cons_succ, i64_w, i32_w]
                rfl
              refine take_ (i := 26) (N := (some 107)) (v := ?_) (a' := ?_) #[true, true, true, true, true, true, true, true, true, true, true, true, true, true, true, true, true, true, true, true, true, true, true, true, true, true, true, true, false, true, true, false, false, false, false, false, false] rfl rfl (by kernel_rfl) (fun _ _ _ h => h) (Or.inl ⟨by rfl, ?_⟩) hHeld ?_ ?_
              rotate_left
              · rintro w' ⟨s0, s1, s2, s3⟩
                go_simp
                with_reducible rfl
              rotate_left
              · simp only [Act.put, List.setIfInBounds_toArray, List.set_cons_zero, List.set_cons_succ, i64_w, i32_w]
                rfl
              refine take_ (i := 28) (N := (some 109)) (v := ?_) (a' := ?_) #[true, true, true, true, true, true, true, true, true, true, true, true, true, true, true, true, true, true, true, true, true, true, true, true, true, true, true, true, true, true, true, false, false, false, false, false, false] rfl rfl (by kernel_rfl) (fun _ _ _ h => h) (Or.inl ⟨by rfl, ?_⟩) hHeld ?_ ?_
              rotate_left
              · rintro w' ⟨s0, s1, s2, s3⟩
                go_simp
                with_reducible rfl
              rotate_left
              · simp only [Act.put, List.setIfInBounds_toArray, List.set_cons_zero, List.set_cons_succ, i64_w, i32_w]
                rfl
              refine pure_ (i := 31) (N := (some 112)) (v := ?_) (a' := ?_) #[true, true, true, true, true, true, true, true, true, true, true, true, true, true, true, true, true, true, true, true, true, true, true, true, true, true, true, true, true, true, true, true, false, false, false, false, false] rfl rfl (by kernel_rfl) (fun _ _ _ h => h) (Or.inl ⟨by rfl, ?_⟩) ?_ ?_
              rotate_left
              · intro w'
                go_simp
                with_reducible rfl
              rotate_left
              · simp only [Act.put, List.setIfInBounds_toArray, List.set_cons_zero, List.set_cons_succ, i64_w, i32_w]
                rfl
              refine pure_ (i := 32) (N := (some 113)) (v := ?_) (a' := ?_) #[true, true, true, true, true, true, true, true, true, true, true, true, true, true, true, true, true, true, true, true, true, true, true, true, true, true, true, true, true, true, true, true, true, false, false, false, false] rfl rfl (by kernel_rfl) (fun _ _ _ h => h) (Or.inl ⟨by rfl, ?_⟩) ?_ ?_
              rotate_left
              · intro w'
                go_simp
                with_reducible rfl
              rotate_left
              · simp only [Act.put, List.setIfInBounds_toArray, List.set_cons_zero, List.set_cons_succ, i64_w, i32_w]
                rfl
              refine take_ (i := 33) (N := (some 114)) (v := ?_) (a' := ?_) #[true, true, true, true, true, true, true, true, true, true, true, true, true, true, true, true, true, true, true, true, true, true, true, true, true, true, true, true, true, true, true, true, true, true, false, false, false] rfl rfl (by kernel_rfl) (fun _ _ _ h => h) (Or.inl ⟨by rfl, ?_⟩) hHeld ?_ ?_
              rotate_left
              · rintro w' ⟨s0, s1, s2, s3⟩
                go_simp
                with_reducible rfl
              rotate_left
              · simp only [Act.put, List.setIfInBounds_toArray, List.set_cons_zero, List.set_cons_succ, i64_w, i32_w]
                rfl
              refine pure_ (i := 34) (N := (some 115)) (v := ?_) (a' := ?_) #[true, true, true, true, true, true, true, true, true, true, true, true, true, true, true, true, true, true, true, true, true, true, true, true, true, true, true, true, true, true, true, true, true, true, true, false, false] rfl rfl (by kernel_rfl) (fun _ _ _ h => h) (Or.inl ⟨by rfl, ?_⟩) ?_ ?_
              rotate_left
              · intro w'
                go_simp
                with_reducible rfl
              rotate_left
              · simp only [Act.put, List.setIfInBounds_toArray, List.set_cons_zero, List.set_cons_succ, i64_w, i32_w]
                rfl
              refine pure_ (i := 35) (N := (some 116)) (v := ?_) (a' := ?_) #[true, true, true, true, true, true, true, true, true, true, true, true, true, true, true, true, true, true, true, true, true, true, true, true, true, true, true, true, true, true, true, true, true, true, true, true, false] rfl rfl (by kernel_rfl) (fun _ _ _ h => h) (Or.inl ⟨by rfl, ?_⟩) ?_ ?_
              rotate_left
              · intro w'
                go_simp
                with_reducible rfl
              rotate_left
              · simp only [Act.put, List.setIfInBounds_toArray, List.set_cons_zero, List.set_cons_succ, i64_w, i32_w]
                rfl
              refine pure_ (i := 36) (N := (some 117)) (v := ?_) (a' := ?_) #[true, true, true, true, true, true, true, true, true, true, true, true, true, true, true, true, true, true, true, true, true, true, true, true, true, true, true, true, true, true, true, true, true, true, true, true, true] rfl rfl (by kernel_rfl) (fun _ _ _ h => h) (Or.inl ⟨by rfl, ?_⟩) ?_ ?_
              rotate_left
              · intro w'
                go_simp
                with_reducible rfl
              rotate_left
              · simp only [Act.put, List.setIfInBounds_toArray, List.set_cons_zero, List.set_cons_succ, i64_w, i32_w]
                rfl
              refine done_ (by kernel_rfl) ?_
              go_wp2
              go_roundw
              case rel => exact ⟨j + 1 + 1, by go_num, by omega, ⟨below_step HB.out HB5.out⟩⟩
              case measure => simp [intOf]; omega
          · obtain rfl : kb = cs.length := by omega
            have HKE := Aside0.mk (HK6.out.below HB.out)
            have HBE := Aside0.mk (show i + 1 ≤ l.length ∧ i + 1 ≤ 40 ∧ ver' ≤ i + 1 ∧ q ≤ 9 * (i + 1) ∧ cs.length ≤ i + 1 by have h1 := HVB.out; have h2 := HMM.out; omega)
            have HLE := Aside0.mk (show (xs ++ es).length = q by rw [List.length_append, HLX.out, HES.out]; omega)
            clear x0 x1
            go_wp2
            go_roundw
            case rel => exact ⟨i + 1, q, ver', v4, cs, xs ++ es, rfl, by go_num, HBE.out.1, HBE.out.2.1, HBE.out.2.2.1, HBE.out.2.2.2.1, HLE, ⟨HG4.out.1, HBE.out.2.2.2.2⟩, HKE⟩
            case measure => simp [intOf]; omega
  · have HKL := Aside0.mk (show bs.length ≤ 1000 ∧ es.length ≤ 1000000 from ⟨by omega, by omega⟩)
    have hes := HES.out
    have HES2 := Aside0.mk hes.symm
    have key : ∃ d1 d2 : Bool, decide (i < l.length) = d1 ∧ decide ((i : Int) < 40) = d2 ∧ (d1 && d2) = false := ⟨_, _, rfl, rfl, by
     by_cases h1 : i < l.length
     · have : ¬ i < 40 := fun h => hlt ⟨h1, h⟩
       simp [h1]; omega
     · simp [h1]⟩
    by_cases h1 : i < l.length
    · have h2 : decide ((i : Int) < 40) = false := decide_eq_false (by have : ¬ i < 40 := fun h => hlt ⟨h1, h⟩; omega)
      clear hlt key hes
      go_wp2_with fail
      refine (slen_ok HK.out HKL.out.1 HKL.out.2).mono ?_
      rintro y w7 ⟨rfl, hb7⟩
      rw [HES.out]
      have HB7 := Aside0.mk (HK.out.below hb7).bel
      clear hb7
      go_wp2_with fail
      refine (awake8 _).mono ?_
      rintro y w8 ⟨rfl, hb8⟩
      have HB8 := Aside0.mk (below_step HB7.out hb8)
      clear hb8
      go_wp2
      go_ret
      exact ⟨rfl, HB8.out⟩
    · clear hlt key hes
      go_wp2_with fail
      refine (slen_ok HK.out HKL.out.1 HKL.out.2).mono ?_
      rintro y w7 ⟨rfl, hb7⟩
      rw [HES.out]
      have HB7 := Aside0.mk (HK.out.below hb7).bel
      clear hb7
      go_wp2_with fail
      refine (awake8 _).mono ?_
      rintro y w8 ⟨rfl, hb8⟩
      have HB8 := Aside0.mk (below_step HB7.out hb8)
      clear hb8
      go_wp2
      go_ret
      exact ⟨rfl, HB8.out⟩
end Go.Proofs.Ytijancajlmneeaa.V
