-- a text of this work, without what this claim doesn't use (wip/shake.py)
import Derived.Test.YthghkglkifeagaaGreatPVPvergerref51
import Derived.Test.YthghkglkifeagaaGreatPVRQ3
import Derived.Test.YthghkglkifeagaaGreatPVPvergerref5
import Derived.Test.YthghkglkifeagaaGreatPVSh7
set_option maxRecDepth 100000
set_option maxHeartbeats 8000000
set_option linter.unusedVariables false
set_option linter.unusedSimpArgs false
namespace Go.Proofs.YthghkglkifeagaaGreat.V
open Go.RowKit Go.Proofs.YthghkglkifeagaaGreatW.PrintWords Go.Proofs.YthghkglkifeagaaGreatW.PrintLast Go.Proofs.YthghkglkifeagaaGreatW.PrintMore
@[reducible] def okN (ok : Nat → Prop) (n k : Nat) : Prop := ok k ∨ n ≤ k
theorem RQ.up {w w1 : World} {ok : Nat → Prop} {r : Rq} {a : Qa} (h : RQ w ok r a) (hb : Below w.heap.size w w1) : RQ w1 (okN ok w.heap.size) r a := (h.below hb).mono (fun k hk _ => .inl hk)
theorem RQ.fresh {w w1 : World} {ok : Nat → Prop} {r : Rq} {a : Qa} (h : RQ w ok r a) {n : Nat} {v : Value} {l : List E} (hv : Kd.R k33 33 w1 n (fun _ => True) v l) (hn : w.heap.size ≤ n) : Kd.V k33 33 w1 0 (rowOk (okN ok w.heap.size) r) v l :=
 V_to (Kd.R_V (Kd.R_bound hv) (base' := 0)) (fun k hk => by
  have h1 := h.lt
  have h2 : n ≤ k := hk.2.1
  exact ⟨.inr (by omega), by omega, by omega, by omega⟩)
theorem RQ.fresh2 {w w1 : World} {ok : Nat → Prop} {r : Rq} {a : Qa} (h : RQ w ok r a) {n : Nat} {v : Value} {l : List E} (hv : Kd.R k33 33 w1 n (fun _ => True) v l) (hn : w.heap.size ≤ n) (hok : ∀ k, w.heap.size ≤ k → ok k) : Kd.V k33 33 w1 0 (rowOk ok r) v l :=
 V_to (Kd.R_V (Kd.R_bound hv) (base' := 0)) (fun k hk => by
  have h1 := h.lt
  have h2 : n ≤ k := hk.2.1
  exact ⟨hok k (by omega), by omega, by omega, by omega⟩)
def Sits (r r' : Rq) : Prop := r'.pr = r.pr ∧ r'.gs = r.gs ∧ r'.gl = r.gl
def SetPost (w : World) (ok : Nat → Prop) (r : Rq) (a' : Qa) (w' : World) : Prop := ∃ r', Sits r r' ∧ RQ w' (okN ok w.heap.size) r' a' ∧ Chg (inR r) w w'
theorem c3b {l : List E} (h : a0d l) (e : E) : putE l e = a0b (e :: l) := by rw [← a9w, a2m h]
theorem a4f {a : Qa} {t : Nat} {e : E} (h : a.S[t]? = some (some e)) : a0k a t = some e := by unfold a0k; rw [h]; rfl
theorem a8r {a : Qa} {t : Nat} (h : a.S[t]? = some none) : a0k a t = none := by unfold a0k; rw [h]; rfl
theorem a9o {w : World} {ok : Nat → Prop} {r : Rq} {a : Qa} (h : RQ w ok r a) (hn : sumL a.loc + a.sh.length ≤ 900) (t : Nat) (ht : t < a.S.length) (hso : a0d (a.loc.getD t [])) :
 Calls Tryz.prog 19 #[.pointer (some ⟨r.pr, 0, none⟩), .int .i64 t] w fun e w' => e = .returned (.bool (a0k a t).isSome) ∧ SetPost w ok r (a0j a t) w' := by
 have hp1 := h.c1
 have hp2 := h.c2
 have hla := h.la
 have HS := za h
 have hl := h.few
 have HC := za hn
 have HSO := za hso
 obtain ⟨o, ho⟩ : ∃ o, a.S[t]? = some o := ⟨_, List.getElem?_eq_getElem ht⟩
 have i0 : (0 : Int) ≤ (t : Int) := by omega
 have i1 : (t : Int) < (a.S.length : Int) := by omega
 have HO := za ho
 clear h hso
 cases o with
 | none =>
  obtain ⟨c0, c1, c2, c3⟩ := HS.out.slot0 ho
  clear ho
  rw [a8r HO.out, a6i (a8r HO.out)]
  go_enter Tryz.func19, Tryz.ntmps19
  go_wp2_with fail
  refine (a3b HS.out (t : Int) true (decide_eq_true ⟨by omega, by omega⟩)).mono ?_
  rintro e w1 ⟨rfl, rfl⟩
  go_wp2
  go_ret
  exact ⟨rfl, r, ⟨rfl, rfl, rfl⟩, HS.out.mono (fun k hk _ => .inl hk), Chg.of (Below.refl _ _)⟩
 | some e =>
  obtain ⟨c0, c1, c2, c3⟩ := HS.out.slot1 ho
  clear ho
  obtain ⟨l, hl2⟩ : ∃ l, l = a.loc.getD t [] := ⟨_, rfl⟩
  have HAT := za (HS.out.at_ ht)
  rw [← hl2] at HAT HSO
  obtain ⟨A6, c6, x1, hc6, hf6, _⟩ := HS.out.locc HAT.out
  have HF := za hf6
  have HLL := za (show l.length ≤ 900 by rw [hl2]; have := a2x a.loc t; have := HC.out; omega)
  have HT := za (b3o 1000000 l e.f0 e.f1 (by have := HLL.out; omega) (by have := HLL.out; omega))
  have HL2 := za hl2
  clear hf6 hl2
  go_enter Tryz.func19, Tryz.ntmps19
  go_wp2_with fail
  refine (a3b HS.out (t : Int) true (decide_eq_true ⟨by omega, by omega⟩)).mono ?_
  rintro x w1 ⟨rfl, rfl⟩
  go_upto_region 3 with fail
  go_cut [] (fun wx => ∃ v5 : Value, Aside0 (RQ wx (okN ok w.heap.size) { r with vs := r.vs.set t v5 } { a with loc := a.loc.set t (a0b (e :: l)) } ∧ Chg (inR r) w wx))
  case first =>
   clear c0 c3
   refine start_ (n := 23) (S := fun w' => w'.cell? ⟨r.pr, 1, none⟩ = some (.slice (some ⟨r.gs, 0, none⟩) a.S.length a.S.length) ∧ w'.cell? ⟨r.pr, 2, none⟩ = some (.slice (some ⟨r.gl, 0, none⟩) a.S.length a.S.length) ∧ w'.cell? ⟨r.gl, t, none⟩ = some (.slice A6 l.length c6) ∧ w'.cell? ⟨r.gs, t * 4 + 1, none⟩ = some (.int .u64 e.f0) ∧ w'.cell? ⟨r.gs, t * 4 + 2, none⟩ = some (.int .i64 e.f1) ∧ w'.frozen? ⟨r.gl, t, none⟩ = false) (ds := [22]) #[xX, xX, xX, xX, xX, xX, xX, xX, xX, xX, xX, xX, xX, xX, xX, xX, xX, xX, xX, xX, xX, xX, xX] (by kernel_rfl) rfl rfl ⟨hp1, hp2, x1, c1, c2, vk HS.out.ll t⟩ (fun hHeld => ?_)
   refine pU (i := 0) (N := (some 20)) (bA 23 1) (by kernel_rfl) rfl ?_
   refine pU (i := 1) (N := (some 21)) (bA 23 3) (by kernel_rfl) rfl ?_
   refine pU (i := 2) (N := (some 22)) (bA 23 7) (by kernel_rfl) rfl ?_
   refine pU (i := 4) (N := (some 24)) (bA 23 23) (by kernel_rfl) rfl ?_
   refine pU (i := 5) (N := (some 25)) (bA 23 55) (by kernel_rfl) rfl ?_
   refine pU (i := 6) (N := (some 26)) (bA 23 119) (by kernel_rfl) rfl ?_
   refine pU (i := 7) (N := (some 27)) (bA 23 247) (by kernel_rfl) rfl ?_
   refine pU (i := 9) (N := (some 29)) (bA 23 759) (by kernel_rfl) rfl ?_
   refine pU (i := 12) (N := (some 32)) (bA 23 4855) (by kernel_rfl) rfl ?_
   refine pU (i := 13) (N := (some 33)) (bA 23 13047) (by kernel_rfl) rfl ?_
   refine pU (i := 14) (N := (some 34)) (bA 23 29431) (by kernel_rfl) rfl ?_
   refine pU (i := 16) (N := (some 36)) (bA 23 94967) (by kernel_rfl) rfl ?_
   refine tU (i := 3) (N := (some 23)) (bA 23 94975) (by kernel_rfl) rfl hHeld (by (constructor; (rintro w' ⟨s0, s1, s2, s3, s4, s5⟩; go_simp; (with_reducible rfl)); (simp only [Act.put, ua, ub, uc, ue, uf]; rfl))) ?_
   refine tU (i := 8) (N := (some 28)) (bA 23 95231) (by kernel_rfl) rfl hHeld (by (constructor; (rintro w' ⟨s0, s1, s2, s3, s4, s5⟩; go_simp; (with_reducible rfl)); (simp only [Act.put, ua, ub, uc, ue, uf]; rfl))) ?_
   refine pU (i := 10) (N := (some 30)) (bA 23 96255) (by kernel_rfl) rfl ?_
   refine tU (i := 11) (N := (some 31)) (bA 23 98303) (by kernel_rfl) rfl hHeld (by (constructor; (rintro w' ⟨s0, s1, s2, s3, s4, s5⟩; go_simp; (with_reducible rfl)); (simp only [Act.put, ua, ub, uc, ue, uf]; rfl))) ?_
   refine tU (i := 15) (N := (some 35)) (bA 23 131071) (by kernel_rfl) rfl hHeld (by (constructor; (rintro w' ⟨s0, s1, s2, s3, s4, s5⟩; go_simp; (with_reducible rfl)); (simp only [Act.put, ua, ub, uc, ue, uf]; rfl))) ?_
   refine pU (i := 17) (N := (some 37)) (bA 23 262143) (by kernel_rfl) rfl ?_
   refine pU (i := 18) (N := (some 38)) (bA 23 524287) (by kernel_rfl) rfl ?_
   refine tU (i := 19) (N := (some 39)) (bA 23 1048575) (by kernel_rfl) rfl hHeld (by (constructor; (rintro w' ⟨s0, s1, s2, s3, s4, s5⟩; go_simp; (with_reducible rfl)); (simp only [Act.put, ua, ub, uc, ue, uf]; rfl))) ?_
   refine one_ (i := 20) (N := (some 40)) (bA 23 2097151) rfl rfl (by kernel_rfl) (by decide) (fun K hK => ?_)
   refine goes_ Tryz.func55 (by kernel_rfl) rfl #[.slice A6 l.length c6, .agg #[.int .u64 e.f0, .int .i64 e.f1]] (by rfl) rfl rfl (by (try simp only [ug, ul, uo]); first | done | rfl) ?_
   refine (vergerref5_Put.calls 1000000 A6 c6 l e.f0 e.f1 _ w.drew (vt (Kd.F_now HF.out) (vu (Below.refl _ _))) hc6 HT.out).mono ?_
   rintro q w3 ⟨v3, rfl, hv3, hb3⟩
   obtain ⟨A3, c3, rfl⟩ := Kd.R_slice hv3
   have HB3 := za (show Below w.heap.size w w3 from below_then (vu (Below.refl w.heap.size w)) (ut _) hb3)
   have HV3 := za hv3
   clear hv3 hb3
   refine ⟨_, rfl, ?_⟩
   refine hK.out _ _ ⟨uy HB3.out hp1, uy HB3.out hp2, uy HB3.out x1, uy HB3.out c1, uy HB3.out c2, vk (vo HS.out.ll HB3.out) t⟩ (fun hHeld => ?_)
   clear hK K
   refine vv (a' := ?_) ?_ ?_; rotate_left; (· (show Act.put _ (some 40) _ = _); (simp only [Act.put, ua, ub, uc, ue, uf]); rfl)
   refine pU (i := 21) (N := (some 41)) (bA 23 4194303) (by kernel_rfl) rfl ?_
   refine last_ (i := 22) (N := none) (bA 23 8388607) rfl rfl (by kernel_rfl) (by decide) (fun K hK => ?_)
   go_simp
   refine hK.out _ _ ?_
   clear hK K
   (try simp only [Act.put, ua, ub, uc, ue, uf])
   refine done_ (by kernel_rfl) ?_
   go_wp2_with fail
   go_meet
   exact ⟨_, ⟨by rw [← c3b HSO.out]; exact (HS.out.up HB3.out).setLoc (HS.out.fresh HV3.out (ut _)), (Chg.of HB3.out).setCell (.inr (.inr rfl)) _⟩⟩
  case rest =>
   obtain ⟨v5, HR5⟩ := hcut
   have k1 : wc.cell? ⟨r.pr, 1, none⟩ = some (.slice (some ⟨r.gs, 0, none⟩) a.S.length a.S.length) := HR5.out.1.c1
   obtain ⟨z0, z1, z2, z3⟩ : wc.cell? ⟨r.gs, t * 4, none⟩ = some (.bool true) ∧ wc.cell? ⟨r.gs, t * 4 + 1, none⟩ = some (.int .u64 e.f0) ∧ wc.cell? ⟨r.gs, t * 4 + 2, none⟩ = some (.int .i64 e.f1) ∧ wc.cell? ⟨r.gs, t * 4 + 3, none⟩ = some (.int .u64 0) := HR5.out.1.slot1 HO.out
   have f0 : wc.frozen? ⟨r.gs, t * 4, none⟩ = false := vk HR5.out.1.sl _
   have f1 : wc.frozen? ⟨r.gs, t * 4 + 1, none⟩ = false := vk HR5.out.1.sl _
   have f2 : wc.frozen? ⟨r.gs, t * 4 + 2, none⟩ = false := vk HR5.out.1.sl _
   have f3 : wc.frozen? ⟨r.gs, t * 4 + 3, none⟩ = false := vk HR5.out.1.sl _
   go_upto_region 4 with fail
   go_cut [] (fun wx => Aside0 (RQ wx (okN ok w.heap.size) { r with vs := r.vs.set t v5 } { a with S := a.S.set t none, loc := a.loc.set t (a0b (e :: l)) } ∧ Chg (inR r) w wx))
   case first =>
    go_wp2_with fail
    go_meet
    exact ⟨HR5.out.1.setSlot (o := none) ht rfl, (((HR5.out.2.setCell (.inr (.inl rfl)) _).setCell (.inr (.inl rfl)) _).setCell (.inr (.inl rfl)) _).setCell (.inr (.inl rfl)) _⟩
   case rest =>
    have HR4 := hcut
    clear HR5 hcut k1 z0 z1 z2 z3 f0 f1 f2 f3
    obtain ⟨L, hL⟩ : ∃ L, L = a0b (e :: l) := ⟨_, rfl⟩
    rw [← hL] at HR4
    have HLN := za (show L.length = l.length + 1 by rw [hL, a0i]; rfl)
    have HL := za hL
    clear hL
    have HAL := za (show (a.loc.set t L)[t]? = some L from List.getElem?_set_self (by omega))
    obtain ⟨A7, c7, kx, hc7, hf7, _⟩ := HR4.out.1.locc (t := t) (l := L) HAL.out
    have kx : wc.cell? ⟨r.gl, t, none⟩ = some (.slice A7 L.length c7) := kx
    have k0 : wc.cell? ⟨r.pr, 0, none⟩ = some (.int .i64 a.k) := HR4.out.1.c0
    have k2 : wc.cell? ⟨r.pr, 2, none⟩ = some (.slice (some ⟨r.gl, 0, none⟩) a.S.length a.S.length) := by
     have := HR4.out.1.c2
     simpa using this
    have HF4 := za (Kd.F_now hf7)
    clear hf7
    go_upto_region 5 with fail
    go_cut [61] (fun s wx => s = .bool (decide ((a.k : Int) < (L.length : Int))) ∧ Aside0 (Below wc.heap.size wc wx) ∧ Aside0 (RQ wx (okN ok w.heap.size) { r with vs := r.vs.set t v5 } { a with S := a.S.set t none, loc := a.loc.set t L } ∧ Chg (inR r) w wx))
    case first =>
     refine start_ (n := 13) (S := fun w' => w'.cell? ⟨r.pr, 0, none⟩ = some (.int .i64 a.k) ∧ w'.cell? ⟨r.pr, 2, none⟩ = some (.slice (some ⟨r.gl, 0, none⟩) a.S.length a.S.length) ∧ w'.cell? ⟨r.gl, t, none⟩ = some (.slice A7 L.length c7)) (ds := []) #[xX, xX, xX, xX, xX, xX, xX, xX, xX, xX, xX, xX, xX] (by kernel_rfl) rfl rfl ⟨k0, k2, kx⟩ (fun hHeld => ?_)
     refine pU (i := 0) (N := (some 49)) (bA 13 1) (by kernel_rfl) rfl ?_
     refine pU (i := 1) (N := (some 50)) (bA 13 3) (by kernel_rfl) rfl ?_
     refine pU (i := 2) (N := (some 51)) (bA 13 7) (by kernel_rfl) rfl ?_
     refine pU (i := 4) (N := (some 53)) (bA 13 23) (by kernel_rfl) rfl ?_
     refine pU (i := 8) (N := (some 57)) (bA 13 279) (by kernel_rfl) rfl ?_
     refine pU (i := 9) (N := (some 58)) (bA 13 791) (by kernel_rfl) rfl ?_
     refine pU (i := 10) (N := (some 59)) (bA 13 1815) (by kernel_rfl) rfl ?_
     refine tU (i := 3) (N := (some 52)) (bA 13 1823) (by kernel_rfl) rfl hHeld (by (constructor; (rintro w' ⟨s0, s1, s2⟩; go_simp; (with_reducible rfl)); (simp only [Act.put, ua, ub, uc, ue, uf]; rfl))) ?_
     refine pU (i := 5) (N := (some 54)) (bA 13 1855) (by kernel_rfl) rfl ?_
     refine tU (i := 6) (N := (some 55)) (bA 13 1919) (by kernel_rfl) rfl hHeld (by (constructor; (rintro w' ⟨s0, s1, s2⟩; go_simp; (with_reducible rfl)); (simp only [Act.put, ua, ub, uc, ue, uf]; rfl))) ?_
     refine pU (i := 7) (N := (some 56)) (bA 13 2047) (by kernel_rfl) rfl ?_
     refine tU (i := 11) (N := (some 60)) (bA 13 4095) (by kernel_rfl) rfl hHeld (by (constructor; (rintro w' ⟨s0, s1, s2⟩; go_simp; (with_reducible rfl)); (simp only [Act.put, ua, ub, uc, ue, uf]; rfl))) ?_
     refine pU (i := 12) (N := (some 61)) (bA 13 8191) (by kernel_rfl) rfl ?_
     refine done_ (by kernel_rfl) ?_
     go_wp2_with fail
     go_meet
     exact ⟨by first | rfl | simp, ⟨vu (Below.refl _ _)⟩, ⟨HR4.out.1.below (vu (Below.refl _ _)), HR4.out.2.trans (Chg.of (vu (Below.refl _ _)))⟩⟩
    case rest =>
     obtain ⟨rfl, HB5, HR⟩ := hcut
     clear HR4 kx k0 k2 HF4 hc7
     obtain ⟨A7, c7, kx, hc7, hf7, _⟩ := HR.out.1.locc (t := t) (l := L) HAL.out
     have kx : wc.cell? ⟨r.gl, t, none⟩ = some (.slice A7 L.length c7) := kx
     have k2 : wc.cell? ⟨r.pr, 2, none⟩ = some (.slice (some ⟨r.gl, 0, none⟩) a.S.length a.S.length) := by
      have := HR.out.1.c2
      simpa using this
     have HF7 := za hf7
     clear hf7
     by_cases hk : L.length ≤ a.k
     · have d0 : decide ((a.k : Int) < (L.length : Int)) = false := decide_eq_false (by omega)
       rw [d0]
       have HE := za (show a0j a t = { a with S := a.S.set t none, loc := a.loc.set t L } by
        unfold a0j a1t
        rw [a4f HO.out]
        show (if _ then _ else _) = _
        rw [← HL2.out, if_pos (by have := HLN.out; omega), HL.out])
       have HR6 := za HR.out
       clear hk d0
       go_wp2
       go_ret
       exact ⟨by rw [a4f HO.out]; rfl, by rw [HE.out]; exact ⟨{ r with vs := r.vs.set t v5 }, ⟨rfl, rfl, rfl⟩, HR6.out.1, HR6.out.2⟩⟩
     · have d0 : decide ((a.k : Int) < (L.length : Int)) = true := decide_eq_true (by omega)
       rw [d0]
       have HE := za (show a0j a t = ⟨a.k, a.S.set t none, (a.loc.set t L).set t [], a0b (a.sh ++ L)⟩ by
        unfold a0j a1t
        rw [a4f HO.out]
        show (if _ then _ else _) = _
        rw [← HL2.out, if_neg (by have := HLN.out; omega), List.set_set, HL.out]
        congr 1
        exact a1y List.perm_append_comm)
       obtain ⟨As, cs, ks, hs2, hs3, _⟩ := HR.out.1.shc
       have ks : wc.cell? ⟨r.pr, 3, none⟩ = some (.slice As a.sh.length cs) := ks
       have hs2 : a.sh.length ≤ cs := hs2
       have HFS := za hs3
       have HTM := za (a8k 1000000 a.sh L (by have := HLN.out; have := HLL.out; have := HC.out; omega) (by have := HLN.out; have := HLL.out; have := HC.out; omega))
       clear hk d0 hs3
       go_upto_region 6 with fail
       go_cut [] (fun wx => ∃ v8, Aside0 (RQ wx (okN ok w.heap.size) { r with vs := r.vs.set t v5, v := v8 } { a with S := a.S.set t none, loc := a.loc.set t L, sh := a0b (a.sh ++ L) } ∧ Chg (inR r) w wx))
       case first =>
        refine start_ (n := 16) (S := fun w' => w'.cell? ⟨r.pr, 2, none⟩ = some (.slice (some ⟨r.gl, 0, none⟩) a.S.length a.S.length) ∧ w'.cell? ⟨r.pr, 3, none⟩ = some (.slice As a.sh.length cs) ∧ w'.cell? ⟨r.gl, t, none⟩ = some (.slice A7 L.length c7) ∧ w'.frozen? ⟨r.pr, 3, none⟩ = false) (ds := [15]) #[xX, xX, xX, xX, xX, xX, xX, xX, xX, xX, xX, xX, xX, xX, xX, xX] (by kernel_rfl) rfl rfl ⟨k2, ks, kx, vk HR.out.1.hd 3⟩ (fun hHeld => ?_)
        refine pU (i := 0) (N := (some 62)) (bA 16 1) (by kernel_rfl) rfl ?_
        refine pU (i := 1) (N := (some 63)) (bA 16 3) (by kernel_rfl) rfl ?_
        refine pU (i := 2) (N := (some 64)) (bA 16 7) (by kernel_rfl) rfl ?_
        refine pU (i := 3) (N := (some 65)) (bA 16 15) (by kernel_rfl) rfl ?_
        refine pU (i := 5) (N := (some 67)) (bA 16 47) (by kernel_rfl) rfl ?_
        refine pU (i := 6) (N := (some 68)) (bA 16 111) (by kernel_rfl) rfl ?_
        refine pU (i := 7) (N := (some 69)) (bA 16 239) (by kernel_rfl) rfl ?_
        refine pU (i := 9) (N := (some 71)) (bA 16 751) (by kernel_rfl) rfl ?_
        refine tU (i := 4) (N := (some 66)) (bA 16 767) (by kernel_rfl) rfl hHeld (by (constructor; (rintro w' ⟨s0, s1, s2, s3⟩; go_simp; (with_reducible rfl)); (simp only [Act.put, ua, ub, uc, ue, uf]; rfl))) ?_
        refine tU (i := 8) (N := (some 70)) (bA 16 1023) (by kernel_rfl) rfl hHeld (by (constructor; (rintro w' ⟨s0, s1, s2, s3⟩; go_simp; (with_reducible rfl)); (simp only [Act.put, ua, ub, uc, ue, uf]; rfl))) ?_
        refine pU (i := 10) (N := (some 72)) (bA 16 2047) (by kernel_rfl) rfl ?_
        refine tU (i := 11) (N := (some 73)) (bA 16 4095) (by kernel_rfl) rfl hHeld (by (constructor; (rintro w' ⟨s0, s1, s2, s3⟩; go_simp; (with_reducible rfl)); (simp only [Act.put, ua, ub, uc, ue, uf]; rfl))) ?_
        refine one_ (i := 12) (N := (some 74)) (bA 16 8191) rfl rfl (by kernel_rfl) (by decide) (fun K hK => ?_)
        refine goes_ Tryz.func56 (by kernel_rfl) rfl #[.slice As a.sh.length cs, .slice A7 L.length c7] (by rfl) rfl rfl (by (try simp only [ug, ul, uo]); first | done | rfl) ?_
        refine (vergerref5_Merge.calls 1000000 As cs a.sh A7 c7 L _ wc.drew (vt (Kd.F_now HFS.out) (vu (Below.refl _ _))) hs2 (vt (Kd.F_now HF7.out) (vu (Below.refl _ _))) hc7 HTM.out).mono ?_
        rintro q w8 ⟨v8, rfl, hv8, hb8⟩
        obtain ⟨A8, c8, rfl⟩ := Kd.R_slice hv8
        have HB8 := za (show Below wc.heap.size wc w8 from below_then (vu (Below.refl wc.heap.size wc)) (ut _) hb8)
        have HV8 := za hv8
        clear hv8 hb8
        refine ⟨_, rfl, ?_⟩
        refine hK.out _ _ ⟨uy HB8.out k2, uy HB8.out ks, uy HB8.out kx, vk (vo HR.out.1.hd HB8.out) 3⟩ (fun hHeld => ?_)
        clear hK K
        refine vv (a' := ?_) ?_ ?_; rotate_left; (· (show Act.put _ (some 74) _ = _); (simp only [Act.put, ua, ub, uc, ue, uf]); rfl)
        refine pU (i := 13) (N := (some 75)) (bA 16 16383) (by kernel_rfl) rfl ?_
        refine pU (i := 14) (N := (some 76)) (bA 16 32767) (by kernel_rfl) rfl ?_
        refine last_ (i := 15) (N := none) (bA 16 65535) rfl rfl (by kernel_rfl) (by decide) (fun K hK => ?_)
        go_simp
        refine hK.out _ _ ?_
        clear hK K
        (try simp only [Act.put, ua, ub, uc, ue, uf])
        refine done_ (by kernel_rfl) ?_
        go_wp2_with fail
        go_meet
        exact ⟨_, ⟨(HR.out.1.below HB8.out).setSh (HR.out.1.fresh2 HV8.out (ut _) (fun k hk => .inr (Nat.le_trans HR.out.2.size hk))), (HR.out.2.trans (Chg.of HB8.out)).setCell (.inl rfl) _⟩⟩
       case rest =>
        obtain ⟨v8, HR8⟩ := hcut
        clear kx k2 ks HFS HF7 hc7 hs2 HR
        obtain ⟨A9, c9, kx, _, _, _⟩ := HR8.out.1.locc (t := t) (l := L) HAL.out
        have kx : wc.cell? ⟨r.gl, t, none⟩ = some (.slice A9 L.length c9) := kx
        have k2 : wc.cell? ⟨r.pr, 2, none⟩ = some (.slice (some ⟨r.gl, 0, none⟩) a.S.length a.S.length) := by
         have := HR8.out.1.c2
         simpa using this
        have f0 : wc.frozen? ⟨r.gl, t, none⟩ = false := vk HR8.out.1.ll t
        go_wp2
        go_ret
        exact ⟨by rw [a4f HO.out]; rfl, by rw [HE.out]; exact ⟨{ r with vs := (r.vs.set t v5).set t (.slice none 0 0), v := v8 }, ⟨rfl, rfl, rfl⟩, HR8.out.1.setLoc (t := t) (v := .slice none 0 0) (l := []) (Kd.V_nil _ _ _ _ _), HR8.out.2.setCell (.inr (.inr rfl)) _⟩⟩
theorem SetPost.from {w w1 w' : World} {ok : Nat → Prop} {r : Rq} {a' : Qa} (hb : Below w.heap.size w w1) (h : SetPost w1 ok r a' w') : SetPost w ok r a' w' := by
 obtain ⟨r', h1, h2, h3⟩ := h
 exact ⟨r', h1, h2.mono (fun k hk _ => hk.imp id (fun h => Nat.le_trans hb.size h)), (Chg.of hb).trans h3⟩
theorem b6w (a : Qa) (t : Nat) (e : E) : (a1t a t e).S = a.S.set t none := by unfold a1t; split <;> rfl
theorem b1z {a : Qa} {t : Nat} (ht : t < a.S.length) : (a0j a t).S = a.S.set t none := by
 obtain ⟨o, ho⟩ : ∃ o, a.S[t]? = some o := ⟨_, List.getElem?_eq_getElem ht⟩
 cases o with
 | none =>
  rw [a6i (a8r ho)]
  obtain ⟨h1, h2⟩ := List.getElem?_eq_some_iff.1 ho
  rw [← h2, List.set_getElem_self]
 | some e =>
  unfold a0j
  rw [a4f ho]
  exact b6w a t e
theorem r_put {w : World} {ok : Nat → Prop} {r : Rq} {a : Qa} (h : RQ w ok r a) (hn : sumL a.loc + a.sh.length ≤ 900) (t : Nat) (ht : t < a.S.length) (hso : a0d (a.loc.getD t [])) (e : E) :
 Calls Tryz.prog 18 #[.pointer (some ⟨r.pr, 0, none⟩), .int .i64 t, .agg #[.int .u64 e.f0, .int .i64 e.f1]] w fun x w' => x = .returned (.bool true) ∧ SetPost w ok r (putQ a t e) w' := by
 have HB := za (below_alloc (Below.refl w.heap.size w) (.cells #[.int .u64 e.f0, .int .i64 e.f1] 33))
 have HS := za (h.below HB.out)
 have HX := za (heap_alloc_new w (.cells #[.int .u64 e.f0, .int .i64 e.f1] 33))
 have HLT := za h.lt
 have HSO := za hso
 clear h hso
 have i0 : (0 : Int) ≤ (t : Int) := by omega
 have i1 : (t : Int) < (a.S.length : Int) := by omega
 go_enter Tryz.func18, Tryz.ntmps18
 go_wp2_with fail
 refine (a3b HS.out (t : Int) true (decide_eq_true ⟨by omega, by omega⟩)).mono ?_
 rintro x w1 ⟨rfl, rfl⟩
 go_wp2_with fail
 refine (a9o HS.out hn t ht HSO.out).mono ?_
 rintro x w2 ⟨rfl, r2, ⟨p1, p2, p3⟩, h2, hc2⟩
 have H2 := za h2
 have HC2 := za hc2
 have hlS : (a0j a t).S.length = a.S.length := by rw [b1z ht, List.length_set]
 have k1 : w2.cell? ⟨r.pr, 1, none⟩ = some (.slice (some ⟨r.gs, 0, none⟩) a.S.length a.S.length) := by
  have := h2.c1
  rw [p1, p2, hlS] at this
  exact this
 obtain ⟨z0, z1, z2, z3⟩ := h2.slot0 (t := t) (by rw [b1z ht]; exact List.getElem?_set_self ht)
 have f0 := blk_frozen h2.sl (t * 4)
 have f1 := blk_frozen h2.sl (t * 4 + 1)
 have f2 := blk_frozen h2.sl (t * 4 + 2)
 have f3 := blk_frozen h2.sl (t * 4 + 3)
 rw [p2] at z0 z1 z2 z3 f0 f1 f2 f3
 have hx : w2.heap[w.heap.size]? = some (.cells #[.int .u64 e.f0, .int .i64 e.f1] 33 (0, 0)) := (hc2.block w.heap.size (by simp) (by have := HLT.out; rintro (h | h | h) <;> omega)).trans HX.out
 have x0 : w2.cell? ⟨w.heap.size, 0, none⟩ = some (.int .u64 e.f0) := (blk_cell hx 0).trans rfl
 have x1 : w2.cell? ⟨w.heap.size, 1, none⟩ = some (.int .i64 e.f1) := (blk_cell hx 1).trans rfl
 have HP := za (show SetPost w ok r (putQ a t e) ((((w2.drew.setCell ⟨r.gs, t * 4, none⟩ (.bool true)).setCell ⟨r.gs, t * 4 + 1, none⟩ (.int .u64 e.f0)).setCell ⟨r.gs, t * 4 + 2, none⟩ (.int .i64 e.f1)).setCell ⟨r.gs, t * 4 + 3, none⟩ (.int .u64 0)) from by
  refine SetPost.from HB.out ⟨r2, ⟨p1, p2, p3⟩, ?_, ?_⟩
  · have := (H2.out.below (below_drew (Below.refl _ _))).setSlot (t := t) (o := some e) (by rw [hlS]; exact ht) rfl
    rw [p2] at this
    exact this
  · exact ((((HC2.out.trans (Chg.of (below_drew (Below.refl _ _)))).setCell (.inr (.inl rfl)) _).setCell (.inr (.inl rfl)) _).setCell (.inr (.inl rfl)) _).setCell (.inr (.inl rfl)) _)
 clear h2 hc2 hx
 go_upto_region 4 with fail
 go_region_with fail
 all_goals (go_wp2)
 all_goals (go_ret)
 all_goals exact ⟨rfl, HP.out⟩
theorem b3u {w : World} {ok : Nat → Prop} {r : Rq} {a : Qa} (h : RQ w ok r a) (t : Int) (ht : t < 0 ∨ (a.S.length : Int) ≤ t) (e : E) :
 Calls Tryz.prog 18 #[.pointer (some ⟨r.pr, 0, none⟩), .int .i64 t, .agg #[.int .u64 e.f0, .int .i64 e.f1]] w fun x w' => x = .returned (.bool false) ∧ Below w.heap.size w w' := by
 have HB := za (below_alloc (Below.refl w.heap.size w) (.cells #[.int .u64 e.f0, .int .i64 e.f1] 33))
 have HS := za (h.below HB.out)
 clear h
 have HT := za ht
 clear ht
 go_enter Tryz.func18, Tryz.ntmps18
 go_wp2_with fail
 refine (a3b HS.out t false (decide_eq_false (by have := HT.out; omega))).mono ?_
 rintro x w1 ⟨rfl, rfl⟩
 go_wp2
 go_ret
 exact ⟨rfl, HB.out⟩
theorem b8t {w : World} {ok : Nat → Prop} {r : Rq} {a : Qa} (h : RQ w ok r a) (t : Int) (ht : t < 0 ∨ (a.S.length : Int) ≤ t) :
 Calls Tryz.prog 19 #[.pointer (some ⟨r.pr, 0, none⟩), .int .i64 t] w fun x w' => x = .returned (.bool false) ∧ Below w.heap.size w w' := by
 have HS := za h
 have HT := za ht
 clear h ht
 go_enter Tryz.func19, Tryz.ntmps19
 go_wp2_with fail
 refine (a3b HS.out t false (decide_eq_false (by have := HT.out; omega))).mono ?_
 rintro x w1 ⟨rfl, rfl⟩
 go_wp2
 go_ret
 exact ⟨rfl, Below.refl _ _⟩
theorem c0d (l : List E) (id : Int) (hl : l.length < 1000000000) : ∀ (n k i : Nat) (acc : List E), n + i = l.length → n < k → acc.length ≤ i →
 vergerref5_Without.l0 k l id acc (i : Int) = some (acc ++ (l.drop i).filter (fun e => decide (e.f1 ≠ id))) := by
 intro n
 induction n with
 | zero =>
  intro k i acc h hk ha
  obtain ⟨k, rfl⟩ : ∃ q, k = q + 1 := ⟨k - 1, by omega⟩
  simp only [vergerref5_Without.l0]
  rw [if_neg (by omega), List.drop_eq_nil_of_le (by omega)]
  simp
 | succ n ih =>
  intro k i acc h hk ha
  obtain ⟨k, rfl⟩ : ∃ q, k = q + 1 := ⟨k - 1, by omega⟩
  have hlt : i < l.length := by omega
  simp only [vergerref5_Without.l0]
  have hrd : a0a l (i : Int) = l[i] := by unfold a0a; rw [Int.toNat_natCast, List.getD_eq_getElem?_getD, List.getElem?_eq_getElem hlt]; rfl
  have hw : wrap64 ((i : Int) + 1) = ((i + 1 : Nat) : Int) := by unfold wrap64; omega
  rw [if_pos (by omega), if_pos (by omega), hrd, hw, List.drop_eq_getElem_cons hlt]
  by_cases he : (l[i]).f1 = id
  · rw [if_pos he, ih k (i + 1) acc (by omega) (by omega) (by omega), List.filter_cons, if_neg (by simp [he])]
  · rw [if_neg he, if_pos (by omega), ih k (i + 1) _ (by omega) (by omega) (by rw [List.length_append]; simp; omega), List.filter_cons, if_pos (by simp [he])]
    simp
theorem a8u (k : Nat) (l : List E) (id : Int) (hl : l.length < 1000000000) (hk : l.length < k) : vergerref5_Without.f k l id = some (a0h id l) := by
 unfold vergerref5_Without.f a0h
 have := c0d l id hl l.length k 0 [] (by omega) hk (by simp)
 rw [List.drop_zero, List.nil_append] at this
 refine Eq.trans (by simpa using this) (congrArg some (congrArg (List.filter · l) (funext fun e => ?_)))
 unfold isId
 by_cases h : e.f1 = id <;> simp [h]
theorem c0a {a : Qa} {id : Int} (hla : a.loc.length = a.S.length) : (a0p a id).1 ≤ 3 ∧ ((a0p a id).1 = 1 → (a0p a id).2 < a.S.length) ∧ ((a0p a id).1 = 2 → (a0p a id).2 < a.S.length) := by
 unfold a0p
 split
 · rename_i t ht
   have := (List.findIdx?_eq_some_iff_getElem.1 ht).1
   exact ⟨by omega, fun _ => this, fun h => by omega⟩
 · split
   · rename_i t ht
     have := (List.findIdx?_eq_some_iff_getElem.1 ht).1
     exact ⟨by omega, fun h => by omega, fun _ => by show t < _; omega⟩
   · split <;> exact ⟨by omega, fun h => by omega, fun h => by omega⟩
def takeW (a : Qa) (id : Int) : Bool × Qa := if (a0p a id).1 = 0 then (false, a) else (true, outQ a id (a0p a id))
theorem r_take {w : World} {ok : Nat → Prop} {r : Rq} {a : Qa} (h : RQ w ok r a) (hn : sumL a.loc + a.sh.length ≤ 900) (id : Int) :
 Calls Tryz.prog 24 #[.pointer (some ⟨r.pr, 0, none⟩), .int .i64 id] w fun x w' => x = .returned (.bool (takeW a id).1) ∧ SetPost w ok r (takeW a id).2 w' := by
 have hla := h.la
 have HS := za h
 have HC := za hn
 obtain ⟨g3, g1, g2⟩ := c0a (id := id) hla
 obtain ⟨p, hp⟩ : ∃ p, a0p a id = p := ⟨_, rfl⟩
 obtain ⟨p, t⟩ := p
 have HP := za hp
 rw [hp] at g3 g1 g2
 clear h hp
 go_enter Tryz.func24, Tryz.ntmps24
 go_wp2_with fail
 refine (b1w HS.out hn id).mono ?_
 rintro x w1 ⟨rfl, hb1⟩
 rw [HP.out]
 unfold a0t
 have HB1 := za hb1
 have HS1 := za (HS.out.below hb1)
 have hp1 := HS1.out.c1
 have hp2 := HS1.out.c2
 clear hb1
 have hc : p = 0 ∨ p = 1 ∨ p = 2 ∨ p = 3 := by have : p ≤ 3 := g3; omega
 rcases hc with rfl | rfl | rfl | rfl
 · have HE := za (show takeW a id = (false, a) by unfold takeW; rw [HP.out]; rfl)
   go_wp2
   go_ret
   exact ⟨by rw [HE.out]; rfl, by rw [HE.out]; exact ⟨r, ⟨rfl, rfl, rfl⟩, HS.out.up HB1.out, Chg.of HB1.out⟩⟩
 · have ht : t < a.S.length := g1 rfl
   have HE := za (show takeW a id = (true, { a with S := a.S.set t none }) by unfold takeW; rw [HP.out]; rfl)
   have i0 : (0 : Int) ≤ (t : Int) := by omega
   have i1 : (t : Int) < (a.S.length : Int) := by omega
   obtain ⟨o, ho⟩ : ∃ o, a.S[t]? = some o := ⟨_, List.getElem?_eq_getElem ht⟩
   obtain ⟨x, y, z, u, eo⟩ : ∃ x y z u, encR o = [x, y, z, u] := by cases o <;> exact ⟨_, _, _, _, rfl⟩
   obtain ⟨z0, z1, z2, z3⟩ := HS1.out.slots ho
   rw [eo] at z0 z1 z2 z3
   have z0 : w1.cell? ⟨r.gs, t * 4, none⟩ = some x := z0
   have z1 : w1.cell? ⟨r.gs, t * 4 + 1, none⟩ = some y := z1
   have z2 : w1.cell? ⟨r.gs, t * 4 + 2, none⟩ = some z := z2
   have z3 : w1.cell? ⟨r.gs, t * 4 + 3, none⟩ = some u := z3
   have f0 := vk HS1.out.sl (t * 4)
   have f1 := vk HS1.out.sl (t * 4 + 1)
   have f2 := vk HS1.out.sl (t * 4 + 2)
   have f3 := vk HS1.out.sl (t * 4 + 3)
   have HT := za ht
   clear ho eo g1 g2 g3 ht
   go_wp2
   go_ret
   exact ⟨by rw [HE.out]; rfl, by rw [HE.out]; exact ⟨r, ⟨rfl, rfl, rfl⟩, (HS.out.up HB1.out).setSlot (o := none) HT.out rfl, ((((Chg.of HB1.out).setCell (.inr (.inl rfl)) _).setCell (.inr (.inl rfl)) _).setCell (.inr (.inl rfl)) _).setCell (.inr (.inl rfl)) _⟩⟩
 · have ht : t < a.S.length := g2 rfl
   have HE := za (show takeW a id = (true, { a with loc := a.loc.set t (a0h id (a.loc.getD t [])) }) by unfold takeW; rw [HP.out]; rfl)
   have i0 : (0 : Int) ≤ (t : Int) := by omega
   have i1 : (t : Int) < (a.S.length : Int) := by omega
   obtain ⟨l, hl2⟩ : ∃ l, l = a.loc.getD t [] := ⟨_, rfl⟩
   have HAT := za (HS.out.at_ ht)
   rw [← hl2] at HAT HE
   obtain ⟨A6, c6, x1, hc6, hf6, _⟩ := HS1.out.locc HAT.out
   have HF := za hf6
   have HT := za (a8u 1000000 l id (by rw [hl2]; have := a2x a.loc t; have := HC.out; omega) (by rw [hl2]; have := a2x a.loc t; have := HC.out; omega))
   clear hf6 hl2 g1 g2 g3
   go_upto_region 6 with fail
   refine start_ (n := 16) (S := fun w' => w'.cell? ⟨r.pr, 2, none⟩ = some (.slice (some ⟨r.gl, 0, none⟩) a.S.length a.S.length) ∧ w'.cell? ⟨r.gl, t, none⟩ = some (.slice A6 l.length c6) ∧ w'.frozen? ⟨r.gl, t, none⟩ = false) (ds := [15]) #[xX, xX, xX, xX, xX, xX, xX, xX, xX, xX, xX, xX, xX, xX, xX, xX] (by kernel_rfl) rfl rfl ⟨hp2, x1, vk HS1.out.ll t⟩ (fun hHeld => ?_)
   refine pU (i := 0) (N := (some 25)) (bA 16 1) (by kernel_rfl) rfl ?_
   refine pU (i := 1) (N := (some 26)) (bA 16 3) (by kernel_rfl) rfl ?_
   refine pU (i := 2) (N := (some 27)) (bA 16 7) (by kernel_rfl) rfl ?_
   refine pU (i := 4) (N := (some 29)) (bA 16 23) (by kernel_rfl) rfl ?_
   refine pU (i := 5) (N := (some 30)) (bA 16 55) (by kernel_rfl) rfl ?_
   refine pU (i := 6) (N := (some 31)) (bA 16 119) (by kernel_rfl) rfl ?_
   refine pU (i := 7) (N := (some 32)) (bA 16 247) (by kernel_rfl) rfl ?_
   refine pU (i := 9) (N := (some 34)) (bA 16 759) (by kernel_rfl) rfl ?_
   refine pU (i := 12) (N := (some 37)) (bA 16 4855) (by kernel_rfl) rfl ?_
   refine tU (i := 3) (N := (some 28)) (bA 16 4863) (by kernel_rfl) rfl hHeld (by (constructor; (rintro w' ⟨s0, s1, s2⟩; go_simp; (with_reducible rfl)); (simp only [Act.put, ua, ub, uc, ue, uf]; rfl))) ?_
   refine tU (i := 8) (N := (some 33)) (bA 16 5119) (by kernel_rfl) rfl hHeld (by (constructor; (rintro w' ⟨s0, s1, s2⟩; go_simp; (with_reducible rfl)); (simp only [Act.put, ua, ub, uc, ue, uf]; rfl))) ?_
   refine pU (i := 10) (N := (some 35)) (bA 16 6143) (by kernel_rfl) rfl ?_
   refine tU (i := 11) (N := (some 36)) (bA 16 8191) (by kernel_rfl) rfl hHeld (by (constructor; (rintro w' ⟨s0, s1, s2⟩; go_simp; (with_reducible rfl)); (simp only [Act.put, ua, ub, uc, ue, uf]; rfl))) ?_
   refine one_ (i := 13) (N := (some 38)) (bA 16 16383) rfl rfl (by kernel_rfl) (by decide) (fun K hK => ?_)
   refine goes_ Tryz.func64 (by kernel_rfl) rfl #[.slice A6 l.length c6, .int .i64 id] (by rfl) rfl rfl (by (try simp only [ug, ul, uo]); first | done | rfl) ?_
   refine (vergerref5_Without.calls 1000000 A6 c6 l id _ w1.drew (vt (Kd.F_now HF.out) (vu (Below.refl _ _))) hc6 HT.out).mono ?_
   rintro q w3 ⟨v3, rfl, hv3, hb3⟩
   obtain ⟨A3, c3, rfl⟩ := Kd.R_slice hv3
   have HB3 := za (show Below w1.heap.size w1 w3 from below_then (vu (Below.refl w1.heap.size w1)) (ut _) hb3)
   have HV3 := za hv3
   clear hv3 hb3
   refine ⟨_, rfl, ?_⟩
   refine hK.out _ _ ⟨uy HB3.out hp2, uy HB3.out x1, vk (vo HS1.out.ll HB3.out) t⟩ (fun hHeld => ?_)
   clear hK K
   refine vv (a' := ?_) ?_ ?_; rotate_left; (· (show Act.put _ (some 38) _ = _); (simp only [Act.put, ua, ub, uc, ue, uf]); rfl)
   refine pU (i := 14) (N := (some 39)) (bA 16 32767) (by kernel_rfl) rfl ?_
   refine last_ (i := 15) (N := none) (bA 16 65535) rfl rfl (by kernel_rfl) (by decide) (fun K hK => ?_)
   go_simp
   refine hK.out _ _ ?_
   clear hK K
   (try simp only [Act.put, ua, ub, uc, ue, uf])
   refine done_ (by kernel_rfl) ?_
   go_wp2
   go_ret
   exact ⟨by rw [HE.out]; rfl, by rw [HE.out]; exact SetPost.from HB1.out ⟨{ r with vs := r.vs.set t (.slice A3 (a0h id l).length c3) }, ⟨rfl, rfl, rfl⟩, (HS1.out.up HB3.out).setLoc (HS1.out.fresh HV3.out (ut _)), (Chg.of HB3.out).setCell (.inr (.inr rfl)) _⟩⟩
 · have HE := za (show takeW a id = (true, { a with sh := a0h id a.sh }) by unfold takeW; rw [HP.out]; rfl)
   obtain ⟨As, cs, ks, hs2, hs3, _⟩ := HS1.out.shc
   have HF := za (Kd.F_now hs3)
   have HT := za (a8u 1000000 a.sh id (by have := HC.out; omega) (by have := HC.out; omega))
   clear hs3 g1 g2 g3
   go_wp2_with fail
   refine (vergerref5_Without.calls 1000000 As cs a.sh id _ w1 HF.out hs2 HT.out).mono ?_
   rintro q w3 ⟨v3, rfl, hv3, hb3⟩
   obtain ⟨A3, c3, rfl⟩ := Kd.R_slice hv3
   have HB3 := za hb3
   have HV3 := za hv3
   have ks := uy HB3.out ks
   have f0 := vk (vo HS1.out.hd HB3.out) 3
   clear hv3 hb3
   go_wp2
   go_ret
   exact ⟨by rw [HE.out]; rfl, by rw [HE.out]; exact SetPost.from HB1.out ⟨{ r with v := .slice A3 (a0h id a.sh).length c3 }, ⟨rfl, rfl, rfl⟩, (HS1.out.up HB3.out).setSh (HS1.out.fresh HV3.out (ut _)), (Chg.of HB3.out).setCell (.inl rfl) _⟩⟩
theorem b9h (n : Nat) (h0 : 1 ≤ n) (h1 : n ≤ 8) : madeCells #[.bool false, .int .u64 0, .int .i64 0, .int .u64 0] (n * 4) = (a0s (List.replicate n none)).toArray := by
 have : n = 1 ∨ n = 2 ∨ n = 3 ∨ n = 4 ∨ n = 5 ∨ n = 6 ∨ n = 7 ∨ n = 8 := by omega
 rcases this with rfl | rfl | rfl | rfl | rfl | rfl | rfl | rfl <;> (apply Array.ext'; simp [madeCells, Array.toList_map, Array.toList_range, List.range, List.range.loop, a0s, encR, List.replicate])
theorem b3y (n : Nat) (h0 : 1 ≤ n) (h1 : n ≤ 8) : madeCells #[.slice none 0 0] (n * 1) = (List.replicate n (Value.slice none 0 0)).toArray := by
 have : n = 1 ∨ n = 2 ∨ n = 3 ∨ n = 4 ∨ n = 5 ∨ n = 6 ∨ n = 7 ∨ n = 8 := by omega
 rcases this with rfl | rfl | rfl | rfl | rfl | rfl | rfl | rfl <;> (apply Array.ext'; simp [madeCells, Array.toList_map, Array.toList_range, List.range, List.range.loop, List.replicate])
theorem b5r : (Tryz.prog.info? 87).map (fun i => (i.zero, i.size, i.bytes)) = some (some (.agg #[.bool false, .int .u64 0, .int .i64 0, .int .u64 0]), 4, 32) := by kernel_rfl
theorem c2a : (Tryz.prog.info? 35).map (fun i => (i.zero, i.size, i.bytes)) = some (some (.slice none 0 0), 1, 24) := by kernel_rfl
theorem b4z (n : Nat) (h0 : 1 ≤ n) (h1 : n ≤ 8) (W : World) : (Instr.makeSlice 82 (.int .i64 (n : Int)) (.int .i64 (n : Int))).run Tryz.prog W = .ok (.slice (some ⟨W.heap.size, 0, none⟩) n n) (W.alloc (.cells (a0s (List.replicate n none)).toArray 87)) := by
 obtain ⟨i0, hi, hzz⟩ := Option.map_eq_some_iff.1 b5r
 simp only [Prod.mk.injEq] at hzz
 obtain ⟨hz0, hz1, hz2⟩ := hzz
 have hr := run_make (P := Tryz.prog) W 82 87 i0 _ Tryz.underlying82 hi hz0 .i64 .i64 (n : Int) (n : Int) (by omega) (by omega) (by rw [hz2]; omega) (by omega)
 simp only [Int.toNat_natCast, hz1] at hr
 rw [hr]
 show Result.ok _ (W.alloc (.cells (madeCells #[.bool false, .int .u64 0, .int .i64 0, .int .u64 0] (n * 4)) 87)) = _
 rw [b9h n h0 h1]
theorem c1q (n : Nat) (h0 : 1 ≤ n) (h1 : n ≤ 8) (W : World) : (Instr.makeSlice 83 (.int .i64 (n : Int)) (.int .i64 (n : Int))).run Tryz.prog W = .ok (.slice (some ⟨W.heap.size, 0, none⟩) n n) (W.alloc (.cells (List.replicate n (Value.slice none 0 0)).toArray 35)) := by
 obtain ⟨i0, hi, hzz⟩ := Option.map_eq_some_iff.1 c2a
 simp only [Prod.mk.injEq] at hzz
 obtain ⟨hz0, hz1, hz2⟩ := hzz
 have hr := run_make (P := Tryz.prog) W 83 35 i0 _ Tryz.underlying83 hi hz0 .i64 .i64 (n : Int) (n : Int) (by omega) (by omega) (by rw [hz2]; omega) (by omega)
 simp only [Int.toNat_natCast, hz1] at hr
 rw [hr]
 show Result.ok _ (W.alloc (.cells (madeCells #[.slice none 0 0] (n * 1)) 35)) = _
 rw [b3y n h0 h1]
theorem b0a {w w2 : World} {n k gs gl : Nat} {o : Obj} (h8 : n ≤ 8) (hb : Below w.heap.size w w2) (hs : w2.heap[gs]? = some (.cells (a0s (List.replicate n none)).toArray 87 (0, 0))) (hl : w2.heap[gl]? = some (.cells (List.replicate n (Value.slice none 0 0)).toArray 35 (0, 0)))
 (hgs : w.heap.size ≤ gs) (hgl : w.heap.size ≤ gl) (hne : gs ≠ gl) :
 RQ (w2.alloc (.cells #[.int .i64 k, .slice (some ⟨gs, 0, none⟩) n n, .slice (some ⟨gl, 0, none⟩) n n, .slice none 0 0] 85)) (fun j => w.heap.size ≤ j) ⟨w2.heap.size, gs, gl, List.replicate n (.slice none 0 0), .slice none 0 0⟩ (newA n k) ∧
  Below w.heap.size w (w2.alloc (.cells #[.int .i64 k, .slice (some ⟨gs, 0, none⟩) n n, .slice (some ⟨gl, 0, none⟩) n n, .slice none 0 0] 85)) := by
 have l1 := blk_lt hs
 have l2 := blk_lt hl
 have hb2 := hb.size
 refine ⟨⟨?_, blk_alloc hs _, blk_alloc hl _, ?_, ?_, ?_, ⟨by show w.heap.size ≤ w2.heap.size; omega, hgs, hgl⟩, ⟨by show w2.heap.size ≠ gs; omega, by show w2.heap.size ≠ gl; omega, hne⟩, ?_, Kd.V_nil _ _ _ _ _⟩, below_alloc hb _⟩
 · show (w2.alloc _).heap[w2.heap.size]? = some (Obj.cells #[.int .i64 k, .slice (some ⟨gs, 0, none⟩) (List.replicate n (none : Option E)).length (List.replicate n (none : Option E)).length, .slice (some ⟨gl, 0, none⟩) (List.replicate n (none : Option E)).length (List.replicate n (none : Option E)).length, .slice none 0 0] 85 (0, 0))
   rw [List.length_replicate]
   exact heap_alloc_new w2 _
 · show (List.replicate n (Value.slice none 0 0)).length = (List.replicate n (none : Option E)).length
   rw [List.length_replicate, List.length_replicate]
 · show (List.replicate n ([] : List E)).length = (List.replicate n (none : Option E)).length
   rw [List.length_replicate, List.length_replicate]
 · show (List.replicate n (none : Option E)).length ≤ 8
   rw [List.length_replicate]; exact h8
 · intro t v l hv hl
   have hv : (List.replicate n (Value.slice none 0 0))[t]? = some v := hv
   have hl : (List.replicate n ([] : List E))[t]? = some l := hl
   rw [List.getElem?_replicate] at hv hl
   by_cases ht : t < n
   · rw [if_pos ht] at hv hl
     injection hv with hv
     injection hl with hl
     subst hv; subst hl
     exact Kd.V_nil _ _ _ _ _
   · rw [if_neg ht] at hv
     cases hv
theorem b2x {w : World} {n k : Nat} (h8 : n ≤ 8) : RQ (((w.alloc (.cells (a0s (List.replicate n none)).toArray 87)).alloc (.cells (Array.replicate n (Value.slice none 0 0)) 35)).alloc (.cells #[.int .i64 k, .slice (some ⟨w.heap.size, 0, none⟩) n n, .slice (some ⟨w.heap.size + 1, 0, none⟩) n n, .slice none 0 0] 85)) (fun j => w.heap.size ≤ j) ⟨w.heap.size + 1 + 1, w.heap.size, w.heap.size + 1, List.replicate n (.slice none 0 0), .slice none 0 0⟩ (newA n k) ∧
 Below w.heap.size w (((w.alloc (.cells (a0s (List.replicate n none)).toArray 87)).alloc (.cells (Array.replicate n (Value.slice none 0 0)) 35)).alloc (.cells #[.int .i64 k, .slice (some ⟨w.heap.size, 0, none⟩) n n, .slice (some ⟨w.heap.size + 1, 0, none⟩) n n, .slice none 0 0] 85)) := by
 have h1 := heap_alloc_new w (.cells (a0s (List.replicate n none)).toArray 87)
 have hs1 : (w.alloc (.cells (a0s (List.replicate n none)).toArray 87)).heap.size = w.heap.size + 1 := by simp
 have h2 := heap_alloc_new (w.alloc (.cells (a0s (List.replicate n none)).toArray 87)) (.cells (Array.replicate n (Value.slice none 0 0)) 35)
 rw [hs1] at h2
 have h3 := blk_alloc h1 (.cells (Array.replicate n (Value.slice none 0 0)) 35)
 have := b0a (w := w) (n := n) (k := k) (o := .cells #[] 0) h8 (below_alloc (below_alloc (Below.refl w.heap.size w) (.cells (a0s (List.replicate n none)).toArray 87)) (.cells (Array.replicate n (Value.slice none 0 0)) 35)) h3 (by rw [List.toArray_replicate]; exact h2) (Nat.le_refl _) (by omega) (by omega)
 have hs2 : ((w.alloc (.cells (a0s (List.replicate n none)).toArray 87)).alloc (.cells (Array.replicate n (Value.slice none 0 0)) 35)).heap.size = w.heap.size + 1 + 1 := by simp
 rw [hs2] at this
 exact this
theorem b3m {w : World} {n k : Nat} (h8 : n ≤ 8) : RQ (((w.alloc (.cells (Array.replicate n (Value.slice none 0 0)) 35)).alloc (.cells (a0s (List.replicate n none)).toArray 87)).alloc (.cells #[.int .i64 k, .slice (some ⟨w.heap.size + 1, 0, none⟩) n n, .slice (some ⟨w.heap.size, 0, none⟩) n n, .slice none 0 0] 85)) (fun j => w.heap.size ≤ j) ⟨w.heap.size + 1 + 1, w.heap.size + 1, w.heap.size, List.replicate n (.slice none 0 0), .slice none 0 0⟩ (newA n k) ∧
 Below w.heap.size w (((w.alloc (.cells (Array.replicate n (Value.slice none 0 0)) 35)).alloc (.cells (a0s (List.replicate n none)).toArray 87)).alloc (.cells #[.int .i64 k, .slice (some ⟨w.heap.size + 1, 0, none⟩) n n, .slice (some ⟨w.heap.size, 0, none⟩) n n, .slice none 0 0] 85)) := by
 have h1 := heap_alloc_new w (.cells (Array.replicate n (Value.slice none 0 0)) 35)
 have hs1 : (w.alloc (.cells (Array.replicate n (Value.slice none 0 0)) 35)).heap.size = w.heap.size + 1 := by simp
 have h2 := heap_alloc_new (w.alloc (.cells (Array.replicate n (Value.slice none 0 0)) 35)) (.cells (a0s (List.replicate n none)).toArray 87)
 rw [hs1] at h2
 have h3 := blk_alloc h1 (.cells (a0s (List.replicate n none)).toArray 87)
 have := b0a (w := w) (n := n) (k := k) (o := .cells #[] 0) h8 (below_alloc (below_alloc (Below.refl w.heap.size w) (.cells (Array.replicate n (Value.slice none 0 0)) 35)) (.cells (a0s (List.replicate n none)).toArray 87)) h2 (by rw [List.toArray_replicate]; exact h3) (by omega) (Nat.le_refl _) (by omega)
 have hs2 : ((w.alloc (.cells (Array.replicate n (Value.slice none 0 0)) 35)).alloc (.cells (a0s (List.replicate n none)).toArray 87)).heap.size = w.heap.size + 1 + 1 := by simp
 rw [hs2] at this
 exact this
theorem r_new (n k : Nat) (w : World) (h0 : 1 ≤ n) (h1 : n ≤ 8) (hk : k ≤ 16) :
 Calls Tryz.prog 17 #[.int .i64 n, .int .i64 k] w fun e w' => ∃ r, e = .returned (.pointer (some ⟨r.pr, 0, none⟩)) ∧ RQ w' (fun j => w.heap.size ≤ j) r (newA n k) ∧ Below w.heap.size w w' := by
 have d0 : decide ((n : Int) < 1) = false := decide_eq_false (by omega)
 have d1 : decide (8 < (n : Int)) = false := decide_eq_false (by omega)
 have d2 : decide ((k : Int) < 0) = false := decide_eq_false (by omega)
 have d3 : decide (16 < (k : Int)) = false := decide_eq_false (by omega)
 have HM := za (b4z n h0 h1)
 have HL := za (c1q n h0 h1)
 have H8 := za h1
 have hm1 := HM.out w.drew
 have hl1 := HL.out (w.alloc (.cells (a0s (List.replicate n none)).toArray 87)).drew
 have hl2 := HL.out w.drew
 have hm2 := HM.out (w.alloc (.cells (Array.replicate n (Value.slice none 0 0)) 35)).drew
 clear h0 h1 hk
 go_enter Tryz.func17, Tryz.ntmps17
 go_upto_region 3 with fail
 go_region_with fail
 all_goals (go_wp2)
 all_goals (go_ret)
 all_goals first
  | exact ⟨⟨w.heap.size + 1 + 1, w.heap.size, w.heap.size + 1, List.replicate n (.slice none 0 0), .slice none 0 0⟩, rfl, (b2x H8.out).1.below (below_drew (Below.refl _ _)), below_drew (b2x H8.out).2⟩
  | exact ⟨⟨w.heap.size + 1 + 1, w.heap.size + 1, w.heap.size, List.replicate n (.slice none 0 0), .slice none 0 0⟩, rfl, (b3m H8.out).1.below (below_drew (Below.refl _ _)), below_drew (b3m H8.out).2⟩
theorem c1k (n k : Int) (w : World) (h : n < 1 ∨ 8 < n ∨ k < 0 ∨ 16 < k) :
 Calls Tryz.prog 17 #[.int .i64 n, .int .i64 k] w fun e w' => e = .returned (.pointer none) ∧ w = w' := by
 by_cases h0 : n < 1
 · have d0 : decide (n < 1) = true := decide_eq_true h0
   clear h
   go_enter Tryz.func17, Tryz.ntmps17
   go_wp2
   go_ret
   exact ⟨rfl, rfl⟩
 · by_cases h1 : 8 < n
   · have d0 : decide (n < 1) = false := decide_eq_false h0
     have d1 : decide (8 < n) = true := decide_eq_true h1
     clear h
     go_enter Tryz.func17, Tryz.ntmps17
     go_wp2
     go_ret
     exact ⟨rfl, rfl⟩
   · by_cases h2 : k < 0
     · clear h
       go_enter Tryz.func17, Tryz.ntmps17
       go_wp2
       go_ret
       exact ⟨rfl, rfl⟩
     · have h3 : 16 < k := by omega
       clear h
       go_enter Tryz.func17, Tryz.ntmps17
       go_wp2
       go_ret
       exact ⟨rfl, rfl⟩
end Go.Proofs.YthghkglkifeagaaGreat.V
