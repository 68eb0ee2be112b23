-- a text of this work, without what this claim doesn't use (wip/shake.py)
import Derived.Test.YtdfndglenbckhaaYVPvergerref5
import Derived.Test.YtdfndglenbckhaaYVRS5
import Derived.Deep.DeepCutAuto
import Derived.Deep.CutBlock
import Derived.Test.YtdfndglenbckhaaYVE46
set_option linter.unusedVariables false
set_option linter.unusedSimpArgs false
namespace Go.Proofs.Ytdfndglenbckhaa.V
open Go.RowKit Go.Proofs.YtdfndglenbckhaaW.PrintWords Go.Proofs.YtdfndglenbckhaaW.PrintLast Go.Proofs.YtdfndglenbckhaaW.PrintMore
structure RAdd (w wr : World) (p g : Nat) (A : Option Addr) (c : Nat) (Au : Option Addr) (cu : Nat) (x : Bk) (rs : List RBk) : Prop where
  row : Kd.V k70 70 wr 0 (fun k => k ≠ p ∧ k ≠ g) (.slice A rs.length c) rs
  box : wr.heap[g]? = some (.cells #[.int .i64 x.f0, .slice Au x.f1.length cu] 70 (0, 0))
  val : Kd.V k46 46 wr 0 (fun k => k ≠ p ∧ k ≠ g) (.slice Au x.f1.length cu) x.f1
  bel : Below w.heap.size w wr
  g4 : w.heap.size ≤ g ∧ g < wr.heap.size
  pl : p < w.heap.size
namespace RAdd
variable {w wr w1 w8 : World} {p g c cu c8 : Nat} {A Au A8 : Option Addr} {x y : Bk} {rs : List RBk}
theorem below (h : RAdd w wr p g A c Au cu x rs) (hb : Below wr.heap.size wr w1) : RAdd w w1 p g A c Au cu x rs :=
 ⟨Kd.V_below h.row hb, vw h.box hb, Kd.V_below h.val hb, below_then h.bel h.bel.size hb, ⟨h.g4.1, Nat.lt_of_lt_of_le h.g4.2 hb.size⟩, h.pl⟩
theorem c0 (h : RAdd w wr p g A c Au cu x rs) : wr.cell? ⟨g, 0, none⟩ = some (.int .i64 x.f0) := (uk h.box 0).trans rfl
theorem c1 (h : RAdd w wr p g A c Au cu x rs) : wr.cell? ⟨g, 1, none⟩ = some (.slice Au x.f1.length cu) := (uk h.box 1).trans rfl
theorem put (h : RAdd w wr p g A c Au cu x rs) (hv : Kd.V k46 46 wr 0 (fun k => k ≠ p ∧ k ≠ g) (.slice A8 y.f1.length c8) y.f1) :
 RAdd w ((wr.setCell ⟨g, 0, none⟩ (.int .i64 y.f0)).setCell ⟨g, 1, none⟩ (.slice A8 y.f1.length c8)) p g A c A8 c8 y rs :=
 ⟨Kd.V_far (Kd.V_far h.row (p := ⟨g, 0, none⟩) (fun k hk => hk.2) _) (p := ⟨g, 1, none⟩) (fun k hk => hk.2) _,
  blk_put (blk_put h.box 0 (.int .i64 y.f0) rfl) 1 (.slice A8 y.f1.length c8) rfl,
  Kd.V_far (Kd.V_far hv (p := ⟨g, 0, none⟩) (fun k hk => hk.2) _) (p := ⟨g, 1, none⟩) (fun k hk => hk.2) _,
  um (um h.bel h.g4.1) h.g4.1, ⟨h.g4.1, by simp only [World.setCell, Array.size_modify]; exact h.g4.2⟩, h.pl⟩
end RAdd
structure PAdd (x : Bk) (cs : List Bk) (rs : List RBk) (fin : List Bk) : Prop where
  rs : rs = cs.map toR
  fin : addS cs.length x cs = fin
  tot : (allB cs).length + x.f1.length ≤ 1000000
  len : cs.length ≤ 900
namespace PAdd
variable {x b : Bk} {cs fin : List Bk} {rs : List RBk} {i : Nat}
theorem n (h : PAdd x cs rs fin) : rs.length = cs.length := by rw [h.rs, List.length_map]
theorem join (h : PAdd x cs rs fin) (hf : cs.findIdx? (lvlEq x) = some i) (hb : cs[i]? = some b) : PAdd (joinB b x) (cs.eraseIdx i) (rs.take i ++ rs.drop (i + 1)) fin := by
 have hj : (joinB b x).f1.length = b.f1.length + x.f1.length := by rw [(joinB_all b x).length_eq, List.length_append]
 have he := (erase_all hb).length_eq
 rw [List.length_append] at he
 have ht := h.tot
 refine ⟨by rw [h.rs, List.eraseIdx_eq_take_drop_succ, List.map_append, List.map_take, List.map_drop], by rw [← addS_some hf hb]; exact h.fin, by omega, Nat.le_trans (List.length_eraseIdx_le _ _) h.len⟩
theorem done (h : PAdd x cs rs fin) (hf : cs.findIdx? (lvlEq x) = none) : fin.map toR = (rs.take (placeAt x cs) ++ [toR x]) ++ rs.drop (placeAt x cs) := by
 rw [← h.fin, addS_none hf, h.rs]
 unfold place
 rw [List.map_append, uu, List.map_take, List.map_drop, List.append_assoc]
 rfl
end PAdd
theorem placeAt_end {x : Bk} {cs : List Bk} {k : Nat} (hk : k ≤ placeAt x cs) (hs : cs.length ≤ k ∨ ∃ b, cs[k]? = some b ∧ lvlLt x b = true) : placeAt x cs = k := by
 have hle := placeAt_le x cs
 rcases hs with hs | ⟨b, hb, hl⟩
 · omega
 · refine Nat.le_antisymm (Nat.le_of_not_lt fun hlt => ?_) hk
   unfold placeAt at hlt
   cases hf : cs.findIdx? (lvlLt x) with
   | none =>
    have := (List.findIdx?_eq_none_iff.1 hf) b (List.mem_of_getElem? hb)
    rw [hl] at this; cases this
   | some i =>
    rw [hf] at hlt
    rw [List.findIdx?_eq_some_iff_getElem] at hf
    obtain ⟨h1, h2, h3⟩ := hf
    obtain ⟨h4, h5⟩ := List.getElem?_eq_some_iff.1 hb
    have := h3 k hlt
    rw [h5, hl] at this
    exact absurd rfl this
theorem placeAt_at {x b : Bk} {cs : List Bk} {k : Nat} (h : placeAt x cs = k) (hb : cs[k]? = some b) : b.f0 < x.f0 := by
 obtain ⟨h4, h5⟩ := List.getElem?_eq_some_iff.1 hb
 unfold placeAt at h
 cases hf : cs.findIdx? (lvlLt x) with
 | none => rw [hf] at h; dsimp only at h; omega
 | some i =>
  rw [hf] at h
  dsimp only at h
  subst h
  rw [List.findIdx?_eq_some_iff_getElem] at hf
  obtain ⟨_, h2, _⟩ := hf
  rw [h5] at h2
  exact ug h2
set_option maxHeartbeats 400000 in
theorem rs_add_nil (p : Nat) (A : Option Addr) (c : Nat) (w : World) :
 Calls Try.prog 12 #[.pointer (some ⟨p, 0, none⟩), .slice A 0 c] w fun x w' => x = .returned (.tuple #[]) ∧ w = w' := by
 go_enter Try.func12, Try.ntmps12
 go_wp2
 exact ⟨rfl, .tuple #[], by simp [results, Try.results12, go_sem], rfl, rfl⟩
set_option maxRecDepth 100000 in
set_option maxHeartbeats 8000000 in
theorem rs_add (base p : Nat) (ver : Int) (v : Value) (bs : List Bk) (A : Option Addr) (c : Nat) (l : List E) (w : World) (h : RShAt w base p ver v (bs.map toR)) (hv : 0 ≤ ver ∧ ver ≤ 1000000) (hr : k46.C w A l.length l) (hc : l.length ≤ c) (hne : l ≠ []) (hl : bs.length ≤ 900) (ha : (allB bs).length + l.length ≤ 1000000) :
 Calls Try.prog 12 #[.pointer (some ⟨p, 0, none⟩), .slice A l.length c] w fun x w' => x = .returned (.tuple #[]) ∧ ∃ v', RShAt w' base p (ver + 1) v' ((addL l bs).map toR) ∧ w.grownBy w' (some p) := by
 have HR := Aside0.mk hr
 have HPA := Aside0.mk (show PAdd (mkB l) bs (bs.map toR) (addL l bs) from ⟨rfl, rfl, by rw [show (mkB l).f1.length = l.length from sortE_length l]; exact ha, hl⟩)
 obtain ⟨rs, hrs⟩ : ∃ rs, rs = bs.map toR := ⟨_, rfl⟩
 rw [← hrs] at h HPA
 have HS := Aside0.mk h
 have HW := Aside0.mk h.lt
 obtain ⟨A0, c0, rfl, hc0, hF0⟩ := h.reads
 have HF := Aside0.mk (Kd.F_bound hF0)
 have hpos : 0 < l.length := by
  cases l with
  | nil => exact absurd rfl hne
  | cons _ _ => simp
 have HOF := Aside0.mk (show vergerref5_Of.f 3000000 l = some ((mkB l).f0, (mkB l).f1) from refof_mkR _ _ (by omega) (by omega))
 have d0 : ((l.length : Int) == 0) = false := by rw [beq_eq_false_iff_ne]; omega
 have d1 : decide (l.length = 0) = false := decide_eq_false (by omega)
 have d2 : decide (l = []) = false := decide_eq_false hne
 have HLS := Aside0.mk (show rs.length ≤ 900 by rw [hrs, List.length_map]; exact hl)
 have HV := Aside0.mk hv
 clear h hF0 ha hrs hl hr hpos hne
 go_enter Try.func12, Try.ntmps12
 go_wp2_with fail
 refine (vergerref5_Of.calls 3000000 A c l _ _ _ HR.out hc HOF.out).mono ?_
 rintro x w1 ⟨v1, rfl, hv1, hb1⟩
 obtain ⟨A1, c1, rfl⟩ := Kd.R_slice hv1
 have HV1 := Aside0.mk (show Kd.V k46 46 w1 0 (fun k => w.heap.size ≤ k ∧ k < w1.heap.size) (.slice A1 (mkB l).f1.length c1) (mkB l).f1 from Kd.R_V (xp (Kd.R_bound hv1) (fun k hk => ⟨hk.2.1, hk.2.2.1⟩)))
 have HB1 := Aside0.mk hb1
 clear hv1 hb1 d0 d1 d2
 go_upto_region 2 with fail
 obtain ⟨w2, hw2⟩ : ∃ w2 : World, w2 = w1.alloc (.cells #[.int .i64 (mkB l).f0, .slice A1 (mkB l).f1.length c1] 70) := ⟨_, rfl⟩
 rw [← hw2]
 have HBA := Aside0.mk (show Below w1.heap.size w1 w2 by rw [hw2]; exact uf (Below.refl _ _) _)
 have HX2 := Aside0.mk (show w2.heap[w1.heap.size]? = some (.cells #[.int .i64 (mkB l).f0, .slice A1 (mkB l).f1.length c1] 70 (0, 0)) by rw [hw2]; exact heap_alloc_new _ _)
 have HB2 := Aside0.mk (uo HB1.out HBA.out)
 have HP2 := Aside0.mk (HS.out.below HB2.out)
 have q1 := HP2.out.cell1
 obtain ⟨g, hg⟩ : ∃ g, g = w1.heap.size := ⟨_, rfl⟩
 obtain ⟨OK, hOK⟩ : ∃ OK : Nat → Prop, OK = fun k => k ≠ p ∧ k ≠ g := ⟨_, rfl⟩
 have HGE := Aside0.mk hg
 have HGP := Aside0.mk (show p < w2.heap.size ∧ g < w2.heap.size ∧ w.heap.size ≤ g from ⟨HP2.out.lt, by rw [hg]; exact (Array.getElem?_eq_some_iff.1 HX2.out).1, by rw [hg]; exact HB1.out.size⟩)
 have HOK := Aside0.mk (show ∀ k, w2.heap.size ≤ k → OK k from fun k hk => by rw [hOK]; have := HGP.out; exact ⟨by omega, by omega⟩)
 have HB := Aside0.mk (Below.refl w2.heap.size w2)
 have FR2 := Aside0.mk (show Kd.F k70 w2 (fun k => OK k ∧ k < w2.heap.size) A0 rs.length rs from Kd.F_mono (xg HF.out HB2.out) (fun k hk => by rw [hOK]; have h1 := hk.2; have h2 := HGP.out; have h3 := HB2.out.size; exact ⟨⟨hk.1, by omega⟩, by omega⟩))
 rw [← hg] at HX2 ⊢
 have HOKE := Aside0.mk hOK
 clear hw2 hg hOK
 go_wp2_with (first
  | ((with_reducible refine xm (N := 13) rfl ?_); go_loud (refine Kd.N_lit k70 _ 70 ?hg (N' := 13) ?hd (xs := ([] : List RBk)) (inner := []) (ok := OK) (okp := fun _ => False) ?hr ?hp (fun _ hk => hk.elim) ?hf (Below.refl _ _) (vn _) (by simp) ?_; (case hd => rfl); (case hg => rfl); (case hr => first | (go_simp; done) | (go_simp; rfl)); (case hp => exact (Reps.none _ _)); (case hf => exact HOK.out _ (Nat.le_trans HB.out.size (vn _))); intro v6 w6 ho6 hb6 hg6 hnew6; have HNW := Aside0.mk hnew6; have n_ := Aside0.mk (Kd.N_lower ho6 HB.out.size); (try clear HO); have HO := n_; clear n_; have n_ := Aside0.mk (uo HB.out hb6); (try clear HB); have HB := n_; clear n_; clear ho6 hb6 hg6 hnew6; have q6 := (HP2.out.below HB.out).cell1))
  | ((with_reducible refine gate_builtin (b := .append) (xs := #[.tmp 13, .tmp 17]) rfl ?_); at_builtin; go_loud (refine Kd.N_append_rows k70 (w0 := w2) w2.heap.size rfl (.tmp 13) (.tmp 17) 27 70 (.agg #[.int .i64 0, .slice none 0 0]) 32 rfl Try.underlying27 infoRB rfl (by decide) (by decide) v6 ([] : List RBk) rs _ _ _ OK (fun k => OK k ∧ k < w2.heap.size) rfl rfl HO.out (xg FR2.out HB.out) (fun k hk => ⟨hk.1, fun e => by have h1 := Kd.N_base HO.out k e.symm; have := hk.2; omega⟩) (fun k hk => HOK.out k (Nat.le_trans HB.out.size hk)) HB.out HB.out.size (by (try simp only [List.length_nil, List.length_append]); have := HLS.out; omega) ?_; intro v7 w7 ho hb hg hat; (try rw [List.nil_append] at ho); clear HO HB; have HO := Aside0.mk ho; have HB := Aside0.mk hb; clear ho hb hg hat)))
 obtain ⟨A2, c2, e2⟩ := xt HO.out
 subst e2
 have HST := Aside0.mk (show RAdd w _ p g A2 c2 A1 c1 (mkB l) rs from by
  refine ⟨?_, vw HX2.out HB.out, ?_, uo HB2.out HB.out, ⟨HGP.out.2.2, Nat.lt_of_lt_of_le HGP.out.2.1 HB.out.size⟩, HW.out⟩
  · have := Kd.N_V (base' := 0) HO.out
    rw [HOKE.out] at this
    exact this
  · refine Kd.V_below (Kd.V_below (Kd.V_mono HV1.out (fun k hk => ?_)) HBA.out) HB.out
    have := HW.out; have := hk.1; have := hk.2; have := HGE.out
    exact ⟨by omega, by omega⟩)
 clear HO HB HX2 HBA HB1 HV1 q1 HF HOK HGP HNW FR2
 go_loopw [5, 6] (fun s5 s6 wr => ∃ (A : Option Addr) (c : Nat) (Au : Option Addr) (cu : Nat) (x : Bk) (cs : List Bk) (rs : List RBk) (i : Nat), s5 = .slice A rs.length c ∧ s6 = .int .i64 i ∧ i ≤ rs.length ∧ Aside0 (RAdd w wr p g A c Au cu x rs) ∧ Aside0 (PAdd x cs rs (addL l bs)) ∧ Aside0 (∀ (j : Nat) (b : Bk), j < i → cs[j]? = some b → lvlEq x b = false)) (fun s5 s6 _ => lenOf s5 * 2000 + (2000 - (intOf s6).toNat))
 case atStart => exact ⟨_, _, _, _, _, _, _, 0, rfl, rfl, Nat.zero_le _, HST, HPA, ⟨fun j b h => by omega⟩⟩
 case round =>
  clear HST HPA HLS HOF
  obtain ⟨A, c, Au, cu, x, cs, rs, i, rfl, rfl, hi, HST, HPA, HN⟩ := hrel
  have HLS := Aside0.mk (show rs.length ≤ 900 by rw [HPA.out.n]; exact HPA.out.len)
  have z0 := HST.out.c0
  have z1 := HST.out.c1
  have hls : rs.length ≤ 900 := HLS.out
  by_cases hlt : i < rs.length
  · obtain ⟨b, hb⟩ : ∃ b, cs[i]? = some b := ⟨_, List.getElem?_eq_getElem (by have := HPA.out.n; omega)⟩
    have hrb : rs[i]? = some (toR b) := by rw [HPA.out.rs, List.getElem?_map, hb]; rfl
    obtain ⟨ad, A1, c1, rfl, y0, y1, e4, e5⟩ := rb_at (Kd.V_reads' HST.out.row).2.2 hrb
    dsimp only [toR] at y0 y1 e4 e5
    have HC := Aside0.mk e5
    have HE := Aside0.mk hb
    have hble := allB_at_le hb
    have hil : (i : Int) < (rs.length : Int) := by omega
    have hi0 : (0 : Int) ≤ (i : Int) := by omega
    have hw1 : wrap64 ((i : Int) + 1) = (i : Int) + 1 := by unfold wrap64; omega
    have hbt : b.f1.length + x.f1.length ≤ 1000000 := by have := HPA.out.tot; omega
    clear hb hrb e5 hble
    by_cases hq : b.f0 = x.f0
    · have HFI := Aside0.mk (show cs.findIdx? (lvlEq x) = some i from List.findIdx?_eq_some_iff_getElem.2 ⟨by have := HPA.out.n; omega, by
       have h1 := HE.out
       rw [List.getElem?_eq_getElem (by have := HPA.out.n; omega)] at h1
       injection h1 with h1
       rw [h1]; exact decide_eq_true hq, fun j hj => by
       have := HN.out j _ hj (List.getElem?_eq_getElem (by have := HPA.out.n; omega))
       rw [this]; simp⟩)
      have hq2 : (b.f0 == x.f0) = true := by rw [hq]; simp
      have HOF := Aside0.mk (show vergerref5_Of.f 3000000 (b.f1 ++ x.f1) = some ((joinB b x).f0, (joinB b x).f1) from refof_mkR _ _ (by rw [List.length_append]; omega) (by rw [List.length_append]; omega))
      clear hq
      go_wp2_with fail
      refine start_ (n := 8) (S := fun w' => w'.cell? (ad.add (i * 2)) = some (.int .i64 b.f0) ∧ w'.cell? ⟨g, 0, none⟩ = some (.int .i64 x.f0)) (ds := []) #[xX, xX, xX, xX, xX, xX, xX, xX] (by kernel_rfl) rfl rfl ⟨y0, z0⟩ (fun hHeld => ?_)
      refine uj (i := 0) (N := (some 25)) (v := ?_) (a' := ?_) (bA 8 1) rfl rfl (by kernel_rfl) (fun _ _ _ h => h) (Or.inl ⟨by rfl, ?_⟩) ?_ ?_
      rotate_left; (· (intro w'); go_simp; (with_reducible rfl)); rotate_left; (· (simp only [Act.put, ua, ub, uc, uh, ui]); rfl)
      refine uj (i := 1) (N := (some 26)) (v := ?_) (a' := ?_) (bA 8 3) rfl rfl (by kernel_rfl) (fun _ _ _ h => h) (Or.inl ⟨by rfl, ?_⟩) ?_ ?_
      rotate_left; (· (intro w'); go_simp; (with_reducible rfl)); rotate_left; (· (simp only [Act.put, ua, ub, uc, uh, ui]); rfl)
      refine uj (i := 2) (N := (some 27)) (v := ?_) (a' := ?_) (bA 8 7) rfl rfl (by kernel_rfl) (fun _ _ _ h => h) (Or.inl ⟨by rfl, ?_⟩) ?_ ?_
      rotate_left; (· (intro w'); go_simp; (with_reducible rfl)); rotate_left; (· (simp only [Act.put, ua, ub, uc, uh, ui]); rfl)
      refine uj (i := 3) (N := (some 28)) (v := ?_) (a' := ?_) (bA 8 15) rfl rfl (by kernel_rfl) (fun _ _ _ h => h) (Or.inl ⟨by rfl, ?_⟩) ?_ ?_
      rotate_left; (· (intro w'); go_simp; (with_reducible rfl)); rotate_left; (· (simp only [Act.put, ua, ub, uc, uh, ui]); rfl)
      refine uj (i := 5) (N := (some 30)) (v := ?_) (a' := ?_) (bA 8 47) rfl rfl (by kernel_rfl) (fun _ _ _ h => h) (Or.inl ⟨by rfl, ?_⟩) ?_ ?_
      rotate_left; (· (intro w'); go_simp; (with_reducible rfl)); rotate_left; (· (simp only [Act.put, ua, ub, uc, uh, ui]); rfl)
      refine xk (i := 4) (N := (some 29)) (v := ?_) (a' := ?_) (bA 8 63) rfl rfl (by kernel_rfl) (fun _ _ _ h => h) (Or.inl ⟨by rfl, ?_⟩) hHeld ?_ ?_
      rotate_left; (· (rintro w' ⟨s0, s1⟩); go_simp; (with_reducible rfl)); rotate_left; (· (simp only [Act.put, ua, ub, uc, uh, ui]); rfl)
      refine xk (i := 6) (N := (some 31)) (v := ?_) (a' := ?_) (bA 8 127) rfl rfl (by kernel_rfl) (fun _ _ _ h => h) (Or.inl ⟨by rfl, ?_⟩) hHeld ?_ ?_
      rotate_left; (· (rintro w' ⟨s0, s1⟩); go_simp; (with_reducible rfl)); rotate_left; (· (simp only [Act.put, ua, ub, uc, uh, ui]); rfl)
      refine uj (i := 7) (N := (some 32)) (v := ?_) (a' := ?_) (bA 8 255) rfl rfl (by kernel_rfl) (fun _ _ _ h => h) (Or.inl ⟨by rfl, ?_⟩) ?_ ?_
      rotate_left; (· (intro w'); go_simp; (with_reducible rfl)); rotate_left; (· (simp only [Act.put, ua, ub, uc, uh, ui]); rfl)
      refine done_ (by kernel_rfl) ?_
      go_wp2_with fail
      obtain ⟨wd, hwd⟩ : ∃ wd : World, wd = wr.drew := ⟨_, rfl⟩
      rw [← hwd]
      have HBd := Aside0.mk (show Below wr.heap.size wr wd by rw [hwd]; exact below_drew (Below.refl _ _))
      clear hwd
      have HSTd := Aside0.mk (HST.out.below HBd.out)
      have HGP := Aside0.mk (show p < wd.heap.size ∧ g < wd.heap.size from ⟨Nat.lt_of_lt_of_le HSTd.out.pl HSTd.out.bel.size, HSTd.out.g4.2⟩)
      replace y1 := us HBd.out y1
      have z1 := HSTd.out.c1
      have HCE := Aside0.mk (xb HC.out HBd.out)
      have HCX := Aside0.mk (Kd.V_reads' HSTd.out.val)
      have HB := Aside0.mk (below_drew (Below.refl wd.heap.size wd))
      refine start_ (n := 12) (S := fun w' => w'.cell? ⟨(ad.add (i * 2)).block, (ad.add (i * 2)).off + 1, none⟩ = some (.slice A1 b.f1.length c1) ∧ w'.cell? ⟨g, 1, none⟩ = some (.slice Au x.f1.length cu)) (ds := [11]) #[xX, xX, xX, xX, xX, xX, xX, xX, xX, xX, xX, xX] (by kernel_rfl) rfl rfl ⟨y1, z1⟩ (fun hHeld => ?_)
      refine uj (i := 1) (N := (some 34)) (v := ?_) (a' := ?_) (bA 12 2) rfl rfl (by kernel_rfl) (fun _ _ _ h => h) (Or.inl ⟨by rfl, ?_⟩) ?_ ?_
      rotate_left; (· (intro w'); go_simp; (with_reducible rfl)); rotate_left; (· (simp only [Act.put, ua, ub, uc, uh, ui]); rfl)
      refine uj (i := 2) (N := (some 35)) (v := ?_) (a' := ?_) (bA 12 6) rfl rfl (by kernel_rfl) (fun _ _ _ h => h) (Or.inl ⟨by rfl, ?_⟩) ?_ ?_
      rotate_left; (· (intro w'); go_simp; (with_reducible rfl)); rotate_left; (· (simp only [Act.put, ua, ub, uc, uh, ui]); rfl)
      refine uj (i := 3) (N := (some 36)) (v := ?_) (a' := ?_) (bA 12 14) rfl rfl (by kernel_rfl) (fun _ _ _ h => h) (Or.inl ⟨by rfl, ?_⟩) ?_ ?_
      rotate_left; (· (intro w'); go_simp; (with_reducible rfl)); rotate_left; (· (simp only [Act.put, ua, ub, uc, uh, ui]); rfl)
      refine uj (i := 4) (N := (some 37)) (v := ?_) (a' := ?_) (bA 12 30) rfl rfl (by kernel_rfl) (fun _ _ _ h => h) (Or.inl ⟨by rfl, ?_⟩) ?_ ?_
      rotate_left; (· (intro w'); go_simp; (with_reducible rfl)); rotate_left; (· (simp only [Act.put, ua, ub, uc, uh, ui]); rfl)
      refine uj (i := 7) (N := (some 40)) (v := ?_) (a' := ?_) (bA 12 158) rfl rfl (by kernel_rfl) (fun _ _ _ h => h) (Or.inl ⟨by rfl, ?_⟩) ?_ ?_
      rotate_left; (· (intro w'); go_simp; (with_reducible rfl)); rotate_left; (· (simp only [Act.put, ua, ub, uc, uh, ui]); rfl)
      refine xk (i := 5) (N := (some 38)) (v := ?_) (a' := ?_) (bA 12 190) rfl rfl (by kernel_rfl) (fun _ _ _ h => h) (Or.inl ⟨by rfl, ?_⟩) hHeld ?_ ?_
      rotate_left; (· (rintro w' ⟨s0, s1⟩); go_simp; (with_reducible rfl)); rotate_left; (· (simp only [Act.put, ua, ub, uc, uh, ui]); rfl)
      refine xk (i := 8) (N := (some 41)) (v := ?_) (a' := ?_) (bA 12 446) rfl rfl (by kernel_rfl) (fun _ _ _ h => h) (Or.inl ⟨by rfl, ?_⟩) hHeld ?_ ?_
      rotate_left; (· (rintro w' ⟨s0, s1⟩); go_simp; (with_reducible rfl)); rotate_left; (· (simp only [Act.put, ua, ub, uc, uh, ui]); rfl)
      refine one_ (i := 0) (N := (some 33)) #[yY, yY, yY, yY, yY, yY, xX, yY, yY, xX, xX, xX] rfl rfl (by kernel_rfl) (by decide) (fun K hK => ?_)
      refine Kd.R_lit_step k46 _ 46 ?hg (N := 33) ?hd (xs := ([] : List E)) (inner := []) (ok := fun _ => True) (okp := fun _ => True) ?hr ?hp (fun _ hk => hk) trivial (Below.refl _ _) (vn _) (by simp) ?_; (case hd => rfl); (case hg => rfl); (case hr => first | (go_simp; done) | (go_simp; rfl)); (case hp => exact (Reps.none _ _))
      intro v6 w6 ho6 hb6 hg6 hnew6
      have n_ := Aside0.mk (Kd.R_lower ho6 HB.out.size)
      (try clear HO)
      have HO := n_
      clear n_
      have n_ := Aside0.mk (uo HB.out hb6)
      (try clear HB)
      have HB := n_
      clear n_
      clear ho6 hb6 hg6 hnew6
      refine hK.out _ _ ⟨us HB.out y1, us HB.out z1⟩ (fun hHeld => ?_)
      clear hK K
      refine xj (a' := ?_) ?_ ?_; rotate_left; (· (show Act.put _ (some 33) _ = _); (simp only [Act.put, ua, ub, uc, uh, ui]); rfl)
      refine one_ (i := 6) (N := (some 39)) #[yY, yY, yY, yY, yY, yY, yY, yY, yY, xX, xX, xX] rfl rfl (by kernel_rfl) (by decide) (fun K hK => ?_)
      refine xo k46 (w0 := wd) wd.heap.size (by rfl) (.tmp 33) (.tmp 38) 30 46 (.agg #[(.int .u64 0), (.int .i64 0)]) 16 rfl Try.underlying30 info46 rfl (by decide) (by omega) v6 ([] : List E) b.f1 _ _ _ (fun _ => True) (fun _ => False) rfl rfl HO.out (xb HCE.out HB.out) (fun _ _ h => h) (fun _ h => h.elim) (fun _ _ => trivial) HB.out HB.out.size (by (try simp only [List.length_nil, List.length_append]); omega) ?_
      intro v7 w7 ho hb hg hat
      (try rw [List.nil_append] at ho)
      clear HO HB
      have HO := Aside0.mk ho
      have HB := Aside0.mk hb
      clear ho hb hg hat
      refine hK.out _ _ ⟨us HB.out y1, us HB.out z1⟩ (fun hHeld => ?_)
      clear hK K
      refine xj (a' := ?_) ?_ ?_; rotate_left; (· (show Act.put _ (some 39) _ = _); (simp only [Act.put, ua, ub, uc, uh, ui]); rfl)
      refine one_ (i := 9) (N := (some 42)) #[yY, yY, yY, yY, yY, yY, yY, yY, yY, yY, xX, xX] rfl rfl (by kernel_rfl) (by decide) (fun K hK => ?_)
      refine xo k46 (w0 := wd) wd.heap.size (by rfl) (.tmp 39) (.tmp 41) 30 46 (.agg #[(.int .u64 0), (.int .i64 0)]) 16 rfl Try.underlying30 info46 rfl (by decide) (by omega) v7 b.f1 x.f1 _ _ _ (fun _ => True) (fun _ => False) rfl rfl HO.out (xb HCX.out.2.2 HB.out) (fun _ _ h => h) (fun _ h => h.elim) (fun _ _ => trivial) HB.out HB.out.size (by (try simp only [List.length_nil, List.length_append]); omega) ?_
      intro v8 w8 ho hb hg hat
      (try rw [List.nil_append] at ho)
      clear HO HB
      have HO := Aside0.mk ho
      have HB := Aside0.mk hb
      clear ho hb hg hat
      refine hK.out _ _ ⟨us HB.out y1, us HB.out z1⟩ (fun hHeld => ?_)
      clear hK K
      refine xj (a' := ?_) ?_ ?_; rotate_left; (· (show Act.put _ (some 42) _ = _); (simp only [Act.put, ua, ub, uc, uh, ui]); rfl)
      refine one_ (i := 10) (N := (some 43)) #[yY, yY, yY, yY, yY, yY, yY, yY, yY, yY, yY, xX] rfl rfl (by kernel_rfl) (by decide) (fun K hK => ?_)
      obtain ⟨A7, c7, e_⟩ := Kd.R_slice HO.out
      subst e_
      have HN_ := Aside0.mk (Kd.R_reads' HO.out)
      refine goes_ Try.func59 (by kernel_rfl) rfl #[.slice A7 (b.f1 ++ x.f1).length c7] (by rfl) rfl rfl (by (try simp only [un, uu, uv]); first | done | rfl) ?_
      refine (vergerref5_Of.calls 3000000 A7 c7 (b.f1 ++ x.f1) _ _ _ HN_.out.2.2 HN_.out.2.1 HOF.out).mono ?_
      rintro y w8 ⟨v8, rfl, hv8, hb8⟩
      obtain ⟨A8, c8, e_⟩ := Kd.R_slice hv8
      subst e_
      have HV8 := Aside0.mk (show Kd.V k46 46 w8 0 (fun k => k ≠ p ∧ k ≠ g) (.slice A8 (joinB b x).f1.length c8) (joinB b x).f1 from Kd.R_V (xp (Kd.R_bound hv8) (fun k hk => by have h1 := HB.out.size; have h2 := hk.2.1; have h3 := HGP.out; exact ⟨by omega, by omega⟩)))
      have n_ := Aside0.mk (uo HB.out hb8)
      (try clear HB)
      have HB := n_
      clear n_
      have HS8 := Aside0.mk (HSTd.out.below HB.out)
      have g0 := frozen_row HS8.out.box 0
      have g1 := frozen_row HS8.out.box 1
      have k0 := HS8.out.c0
      have k1 := HS8.out.c1
      clear hv8 hb8
      refine ⟨_, rfl, ?_⟩
      refine hK.out _ _ ⟨us HB.out y1, us HB.out z1⟩ (fun hHeld => ?_)
      clear hK K
      refine xj (a' := ?_) ?_ ?_; rotate_left; (· (show Act.put _ (some 43) _ = _); (simp only [Act.put, ua, ub, uc, uh, ui]); rfl)
      refine last_ (i := 11) (N := none) #[yY, yY, yY, yY, yY, yY, yY, yY, yY, yY, yY, yY] rfl rfl (by kernel_rfl) (by decide) (fun K hK => ?_)
      go_simp
      refine hK.out _ _ ?_
      clear hK K
      (try simp only [Act.put, ua, ub, uc, uh, ui])
      refine done_ (by kernel_rfl) ?_
      go_wp2_with fail
      obtain ⟨wq, hwq⟩ : ∃ wq : World, wq = (w8.setCell ⟨g, 0, none⟩ (.int .i64 (joinB b x).f0)).setCell ⟨g, 1, none⟩ (.slice A8 (joinB b x).f1.length c8) := ⟨_, rfl⟩
      rw [← hwq]
      have HST8 := Aside0.mk (HS8.out.put HV8.out)
      rw [← hwq] at HST8
      clear hwq g0 g1 k0 k1 y0 y1 z0 z1 HO HB HN_
      have HPA8 := Aside0.mk (HPA.out.join HFI.out HE.out)
      have HGP8 := Aside0.mk (show p < wq.heap.size ∧ g < wq.heap.size from ⟨Nat.lt_of_lt_of_le HST8.out.pl HST8.out.bel.size, HST8.out.g4.2⟩)
      obtain ⟨T, D, AD, cD, hT, hD, hct, hcf, hf1, hf2, hcD⟩ := rcuts HST8.out.row hlt
      have HCU := Aside0.mk (And.intro hf1 hf2)
      rw [← hT, ← hD] at HPA8
      have HTD := Aside0.mk (show (T ++ D).length + 1 = rs.length by rw [hT, hD, List.length_append, uq, ur]; omega)
      have hTl : T.length ≤ 900 := by have := HTD.out; have := HLS.out; rw [List.length_append] at *; omega
      have hDl : D.length ≤ 900 := by have := HTD.out; have := HLS.out; rw [List.length_append] at *; omega
      have HOK := Aside0.mk (show ∀ k, wq.heap.size ≤ k → OK k from fun k hk => by rw [HOKE.out]; have := HGP8.out; exact ⟨by omega, by omega⟩)
      rw [← HOKE.out] at HCU
      obtain ⟨RF, hRF⟩ : ∃ RF, RF = T ++ D := ⟨_, rfl⟩
      have HRF := Aside0.mk hRF
      rw [← hRF] at HTD
      clear hT hD hf1 hf2 hRF
      have HB := Aside0.mk (below_drew (Below.refl wq.heap.size wq))
      refine start_ (n := 11) (S := fun w' => True) (ds := []) #[xX, xX, xX, xX, xX, xX, xX, xX, xX, xX, xX] (by kernel_rfl) rfl rfl trivial (fun hHeld => ?_)
      refine uj (i := 1) (N := (some 45)) (v := ?_) (a' := ?_) (bA 11 2) rfl rfl (by kernel_rfl) (fun _ _ _ h => h) (Or.inl ⟨by rfl, ?_⟩) ?_ ?_
      rotate_left; (· (intro w'); go_simp; (with_reducible rfl)); rotate_left; (· (simp only [Act.put, ua, ub, uc, uh, ui]); rfl)
      refine uj (i := 2) (N := (some 46)) (v := ?_) (a' := ?_) (bA 11 6) rfl rfl (by kernel_rfl) (fun _ _ _ h => h) (Or.inl ⟨by rfl, ?_⟩) ?_ ?_
      rotate_left; (· (intro w'); go_simp; (with_reducible rfl)); rotate_left; (· (simp only [Act.put, ua, ub, uc, uh, ui]); rfl)
      refine uj (i := 3) (N := (some 47)) (v := ?_) (a' := ?_) (bA 11 14) rfl rfl (by kernel_rfl) (fun _ _ _ h => h) (Or.inl ⟨by rfl, ?_⟩) ?_ ?_
      rotate_left; (· (intro w'); go_simp; (with_reducible rfl)); rotate_left; (· (simp only [Act.put, ua, ub, uc, uh, ui]); rfl)
      refine uj (i := 5) (N := (some 49)) (v := ?_) (a' := ?_) (bA 11 46) rfl rfl (by kernel_rfl) (fun _ _ _ h => h) (Or.inl ⟨by rfl, ?_⟩) ?_ ?_
      rotate_left; (· (intro w'); go_simp; (with_reducible rfl)); rotate_left; (· (simp only [Act.put, ua, ub, uc, uh, ui]); rfl)
      refine uj (i := 6) (N := (some 50)) (v := ?_) (a' := ?_) (bA 11 110) rfl rfl (by kernel_rfl) (fun _ _ _ h => h) (Or.inl ⟨by rfl, ?_⟩) ?_ ?_
      rotate_left; (· (intro w'); go_simp; (with_reducible rfl)); rotate_left; (· (simp only [Act.put, ua, ub, uc, uh, ui]); rfl)
      refine uj (i := 7) (N := (some 51)) (v := ?_) (a' := ?_) (bA 11 238) rfl rfl (by kernel_rfl) (fun _ _ _ h => h) (Or.inl ⟨by rfl, ?_⟩) ?_ ?_
      rotate_left; (· (intro w'); go_simp; (with_reducible rfl)); rotate_left; (· (simp only [Act.put, ua, ub, uc, uh, ui]); rfl)
      refine uj (i := 8) (N := (some 52)) (v := ?_) (a' := ?_) (bA 11 494) rfl rfl (by kernel_rfl) (fun _ _ _ h => h) (Or.inl ⟨by rfl, ?_⟩) ?_ ?_
      rotate_left; (· (intro w'); go_simp; (with_reducible rfl)); rotate_left; (· (simp only [Act.put, ua, ub, uc, uh, ui]); rfl)
      refine one_ (i := 0) (N := (some 44)) #[yY, yY, yY, yY, xX, yY, yY, yY, yY, xX, xX] rfl rfl (by kernel_rfl) (by decide) (fun K hK => ?_)
      refine Kd.N_lit_step k70 _ 70 ?hg (N' := 44) ?hd (xs := ([] : List RBk)) (inner := []) (ok := OK) (okp := fun _ => False) ?hr ?hp (fun _ hk => hk.elim) ?hf (Below.refl _ _) (vn _) (by simp) ?_; (case hd => rfl); (case hg => rfl); (case hr => first | (go_simp; done) | (go_simp; rfl)); (case hp => exact (Reps.none _ _)); (case hf => exact HOK.out _ (Nat.le_trans HB.out.size (vn _)))
      intro v6 w6 ho6 hb6 hg6 hnew6
      have HNW := Aside0.mk hnew6
      have n_ := Aside0.mk (Kd.N_lower ho6 HB.out.size)
      (try clear HO)
      have HO := n_
      clear n_
      have n_ := Aside0.mk (uo HB.out hb6)
      (try clear HB)
      have HB := n_
      clear n_
      clear ho6 hb6 hg6 hnew6
      refine hK.out _ _ trivial (fun hHeld => ?_)
      clear hK K
      refine xj (a' := ?_) ?_ ?_; rotate_left; (· (show Act.put _ (some 44) _ = _); (simp only [Act.put, ua, ub, uc, uh, ui]); rfl)
      refine one_ (i := 4) (N := (some 48)) #[yY, yY, yY, yY, yY, yY, yY, yY, yY, xX, xX] rfl rfl (by kernel_rfl) (by decide) (fun K hK => ?_)
      refine xd k70 (w0 := wq) wq.heap.size (by rfl) (.tmp 44) (.tmp 47) 27 70 (.agg #[.int .i64 0, .slice none 0 0]) 32 rfl Try.underlying27 infoRB rfl (by decide) (by decide) v6 ([] : List RBk) T _ _ _ OK (fun k => OK k ∧ k < wq.heap.size) rfl rfl HO.out (xg (Kd.F_bound HCU.out.1) HB.out) (fun k hk => ⟨hk.1, fun e => by have h1 := Kd.N_base HO.out k e.symm; have := hk.2; omega⟩) (fun k hk => HOK.out k (Nat.le_trans HB.out.size hk)) HB.out HB.out.size (by (try simp only [List.length_nil, List.length_append]); have := HLS.out; omega) ?_
      intro v7 w7 ho hb hg hat
      (try rw [List.nil_append] at ho)
      clear HO HB
      have HO := Aside0.mk ho
      have HB := Aside0.mk hb
      clear ho hb hg hat
      refine hK.out _ _ trivial (fun hHeld => ?_)
      clear hK K
      refine xj (a' := ?_) ?_ ?_; rotate_left; (· (show Act.put _ (some 48) _ = _); (simp only [Act.put, ua, ub, uc, uh, ui]); rfl)
      refine one_ (i := 9) (N := (some 53)) #[yY, yY, yY, yY, yY, yY, yY, yY, yY, yY, xX] rfl rfl (by kernel_rfl) (by decide) (fun K hK => ?_)
      refine xd k70 (w0 := wq) wq.heap.size (by rfl) (.tmp 48) (.tmp 52) 27 70 (.agg #[.int .i64 0, .slice none 0 0]) 32 rfl Try.underlying27 infoRB rfl (by decide) (by decide) v7 T D _ _ _ OK (fun k => OK k ∧ k < wq.heap.size) rfl rfl HO.out (xg (Kd.F_bound HCU.out.2) HB.out) (fun k hk => ⟨hk.1, fun e => by have h1 := Kd.N_base HO.out k e.symm; have := hk.2; omega⟩) (fun k hk => HOK.out k (Nat.le_trans HB.out.size hk)) HB.out HB.out.size (by (try simp only [List.length_nil, List.length_append]); have := HLS.out; omega) ?_
      intro v8 w8 ho hb hg hat
      (try rw [List.nil_append] at ho)
      clear HO HB
      have HO := Aside0.mk ho
      have HB := Aside0.mk hb
      clear ho hb hg hat
      refine hK.out _ _ trivial (fun hHeld => ?_)
      clear hK K
      refine xj (a' := ?_) ?_ ?_; rotate_left; (· (show Act.put _ (some 53) _ = _); (simp only [Act.put, ua, ub, uc, uh, ui]); rfl)
      refine uj (i := 10) (N := (some 5)) (v := ?_) (a' := ?_) (bA 11 2047) rfl rfl (by kernel_rfl) (fun _ _ _ h => h) (Or.inl ⟨by rfl, ?_⟩) ?_ ?_
      rotate_left; (· (intro w'); go_simp; (with_reducible rfl)); rotate_left; (· (simp only [Act.put, ua, ub, uc, uh, ui]); rfl)
      refine done_ (by kernel_rfl) ?_
      have HO_ := HO.out
      rw [← HRF.out] at HO_
      obtain ⟨A9, c9, e_⟩ := xt HO_
      subst e_
      rw [← HRF.out] at HPA8
      have HST9 := Aside0.mk (show RAdd w _ p g A9 c9 A8 c8 (joinB b x) RF from ⟨Kd.V_mono (Kd.N_V HO_) (fun k hk => by rw [HOKE.out] at hk; exact hk), (HST8.out.below HB.out).box, (HST8.out.below HB.out).val, (HST8.out.below HB.out).bel, (HST8.out.below HB.out).g4, HST8.out.pl⟩)
      go_wp2_with fail
      go_roundw
      case rel => exact ⟨A9, c9, A8, c8, joinB b x, cs.eraseIdx i, RF, 0, rfl, by first | rfl | go_num, Nat.zero_le _, HST9, HPA8, ⟨fun j b h => absurd h (Nat.not_lt_zero _)⟩⟩
      case measure => have h1 := HTD.out; simp [lenOf, intOf]; omega
    · have hq2 : (b.f0 == x.f0) = false := by rw [beq_eq_false_iff_ne]; exact hq
      have hq3 : decide (b.f0 = x.f0) = false := decide_eq_false hq
      have HN2 : Aside0 (∀ (j : Nat) (b : Bk), j < i + 1 → cs[j]? = some b → lvlEq x b = false) := ⟨fun j b' hj hb' => by
       by_cases h1 : j = i
       · subst h1
         rw [HE.out] at hb'
         injection hb' with hb'
         rw [← hb']; exact hq3
       · exact HN.out j b' (by omega) hb'⟩
      go_wp2_with fail
      refine start_ (n := 8) (S := fun w' => w'.cell? (ad.add (i * 2)) = some (.int .i64 b.f0) ∧ w'.cell? ⟨g, 0, none⟩ = some (.int .i64 x.f0)) (ds := []) #[xX, xX, xX, xX, xX, xX, xX, xX] (by kernel_rfl) rfl rfl ⟨y0, z0⟩ (fun hHeld => ?_)
      refine uj (i := 0) (N := (some 25)) (v := ?_) (a' := ?_) (bA 8 1) rfl rfl (by kernel_rfl) (fun _ _ _ h => h) (Or.inl ⟨by rfl, ?_⟩) ?_ ?_
      rotate_left; (· (intro w'); go_simp; (with_reducible rfl)); rotate_left; (· (simp only [Act.put, ua, ub, uc, uh, ui]); rfl)
      refine uj (i := 1) (N := (some 26)) (v := ?_) (a' := ?_) (bA 8 3) rfl rfl (by kernel_rfl) (fun _ _ _ h => h) (Or.inl ⟨by rfl, ?_⟩) ?_ ?_
      rotate_left; (· (intro w'); go_simp; (with_reducible rfl)); rotate_left; (· (simp only [Act.put, ua, ub, uc, uh, ui]); rfl)
      refine uj (i := 2) (N := (some 27)) (v := ?_) (a' := ?_) (bA 8 7) rfl rfl (by kernel_rfl) (fun _ _ _ h => h) (Or.inl ⟨by rfl, ?_⟩) ?_ ?_
      rotate_left; (· (intro w'); go_simp; (with_reducible rfl)); rotate_left; (· (simp only [Act.put, ua, ub, uc, uh, ui]); rfl)
      refine uj (i := 3) (N := (some 28)) (v := ?_) (a' := ?_) (bA 8 15) rfl rfl (by kernel_rfl) (fun _ _ _ h => h) (Or.inl ⟨by rfl, ?_⟩) ?_ ?_
      rotate_left; (· (intro w'); go_simp; (with_reducible rfl)); rotate_left; (· (simp only [Act.put, ua, ub, uc, uh, ui]); rfl)
      refine uj (i := 5) (N := (some 30)) (v := ?_) (a' := ?_) (bA 8 47) rfl rfl (by kernel_rfl) (fun _ _ _ h => h) (Or.inl ⟨by rfl, ?_⟩) ?_ ?_
      rotate_left; (· (intro w'); go_simp; (with_reducible rfl)); rotate_left; (· (simp only [Act.put, ua, ub, uc, uh, ui]); rfl)
      refine xk (i := 4) (N := (some 29)) (v := ?_) (a' := ?_) (bA 8 63) rfl rfl (by kernel_rfl) (fun _ _ _ h => h) (Or.inl ⟨by rfl, ?_⟩) hHeld ?_ ?_
      rotate_left; (· (rintro w' ⟨s0, s1⟩); go_simp; (with_reducible rfl)); rotate_left; (· (simp only [Act.put, ua, ub, uc, uh, ui]); rfl)
      refine xk (i := 6) (N := (some 31)) (v := ?_) (a' := ?_) (bA 8 127) rfl rfl (by kernel_rfl) (fun _ _ _ h => h) (Or.inl ⟨by rfl, ?_⟩) hHeld ?_ ?_
      rotate_left; (· (rintro w' ⟨s0, s1⟩); go_simp; (with_reducible rfl)); rotate_left; (· (simp only [Act.put, ua, ub, uc, uh, ui]); rfl)
      refine uj (i := 7) (N := (some 32)) (v := ?_) (a' := ?_) (bA 8 255) rfl rfl (by kernel_rfl) (fun _ _ _ h => h) (Or.inl ⟨by rfl, ?_⟩) ?_ ?_
      rotate_left; (· (intro w'); go_simp; (with_reducible rfl)); rotate_left; (· (simp only [Act.put, ua, ub, uc, uh, ui]); rfl)
      refine done_ (by kernel_rfl) ?_
      go_wp2_with fail
      go_roundw
      case rel => exact ⟨some ad, c, Au, cu, x, cs, rs, i + 1, rfl, by go_num, by omega, ⟨HST.out.below (below_drew (Below.refl _ _))⟩, HPA, HN2⟩
      case measure => simp [lenOf, intOf]; omega
  · have HF2 := Aside0.mk (show cs.findIdx? (lvlEq x) = none from List.findIdx?_eq_none_iff.2 (fun b hb => by
     obtain ⟨j, hj, rfl⟩ := List.getElem_of_mem hb
     exact HN.out j _ (by have := HPA.out.n; omega) (List.getElem?_eq_getElem hj)))
    have hin : i = rs.length := by omega
    subst hin
    have hpl := placeAt_le x cs
    have hpn : placeAt x cs ≤ rs.length := by rw [HPA.out.n]; exact hpl
    clear hlt hi
    go_upto_block 2 with fail
    go_cut [7] (fun s7 wx => s7 = .int .i64 (placeAt x cs) ∧ Aside0 (Below wr.heap.size wr wx))
    case first =>
     go_wp2_with fail
     rename World => wo
     go_loopw [7] (fun s7 wx => ∃ k : Nat, s7 = .int .i64 k ∧ k ≤ placeAt x cs ∧ Aside0 (Below wo.heap.size wo wx)) (fun s7 _ => placeAt x cs + 1 - (intOf s7).toNat)
     case atStart => exact ⟨0, rfl, Nat.zero_le _, ⟨Below.refl _ _⟩⟩
     case round =>
      obtain ⟨k, rfl, hk, HB⟩ := hrel
      have HSTk := Aside0.mk (HST.out.below HB.out)
      replace z0 := HSTk.out.c0
      by_cases hkl : k < rs.length
      · obtain ⟨b, hb⟩ : ∃ b, cs[k]? = some b := ⟨_, List.getElem?_eq_getElem (by have := HPA.out.n; omega)⟩
        have hrb : rs[k]? = some (toR b) := by rw [HPA.out.rs, List.getElem?_map, hb]; rfl
        obtain ⟨ad, A1, c1, rfl, y0, y1, e4, e5⟩ := rb_at (Kd.V_reads' HSTk.out.row).2.2 hrb
        dsimp only [toR] at y0
        have hkil : (k : Int) < (rs.length : Int) := by omega
        have hk0 : (0 : Int) ≤ (k : Int) := by omega
        clear hrb e5 e4 y1
        by_cases hkp : k < placeAt x cs
        · have hge : x.f0 ≤ b.f0 := by
           refine Int.not_lt.1 fun hlt => ?_
           have := placeAt_end (x := x) (cs := cs) hk (.inr ⟨b, hb, decide_eq_true hlt⟩)
           omega
          clear hb
          go_wp2_with fail
          refine start_ (n := 14) (S := fun w' => w'.cell? (ad.add (k * 2)) = some (.int .i64 b.f0) ∧ w'.cell? ⟨g, 0, none⟩ = some (.int .i64 x.f0)) (ds := []) #[xX, xX, xX, xX, xX, xX, xX, xX, xX, xX, xX, xX, xX, xX] (by kernel_rfl) rfl rfl ⟨y0, z0⟩ (fun hHeld => ?_)
          refine uj (i := 0) (N := (some 54)) (v := ?_) (a' := ?_) (bA 14 1) rfl rfl (by kernel_rfl) (fun _ _ _ h => h) (Or.inl ⟨by rfl, ?_⟩) ?_ ?_
          rotate_left; (· (intro w'); go_simp; (with_reducible rfl)); rotate_left; (· (simp only [Act.put, ua, ub, uc, uh, ui]); rfl)
          refine uj (i := 1) (N := (some 55)) (v := ?_) (a' := ?_) (bA 14 3) rfl rfl (by kernel_rfl) (fun _ _ _ h => h) (Or.inl ⟨by rfl, ?_⟩) ?_ ?_
          rotate_left; (· (intro w'); go_simp; (with_reducible rfl)); rotate_left; (· (simp only [Act.put, ua, ub, uc, uh, ui]); rfl)
          refine uj (i := 2) (N := (some 56)) (v := ?_) (a' := ?_) (bA 14 7) rfl rfl (by kernel_rfl) (fun _ _ _ h => h) (Or.inl ⟨by rfl, ?_⟩) ?_ ?_
          rotate_left; (· (intro w'); go_simp; (with_reducible rfl)); rotate_left; (· (simp only [Act.put, ua, ub, uc, uh, ui]); rfl)
          refine uj (i := 3) (N := (some 57)) (v := ?_) (a' := ?_) (bA 14 15) rfl rfl (by kernel_rfl) (fun _ _ _ h => h) (Or.inl ⟨by rfl, ?_⟩) ?_ ?_
          rotate_left; (· (intro w'); go_simp; (with_reducible rfl)); rotate_left; (· (simp only [Act.put, ua, ub, uc, uh, ui]); rfl)
          refine uj (i := 4) (N := (some 58)) (v := ?_) (a' := ?_) (bA 14 31) rfl rfl (by kernel_rfl) (fun _ _ _ h => h) (Or.inl ⟨by rfl, ?_⟩) ?_ ?_
          rotate_left; (· (intro w'); go_simp; (with_reducible rfl)); rotate_left; (· (simp only [Act.put, ua, ub, uc, uh, ui]); rfl)
          refine uj (i := 5) (N := (some 59)) (v := ?_) (a' := ?_) (bA 14 63) rfl rfl (by kernel_rfl) (fun _ _ _ h => h) (Or.inl ⟨by rfl, ?_⟩) ?_ ?_
          rotate_left; (· (intro w'); go_simp; (with_reducible rfl)); rotate_left; (· (simp only [Act.put, ua, ub, uc, uh, ui]); rfl)
          refine uj (i := 6) (N := (some 60)) (v := ?_) (a' := ?_) (bA 14 127) rfl rfl (by kernel_rfl) (fun _ _ _ h => h) (Or.inl ⟨by rfl, ?_⟩) ?_ ?_
          rotate_left; (· (intro w'); go_simp; (with_reducible rfl)); rotate_left; (· (simp only [Act.put, ua, ub, uc, uh, ui]); rfl)
          refine uj (i := 7) (N := (some 61)) (v := ?_) (a' := ?_) (bA 14 255) rfl rfl (by kernel_rfl) (fun _ _ _ h => h) (Or.inl ⟨by rfl, ?_⟩) ?_ ?_
          rotate_left; (· (intro w'); go_simp; (with_reducible rfl)); rotate_left; (· (simp only [Act.put, ua, ub, uc, uh, ui]); rfl)
          refine uj (i := 8) (N := (some 62)) (v := ?_) (a' := ?_) (bA 14 511) rfl rfl (by kernel_rfl) (fun _ _ _ h => h) (Or.inl ⟨by rfl, ?_⟩) ?_ ?_
          rotate_left; (· (intro w'); go_simp; (with_reducible rfl)); rotate_left; (· (simp only [Act.put, ua, ub, uc, uh, ui]); rfl)
          refine uj (i := 10) (N := (some 64)) (v := ?_) (a' := ?_) (bA 14 1535) rfl rfl (by kernel_rfl) (fun _ _ _ h => h) (Or.inl ⟨by rfl, ?_⟩) ?_ ?_
          rotate_left; (· (intro w'); go_simp; (with_reducible rfl)); rotate_left; (· (simp only [Act.put, ua, ub, uc, uh, ui]); rfl)
          refine xk (i := 9) (N := (some 63)) (v := ?_) (a' := ?_) (bA 14 2047) rfl rfl (by kernel_rfl) (fun _ _ _ h => h) (Or.inl ⟨by rfl, ?_⟩) hHeld ?_ ?_
          rotate_left; (· (rintro w' ⟨s0, s1⟩); go_simp; (with_reducible rfl)); rotate_left; (· (simp only [Act.put, ua, ub, uc, uh, ui]); rfl)
          refine xk (i := 11) (N := (some 65)) (v := ?_) (a' := ?_) (bA 14 4095) rfl rfl (by kernel_rfl) (fun _ _ _ h => h) (Or.inl ⟨by rfl, ?_⟩) hHeld ?_ ?_
          rotate_left; (· (rintro w' ⟨s0, s1⟩); go_simp; (with_reducible rfl)); rotate_left; (· (simp only [Act.put, ua, ub, uc, uh, ui]); rfl)
          refine uj (i := 12) (N := (some 66)) (v := ?_) (a' := ?_) (bA 14 8191) rfl rfl (by kernel_rfl) (fun _ _ _ h => h) (Or.inl ⟨by rfl, ?_⟩) ?_ ?_
          rotate_left; (· (intro w'); go_simp; (with_reducible rfl)); rotate_left; (· (simp only [Act.put, ua, ub, uc, uh, ui]); rfl)
          refine uj (i := 13) (N := (some 67)) (v := ?_) (a' := ?_) (bA 14 16383) rfl rfl (by kernel_rfl) (fun _ _ _ h => h) (Or.inl ⟨by rfl, ?_⟩) ?_ ?_
          rotate_left; (· (intro w'); go_simp; (with_reducible rfl)); rotate_left; (· (simp only [Act.put, ua, ub, uc, uh, ui]); rfl)
          refine done_ (by kernel_rfl) ?_
          go_wp2_with fail
          go_roundw
          case rel => exact ⟨k + 1, by go_num, by omega, ⟨uo HB.out (below_drew (Below.refl _ _))⟩⟩
          case measure => simp [intOf]; omega
        · have hke : placeAt x cs = k := by omega
          have hge : ¬ x.f0 ≤ b.f0 := by
           have := placeAt_at hke hb
           omega
          clear hb
          go_wp2_with fail
          refine start_ (n := 14) (S := fun w' => w'.cell? (ad.add (k * 2)) = some (.int .i64 b.f0) ∧ w'.cell? ⟨g, 0, none⟩ = some (.int .i64 x.f0)) (ds := []) #[xX, xX, xX, xX, xX, xX, xX, xX, xX, xX, xX, xX, xX, xX] (by kernel_rfl) rfl rfl ⟨y0, z0⟩ (fun hHeld => ?_)
          refine uj (i := 0) (N := (some 54)) (v := ?_) (a' := ?_) (bA 14 1) rfl rfl (by kernel_rfl) (fun _ _ _ h => h) (Or.inl ⟨by rfl, ?_⟩) ?_ ?_
          rotate_left; (· (intro w'); go_simp; (with_reducible rfl)); rotate_left; (· (simp only [Act.put, ua, ub, uc, uh, ui]); rfl)
          refine uj (i := 1) (N := (some 55)) (v := ?_) (a' := ?_) (bA 14 3) rfl rfl (by kernel_rfl) (fun _ _ _ h => h) (Or.inl ⟨by rfl, ?_⟩) ?_ ?_
          rotate_left; (· (intro w'); go_simp; (with_reducible rfl)); rotate_left; (· (simp only [Act.put, ua, ub, uc, uh, ui]); rfl)
          refine uj (i := 2) (N := (some 56)) (v := ?_) (a' := ?_) (bA 14 7) rfl rfl (by kernel_rfl) (fun _ _ _ h => h) (Or.inl ⟨by rfl, ?_⟩) ?_ ?_
          rotate_left; (· (intro w'); go_simp; (with_reducible rfl)); rotate_left; (· (simp only [Act.put, ua, ub, uc, uh, ui]); rfl)
          refine uj (i := 3) (N := (some 57)) (v := ?_) (a' := ?_) (bA 14 15) rfl rfl (by kernel_rfl) (fun _ _ _ h => h) (Or.inl ⟨by rfl, ?_⟩) ?_ ?_
          rotate_left; (· (intro w'); go_simp; (with_reducible rfl)); rotate_left; (· (simp only [Act.put, ua, ub, uc, uh, ui]); rfl)
          refine uj (i := 4) (N := (some 58)) (v := ?_) (a' := ?_) (bA 14 31) rfl rfl (by kernel_rfl) (fun _ _ _ h => h) (Or.inl ⟨by rfl, ?_⟩) ?_ ?_
          rotate_left; (· (intro w'); go_simp; (with_reducible rfl)); rotate_left; (· (simp only [Act.put, ua, ub, uc, uh, ui]); rfl)
          refine uj (i := 5) (N := (some 59)) (v := ?_) (a' := ?_) (bA 14 63) rfl rfl (by kernel_rfl) (fun _ _ _ h => h) (Or.inl ⟨by rfl, ?_⟩) ?_ ?_
          rotate_left; (· (intro w'); go_simp; (with_reducible rfl)); rotate_left; (· (simp only [Act.put, ua, ub, uc, uh, ui]); rfl)
          refine uj (i := 6) (N := (some 60)) (v := ?_) (a' := ?_) (bA 14 127) rfl rfl (by kernel_rfl) (fun _ _ _ h => h) (Or.inl ⟨by rfl, ?_⟩) ?_ ?_
          rotate_left; (· (intro w'); go_simp; (with_reducible rfl)); rotate_left; (· (simp only [Act.put, ua, ub, uc, uh, ui]); rfl)
          refine uj (i := 7) (N := (some 61)) (v := ?_) (a' := ?_) (bA 14 255) rfl rfl (by kernel_rfl) (fun _ _ _ h => h) (Or.inl ⟨by rfl, ?_⟩) ?_ ?_
          rotate_left; (· (intro w'); go_simp; (with_reducible rfl)); rotate_left; (· (simp only [Act.put, ua, ub, uc, uh, ui]); rfl)
          refine uj (i := 8) (N := (some 62)) (v := ?_) (a' := ?_) (bA 14 511) rfl rfl (by kernel_rfl) (fun _ _ _ h => h) (Or.inl ⟨by rfl, ?_⟩) ?_ ?_
          rotate_left; (· (intro w'); go_simp; (with_reducible rfl)); rotate_left; (· (simp only [Act.put, ua, ub, uc, uh, ui]); rfl)
          refine uj (i := 10) (N := (some 64)) (v := ?_) (a' := ?_) (bA 14 1535) rfl rfl (by kernel_rfl) (fun _ _ _ h => h) (Or.inl ⟨by rfl, ?_⟩) ?_ ?_
          rotate_left; (· (intro w'); go_simp; (with_reducible rfl)); rotate_left; (· (simp only [Act.put, ua, ub, uc, uh, ui]); rfl)
          refine xk (i := 9) (N := (some 63)) (v := ?_) (a' := ?_) (bA 14 2047) rfl rfl (by kernel_rfl) (fun _ _ _ h => h) (Or.inl ⟨by rfl, ?_⟩) hHeld ?_ ?_
          rotate_left; (· (rintro w' ⟨s0, s1⟩); go_simp; (with_reducible rfl)); rotate_left; (· (simp only [Act.put, ua, ub, uc, uh, ui]); rfl)
          refine xk (i := 11) (N := (some 65)) (v := ?_) (a' := ?_) (bA 14 4095) rfl rfl (by kernel_rfl) (fun _ _ _ h => h) (Or.inl ⟨by rfl, ?_⟩) hHeld ?_ ?_
          rotate_left; (· (rintro w' ⟨s0, s1⟩); go_simp; (with_reducible rfl)); rotate_left; (· (simp only [Act.put, ua, ub, uc, uh, ui]); rfl)
          refine uj (i := 12) (N := (some 66)) (v := ?_) (a' := ?_) (bA 14 8191) rfl rfl (by kernel_rfl) (fun _ _ _ h => h) (Or.inl ⟨by rfl, ?_⟩) ?_ ?_
          rotate_left; (· (intro w'); go_simp; (with_reducible rfl)); rotate_left; (· (simp only [Act.put, ua, ub, uc, uh, ui]); rfl)
          refine uj (i := 13) (N := (some 67)) (v := ?_) (a' := ?_) (bA 14 16383) rfl rfl (by kernel_rfl) (fun _ _ _ h => h) (Or.inl ⟨by rfl, ?_⟩) ?_ ?_
          rotate_left; (· (intro w'); go_simp; (with_reducible rfl)); rotate_left; (· (simp only [Act.put, ua, ub, uc, uh, ui]); rfl)
          refine done_ (by kernel_rfl) ?_
          go_wp2_with fail
          go_meet
          exact ⟨by rw [hke], ⟨uo HB.out (below_drew (Below.refl _ _))⟩⟩
      · have hke : placeAt x cs = k := by omega
        go_wp2_with fail
        refine start_ (n := 14) (S := fun w' => True) (ds := []) #[xX, xX, xX, xX, xX, xX, xX, xX, xX, xX, xX, xX, xX, xX] (by kernel_rfl) rfl rfl trivial (fun hHeld => ?_)
        refine uj (i := 0) (N := (some 54)) (v := ?_) (a' := ?_) (bA 14 1) rfl rfl (by kernel_rfl) (fun _ _ _ h => h) (Or.inl ⟨by rfl, ?_⟩) ?_ ?_
        rotate_left; (· (intro w'); go_simp; (with_reducible rfl)); rotate_left; (· (simp only [Act.put, ua, ub, uc, uh, ui]); rfl)
        refine uj (i := 1) (N := (some 55)) (v := ?_) (a' := ?_) (bA 14 3) rfl rfl (by kernel_rfl) (fun _ _ _ h => h) (Or.inl ⟨by rfl, ?_⟩) ?_ ?_
        rotate_left; (· (intro w'); go_simp; (with_reducible rfl)); rotate_left; (· (simp only [Act.put, ua, ub, uc, uh, ui]); rfl)
        refine uj (i := 2) (N := (some 56)) (v := ?_) (a' := ?_) (bA 14 7) rfl rfl (by kernel_rfl) (fun _ _ _ h => h) (Or.inl ⟨by rfl, ?_⟩) ?_ ?_
        rotate_left; (· (intro w'); go_simp; (with_reducible rfl)); rotate_left; (· (simp only [Act.put, ua, ub, uc, uh, ui]); rfl)
        refine uj (i := 3) (N := (some 57)) (v := ?_) (a' := ?_) (bA 14 15) rfl rfl (by kernel_rfl) (fun _ _ _ h => h) (Or.inl ⟨by rfl, ?_⟩) ?_ ?_
        rotate_left; (· (intro w'); go_simp; (with_reducible rfl)); rotate_left; (· (simp only [Act.put, ua, ub, uc, uh, ui]); rfl)
        refine uj (i := 4) (N := (some 58)) (v := ?_) (a' := ?_) (bA 14 31) rfl rfl (by kernel_rfl) (fun _ _ _ h => h) (Or.inl ⟨by rfl, ?_⟩) ?_ ?_
        rotate_left; (· (intro w'); go_simp; (with_reducible rfl)); rotate_left; (· (simp only [Act.put, ua, ub, uc, uh, ui]); rfl)
        refine uj (i := 5) (N := (some 59)) (v := undef) (a' := ?_) (bA 14 63) rfl rfl (by kernel_rfl) (fun _ _ _ h => h) (Or.inr ⟨by rfl, rfl⟩) ?_ ?_
        rotate_left
        · simp only [Act.put, ua, ub, uc, uh, ui]
          rfl
        refine uj (i := 6) (N := (some 60)) (v := undef) (a' := ?_) (bA 14 127) rfl rfl (by kernel_rfl) (fun _ _ _ h => h) (Or.inr ⟨by rfl, rfl⟩) ?_ ?_
        rotate_left
        · simp only [Act.put, ua, ub, uc, uh, ui]
          rfl
        refine uj (i := 7) (N := (some 61)) (v := undef) (a' := ?_) (bA 14 255) rfl rfl (by kernel_rfl) (fun _ _ _ h => h) (Or.inr ⟨by rfl, rfl⟩) ?_ ?_
        rotate_left
        · simp only [Act.put, ua, ub, uc, uh, ui]
          rfl
        refine uj (i := 8) (N := (some 62)) (v := undef) (a' := ?_) (bA 14 511) rfl rfl (by kernel_rfl) (fun _ _ _ h => h) (Or.inr ⟨by rfl, rfl⟩) ?_ ?_
        rotate_left
        · simp only [Act.put, ua, ub, uc, uh, ui]
          rfl
        refine uj (i := 9) (N := (some 63)) (v := undef) (a' := ?_) (bA 14 1023) rfl rfl (by kernel_rfl) (fun _ _ _ h => h) (Or.inr ⟨by rfl, rfl⟩) ?_ ?_
        rotate_left
        · simp only [Act.put, ua, ub, uc, uh, ui]
          rfl
        refine uj (i := 10) (N := (some 64)) (v := undef) (a' := ?_) (bA 14 2047) rfl rfl (by kernel_rfl) (fun _ _ _ h => h) (Or.inr ⟨by rfl, rfl⟩) ?_ ?_
        rotate_left
        · simp only [Act.put, ua, ub, uc, uh, ui]
          rfl
        refine uj (i := 11) (N := (some 65)) (v := undef) (a' := ?_) (bA 14 4095) rfl rfl (by kernel_rfl) (fun _ _ _ h => h) (Or.inr ⟨by rfl, rfl⟩) ?_ ?_
        rotate_left
        · simp only [Act.put, ua, ub, uc, uh, ui]
          rfl
        refine uj (i := 12) (N := (some 66)) (v := undef) (a' := ?_) (bA 14 8191) rfl rfl (by kernel_rfl) (fun _ _ _ h => h) (Or.inr ⟨by rfl, rfl⟩) ?_ ?_
        rotate_left
        · simp only [Act.put, ua, ub, uc, uh, ui]
          rfl
        refine uj (i := 13) (N := (some 67)) (v := ?_) (a' := ?_) (bA 14 16383) rfl rfl (by kernel_rfl) (fun _ _ _ h => h) (Or.inl ⟨by rfl, ?_⟩) ?_ ?_
        rotate_left; (· (intro w'); go_simp; (with_reducible rfl)); rotate_left; (· (simp only [Act.put, ua, ub, uc, uh, ui]); rfl)
        refine done_ (by kernel_rfl) ?_
        go_wp2_with fail
        go_meet
        exact ⟨by rw [hke], ⟨uo HB.out (below_drew (Below.refl _ _))⟩⟩
    case rest =>
     obtain ⟨rfl, HBZ⟩ := hcut
     rename World => wz
     have HSTz := Aside0.mk (HST.out.below HBZ.out)
     have HPZ := Aside0.mk (HS.out.below (below_then HST.out.bel HST.out.bel.size HBZ.out))
     replace z0 := HSTz.out.c0
     replace z1 := HSTz.out.c1
     have HGPz := Aside0.mk (show p < wz.heap.size ∧ g < wz.heap.size from ⟨HPZ.out.lt, HSTz.out.g4.2⟩)
     have HXa := Aside0.mk (Kd.V_at HSTz.out.val)
     have HXV := Aside0.mk (show x.f1.length ≤ cu ∧ Kd.F k46 wz (fun k => OK k ∧ k < wz.heap.size) Au x.f1.length x.f1 from ⟨HXa.out.2.1, Kd.F_mono (Kd.F_bound HXa.out.2.2) (fun k hk => ⟨by rw [HOKE.out]; exact hk.1, hk.2⟩)⟩)
     obtain ⟨T, D, AD, cD, hT, hD, hct, hcf, hf1, hf2, hcD⟩ := rcutsAt HSTz.out.row hpn
     have HCU := Aside0.mk (And.intro hf1 hf2)
     rw [← HOKE.out] at HCU
     have HTQ := Aside0.mk (And.intro hT hD)
     have hTl : T.length ≤ 900 := by rw [hT, uq]; omega
     have hDl : D.length ≤ 900 := by rw [hD, ur]; omega
     have HOK := Aside0.mk (show ∀ k, wz.heap.size ≤ k → OK k from fun k hk => by rw [HOKE.out]; have := HGPz.out; exact ⟨by omega, by omega⟩)
     obtain ⟨RF, hRF⟩ : ∃ RF, RF = T ++ [toR x] ++ D := ⟨_, rfl⟩
     have HRF := Aside0.mk hRF
     clear hT hD hf1 hf2 hRF HXa
     go_wp2_with fail
     have HB := Aside0.mk (below_drew (Below.refl wz.heap.size wz))
     refine start_ (n := 16) (S := fun w' => w'.cell? ⟨g, 0, none⟩ = some (.int .i64 x.f0) ∧ w'.cell? ⟨g, 1, none⟩ = some (.slice Au x.f1.length cu)) (ds := [15]) #[xX, xX, xX, xX, xX, xX, xX, xX, xX, xX, xX, xX, xX, xX, xX, xX] (by kernel_rfl) rfl rfl ⟨z0, z1⟩ (fun hHeld => ?_)
     refine uj (i := 0) (N := (some 70)) (v := ?_) (a' := ?_) (bA 16 1) rfl rfl (by kernel_rfl) (fun _ _ _ h => h) (Or.inl ⟨by rfl, ?_⟩) ?_ ?_
     rotate_left; (· (intro w'); go_simp; (with_reducible rfl)); rotate_left; (· (simp only [Act.put, ua, ub, uc, uh, ui]); rfl)
     refine uj (i := 2) (N := (some 72)) (v := ?_) (a' := ?_) (bA 16 5) rfl rfl (by kernel_rfl) (fun _ _ _ h => h) (Or.inl ⟨by rfl, ?_⟩) ?_ ?_
     rotate_left; (· (intro w'); go_simp; (with_reducible rfl)); rotate_left; (· (simp only [Act.put, ua, ub, uc, uh, ui]); rfl)
     refine uj (i := 3) (N := (some 73)) (v := ?_) (a' := ?_) (bA 16 13) rfl rfl (by kernel_rfl) (fun _ _ _ h => h) (Or.inl ⟨by rfl, ?_⟩) ?_ ?_
     rotate_left; (· (intro w'); go_simp; (with_reducible rfl)); rotate_left; (· (simp only [Act.put, ua, ub, uc, uh, ui]); rfl)
     refine uj (i := 4) (N := (some 74)) (v := ?_) (a' := ?_) (bA 16 29) rfl rfl (by kernel_rfl) (fun _ _ _ h => h) (Or.inl ⟨by rfl, ?_⟩) ?_ ?_
     rotate_left; (· (intro w'); go_simp; (with_reducible rfl)); rotate_left; (· (simp only [Act.put, ua, ub, uc, uh, ui]); rfl)
     refine uj (i := 9) (N := (some 79)) (v := ?_) (a' := ?_) (bA 16 541) rfl rfl (by kernel_rfl) (fun _ _ _ h => h) (Or.inl ⟨by rfl, ?_⟩) ?_ ?_
     rotate_left; (· (intro w'); go_simp; (with_reducible rfl)); rotate_left; (· (simp only [Act.put, ua, ub, uc, uh, ui]); rfl)
     refine uj (i := 10) (N := (some 80)) (v := ?_) (a' := ?_) (bA 16 1565) rfl rfl (by kernel_rfl) (fun _ _ _ h => h) (Or.inl ⟨by rfl, ?_⟩) ?_ ?_
     rotate_left; (· (intro w'); go_simp; (with_reducible rfl)); rotate_left; (· (simp only [Act.put, ua, ub, uc, uh, ui]); rfl)
     refine uj (i := 11) (N := (some 81)) (v := ?_) (a' := ?_) (bA 16 3613) rfl rfl (by kernel_rfl) (fun _ _ _ h => h) (Or.inl ⟨by rfl, ?_⟩) ?_ ?_
     rotate_left; (· (intro w'); go_simp; (with_reducible rfl)); rotate_left; (· (simp only [Act.put, ua, ub, uc, uh, ui]); rfl)
     refine xk (i := 6) (N := (some 76)) (v := ?_) (a' := ?_) (bA 16 3677) rfl rfl (by kernel_rfl) (fun _ _ _ h => h) (Or.inl ⟨by rfl, ?_⟩) hHeld ?_ ?_
     rotate_left; (· (rintro w' ⟨s0, s1⟩); go_simp; (with_reducible rfl)); rotate_left; (· (simp only [Act.put, ua, ub, uc, uh, ui]); rfl)
     refine two_ (i := 1) (j := 7) (Ni := (some 71)) (Nj := (some 77)) #[yY, yY, yY, yY, yY, xX, yY, xX, xX, yY, yY, yY, xX, xX, xX, xX] #[yY, xX, yY, yY, yY, xX, yY, yY, xX, yY, yY, yY, xX, xX, xX, xX] rfl rfl rfl rfl (by kernel_rfl) (by decide) (by decide) (fun K hK => ?_) (fun K hK => ?_)
     · skip
       refine Kd.N_lit_step k70 _ 70 ?hg (N' := 71) ?hd (xs := ([] : List RBk)) (inner := []) (ok := OK) (okp := fun _ => False) ?hr ?hp (fun _ hk => hk.elim) ?hf (Below.refl _ _) (vn _) (by simp) ?_; (case hd => rfl); (case hg => rfl); (case hr => first | (go_simp; done) | (go_simp; rfl)); (case hp => exact (Reps.none _ _)); (case hf => exact HOK.out _ HB.out.size)
       intro vC wC ho6 hb6 hg6 hnew6
       (try (have HLn := Aside0.mk (show Kd.F k70 wC (fun k => OK k ∧ some k ≠ vC.ownBlock) _ _ [toR x] from Kd.F_mono (xg (Kd.F_bound HL.out) hb6) (fun k hk => ⟨hk.1, fun e => by obtain ⟨b', h1, h2⟩ := hnew6; rw [h1] at e; injection e with e; have := hk.2; omega⟩)); clear HL; have HL := HLn; clear HLn))
       have n_ := Aside0.mk (Kd.N_lower ho6 HB.out.size)
       (try clear HO)
       have HO := n_
       clear n_
       have n_ := Aside0.mk (uo HB.out hb6)
       (try clear HB)
       have HB := n_
       clear n_
       clear ho6 hb6 hg6 hnew6
       refine hK.out _ _ ⟨us HB.out z0, us HB.out z1⟩ (fun hHeld => ?_)
       clear hK K
       refine xj (a' := ?_) ?_ ?_; rotate_left; (· (show Act.put _ (some 71) _ = _); (simp only [Act.put, ua, ub, uc, uh, ui]); rfl)
       refine two_ (i := 5) (j := 7) (Ni := (some 75)) (Nj := (some 77)) #[yY, yY, yY, yY, yY, yY, yY, xX, xX, yY, yY, yY, xX, xX, xX, xX] #[yY, yY, yY, yY, yY, xX, yY, yY, xX, yY, yY, yY, xX, xX, xX, xX] rfl rfl rfl rfl (by kernel_rfl) (by decide) (by decide) (fun K hK => ?_) (fun K hK => ?_)
       · skip
         refine xd k70 (w0 := wz) wz.heap.size (by rfl) (.tmp 71) (.tmp 74) 27 70 (.agg #[.int .i64 0, .slice none 0 0]) 32 rfl Try.underlying27 infoRB rfl (by decide) (by decide) _ ([] : List RBk) T _ _ _ OK (fun k => OK k ∧ k < wz.heap.size) rfl rfl HO.out (xg (Kd.F_bound HCU.out.1) HB.out) (fun k hk => ⟨hk.1, fun e => by have h1 := Kd.N_base HO.out k e.symm; have := hk.2; omega⟩) (fun k hk => HOK.out k (Nat.le_trans HB.out.size hk)) HB.out HB.out.size (by (try simp only [List.length_nil, List.length_append, List.length_cons]); omega) ?_
         intro vD wC ho hb hg hat
         (try rw [List.nil_append] at ho)
         (try (have HLn := Aside0.mk (Kd.F_after HL.out hg hat); clear HL; have HL := HLn; clear HLn))
         clear HO HB
         obtain ⟨vC, hvC⟩ : ∃ vC, vC = vD := ⟨_, rfl⟩
         subst hvC
         have HO := Aside0.mk ho
         have HB := Aside0.mk hb
         clear ho hb hg hat
         refine hK.out _ _ ⟨us HB.out z0, us HB.out z1⟩ (fun hHeld => ?_)
         clear hK K
         refine xj (a' := ?_) ?_ ?_; rotate_left; (· (show Act.put _ (some 75) _ = _); (simp only [Act.put, ua, ub, uc, uh, ui]); rfl)
         refine one_ (i := 7) (N := (some 77)) #[yY, yY, yY, yY, yY, yY, yY, yY, xX, yY, yY, yY, xX, xX, xX, xX] rfl rfl (by kernel_rfl) (by decide) (fun K hK => ?_)
         first
          | (refine Kd.N_lit_step k70 _ 70 ?hg (N' := 77) ?hd (xs := [toR x]) (inner := [.int .i64 x.f0, .slice Au x.f1.length cu]) (ok := (fun k => OK k ∧ some k ≠ vC.ownBlock)) (okp := fun k => OK k ∧ k < wz.heap.size) ?hr ?hp (fun k hk => ⟨hk.1, fun e => by have := Kd.N_base HO.out k e.symm; have := hk.2; omega⟩) ?hf (Below.refl _ _) (vn _) (by simp) ?_; (case hd => rfl); (case hg => rfl); (case hr => first | (go_simp; done) | (go_simp; rfl)); (case hp => exact reps_oneR (k70_mkF _ _ (toR x) HXV.out.1 (xg HXV.out.2 HB.out))); (case hf => exact ⟨HOK.out _ HB.out.size, fun e => by have := Kd.N_lt HO.out _ e.symm; omega⟩); intro vL wL ho6 hb6 hg6 hnew6; (try (have HOn := Aside0.mk (xu HO.out hb6); clear HO; have HO := HOn; clear HOn)))
          | (refine Kd.N_lit_step k70 _ 70 ?hg (N' := 77) ?hd (xs := [toR x]) (inner := [.int .i64 x.f0, .slice Au x.f1.length cu]) (ok := OK) (okp := fun k => OK k ∧ k < wz.heap.size) ?hr ?hp (fun k hk => hk.1) ?hf (Below.refl _ _) (vn _) (by simp) ?_; (case hd => rfl); (case hg => rfl); (case hr => first | (go_simp; done) | (go_simp; rfl)); (case hp => exact reps_oneR (k70_mkF _ _ (toR x) HXV.out.1 (xg HXV.out.2 HB.out))); (case hf => exact HOK.out _ HB.out.size); intro vL wL ho6 hb6 hg6 hnew6; (try (have HOn := Aside0.mk (xu HO.out hb6); clear HO; have HO := HOn; clear HOn)))
         obtain ⟨AL, cL, e_⟩ := xt ho6
         subst e_
         have HL := Aside0.mk (Kd.N_F ho6)
         have n_ := Aside0.mk (uo HB.out hb6)
         (try clear HB)
         have HB := n_
         clear n_
         clear ho6 hb6 hg6 hnew6
         refine hK.out _ _ ⟨us HB.out z0, us HB.out z1⟩ (fun hHeld => ?_)
         clear hK K
         refine xj (a' := ?_) ?_ ?_; rotate_left; (· (show Act.put _ (some 77) _ = _); (simp only [Act.put, ua, ub, uc, uh, ui]); rfl)
         refine one_ (i := 8) (N := (some 78)) #[yY, yY, yY, yY, yY, yY, yY, yY, yY, yY, yY, yY, xX, xX, xX, xX] rfl rfl (by kernel_rfl) (by decide) (fun K hK => ?_)
         refine xd k70 (w0 := wz) wz.heap.size (by rfl) (.tmp 75) (.tmp 77) 27 70 (.agg #[.int .i64 0, .slice none 0 0]) 32 rfl Try.underlying27 infoRB rfl (by decide) (by decide) _ T [toR x] _ _ _ OK (fun k => OK k ∧ some k ≠ vC.ownBlock) rfl rfl HO.out HL.out (fun k hk => hk) (fun k hk => HOK.out k (Nat.le_trans HB.out.size hk)) HB.out HB.out.size (by (try simp only [List.length_nil, List.length_append, List.length_cons]); omega) ?_
         intro vD wC ho hb hg hat
         (try rw [List.nil_append] at ho)
         (try (have HLn := Aside0.mk (Kd.F_after HL.out hg hat); clear HL; have HL := HLn; clear HLn))
         clear HO HB
         obtain ⟨vC, hvC⟩ : ∃ vC, vC = vD := ⟨_, rfl⟩
         subst hvC
         have HO := Aside0.mk ho
         have HB := Aside0.mk hb
         clear ho hb hg hat
         refine hK.out _ _ ⟨us HB.out z0, us HB.out z1⟩ (fun hHeld => ?_)
         clear hK K
         refine xj (a' := ?_) ?_ ?_; rotate_left; (· (show Act.put _ (some 78) _ = _); (simp only [Act.put, ua, ub, uc, uh, ui]); rfl)
         refine one_ (i := 12) (N := (some 82)) #[yY, yY, yY, yY, yY, yY, yY, yY, yY, yY, yY, yY, yY, xX, xX, xX] rfl rfl (by kernel_rfl) (by decide) (fun K hK => ?_)
         refine xd k70 (w0 := wz) wz.heap.size (by rfl) (.tmp 78) (.tmp 81) 27 70 (.agg #[.int .i64 0, .slice none 0 0]) 32 rfl Try.underlying27 infoRB rfl (by decide) (by decide) _ (T ++ [toR x]) D _ _ _ OK (fun k => OK k ∧ k < wz.heap.size) rfl rfl HO.out (xg (Kd.F_bound HCU.out.2) HB.out) (fun k hk => ⟨hk.1, fun e => by have h1 := Kd.N_base HO.out k e.symm; have := hk.2; omega⟩) (fun k hk => HOK.out k (Nat.le_trans HB.out.size hk)) HB.out HB.out.size (by (try simp only [List.length_nil, List.length_append, List.length_cons]); omega) ?_
         intro vD wC ho hb hg hat
         (try rw [List.nil_append] at ho)
         (try (have HLn := Aside0.mk (Kd.F_after HL.out hg hat); clear HL; have HL := HLn; clear HLn))
         clear HO HB
         obtain ⟨vC, hvC⟩ : ∃ vC, vC = vD := ⟨_, rfl⟩
         subst hvC
         have HO := Aside0.mk ho
         have HB := Aside0.mk hb
         clear ho hb hg hat
         have HO_ := HO.out
         rw [← HRF.out] at HO_
         obtain ⟨AF, cF, e_⟩ := xt HO_
         subst e_
         clear HO
         have HO := Aside0.mk HO_
         clear HO_
         have hp_ := HPZ.out.below HB.out
         have q0 := hp_.cell0
         have q1 := hp_.cell1
         have g0 := hp_.froz 0
         have g1 := hp_.froz 1
         have HPC := Aside0.mk hp_
         clear hp_
         refine hK.out _ _ ⟨us HB.out z0, us HB.out z1⟩ (fun hHeld => ?_)
         clear hK K
         refine xj (a' := ?_) ?_ ?_; rotate_left; (· (show Act.put _ (some 82) _ = _); (simp only [Act.put, ua, ub, uc, uh, ui]); rfl)
         refine uj (i := 13) (N := (some 83)) (v := ?_) (a' := ?_) (bA 16 16383) rfl rfl (by kernel_rfl) (fun _ _ _ h => h) (Or.inl ⟨by rfl, ?_⟩) ?_ ?_
         rotate_left; (· (intro w'); go_simp; (with_reducible rfl)); rotate_left; (· (simp only [Act.put, ua, ub, uc, uh, ui]); rfl)
         refine uj (i := 14) (N := (some 84)) (v := ?_) (a' := ?_) (bA 16 32767) rfl rfl (by kernel_rfl) (fun _ _ _ h => h) (Or.inl ⟨by rfl, ?_⟩) ?_ ?_
         rotate_left; (· (intro w'); go_simp; (with_reducible rfl)); rotate_left; (· (simp only [Act.put, ua, ub, uc, uh, ui]); rfl)
         refine last_ (i := 15) (N := none) #[yY, yY, yY, yY, yY, yY, yY, yY, yY, yY, yY, yY, yY, yY, yY, yY] rfl rfl (by kernel_rfl) (by decide) (fun K hK => ?_)
         go_simp
         refine hK.out _ _ ?_
         clear hK K
         (try simp only [Act.put, ua, ub, uc, uh, ui])
         refine done_ (by kernel_rfl) ?_
         have HN2 := Aside0.mk (Kd.V_mk (Kd.N_reads' HO.out).2.1 (Kd.N_F HO.out) (e := 70) (base := 0))
         have HB3 := Aside0.mk (uo HST.out.bel (uo HBZ.out HB.out))
         have hvw : IntKind.u64.wrap (ver + 1) = ver + 1 := IntWalk.u64_in _ (by have := HV.out; omega)
         go_wp2_with fail
         refine ⟨rfl, .tuple #[], by simp [results, Try.results12, go_sem], rfl, _, ⟨blk_put (blk_put HPC.out.hd 1 (.slice AF RF.length cF) rfl) 0 (.int .u64 (ver + 1)) rfl, ?_, HS.out.lo⟩, ?_⟩
         · rw [HPA.out.done HF2.out, ← HTQ.out.1, ← HTQ.out.2, ← HRF.out]; exact Kd.V_far (Kd.V_far (Kd.V_mono HN2.out (fun k hk => by rw [HOKE.out] at hk; exact hk.1)) (p := ⟨p, 1, none⟩) (fun k hk => hk) _) (p := ⟨p, 0, none⟩) (fun k hk => hk) _
         · exact set2_grown ⟨HB3.out.os, HB3.out.tape, HB3.out.output, HB3.out.size, fun k hk _ => HB3.out.block k hk⟩
       · skip
         first
          | (refine Kd.N_lit_step k70 _ 70 ?hg (N' := 77) ?hd (xs := [toR x]) (inner := [.int .i64 x.f0, .slice Au x.f1.length cu]) (ok := (fun k => OK k ∧ some k ≠ vC.ownBlock)) (okp := fun k => OK k ∧ k < wz.heap.size) ?hr ?hp (fun k hk => ⟨hk.1, fun e => by have := Kd.N_base HO.out k e.symm; have := hk.2; omega⟩) ?hf (Below.refl _ _) (vn _) (by simp) ?_; (case hd => rfl); (case hg => rfl); (case hr => first | (go_simp; done) | (go_simp; rfl)); (case hp => exact reps_oneR (k70_mkF _ _ (toR x) HXV.out.1 (xg HXV.out.2 HB.out))); (case hf => exact ⟨HOK.out _ HB.out.size, fun e => by have := Kd.N_lt HO.out _ e.symm; omega⟩); intro vL wL ho6 hb6 hg6 hnew6; (try (have HOn := Aside0.mk (xu HO.out hb6); clear HO; have HO := HOn; clear HOn)))
          | (refine Kd.N_lit_step k70 _ 70 ?hg (N' := 77) ?hd (xs := [toR x]) (inner := [.int .i64 x.f0, .slice Au x.f1.length cu]) (ok := OK) (okp := fun k => OK k ∧ k < wz.heap.size) ?hr ?hp (fun k hk => hk.1) ?hf (Below.refl _ _) (vn _) (by simp) ?_; (case hd => rfl); (case hg => rfl); (case hr => first | (go_simp; done) | (go_simp; rfl)); (case hp => exact reps_oneR (k70_mkF _ _ (toR x) HXV.out.1 (xg HXV.out.2 HB.out))); (case hf => exact HOK.out _ HB.out.size); intro vL wL ho6 hb6 hg6 hnew6; (try (have HOn := Aside0.mk (xu HO.out hb6); clear HO; have HO := HOn; clear HOn)))
         obtain ⟨AL, cL, e_⟩ := xt ho6
         subst e_
         have HL := Aside0.mk (Kd.N_F ho6)
         have n_ := Aside0.mk (uo HB.out hb6)
         (try clear HB)
         have HB := n_
         clear n_
         clear ho6 hb6 hg6 hnew6
         refine hK.out _ _ ⟨us HB.out z0, us HB.out z1⟩ (fun hHeld => ?_)
         clear hK K
         refine xj (a' := ?_) ?_ ?_; rotate_left; (· (show Act.put _ (some 77) _ = _); (simp only [Act.put, ua, ub, uc, uh, ui]); rfl)
         refine one_ (i := 5) (N := (some 75)) #[yY, yY, yY, yY, yY, yY, yY, yY, xX, yY, yY, yY, xX, xX, xX, xX] rfl rfl (by kernel_rfl) (by decide) (fun K hK => ?_)
         refine xd k70 (w0 := wz) wz.heap.size (by rfl) (.tmp 71) (.tmp 74) 27 70 (.agg #[.int .i64 0, .slice none 0 0]) 32 rfl Try.underlying27 infoRB rfl (by decide) (by decide) _ ([] : List RBk) T _ _ _ OK (fun k => OK k ∧ k < wz.heap.size) rfl rfl HO.out (xg (Kd.F_bound HCU.out.1) HB.out) (fun k hk => ⟨hk.1, fun e => by have h1 := Kd.N_base HO.out k e.symm; have := hk.2; omega⟩) (fun k hk => HOK.out k (Nat.le_trans HB.out.size hk)) HB.out HB.out.size (by (try simp only [List.length_nil, List.length_append, List.length_cons]); omega) ?_
         intro vD wC ho hb hg hat
         (try rw [List.nil_append] at ho)
         (try (have HLn := Aside0.mk (Kd.F_after HL.out hg hat); clear HL; have HL := HLn; clear HLn))
         clear HO HB
         obtain ⟨vC, hvC⟩ : ∃ vC, vC = vD := ⟨_, rfl⟩
         subst hvC
         have HO := Aside0.mk ho
         have HB := Aside0.mk hb
         clear ho hb hg hat
         refine hK.out _ _ ⟨us HB.out z0, us HB.out z1⟩ (fun hHeld => ?_)
         clear hK K
         refine xj (a' := ?_) ?_ ?_; rotate_left; (· (show Act.put _ (some 75) _ = _); (simp only [Act.put, ua, ub, uc, uh, ui]); rfl)
         refine one_ (i := 8) (N := (some 78)) #[yY, yY, yY, yY, yY, yY, yY, yY, yY, yY, yY, yY, xX, xX, xX, xX] rfl rfl (by kernel_rfl) (by decide) (fun K hK => ?_)
         refine xd k70 (w0 := wz) wz.heap.size (by rfl) (.tmp 75) (.tmp 77) 27 70 (.agg #[.int .i64 0, .slice none 0 0]) 32 rfl Try.underlying27 infoRB rfl (by decide) (by decide) _ T [toR x] _ _ _ OK (fun k => OK k ∧ some k ≠ vC.ownBlock) rfl rfl HO.out HL.out (fun k hk => hk) (fun k hk => HOK.out k (Nat.le_trans HB.out.size hk)) HB.out HB.out.size (by (try simp only [List.length_nil, List.length_append, List.length_cons]); omega) ?_
         intro vD wC ho hb hg hat
         (try rw [List.nil_append] at ho)
         (try (have HLn := Aside0.mk (Kd.F_after HL.out hg hat); clear HL; have HL := HLn; clear HLn))
         clear HO HB
         obtain ⟨vC, hvC⟩ : ∃ vC, vC = vD := ⟨_, rfl⟩
         subst hvC
         have HO := Aside0.mk ho
         have HB := Aside0.mk hb
         clear ho hb hg hat
         refine hK.out _ _ ⟨us HB.out z0, us HB.out z1⟩ (fun hHeld => ?_)
         clear hK K
         refine xj (a' := ?_) ?_ ?_; rotate_left; (· (show Act.put _ (some 78) _ = _); (simp only [Act.put, ua, ub, uc, uh, ui]); rfl)
         refine one_ (i := 12) (N := (some 82)) #[yY, yY, yY, yY, yY, yY, yY, yY, yY, yY, yY, yY, yY, xX, xX, xX] rfl rfl (by kernel_rfl) (by decide) (fun K hK => ?_)
         refine xd k70 (w0 := wz) wz.heap.size (by rfl) (.tmp 78) (.tmp 81) 27 70 (.agg #[.int .i64 0, .slice none 0 0]) 32 rfl Try.underlying27 infoRB rfl (by decide) (by decide) _ (T ++ [toR x]) D _ _ _ OK (fun k => OK k ∧ k < wz.heap.size) rfl rfl HO.out (xg (Kd.F_bound HCU.out.2) HB.out) (fun k hk => ⟨hk.1, fun e => by have h1 := Kd.N_base HO.out k e.symm; have := hk.2; omega⟩) (fun k hk => HOK.out k (Nat.le_trans HB.out.size hk)) HB.out HB.out.size (by (try simp only [List.length_nil, List.length_append, List.length_cons]); omega) ?_
         intro vD wC ho hb hg hat
         (try rw [List.nil_append] at ho)
         (try (have HLn := Aside0.mk (Kd.F_after HL.out hg hat); clear HL; have HL := HLn; clear HLn))
         clear HO HB
         obtain ⟨vC, hvC⟩ : ∃ vC, vC = vD := ⟨_, rfl⟩
         subst hvC
         have HO := Aside0.mk ho
         have HB := Aside0.mk hb
         clear ho hb hg hat
         have HO_ := HO.out
         rw [← HRF.out] at HO_
         obtain ⟨AF, cF, e_⟩ := xt HO_
         subst e_
         clear HO
         have HO := Aside0.mk HO_
         clear HO_
         have hp_ := HPZ.out.below HB.out
         have q0 := hp_.cell0
         have q1 := hp_.cell1
         have g0 := hp_.froz 0
         have g1 := hp_.froz 1
         have HPC := Aside0.mk hp_
         clear hp_
         refine hK.out _ _ ⟨us HB.out z0, us HB.out z1⟩ (fun hHeld => ?_)
         clear hK K
         refine xj (a' := ?_) ?_ ?_; rotate_left; (· (show Act.put _ (some 82) _ = _); (simp only [Act.put, ua, ub, uc, uh, ui]); rfl)
         refine uj (i := 13) (N := (some 83)) (v := ?_) (a' := ?_) (bA 16 16383) rfl rfl (by kernel_rfl) (fun _ _ _ h => h) (Or.inl ⟨by rfl, ?_⟩) ?_ ?_
         rotate_left; (· (intro w'); go_simp; (with_reducible rfl)); rotate_left; (· (simp only [Act.put, ua, ub, uc, uh, ui]); rfl)
         refine uj (i := 14) (N := (some 84)) (v := ?_) (a' := ?_) (bA 16 32767) rfl rfl (by kernel_rfl) (fun _ _ _ h => h) (Or.inl ⟨by rfl, ?_⟩) ?_ ?_
         rotate_left; (· (intro w'); go_simp; (with_reducible rfl)); rotate_left; (· (simp only [Act.put, ua, ub, uc, uh, ui]); rfl)
         refine last_ (i := 15) (N := none) #[yY, yY, yY, yY, yY, yY, yY, yY, yY, yY, yY, yY, yY, yY, yY, yY] rfl rfl (by kernel_rfl) (by decide) (fun K hK => ?_)
         go_simp
         refine hK.out _ _ ?_
         clear hK K
         (try simp only [Act.put, ua, ub, uc, uh, ui])
         refine done_ (by kernel_rfl) ?_
         have HN2 := Aside0.mk (Kd.V_mk (Kd.N_reads' HO.out).2.1 (Kd.N_F HO.out) (e := 70) (base := 0))
         have HB3 := Aside0.mk (uo HST.out.bel (uo HBZ.out HB.out))
         have hvw : IntKind.u64.wrap (ver + 1) = ver + 1 := IntWalk.u64_in _ (by have := HV.out; omega)
         go_wp2_with fail
         refine ⟨rfl, .tuple #[], by simp [results, Try.results12, go_sem], rfl, _, ⟨blk_put (blk_put HPC.out.hd 1 (.slice AF RF.length cF) rfl) 0 (.int .u64 (ver + 1)) rfl, ?_, HS.out.lo⟩, ?_⟩
         · rw [HPA.out.done HF2.out, ← HTQ.out.1, ← HTQ.out.2, ← HRF.out]; exact Kd.V_far (Kd.V_far (Kd.V_mono HN2.out (fun k hk => by rw [HOKE.out] at hk; exact hk.1)) (p := ⟨p, 1, none⟩) (fun k hk => hk) _) (p := ⟨p, 0, none⟩) (fun k hk => hk) _
         · exact set2_grown ⟨HB3.out.os, HB3.out.tape, HB3.out.output, HB3.out.size, fun k hk _ => HB3.out.block k hk⟩
     · skip
       first
        | (refine Kd.N_lit_step k70 _ 70 ?hg (N' := 77) ?hd (xs := [toR x]) (inner := [.int .i64 x.f0, .slice Au x.f1.length cu]) (ok := (fun k => OK k ∧ some k ≠ vC.ownBlock)) (okp := fun k => OK k ∧ k < wz.heap.size) ?hr ?hp (fun k hk => ⟨hk.1, fun e => by have := Kd.N_base HO.out k e.symm; have := hk.2; omega⟩) ?hf (Below.refl _ _) (vn _) (by simp) ?_; (case hd => rfl); (case hg => rfl); (case hr => first | (go_simp; done) | (go_simp; rfl)); (case hp => exact reps_oneR (k70_mkF _ _ (toR x) HXV.out.1 (xg HXV.out.2 HB.out))); (case hf => exact ⟨HOK.out _ HB.out.size, fun e => by have := Kd.N_lt HO.out _ e.symm; omega⟩); intro vL wL ho6 hb6 hg6 hnew6; (try (have HOn := Aside0.mk (xu HO.out hb6); clear HO; have HO := HOn; clear HOn)))
        | (refine Kd.N_lit_step k70 _ 70 ?hg (N' := 77) ?hd (xs := [toR x]) (inner := [.int .i64 x.f0, .slice Au x.f1.length cu]) (ok := OK) (okp := fun k => OK k ∧ k < wz.heap.size) ?hr ?hp (fun k hk => hk.1) ?hf (Below.refl _ _) (vn _) (by simp) ?_; (case hd => rfl); (case hg => rfl); (case hr => first | (go_simp; done) | (go_simp; rfl)); (case hp => exact reps_oneR (k70_mkF _ _ (toR x) HXV.out.1 (xg HXV.out.2 HB.out))); (case hf => exact HOK.out _ HB.out.size); intro vL wL ho6 hb6 hg6 hnew6; (try (have HOn := Aside0.mk (xu HO.out hb6); clear HO; have HO := HOn; clear HOn)))
       obtain ⟨AL, cL, e_⟩ := xt ho6
       subst e_
       have HL := Aside0.mk (Kd.N_F ho6)
       have n_ := Aside0.mk (uo HB.out hb6)
       (try clear HB)
       have HB := n_
       clear n_
       clear ho6 hb6 hg6 hnew6
       refine hK.out _ _ ⟨us HB.out z0, us HB.out z1⟩ (fun hHeld => ?_)
       clear hK K
       refine xj (a' := ?_) ?_ ?_; rotate_left; (· (show Act.put _ (some 77) _ = _); (simp only [Act.put, ua, ub, uc, uh, ui]); rfl)
       refine one_ (i := 1) (N := (some 71)) #[yY, yY, yY, yY, yY, xX, yY, yY, xX, yY, yY, yY, xX, xX, xX, xX] rfl rfl (by kernel_rfl) (by decide) (fun K hK => ?_)
       refine Kd.N_lit_step k70 _ 70 ?hg (N' := 71) ?hd (xs := ([] : List RBk)) (inner := []) (ok := OK) (okp := fun _ => False) ?hr ?hp (fun _ hk => hk.elim) ?hf (Below.refl _ _) (vn _) (by simp) ?_; (case hd => rfl); (case hg => rfl); (case hr => first | (go_simp; done) | (go_simp; rfl)); (case hp => exact (Reps.none _ _)); (case hf => exact HOK.out _ HB.out.size)
       intro vC wC ho6 hb6 hg6 hnew6
       (try (have HLn := Aside0.mk (show Kd.F k70 wC (fun k => OK k ∧ some k ≠ vC.ownBlock) _ _ [toR x] from Kd.F_mono (xg (Kd.F_bound HL.out) hb6) (fun k hk => ⟨hk.1, fun e => by obtain ⟨b', h1, h2⟩ := hnew6; rw [h1] at e; injection e with e; have := hk.2; omega⟩)); clear HL; have HL := HLn; clear HLn))
       have n_ := Aside0.mk (Kd.N_lower ho6 HB.out.size)
       (try clear HO)
       have HO := n_
       clear n_
       have n_ := Aside0.mk (uo HB.out hb6)
       (try clear HB)
       have HB := n_
       clear n_
       clear ho6 hb6 hg6 hnew6
       refine hK.out _ _ ⟨us HB.out z0, us HB.out z1⟩ (fun hHeld => ?_)
       clear hK K
       refine xj (a' := ?_) ?_ ?_; rotate_left; (· (show Act.put _ (some 71) _ = _); (simp only [Act.put, ua, ub, uc, uh, ui]); rfl)
       refine one_ (i := 5) (N := (some 75)) #[yY, yY, yY, yY, yY, yY, yY, yY, xX, yY, yY, yY, xX, xX, xX, xX] rfl rfl (by kernel_rfl) (by decide) (fun K hK => ?_)
       refine xd k70 (w0 := wz) wz.heap.size (by rfl) (.tmp 71) (.tmp 74) 27 70 (.agg #[.int .i64 0, .slice none 0 0]) 32 rfl Try.underlying27 infoRB rfl (by decide) (by decide) _ ([] : List RBk) T _ _ _ OK (fun k => OK k ∧ k < wz.heap.size) rfl rfl HO.out (xg (Kd.F_bound HCU.out.1) HB.out) (fun k hk => ⟨hk.1, fun e => by have h1 := Kd.N_base HO.out k e.symm; have := hk.2; omega⟩) (fun k hk => HOK.out k (Nat.le_trans HB.out.size hk)) HB.out HB.out.size (by (try simp only [List.length_nil, List.length_append, List.length_cons]); omega) ?_
       intro vD wC ho hb hg hat
       (try rw [List.nil_append] at ho)
       (try (have HLn := Aside0.mk (Kd.F_after HL.out hg hat); clear HL; have HL := HLn; clear HLn))
       clear HO HB
       obtain ⟨vC, hvC⟩ : ∃ vC, vC = vD := ⟨_, rfl⟩
       subst hvC
       have HO := Aside0.mk ho
       have HB := Aside0.mk hb
       clear ho hb hg hat
       refine hK.out _ _ ⟨us HB.out z0, us HB.out z1⟩ (fun hHeld => ?_)
       clear hK K
       refine xj (a' := ?_) ?_ ?_; rotate_left; (· (show Act.put _ (some 75) _ = _); (simp only [Act.put, ua, ub, uc, uh, ui]); rfl)
       refine one_ (i := 8) (N := (some 78)) #[yY, yY, yY, yY, yY, yY, yY, yY, yY, yY, yY, yY, xX, xX, xX, xX] rfl rfl (by kernel_rfl) (by decide) (fun K hK => ?_)
       refine xd k70 (w0 := wz) wz.heap.size (by rfl) (.tmp 75) (.tmp 77) 27 70 (.agg #[.int .i64 0, .slice none 0 0]) 32 rfl Try.underlying27 infoRB rfl (by decide) (by decide) _ T [toR x] _ _ _ OK (fun k => OK k ∧ some k ≠ vC.ownBlock) rfl rfl HO.out HL.out (fun k hk => hk) (fun k hk => HOK.out k (Nat.le_trans HB.out.size hk)) HB.out HB.out.size (by (try simp only [List.length_nil, List.length_append, List.length_cons]); omega) ?_
       intro vD wC ho hb hg hat
       (try rw [List.nil_append] at ho)
       (try (have HLn := Aside0.mk (Kd.F_after HL.out hg hat); clear HL; have HL := HLn; clear HLn))
       clear HO HB
       obtain ⟨vC, hvC⟩ : ∃ vC, vC = vD := ⟨_, rfl⟩
       subst hvC
       have HO := Aside0.mk ho
       have HB := Aside0.mk hb
       clear ho hb hg hat
       refine hK.out _ _ ⟨us HB.out z0, us HB.out z1⟩ (fun hHeld => ?_)
       clear hK K
       refine xj (a' := ?_) ?_ ?_; rotate_left; (· (show Act.put _ (some 78) _ = _); (simp only [Act.put, ua, ub, uc, uh, ui]); rfl)
       refine one_ (i := 12) (N := (some 82)) #[yY, yY, yY, yY, yY, yY, yY, yY, yY, yY, yY, yY, yY, xX, xX, xX] rfl rfl (by kernel_rfl) (by decide) (fun K hK => ?_)
       refine xd k70 (w0 := wz) wz.heap.size (by rfl) (.tmp 78) (.tmp 81) 27 70 (.agg #[.int .i64 0, .slice none 0 0]) 32 rfl Try.underlying27 infoRB rfl (by decide) (by decide) _ (T ++ [toR x]) D _ _ _ OK (fun k => OK k ∧ k < wz.heap.size) rfl rfl HO.out (xg (Kd.F_bound HCU.out.2) HB.out) (fun k hk => ⟨hk.1, fun e => by have h1 := Kd.N_base HO.out k e.symm; have := hk.2; omega⟩) (fun k hk => HOK.out k (Nat.le_trans HB.out.size hk)) HB.out HB.out.size (by (try simp only [List.length_nil, List.length_append, List.length_cons]); omega) ?_
       intro vD wC ho hb hg hat
       (try rw [List.nil_append] at ho)
       (try (have HLn := Aside0.mk (Kd.F_after HL.out hg hat); clear HL; have HL := HLn; clear HLn))
       clear HO HB
       obtain ⟨vC, hvC⟩ : ∃ vC, vC = vD := ⟨_, rfl⟩
       subst hvC
       have HO := Aside0.mk ho
       have HB := Aside0.mk hb
       clear ho hb hg hat
       have HO_ := HO.out
       rw [← HRF.out] at HO_
       obtain ⟨AF, cF, e_⟩ := xt HO_
       subst e_
       clear HO
       have HO := Aside0.mk HO_
       clear HO_
       have hp_ := HPZ.out.below HB.out
       have q0 := hp_.cell0
       have q1 := hp_.cell1
       have g0 := hp_.froz 0
       have g1 := hp_.froz 1
       have HPC := Aside0.mk hp_
       clear hp_
       refine hK.out _ _ ⟨us HB.out z0, us HB.out z1⟩ (fun hHeld => ?_)
       clear hK K
       refine xj (a' := ?_) ?_ ?_; rotate_left; (· (show Act.put _ (some 82) _ = _); (simp only [Act.put, ua, ub, uc, uh, ui]); rfl)
       refine uj (i := 13) (N := (some 83)) (v := ?_) (a' := ?_) (bA 16 16383) rfl rfl (by kernel_rfl) (fun _ _ _ h => h) (Or.inl ⟨by rfl, ?_⟩) ?_ ?_
       rotate_left; (· (intro w'); go_simp; (with_reducible rfl)); rotate_left; (· (simp only [Act.put, ua, ub, uc, uh, ui]); rfl)
       refine uj (i := 14) (N := (some 84)) (v := ?_) (a' := ?_) (bA 16 32767) rfl rfl (by kernel_rfl) (fun _ _ _ h => h) (Or.inl ⟨by rfl, ?_⟩) ?_ ?_
       rotate_left; (· (intro w'); go_simp; (with_reducible rfl)); rotate_left; (· (simp only [Act.put, ua, ub, uc, uh, ui]); rfl)
       refine last_ (i := 15) (N := none) #[yY, yY, yY, yY, yY, yY, yY, yY, yY, yY, yY, yY, yY, yY, yY, yY] rfl rfl (by kernel_rfl) (by decide) (fun K hK => ?_)
       go_simp
       refine hK.out _ _ ?_
       clear hK K
       (try simp only [Act.put, ua, ub, uc, uh, ui])
       refine done_ (by kernel_rfl) ?_
       have HN2 := Aside0.mk (Kd.V_mk (Kd.N_reads' HO.out).2.1 (Kd.N_F HO.out) (e := 70) (base := 0))
       have HB3 := Aside0.mk (uo HST.out.bel (uo HBZ.out HB.out))
       have hvw : IntKind.u64.wrap (ver + 1) = ver + 1 := IntWalk.u64_in _ (by have := HV.out; omega)
       go_wp2_with fail
       refine ⟨rfl, .tuple #[], by simp [results, Try.results12, go_sem], rfl, _, ⟨blk_put (blk_put HPC.out.hd 1 (.slice AF RF.length cF) rfl) 0 (.int .u64 (ver + 1)) rfl, ?_, HS.out.lo⟩, ?_⟩
       · rw [HPA.out.done HF2.out, ← HTQ.out.1, ← HTQ.out.2, ← HRF.out]; exact Kd.V_far (Kd.V_far (Kd.V_mono HN2.out (fun k hk => by rw [HOKE.out] at hk; exact hk.1)) (p := ⟨p, 1, none⟩) (fun k hk => hk) _) (p := ⟨p, 0, none⟩) (fun k hk => hk) _
       · exact set2_grown ⟨HB3.out.os, HB3.out.tape, HB3.out.output, HB3.out.size, fun k hk _ => HB3.out.block k hk⟩
end Go.Proofs.Ytdfndglenbckhaa.V
