-- a text of this work, without what this claim doesn't use (wip/shake.py)
import Derived.Test.YtdfndglenbckhaaYVSh5
import Derived.IntWalk
import Derived.Test.YtdfndglenbckhaaYVXClone
import Derived.Test.YtdfndglenbckhaaYVLsm12
import Derived.Test.YtdfndglenbckhaaYVPvergerref5
import Derived.Test.YtdfndglenbckhaaYVCall
import Derived.Test.YtdfndglenbckhaaYVSh2
import Derived.Test.YtdfndglenbckhaaYVPblockb
section
set_option linter.unusedVariables false
set_option linter.unusedSimpArgs false
namespace Go.Proofs.Ytdfndglenbckhaa.V
open Go.RowKit Go.Proofs.YtdfndglenbckhaaW.PrintWords Go.Proofs.YtdfndglenbckhaaW.PrintLast Go.Proofs.YtdfndglenbckhaaW.PrintMore
attribute [local go_sem] max2_int min2_int max_two min_two max_three min_three max_four min_four
def firsts (k : Int) (es : List E) : List E := (sortE es).take (clampN k es.length + 1)
def drawnE (L : List E) (d : Nat) : Value × Bool := if L = [] then (.agg #[.int .u64 0, .int .i64 0], false) else (.agg #[.int .u64 (L.getD (d % L.length) ⟨0, 0⟩).f0, .int .i64 (L.getD (d % L.length) ⟨0, 0⟩).f1], true)
def CandPost (k : Int) (d : Nat) (es : List E) (w : World) (x : Ending) (w' : World) : Prop :=
  x = .returned (.tuple #[(drawnE (firsts k es) d).1, .bool (drawnE (firsts k es) d).2]) ∧ Below w.heap.size w w'
theorem candPost_none {k : Int} {d : Nat} {es : List E} {w w' : World} {x : Ending} (h0 : firsts k es = []) (hx : x = .returned (.tuple #[.agg #[.int .u64 0, .int .i64 0], .bool false])) (hb : Below w.heap.size w w') : CandPost k d es w x w' := by
 unfold CandPost drawnE; rw [if_pos h0]; exact ⟨hx, hb⟩
theorem candPost_some {k : Int} {d : Nat} {es : List E} {w w' : World} {x : Ending} {e : E} (h0 : firsts k es ≠ []) (he : (firsts k es).getD (d % (firsts k es).length) ⟨0, 0⟩ = e) (hx : x = .returned (.tuple #[.agg #[.int .u64 e.f0, .int .i64 e.f1], .bool true])) (hb : Below w.heap.size w w') : CandPost k d es w x w' := by
 unfold CandPost drawnE; rw [if_neg h0, he]; exact ⟨hx, hb⟩
theorem clampN_succ (k : Int) (m : Nat) : clampN ((clampN k m : Int) + 1) m = min (clampN k m + 1) m := by
 have := clampN_le k m
 generalize clampN k m = q at *
 unfold clampN mn mx
 rcases Nat.le_total (q + 1) m with h | h <;> (repeat' split) <;> omega
theorem firsts_eq (k : Int) (es : List E) : (sortE es).take (clampN ((clampN k es.length : Int) + 1) es.length) = firsts k es := by
 unfold firsts
 rw [clampN_succ]
 rcases Nat.le_total (clampN k es.length + 1) es.length with h | h
 · rw [Nat.min_eq_left h]
 · rw [Nat.min_eq_right h, List.take_of_length_le (by rw [sortE_length]; exact Nat.le_refl _), List.take_of_length_le (by rw [sortE_length]; exact h)]
theorem clampN_low {k : Int} (m : Nat) (h : k < 0) : clampN k m = 0 := by unfold clampN mn mx; (repeat' split) <;> omega
theorem clampN_mid {k : Int} {m : Nat} (h0 : 0 ≤ k) (h : k ≤ m) : clampN k m = k.toNat := by unfold clampN mn mx; (repeat' split) <;> omega
theorem clampN_high {k : Int} {m : Nat} (h : (m : Int) < k) : clampN k m = m := by unfold clampN mn mx; (repeat' split) <;> omega
set_option maxRecDepth 100000 in
set_option maxHeartbeats 4000000 in
theorem sh_cand (base p : Nat) (ver : Int) (v : Value) (bs : List Bk) (k : Int) (d : Nat) (w : World) (h : ShAt w base p ver v bs) (hd : d < 18446744073709551616) (hl : bs.length ≤ 1000) (ha : (allB bs).length ≤ 1000000) :
 Calls Try.prog 19 #[.pointer (some ⟨p, 0, none⟩), .int .i64 k, .int .u64 (d : Int)] w (CandPost k d (allB bs) w) := by
 have HZ := Aside0.mk (below_alloc (Below.refl w.heap.size w) (.cells #[.int .u64 0, .int .i64 0] 46))
 have HX := Aside0.mk (heap_alloc_new w (.cells #[.int .u64 0, .int .i64 0] 46))
 have HS := Aside0.mk (h.below HZ.out)
 have HA := Aside0.mk ha
 have HFE := Aside0.mk (firsts_eq k (allB bs))
 have HLF := Aside0.mk (show (firsts k (allB bs)).length ≤ 1000000 from by
  unfold firsts
  rw [List.length_take, sortE_length]
  omega)
 have HW := Aside0.mk (show w.heap.size < (w.alloc (.cells #[.int .u64 0, .int .i64 0] 46)).heap.size by simp)
 obtain ⟨L, hL⟩ : ∃ L, L = firsts k (allB bs) := ⟨_, rfl⟩
 have HLE := Aside0.mk hL
 clear h hd
 go_enter Try.func19, Try.ntmps19
 go_upto_region 1 with fail
 obtain ⟨wz, hwz⟩ : ∃ wz : World, wz = w.alloc (.cells #[.int .u64 0, .int .i64 0] 46) := ⟨_, rfl⟩
 rw [← hwz] at HZ HX HS HW ⊢
 clear hwz hL
 go_cut [8] (fun s8 wx => ∃ A2 c2, s8 = .slice A2 L.length c2 ∧ Aside0 (k46.C wx A2 L.length L) ∧ Aside0 (Below wz.heap.size wz wx))
 case first =>
  by_cases h0 : k < 0
  · have HC := Aside0.mk (clampN_low (allB bs).length h0)
    go_wp2_with fail
    refine (sh_len base p ver v bs _ HS.out hl HA.out).mono ?_
    rintro y w1 ⟨rfl, hb1⟩
    have HB1 := Aside0.mk hb1
    have HS1 := Aside0.mk (HS.out.below hb1)
    clear hb1
    go_wp2_with fail
    refine (sh_first base p ver v bs _ _ HS1.out hl HA.out).mono ?_
    rintro y w2 ⟨v2, rfl, hv2, hb2⟩
    rw [show (sortE (allB bs)).take (clampN 1 (allB bs).length) = L from by rw [HLE.out, ← HFE.out, HC.out]; rfl] at hv2
    obtain ⟨A2, c2, rfl⟩ := Kd.V_slice hv2
    have HV2 := Aside0.mk (Kd.V_reads' hv2)
    have HB2 := Aside0.mk (below_step HB1.out hb2)
    clear hv2 hb2
    go_wp2_with fail
    go_meet
    exact ⟨A2, c2, rfl, ⟨HV2.out.2.2⟩, HB2⟩
  · by_cases h1 : k ≤ ((allB bs).length : Int)
    · have HC := Aside0.mk (clampN_mid (m := (allB bs).length) (by omega) h1)
      have HKT := Aside0.mk (show ((k.toNat : Nat) : Int) = k by omega)
      have hw1 : IntKind.i64.wrap (k + 1) = k + 1 := IntWalk.i64_in _ (by have := HA.out; omega)
      have h01 : 0 ≤ k := by omega
      have h02 : ¬ ((allB bs).length : Int) < k := by omega
      go_wp2_with fail
      refine (sh_len base p ver v bs _ HS.out hl HA.out).mono ?_
      rintro y w1 ⟨rfl, hb1⟩
      have HB1 := Aside0.mk hb1
      have HS1 := Aside0.mk (HS.out.below hb1)
      clear hb1
      go_wp2_with fail
      refine (sh_first base p ver v bs _ _ HS1.out hl HA.out).mono ?_
      rintro y w2 ⟨v2, rfl, hv2, hb2⟩
      rw [show (sortE (allB bs)).take (clampN (k + 1) (allB bs).length) = L from by rw [HLE.out, ← HFE.out, HC.out, HKT.out]] at hv2
      obtain ⟨A2, c2, rfl⟩ := Kd.V_slice hv2
      have HV2 := Aside0.mk (Kd.V_reads' hv2)
      have HB2 := Aside0.mk (below_step HB1.out hb2)
      clear hv2 hb2
      go_wp2_with fail
      go_meet
      exact ⟨A2, c2, rfl, ⟨HV2.out.2.2⟩, HB2⟩
    · have HC := Aside0.mk (clampN_high (m := (allB bs).length) (show ((allB bs).length : Int) < k by omega))
      have hw1 : IntKind.i64.wrap (((allB bs).length : Int) + 1) = ((allB bs).length : Int) + 1 := IntWalk.i64_in _ (by have := HA.out; omega)
      have h01 : 0 ≤ k := by omega
      have h02 : ((allB bs).length : Int) < k := by omega
      go_wp2_with fail
      refine (sh_len base p ver v bs _ HS.out hl HA.out).mono ?_
      rintro y w1 ⟨rfl, hb1⟩
      have HB1 := Aside0.mk hb1
      have HS1 := Aside0.mk (HS.out.below hb1)
      clear hb1
      go_wp2_with fail
      refine (sh_first base p ver v bs _ _ HS1.out hl HA.out).mono ?_
      rintro y w2 ⟨v2, rfl, hv2, hb2⟩
      rw [show (sortE (allB bs)).take (clampN (((allB bs).length : Int) + 1) (allB bs).length) = L from by rw [HLE.out, ← HFE.out, HC.out]] at hv2
      obtain ⟨A2, c2, rfl⟩ := Kd.V_slice hv2
      have HV2 := Aside0.mk (Kd.V_reads' hv2)
      have HB2 := Aside0.mk (below_step HB1.out hb2)
      clear hv2 hb2
      go_wp2_with fail
      go_meet
      exact ⟨A2, c2, rfl, ⟨HV2.out.2.2⟩, HB2⟩
 case rest =>
  obtain ⟨A2, c2, rfl, HC, HB⟩ := hcut
  have hx := blk_below HX.out HB.out
  have x0 : wc.cell? ⟨w.heap.size, 0, none⟩ = some (.int .u64 0) := (blk_cell hx 0).trans rfl
  have x1 : wc.cell? ⟨w.heap.size, 1, none⟩ = some (.int .i64 0) := (blk_cell hx 1).trans rfl
  have f0 : wc.frozen? ⟨w.heap.size, 0, none⟩ = false := frozen_row hx 0
  have f1 : wc.frozen? ⟨w.heap.size, 1, none⟩ = false := frozen_row hx 1
  have HB2 := Aside0.mk (below_step HZ.out HB.out)
  clear hx
  by_cases h0 : L = []
  · have HL0 := Aside0.mk h0
    subst h0
    go_wp2
    exact bodyPost_ret (v := .tuple #[.agg #[.int .u64 0, .int .i64 0], .bool false]) (by simp [results, Try.results19, go_sem, x0, x1]) rfl (candPost_none HLE.out.symm rfl ((HB2.out.setCell (Nat.le_refl _) _).setCell (Nat.le_refl _) _))
  · have hpos : 0 < L.length := by
     cases L with
     | nil => exact absurd rfl h0
     | cons _ _ => simp
    obtain ⟨r, hr⟩ : ∃ r, d % L.length = r := ⟨_, rfl⟩
    have hrl : r < L.length := by rw [← hr]; exact Nat.mod_lt _ hpos
    obtain ⟨e, he⟩ : ∃ e, L.getD r ⟨0, 0⟩ = e := ⟨_, rfl⟩
    obtain ⟨ad, e1, y0, y1⟩ := at_T46 HC.out (r : Int) (by omega) (by omega)
    subst e1
    have hrd : rd_T46 L (r : Int) = e := by unfold rd_T46; rw [Int.toNat_natCast]; exact he
    rw [Int.toNat_natCast, hrd] at y0 y1
    have r1 : (d : Int).tmod (L.length : Int) = (r : Int) := by rw [Int.tmod_eq_emod_of_nonneg (by omega), ← hr]; rfl
    have r2 : (d : Int) % (L.length : Int) = (r : Int) := by rw [← hr]; rfl
    have r3 : ¬ ((L.length : Int) = 0) := by omega
    have r4 : ¬ (L.length = 0) := by omega
    have r6 : ((L.length : Int) == 0) = false := by rw [beq_eq_false_iff_ne]; omega
    have hlL : L.length ≤ 1000000 := by rw [HLE.out]; exact HLF.out
    have s1 : IntKind.u64.wrap (L.length : Int) = (L.length : Int) := IntWalk.u64_in _ (by omega)
    have s2 : IntKind.u64.wrap (r : Int) = (r : Int) := IntWalk.u64_in _ (by omega)
    have s3 : IntKind.i64.wrap (r : Int) = (r : Int) := IntWalk.i64_in _ (by omega)
    have r7 : decide (L = []) = false := decide_eq_false h0
    have r8 : decide (L.length = 0) = false := decide_eq_false r4
    have hri : (r : Int) < (L.length : Int) := by omega
    have hri0 : (0 : Int) ≤ (r : Int) := by omega
    have HEE := Aside0.mk (show (firsts k (allB bs)).getD (d % (firsts k (allB bs)).length) ⟨0, 0⟩ = e by rw [← HLE.out, hr]; exact he)
    have HNE := Aside0.mk (show firsts k (allB bs) ≠ [] by rw [← HLE.out]; exact h0)
    clear hr he hrd hpos
    go_wp2
    exact bodyPost_ret (v := .tuple #[.agg #[.int .u64 e.f0, .int .i64 e.f1], .bool true]) (by simp [results, Try.results19, go_sem, x0, x1]) rfl (candPost_some HNE.out HEE.out rfl ((HB2.out.setCell (Nat.le_refl _) _).setCell (Nat.le_refl _) _))
end Go.Proofs.Ytdfndglenbckhaa.V
end
section
set_option linter.unusedVariables false
set_option linter.unusedSimpArgs false
namespace Go.Proofs.Ytdfndglenbckhaa.V
open Go.RowKit Go.Proofs.YtdfndglenbckhaaW.PrintWords Go.Proofs.YtdfndglenbckhaaW.PrintLast Go.Proofs.YtdfndglenbckhaaW.PrintMore
structure SOk (w0 wr : World) (p : Nat) (ver : Int) (v : Value) (bs : List Bk) (es : List E) : Prop where
  hat : ShAt wr w0.heap.size p ver v bs
  ok : ∀ b ∈ bs, okB b = true
  all : (allB bs).Perm es
  bel : Below w0.heap.size w0 wr
namespace SOk
variable {w0 wr w2 : World} {p : Nat} {ver : Int} {v v2 : Value} {bs cs : List Bk} {es : List E}
theorem below (h : SOk w0 wr p ver v bs es) (hb : Below wr.heap.size wr w2) : SOk w0 w2 p ver v bs es := ⟨h.hat.below hb, h.ok, h.all, below_step h.bel hb⟩
theorem cnt (h : SOk w0 wr p ver v bs es) : (allB bs).length = es.length := h.all.length_eq
theorem step (h : SOk w0 wr p ver v bs es) (hg : wr.grownBy w2 (some p)) : Below w0.heap.size w0 w2 := below_grown h.bel hg (fun k hk => by injection hk with hk; have := h.hat.lo; omega)
theorem drewN (h : SOk w0 wr p ver v bs es) (m : Nat) : SOk w0 (wr.drewN m) p ver v bs es := h.below (pw_below_drewN (Below.refl _ _) m)
end SOk
theorem snew_ok (w0 : World) : Calls Try.prog 8 #[] w0 fun x w2 => x = .returned (.pointer (some ⟨w0.heap.size, 0, none⟩)) ∧ SOk w0 w2 w0.heap.size 0 (.slice none 0 0) [] [] := by
 refine (sh_new w0).mono ?_
 rintro x w2 ⟨rfl, h1, h2⟩
 exact ⟨rfl, h1, by simp, by rw [allB_nil], h2⟩
theorem sadd_ok {w0 wr : World} {p : Nat} {ver : Int} {v : Value} {bs : List Bk} {es : List E} (h : SOk w0 wr p ver v bs es) (A : Option Addr) (c : Nat) (l : List E) (hv : 0 ≤ ver ∧ ver ≤ 1000000) (hr : k46.C wr A l.length l) (hc : l.length ≤ c) (hne : l ≠ []) (hl : bs.length ≤ 900) (ha : es.length + l.length ≤ 1000000) :
 Calls Try.prog 11 #[.pointer (some ⟨p, 0, none⟩), .slice A l.length c] wr fun x w2 => x = .returned (.tuple #[]) ∧ (∃ v2, SOk w0 w2 p (ver + 1) v2 (addL l bs) (l ++ es)) ∧ wr.grownBy w2 (some p) := by
 refine (sh_add w0.heap.size p ver v bs A c l wr h.hat hv hr hc hne hl (by have := h.cnt; omega) h.ok).mono ?_
 rintro x w2 ⟨rfl, v2, hs, hg⟩
 exact ⟨rfl, ⟨v2, hs, addL_okB h.ok, (addL_all l bs).trans (h.all.append_left l), h.step hg⟩, hg⟩
theorem sh_add_nilN (p : Nat) (A : Option Addr) (n c : Nat) (w : World) (hn : n = 0) :
 Calls Try.prog 11 #[.pointer (some ⟨p, 0, none⟩), .slice A n c] w fun x w' => x = .returned (.tuple #[]) ∧ w = w' := by
 subst hn; exact sh_add_nil p A c w
theorem slen_ok {w0 wr : World} {p : Nat} {ver : Int} {v : Value} {bs : List Bk} {es : List E} (h : SOk w0 wr p ver v bs es) (hl : bs.length ≤ 1000) (ha : es.length ≤ 1000000) :
 Calls Try.prog 24 #[.pointer (some ⟨p, 0, none⟩)] wr fun x w2 => x = .returned (.int .i64 es.length) ∧ Below wr.heap.size wr w2 := by
 have h2 := h.cnt
 rw [← h2]
 exact sh_len w0.heap.size p ver v bs wr h.hat hl (by omega)
theorem ssnap_ok {w0 wr : World} {p : Nat} {ver : Int} {v : Value} {bs : List Bk} {es : List E} (h : SOk w0 wr p ver v bs es) (hl : bs.length ≤ 1000) (ha : es.length ≤ 1000000) :
 Calls Try.prog 10 #[.pointer (some ⟨p, 0, none⟩)] wr fun x w2 => ∃ A1 c1, x = .returned (.agg #[.int .u64 ver, .slice A1 bs.length c1]) ∧ Kd.V k84 84 w2 0 (fun k => k ≠ p) (.slice A1 bs.length c1) bs ∧ Below wr.heap.size wr w2 := by
 have h2 := h.cnt
 exact sh_snap w0.heap.size p ver v bs wr h.hat hl (by omega)
theorem three_C {W : World} {g : Nat} {a b c : E} (h : W.heap[g]? = some (.cells #[.int .u64 a.f0, .int .i64 a.f1, .int .u64 b.f0, .int .i64 b.f1, .int .u64 c.f0, .int .i64 c.f1] 46 (0, 0))) : k46.C W (some ⟨g, 0, none⟩) ([a, b, c] : List E).length [a, b, c] :=
 (Kd.R_reads' (row_close (e := 46) (base := 0) (ok := fun _ => True) (c := 3) (l := [a, b, c]) (Nat.zero_le _) trivial h (by omega) (by simp) rfl rfl)).2.2
theorem sorted_3 : sortE [⟨4, 1⟩, ⟨2, 2⟩, ⟨9, 3⟩] = ([⟨2, 2⟩, ⟨4, 1⟩, ⟨9, 3⟩] : List E) := by
 refine sortE_eq ?_ ?_
 · simp [SortedE, leE, ltE]
 · exact List.Perm.swap _ _ _
theorem add_nil (l : List E) : addL l [] = [mkB l] := rfl
set_option maxRecDepth 100000 in
set_option maxHeartbeats 4000000 in
theorem awake8 (w : World) : Calls Try.prog 9 #[] w fun e w' => e = .returned (.bool true) ∧ Below w.heap.size w w' := by
 go_enter Try.func9, Try.ntmps9
 go_wp2_with fail
 refine (snew_ok w).mono ?_
 rintro x w1 ⟨rfl, hk1⟩
 have HK1 := Aside0.mk hk1
 clear hk1
 have HZ := Aside0.mk (below_alloc (Below.refl w1.heap.size w1) (.cells #[.int .u64 4, .int .i64 1, .int .u64 2, .int .i64 2, .int .u64 9, .int .i64 3] 46))
 have HC := Aside0.mk (three_C (a := ⟨4, 1⟩) (b := ⟨2, 2⟩) (c := ⟨9, 3⟩) (heap_alloc_new w1 (.cells #[.int .u64 4, .int .i64 1, .int .u64 2, .int .i64 2, .int .u64 9, .int .i64 3] 46)))
 have HK2 := Aside0.mk (HK1.out.below HZ.out)
 go_wp2_with fail
 refine (sadd_ok HK2.out (some ⟨w1.heap.size, 0, none⟩) 3 [⟨4, 1⟩, ⟨2, 2⟩, ⟨9, 3⟩] (by decide) HC.out (by decide) (by simp) (by simp) (by simp)).mono ?_
 rintro x w3 ⟨rfl, ⟨v3, hk3⟩, hg3⟩
 rw [add_nil] at hk3
 have HK3 := Aside0.mk hk3
 clear hk3 hg3 HC HZ HK2
 have HCA := Aside0.mk (show firsts 0 (allB [mkB [⟨4, 1⟩, ⟨2, 2⟩, ⟨9, 3⟩]]) = [⟨2, 2⟩] by
  unfold firsts
  rw [show sortE (allB [mkB [⟨4, 1⟩, ⟨2, 2⟩, ⟨9, 3⟩]]) = sortE [⟨4, 1⟩, ⟨2, 2⟩, ⟨9, 3⟩] from sortE_of_perm HK3.out.all, sorted_3, clampN_mid (by omega) (by omega)]
  rfl)
 have HAL := Aside0.mk (show (allB [mkB [⟨4, 1⟩, ⟨2, 2⟩, ⟨9, 3⟩]]).length ≤ 1000000 by rw [HK3.out.cnt]; simp)
 go_wp2_with fail
 refine (sh_cand w.heap.size w.heap.size 1 v3 _ 0 77 _ HK3.out.hat (by omega) (by simp) HAL.out).mono ?_
 rintro x w4 hp4
 unfold CandPost at hp4
 rw [HCA.out, show drawnE [⟨2, 2⟩] 77 = (.agg #[.int .u64 2, .int .i64 2], true) from rfl] at hp4
 obtain ⟨rfl, hb4⟩ := hp4
 have HK4 := Aside0.mk (HK3.out.below hb4)
 have HZ5 := Aside0.mk (below_alloc (Below.refl w4.heap.size w4) (.cells #[.int .u64 2, .int .i64 2] 46))
 have HX5 := Aside0.mk (heap_alloc_new w4 (.cells #[.int .u64 2, .int .i64 2] 46))
 have HK5 := Aside0.mk (HK4.out.below HZ5.out)
 clear hb4 HCA
 go_wp2_with fail
 refine (ssnap_ok HK5.out (by simp) (by simp)).mono ?_
 rintro x w6 ⟨A6, c6, rfl, hv6, hb6⟩
 have HK6 := Aside0.mk (HK5.out.below hb6)
 have hx6 := blk_below HX5.out hb6
 have HZ7 := Aside0.mk (below_alloc (Below.refl w6.heap.size w6) (.cells #[.int .u64 1, .slice A6 1 c6] 36))
 have hx7 := heap_alloc_new w6 (.cells #[.int .u64 1, .slice A6 1 c6] 36)
 have HK7 := Aside0.mk (HK6.out.below HZ7.out)
 have x0 := (blk_cell (blk_below hx6 HZ7.out) 0).trans rfl
 have y0 := (blk_cell hx7 0).trans rfl
 have y1 := (blk_cell hx7 1).trans rfl
 clear hv6 hb6 hx6 hx7 HX5 HZ5 HZ7
 go_wp2_with fail
 refine (slen_ok HK7.out (by simp) (by simp)).mono ?_
 rintro x w8 ⟨rfl, hb8⟩
 have HB8 := Aside0.mk (HK7.out.below hb8).bel
 clear hb8
 go_wp2
 go_ret
 exact ⟨by first | rfl | simp, HB8.out⟩
end Go.Proofs.Ytdfndglenbckhaa.V
end
section
set_option linter.unusedVariables false
set_option linter.unusedSimpArgs false
namespace Go.Proofs.Ytdfndglenbckhaa.V
open Go.RowKit Go.Proofs.YtdfndglenbckhaaW.PrintWords Go.Proofs.YtdfndglenbckhaaW.PrintLast Go.Proofs.YtdfndglenbckhaaW.PrintMore
theorem refok_told (k : Nat) (L : Int) (l : List E) (hl : l.length < 1000000000) (hk : l.length + 64 ≤ k) : vergerref5_Ok.f k L l = some (decide (L = ((lev (l.length : Int) : Nat) : Int)) && okTo l (l.length - 1)) := by
 have h62 := lev_62 (l.length : Int)
 have hok := lev_ok (n := (l.length : Int)) (by omega)
 unfold vergerref5_Ok.f
 rw [refsorted_told k l hl (by omega)]
 simp only [Option.bind_some]
 by_cases h0 : L < 0
 · rw [if_pos h0, decide_eq_false (by omega), Bool.false_and]
 · rw [if_neg h0]
   by_cases h1 : L > 62
   · rw [if_pos h1, decide_eq_false (by omega), Bool.false_and]
   · rw [if_neg h1]
     obtain ⟨M, rfl⟩ : ∃ M : Nat, L = (M : Int) := ⟨L.toNat, by omega⟩
     have hM : M ≤ 62 := by omega
     have hp := pow2_pos M
     have hp2 := pow2_lt M hM
     by_cases hs : okTo l (l.length - 1) = true
     · rw [if_pos hs, if_pos (by omega), shl_one hM, hs, Bool.and_true]
       by_cases h2 : (l.length : Int) ≤ 2 ^ M
       · rw [if_pos h2]
         by_cases h3 : (M : Int) = 0
         · rw [if_pos h3]
           obtain rfl : M = 0 := by omega
           have : lev (l.length : Int) = 0 := lev_unique hok ⟨h2, by omega⟩
           rw [this]
           rfl
         · rw [if_neg h3]
           have he : wrap64 (Int.tdiv (2 ^ M) 2) = 2 ^ (M - 1) := by
            have h4 : (2 : Int) ^ M = 2 ^ (M - 1) * 2 := by rw [← Int.pow_succ]; congr 1; omega
            rw [h4, Int.mul_tdiv_cancel _ (by decide)]
            have h5 := pow2_pos (M - 1)
            exact wrap_id (by omega) (by omega)
           rw [he]
           congr 1
           apply Bool.eq_iff_iff.2
           simp only [decide_eq_true_eq]
           constructor
           · intro h
             have := lev_unique hok ⟨h2, fun _ => h⟩
             rw [this]
           · intro h
             have h6 : lev (l.length : Int) = M := by omega
             have := hok.2 (by omega)
             rw [h6] at this
             exact this
       · rw [if_neg h2]
         congr 1
         symm
         rw [decide_eq_false]
         intro h
         have h6 : lev (l.length : Int) = M := by omega
         have := hok.1
         rw [h6] at this
         exact h2 this
     · rw [if_neg hs]
       have : okTo l (l.length - 1) = false := by simpa using hs
       rw [this, Bool.and_false]
end Go.Proofs.Ytdfndglenbckhaa.V
end
section
set_option linter.unusedVariables false
set_option linter.unusedSimpArgs false
namespace Go.Proofs.Ytdfndglenbckhaa.V
open Go.RowKit Go.Proofs.YtdfndglenbckhaaW.PrintWords Go.Proofs.YtdfndglenbckhaaW.PrintLast Go.Proofs.YtdfndglenbckhaaW.PrintMore
abbrev RBk := S70
def toB (b : RBk) : Bk := ⟨b.f0, b.f1⟩
def toR (b : Bk) : RBk := ⟨b.f0, b.f1⟩
structure RShAt (w : World) (base p : Nat) (ver : Int) (v : Value) (bs : List RBk) : Prop where
  hd : w.heap[p]? = some (.cells #[.int .u64 ver, v] 29 (0, 0))
  row : Kd.V k70 70 w 0 (fun k => k ≠ p) v bs
  lo : base ≤ p
namespace RShAt
variable {w w1 : World} {base p : Nat} {ver : Int} {v : Value} {bs : List RBk}
theorem lt (h : RShAt w base p ver v bs) : p < w.heap.size := (Array.getElem?_eq_some_iff.1 h.hd).1
theorem below (h : RShAt w base p ver v bs) (hb : Below w.heap.size w w1) : RShAt w1 base p ver v bs := ⟨(hb.block p h.lt).trans h.hd, Kd.V_below h.row hb, h.lo⟩
theorem cell0 (h : RShAt w base p ver v bs) : w.cell? ⟨p, 0, none⟩ = some (.int .u64 ver) := by simp [World.cell?, h.hd]
theorem cell1 (h : RShAt w base p ver v bs) : w.cell? ⟨p, 1, none⟩ = some v := by simp [World.cell?, h.hd]
theorem froz (h : RShAt w base p ver v bs) (j : Nat) : w.frozen? ⟨p, j, none⟩ = false := frozen_row h.hd j
theorem reads (h : RShAt w base p ver v bs) : ∃ A c, v = .slice A bs.length c ∧ bs.length ≤ c ∧ Kd.F k70 w (fun k => k ≠ p) A bs.length bs := by
 obtain ⟨A, c, rfl⟩ := Kd.V_slice h.row
 have := Kd.V_at h.row
 exact ⟨A, c, rfl, this.2.1, this.2.2⟩
end RShAt
theorem infoRB : (Try.prog.info? 70).map (fun i => (i.zero, i.size, i.bytes)) = some (some (.agg #[.int .i64 0, .slice none 0 0]), 2, 32) := by kernel_rfl
set_option maxRecDepth 100000 in
set_option maxHeartbeats 4000000 in
theorem rs_swap_old (base p : Nat) (ver old : Int) (v : Value) (bs : List RBk) (A : Option Addr) (n c : Nat) (w : World) (h : RShAt w base p ver v bs) (hne : old ≠ ver) :
 Calls Try.prog 17 #[.pointer (some ⟨p, 0, none⟩), .int .u64 old, .slice A n c] w fun x w' => x = .returned (.bool false) ∧ Below w.heap.size w w' := by
 have hc0 := h.cell0
 have e1 : (old == ver) = false := by rw [beq_eq_false_iff_ne]; exact hne
 have e2 : (old != ver) = true := by simp [bne, e1]
 have e3 : decide (old = ver) = false := decide_eq_false hne
 clear h
 go_enter Try.func17, Try.ntmps17
 go_wp2
 go_ret
 exact ⟨rfl, Below.refl _ _⟩
end Go.Proofs.Ytdfndglenbckhaa.V
end
section
set_option linter.unusedVariables false
set_option linter.unusedSimpArgs false
namespace Go.Proofs.Ytdfndglenbckhaa.V
open Go.RowKit Go.Proofs.YtdfndglenbckhaaW.PrintWords Go.Proofs.YtdfndglenbckhaaW.PrintLast Go.Proofs.YtdfndglenbckhaaW.PrintMore
theorem rb_at {w : World} {A : Option Addr} {bs : List RBk} (h : k70.C w A bs.length bs) {i : Nat} {b : RBk} (hb : bs[i]? = some b) :
 ∃ ad A1 c1, A = some ad ∧ w.cell? (ad.add (i * 2)) = some (.int .i64 b.f0) ∧ w.cell? ⟨(ad.add (i * 2)).block, (ad.add (i * 2)).off + 1, none⟩ = some (.slice A1 b.f1.length c1) ∧ b.f1.length ≤ c1 ∧ k46.C w A1 b.f1.length b.f1 := by
 obtain ⟨hlt, rfl⟩ := List.getElem?_eq_some_iff.1 hb
 obtain ⟨ad, A1, c1, e1, e2, e3, e4, e5⟩ := at_T70 h (i : Int) (by omega) (by omega)
 have hr : rd_T70 bs (i : Int) = bs[i] := by unfold rd_T70; rw [Int.toNat_natCast, List.getD_eq_getElem?_getD, List.getElem?_eq_getElem hlt]; rfl
 rw [hr, Int.toNat_natCast] at e2 e3
 rw [hr] at e4 e5
 exact ⟨ad, A1, c1, e1, e2, e3, e4, e5⟩
theorem refok_okB {b : RBk} (h : okB (toB b) = true) (hl : b.f1.length ≤ 1000000) : vergerref5_Ok.f 2000000 b.f0 b.f1 = some true := by
 rw [refok_told 2000000 b.f0 b.f1 (by omega) (by omega)]
 exact congrArg some h
set_option maxRecDepth 100000 in
set_option maxHeartbeats 4000000 in
theorem rs_swap_yes (base p : Nat) (ver : Int) (v : Value) (bs cs : List RBk) (A : Option Addr) (c : Nat) (w : World) (h : RShAt w base p ver v bs) (hv : 0 ≤ ver ∧ ver ≤ 1000000) (hr : Kd.F k70 w (fun k => k ≠ p) A cs.length cs) (hc : cs.length ≤ c) (hok : ∀ b ∈ cs, okB (toB b) = true) (hl : cs.length ≤ 1000) (ha : ∀ b ∈ cs, b.f1.length ≤ 1000000) :
 Calls Try.prog 17 #[.pointer (some ⟨p, 0, none⟩), .int .u64 ver, .slice A cs.length c] w fun x w' => x = .returned (.bool true) ∧ ∃ v', RShAt w' base p (ver + 1) v' cs ∧ w.grownBy w' (some p) := by
 have HS := Aside0.mk h
 have HR := Aside0.mk hr
 have HOK := Aside0.mk hok
 have HA := Aside0.mk ha
 have hc0 := h.cell0
 clear h hr hok ha
 go_enter Try.func17, Try.ntmps17
 go_wp2
 go_loopw [7] (fun s7 wr => ∃ i : Nat, s7 = .int .i64 i ∧ i ≤ cs.length ∧ Aside0 (Below w.heap.size w wr)) (fun i _ => cs.length - (intOf i).toNat)
 case atStart => exact ⟨0, rfl, Nat.zero_le _, ⟨Below.refl _ _⟩⟩
 case round =>
  obtain ⟨i, rfl, hi, HB⟩ := hrel
  by_cases hlt : i < cs.length
  · obtain ⟨b, hb⟩ : ∃ b, cs[i]? = some b := ⟨_, List.getElem?_eq_getElem hlt⟩
    obtain ⟨ad, A1, c1, rfl, y0, y1, e4, e5⟩ := rb_at (Kd.C_below (Kd.F_now HR.out) HB.out) hb
    have HC := Aside0.mk e5
    have HO := Aside0.mk (refok_okB (HOK.out b (List.mem_of_getElem? hb)) (HA.out b (List.mem_of_getElem? hb)))
    have hil : (i : Int) < (cs.length : Int) := by omega
    have hi0 : (0 : Int) ≤ (i : Int) := by omega
    clear hb e5
    go_wp2_with fail
    refine (vergerref5_Ok.calls 2000000 b.f0 A1 c1 b.f1 true _ HC.out e4 HO.out).mono ?_
    rintro x w2 ⟨rfl, hb2⟩
    have HB2 := Aside0.mk (below_step HB.out hb2)
    clear hb2
    go_wp2
    go_roundw
    case rel => exact ⟨i + 1, by go_num, by omega, HB2⟩
    case measure => simp [intOf]; omega
  · obtain rfl : i = cs.length := by omega
    have hp := HS.out.below HB.out
    have HP := Aside0.mk hp
    have HF := Aside0.mk (Kd.F_bound (Kd.F_below HR.out HB.out))
    have HBw := Aside0.mk (Below.refl wr.heap.size wr)
    clear hlt hi hp
    go_wp2_with (first
     | ((with_reducible refine gate_dst (N := 27) rfl ?_); go_loud (refine Kd.N_lit k70 _ 70 ?hg (N' := 27) ?hd (xs := ([] : List RBk)) (inner := []) (ok := fun k => k ≠ p) (okp := fun _ => False) ?hr ?hp (fun _ hk => hk.elim) ?hf (Below.refl _ _) (Nat.le_refl _) (by simp) ?_; (case hd => rfl); (case hg => rfl); (case hr => first | (go_simp; done) | (go_simp; rfl)); (case hp => exact (Reps.none _ _)); (case hf => have := HP.out.lt; omega); intro v1 w1 ho hb hg_ hnew_; have HNW := Aside0.mk hnew_; clear hg_ hnew_; have n0_ := Aside0.mk ho; have n1_ := Aside0.mk (below_step HBw.out hb); clear HBw; have HO := n0_; have HBw := n1_; clear n0_ n1_; clear hb ho))
     | ((with_reducible refine gate_builtin (b := .append) (xs := #[.tmp 27, .tmp 28]) rfl ?_); at_builtin; go_loud (refine Kd.N_append_rows k70 (w0 := wr) wr.heap.size rfl (.tmp 27) (.tmp 28) 27 70 (.agg #[.int .i64 0, .slice none 0 0]) 32 rfl Try.underlying27 infoRB rfl (by decide) (by decide) v1 [] cs _ _ _ (fun k => k ≠ p) (fun k => k ≠ p ∧ k < wr.heap.size) rfl rfl ?aO ?aR ?aK ?aF ?aB ?aS ?aL ?_; (case aR => exact (Kd.F_below HF.out HBw.out)); (case aK => exact (fun k hk => ⟨hk.1, fun e => by obtain ⟨b, h1, h2⟩ := HNW.out; rw [h1] at e; injection e with e; have := hk.2; omega⟩)); (case aB => exact HBw.out); (case aF => exact (fun k hk => by have h1 := HP.out.lt; have h2 := HBw.out.size; omega)); (case aO => exact HO.out); (case aS => exact HBw.out.size); (case aL => simp only [List.length_nil]; omega); intro v2 w2 ho hb hg hat; rw [List.nil_append] at ho; obtain ⟨A2, c2, e2⟩ := Kd.N_slice ho; subst e2; have n0_ := Aside0.mk (hb); have n1_ := Aside0.mk (ho); clear HBw; clear HO; have HBw := n0_; have HO := n1_; clear n0_ n1_; clear ho hb hg hat; have hp2 := (HP.out.below HBw.out); have q0 := hp2.cell0; have q1 := hp2.cell1; have g0 := hp2.froz 0; have g1 := hp2.froz 1; have HP2 := Aside0.mk hp2; clear hp2)))
    have HN2 := Aside0.mk (Kd.V_mk (Kd.N_reads' HO.out).2.1 (Kd.N_F HO.out) (e := 70) (base := 0))
    have HB3 := Aside0.mk (below_step HB.out HBw.out)
    go_ret
    refine ⟨rfl, _, ⟨blk_put (blk_put HP2.out.hd 1 (.slice A2 cs.length c2) rfl) 0 (.int .u64 (ver + 1)) rfl, Kd.V_far (Kd.V_far HN2.out (p := ⟨p, 1, none⟩) (fun k hk => hk) _) (p := ⟨p, 0, none⟩) (fun k hk => hk) _, HS.out.lo⟩, ?_⟩
    exact set2_grown ⟨HB3.out.os, HB3.out.tape, HB3.out.output, HB3.out.size, fun k hk _ => HB3.out.block k hk⟩
theorem refok_any {b : RBk} (hl : b.f1.length ≤ 1000000) : vergerref5_Ok.f 2000000 b.f0 b.f1 = some (okB (toB b)) := by
 rw [refok_told 2000000 b.f0 b.f1 (by omega) (by omega)]
 rfl
set_option maxRecDepth 100000 in
set_option maxHeartbeats 4000000 in
theorem rs_swap_bad (base p : Nat) (ver : Int) (v : Value) (bs cs : List RBk) (A : Option Addr) (c : Nat) (w : World) (h : RShAt w base p ver v bs) (hr : k70.C w A cs.length cs) (hok : cs.any (fun b => !okB (toB b)) = true) (hl : cs.length ≤ 1000) (ha : ∀ b ∈ cs, b.f1.length ≤ 1000000) :
 Calls Try.prog 17 #[.pointer (some ⟨p, 0, none⟩), .int .u64 ver, .slice A cs.length c] w fun x w' => x = .returned (.bool false) ∧ Below w.heap.size w w' := by
 have HS := Aside0.mk h
 have HR := Aside0.mk hr
 have HOK := Aside0.mk hok
 have HA := Aside0.mk ha
 have hc0 := h.cell0
 clear h hr hok ha
 go_enter Try.func17, Try.ntmps17
 go_wp2
 go_loopw [7] (fun s7 wr => ∃ i : Nat, s7 = .int .i64 i ∧ i ≤ cs.length ∧ Aside0 (∀ (j : Nat) (b : RBk), j < i → cs[j]? = some b → okB (toB b) = true) ∧ Aside0 (Below w.heap.size w wr)) (fun i _ => cs.length - (intOf i).toNat)
 case atStart => exact ⟨0, rfl, Nat.zero_le _, ⟨fun j b h => by omega⟩, ⟨Below.refl _ _⟩⟩
 case round =>
  obtain ⟨i, rfl, hi, HN, HB⟩ := hrel
  by_cases hlt : i < cs.length
  · obtain ⟨b, hb⟩ : ∃ b, cs[i]? = some b := ⟨_, List.getElem?_eq_getElem hlt⟩
    obtain ⟨ad, A1, c1, rfl, y0, y1, e4, e5⟩ := rb_at (Kd.C_below HR.out HB.out) hb
    have HC := Aside0.mk e5
    have HE := Aside0.mk hb
    have HO := Aside0.mk (refok_any (HA.out b (List.mem_of_getElem? hb)))
    have hil : (i : Int) < (cs.length : Int) := by omega
    have hi0 : (0 : Int) ≤ (i : Int) := by omega
    obtain ⟨r, hr⟩ : ∃ r, okB (toB b) = r := ⟨_, rfl⟩
    rw [hr] at HO
    have HRR := Aside0.mk hr
    clear hb e5 hr
    go_wp2_with fail
    refine (vergerref5_Ok.calls 2000000 b.f0 A1 c1 b.f1 r _ HC.out e4 HO.out).mono ?_
    rintro x w2 ⟨rfl, hb2⟩
    have HB2 := Aside0.mk (below_step HB.out hb2)
    clear hb2
    cases r with
    | true =>
     have HN2 : Aside0 (∀ (j : Nat) (b : RBk), j < i + 1 → cs[j]? = some b → okB (toB b) = true) := ⟨fun j b' hj hb' => by
      by_cases h1 : j = i
      · subst h1
        rw [HE.out] at hb'
        injection hb' with hb'
        rw [← hb']; exact HRR.out
      · exact HN.out j b' (by omega) hb'⟩
     go_wp2
     go_roundw
     case rel => exact ⟨i + 1, by go_num, by omega, HN2, HB2⟩
     case measure => simp [intOf]; omega
    | false =>
     go_wp2
     go_ret
     exact ⟨rfl, HB2.out⟩
  · exfalso
    obtain ⟨b, hb, hbb⟩ := List.any_eq_true.1 HOK.out
    obtain ⟨j, hj, rfl⟩ := List.getElem_of_mem hb
    have := HN.out j _ (by omega) (List.getElem?_eq_getElem hj)
    rw [this] at hbb
    exact absurd hbb (by simp)
end Go.Proofs.Ytdfndglenbckhaa.V
end
section
set_option linter.unusedVariables false
set_option linter.unusedSimpArgs false
namespace Go.Proofs.Ytdfndglenbckhaa.V
open Go.RowKit Go.Proofs.YtdfndglenbckhaaW.PrintWords Go.Proofs.YtdfndglenbckhaaW.PrintLast Go.Proofs.YtdfndglenbckhaaW.PrintMore
def allR (bs : List S70) : List E := bs.flatMap fun b => b.f1
theorem rdR_get {l : List S70} {i : Nat} (h : i < l.length) : rd_T70 l (i : Int) = l[i] := by unfold rd_T70; simp [List.getD_eq_getElem?_getD, List.getElem?_eq_getElem h]
theorem allR_take {bs : List S70} {i : Nat} (h : i < bs.length) : allR (bs.take (i + 1)) = allR (bs.take i) ++ bs[i].f1 := by
 unfold allR
 rw [List.take_succ_eq_append_getElem h, List.flatMap_append]
 simp
theorem allR_take_le (bs : List S70) (i : Nat) : (allR (bs.take i)).length ≤ (allR bs).length := by
 have : allR bs = allR (bs.take i) ++ allR (bs.drop i) := by unfold allR; rw [← List.flatMap_append, List.take_append_drop]
 rw [this, List.length_append]
 omega
theorem refall_loop (bs : List S70) (hb : bs.length < 1000000000) (hl : (allR bs).length < 1000000000) : ∀ (d k i : Nat), bs.length - i = d → i ≤ bs.length → d + 2 * (allR bs).length < k →
 vergerref5_All.l0 k bs (sortE (allR (bs.take i))) (i : Int) = some (sortE (allR bs)) := by
 intro d
 induction d with
 | zero =>
  intro k i hd hi hk
  obtain ⟨k, rfl, _⟩ := succ_of hk
  obtain rfl : i = bs.length := by omega
  simp only [vergerref5_All.l0]
  rw [if_neg (by omega), List.take_length]
 | succ d ih =>
  intro k i hd hi hk
  obtain ⟨k, rfl, hk'⟩ := succ_of hk
  have hlt : i < bs.length := by omega
  have ht := allR_take hlt
  have hle := allR_take_le bs (i + 1)
  rw [ht, List.length_append] at hle
  simp only [vergerref5_All.l0, rdR_get hlt]
  rw [if_pos (by omega), if_pos (by omega), refmerge_told k _ _ (by rw [sortE_length]; omega) (by rw [sortE_length]; omega)]
  simp only [Option.bind_some]
  rw [show sortE (sortE (allR (bs.take i)) ++ bs[i].f1) = sortE (allR (bs.take (i + 1))) from sortE_of_perm (by rw [ht]; exact (sortE_perm _).append_right _), wrap_nat (by omega)]
  exact ih k (i + 1) (by omega) (by omega) (by omega)
theorem refall_told (k : Nat) (bs : List S70) (hb : bs.length < 1000000000) (hl : (allR bs).length < 1000000000) (hk : bs.length + 2 * (allR bs).length < k) : vergerref5_All.f k bs = some (sortE (allR bs)) := by
 have := refall_loop bs hb hl bs.length k 0 (by omega) (by omega) hk
 rw [show sortE (allR (bs.take 0)) = [] from sortE_nil] at this
 exact this
set_option maxRecDepth 100000 in
set_option maxHeartbeats 2000000 in
theorem rpivot (A : Option Addr) (c : Nat) (bs : List RBk) (n : Int) (w : World) (hr : k70.C w A bs.length bs) (hc : bs.length ≤ c) (hl : bs.length ≤ 1000) (ha : (allR bs).length ≤ 1000000) :
 Calls Try.prog 72 #[.slice A bs.length c, .int .i64 n] w fun x w' => ∃ A1 c1, x = .returned (.slice A1 (clampN n (allR bs).length) c1) ∧ k46.C w' A1 ((sortE (allR bs)).take (clampN n (allR bs).length)).length ((sortE (allR bs)).take (clampN n (allR bs).length)) ∧ clampN n (allR bs).length ≤ c1 ∧ Below w.heap.size w w' := by
 have HR := Aside0.mk hr
 have HT := Aside0.mk (refall_told 3000000 bs (by omega) (by omega) (by omega))
 have hsl := sortE_length (allR bs)
 obtain ⟨T, hT⟩ : ∃ T, T = sortE (allR bs) := ⟨_, rfl⟩
 obtain ⟨m, hm⟩ : ∃ m, m = clampN n (allR bs).length := ⟨_, rfl⟩
 rw [← hT] at hsl HT ⊢
 rw [← hm]
 have hml : m ≤ T.length := by rw [hsl, hm]; exact clampN_le n _
 have hmk : min (max n 0) (T.length : Int) = (m : Int) := by
  rw [hm, hsl]
  unfold clampN mn mx
  (repeat' split) <;> omega
 have HM := Aside0.mk hml
 have hm2 : (m : Int) ≤ (T.length : Int) := by omega
 have hm0 : (0 : Int) ≤ (m : Int) := by omega
 have hT63 : T.length ≤ 1000000 := by omega
 clear hr hT hm hsl
 go_enter Try.func72, Try.ntmps72
 go_wp2_with fail
 refine (vergerref5_All.calls 3000000 A c bs T _ HR.out hc HT.out).mono ?_
 rintro x w1 ⟨v1, rfl, hv1, hb1⟩
 obtain ⟨A1, c1, e1⟩ := Kd.R_slice hv1
 subst e1
 have HV := Aside0.mk (Kd.R_reads' hv1)
 have HB := Aside0.mk hb1
 have hc1 : T.length ≤ c1 := (Kd.R_reads' hv1).2.1
 have hm3 : (m : Int) ≤ (c1 : Int) := by omega
 clear hv1 hb1
 go_wp2
 all_goals (go_ret; exact ⟨A1, c1, rfl, Kd.C_take HV.out.2.2 HM.out, by omega, HB.out⟩)
end Go.Proofs.Ytdfndglenbckhaa.V
end
section
set_option linter.unusedVariables false
set_option linter.unusedSimpArgs false
namespace Go.Proofs.Ytdfndglenbckhaa.V
open Go.RowKit Go.Proofs.YtdfndglenbckhaaW.PrintWords Go.Proofs.YtdfndglenbckhaaW.PrintLast Go.Proofs.YtdfndglenbckhaaW.PrintMore
theorem rfirsts (k : Int) (es : List E) (hl : es.length ≤ 1000000) : (sortE es).take (clampN (max (min k 1073741824) 0 + 1) es.length) = firsts k es := by
 unfold firsts
 rw [List.take_eq_take_iff, sortE_length]
 unfold clampN mn mx
 (repeat' split) <;> omega
set_option maxRecDepth 100000 in
set_option maxHeartbeats 4000000 in
theorem rs_cand (base p : Nat) (ver : Int) (v : Value) (bs : List RBk) (k : Int) (d : Nat) (w : World) (h : RShAt w base p ver v bs) (hd : d < 18446744073709551616) (hl : bs.length ≤ 1000) (ha : (allR bs).length ≤ 1000000) :
 Calls Try.prog 20 #[.pointer (some ⟨p, 0, none⟩), .int .i64 k, .int .u64 (d : Int)] w (CandPost k d (allR bs) w) := by
 have HZ := Aside0.mk (below_alloc (Below.refl w.heap.size w) (.cells #[.int .u64 0, .int .i64 0] 46))
 have HX := Aside0.mk (heap_alloc_new w (.cells #[.int .u64 0, .int .i64 0] 46))
 have hs := h.below HZ.out
 have c1 := hs.cell1
 obtain ⟨A, c, rfl, hc, hf⟩ := hs.reads
 have HF := Aside0.mk (Kd.F_now hf)
 have HA := Aside0.mk ha
 have HLF := Aside0.mk (show (firsts k (allR bs)).length ≤ 1000000 from by
  unfold firsts
  rw [List.length_take, sortE_length]
  omega)
 obtain ⟨n, hn⟩ : ∃ n : Int, max (min k 1073741824) 0 = n := ⟨_, rfl⟩
 have hn0 : 0 ≤ n ∧ n ≤ 1073741824 := by omega
 have hn1 := hn0.1
 have hn2 := hn0.2
 have hnw : IntKind.i64.wrap (n + 1) = n + 1 := IntWalk.i64_in _ (by omega)
 have hnw2 : wrap64 (n + 1) = n + 1 := by unfold wrap64; omega
 have HRF := Aside0.mk (show (sortE (allR bs)).take (clampN (n + 1) (allR bs).length) = firsts k (allR bs) by rw [← hn]; exact rfirsts k _ ha)
 obtain ⟨L, hL⟩ : ∃ L, L = firsts k (allR bs) := ⟨_, rfl⟩
 have HLE := Aside0.mk hL
 have HLL := Aside0.mk (show clampN (n + 1) (allR bs).length = L.length by
  have := congrArg List.length HRF.out
  rw [List.length_take, sortE_length, ← hL] at this
  have h2 := clampN_le (n + 1) (allR bs).length
  omega)
 clear h hs hf hd ha hn0 hL
 go_enter Try.func20, Try.ntmps20
 go_wp2_with fail
 obtain ⟨wz, hwz⟩ : ∃ wz : World, wz = w.alloc (.cells #[.int .u64 0, .int .i64 0] 46) := ⟨_, rfl⟩
 rw [← hwz] at HZ HX HF ⊢
 clear hwz c1
 refine (rpivot A c bs (n + 1) _ HF.out hc hl HA.out).mono ?_
 rintro y wc ⟨A2, c2, rfl, hC, hc2, hB⟩
 rw [HLL.out] at hc2 ⊢
 rw [HRF.out, ← HLE.out] at hC
 have HC := Aside0.mk hC
 have hx := blk_below HX.out hB
 have x0 : wc.cell? ⟨w.heap.size, 0, none⟩ = some (.int .u64 0) := (blk_cell hx 0).trans rfl
 have x1 : wc.cell? ⟨w.heap.size, 1, none⟩ = some (.int .i64 0) := (blk_cell hx 1).trans rfl
 have f0 : wc.frozen? ⟨w.heap.size, 0, none⟩ = false := frozen_row hx 0
 have f1 : wc.frozen? ⟨w.heap.size, 1, none⟩ = false := frozen_row hx 1
 have HB2 := Aside0.mk (below_step HZ.out hB)
 clear hx hC hB hn hnw hnw2
 by_cases h0 : L = []
 · have HL0 := Aside0.mk h0
   subst h0
   go_wp2
   exact bodyPost_ret (v := .tuple #[.agg #[.int .u64 0, .int .i64 0], .bool false]) (by simp [results, Try.results20, go_sem, x0, x1]) rfl (candPost_none HLE.out.symm rfl ((HB2.out.setCell (Nat.le_refl _) _).setCell (Nat.le_refl _) _))
 · have hpos : 0 < L.length := by
    cases L with
    | nil => exact absurd rfl h0
    | cons _ _ => simp
   obtain ⟨r, hr⟩ : ∃ r, d % L.length = r := ⟨_, rfl⟩
   have hrl : r < L.length := by rw [← hr]; exact Nat.mod_lt _ hpos
   obtain ⟨e, he⟩ : ∃ e, L.getD r ⟨0, 0⟩ = e := ⟨_, rfl⟩
   obtain ⟨ad, e1, y0, y1⟩ := at_T46 HC.out (r : Int) (by omega) (by omega)
   subst e1
   have hrd : rd_T46 L (r : Int) = e := by unfold rd_T46; rw [Int.toNat_natCast]; exact he
   rw [Int.toNat_natCast, hrd] at y0 y1
   have r1 : (d : Int).tmod (L.length : Int) = (r : Int) := by rw [Int.tmod_eq_emod_of_nonneg (by omega), ← hr]; rfl
   have r2 : (d : Int) % (L.length : Int) = (r : Int) := by rw [← hr]; rfl
   have r3 : ¬ ((L.length : Int) = 0) := by omega
   have r4 : ¬ (L.length = 0) := by omega
   have r6 : ((L.length : Int) == 0) = false := by rw [beq_eq_false_iff_ne]; omega
   have hlL : L.length ≤ 1000000 := by rw [HLE.out]; exact HLF.out
   have s1 : IntKind.u64.wrap (L.length : Int) = (L.length : Int) := IntWalk.u64_in _ (by omega)
   have s2 : IntKind.u64.wrap (r : Int) = (r : Int) := IntWalk.u64_in _ (by omega)
   have s3 : IntKind.i64.wrap (r : Int) = (r : Int) := IntWalk.i64_in _ (by omega)
   have r7 : decide (L = []) = false := decide_eq_false h0
   have r8 : decide (L.length = 0) = false := decide_eq_false r4
   have hri : (r : Int) < (L.length : Int) := by omega
   have hri0 : (0 : Int) ≤ (r : Int) := by omega
   have HEE := Aside0.mk (show (firsts k (allR bs)).getD (d % (firsts k (allR bs)).length) ⟨0, 0⟩ = e by rw [← HLE.out, hr]; exact he)
   have HNE := Aside0.mk (show firsts k (allR bs) ≠ [] by rw [← HLE.out]; exact h0)
   clear hr he hrd hpos
   go_wp2
   exact bodyPost_ret (v := .tuple #[.agg #[.int .u64 e.f0, .int .i64 e.f1], .bool true]) (by simp [results, Try.results20, go_sem, x0, x1]) rfl (candPost_some HNE.out HEE.out rfl ((HB2.out.setCell (Nat.le_refl _) _).setCell (Nat.le_refl _) _))
end Go.Proofs.Ytdfndglenbckhaa.V
end
section
set_option linter.unusedVariables false
set_option linter.unusedSimpArgs false
namespace Go.Proofs.Ytdfndglenbckhaa.V
open Go.RowKit Go.Proofs.YtdfndglenbckhaaW.PrintWords Go.Proofs.YtdfndglenbckhaaW.PrintLast Go.Proofs.YtdfndglenbckhaaW.PrintMore
section
variable {P : Program} {ops : Array Oper} {Q : Exit → Act → World → Prop}
theorem goesLCg_ {rest : List Oper} {oi : Oper} {a : Act} {w : World} (N : Option Tmp) (hd : oi.dst = N) (hw : Region.wanted oi (yielded ops a.tmps) = true) {f : FuncId} {fn : Func} {xs : Array Operand} {ts : Array TypeId} {x : Operand} {cb : Array Value} (hf : P.funcs[f]? = some fn) (hname : (fn.name == "runtime.NumGoroutine") = false) (hb : fn.body.isSome = true) (args : Array Value)
 (hop : oi.op = .call { callee := .value x, args := xs, argTypes := ts }) (hx : a.eval x = .func (.func f) #[] cb) (hargs : xs.map a.eval ++ cb = args)
 (h : Calls P f args w fun e w' => ∃ v, e = .returned v ∧ wpList P ops Q rest (a.put N v) w') : wpList P ops Q (oi :: rest) a w := by
 refine wpList_step fun K hK => ?_
 rw [hw, if_pos rfl]
 have he := enters_ hf hname hb args w
 have hrun : (execOp a.eval oi).run P w = .ok (.enter f args) w := by
  unfold execOp
  simp [hop, resolve, Deferred.ofValue, invoke, hx, hargs, he]
 unfold Oper.wp
 rw [hrun, Oper.upon_enter]
 refine h.mono fun e w'' hh => ?_
 obtain ⟨v, rfl, hk⟩ := hh
 subst hd
 exact hK _ _ hk
end
theorem rd_someG {l : List E} {m : Nat} {e : E} (h : l[m]? = some e) : rd_T46 l (m : Int) = e := by unfold rd_T46; rw [Int.toNat_natCast, List.getD_eq_getElem?_getD, h]; rfl
structure AskE (fid : FuncId) (cb : Array Value) (p : E → Bool) (Inv : World → Prop) : Prop where
  known : ∃ fn, Try.prog.funcs[fid]? = some fn ∧ (fn.name == "runtime.NumGoroutine") = false ∧ fn.body.isSome = true
  stay : ∀ W W', Inv W → Below W.heap.size W W' → Inv W'
  call : ∀ (e : E) (W : World), Inv W → Calls Try.prog fid (#[.agg #[.int .u64 e.f0, .int .i64 e.f1]] ++ cb) W fun x W' => x = .returned (.bool (p e)) ∧ Below W.heap.size W W'
structure AskI (fid : FuncId) (cb : Array Value) (p : Int → Bool) (Inv : World → Prop) : Prop where
  known : ∃ fn, Try.prog.funcs[fid]? = some fn ∧ (fn.name == "runtime.NumGoroutine") = false ∧ fn.body.isSome = true
  stay : ∀ W W', Inv W → Below W.heap.size W W' → Inv W'
  call : ∀ (x : Int) (W : World), Inv W → Calls Try.prog fid (#[.int .i64 x] ++ cb) W fun y W' => y = .returned (.bool (p x)) ∧ Below W.heap.size W W'
theorem filt_take {p : E → Bool} {l : List E} {m : Nat} {e : E} (h : l[m]? = some e) : (l.take (m + 1)).filter p = (l.take m).filter p ++ (if p e = true then [e] else []) := by
 obtain ⟨h1, rfl⟩ := List.getElem?_eq_some_iff.1 h
 rw [List.take_succ_eq_append_getElem h1, List.filter_append]
 by_cases hi : p l[m] = true <;> simp [hi]
end Go.Proofs.Ytdfndglenbckhaa.V
end
section
set_option linter.unusedVariables false
set_option linter.unusedSimpArgs false
namespace Go.Proofs.Ytdfndglenbckhaa.V
open Go.RowKit Go.Proofs.YtdfndglenbckhaaW.PrintWords Go.Proofs.YtdfndglenbckhaaW.PrintLast Go.Proofs.YtdfndglenbckhaaW.PrintMore
set_option maxRecDepth 100000 in
set_option maxHeartbeats 2000000 in
theorem eidx_gen {fid : FuncId} {cb : Array Value} {p : E → Bool} {Inv : World → Prop} (A : Option Addr) (c : Nat) (l : List E) (w : World) (hf : AskE fid cb p Inv) (hr : k46.C w A l.length l) (hc : l.length ≤ c) (hl : l.length ≤ 1000000) (h : Inv w) :
 Calls Try.prog 105 #[.slice A l.length c, .func (.func fid) #[] cb] w fun x w' => x = .returned (.int .i64 (posB (l.findIdx? p))) ∧ Below w.heap.size w w' := by
 have HR := Aside0.mk hr
 have HC := Aside0.mk h
 have HF := Aside0.mk hf
 obtain ⟨fn, hk1, hk2, hk3⟩ := hf.known
 have HK := Aside0.mk hk1
 have HK2 := Aside0.mk hk2
 have HK3 := Aside0.mk hk3
 clear hr h hf hk1 hk2 hk3
 go_enter Try.func105, Try.ntmps105
 go_wp2
 go_loopw [8] (fun i wr => ∃ m : Nat, m ≤ l.length ∧ i = .int .i64 m ∧ Aside0 (∀ j b, j < m → l[j]? = some b → p b = false) ∧ Aside0 (Below w.heap.size w wr)) (fun i _ => l.length - (intOf i).toNat)
 case atStart => exact ⟨0, Nat.zero_le _, rfl, ⟨fun j b h => by omega⟩, ⟨Below.refl _ _⟩⟩
 case round =>
  obtain ⟨m, hm, rfl, HN, HB⟩ := hrel
  by_cases hlt : m < l.length
  · obtain ⟨e, he⟩ : ∃ e, l[m]? = some e := ⟨_, List.getElem?_eq_getElem hlt⟩
    obtain ⟨ad, e1, y0, y1⟩ := at_T46 (Kd.C_below HR.out HB.out) (m : Int) (by omega) (by omega)
    subst e1
    rw [Int.toNat_natCast, rd_someG he] at y0 y1
    have HE := Aside0.mk he
    have HI := Aside0.mk (HF.out.stay _ _ HC.out HB.out)
    clear he
    cases hi : p e with
    | false =>
     have HP := Aside0.mk hi
     have HN2 : Aside0 (∀ j b, j < m + 1 → l[j]? = some b → p b = false) := ⟨fun j b' hj hb' => by
      by_cases h1 : j = m
      · subst h1
        rw [HE.out] at hb'
        injection hb' with hb'
        rw [← hb']; exact hi
      · exact HN.out j b' (by omega) hb'⟩
     clear hi
     go_wp2_with ((with_reducible refine gate_dst (N := 16) rfl ?_); go_loud (refine goesLC_ (some 16) rfl rfl HK.out HK2.out HK3.out (#[.agg #[.int .u64 e.f0, .int .i64 e.f1]] ++ cb) rfl rfl (by (try simp only [List.map_toArray, List.map_cons, List.map_nil]); first | done | rfl) ?_; refine (HF.out.call e _ HI.out).mono ?_; rintro x w2 ⟨rfl, hb2⟩; rw [HP.out]; have HB2 := Aside0.mk (below_step HB.out hb2); clear hb2; refine ⟨_, rfl, ?_⟩))
     go_roundw
     case rel => exact ⟨m + 1, by omega, by go_num, HN2, HB2⟩
     case measure => simp [intOf]; omega
    | true =>
     have HP := Aside0.mk hi
     have HFI := Aside0.mk (posB_here HE.out hi HN.out)
     clear hi
     go_wp2_with ((with_reducible refine gate_dst (N := 16) rfl ?_); go_loud (refine goesLC_ (some 16) rfl rfl HK.out HK2.out HK3.out (#[.agg #[.int .u64 e.f0, .int .i64 e.f1]] ++ cb) rfl rfl (by (try simp only [List.map_toArray, List.map_cons, List.map_nil]); first | done | rfl) ?_; refine (HF.out.call e _ HI.out).mono ?_; rintro x w2 ⟨rfl, hb2⟩; rw [HP.out]; have HB2 := Aside0.mk (below_step HB.out hb2); clear hb2; refine ⟨_, rfl, ?_⟩))
     go_ret
     exact ⟨by rw [HFI.out]; rfl, HB2.out⟩
  · obtain rfl : m = l.length := by omega
    have HF := Aside0.mk (posB_none HN.out)
    go_wp2
    go_ret
    exact ⟨by rw [HF.out]; rfl, HB.out⟩
end Go.Proofs.Ytdfndglenbckhaa.V
end
section
set_option linter.unusedVariables false
set_option linter.unusedSimpArgs false
namespace Go.Proofs.Ytdfndglenbckhaa.V
open Go.RowKit Go.Proofs.YtdfndglenbckhaaW.PrintWords Go.Proofs.YtdfndglenbckhaaW.PrintLast Go.Proofs.YtdfndglenbckhaaW.PrintMore
set_option maxHeartbeats 1000000 in
theorem econt_gen {fid : FuncId} {cb : Array Value} {p : E → Bool} {Inv : World → Prop} (A : Option Addr) (c : Nat) (l : List E) (w : World) (hf : AskE fid cb p Inv) (hr : k46.C w A l.length l) (hc : l.length ≤ c) (hl : l.length ≤ 1000000) (h : Inv w) :
 Calls Try.prog 62 #[.slice A l.length c, .func (.func fid) #[] cb] w fun x w' => x = .returned (.bool (l.any p)) ∧ Below w.heap.size w w' := by
 have HR := Aside0.mk hr
 have HC := Aside0.mk h
 have HF := Aside0.mk hf
 have HA := Aside0.mk (posB_any p l)
 clear hr h hf
 go_enter Try.func62, Try.ntmps62
 go_wp2_with fail
 refine (eidx_gen A c l _ HF.out HR.out hc hl HC.out).mono ?_
 rintro x w2 ⟨rfl, hb2⟩
 have HB2 := Aside0.mk hb2
 clear hb2
 generalize posB (l.findIdx? p) = v at HA ⊢
 go_wp2
 go_ret
 exact ⟨by rw [← HA.out]; rfl, HB2.out⟩
end Go.Proofs.Ytdfndglenbckhaa.V
end
section
set_option linter.unusedVariables false
set_option linter.unusedSimpArgs false
namespace Go.Proofs.Ytdfndglenbckhaa.V
open Go.RowKit Go.Proofs.YtdfndglenbckhaaW.PrintWords Go.Proofs.YtdfndglenbckhaaW.PrintLast Go.Proofs.YtdfndglenbckhaaW.PrintMore
theorem func_nilG (f : Fn) (x y : Array Value) (W : World) : (binOp .eql 39 (.func f x y) .nilFunc).run Try.prog W = .ok (.bool false) W := by
 have h : ∀ d, (Op.equalIn (d + 1) 39 (.func f x y) .nilFunc).run Try.prog W = .ok false W := fun d => by simp [Op.equalIn, run_underlying Try.underlying39]
 simp only [binOp]
 simp [Op.equal, Op.maxDepth, h 9999]
set_option maxRecDepth 100000 in
set_option maxHeartbeats 4000000 in
theorem shrink_gen {fid : FuncId} {cb : Array Value} {gone : Int → Bool} {Inv : World → Prop} (b : Bk) (A : Option Addr) (c : Nat) (w : World) (hf : AskI fid cb gone Inv) (hr : k46.C w A b.f1.length b.f1) (hc : b.f1.length ≤ c) (hl : b.f1.length ≤ 1000000) (h : Inv w) :
 Calls Try.prog 63 #[.agg #[.int .i64 b.f0, .slice A b.f1.length c], .func (.func fid) #[] cb] w fun x w' => ∃ A1 c1, x = .returned (.agg #[.int .i64 (mkB (b.f1.filter fun e => !gone e.f1)).f0, .slice A1 (mkB (b.f1.filter fun e => !gone e.f1)).f1.length c1]) ∧ Kd.V k46 46 w' w.heap.size (fun k => w.heap.size ≤ k) (.slice A1 (mkB (b.f1.filter fun e => !gone e.f1)).f1.length c1) (mkB (b.f1.filter fun e => !gone e.f1)).f1 ∧ Below w.heap.size w w' := by
 have hz := below_alloc (below_alloc (Below.refl w.heap.size w) (.cells #[.int .i64 b.f0, .slice A b.f1.length c] 84)) (.cells #[.int .i64 0, .slice none 0 0] 84)
 have HZ := Aside0.mk hz
 have HR := Aside0.mk (Kd.C_below hr hz)
 have HC := Aside0.mk (hf.stay _ _ h hz)
 have HF := Aside0.mk hf
 obtain ⟨fn, hk1, hk2, hk3⟩ := hf.known
 have HK := Aside0.mk hk1
 have HK2 := Aside0.mk hk2
 have HK3 := Aside0.mk hk3
 have HX := Aside0.mk (heap_alloc_new (w.alloc (.cells #[.int .i64 b.f0, .slice A b.f1.length c] 84)) (.cells #[.int .i64 0, .slice none 0 0] 84))
 have hnil := fun W => func_nilG (.func fid) #[] cb W
 obtain ⟨keep, hkeep⟩ : ∃ keep : E → Bool, keep = fun e => !gone e.f1 := ⟨_, rfl⟩
 have HKE := Aside0.mk hkeep
 rw [← hkeep]
 obtain ⟨L, hL⟩ : ∃ L, L = b.f1.filter keep := ⟨_, rfl⟩
 have HLE := Aside0.mk hL
 rw [← hL]
 clear hz hr h hf hk1 hk2 hk3 hkeep hL
 go_enter Try.func63, Try.ntmps63
 go_wp2
 obtain ⟨wz, hwz⟩ : ∃ wz : World, wz = (w.alloc (.cells #[.int .i64 b.f0, .slice A b.f1.length c] 84)).alloc (.cells #[.int .i64 0, .slice none 0 0] 84) := ⟨_, rfl⟩
 rw [← hwz] at HZ HR HC HX ⊢
 rw [World.size_alloc] at HX
 clear hwz
 go_loopw [5, 11] (fun q i wr => ∃ m : Nat, m ≤ b.f1.length ∧ i = .int .i64 m ∧ Aside0 (Kd.R k46 46 wr wz.heap.size (fun _ => True) q ((b.f1.take m).filter keep)) ∧ Aside0 (Below wz.heap.size wz wr)) (fun _ i _ => b.f1.length - (intOf i).toNat)
 case atStart => exact ⟨0, Nat.zero_le _, rfl, ⟨Kd.R_nil _ _ _ _ _⟩, ⟨Below.refl _ _⟩⟩
 case round =>
  obtain ⟨m, hm, rfl, HQ, HB⟩ := hrel
  by_cases hlt : m < b.f1.length
  · obtain ⟨e, he⟩ : ∃ e, b.f1[m]? = some e := ⟨_, List.getElem?_eq_getElem hlt⟩
    obtain ⟨ad, e1, y0, y1⟩ := at_T46 (Kd.C_below HR.out HB.out) (m : Int) (by omega) (by omega)
    subst e1
    rw [Int.toNat_natCast, rd_someG he] at y0 y1
    have HT := Aside0.mk (filt_take (p := keep) he)
    have hql : ((b.f1.take m).filter keep).length ≤ 1000000 := Nat.le_trans (List.length_filter_le _ _) (by rw [List.length_take]; omega)
    have HQL := Aside0.mk hql
    have HI := Aside0.mk (HF.out.stay _ _ (HF.out.stay _ _ HC.out HB.out) (below_alloc (Below.refl wr.heap.size wr) (.cells #[.int .u64 e.f0, .int .i64 e.f1] 46)))
    have hkk : keep e = !gone e.f1 := by rw [HKE.out]
    clear he hql
    cases hi : gone e.f1 with
    | true =>
     have HT2 := HT.out
     rw [hkk, hi, if_neg (by simp), List.append_nil] at HT2
     have HT3 := Aside0.mk HT2
     have HP := Aside0.mk hi
     clear HT2 hi hkk
     go_wp2_with ((with_reducible refine gate_dst (N := 21) rfl ?_); go_loud (refine goesLCg_ (some 21) rfl (by rfl) HK.out HK2.out HK3.out (#[.int .i64 e.f1] ++ cb) rfl rfl (by (try simp only [List.map_toArray, List.map_cons, List.map_nil]); first | done | rfl) ?_; refine (HF.out.call e.f1 _ HI.out).mono ?_; rintro x w2 ⟨rfl, hb2⟩; rw [HP.out]; have HB2 := Aside0.mk (below_step (below_alloc (Below.refl wr.heap.size wr) (.cells #[.int .u64 e.f0, .int .i64 e.f1] 46)) hb2); clear hb2; refine ⟨_, rfl, ?_⟩))
     go_roundw
     case rel => exact ⟨m + 1, by omega, by go_num, ⟨by rw [HT3.out]; exact Kd.R_below HQ.out HB2.out⟩, ⟨below_step HB.out HB2.out⟩⟩
     case measure => simp [intOf]; omega
    | false =>
     have HT2 := HT.out
     rw [hkk, hi, if_pos (by simp)] at HT2
     have HT3 := Aside0.mk HT2
     have HP := Aside0.mk hi
     clear HT2 hi hkk
     have HX1 := Aside0.mk (heap_alloc_new wr (.cells #[.int .u64 e.f0, .int .i64 e.f1] 46))
     go_wp2_with (first
      | ((with_reducible refine gate_dst (N := 21) rfl ?_); go_loud (refine goesLCg_ (some 21) rfl (by rfl) HK.out HK2.out HK3.out (#[.int .i64 e.f1] ++ cb) rfl rfl (by (try simp only [List.map_toArray, List.map_cons, List.map_nil]); first | done | rfl) ?_; refine (HF.out.call e.f1 _ HI.out).mono ?_; rintro x w2 ⟨rfl, hb2⟩; rw [HP.out]; have hx1 := blk_below HX1.out hb2; have k0 : w2.cell? ⟨wr.heap.size, 0, none⟩ = some (.int .u64 e.f0) := (blk_cell hx1 0).trans rfl; have k1 : w2.cell? ⟨wr.heap.size, 1, none⟩ = some (.int .i64 e.f1) := (blk_cell hx1 1).trans rfl; have HB2 := Aside0.mk (below_step (below_alloc (Below.refl wr.heap.size wr) (.cells #[.int .u64 e.f0, .int .i64 e.f1] 46)) hb2); have HQ2 := Aside0.mk (Kd.R_below HQ.out HB2.out); have HBB := Aside0.mk (below_step HB.out HB2.out); clear hb2 hx1; refine ⟨_, rfl, ?_⟩))
      | ((with_reducible refine gate_builtin (b := .append) (xs := #[.tmp 24, .tmp 26]) rfl ?_); at_builtin; go_loud (refine Kd.R_append k46 (w0 := wz) wz.heap.size rfl (.tmp 24) (.tmp 26) 30 46 (.agg #[(.int .u64 0), (.int .i64 0)]) 16 rfl Try.underlying30 info46 rfl (by decide) (by decide) u5 ((b.f1.take m).filter keep) e [.int .u64 e.f0, .int .i64 e.f1] (fun _ => True) (fun _ => False) rfl (by simp [Act.eval]) (k46_mkM _ _ _ e) (fun _ hk => hk.elim) (fun _ _ => trivial) HQ2.out HBB.out HBB.out.size (by have := HQL.out; omega) ?_; intro v1 w3 ho1 hb1 hg1 hat1; have HQ1 := Aside0.mk ho1; have HB1 := Aside0.mk hb1; clear ho1 hb1 hg1 hat1)))
     go_roundw
     case rel => exact ⟨m + 1, by omega, by go_num, ⟨by rw [HT3.out]; exact HQ1.out⟩, HB1⟩
     case measure => simp [intOf]; omega
  · obtain rfl : m = b.f1.length := by omega
    rw [List.take_length] at HQ
    have HOB : Aside0 (Kd.R k46 46 wr wz.heap.size (fun _ => True) u5 L) := by rw [HLE.out]; exact HQ
    have HOL := Aside0.mk (show L.length ≤ 1000000 by rw [HLE.out]; exact Nat.le_trans (List.length_filter_le _ _) hl)
    obtain ⟨A1, c1, e1⟩ := Kd.R_slice HOB.out
    subst e1
    have HRD := Aside0.mk (Kd.R_reads' HOB.out)
    have HOF := Aside0.mk (show block_Of.f 100 L = some ((mkB L).f0, (mkB L).f1) from of_told 100 _ (by have := HOL.out; omega) (by omega))
    clear HQ
    go_wp2_with fail
    refine (block_Of.calls 100 A1 c1 L _ _ wr HRD.out.2.2 HRD.out.2.1 HOF.out).mono ?_
    rintro y w4 ⟨v4, rfl, hv4, hb4⟩
    obtain ⟨A4, c4, rfl⟩ := Kd.V_slice hv4
    have HV4 := Aside0.mk hv4
    have HB4 := Aside0.mk (below_then HB.out HB.out.size hb4)
    have hx := (HB4.out.block _ (Array.getElem?_eq_some_iff.1 HX.out).1).trans HX.out
    have x0 : w4.cell? ⟨w.heap.size + 1, 0, none⟩ = some (.int .i64 0) := by simp [World.cell?, hx]
    have x1 : w4.cell? ⟨w.heap.size + 1, 1, none⟩ = some (.slice none 0 0) := by simp [World.cell?, hx]
    have f0 : w4.frozen? ⟨w.heap.size + 1, 0, none⟩ = false := by simp [World.frozen?, hx]
    have f1 : w4.frozen? ⟨w.heap.size + 1, 1, none⟩ = false := by simp [World.frozen?, hx]
    clear hv4 hb4 hx
    have HWZ : Aside0 (w.heap.size + 1 < wr.heap.size) := ⟨Nat.lt_of_lt_of_le (Array.getElem?_eq_some_iff.1 HX.out).1 HB.out.size⟩
    have HV5 := Aside0.mk (Kd.V_mono (Kd.V_far (Kd.V_far HV4.out (p := ⟨w.heap.size + 1, 0, none⟩) (fun k hk => by have := HWZ.out; show k ≠ w.heap.size + 1; omega) (.int .i64 (mkB L).f0)) (p := ⟨w.heap.size + 1, 1, none⟩) (fun k hk => by have := HWZ.out; show k ≠ w.heap.size + 1; omega) (.slice A4 (mkB L).f1.length c4)) (ok' := fun k => w.heap.size ≤ k) (fun k hk => by have := HWZ.out; omega))
    go_wp2
    exact bodyPost_ret (v := .agg #[.int .i64 (mkB L).f0, .slice A4 (mkB L).f1.length c4]) (by simp [results, Try.results63, go_sem, x0, x1]) rfl ⟨_, _, rfl, HV5.out, ((below_step HZ.out HB4.out).setCell (Nat.le_succ _) _).setCell (Nat.le_succ _) _⟩
end Go.Proofs.Ytdfndglenbckhaa.V
end
