-- a text of this work, without what this claim doesn't use (wip/shake.py)
import Derived.Test.YtijancajlmneeaaLVSh7
import Derived.Test.YtijancajlmneeaaLVP5T
section
set_option linter.unusedVariables false
set_option linter.unusedSimpArgs false
namespace Go.Proofs.Ytijancajlmneeaa.V
open Go.RowKit Go.Proofs.YtijancajlmneeaaW.PrintWords Go.Proofs.YtijancajlmneeaaW.PrintLast Go.Proofs.YtijancajlmneeaaW.PrintMore
structure SOk (w0 wr : World) (p : Nat) (ver : Int) (v : Value) (bs : List Bk) (es : List E) : Prop where
  hat : ShAt wr w0.heap.size p ver v bs
  ok : ∀ b ∈ bs, okB b = true
  all : (allB bs).Perm es
  bel : Below w0.heap.size w0 wr
namespace SOk
variable {w0 wr w2 : World} {p : Nat} {ver : Int} {v v2 : Value} {bs cs : List Bk} {es : List E}
theorem below (h : SOk w0 wr p ver v bs es) (hb : Below wr.heap.size wr w2) : SOk w0 w2 p ver v bs es := ⟨h.hat.below hb, h.ok, h.all, below_step h.bel hb⟩
theorem cnt (h : SOk w0 wr p ver v bs es) : (allB bs).length = es.length := h.all.length_eq
theorem step (h : SOk w0 wr p ver v bs es) (hg : wr.grownBy w2 (some p)) : Below w0.heap.size w0 w2 := below_grown h.bel hg (fun k hk => by injection hk with hk; have := h.hat.lo; omega)
theorem drewN (h : SOk w0 wr p ver v bs es) (m : Nat) : SOk w0 (wr.drewN m) p ver v bs es := h.below (pw_below_drewN (Below.refl _ _) m)
end SOk
theorem snew_ok (w0 : World) : Calls Try.prog 11 #[] w0 fun x w2 => x = .returned (.pointer (some ⟨w0.heap.size, 0, none⟩)) ∧ SOk w0 w2 w0.heap.size 0 (.slice none 0 0) [] [] := by
 refine (sh_new w0).mono ?_
 rintro x w2 ⟨rfl, h1, h2⟩
 exact ⟨rfl, h1, by simp, by rw [allB_nil], h2⟩
theorem sadd_ok {w0 wr : World} {p : Nat} {ver : Int} {v : Value} {bs : List Bk} {es : List E} (h : SOk w0 wr p ver v bs es) (A : Option Addr) (c : Nat) (l : List E) (hv : 0 ≤ ver ∧ ver ≤ 1000000) (hr : k28.C wr A l.length l) (hc : l.length ≤ c) (hne : l ≠ []) (hl : bs.length ≤ 900) (ha : es.length + l.length ≤ 1000000) :
 Calls Try.prog 13 #[.pointer (some ⟨p, 0, none⟩), .slice A l.length c] wr fun x w2 => x = .returned (.tuple #[]) ∧ (∃ v2, SOk w0 w2 p (ver + 1) v2 (addL l bs) (l ++ es)) ∧ wr.grownBy w2 (some p) := by
 refine (sh_add w0.heap.size p ver v bs A c l wr h.hat hv hr hc hne hl (by have := h.cnt; omega) h.ok).mono ?_
 rintro x w2 ⟨rfl, v2, hs, hg⟩
 exact ⟨rfl, ⟨v2, hs, addL_okB h.ok, (addL_all l bs).trans (h.all.append_left l), h.step hg⟩, hg⟩
theorem sadd_okN {w0 wr : World} {p : Nat} {ver : Int} {v : Value} {bs : List Bk} {es : List E} (h : SOk w0 wr p ver v bs es) (A : Option Addr) (n c : Nat) (l : List E) (hn : n = l.length) (hv : 0 ≤ ver ∧ ver ≤ 1000000) (hr : k28.C wr A l.length l) (hc : l.length ≤ c) (hne : l ≠ []) (hl : bs.length ≤ 900) (ha : es.length + l.length ≤ 1000000) :
 Calls Try.prog 13 #[.pointer (some ⟨p, 0, none⟩), .slice A n c] wr fun x w2 => x = .returned (.tuple #[]) ∧ (∃ v2, SOk w0 w2 p (ver + 1) v2 (addL l bs) (l ++ es)) ∧ wr.grownBy w2 (some p) := by
 subst hn; exact sadd_ok h A c l hv hr hc hne hl ha
theorem sh_add_nilN (p : Nat) (A : Option Addr) (n c : Nat) (w : World) (hn : n = 0) :
 Calls Try.prog 13 #[.pointer (some ⟨p, 0, none⟩), .slice A n c] w fun x w' => x = .returned (.tuple #[]) ∧ w = w' := by
 subst hn; exact sh_add_nil p A c w
theorem slen_ok {w0 wr : World} {p : Nat} {ver : Int} {v : Value} {bs : List Bk} {es : List E} (h : SOk w0 wr p ver v bs es) (hl : bs.length ≤ 1000) (ha : es.length ≤ 1000000) :
 Calls Try.prog 15 #[.pointer (some ⟨p, 0, none⟩)] wr fun x w2 => x = .returned (.int .i64 es.length) ∧ Below wr.heap.size wr w2 := by
 have h2 := h.cnt
 rw [← h2]
 exact sh_len w0.heap.size p ver v bs wr h.hat hl (by omega)
theorem ssnap_ok {w0 wr : World} {p : Nat} {ver : Int} {v : Value} {bs : List Bk} {es : List E} (h : SOk w0 wr p ver v bs es) (hl : bs.length ≤ 1000) (ha : es.length ≤ 1000000) :
 Calls Try.prog 12 #[.pointer (some ⟨p, 0, none⟩)] wr fun x w2 => ∃ A1 c1, x = .returned (.agg #[.int .u64 ver, .slice A1 bs.length c1]) ∧ Kd.V k35 35 w2 0 (fun k => k ≠ p) (.slice A1 bs.length c1) bs ∧ Below wr.heap.size wr w2 := by
 have h2 := h.cnt
 exact sh_snap w0.heap.size p ver v bs wr h.hat hl (by omega)
theorem field_snap (a : Int) (A : Option Addr) (n c : Nat) (w : World) : (Instr.field 31 (.agg #[.int .u64 a, .slice A n c]) 0).run Try.prog w = .ok (.int .u64 a) w := by
 simp [Instr.field, run_underlying Try.underlying31, asAgg, go_sem]
theorem three_C {W : World} {g : Nat} {a b c : E} (h : W.heap[g]? = some (.cells #[.int .u64 a.f0, .int .i64 a.f1, .int .u64 b.f0, .int .i64 b.f1, .int .u64 c.f0, .int .i64 c.f1] 28 (0, 0))) : k28.C W (some ⟨g, 0, none⟩) ([a, b, c] : List E).length [a, b, c] :=
 (Kd.R_reads' (row_close (e := 28) (base := 0) (ok := fun _ => True) (c := 3) (l := [a, b, c]) (Nat.zero_le _) trivial h (by omega) (by simp) rfl rfl)).2.2
theorem sorted_3 : sortE [⟨4, 1⟩, ⟨2, 2⟩, ⟨9, 3⟩] = ([⟨2, 2⟩, ⟨4, 1⟩, ⟨9, 3⟩] : List E) := by
 refine sortE_eq ?_ ?_
 · simp [SortedE, leE, ltE]
 · exact List.Perm.swap _ _ _
theorem add_nil (l : List E) : addL l [] = [mkB l] := rfl
set_option maxRecDepth 100000 in
set_option maxHeartbeats 4000000 in
theorem awake8 (w : World) : Calls Try.prog 16 #[] w fun e w' => e = .returned (.bool true) ∧ Below w.heap.size w w' := by
 go_enter Try.func16, Try.ntmps16
 go_wp2_with fail
 refine (snew_ok w).mono ?_
 rintro x w1 ⟨rfl, hk1⟩
 have HK1 := Aside0.mk hk1
 clear hk1
 have HZ := Aside0.mk (below_alloc (Below.refl w1.heap.size w1) (.cells #[.int .u64 4, .int .i64 1, .int .u64 2, .int .i64 2, .int .u64 9, .int .i64 3] 28))
 have HC := Aside0.mk (three_C (a := ⟨4, 1⟩) (b := ⟨2, 2⟩) (c := ⟨9, 3⟩) (heap_alloc_new w1 (.cells #[.int .u64 4, .int .i64 1, .int .u64 2, .int .i64 2, .int .u64 9, .int .i64 3] 28)))
 have HK2 := Aside0.mk (HK1.out.below HZ.out)
 go_wp2_with fail
 refine (sadd_ok HK2.out (some ⟨w1.heap.size, 0, none⟩) 3 [⟨4, 1⟩, ⟨2, 2⟩, ⟨9, 3⟩] (by decide) HC.out (by decide) (by simp) (by simp) (by simp)).mono ?_
 rintro x w3 ⟨rfl, ⟨v3, hk3⟩, hg3⟩
 rw [add_nil] at hk3
 have HK3 := Aside0.mk hk3
 clear hk3 hg3 HC HZ HK2
 have HCA := Aside0.mk (show firsts 0 (allB [mkB [⟨4, 1⟩, ⟨2, 2⟩, ⟨9, 3⟩]]) = [⟨2, 2⟩] by
  unfold firsts
  rw [show sortE (allB [mkB [⟨4, 1⟩, ⟨2, 2⟩, ⟨9, 3⟩]]) = sortE [⟨4, 1⟩, ⟨2, 2⟩, ⟨9, 3⟩] from sortE_of_perm HK3.out.all, sorted_3, clampN_mid (by omega) (by omega)]
  rfl)
 have HAL := Aside0.mk (show (allB [mkB [⟨4, 1⟩, ⟨2, 2⟩, ⟨9, 3⟩]]).length ≤ 1000000 by rw [HK3.out.cnt]; simp)
 go_wp2_with fail
 refine (sh_cand w.heap.size w.heap.size 1 v3 _ 0 77 _ HK3.out.hat (by omega) (by simp) HAL.out).mono ?_
 rintro x w4 hp4
 unfold CandPost at hp4
 rw [HCA.out, show drawnE [⟨2, 2⟩] 77 = (.agg #[.int .u64 2, .int .i64 2], true) from rfl] at hp4
 obtain ⟨rfl, hb4⟩ := hp4
 have HK4 := Aside0.mk (HK3.out.below hb4)
 have HZ5 := Aside0.mk (below_alloc (Below.refl w4.heap.size w4) (.cells #[.int .u64 2, .int .i64 2] 28))
 have HX5 := Aside0.mk (heap_alloc_new w4 (.cells #[.int .u64 2, .int .i64 2] 28))
 have HK5 := Aside0.mk (HK4.out.below HZ5.out)
 clear hb4 HCA
 go_wp2_with fail
 refine (ssnap_ok HK5.out (by simp) (by simp)).mono ?_
 rintro x w6 ⟨A6, c6, rfl, hv6, hb6⟩
 have HK6 := Aside0.mk (HK5.out.below hb6)
 have hx6 := blk_below HX5.out hb6
 have HZ7 := Aside0.mk (below_alloc (Below.refl w6.heap.size w6) (.cells #[.int .u64 1, .slice A6 1 c6] 31))
 have hx7 := heap_alloc_new w6 (.cells #[.int .u64 1, .slice A6 1 c6] 31)
 have HK7 := Aside0.mk (HK6.out.below HZ7.out)
 have x0 := (blk_cell (blk_below hx6 HZ7.out) 0).trans rfl
 have y0 := (blk_cell hx7 0).trans rfl
 have y1 := (blk_cell hx7 1).trans rfl
 clear hv6 hb6 hx6 hx7 HX5 HZ5 HZ7
 go_wp2_with fail
 refine (slen_ok HK7.out (by simp) (by simp)).mono ?_
 rintro x w8 ⟨rfl, hb8⟩
 have HB8 := Aside0.mk (HK7.out.below hb8).bel
 clear hb8
 go_wp2
 go_ret
 exact ⟨by first | rfl | simp, HB8.out⟩
end Go.Proofs.Ytijancajlmneeaa.V
end
section
set_option linter.unusedVariables false
set_option linter.unusedSimpArgs false
namespace Go.Proofs.Ytijancajlmneeaa.V
open Go.RowKit Go.Proofs.YtijancajlmneeaaW.PrintWords Go.Proofs.YtijancajlmneeaaW.PrintLast Go.Proofs.YtijancajlmneeaaW.PrintMore
theorem and_maskL (x : Int) (m : Nat) (hm : m < 4611686018427387904) : 0 ≤ Go.bits .and .i64 x (m : Int) ∧ Go.bits .and .i64 x (m : Int) ≤ (m : Int) := by
 have h2 : (BitVec.ofInt 64 (m : Int)).toNat = m := by
  rw [BitVec.ofInt_natCast, BitVec.toNat_ofNat]; exact Nat.mod_eq_of_lt (by omega)
 have h3 : ((BitVec.ofInt 64 x) &&& (BitVec.ofInt 64 (m : Int))).toNat ≤ m := by
  rw [BitVec.toNat_and, h2]
  exact Nat.and_le_right
 show 0 ≤ IntKind.i64.wrap ((BitVec.ofInt 64 x &&& BitVec.ofInt 64 (m : Int)).toNat : Int) ∧ IntKind.i64.wrap ((BitVec.ofInt 64 x &&& BitVec.ofInt 64 (m : Int)).toNat : Int) ≤ _
 rw [i64_w]
 unfold wrap64
 omega
end Go.Proofs.Ytijancajlmneeaa.V
end
