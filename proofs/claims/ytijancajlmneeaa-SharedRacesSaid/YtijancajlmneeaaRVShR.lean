-- a text of this work, without what this claim doesn't use (wip/shake.py)
import Derived.Test.YtijancajlmneeaaRVSh7
import Derived.Test.YtijancajlmneeaaRVP5T
import Derived.Test.YtijancajlmneeaaRVPblockb
import Derived.Test.YtijancajlmneeaaRVLsm13
import Derived.Test.YtijancajlmneeaaRVPentry
import Derived.Test.YtijancajlmneeaaRVCall
import Derived.Test.YtijancajlmneeaaRVPentry1
import Derived.Test.YtijancajlmneeaaRVLsm12
import Derived.Deep.RegionWith
import Derived.Deep.DeepCutAuto
import Derived.Deep.CutBlock
section
set_option linter.unusedVariables false
set_option linter.unusedSimpArgs false
namespace Go.Proofs.Ytijancajlmneeaa.V
open Go.RowKit Go.Proofs.YtijancajlmneeaaW.PrintWords Go.Proofs.YtijancajlmneeaaW.PrintLast Go.Proofs.YtijancajlmneeaaW.PrintMore
structure SOk (w0 wr : World) (p : Nat) (ver : Int) (v : Value) (bs : List Bk) (es : List E) : Prop where
  hat : ShAt wr w0.heap.size p ver v bs
  ok : ∀ b ∈ bs, okB b = true
  all : (allB bs).Perm es
  bel : Below w0.heap.size w0 wr
namespace SOk
variable {w0 wr w2 : World} {p : Nat} {ver : Int} {v v2 : Value} {bs cs : List Bk} {es : List E}
theorem below (h : SOk w0 wr p ver v bs es) (hb : Below wr.heap.size wr w2) : SOk w0 w2 p ver v bs es := ⟨h.hat.below hb, h.ok, h.all, below_step h.bel hb⟩
theorem cnt (h : SOk w0 wr p ver v bs es) : (allB bs).length = es.length := h.all.length_eq
theorem step (h : SOk w0 wr p ver v bs es) (hg : wr.grownBy w2 (some p)) : Below w0.heap.size w0 w2 := below_grown h.bel hg (fun k hk => by injection hk with hk; have := h.hat.lo; omega)
theorem drewN (h : SOk w0 wr p ver v bs es) (m : Nat) : SOk w0 (wr.drewN m) p ver v bs es := h.below (pw_below_drewN (Below.refl _ _) m)
end SOk
theorem snew_ok (w0 : World) : Calls Try.prog 11 #[] w0 fun x w2 => x = .returned (.pointer (some ⟨w0.heap.size, 0, none⟩)) ∧ SOk w0 w2 w0.heap.size 0 (.slice none 0 0) [] [] := by
 refine (sh_new w0).mono ?_
 rintro x w2 ⟨rfl, h1, h2⟩
 exact ⟨rfl, h1, by simp, by rw [allB_nil], h2⟩
theorem sadd_ok {w0 wr : World} {p : Nat} {ver : Int} {v : Value} {bs : List Bk} {es : List E} (h : SOk w0 wr p ver v bs es) (A : Option Addr) (c : Nat) (l : List E) (hv : 0 ≤ ver ∧ ver ≤ 1000000) (hr : k28.C wr A l.length l) (hc : l.length ≤ c) (hne : l ≠ []) (hl : bs.length ≤ 900) (ha : es.length + l.length ≤ 1000000) :
 Calls Try.prog 13 #[.pointer (some ⟨p, 0, none⟩), .slice A l.length c] wr fun x w2 => x = .returned (.tuple #[]) ∧ (∃ v2, SOk w0 w2 p (ver + 1) v2 (addL l bs) (l ++ es)) ∧ wr.grownBy w2 (some p) := by
 refine (sh_add w0.heap.size p ver v bs A c l wr h.hat hv hr hc hne hl (by have := h.cnt; omega) h.ok).mono ?_
 rintro x w2 ⟨rfl, v2, hs, hg⟩
 exact ⟨rfl, ⟨v2, hs, addL_okB h.ok, (addL_all l bs).trans (h.all.append_left l), h.step hg⟩, hg⟩
theorem slen_ok {w0 wr : World} {p : Nat} {ver : Int} {v : Value} {bs : List Bk} {es : List E} (h : SOk w0 wr p ver v bs es) (hl : bs.length ≤ 1000) (ha : es.length ≤ 1000000) :
 Calls Try.prog 15 #[.pointer (some ⟨p, 0, none⟩)] wr fun x w2 => x = .returned (.int .i64 es.length) ∧ Below wr.heap.size wr w2 := by
 have h2 := h.cnt
 rw [← h2]
 exact sh_len w0.heap.size p ver v bs wr h.hat hl (by omega)
theorem ssnap_ok {w0 wr : World} {p : Nat} {ver : Int} {v : Value} {bs : List Bk} {es : List E} (h : SOk w0 wr p ver v bs es) (hl : bs.length ≤ 1000) (ha : es.length ≤ 1000000) :
 Calls Try.prog 12 #[.pointer (some ⟨p, 0, none⟩)] wr fun x w2 => ∃ A1 c1, x = .returned (.agg #[.int .u64 ver, .slice A1 bs.length c1]) ∧ Kd.V k35 35 w2 0 (fun k => k ≠ p) (.slice A1 bs.length c1) bs ∧ Below wr.heap.size wr w2 := by
 have h2 := h.cnt
 exact sh_snap w0.heap.size p ver v bs wr h.hat hl (by omega)
theorem field_snap (a : Int) (A : Option Addr) (n c : Nat) (w : World) : (Instr.field 31 (.agg #[.int .u64 a, .slice A n c]) 0).run Try.prog w = .ok (.int .u64 a) w := by
 simp [Instr.field, run_underlying Try.underlying31, asAgg, go_sem]
theorem three_C {W : World} {g : Nat} {a b c : E} (h : W.heap[g]? = some (.cells #[.int .u64 a.f0, .int .i64 a.f1, .int .u64 b.f0, .int .i64 b.f1, .int .u64 c.f0, .int .i64 c.f1] 28 (0, 0))) : k28.C W (some ⟨g, 0, none⟩) ([a, b, c] : List E).length [a, b, c] :=
 (Kd.R_reads' (row_close (e := 28) (base := 0) (ok := fun _ => True) (c := 3) (l := [a, b, c]) (Nat.zero_le _) trivial h (by omega) (by simp) rfl rfl)).2.2
theorem sorted_3 : sortE [⟨4, 1⟩, ⟨2, 2⟩, ⟨9, 3⟩] = ([⟨2, 2⟩, ⟨4, 1⟩, ⟨9, 3⟩] : List E) := by
 refine sortE_eq ?_ ?_
 · simp [SortedE, leE, ltE]
 · exact List.Perm.swap _ _ _
theorem add_nil (l : List E) : addL l [] = [mkB l] := rfl
set_option maxRecDepth 100000 in
set_option maxHeartbeats 4000000 in
theorem awake8 (w : World) : Calls Try.prog 16 #[] w fun e w' => e = .returned (.bool true) ∧ Below w.heap.size w w' := by
 go_enter Try.func16, Try.ntmps16
 go_wp2_with fail
 refine (snew_ok w).mono ?_
 rintro x w1 ⟨rfl, hk1⟩
 have HK1 := Aside0.mk hk1
 clear hk1
 have HZ := Aside0.mk (below_alloc (Below.refl w1.heap.size w1) (.cells #[.int .u64 4, .int .i64 1, .int .u64 2, .int .i64 2, .int .u64 9, .int .i64 3] 28))
 have HC := Aside0.mk (three_C (a := ⟨4, 1⟩) (b := ⟨2, 2⟩) (c := ⟨9, 3⟩) (heap_alloc_new w1 (.cells #[.int .u64 4, .int .i64 1, .int .u64 2, .int .i64 2, .int .u64 9, .int .i64 3] 28)))
 have HK2 := Aside0.mk (HK1.out.below HZ.out)
 go_wp2_with fail
 refine (sadd_ok HK2.out (some ⟨w1.heap.size, 0, none⟩) 3 [⟨4, 1⟩, ⟨2, 2⟩, ⟨9, 3⟩] (by decide) HC.out (by decide) (by simp) (by simp) (by simp)).mono ?_
 rintro x w3 ⟨rfl, ⟨v3, hk3⟩, hg3⟩
 rw [add_nil] at hk3
 have HK3 := Aside0.mk hk3
 clear hk3 hg3 HC HZ HK2
 have HCA := Aside0.mk (show firsts 0 (allB [mkB [⟨4, 1⟩, ⟨2, 2⟩, ⟨9, 3⟩]]) = [⟨2, 2⟩] by
  unfold firsts
  rw [show sortE (allB [mkB [⟨4, 1⟩, ⟨2, 2⟩, ⟨9, 3⟩]]) = sortE [⟨4, 1⟩, ⟨2, 2⟩, ⟨9, 3⟩] from sortE_of_perm HK3.out.all, sorted_3, clampN_mid (by omega) (by omega)]
  rfl)
 have HAL := Aside0.mk (show (allB [mkB [⟨4, 1⟩, ⟨2, 2⟩, ⟨9, 3⟩]]).length ≤ 1000000 by rw [HK3.out.cnt]; simp)
 go_wp2_with fail
 refine (sh_cand w.heap.size w.heap.size 1 v3 _ 0 77 _ HK3.out.hat (by omega) (by simp) HAL.out).mono ?_
 rintro x w4 hp4
 unfold CandPost at hp4
 rw [HCA.out, show drawnE [⟨2, 2⟩] 77 = (.agg #[.int .u64 2, .int .i64 2], true) from rfl] at hp4
 obtain ⟨rfl, hb4⟩ := hp4
 have HK4 := Aside0.mk (HK3.out.below hb4)
 have HZ5 := Aside0.mk (below_alloc (Below.refl w4.heap.size w4) (.cells #[.int .u64 2, .int .i64 2] 28))
 have HX5 := Aside0.mk (heap_alloc_new w4 (.cells #[.int .u64 2, .int .i64 2] 28))
 have HK5 := Aside0.mk (HK4.out.below HZ5.out)
 clear hb4 HCA
 go_wp2_with fail
 refine (ssnap_ok HK5.out (by simp) (by simp)).mono ?_
 rintro x w6 ⟨A6, c6, rfl, hv6, hb6⟩
 have HK6 := Aside0.mk (HK5.out.below hb6)
 have hx6 := blk_below HX5.out hb6
 have HZ7 := Aside0.mk (below_alloc (Below.refl w6.heap.size w6) (.cells #[.int .u64 1, .slice A6 1 c6] 31))
 have hx7 := heap_alloc_new w6 (.cells #[.int .u64 1, .slice A6 1 c6] 31)
 have HK7 := Aside0.mk (HK6.out.below HZ7.out)
 have x0 := (blk_cell (blk_below hx6 HZ7.out) 0).trans rfl
 have y0 := (blk_cell hx7 0).trans rfl
 have y1 := (blk_cell hx7 1).trans rfl
 clear hv6 hb6 hx6 hx7 HX5 HZ5 HZ7
 go_wp2_with fail
 refine (slen_ok HK7.out (by simp) (by simp)).mono ?_
 rintro x w8 ⟨rfl, hb8⟩
 have HB8 := Aside0.mk (HK7.out.below hb8).bel
 clear hb8
 go_wp2
 go_ret
 exact ⟨by first | rfl | simp, HB8.out⟩
end Go.Proofs.Ytijancajlmneeaa.V
end
section
set_option linter.unusedVariables false
set_option linter.unusedSimpArgs false
namespace Go.Proofs.Ytijancajlmneeaa.V
open Go.RowKit Go.Proofs.YtijancajlmneeaaW.PrintWords Go.Proofs.YtijancajlmneeaaW.PrintLast Go.Proofs.YtijancajlmneeaaW.PrintMore
theorem and_maskL (x : Int) (m : Nat) (hm : m < 4611686018427387904) : 0 ≤ Go.bits .and .i64 x (m : Int) ∧ Go.bits .and .i64 x (m : Int) ≤ (m : Int) := by
 have h2 : (BitVec.ofInt 64 (m : Int)).toNat = m := by
  rw [BitVec.ofInt_natCast, BitVec.toNat_ofNat]; exact Nat.mod_eq_of_lt (by omega)
 have h3 : ((BitVec.ofInt 64 x) &&& (BitVec.ofInt 64 (m : Int))).toNat ≤ m := by
  rw [BitVec.toNat_and, h2]
  exact Nat.and_le_right
 show 0 ≤ IntKind.i64.wrap ((BitVec.ofInt 64 x &&& BitVec.ofInt 64 (m : Int)).toNat : Int) ∧ IntKind.i64.wrap ((BitVec.ofInt 64 x &&& BitVec.ofInt 64 (m : Int)).toNat : Int) ≤ _
 rw [i64_w]
 unfold wrap64
 omega
end Go.Proofs.Ytijancajlmneeaa.V
end
section
set_option linter.unusedVariables false
set_option linter.unusedSimpArgs false
namespace Go.Proofs.Ytijancajlmneeaa.V
open Go.RowKit Go.Proofs.YtijancajlmneeaaW.PrintWords Go.Proofs.YtijancajlmneeaaW.PrintLast Go.Proofs.YtijancajlmneeaaW.PrintMore
def NoI (w : World) (G : Nat) : Prop := ∀ (a : Addr) x, a.block = G → w.cell? a ≠ some (.int .i64 x)
theorem noI_mk {w : World} {G : Nat} {cur : Array Value} {ty : TypeId} (h : w.heap[G]? = some (.cells cur ty (0, 0))) (hn : ∀ x, Value.int .i64 x ∉ cur.toList) : NoI w G := by
 intro a x ha hv
 simp only [World.cell?, ha, h] at hv
 split at hv
 · cases hv
 · exact hn x (by rw [← Array.getElem?_toList] at hv; exact List.mem_of_getElem? hv)
theorem FE_noi {w : World} {ok : Nat → Prop} {A : Option Addr} {l : List E} (h : Kd.F k28 w ok A l.length l) {G : Nat} (hG : NoI w G) : Kd.F k28 w (fun k => ok k ∧ k ≠ G) A l.length l := by
 intro W' hW
 refine ⟨rfl, (Kd.F_now h).2.1, fun hp => ?_⟩
 obtain ⟨ad, rfl, _⟩ := (Kd.F_now h).2.2 hp
 have hne : ad.block ≠ G := by
  intro e
  obtain ⟨ad', c, he, hcl, hK, hcc, _⟩ := Kd.F_get h z28 0 (by omega) (by omega)
  injection he with he
  subst he
  obtain rfl := k28_open (Kd.FK_now hK)
  exact hG _ _ (by rw [add_block]; exact e) (hcc 1 _ rfl)
 refine ⟨ad, rfl, fun j p hj => ?_⟩
 obtain ⟨hjl, hjp⟩ := List.getElem?_eq_some_iff.1 hj
 obtain ⟨ad', c, he, hcl, hK, hcc, hok⟩ := Kd.F_get h p (j : Int) (by omega) (by omega)
 injection he with he
 subst he
 simp only [Int.toNat_natCast] at hK hcc
 rw [List.getD_eq_getElem?_getD, hj] at hK
 obtain rfl := k28_open (Kd.FK_now hK)
 refine ⟨_, hcl, k28_mk W' p, fun i u hu => ?_⟩
 have h5 := hcc i u hu
 have h6 := World.block_lt_of_cell? w _ h5
 rw [add_block] at h6
 have hb : W'.heap[ad.block]? = w.heap[ad.block]? := hW _ ⟨hok (by decide), hne⟩ h6
 have h7 : W'.cell? (ad.add (j * k28.sz + i)) = w.cell? (ad.add (j * k28.sz + i)) := by simp [World.cell?, add_block, hb]
 exact h7.trans h5
theorem FB_noi {w : World} {ok : Nat → Prop} {A : Option Addr} {l : List Bk} (h : Kd.F k35 w ok A l.length l) {G : Nat} (hG : NoI w G) : Kd.F k35 w (fun k => ok k ∧ k ≠ G) A l.length l := by
 intro W' hW
 refine ⟨rfl, (Kd.F_now h).2.1, fun hp => ?_⟩
 obtain ⟨ad, rfl, _⟩ := (Kd.F_now h).2.2 hp
 have hne : ad.block ≠ G := by
  intro e
  obtain ⟨ad', c, he, hcl, hK, hcc, _⟩ := Kd.F_get h z35 0 (by omega) (by omega)
  injection he with he
  subst he
  obtain ⟨A1, c1, rfl, l1, g1⟩ := k35_openF hK
  exact hG _ _ (by rw [add_block]; exact e) (hcc 0 _ rfl)
 refine ⟨ad, rfl, fun j p hj => ?_⟩
 obtain ⟨hjl, hjp⟩ := List.getElem?_eq_some_iff.1 hj
 obtain ⟨ad', c, he, hcl, hK, hcc, hok⟩ := Kd.F_get h p (j : Int) (by omega) (by omega)
 injection he with he
 subst he
 simp only [Int.toNat_natCast] at hK hcc
 rw [List.getD_eq_getElem?_getD, hj] at hK
 obtain ⟨A1, c1, rfl, l1, g1⟩ := k35_openF hK
 refine ⟨_, hcl, k35_mk W' p l1 (FE_noi g1 hG W' hW), fun i u hu => ?_⟩
 have h5 := hcc i u hu
 have h6 := World.block_lt_of_cell? w _ h5
 rw [add_block] at h6
 have hb : W'.heap[ad.block]? = w.heap[ad.block]? := hW _ ⟨hok (by decide), hne⟩ h6
 have h7 : W'.cell? (ad.add (j * k35.sz + i)) = w.cell? (ad.add (j * k35.sz + i)) := by simp [World.cell?, add_block, hb]
 exact h7.trans h5
structure But (w1 w2 : World) (G : Nat) : Prop where
  size : w1.heap.size ≤ w2.heap.size
  blk : ∀ k, k < w1.heap.size → k ≠ G → w2.heap[k]? = w1.heap[k]?
  os : w2.os = w1.os
  tape : w2.tape = w1.tape
  output : w2.output = w1.output
theorem But.refl (w : World) (G : Nat) : But w w G := ⟨Nat.le_refl _, fun _ _ _ => rfl, rfl, rfl, rfl⟩
theorem But.lay {w1 w2 : World} {G : Nat} (h : But w1 w2 G) (j : Nat) (u : Value) : But w1 (w2.setCell ⟨G, j, none⟩ u) G :=
 ⟨by simp only [World.setCell, Array.size_modify]; exact h.size, fun k hk h1 => (Below.heap_setCell w2 ⟨G, j, none⟩ u k h1).trans (h.blk k hk h1), h.os, h.tape, h.output⟩
theorem VB_but {w w2 : World} {base : Nat} {ok : Nat → Prop} {v : Value} {bs : List Bk} (h : Kd.V k35 35 w base ok v bs) {G : Nat} (hG : NoI w G) (hb : But w w2 G) : Kd.V k35 35 w2 base ok v bs :=
 Kd.V_map h (fun A hf => Kd.F_mono (Kd.F_step (FB_noi hf hG) (fun k hk hlt => hb.blk k hlt hk.2)) (fun k hk => hk.1))
theorem SOk.but {w0 wr w2 : World} {p : Nat} {ver : Int} {v : Value} {bs : List Bk} {es : List E} (h : SOk w0 wr p ver v bs es) {G : Nat} (hG : NoI wr G) (hp : p ≠ G) (hB : w0.heap.size ≤ G) (hb : But wr w2 G) : SOk w0 w2 p ver v bs es :=
 ⟨⟨(hb.blk p h.hat.lt hp).trans h.hat.hd, VB_but h.hat.row hG hb, h.hat.lo⟩, h.ok, h.all,
  ⟨hb.os.trans h.bel.os, hb.tape.trans h.bel.tape, hb.output.trans h.bel.output, Nat.le_trans h.bel.size hb.size, fun i hi => (hb.blk i (Nat.lt_of_lt_of_le hi h.bel.size) (by omega)).trans (h.bel.block i hi)⟩⟩
theorem VB_grown2 {w w1 : World} {base : Nat} {ok : Nat → Prop} {v : Value} {bs : List Bk} {row : Option Nat} (h : Kd.V k35 35 w base ok v bs) (hg : w.grownBy w1 row) (hok : ∀ k, ok k → some k ≠ row) : Kd.V k35 35 w1 base ok v bs :=
 Kd.V_map h (fun A hf => Kd.F_step hf (fun k hk hlt => hg.block k hlt (hok k hk)))
structure Sn where
  ver : Nat
  val : Value
  bs : List Bk
def encS (L : List Sn) : List Value := L.flatMap fun s => [.int .u64 (s.ver : Int), s.val]
theorem encS_cons (a : Sn) (L : List Sn) : encS (a :: L) = [.int .u64 (a.ver : Int), a.val] ++ encS L := rfl
theorem encS_get (L : List Sn) : ∀ (t : Nat) (s : Sn), L[t]? = some s → (encS L)[t * 2]? = some (.int .u64 (s.ver : Int)) ∧ (encS L)[t * 2 + 1]? = some s.val := by
 induction L with
 | nil => intro t s h; simp at h
 | cons a r ih =>
  intro t s h
  cases t with
  | zero => simp at h; subst h; exact ⟨rfl, rfl⟩
  | succ t =>
   have := ih t s (by simpa using h)
   rw [encS_cons, show (t + 1) * 2 = t * 2 + 2 by omega, show t * 2 + 2 + 1 = t * 2 + 1 + 2 by omega]
   exact this
theorem encS_set (L : List Sn) : ∀ (t : Nat), t < L.length → ∀ (s : Sn), ((encS L).set (t * 2) (.int .u64 (s.ver : Int))).set (t * 2 + 1) s.val = encS (L.set t s) := by
 induction L with
 | nil => intro t h; simp at h
 | cons a r ih =>
  intro t h s
  cases t with
  | zero => rfl
  | succ t =>
   have := ih t (by simpa using h) s
   rw [List.set_cons_succ, encS_cons, encS_cons, ← this, show (t + 1) * 2 = t * 2 + 2 by omega, show t * 2 + 2 + 1 = t * 2 + 1 + 2 by omega]
   rfl
def noS : Sn := ⟨0, .slice none 0 0, []⟩
theorem made_snaps (n : Nat) (h0 : 1 ≤ n) (h1 : n ≤ 8) : madeCells #[.int .u64 0, .slice none 0 0] (n * 2) = (encS (List.replicate n noS)).toArray := by
 have : n = 1 ∨ n = 2 ∨ n = 3 ∨ n = 4 ∨ n = 5 ∨ n = 6 ∨ n = 7 ∨ n = 8 := by omega
 rcases this with rfl | rfl | rfl | rfl | rfl | rfl | rfl | rfl <;> (apply Array.ext'; simp [madeCells, Array.toList_map, Array.toList_range, List.range, List.range.loop, encS, noS, List.replicate])
theorem infoSnap : (Try.prog.info? 31).map (fun i => (i.zero, i.size, i.bytes)) = some (some (.agg #[.int .u64 0, .slice none 0 0]), 2, 32) := by kernel_rfl
theorem make_snaps (n : Nat) (h0 : 1 ≤ n) (h1 : n ≤ 8) (W : World) : (Instr.makeSlice 39 (.int .i64 (n : Int)) (.int .i64 (n : Int))).run Try.prog W = .ok (.slice (some ⟨W.heap.size, 0, none⟩) n n) (W.alloc (.cells (encS (List.replicate n noS)).toArray 31)) := by
 obtain ⟨i0, hi, hzz⟩ := Option.map_eq_some_iff.1 infoSnap
 simp only [Prod.mk.injEq] at hzz
 obtain ⟨hz0, hz1, hz2⟩ := hzz
 have hr := run_make (P := Try.prog) W 39 31 i0 _ Try.underlying39 hi hz0 .i64 .i64 (n : Int) (n : Int) (by omega) (by omega) (by rw [hz2]; omega) (by omega)
 simp only [Int.toNat_natCast, hz1] at hr
 rw [hr]
 show Result.ok _ (W.alloc (.cells (madeCells #[.int .u64 0, .slice none 0 0] (n * 2)) 31)) = _
 rw [made_snaps n h0 h1]
theorem made_oneR (z : Value) (n : Nat) : madeCells #[z] n = (List.replicate n z).toArray := by
 apply Array.ext'
 simp [madeCells, Array.toList_map, Array.toList_range, Nat.mod_one, List.map_const']
theorem infoBoolR : (Try.prog.info? 4).map (fun i => (i.zero, i.size, i.bytes)) = some (some (.bool false), 1, 1) := by kernel_rfl
theorem make_boolR (n : Nat) (h1 : n ≤ 8) (W : World) : (Instr.makeSlice 40 (.int .i64 (n : Int)) (.int .i64 (n : Int))).run Try.prog W = .ok (.slice (some ⟨W.heap.size, 0, none⟩) n n) (W.alloc (.cells ((List.replicate n false).map Value.bool).toArray 4)) := by
 obtain ⟨i0, hi, hzz⟩ := Option.map_eq_some_iff.1 infoBoolR
 simp only [Prod.mk.injEq] at hzz
 obtain ⟨hz0, hz1, hz2⟩ := hzz
 have hr := run_make (P := Try.prog) W 40 4 i0 _ Try.underlying40 hi hz0 .i64 .i64 (n : Int) (n : Int) (by omega) (by omega) (by rw [hz2]; omega) (by omega)
 simp only [Int.toNat_natCast, hz1] at hr
 rw [hr]
 show Result.ok _ (W.alloc (.cells (madeCells #[.bool false] (n * 1)) 4)) = _
 rw [made_oneR, Nat.mul_one]
 simp
structure SnOk (wr : World) (p put : Nat) (bs : List Bk) (s : Sn) : Prop where
  row : Kd.V k35 35 wr 0 (fun k => k ≠ p) s.val s.bs
  ok : ∀ b ∈ s.bs, okB b = true
  few : s.bs.length ≤ put ∧ (allB s.bs).length ≤ put ∧ s.ver ≤ put
  now : s.ver = put → s.bs = bs
structure StR (w wr : World) (p sb lb n put : Nat) (v : Value) (bs : List Bk) (es : List E) (S : List Sn) (L : List Bool) : Prop where
  sok : SOk w wr p (put : Int) v bs es
  cnt : es.length = put ∧ bs.length ≤ put
  s : wr.heap[sb]? = some (.cells (encS S).toArray 31 (0, 0))
  l : wr.heap[lb]? = some (.cells (L.map Value.bool).toArray 4 (0, 0))
  sl : S.length = n
  ll : L.length = n
  ne : p ≠ sb ∧ p ≠ lb ∧ sb ≠ lb
  old : w.heap.size ≤ sb ∧ w.heap.size ≤ lb
  sn : ∀ s ∈ S, SnOk wr p put bs s
namespace StR
variable {w wr w2 : World} {p sb lb n put : Nat} {v v2 : Value} {bs cs : List Bk} {es fs : List E} {S : List Sn} {L : List Bool}
theorem below (h : StR w wr p sb lb n put v bs es S L) (hb : Below wr.heap.size wr w2) : StR w w2 p sb lb n put v bs es S L :=
 ⟨h.sok.below hb, h.cnt, (hb.block _ (Array.getElem?_eq_some_iff.1 h.s).1).trans h.s, (hb.block _ (Array.getElem?_eq_some_iff.1 h.l).1).trans h.l, h.sl, h.ll, h.ne, h.old, fun s hs => ⟨Kd.V_below (h.sn s hs).row hb, (h.sn s hs).ok, (h.sn s hs).few, (h.sn s hs).now⟩⟩
theorem noL (h : StR w wr p sb lb n put v bs es S L) : NoI wr lb := noI_mk h.l (by intro x hx; simp at hx)
theorem noS (h : StR w wr p sb lb n put v bs es S L) : NoI wr sb := noI_mk h.s (by
 intro x hx
 simp only [encS, List.mem_flatMap] at hx
 obtain ⟨s, hs, hx⟩ := hx
 obtain ⟨A, c, e⟩ := Kd.V_slice (h.sn s hs).row
 rw [e] at hx
 simp at hx)
theorem lcell (h : StR w wr p sb lb n put v bs es S L) {t : Nat} (ht : t < n) : wr.cell? ⟨lb, t, none⟩ = some (.bool (L.getD t false)) := by
 rw [cell_row h.l, List.getElem?_toArray, List.getElem?_map, List.getD_eq_getElem?_getD, List.getElem?_eq_getElem (by rw [h.ll]; exact ht)]
 rfl
theorem scell (h : StR w wr p sb lb n put v bs es S L) {t : Nat} {s : Sn} (ht : S[t]? = some s) : wr.cell? ⟨sb, t * 2, none⟩ = some (.int .u64 (s.ver : Int)) ∧ wr.cell? ⟨sb, t * 2 + 1, none⟩ = some s.val := by
 rw [cell_row h.s, cell_row h.s, List.getElem?_toArray, List.getElem?_toArray]
 exact encS_get S t s ht
theorem lfroz (h : StR w wr p sb lb n put v bs es S L) (t : Nat) : wr.frozen? ⟨lb, t, none⟩ = false := frozen_row h.l t
theorem sfroz (h : StR w wr p sb lb n put v bs es S L) (t : Nat) : wr.frozen? ⟨sb, t, none⟩ = false := frozen_row h.s t
theorem look (h : StR w wr p sb lb n put v bs es S L) (t : Nat) (x : Bool) : StR w (wr.setCell ⟨lb, t, none⟩ (.bool x)) p sb lb n put v bs es S (L.set t x) := by
 have hb := (But.refl wr lb).lay t (.bool x)
 obtain ⟨h1, h2, h3⟩ := h.ne
 refine ⟨h.sok.but h.noL h2 h.old.2 hb, h.cnt, (hb.blk sb (Array.getElem?_eq_some_iff.1 h.s).1 h3).trans h.s, ?_, h.sl, by rw [List.length_set, h.ll], h.ne, h.old, fun s hs => ⟨VB_but (h.sn s hs).row h.noL hb, (h.sn s hs).ok, (h.sn s hs).few, (h.sn s hs).now⟩⟩
 simp only [World.setCell, Array.getElem?_modify, h.l]
 simp [List.map_set]
theorem see (h : StR w wr p sb lb n put v bs es S L) {t : Nat} (ht : t < n) (s : Sn) (hs : SnOk wr p put bs s) : StR w ((wr.setCell ⟨sb, t * 2, none⟩ (.int .u64 (s.ver : Int))).setCell ⟨sb, t * 2 + 1, none⟩ s.val) p sb lb n put v bs es (S.set t s) L := by
 have hb := ((But.refl wr sb).lay (t * 2) (.int .u64 (s.ver : Int))).lay (t * 2 + 1) s.val
 obtain ⟨h1, h2, h3⟩ := h.ne
 refine ⟨h.sok.but h.noS h1 h.old.1 hb, h.cnt, ?_, (hb.blk lb (Array.getElem?_eq_some_iff.1 h.l).1 (fun e => h3 e.symm)).trans h.l, by rw [List.length_set, h.sl], h.ll, h.ne, h.old, fun q hq => ?_⟩
 · rw [← encS_set S t (by rw [h.sl]; exact ht) s]
   simp only [World.setCell, Array.getElem?_modify, h.s]
   simp
 · have hq2 : SnOk wr p put bs q := by
    rcases List.mem_or_eq_of_mem_set hq with hq | rfl
    · exact h.sn q hq
    · exact hs
   exact ⟨VB_but hq2.row h.noS hb, hq2.ok, hq2.few, hq2.now⟩
theorem swap (h : StR w wr p sb lb n put v bs es S L) (hs : SOk w w2 p ((put + 1 : Nat) : Int) v2 cs fs) (hc : fs.length = put + 1 ∧ cs.length ≤ put + 1) (hg : wr.grownBy w2 (some p)) : StR w w2 p sb lb n (put + 1) v2 cs fs S L := by
 obtain ⟨h1, h2, h3⟩ := h.ne
 refine ⟨hs, hc, (hg.block sb (Array.getElem?_eq_some_iff.1 h.s).1 (fun e => h1 (by injection e with e; exact e.symm))).trans h.s, (hg.block lb (Array.getElem?_eq_some_iff.1 h.l).1 (fun e => h2 (by injection e with e; exact e.symm))).trans h.l, h.sl, h.ll, h.ne, h.old, fun s hs => ?_⟩
 have h4 := h.sn s hs
 exact ⟨VB_grown2 h4.row hg (fun k hk e => hk (by injection e)), h4.ok, by have := h4.few; omega, fun e => by have := h4.few; omega⟩
end StR
end Go.Proofs.Ytijancajlmneeaa.V
end
section
set_option linter.unusedVariables false
set_option linter.unusedSimpArgs false
namespace Go.Proofs.Ytijancajlmneeaa.V
open Go.RowKit Go.Proofs.YtijancajlmneeaaW.PrintWords Go.Proofs.YtijancajlmneeaaW.PrintLast Go.Proofs.YtijancajlmneeaaW.PrintMore
theorem slen_okR {w0 wr : World} {p : Nat} {ver : Int} {v : Value} {bs : List Bk} {es : List E} (h : SOk w0 wr p ver v bs es) (n : Nat) (hn : n = es.length) (hl : bs.length ≤ 1000) (ha : es.length ≤ 1000000) :
 Calls Try.prog 15 #[.pointer (some ⟨p, 0, none⟩)] wr fun x w2 => x = .returned (.int .i64 n) ∧ Below wr.heap.size wr w2 := by
 subst hn; exact slen_ok h hl ha
theorem reps_oneB {W : World} {ok : Nat → Prop} {b : Bk} {a u : Value} (h : Kd.FK k35 W ok b [a, u]) : Reps (Kd.FK k35 W ok) k35.sz [b] [a, u] := by
 refine ⟨rfl, fun j q hj => ?_⟩
 cases j with
 | zero => simp at hj; subst hj; exact h
 | succ j => simp at hj
set_option maxRecDepth 100000 in
set_option maxHeartbeats 4000000 in
theorem sharedRaces_walk (x : Int) (B : Option Addr) (d : Nat) (g : List Int) (w : World) (hr2 : Kd.C (Kd.int .i64) w B g.length g) (hc2 : g.length ≤ d) :
 Calls Try.prog 4 #[.int .i64 x, .slice B g.length d] w fun e w' => e = .returned (.bool true) ∧ Below w.heap.size w w' := by
 have HR2 := Aside0.mk hr2
 have hg63 : g.length ≤ 9223372036854775807 := hr2.2.1
 clear hr2
 have hx := and_maskL (x.tmod 6) 7 (by omega)
 rw [show ((7 : Nat) : Int) = 7 from rfl] at hx
 obtain ⟨n, hn⟩ : ∃ n : Nat, bits BinOp.and IntKind.i64 (x.tmod 6) 7 + 1 = (n : Int) := ⟨(bits BinOp.and IntKind.i64 (x.tmod 6) 7 + 1).toNat, by omega⟩
 have hn1 : 1 ≤ n := by omega
 have hn8 : n ≤ 8 := by omega
 have hx6 : -5 ≤ x.tmod 6 ∧ x.tmod 6 ≤ 5 := by have h1 := Int.tmod_lt_of_pos x (b := 6) (by omega); have h2 := Int.lt_tmod_of_pos x (b := 6) (by omega); omega
 have hx7 : wrap64 (x.tmod 6) = x.tmod 6 := by unfold wrap64; omega
 have hx8 : IntKind.i64.wrap (x.tmod 6) = x.tmod 6 := by rw [i64_w]; exact hx7
 obtain ⟨bb, hbb⟩ : ∃ bb : Int, bits BinOp.and IntKind.i64 (x.tmod 6) 7 = bb := ⟨_, rfl⟩
 rw [hbb] at hn
 have nl1 : ¬ (n : Int) < 1 := by omega
 have nl2 : decide (n < 1) = false := decide_eq_false (by omega)
 have nl3 : decide ((n : Int) < 1) = false := decide_eq_false (by omega)
 have nl4 : ¬ n < 1 := by omega
 have hbn : bb ≤ 7 := by omega
 have hbm : 0 ≤ bb := by omega
 go_enter Try.func4, Try.ntmps4
 go_wp2_with fail
 refine (snew_ok w).mono ?_
 rintro y w1 ⟨rfl, hk1⟩
 have HK1 := Aside0.mk hk1
 clear hk1 hx6
 have hm1 := make_snaps n hn1 hn8 w1
 have hm2 := make_boolR n hn8 (w1.alloc (.cells (encS (List.replicate n noS)).toArray 31))
 go_wp2_with fail
 obtain ⟨w3, hw3⟩ : ∃ w3 : World, w3 = (w1.alloc (.cells (encS (List.replicate n noS)).toArray 31)).alloc (.cells (Array.replicate n (Value.bool false)) 4) := ⟨_, rfl⟩
 have HS : Aside0 (StR w w3 w.heap.size w1.heap.size (w1.heap.size + 1) n 0 (.slice none 0 0) [] [] (List.replicate n noS) (List.replicate n false)) := ⟨by
  have h1 := below_alloc (Below.refl w1.heap.size w1) (.cells (encS (List.replicate n noS)).toArray 31)
  have h2 := heap_alloc_new w1 (.cells (encS (List.replicate n noS)).toArray 31)
  have h3 := heap_alloc_new (w1.alloc (.cells (encS (List.replicate n noS)).toArray 31)) (.cells (Array.replicate n (Value.bool false)) 4)
  have h4 := below_alloc (Below.refl (w1.alloc (.cells (encS (List.replicate n noS)).toArray 31)).heap.size (w1.alloc (.cells (encS (List.replicate n noS)).toArray 31))) (.cells (Array.replicate n (Value.bool false)) 4)
  have h5 : (w1.alloc (.cells (encS (List.replicate n noS)).toArray 31)).heap.size = w1.heap.size + 1 := by simp
  have h6 := HK1.out.hat.lt
  have h7 := HK1.out.bel.size
  rw [← hw3] at h3 h4
  rw [h5] at h3
  refine ⟨(HK1.out.below h1).below h4, ⟨rfl, Nat.le_refl _⟩, blk_below h2 h4, ?_, by simp, by simp, by omega, by omega, fun s hs => ?_⟩
  · rw [h3]; simp
  · rw [List.eq_of_mem_replicate hs]
    exact ⟨Kd.V_nil _ _ _ _ _, by simp [noS], by simp [noS, allB_nil], fun _ => rfl⟩⟩
 rw [← hw3]
 obtain ⟨lb, hlb⟩ : ∃ lb, lb = w1.heap.size + 1 := ⟨_, rfl⟩
 obtain ⟨sb, hsb⟩ : ∃ sb, sb = w1.heap.size := ⟨_, rfl⟩
 rw [← hlb, ← hsb] at HS ⊢
 clear hw3 hlb hsb hm1 hm2 HK1 hn hbb hbn hbm hx7 hx8 nl1 nl2 nl3 nl4 hx
 go_loopw [8, 9] (fun s8 s9 wr => ∃ (i put : Nat) (v : Value) (bs : List Bk) (es : List E) (S : List Sn) (L : List Bool), s8 = .int .i64 put ∧ s9 = .int .i64 i ∧ put ≤ i ∧ i ≤ g.length ∧ i ≤ 50 ∧ Aside0 (StR w wr w.heap.size sb lb n put v bs es S L)) (fun _ i _ => 51 - (intOf i).toNat)
 case atStart => exact ⟨0, 0, _, [], [], _, _, rfl, rfl, Nat.le_refl _, Nat.zero_le _, by omega, HS⟩
 case round =>
  clear HS
  obtain ⟨i, put, v, bs, es, S, L, rfl, rfl, hpi, hil, hi50, HK⟩ := hrel
  have HBN := Aside0.mk (show bs.length ≤ 1000 ∧ es.length ≤ 1000000 ∧ bs.length ≤ put ∧ es.length = put from by have := HK.out.cnt; omega)
  by_cases hlt : i < g.length ∧ i < 50
  · obtain ⟨hlt, hlt50⟩ := hlt
    obtain ⟨adg, rfl⟩ : ∃ adg, B = some adg := by
     obtain ⟨adg, e, _⟩ := HR2.out.2.2 (by omega)
     exact ⟨adg, e⟩
    have y2 : wr.cell? (adg.add i) = some (.int .i64 (rd g (i : Int))) := by have := Kd.foot_int (Kd.C_below HR2.out HK.out.sok.bel) (i : Int) (by omega) (by omega); rwa [Int.toNat_natCast] at this
    have hx := and_maskL (rd g (i : Int)) 255 (by omega)
    rw [show ((255 : Nat) : Int) = 255 from rfl] at hx
    generalize rd g (i : Int) = xx at y2 hx
    obtain ⟨z, hz⟩ : ∃ z : Int, bits BinOp.and IntKind.i64 xx 255 = z := ⟨_, rfl⟩
    rw [hz] at hx
    obtain ⟨hz0, hz1⟩ := hx
    have hm9 : z.tmod (n : Int) = z % (n : Int) := Int.tmod_eq_emod_of_nonneg hz0
    have hm8 := Int.emod_lt_of_pos z (b := (n : Int)) (by omega)
    have hm7 := Int.emod_nonneg z (b := (n : Int)) (by omega)
    obtain ⟨m, hm3⟩ : ∃ m : Nat, z % (n : Int) = (m : Int) := ⟨(z % (n : Int)).toNat, by omega⟩
    have hmn : m < n := by omega
    have hm1 : z.tmod (n : Int) = (m : Int) := by rw [hm9, hm3]
    have n0 : ¬ (n : Int) = 0 := by omega
    have n1 : ((n : Int) == 0) = false := by rw [beq_eq_false_iff_ne]; omega
    have n2 : ¬ n = 0 := by omega
    have hig : (i : Int) < (g.length : Int) := by omega
    have hi0 : (0 : Int) ≤ (i : Int) := by omega
    have hmi : (m : Int) < (n : Int) := by omega
    have hmi0 : (0 : Int) ≤ (m : Int) := by omega
    have d50 : decide ((i : Int) < 50) = true := decide_eq_true (by omega)
    clear hm9 hm8 hm7
    obtain ⟨s0, hs0⟩ : ∃ s0, S[m]? = some s0 := ⟨_, List.getElem?_eq_getElem (show m < S.length by rw [HK.out.sl]; exact hmn)⟩
    have y3 := HK.out.lcell hmn
    obtain ⟨r, hr⟩ : ∃ r, L.getD m false = r := ⟨_, rfl⟩
    rw [hr] at y3
    have HS0 := Aside0.mk hs0
    clear hr hs0
    cases r with
    | false =>
     go_wp2_with fail
     refine (ssnap_ok HK.out.sok HBN.out.1 HBN.out.2.1).mono ?_
     rintro y w4 ⟨A4, c4, rfl, hv4, hb4⟩
     have HK4 := Aside0.mk (HK.out.below hb4)
     have HSN := Aside0.mk (show SnOk w4 w.heap.size put bs ⟨put, .slice A4 bs.length c4, bs⟩ from ⟨hv4, HK4.out.sok.ok, ⟨HBN.out.2.2.1, by rw [HK4.out.sok.cnt]; exact Nat.le_of_eq HBN.out.2.2.2, Nat.le_refl _⟩, fun _ => rfl⟩)
     obtain ⟨z0, z1⟩ := HK4.out.scell HS0.out
     have f0 := HK4.out.sfroz (m * 2)
     have f1 := HK4.out.sfroz (m * 2 + 1)
     have HK5 := Aside0.mk (HK4.out.see hmn _ HSN.out)
     have x5 := HK5.out.lcell hmn
     have f5 := HK5.out.lfroz m
     have HK6 := Aside0.mk (HK5.out.look m true)
     clear hv4 hb4 y2 y3
     go_wp2_with fail
     go_roundw
     case rel => exact ⟨i + 1, put, v, bs, es, _, _, rfl, by go_num, by omega, by omega, by omega, HK6⟩
     case measure => simp [intOf]; omega
    | true =>
     have f0 := HK.out.lfroz m
     have HK4 := Aside0.mk (HK.out.look m false)
     obtain ⟨vr, val0, bs0⟩ := s0
     have HSN := Aside0.mk (HK4.out.sn _ (List.mem_of_getElem? HS0.out))
     obtain ⟨z0, z1⟩ := HK4.out.scell HS0.out
     obtain ⟨A0, c0, hv0⟩ := Kd.V_slice HSN.out.row
     dsimp only at hv0 z0 z1
     subst hv0
     have HBC := Aside0.mk (show bs0.length ≤ put ∧ (allB bs0).length ≤ put ∧ vr ≤ put from HSN.out.few)
     obtain ⟨w4, hw4⟩ : ∃ w4 : World, w4 = wr.setCell ⟨lb, m, none⟩ (.bool false) := ⟨_, rfl⟩
     rw [← hw4] at HK4 HSN z0 z1
     have HLK := Aside0.mk HK4.out.sok.hat.lt
     have HF := Aside0.mk (Kd.F_bound (show Kd.F k35 w4 (fun k => k ≠ w.heap.size) A0 bs0.length bs0 from Kd.V_F HSN.out.row))
     have HB := Aside0.mk (Below.refl w4.heap.size w4)
     have s4 : IntKind.u64.wrap (i : Int) = (i : Int) := IntWalk.u64_in _ (by omega)
     have HOF := Aside0.mk (show block_Of.f 100 [(⟨(i : Int), (i : Int) + 1⟩ : E)] = some ((mkB [(⟨(i : Int), (i : Int) + 1⟩ : E)]).f0, (mkB [(⟨(i : Int), (i : Int) + 1⟩ : E)]).f1) from of_told 100 _ (by simp) (by simp))
     have hbl0 : bs0.length ≤ 60 := by have := HBC.out; omega
     go_upto_region 18 with fail
     rw [← hw4]
     clear hw4
     go_wp2_with (first
      | ((with_reducible refine gate_dst (N := 58) rfl ?_); go_loud (refine Kd.N_lit k35 _ 35 ?hg (N' := 58) ?hd (xs := ([] : List Bk)) (inner := []) (ok := fun k => k ≠ w.heap.size) (okp := fun _ => False) ?hr ?hp (fun _ hk => hk.elim) ?hf (Below.refl _ _) (Nat.le_refl _) (by simp) ?_; (case hd => rfl); (case hg => rfl); (case hr => first | (go_simp; done) | (go_simp; rfl)); (case hp => exact (Reps.none _ _)); (case hf => have := HLK.out; omega); intro v1 w5 ho hb hg_ hnew_; have HNW := Aside0.mk hnew_; clear hg_ hnew_; have n0_ := Aside0.mk ho; have n1_ := Aside0.mk (below_step HB.out hb); clear HB; have HO := n0_; have HB := n1_; clear n0_ n1_; clear hb ho; have z1 := pw_cell_below HB.out z1))
      | ((with_reducible refine gate_builtin (b := .append) (xs := #[.tmp 58, .tmp 63]) rfl ?_); at_builtin; go_loud (refine Kd.N_append_rows k35 (w0 := w4) w4.heap.size rfl (.tmp 58) (.tmp 63) 29 35 (.agg #[.int .i64 0, .slice none 0 0]) 32 rfl Try.underlying29 infoB rfl (by decide) (by decide) v1 [] bs0 _ _ _ (fun k => k ≠ w.heap.size) (fun k => k ≠ w.heap.size ∧ k < w4.heap.size) rfl rfl ?aO ?aR ?aK ?aF ?aB ?aS ?aL ?_; (case aR => exact (Kd.F_below HF.out HB.out)); (case aK => exact (fun k hk => ⟨hk.1, fun e => by obtain ⟨b, h1, h2⟩ := HNW.out; rw [h1] at e; injection e with e; have := hk.2; omega⟩)); (case aB => exact HB.out); (case aF => exact (fun k hk => by have h1 := HLK.out; have h2 := HB.out.size; omega)); (case aO => exact HO.out); (case aS => exact HB.out.size); (case aL => simp only [List.length_nil]; omega); intro v2 w6 ho hb hg hat; rw [List.nil_append] at ho; have n0_ := Aside0.mk (hb); have n1_ := Aside0.mk (ho); clear HB; clear HO; have HB := n0_; have HO := n1_; clear n0_ n1_; clear ho hb hg hat)))
     obtain ⟨l, hl⟩ : ∃ l, l = [(⟨(i : Int), (i : Int) + 1⟩ : E)] := ⟨_, rfl⟩
     have HC6 := Aside0.mk (one_C (e := ⟨(i : Int), (i : Int) + 1⟩) (heap_alloc_new w6 (.cells #[.int .u64 (i : Int), .int .i64 ((i : Int) + 1)] 28)))
     have HB6 := Aside0.mk (below_step HB.out (below_alloc (Below.refl w6.heap.size w6) (.cells #[.int .u64 (i : Int), .int .i64 ((i : Int) + 1)] 28)))
     have hsz : (w6.alloc (.cells #[.int .u64 (i : Int), .int .i64 ((i : Int) + 1)] 28)).heap.size = w6.heap.size + 1 := by simp
     have HB66 := Aside0.mk (below_alloc (Below.refl w6.heap.size w6) (.cells #[.int .u64 (i : Int), .int .i64 ((i : Int) + 1)] 28))
     have HO6 := Aside0.mk (Kd.N_lt HO.out)
     refine (block_Of.calls 100 (some ⟨w6.heap.size, 0, none⟩) 1 [(⟨(i : Int), (i : Int) + 1⟩ : E)] _ _ _ HC6.out (by simp) HOF.out).mono ?_
     rintro y w7 ⟨v7, rfl, hv7, hb7⟩
     rw [hsz] at hv7
     rw [← hl] at hv7 ⊢
     have HLL := Aside0.mk hl
     obtain ⟨cs, hcd⟩ : ∃ cs, bs0 ++ [mkB l] = cs := ⟨_, rfl⟩
     have HCD := Aside0.mk hcd
     clear hcd
     obtain ⟨A7, c7, rfl⟩ := Kd.V_slice hv7
     have HV7 := Aside0.mk hv7
     have HB7 := Aside0.mk (below_step HB6.out hb7)
     have HB67 := Aside0.mk (below_step HB66.out hb7)
     have HS67 := Aside0.mk (show w6.heap.size + 1 ≤ w7.heap.size from by have := hb7.size; rw [hsz] at this; exact this)
     clear hv7 hb7 hsz hl HC6 HB6 HB66 HNW HF
     go_wp2_with (first
      | ((with_reducible refine gate_dst (N := 72) rfl ?_); go_loud (refine Kd.N_lit k35 (w0 := w7) w7.heap.size 35 ?hg (N' := 72) ?hd (xs := [mkB l]) (inner := [.int .i64 (mkB l).f0, .slice A7 (mkB l).f1.length c7]) (ok := fun k => w6.heap.size + 1 ≤ k) (okp := fun k => w6.heap.size + 1 ≤ k) ?hr ?hp (fun _ hk => hk) ?hf (Below.refl _ _) (Nat.le_refl _) (by simp) ?_; (case hd => rfl); (case hg => rfl); (case hr => first | (go_simp; done) | (go_simp; rfl)); (case hp => exact reps_oneB (fk_new HV7.out (fun _ hk => hk))); (case hf => exact HS67.out); intro v3 w8 ho hb hg_ hnew_; obtain ⟨A8, c8, e8⟩ := Kd.N_slice ho; subst e8; have HO8 := Aside0.mk ho; have HB8 := Aside0.mk (below_step HB7.out hb); have HB68 := Aside0.mk (below_step HB67.out hb); clear hg_ hnew_ hb ho))
      | ((with_reducible refine gate_builtin (b := .append) (xs := #[.tmp 64, .tmp 72]) rfl ?_); at_builtin; go_loud (refine Kd.N_append_rows k35 (w0 := w4) w4.heap.size rfl (.tmp 64) (.tmp 72) 29 35 (.agg #[.int .i64 0, .slice none 0 0]) 32 rfl Try.underlying29 infoB rfl (by decide) (by decide) v2 bs0 [mkB l] _ _ _ (fun k => k ≠ w.heap.size) (fun k => w6.heap.size + 1 ≤ k) rfl rfl ?aO ?aR ?aK ?aF ?aB ?aS ?aL ?_; (case aR => exact Kd.N_F HO8.out); (case aK => exact (fun k hk => ⟨by have h1 := HLK.out; have h2 := HB.out.size; have h3 : w6.heap.size + 1 ≤ k := hk; omega, fun e => by have h1 := HO6.out k e.symm; have h3 : w6.heap.size + 1 ≤ k := hk; omega⟩)); (case aB => exact HB8.out); (case aF => exact (fun k hk => by have h1 := HLK.out; have h2 := HB8.out.size; omega)); (case aO => exact Kd.N_below HO.out HB68.out); (case aS => exact HB8.out.size); (case aL => simp; omega); intro v4 w9 ho hb hg hat; rw [HCD.out] at ho; obtain ⟨A9, c9, e9⟩ := Kd.N_slice ho; subst e9; have HB9 := Aside0.mk (hb); have HO9 := Aside0.mk (ho); clear ho hb hg hat)))
     have HK9 := Aside0.mk (HK4.out.below HB9.out)
     have HN9 := Aside0.mk (Kd.N_F HO9.out)
     have HC9 := Aside0.mk (Kd.N_reads' HO9.out).2.1
     have z2 := (HK9.out.scell HS0.out).1
     dsimp only at z2
     have HKD := Aside0.mk (HK9.out.below (below_drew (Below.refl _ _)))
     have s5 : IntKind.u64.wrap (put : Int) = (put : Int) := IntWalk.u64_in _ (by omega)
     have HCS := Aside0.mk (show (∀ b ∈ cs, okB b = true) ∧ cs.length = bs0.length + 1 ∧ (allB cs).length = (allB bs0).length + 1 by
      rw [← HCD.out, HLL.out]
      refine ⟨fun b hb => ?_, by simp, by rw [allB_append, List.length_append, allB_cons, allB_nil, List.append_nil, show (mkB [(⟨(i : Int), (i : Int) + 1⟩ : E)]).f1.length = 1 from sortE_length _]⟩
      rcases List.mem_append.1 hb with hb | hb
      · exact HSN.out.ok b hb
      · rw [List.mem_singleton] at hb; subst hb; exact okB_mk _)
     have mixed : Try.prog.follows .mixedOrders = true := by kernel_rfl
     clear HO9 HB9 HB HO HO8 HB8 HB68 HB67 HB7 HV7 z1 f0 y2 y3 HK HK4 HS67 HO6
     by_cases hvp : vr = put
     · subst hvp
       have HBS := Aside0.mk (show (allB bs0).length = vr from by have e : bs0 = bs := HSN.out.now rfl; rw [e, HK9.out.sok.cnt]; exact HBN.out.2.2.2)
       have HPB := Aside0.mk (show cs.length ≤ vr + 1 ∧ (0 : Int) ≤ (vr : Int) ∧ (vr : Int) ≤ 1000000 ∧ cs.length ≤ 1000 ∧ (allB cs).length ≤ 1000000 ∧ (allB cs).length = vr + 1 from by have h1 := HCS.out.2; have h2 := HBC.out; have h3 := HBS.out; omega)
       go_wp2_with fail
       refine start_ (n := 17) (S := fun w' => w'.cell? ⟨sb, m * 2, none⟩ = some (.int .u64 (vr : Int)) ∧ True) (ds := []) #[false, false, false, false, false, false, false, false, false, false, false, false, false, false, false, false, false] (by kernel_rfl) rfl rfl ⟨z2, trivial⟩ (fun hHeld => ?_)
       refine pure_ (i := 0) (N := (some 74)) (v := ?_) (a' := ?_) #[true, false, false, false, false, false, false, false, false, false, false, false, false, false, false, false, false] rfl rfl (by kernel_rfl) (fun _ _ _ h => h) (Or.inl ⟨by rfl, ?_⟩) ?_ ?_
       rotate_left
       · intro w'
         go_simp
         with_reducible rfl
       rotate_left
       · simp only [Act.put, List.setIfInBounds_toArray, List.set_cons_zero, List.set_cons_succ, i64_w, i32_w]
         rfl
       refine pure_ (i := 1) (N := (some 75)) (v := ?_) (a' := ?_) #[true, true, false, false, false, false, false, false, false, false, false, false, false, false, false, false, false] rfl rfl (by kernel_rfl) (fun _ _ _ h => h) (Or.inl ⟨by rfl, ?_⟩) ?_ ?_
       rotate_left
       · intro w'
         go_simp
         with_reducible rfl
       rotate_left
       · simp only [Act.put, List.setIfInBounds_toArray, List.set_cons_zero, List.set_cons_succ, i64_w, i32_w]
         rfl
       refine pure_ (i := 2) (N := (some 76)) (v := ?_) (a' := ?_) #[true, true, true, false, false, false, false, false, false, false, false, false, false, false, false, false, false] rfl rfl (by kernel_rfl) (fun _ _ _ h => h) (Or.inl ⟨by rfl, ?_⟩) ?_ ?_
       rotate_left
       · intro w'
         go_simp
         with_reducible rfl
       rotate_left
       · simp only [Act.put, List.setIfInBounds_toArray, List.set_cons_zero, List.set_cons_succ, i64_w, i32_w]
         rfl
       refine pure_ (i := 3) (N := (some 77)) (v := ?_) (a' := ?_) #[true, true, true, true, false, false, false, false, false, false, false, false, false, false, false, false, false] rfl rfl (by kernel_rfl) (fun _ _ _ h => h) (Or.inl ⟨by rfl, ?_⟩) ?_ ?_
       rotate_left
       · intro w'
         go_simp
         with_reducible rfl
       rotate_left
       · simp only [Act.put, List.setIfInBounds_toArray, List.set_cons_zero, List.set_cons_succ, i64_w, i32_w]
         rfl
       refine pure_ (i := 4) (N := (some 78)) (v := ?_) (a' := ?_) #[true, true, true, true, true, false, false, false, false, false, false, false, false, false, false, false, false] rfl rfl (by kernel_rfl) (fun _ _ _ h => h) (Or.inl ⟨by rfl, ?_⟩) ?_ ?_
       rotate_left
       · intro w'
         go_simp
         with_reducible rfl
       rotate_left
       · simp only [Act.put, List.setIfInBounds_toArray, List.set_cons_zero, List.set_cons_succ, i64_w, i32_w]
         rfl
       refine pure_ (i := 6) (N := (some 80)) (v := ?_) (a' := ?_) #[true, true, true, true, true, false, true, false, false, false, false, false, false, false, false, false, false] rfl rfl (by kernel_rfl) (fun _ _ _ h => h) (Or.inl ⟨by rfl, ?_⟩) ?_ ?_
       rotate_left
       · intro w'
         go_simp
         with_reducible rfl
       rotate_left
       · simp only [Act.put, List.setIfInBounds_toArray, List.set_cons_zero, List.set_cons_succ, i64_w, i32_w]
         rfl
       refine pure_ (i := 8) (N := (some 82)) (v := ?_) (a' := ?_) #[true, true, true, true, true, false, true, false, true, false, false, false, false, false, false, false, false] rfl rfl (by kernel_rfl) (fun _ _ _ h => h) (Or.inl ⟨by rfl, ?_⟩) ?_ ?_
       rotate_left
       · intro w'
         go_simp
         with_reducible rfl
       rotate_left
       · simp only [Act.put, List.setIfInBounds_toArray, List.set_cons_zero, List.set_cons_succ, i64_w, i32_w]
         rfl
       refine pure_ (i := 9) (N := (some 83)) (v := ?_) (a' := ?_) #[true, true, true, true, true, false, true, false, true, true, false, false, false, false, false, false, false] rfl rfl (by kernel_rfl) (fun _ _ _ h => h) (Or.inl ⟨by rfl, ?_⟩) ?_ ?_
       rotate_left
       · intro w'
         go_simp
         with_reducible rfl
       rotate_left
       · simp only [Act.put, List.setIfInBounds_toArray, List.set_cons_zero, List.set_cons_succ, i64_w, i32_w]
         rfl
       refine pure_ (i := 10) (N := (some 84)) (v := ?_) (a' := ?_) #[true, true, true, true, true, false, true, false, true, true, true, false, false, false, false, false, false] rfl rfl (by kernel_rfl) (fun _ _ _ h => h) (Or.inl ⟨by rfl, ?_⟩) ?_ ?_
       rotate_left
       · intro w'
         go_simp
         with_reducible rfl
       rotate_left
       · simp only [Act.put, List.setIfInBounds_toArray, List.set_cons_zero, List.set_cons_succ, i64_w, i32_w]
         rfl
       refine pure_ (i := 11) (N := (some 85)) (v := ?_) (a' := ?_) #[true, true, true, true, true, false, true, false, true, true, true, true, false, false, false, false, false] rfl rfl (by kernel_rfl) (fun _ _ _ h => h) (Or.inl ⟨by rfl, ?_⟩) ?_ ?_
       rotate_left
       · intro w'
         go_simp
         with_reducible rfl
       rotate_left
       · simp only [Act.put, List.setIfInBounds_toArray, List.set_cons_zero, List.set_cons_succ, i64_w, i32_w]
         rfl
       refine pure_ (i := 13) (N := (some 87)) (v := ?_) (a' := ?_) #[true, true, true, true, true, false, true, false, true, true, true, true, false, true, false, false, false] rfl rfl (by kernel_rfl) (fun _ _ _ h => h) (Or.inl ⟨by rfl, ?_⟩) ?_ ?_
       rotate_left
       · intro w'
         go_simp
         with_reducible rfl
       rotate_left
       · simp only [Act.put, List.setIfInBounds_toArray, List.set_cons_zero, List.set_cons_succ, i64_w, i32_w]
         rfl
       refine pure_ (i := 14) (N := (some 88)) (v := ?_) (a' := ?_) #[true, true, true, true, true, false, true, false, true, true, true, true, false, true, true, false, false] rfl rfl (by kernel_rfl) (fun _ _ _ h => h) (Or.inl ⟨by rfl, ?_⟩) ?_ ?_
       rotate_left
       · intro w'
         go_simp
         with_reducible rfl
       rotate_left
       · simp only [Act.put, List.setIfInBounds_toArray, List.set_cons_zero, List.set_cons_succ, i64_w, i32_w]
         rfl
       refine take_ (i := 5) (N := (some 79)) (v := ?_) (a' := ?_) #[true, true, true, true, true, true, true, false, true, true, true, true, false, true, true, false, false] rfl rfl (by kernel_rfl) (fun _ _ _ h => h) (Or.inl ⟨by rfl, ?_⟩) hHeld ?_ ?_
       rotate_left
       · rintro w' ⟨s0, s1⟩
         go_simp
         with_reducible rfl
       rotate_left
       · simp only [Act.put, List.setIfInBounds_toArray, List.set_cons_zero, List.set_cons_succ, i64_w, i32_w]
         rfl
       refine take_ (i := 12) (N := (some 86)) (v := ?_) (a' := ?_) #[true, true, true, true, true, true, true, false, true, true, true, true, true, true, true, false, false] rfl rfl (by kernel_rfl) (fun _ _ _ h => h) (Or.inl ⟨by rfl, ?_⟩) hHeld ?_ ?_
       rotate_left
       · rintro w' ⟨s0, s1⟩
         go_simp
         with_reducible rfl
       rotate_left
       · simp only [Act.put, List.setIfInBounds_toArray, List.set_cons_zero, List.set_cons_succ, i64_w, i32_w]
         rfl
       refine pure_ (i := 15) (N := (some 89)) (v := ?_) (a' := ?_) #[true, true, true, true, true, true, true, false, true, true, true, true, true, true, true, true, false] rfl rfl (by kernel_rfl) (fun _ _ _ h => h) (Or.inl ⟨by rfl, ?_⟩) ?_ ?_
       rotate_left
       · intro w'
         go_simp
         with_reducible rfl
       rotate_left
       · simp only [Act.put, List.setIfInBounds_toArray, List.set_cons_zero, List.set_cons_succ, i64_w, i32_w]
         rfl
       refine one_ (i := 7) (N := (some 81)) #[true, true, true, true, true, true, true, true, true, true, true, true, true, true, true, true, false] rfl rfl (by kernel_rfl) (by decide) (fun K hK => ?_)
       refine goes_ Try.func18 (by kernel_rfl) rfl #[.pointer (some ⟨w.heap.size, 0, none⟩), .int .u64 (vr : Int), .slice A9 cs.length c9] (by rfl) rfl rfl (by (try simp only [List.map_toArray, List.map_cons, List.map_nil]); first | done | rfl) ?_
       refine (sh_swap_yes w.heap.size w.heap.size _ v bs cs A9 c9 _ HKD.out.sok.hat ⟨HPB.out.2.1, HPB.out.2.2.1⟩ (Kd.F_drew HN9.out) HC9.out HCS.out.1 HPB.out.2.2.2.1 HPB.out.2.2.2.2.1).mono ?_
       rintro y w10 ⟨rfl, v10, hs10, hg10⟩
       have HKA := Aside0.mk (HKD.out.swap (fs := allB cs) (cs := cs) (v2 := v10) ⟨by push_cast; exact hs10, HCS.out.1, List.Perm.refl _, HKD.out.sok.step hg10⟩ ⟨HPB.out.2.2.2.2.2, HPB.out.1⟩ hg10)
       have k0 := (HKA.out.scell HS0.out).1
       dsimp only at k0
       clear hs10 hg10 HKD
       refine ⟨_, rfl, ?_⟩
       refine hK.out _ _ ⟨k0, trivial⟩ (fun hHeld => ?_)
       clear hK K
       refine norm_ (a' := ?_) ?_ ?_
       rotate_left
       · show Act.put _ (some 81) _ = _
         simp only [Act.put, List.setIfInBounds_toArray, List.set_cons_zero, List.set_cons_succ, i64_w, i32_w]
         rfl
       refine pure_ (i := 16) (N := (some 90)) (v := ?_) (a' := ?_) #[true, true, true, true, true, true, true, true, true, true, true, true, true, true, true, true, true] rfl rfl (by kernel_rfl) (fun _ _ _ h => h) (Or.inl ⟨by rfl, ?_⟩) ?_ ?_
       rotate_left
       · intro w'
         go_simp
         with_reducible rfl
       rotate_left
       · simp only [Act.put, List.setIfInBounds_toArray, List.set_cons_zero, List.set_cons_succ, i64_w, i32_w]
         rfl
       refine done_ (by kernel_rfl) ?_
       go_wp2_with fail
       go_roundw
       case rel => exact ⟨i + 1, vr + 1, v10, cs, allB cs, _, _, by go_num, by go_num, by omega, by omega, by omega, HKA⟩
       case measure => simp [intOf]; omega
     · have hvq : ¬ (vr : Int) = (put : Int) := by omega
       have hvr : ((vr : Int) == (put : Int)) = false := by rw [beq_eq_false_iff_ne]; exact hvq
       have HVQ := Aside0.mk hvq
       clear hvp hvq
       go_wp2_with fail
       refine start_ (n := 17) (S := fun w' => w'.cell? ⟨sb, m * 2, none⟩ = some (.int .u64 (vr : Int)) ∧ True) (ds := []) #[false, false, false, false, false, false, false, false, false, false, false, false, false, false, false, false, false] (by kernel_rfl) rfl rfl ⟨z2, trivial⟩ (fun hHeld => ?_)
       refine pure_ (i := 0) (N := (some 74)) (v := ?_) (a' := ?_) #[true, false, false, false, false, false, false, false, false, false, false, false, false, false, false, false, false] rfl rfl (by kernel_rfl) (fun _ _ _ h => h) (Or.inl ⟨by rfl, ?_⟩) ?_ ?_
       rotate_left
       · intro w'
         go_simp
         with_reducible rfl
       rotate_left
       · simp only [Act.put, List.setIfInBounds_toArray, List.set_cons_zero, List.set_cons_succ, i64_w, i32_w]
         rfl
       refine pure_ (i := 1) (N := (some 75)) (v := ?_) (a' := ?_) #[true, true, false, false, false, false, false, false, false, false, false, false, false, false, false, false, false] rfl rfl (by kernel_rfl) (fun _ _ _ h => h) (Or.inl ⟨by rfl, ?_⟩) ?_ ?_
       rotate_left
       · intro w'
         go_simp
         with_reducible rfl
       rotate_left
       · simp only [Act.put, List.setIfInBounds_toArray, List.set_cons_zero, List.set_cons_succ, i64_w, i32_w]
         rfl
       refine pure_ (i := 2) (N := (some 76)) (v := ?_) (a' := ?_) #[true, true, true, false, false, false, false, false, false, false, false, false, false, false, false, false, false] rfl rfl (by kernel_rfl) (fun _ _ _ h => h) (Or.inl ⟨by rfl, ?_⟩) ?_ ?_
       rotate_left
       · intro w'
         go_simp
         with_reducible rfl
       rotate_left
       · simp only [Act.put, List.setIfInBounds_toArray, List.set_cons_zero, List.set_cons_succ, i64_w, i32_w]
         rfl
       refine pure_ (i := 3) (N := (some 77)) (v := ?_) (a' := ?_) #[true, true, true, true, false, false, false, false, false, false, false, false, false, false, false, false, false] rfl rfl (by kernel_rfl) (fun _ _ _ h => h) (Or.inl ⟨by rfl, ?_⟩) ?_ ?_
       rotate_left
       · intro w'
         go_simp
         with_reducible rfl
       rotate_left
       · simp only [Act.put, List.setIfInBounds_toArray, List.set_cons_zero, List.set_cons_succ, i64_w, i32_w]
         rfl
       refine pure_ (i := 4) (N := (some 78)) (v := ?_) (a' := ?_) #[true, true, true, true, true, false, false, false, false, false, false, false, false, false, false, false, false] rfl rfl (by kernel_rfl) (fun _ _ _ h => h) (Or.inl ⟨by rfl, ?_⟩) ?_ ?_
       rotate_left
       · intro w'
         go_simp
         with_reducible rfl
       rotate_left
       · simp only [Act.put, List.setIfInBounds_toArray, List.set_cons_zero, List.set_cons_succ, i64_w, i32_w]
         rfl
       refine pure_ (i := 6) (N := (some 80)) (v := ?_) (a' := ?_) #[true, true, true, true, true, false, true, false, false, false, false, false, false, false, false, false, false] rfl rfl (by kernel_rfl) (fun _ _ _ h => h) (Or.inl ⟨by rfl, ?_⟩) ?_ ?_
       rotate_left
       · intro w'
         go_simp
         with_reducible rfl
       rotate_left
       · simp only [Act.put, List.setIfInBounds_toArray, List.set_cons_zero, List.set_cons_succ, i64_w, i32_w]
         rfl
       refine pure_ (i := 8) (N := (some 82)) (v := ?_) (a' := ?_) #[true, true, true, true, true, false, true, false, true, false, false, false, false, false, false, false, false] rfl rfl (by kernel_rfl) (fun _ _ _ h => h) (Or.inl ⟨by rfl, ?_⟩) ?_ ?_
       rotate_left
       · intro w'
         go_simp
         with_reducible rfl
       rotate_left
       · simp only [Act.put, List.setIfInBounds_toArray, List.set_cons_zero, List.set_cons_succ, i64_w, i32_w]
         rfl
       refine pure_ (i := 9) (N := (some 83)) (v := ?_) (a' := ?_) #[true, true, true, true, true, false, true, false, true, true, false, false, false, false, false, false, false] rfl rfl (by kernel_rfl) (fun _ _ _ h => h) (Or.inl ⟨by rfl, ?_⟩) ?_ ?_
       rotate_left
       · intro w'
         go_simp
         with_reducible rfl
       rotate_left
       · simp only [Act.put, List.setIfInBounds_toArray, List.set_cons_zero, List.set_cons_succ, i64_w, i32_w]
         rfl
       refine pure_ (i := 10) (N := (some 84)) (v := ?_) (a' := ?_) #[true, true, true, true, true, false, true, false, true, true, true, false, false, false, false, false, false] rfl rfl (by kernel_rfl) (fun _ _ _ h => h) (Or.inl ⟨by rfl, ?_⟩) ?_ ?_
       rotate_left
       · intro w'
         go_simp
         with_reducible rfl
       rotate_left
       · simp only [Act.put, List.setIfInBounds_toArray, List.set_cons_zero, List.set_cons_succ, i64_w, i32_w]
         rfl
       refine pure_ (i := 11) (N := (some 85)) (v := ?_) (a' := ?_) #[true, true, true, true, true, false, true, false, true, true, true, true, false, false, false, false, false] rfl rfl (by kernel_rfl) (fun _ _ _ h => h) (Or.inl ⟨by rfl, ?_⟩) ?_ ?_
       rotate_left
       · intro w'
         go_simp
         with_reducible rfl
       rotate_left
       · simp only [Act.put, List.setIfInBounds_toArray, List.set_cons_zero, List.set_cons_succ, i64_w, i32_w]
         rfl
       refine pure_ (i := 13) (N := (some 87)) (v := ?_) (a' := ?_) #[true, true, true, true, true, false, true, false, true, true, true, true, false, true, false, false, false] rfl rfl (by kernel_rfl) (fun _ _ _ h => h) (Or.inl ⟨by rfl, ?_⟩) ?_ ?_
       rotate_left
       · intro w'
         go_simp
         with_reducible rfl
       rotate_left
       · simp only [Act.put, List.setIfInBounds_toArray, List.set_cons_zero, List.set_cons_succ, i64_w, i32_w]
         rfl
       refine pure_ (i := 14) (N := (some 88)) (v := ?_) (a' := ?_) #[true, true, true, true, true, false, true, false, true, true, true, true, false, true, true, false, false] rfl rfl (by kernel_rfl) (fun _ _ _ h => h) (Or.inl ⟨by rfl, ?_⟩) ?_ ?_
       rotate_left
       · intro w'
         go_simp
         with_reducible rfl
       rotate_left
       · simp only [Act.put, List.setIfInBounds_toArray, List.set_cons_zero, List.set_cons_succ, i64_w, i32_w]
         rfl
       refine take_ (i := 5) (N := (some 79)) (v := ?_) (a' := ?_) #[true, true, true, true, true, true, true, false, true, true, true, true, false, true, true, false, false] rfl rfl (by kernel_rfl) (fun _ _ _ h => h) (Or.inl ⟨by rfl, ?_⟩) hHeld ?_ ?_
       rotate_left
       · rintro w' ⟨s0, s1⟩
         go_simp
         with_reducible rfl
       rotate_left
       · simp only [Act.put, List.setIfInBounds_toArray, List.set_cons_zero, List.set_cons_succ, i64_w, i32_w]
         rfl
       refine take_ (i := 12) (N := (some 86)) (v := ?_) (a' := ?_) #[true, true, true, true, true, true, true, false, true, true, true, true, true, true, true, false, false] rfl rfl (by kernel_rfl) (fun _ _ _ h => h) (Or.inl ⟨by rfl, ?_⟩) hHeld ?_ ?_
       rotate_left
       · rintro w' ⟨s0, s1⟩
         go_simp
         with_reducible rfl
       rotate_left
       · simp only [Act.put, List.setIfInBounds_toArray, List.set_cons_zero, List.set_cons_succ, i64_w, i32_w]
         rfl
       refine pure_ (i := 15) (N := (some 89)) (v := ?_) (a' := ?_) #[true, true, true, true, true, true, true, false, true, true, true, true, true, true, true, true, false] rfl rfl (by kernel_rfl) (fun _ _ _ h => h) (Or.inl ⟨by rfl, ?_⟩) ?_ ?_
       rotate_left
       · intro w'
         go_simp
         with_reducible rfl
       rotate_left
       · simp only [Act.put, List.setIfInBounds_toArray, List.set_cons_zero, List.set_cons_succ, i64_w, i32_w]
         rfl
       refine one_ (i := 7) (N := (some 81)) #[true, true, true, true, true, true, true, true, true, true, true, true, true, true, true, true, false] rfl rfl (by kernel_rfl) (by decide) (fun K hK => ?_)
       refine goes_ Try.func18 (by kernel_rfl) rfl #[.pointer (some ⟨w.heap.size, 0, none⟩), .int .u64 (vr : Int), .slice A9 cs.length c9] (by rfl) rfl rfl (by (try simp only [List.map_toArray, List.map_cons, List.map_nil]); first | done | rfl) ?_
       refine (sh_swap_old w.heap.size w.heap.size _ (vr : Int) v bs A9 cs.length c9 _ HKD.out.sok.hat HVQ.out).mono ?_
       rintro y w10 ⟨rfl, hb10⟩
       have HKA := Aside0.mk (HKD.out.below hb10)
       have k0 := (HKA.out.scell HS0.out).1
       dsimp only at k0
       clear hb10 HKD
       refine ⟨_, rfl, ?_⟩
       refine hK.out _ _ ⟨k0, trivial⟩ (fun hHeld => ?_)
       clear hK K
       refine norm_ (a' := ?_) ?_ ?_
       rotate_left
       · show Act.put _ (some 81) _ = _
         simp only [Act.put, List.setIfInBounds_toArray, List.set_cons_zero, List.set_cons_succ, i64_w, i32_w]
         rfl
       refine pure_ (i := 16) (N := (some 90)) (v := ?_) (a' := ?_) #[true, true, true, true, true, true, true, true, true, true, true, true, true, true, true, true, true] rfl rfl (by kernel_rfl) (fun _ _ _ h => h) (Or.inl ⟨by rfl, ?_⟩) ?_ ?_
       rotate_left
       · intro w'
         go_simp
         with_reducible rfl
       rotate_left
       · simp only [Act.put, List.setIfInBounds_toArray, List.set_cons_zero, List.set_cons_succ, i64_w, i32_w]
         rfl
       refine done_ (by kernel_rfl) ?_
       go_wp2_with fail
       go_roundw
       case rel => exact ⟨i + 1, put, v, bs, es, _, _, rfl, by go_num, by omega, by omega, by omega, HKA⟩
       case measure => simp [intOf]; omega
  · have key : ∃ d1 d2 : Bool, decide (i < g.length) = d1 ∧ decide ((i : Int) < 50) = d2 ∧ (d1 && d2) = false := ⟨_, _, rfl, rfl, by
     by_cases h1 : i < g.length
     · have : ¬ i < 50 := fun h => hlt ⟨h1, h⟩
       simp [h1]; omega
     · simp [h1]⟩
    have s5 : IntKind.u64.wrap (put : Int) = (put : Int) := IntWalk.u64_in _ (by omega)
    have hpp : put = es.length := HBN.out.2.2.2.symm
    have HPP := Aside0.mk hpp
    clear hpp
    by_cases h1 : i < g.length
    · have h2 : decide ((i : Int) < 50) = false := decide_eq_false (by have : ¬ i < 50 := fun h => hlt ⟨h1, h⟩; omega)
      clear hlt key
      go_wp2_with fail
      refine (slen_okR HK.out.sok put HPP.out HBN.out.1 HBN.out.2.1).mono ?_
      rintro y w7 ⟨rfl, hb7⟩
      have HK7 := Aside0.mk (HK.out.below hb7)
      clear hb7
      go_wp2_with fail
      refine (ssnap_ok HK7.out.sok HBN.out.1 HBN.out.2.1).mono ?_
      rintro y w8 ⟨A8, c8, rfl, hv8, hb8⟩
      have HB8 := Aside0.mk (HK7.out.sok.below hb8).bel
      have hfs := fun W => field_snap (put : Int) A8 bs.length c8 W
      clear hv8 hb8
      go_wp2_with fail
      refine (awake8 _).mono ?_
      rintro y w9 ⟨rfl, hb9⟩
      have HB9 := Aside0.mk (below_step HB8.out hb9)
      clear hb9
      go_wp2
      go_ret
      exact ⟨by first | rfl | simp, HB9.out⟩
    · clear hlt key
      go_wp2_with fail
      refine (slen_okR HK.out.sok put HPP.out HBN.out.1 HBN.out.2.1).mono ?_
      rintro y w7 ⟨rfl, hb7⟩
      have HK7 := Aside0.mk (HK.out.below hb7)
      clear hb7
      go_wp2_with fail
      refine (ssnap_ok HK7.out.sok HBN.out.1 HBN.out.2.1).mono ?_
      rintro y w8 ⟨A8, c8, rfl, hv8, hb8⟩
      have HB8 := Aside0.mk (HK7.out.sok.below hb8).bel
      have hfs := fun W => field_snap (put : Int) A8 bs.length c8 W
      clear hv8 hb8
      go_wp2_with fail
      refine (awake8 _).mono ?_
      rintro y w9 ⟨rfl, hb9⟩
      have HB9 := Aside0.mk (below_step HB8.out hb9)
      clear hb9
      go_wp2
      go_ret
      exact ⟨by first | rfl | simp, HB9.out⟩
end Go.Proofs.Ytijancajlmneeaa.V
end
