-- a text of this work, without what this claim doesn't use (wip/shake.py)
import Derived.Test.YtdfndglenbckhaaLVPvergerref5
import Derived.Test.YtdfndglenbckhaaLVRL1
import Derived.Test.YtdfndglenbckhaaLVE46
set_option linter.unusedVariables false
set_option linter.unusedSimpArgs false
namespace Go.Proofs.Ytdfndglenbckhaa.V
open Go.RowKit Go.Proofs.YtdfndglenbckhaaW.PrintWords Go.Proofs.YtdfndglenbckhaaW.PrintLast Go.Proofs.YtdfndglenbckhaaW.PrintMore
theorem Mrg.pair {cur fin : List Bk} (h : Mrg cur fin) {i : Nat} {a b : Bk} (ha : cur[i]? = some a) (hb : cur[i + 1]? = some b) (he : a.f0 = b.f0) (hl : a.f1.length + b.f1.length < 1000000000) :
 Sound (joinB a b) ∧ Good (cur.take i ++ cur.drop (i + 2)) ∧ fin = ins (joinB a b) (cur.take i ++ cur.drop (i + 2)) := by
 rcases h with ⟨h, rfl⟩ | ⟨x, A, C, rfl, h, rfl⟩
 · obtain ⟨hi, rfl⟩ := List.getElem?_eq_some_iff.1 ha
   obtain ⟨hi', rfl⟩ := List.getElem?_eq_some_iff.1 hb
   have := List.pairwise_iff_getElem.1 h.desc i (i + 1) hi hi' (by omega)
   omega
 · obtain ⟨d1, d2, d3⟩ := desc_app.1 h.good.desc
   by_cases h1 : i + 1 < A.length
   · rw [List.getElem?_append_left (by omega)] at ha hb
     obtain ⟨hi, rfl⟩ := List.getElem?_eq_some_iff.1 ha
     obtain ⟨hi', rfl⟩ := List.getElem?_eq_some_iff.1 hb
     have := List.pairwise_iff_getElem.1 d1 i (i + 1) hi hi' (by omega)
     omega
   · by_cases h2 : i + 1 = A.length
     · rcases List.eq_nil_or_concat A with rfl | ⟨A', a', rfl⟩
       · simp at h2
       · rw [List.concat_eq_append] at *
         have hi : i = A'.length := by simpa using h2
         subst hi
         obtain rfl : a' = a := by simpa using ha
         obtain rfl : x = b := by simpa using hb
         obtain ⟨e1, _, e3⟩ := desc_app.1 d1
         have hgo : Good (A' ++ C) := by
          have := h.good
          rw [List.append_assoc] at this
          exact good_out this
         obtain ⟨k1, k2⟩ := cur_joined (x := x) (a := a') (A := A') (C := C) h.snd (h.good.snd a' (by simp)) he hgo (fun q hq => by have := e3 q hq a' (by simp); omega) (fun q hq => by have := d3 a' (by simp) q hq; omega) hl
         have et : (A' ++ [a'] ++ x :: C).take A'.length ++ (A' ++ [a'] ++ x :: C).drop (A'.length + 2) = A' ++ C := by simp
         rw [et]
         refine ⟨k1.snd, hgo, ?_⟩
         rw [k2, ins_split (fun q hq => by have := d3 a' (by simp) q hq; omega), ins_eq he]
     · obtain ⟨j, rfl⟩ : ∃ j, i = A.length + j := ⟨i - A.length, by omega⟩
       rw [List.getElem?_append_right (by omega), show A.length + j - A.length = j by omega] at ha
       rw [List.getElem?_append_right (by omega), show A.length + j + 1 - A.length = j + 1 by omega] at hb
       cases j with
       | zero =>
        obtain rfl : x = a := by simpa using ha
        cases C with
        | nil => simp at hb
        | cons c C =>
         obtain rfl : c = b := by simpa using hb
         obtain ⟨e1, e2⟩ := List.pairwise_cons.1 d2
         have hA : ∀ q ∈ A, x.f0 < q.f0 := fun q hq => by have := d3 q hq c (by simp); omega
         have hC : ∀ q ∈ C, q.f0 < x.f0 := fun q hq => by have := e1 q hq; omega
         obtain ⟨k1, k2⟩ := cur_joined (x := x) (a := c) (A := A) (C := C) h.snd (h.good.snd c (by simp)) he.symm (good_out h.good) hA hC (by omega)
         have et : (A ++ x :: c :: C).take (A.length + 0) ++ (A ++ x :: c :: C).drop (A.length + 0 + 2) = A ++ C := by simp
         rw [et, joinB_comm x c]
         refine ⟨k1.snd, good_out h.good, ?_⟩
         rw [k2, show A ++ c :: C = (A ++ [c]) ++ C by simp, ins_split hC, ins_eq he.symm]
       | succ j =>
        rw [List.getElem?_cons_succ] at ha hb
        obtain ⟨hi, rfl⟩ := List.getElem?_eq_some_iff.1 ha
        obtain ⟨hi', rfl⟩ := List.getElem?_eq_some_iff.1 hb
        have := List.pairwise_iff_getElem.1 d2 j (j + 1) hi hi' (by omega)
        omega
theorem lay_mrg {x : Bk} {rest : List Bk} (hx : Sound x) (hg : Good rest) : Mrg (layL x rest) (ins x rest) := by
 rw [layL_some hx.ne]
 refine .inr ⟨x, rest.take (layAt x rest), rest.drop (layAt x rest), rfl, ⟨hx, by rw [List.take_append_drop]; exact hg, ?_, ?_⟩, by rw [List.take_append_drop]⟩
 · intro b hb
   obtain ⟨j, hj, rfl⟩ := List.getElem_of_mem hb
   rw [uq] at hj
   have h1 := layAt_lt (x := x) (bs := rest) (k := j) (by omega) (List.getElem?_eq_getElem (by omega))
   rw [List.getElem_take]
   omega
 · intro b hb
   obtain ⟨j, hj, rfl⟩ := List.getElem_of_mem hb
   rw [uo] at hj
   have h1 := layAt_at (x := x) (bs := rest) rfl (List.getElem?_eq_getElem (show layAt x rest < rest.length by omega))
   rw [List.getElem_drop]
   cases j with
   | zero => simpa using h1
   | succ j =>
    have := List.pairwise_iff_getElem.1 hg.desc (layAt x rest) (layAt x rest + (j + 1)) (by omega) (by omega) (by omega)
    omega
theorem layL_len {x : Bk} {rest : List Bk} (hx : x.f1 ≠ []) : (layL x rest).length = rest.length + 1 := by
 rw [layL_some hx]
 have := layAt_le x rest
 rw [List.length_append, List.length_cons, uq, uo]
 omega
theorem layL_all (x : Bk) (rest : List Bk) : (allB (layL x rest)).Perm (x.f1 ++ allB rest) := by
 by_cases hx : x.f1 = []
 · rw [layL_none hx, hx]; exact List.Perm.refl _
 · rw [layL_some hx, allB_append, allB_cons]
   refine List.Perm.trans ?_ ((List.Perm.refl x.f1).append (List.Perm.of_eq (show allB (rest.take (layAt x rest)) ++ allB (rest.drop (layAt x rest)) = allB rest by rw [← allB_append, List.take_append_drop])))
   rw [← List.append_assoc, ← List.append_assoc]
   exact List.perm_append_comm.append_right _
theorem pair_all {cs : List Bk} {i : Nat} {a b : Bk} (ha : cs[i]? = some a) (hb : cs[i + 1]? = some b) : (allB cs).Perm ((a.f1 ++ b.f1) ++ allB (cs.take i ++ cs.drop (i + 2))) := by
 obtain ⟨h1, rfl⟩ := List.getElem?_eq_some_iff.1 ha
 obtain ⟨h2, rfl⟩ := List.getElem?_eq_some_iff.1 hb
 have e1 : cs = cs.take i ++ cs[i] :: cs[i + 1] :: cs.drop (i + 2) := by
  conv => lhs; rw [← List.take_append_drop i cs, List.drop_eq_getElem_cons h1, List.drop_eq_getElem_cons h2]
 have e2 : allB cs = allB (cs.take i) ++ (cs[i].f1 ++ (cs[i + 1].f1 ++ allB (cs.drop (i + 2)))) := by
  conv => lhs; rw [e1, allB_append, allB_cons, allB_cons]
 rw [e2, allB_append, ← List.append_assoc, ← List.append_assoc, ← List.append_assoc]
 refine List.Perm.append_right _ ?_
 rw [List.append_assoc]
 exact List.perm_append_comm
theorem rcuts2 {w : World} {ok : Nat → Prop} {A : Option Addr} {c i : Nat} {rs : List RBk} (h : Kd.V k70 70 w 0 ok (.slice A rs.length c) rs) (hi : i + 2 ≤ rs.length) :
 ∃ T D AD cD, T = rs.take i ∧ D = rs.drop (i + 2) ∧ (∀ W : World, (Instr.slice 27 (.slice A rs.length c) none (some (.int .i64 (i : Int))) none).run Try.prog W = .ok (.slice A T.length c) W) ∧ (∀ W : World, (Instr.slice 27 (.slice A rs.length c) (some (.int .i64 ((i : Int) + 2))) none none).run Try.prog W = .ok (.slice AD D.length cD) W) ∧ Kd.F k70 w ok A T.length T ∧ Kd.F k70 w ok AD D.length D ∧ D.length ≤ cD := by
 have hc := (Kd.V_at h).2.1
 refine ⟨rs.take i, rs.drop (i + 2), (if c = i + 2 then A else A.map (·.add ((i + 2) * 2))), c - (i + 2), rfl, rfl, fun W => ?_, fun W => ?_, Kd.F_take (Kd.V_F h) (by omega), Kd.F_cut (m := i + 2) (Kd.V_F h) (by omega) hc, ?_⟩
 · rw [rcut_to A rs.length c i (by omega) hc W, uq, Nat.min_eq_left (by omega)]
 · have := rcut_at A rs.length c (i + 2) (by omega) W
   rw [show ((i + 2 : Nat) : Int) = (i : Int) + 2 by push_cast; rfl] at this
   rw [this, uo]
 · rw [uo]; omega
def rowLen (q : Nat) (w : World) : Nat := match w.cell? ⟨q, 0, none⟩ with
  | some (.slice _ n _) => n
  | _ => 0
def boolOf : Value → Nat
  | .bool true => 1
  | _ => 0
def pairN (cs : List Bk) (i : Nat) : Prop := ∀ (j : Nat) (a b : Bk), j < i → cs[j]? = some a → cs[j + 1]? = some b → a.f0 ≠ b.f0
theorem grown_grown {w w1 w2 : World} {q : Nat} (h : w.grownBy w1 (some q)) (k : w1.grownBy w2 (some q)) : w.grownBy w2 (some q) :=
 ⟨k.os.trans h.os, k.tape.trans h.tape, k.output.trans h.output, Nat.le_trans h.size k.size, fun i hi hne => (k.block i (Nat.lt_of_lt_of_le hi h.size) hne).trans (h.block i hi hne)⟩
theorem grown_below {w w1 : World} {q : Nat} (h : Below w.heap.size w w1) : w.grownBy w1 (some q) := ⟨h.os, h.tape, h.output, h.size, fun k hk _ => h.block k hk⟩
set_option maxRecDepth 100000 in
set_option maxHeartbeats 16000000 in
theorem rl_settle (base q : Nat) (OK : Nat → Prop) (v : Value) (cs fin : List Bk) (w : World) (h : RLAt w base q OK v (cs.map toR)) (hfr : ∀ k, w.heap.size ≤ k → OK k) (hm : Mrg cs fin) (hl : cs.length ≤ 900) (ha : (allB cs).length ≤ 1000000) :
 Calls Try.prog 75 #[.pointer (some ⟨q, 0, none⟩)] w fun e w' => e = .returned (.tuple #[]) ∧ ∃ v', RLAt w' base q OK v' (fin.map toR) ∧ w.grownBy w' (some q) := by
 have HS := Aside0.mk h
 have HM := Aside0.mk hm
 have HA := Aside0.mk ha
 have HL := Aside0.mk hl
 have HOK0 := Aside0.mk hfr
 clear h hm ha hl hfr
 go_enter Try.func75, Try.ntmps75
 go_wp2_with fail
 go_loopw [2] (fun s2 wr => ∃ (r : Bool) (v : Value) (cs : List Bk), s2 = .bool r ∧ Aside0 (RLAt wr base q OK v (cs.map toR)) ∧ Aside0 (Mrg cs fin ∧ cs.length ≤ 900 ∧ (allB cs).length ≤ 1000000) ∧ Aside0 (w.grownBy wr (some q)) ∧ Aside0 (r = false → pairN cs cs.length)) (fun s2 wr => rowLen q wr * 2 + boolOf s2)
 case atStart => exact ⟨true, v, cs, rfl, HS, ⟨HM.out, HL.out, HA.out⟩, ⟨grown_below (Below.refl _ _)⟩, ⟨fun h => by cases h⟩⟩
 case round =>
  clear HS HM HA HL
  obtain ⟨r, v, cs, rfl, HS, HM, HG, HD⟩ := hrel
  obtain ⟨rs, hrs⟩ : ∃ rs, rs = cs.map toR := ⟨_, rfl⟩
  rw [← hrs] at HS
  have HRS := Aside0.mk hrs
  have hrl : rs.length = cs.length := by rw [hrs, List.length_map]
  have HRL := Aside0.mk hrl
  have hls : rs.length ≤ 900 := by have := HM.out.2.1; omega
  obtain ⟨A, c, rfl, hc, hF⟩ := HS.out.reads
  clear hrs hrl hF
  cases r with
  | false =>
   have HF := Aside0.mk (HM.out.1.done (fun i a b ha hb => HD.out rfl i a b (by have := (List.getElem?_eq_some_iff.1 ha).1; omega) ha hb))
   go_wp2_with fail
   refine ⟨rfl, .tuple #[], by simp [results, Try.results75, go_sem], rfl, ⟨_, by rw [HF.out.1, ← HRS.out]; exact HS.out⟩, HG.out⟩
  | true =>
   have q0 := HS.out.cell0
   have HQ0 := Aside0.mk q0
   go_wp2_with fail
   rename World => wo
   go_loopw [2, 3] (fun s2 s3 wx => s2 = .bool false ∧ ∃ i : Nat, s3 = .int .i64 i ∧ i ≤ rs.length ∧ Aside0 (Below wo.heap.size wo wx) ∧ Aside0 (pairN cs i)) (fun _ s3 _ => rs.length + 1 - (intOf s3).toNat)
   case atStart => exact ⟨rfl, 0, rfl, Nat.zero_le _, ⟨Below.refl _ _⟩, ⟨fun j a b h => by omega⟩⟩
   case round =>
    obtain ⟨rfl, i, rfl, hi, HB, HN⟩ := hrel
    have HSi := Aside0.mk (HS.out.below HB.out)
    replace q0 := HSi.out.cell0
    have hw1 : wrap64 ((i : Int) + 1) = (i : Int) + 1 := by unfold wrap64; omega
    have hw2 : wrap64 ((i : Int) + 2) = (i : Int) + 2 := by unfold wrap64; omega
    by_cases hlt : i + 1 < rs.length
    · obtain ⟨a, ha⟩ : ∃ a, cs[i]? = some a := ⟨_, List.getElem?_eq_getElem (by have := HRL.out; omega)⟩
      obtain ⟨b, hb⟩ : ∃ b, cs[i + 1]? = some b := ⟨_, List.getElem?_eq_getElem (by have := HRL.out; omega)⟩
      have hra : rs[i]? = some (toR a) := by rw [HRS.out, List.getElem?_map, ha]; rfl
      have hrb : rs[i + 1]? = some (toR b) := by rw [HRS.out, List.getElem?_map, hb]; rfl
      obtain ⟨ad, A1, c1, rfl, ya0, ya1, la, ga⟩ := rb_at (xv HSi.out.row).2.2 hra
      obtain ⟨ad2, A2, c2, ead, yb0, yb1, lb, gb⟩ := rb_at (xv HSi.out.row).2.2 hrb
      injection ead with ead
      subst ead
      dsimp only [toR] at ya0 ya1 la ga yb0 yb1 lb gb
      have HCa := Aside0.mk ga
      have HCb := Aside0.mk gb
      have HE := Aside0.mk (And.intro ha hb)
      have hpa := (pair_all ha hb).length_eq
      rw [List.length_append, List.length_append] at hpa
      have habl : a.f1.length + b.f1.length ≤ 1000000 := by have := HM.out.2.2; omega
      have HPL := Aside0.mk hpa
      have hil : (i : Int) < (rs.length : Int) := by omega
      have hi0 : (0 : Int) ≤ (i : Int) := by omega
      have hil1 : (i : Int) + 1 < (rs.length : Int) := by omega
      have hi01 : (0 : Int) ≤ (i : Int) + 1 := by omega
      clear ha hb hra hrb ga gb hpa
      by_cases hq : a.f0 = b.f0
      · have HEQ := Aside0.mk hq
        have hq1 : (a.f0 == b.f0) = true := by rw [hq]; simp
        have hq2 : (a.f0 != b.f0) = false := by simp [bne, hq1]
        clear hq
        go_wp2_with fail
        refine start_ (n := 18) (S := fun w' => w'.cell? ⟨q, 0, none⟩ = some (.slice (some ad) rs.length c) ∧ w'.cell? (ad.add (i * 2)) = some (.int .i64 a.f0) ∧ w'.cell? (ad.add ((i + 1) * 2)) = some (.int .i64 b.f0)) (ds := []) #[xX, xX, xX, xX, xX, xX, xX, xX, xX, xX, xX, xX, xX, xX, xX, xX, xX, xX] (by kernel_rfl) rfl rfl ⟨q0, ya0, yb0⟩ (fun hHeld => ?_)
        refine pU (i := 0) (N := (some 17)) (bA 18 1) (by kernel_rfl) rfl ?_
        refine pU (i := 1) (N := (some 18)) (bA 18 3) (by kernel_rfl) rfl ?_
        refine pU (i := 2) (N := (some 19)) (bA 18 7) (by kernel_rfl) rfl ?_
        refine pU (i := 4) (N := (some 21)) (bA 18 23) (by kernel_rfl) rfl ?_
        refine pU (i := 8) (N := (some 25)) (bA 18 279) (by kernel_rfl) rfl ?_
        refine pU (i := 9) (N := (some 26)) (bA 18 791) (by kernel_rfl) rfl ?_
        refine pU (i := 10) (N := (some 27)) (bA 18 1815) (by kernel_rfl) rfl ?_
        refine pU (i := 12) (N := (some 29)) (bA 18 5911) (by kernel_rfl) rfl ?_
        refine pU (i := 13) (N := (some 30)) (bA 18 14103) (by kernel_rfl) rfl ?_
        refine tU (i := 3) (N := (some 20)) (bA 18 14111) (by kernel_rfl) rfl hHeld (by (constructor; (rintro w' ⟨s0, s1, s2⟩; go_simp; (with_reducible rfl)); (simp only [Act.put, ua, ub, uc, uh, ui]; rfl))) ?_
        refine pU (i := 5) (N := (some 22)) (bA 18 14143) (by kernel_rfl) rfl ?_
        refine pU (i := 6) (N := (some 23)) (bA 18 14207) (by kernel_rfl) rfl ?_
        refine tU (i := 7) (N := (some 24)) (bA 18 14335) (by kernel_rfl) rfl hHeld (by (constructor; (rintro w' ⟨s0, s1, s2⟩; go_simp; (with_reducible rfl)); (simp only [Act.put, ua, ub, uc, uh, ui]; rfl))) ?_
        refine tU (i := 11) (N := (some 28)) (bA 18 16383) (by kernel_rfl) rfl hHeld (by (constructor; (rintro w' ⟨s0, s1, s2⟩; go_simp; (with_reducible rfl)); (simp only [Act.put, ua, ub, uc, uh, ui]; rfl))) ?_
        refine pU (i := 14) (N := (some 31)) (bA 18 32767) (by kernel_rfl) rfl ?_
        refine pU (i := 15) (N := (some 32)) (bA 18 65535) (by kernel_rfl) rfl ?_
        refine tU (i := 16) (N := (some 33)) (bA 18 131071) (by kernel_rfl) rfl hHeld (by (constructor; (rintro w' ⟨s0, s1, s2⟩; go_simp; (with_reducible rfl)); (simp only [Act.put, ua, ub, uc, uh, ui]; rfl))) ?_
        refine pU (i := 17) (N := (some 34)) (bA 18 262143) (by kernel_rfl) rfl ?_
        refine done_ (by kernel_rfl) ?_
        go_upto_region 7 with fail
        obtain ⟨wd, hwd⟩ : ∃ wd : World, wd = wr.drew := ⟨_, rfl⟩
        rw [← hwd]
        have HBd := Aside0.mk (show Below wr.heap.size wr wd by rw [hwd]; exact below_drew (Below.refl _ _))
        clear hwd
        have HSd := Aside0.mk (HSi.out.below HBd.out)
        replace q0 := HSd.out.cell0
        replace ya1 := uj HBd.out ya1
        replace yb1 := uj HBd.out yb1
        have HCA := Aside0.mk (xk HCa.out HBd.out)
        have HCB := Aside0.mk (xk HCb.out HBd.out)
        have HWO := Aside0.mk (show w.heap.size ≤ wo.heap.size ∧ wo.heap.size ≤ wr.heap.size from ⟨HG.out.size, HB.out.size⟩)
        have HOKd := Aside0.mk (show ∀ k, wd.heap.size ≤ k → OK k from fun k hk => HOK0.out k (by have := HWO.out; have := HBd.out.size; omega))
        have HOF := Aside0.mk (show vergerref5_Of.f 3000000 (a.f1 ++ b.f1) = some ((joinB a b).f0, (joinB a b).f1) from refof_mkR _ _ (by rw [List.length_append]; omega) (by rw [List.length_append]; omega))
        have HBo := HB
        clear HB ya0 yb0
        go_cut [4] (fun s4 wx => ∃ (X : Nat) (Aj : Option Addr) (cj : Nat), s4 = .pointer (some ⟨X, 0, none⟩) ∧ Aside0 (wx.heap[X]? = some (.cells #[.int .i64 (joinB a b).f0, .slice Aj (joinB a b).f1.length cj] 70 (0, 0)) ∧ (joinB a b).f1.length ≤ cj ∧ Kd.F k46 wx OK Aj (joinB a b).f1.length (joinB a b).f1) ∧ Aside0 (wr.heap.size ≤ X) ∧ Aside0 (Below wr.heap.size wr wx))
        case first =>
         have HB := Aside0.mk (below_drew (Below.refl wd.heap.size wd))
         refine start_ (n := 23) (S := fun w' => w'.cell? ⟨q, 0, none⟩ = some (.slice (some ad) rs.length c) ∧ w'.cell? ⟨(ad.add (i * 2)).block, (ad.add (i * 2)).off + 1, none⟩ = some (.slice A1 a.f1.length c1) ∧ w'.cell? ⟨(ad.add ((i + 1) * 2)).block, (ad.add ((i + 1) * 2)).off + 1, none⟩ = some (.slice A2 b.f1.length c2)) (ds := [22]) #[xX, xX, xX, xX, xX, xX, xX, xX, xX, xX, xX, xX, xX, xX, xX, xX, xX, xX, xX, xX, xX, xX, xX] (by kernel_rfl) rfl rfl ⟨q0, ya1, yb1⟩ (fun hHeld => ?_)
         refine pU (i := 1) (N := (some 36)) (bA 23 2) (by kernel_rfl) rfl ?_
         refine pU (i := 2) (N := (some 37)) (bA 23 6) (by kernel_rfl) rfl ?_
         refine pU (i := 3) (N := (some 38)) (bA 23 14) (by kernel_rfl) rfl ?_
         refine pU (i := 5) (N := (some 40)) (bA 23 46) (by kernel_rfl) rfl ?_
         refine pU (i := 10) (N := (some 45)) (bA 23 1070) (by kernel_rfl) rfl ?_
         refine pU (i := 11) (N := (some 46)) (bA 23 3118) (by kernel_rfl) rfl ?_
         refine pU (i := 12) (N := (some 47)) (bA 23 7214) (by kernel_rfl) rfl ?_
         refine pU (i := 14) (N := (some 49)) (bA 23 23598) (by kernel_rfl) rfl ?_
         refine pU (i := 15) (N := (some 50)) (bA 23 56366) (by kernel_rfl) rfl ?_
         refine tU (i := 4) (N := (some 39)) (bA 23 56382) (by kernel_rfl) rfl hHeld (by (constructor; (rintro w' ⟨s0, s1, s2⟩; go_simp; (with_reducible rfl)); (simp only [Act.put, ua, ub, uc, uh, ui]; rfl))) ?_
         refine pU (i := 6) (N := (some 41)) (bA 23 56446) (by kernel_rfl) rfl ?_
         refine pU (i := 7) (N := (some 42)) (bA 23 56574) (by kernel_rfl) rfl ?_
         refine tU (i := 8) (N := (some 43)) (bA 23 56830) (by kernel_rfl) rfl hHeld (by (constructor; (rintro w' ⟨s0, s1, s2⟩; go_simp; (with_reducible rfl)); (simp only [Act.put, ua, ub, uc, uh, ui]; rfl))) ?_
         refine tU (i := 13) (N := (some 48)) (bA 23 65022) (by kernel_rfl) rfl hHeld (by (constructor; (rintro w' ⟨s0, s1, s2⟩; go_simp; (with_reducible rfl)); (simp only [Act.put, ua, ub, uc, uh, ui]; rfl))) ?_
         refine pU (i := 16) (N := (some 51)) (bA 23 130558) (by kernel_rfl) rfl ?_
         refine pU (i := 17) (N := (some 52)) (bA 23 261630) (by kernel_rfl) rfl ?_
         refine tU (i := 18) (N := (some 53)) (bA 23 523774) (by kernel_rfl) rfl hHeld (by (constructor; (rintro w' ⟨s0, s1, s2⟩; go_simp; (with_reducible rfl)); (simp only [Act.put, ua, ub, uc, uh, ui]; rfl))) ?_
         refine two_ (i := 0) (j := 21) (Ni := (some 35)) (Nj := (some 4)) #[yY, yY, yY, yY, yY, yY, yY, yY, yY, xX, yY, yY, yY, yY, yY, yY, yY, yY, yY, xX, xX, xX, xX] #[xX, yY, yY, yY, yY, yY, yY, yY, yY, xX, yY, yY, yY, yY, yY, yY, yY, yY, yY, xX, xX, yY, xX] rfl rfl rfl rfl (by kernel_rfl) (by decide) (by decide) (fun K hK => ?_) (fun K hK => ?_)
         · skip
           refine Kd.R_lit_step k46 _ 46 ?hg (N := 35) ?hd (xs := ([] : List E)) (inner := []) (ok := fun _ => True) (okp := fun _ => True) ?hr ?hp (fun _ hk => hk) trivial (Below.refl _ _) (vn _) (by simp) ?_; (case hd => rfl); (case hg => rfl); (case hr => first | (go_simp; done) | (go_simp; rfl)); (case hp => exact (Reps.none _ _))
           intro vC wC ho6 hb6 hg6 hnew6
           (try (have HNX := Aside0.mk (show ∀ k, vC.ownBlock = some k → k ≠ X from fun k hk => by obtain ⟨b', h1, h2⟩ := hnew6; rw [h1] at hk; injection hk with hk; have := blk_lt HBX.out; omega)))
           (try (have HBXn := Aside0.mk (vy HBX.out hb6); clear HBX; have HBX := HBXn; clear HBXn))
           have n_ := Aside0.mk (Kd.R_lower ho6 HB.out.size)
           (try clear HO)
           have HO := n_
           clear n_
           have n_ := Aside0.mk (ur HB.out hb6)
           (try clear HB)
           have HB := n_
           clear n_
           clear ho6 hb6 hg6 hnew6
           refine hK.out _ _ ⟨uj HB.out q0, uj HB.out ya1, uj HB.out yb1⟩ (fun hHeld => ?_)
           clear hK K
           refine vz (a' := ?_) ?_ ?_; rotate_left; (· (show Act.put _ (some 35) _ = _); (simp only [Act.put, ua, ub, uc, uh, ui]); rfl)
           refine two_ (i := 9) (j := 21) (Ni := (some 44)) (Nj := (some 4)) #[yY, yY, yY, yY, yY, yY, yY, yY, yY, yY, yY, yY, yY, yY, yY, yY, yY, yY, yY, xX, xX, xX, xX] #[yY, yY, yY, yY, yY, yY, yY, yY, yY, xX, yY, yY, yY, yY, yY, yY, yY, yY, yY, xX, xX, yY, xX] rfl rfl rfl rfl (by kernel_rfl) (by decide) (by decide) (fun K hK => ?_) (fun K hK => ?_)
           · skip
             refine xc k46 (w0 := wd) wd.heap.size (by rfl) (.tmp 35) (.tmp 43) 30 46 (.agg #[(.int .u64 0), (.int .i64 0)]) 16 rfl Try.underlying30 info46 rfl (by decide) (by omega) vC ([] : List E) a.f1 _ _ _ (fun _ => True) (fun _ => False) rfl rfl HO.out (xk HCA.out HB.out) (fun _ _ h => h) (fun _ h => h.elim) (fun _ _ => trivial) HB.out HB.out.size (by (try simp only [List.length_nil, List.length_append]); omega) ?_
             intro vD wC ho hb hg hat
             (try rw [List.nil_append] at ho)
             (try (have HBXn := Aside0.mk ((hg.block X (blk_lt HBX.out) (fun e => HNX.out X e.symm rfl)).trans HBX.out); have HNXn := Aside0.mk (show ∀ k, vD.ownBlock = some k → k ≠ X from fun k hk => Or.elim hat (fun h => HNX.out k (by rw [← h]; exact hk)) (fun h => by obtain ⟨b', h1, h2⟩ := h; rw [h1] at hk; injection hk with hk; have := blk_lt HBX.out; omega)); clear HBX HNX; have HBX := HBXn; have HNX := HNXn; clear HBXn HNXn))
             clear HO HB
             obtain ⟨vC, hvC⟩ : ∃ vC, vC = vD := ⟨_, rfl⟩
             subst hvC
             have HO := Aside0.mk ho
             have HB := Aside0.mk hb
             clear ho hb hg hat
             refine hK.out _ _ ⟨uj HB.out q0, uj HB.out ya1, uj HB.out yb1⟩ (fun hHeld => ?_)
             clear hK K
             refine vz (a' := ?_) ?_ ?_; rotate_left; (· (show Act.put _ (some 44) _ = _); (simp only [Act.put, ua, ub, uc, uh, ui]); rfl)
             refine two_ (i := 19) (j := 21) (Ni := (some 54)) (Nj := (some 4)) #[yY, yY, yY, yY, yY, yY, yY, yY, yY, yY, yY, yY, yY, yY, yY, yY, yY, yY, yY, yY, xX, xX, xX] #[yY, yY, yY, yY, yY, yY, yY, yY, yY, yY, yY, yY, yY, yY, yY, yY, yY, yY, yY, xX, xX, yY, xX] rfl rfl rfl rfl (by kernel_rfl) (by decide) (by decide) (fun K hK => ?_) (fun K hK => ?_)
             · skip
               refine xc k46 (w0 := wd) wd.heap.size (by rfl) (.tmp 44) (.tmp 53) 30 46 (.agg #[(.int .u64 0), (.int .i64 0)]) 16 rfl Try.underlying30 info46 rfl (by decide) (by omega) vC a.f1 b.f1 _ _ _ (fun _ => True) (fun _ => False) rfl rfl HO.out (xk HCB.out HB.out) (fun _ _ h => h) (fun _ h => h.elim) (fun _ _ => trivial) HB.out HB.out.size (by (try simp only [List.length_nil, List.length_append]); omega) ?_
               intro vD wC ho hb hg hat
               (try rw [List.nil_append] at ho)
               (try (have HBXn := Aside0.mk ((hg.block X (blk_lt HBX.out) (fun e => HNX.out X e.symm rfl)).trans HBX.out); have HNXn := Aside0.mk (show ∀ k, vD.ownBlock = some k → k ≠ X from fun k hk => Or.elim hat (fun h => HNX.out k (by rw [← h]; exact hk)) (fun h => by obtain ⟨b', h1, h2⟩ := h; rw [h1] at hk; injection hk with hk; have := blk_lt HBX.out; omega)); clear HBX HNX; have HBX := HBXn; have HNX := HNXn; clear HBXn HNXn))
               clear HO HB
               obtain ⟨vC, hvC⟩ : ∃ vC, vC = vD := ⟨_, rfl⟩
               subst hvC
               have HO := Aside0.mk ho
               have HB := Aside0.mk hb
               clear ho hb hg hat
               refine hK.out _ _ ⟨uj HB.out q0, uj HB.out ya1, uj HB.out yb1⟩ (fun hHeld => ?_)
               clear hK K
               refine vz (a' := ?_) ?_ ?_; rotate_left; (· (show Act.put _ (some 54) _ = _); (simp only [Act.put, ua, ub, uc, uh, ui]); rfl)
               refine two_ (i := 20) (j := 21) (Ni := (some 55)) (Nj := (some 4)) #[yY, yY, yY, yY, yY, yY, yY, yY, yY, yY, yY, yY, yY, yY, yY, yY, yY, yY, yY, yY, yY, xX, xX] #[yY, yY, yY, yY, yY, yY, yY, yY, yY, yY, yY, yY, yY, yY, yY, yY, yY, yY, yY, yY, xX, yY, xX] rfl rfl rfl rfl (by kernel_rfl) (by decide) (by decide) (fun K hK => ?_) (fun K hK => ?_)
               · skip
                 obtain ⟨A7, c7, e_⟩ := xn HO.out
                 subst e_
                 have HN_ := Aside0.mk (xr HO.out)
                 refine goes_ Try.func59 (by kernel_rfl) rfl #[.slice A7 (a.f1 ++ b.f1).length c7] (by rfl) rfl rfl (by (try simp only [ul, ut, uu]); first | done | rfl) ?_
                 refine (vergerref5_Of.calls 3000000 A7 c7 (a.f1 ++ b.f1) _ _ _ HN_.out.2.2 HN_.out.2.1 HOF.out).mono ?_
                 rintro y w8 ⟨v8, rfl, hv8, hb8⟩
                 obtain ⟨A8, c8, e_⟩ := xn hv8
                 subst e_
                 first
                  | (have HV8 := Aside0.mk (show Kd.V k46 46 w8 0 (fun k => wd.heap.size ≤ k ∧ k ≠ X) (.slice A8 (joinB a b).f1.length c8) (joinB a b).f1 from Kd.R_V (xi (Kd.R_bound hv8) (fun k hk => ⟨Nat.le_trans HB.out.size hk.2.1, fun e => by have h1 := blk_lt HBX.out; have h2 := hk.2.1; omega⟩))))
                  | (have HV8 := Aside0.mk (show Kd.V k46 46 w8 0 (fun k => wd.heap.size ≤ k ∧ k < w8.heap.size) (.slice A8 (joinB a b).f1.length c8) (joinB a b).f1 from Kd.R_V (xi (Kd.R_bound hv8) (fun k hk => ⟨Nat.le_trans HB.out.size hk.2.1, hk.2.2.1⟩))))
                 (try (have HBXn := Aside0.mk (vy HBX.out hb8); clear HBX; have HBX := HBXn; clear HBXn))
                 (try clear HNX)
                 have n_ := Aside0.mk (ur HB.out hb8)
                 (try clear HB)
                 have HB := n_
                 clear n_
                 (try clear k0 k1 g0 g1)
                 (try (have k0 := (uv HBX.out 0).trans rfl; have k1 := (uv HBX.out 1).trans rfl; have g0 := frozen_row HBX.out 0; have g1 := frozen_row HBX.out 1))
                 clear hv8 hb8 HO HN_
                 refine ⟨_, rfl, ?_⟩
                 refine hK.out _ _ ⟨uj HB.out q0, uj HB.out ya1, uj HB.out yb1⟩ (fun hHeld => ?_)
                 clear hK K
                 refine vz (a' := ?_) ?_ ?_; rotate_left; (· (show Act.put _ (some 55) _ = _); (simp only [Act.put, ua, ub, uc, uh, ui]); rfl)
                 refine one_ (i := 21) (N := (some 4)) #[yY, yY, yY, yY, yY, yY, yY, yY, yY, yY, yY, yY, yY, yY, yY, yY, yY, yY, yY, yY, yY, yY, xX] rfl rfl (by kernel_rfl) (by decide) (fun K hK => ?_)
                 refine box_step ?hg (N := 4) ?hd (cs := #[.int .i64 0, .slice none 0 0]) (t := 70) ?hr ?_; (case hd => rfl); (case hg => rfl); (case hr => first | (go_simp; done) | (go_simp; rfl))
                 intro X hX wB hx hbX
                 have HBX := Aside0.mk hx
                 (try (have HNX := Aside0.mk (show ∀ k, vC.ownBlock = some k → k ≠ X from fun k hk => by have := Kd.R_lt HO.out k hk; omega)))
                 (try (have HOn := Aside0.mk (Kd.R_below HO.out hbX); clear HO; have HO := HOn; clear HOn))
                 (try (have HV8n := Aside0.mk (show Kd.V k46 46 wB 0 (fun k => wd.heap.size ≤ k ∧ k ≠ X) (.slice A8 (joinB a b).f1.length c8) (joinB a b).f1 from Kd.V_mono (Kd.V_below HV8.out hbX) (fun k hk => ⟨hk.1, by have := hk.2; omega⟩)); clear HV8; have HV8 := HV8n; clear HV8n))
                 have HXS := Aside0.mk (show wd.heap.size ≤ X by rw [hX]; exact HB.out.size)
                 have n_ := Aside0.mk (ur HB.out hbX)
                 (try clear HB)
                 have HB := n_
                 clear n_
                 (try clear k0 k1 g0 g1)
                 (try (have k0 := (uv HBX.out 0).trans rfl; have k1 := (uv HBX.out 1).trans rfl; have g0 := frozen_row HBX.out 0; have g1 := frozen_row HBX.out 1))
                 clear hx hbX hX
                 refine hK.out _ _ ⟨uj HB.out q0, uj HB.out ya1, uj HB.out yb1⟩ (fun hHeld => ?_)
                 clear hK K
                 refine vz (a' := ?_) ?_ ?_; rotate_left; (· (show Act.put _ (some 4) _ = _); (simp only [Act.put, ua, ub, uc, uh, ui]); rfl)
                 refine last_ (i := 22) (N := none) #[yY, yY, yY, yY, yY, yY, yY, yY, yY, yY, yY, yY, yY, yY, yY, yY, yY, yY, yY, yY, yY, yY, yY] rfl rfl (by kernel_rfl) (by decide) (fun K hK => ?_)
                 go_simp
                 refine hK.out _ _ ?_
                 clear hK K
                 (try simp only [Act.put, ua, ub, uc, uh, ui])
                 refine done_ (by kernel_rfl) ?_
                 go_wp2_with fail
                 go_meet
                 exact ⟨X, A8, c8, rfl, ⟨blk_put (blk_put HBX.out 0 (.int .i64 (joinB a b).f0) rfl) 1 (.slice A8 (joinB a b).f1.length c8) rfl, (Kd.V_at HV8.out).2.1, Kd.F_mono (Kd.F_far (Kd.F_far (Kd.V_at HV8.out).2.2 (p := ⟨X, 0, none⟩) (fun k hk => hk.2) _) (p := ⟨X, 1, none⟩) (fun k hk => hk.2) _) (fun k hk => HOKd.out k hk.1)⟩, ⟨Nat.le_trans HBd.out.size HXS.out⟩, ⟨un (un (ur HBd.out HB.out) (Nat.le_trans HBd.out.size HXS.out)) (Nat.le_trans HBd.out.size HXS.out)⟩⟩
               · skip
                 refine box_step ?hg (N := 4) ?hd (cs := #[.int .i64 0, .slice none 0 0]) (t := 70) ?hr ?_; (case hd => rfl); (case hg => rfl); (case hr => first | (go_simp; done) | (go_simp; rfl))
                 intro X hX wB hx hbX
                 have HBX := Aside0.mk hx
                 (try (have HNX := Aside0.mk (show ∀ k, vC.ownBlock = some k → k ≠ X from fun k hk => by have := Kd.R_lt HO.out k hk; omega)))
                 (try (have HOn := Aside0.mk (Kd.R_below HO.out hbX); clear HO; have HO := HOn; clear HOn))
                 (try (have HV8n := Aside0.mk (show Kd.V k46 46 wB 0 (fun k => wd.heap.size ≤ k ∧ k ≠ X) (.slice A8 (joinB a b).f1.length c8) (joinB a b).f1 from Kd.V_mono (Kd.V_below HV8.out hbX) (fun k hk => ⟨hk.1, by have := hk.2; omega⟩)); clear HV8; have HV8 := HV8n; clear HV8n))
                 have HXS := Aside0.mk (show wd.heap.size ≤ X by rw [hX]; exact HB.out.size)
                 have n_ := Aside0.mk (ur HB.out hbX)
                 (try clear HB)
                 have HB := n_
                 clear n_
                 (try clear k0 k1 g0 g1)
                 (try (have k0 := (uv HBX.out 0).trans rfl; have k1 := (uv HBX.out 1).trans rfl; have g0 := frozen_row HBX.out 0; have g1 := frozen_row HBX.out 1))
                 clear hx hbX hX
                 refine hK.out _ _ ⟨uj HB.out q0, uj HB.out ya1, uj HB.out yb1⟩ (fun hHeld => ?_)
                 clear hK K
                 refine vz (a' := ?_) ?_ ?_; rotate_left; (· (show Act.put _ (some 4) _ = _); (simp only [Act.put, ua, ub, uc, uh, ui]); rfl)
                 refine one_ (i := 20) (N := (some 55)) #[yY, yY, yY, yY, yY, yY, yY, yY, yY, yY, yY, yY, yY, yY, yY, yY, yY, yY, yY, yY, yY, yY, xX] rfl rfl (by kernel_rfl) (by decide) (fun K hK => ?_)
                 obtain ⟨A7, c7, e_⟩ := xn HO.out
                 subst e_
                 have HN_ := Aside0.mk (xr HO.out)
                 refine goes_ Try.func59 (by kernel_rfl) rfl #[.slice A7 (a.f1 ++ b.f1).length c7] (by rfl) rfl rfl (by (try simp only [ul, ut, uu]); first | done | rfl) ?_
                 refine (vergerref5_Of.calls 3000000 A7 c7 (a.f1 ++ b.f1) _ _ _ HN_.out.2.2 HN_.out.2.1 HOF.out).mono ?_
                 rintro y w8 ⟨v8, rfl, hv8, hb8⟩
                 obtain ⟨A8, c8, e_⟩ := xn hv8
                 subst e_
                 first
                  | (have HV8 := Aside0.mk (show Kd.V k46 46 w8 0 (fun k => wd.heap.size ≤ k ∧ k ≠ X) (.slice A8 (joinB a b).f1.length c8) (joinB a b).f1 from Kd.R_V (xi (Kd.R_bound hv8) (fun k hk => ⟨Nat.le_trans HB.out.size hk.2.1, fun e => by have h1 := blk_lt HBX.out; have h2 := hk.2.1; omega⟩))))
                  | (have HV8 := Aside0.mk (show Kd.V k46 46 w8 0 (fun k => wd.heap.size ≤ k ∧ k < w8.heap.size) (.slice A8 (joinB a b).f1.length c8) (joinB a b).f1 from Kd.R_V (xi (Kd.R_bound hv8) (fun k hk => ⟨Nat.le_trans HB.out.size hk.2.1, hk.2.2.1⟩))))
                 (try (have HBXn := Aside0.mk (vy HBX.out hb8); clear HBX; have HBX := HBXn; clear HBXn))
                 (try clear HNX)
                 have n_ := Aside0.mk (ur HB.out hb8)
                 (try clear HB)
                 have HB := n_
                 clear n_
                 (try clear k0 k1 g0 g1)
                 (try (have k0 := (uv HBX.out 0).trans rfl; have k1 := (uv HBX.out 1).trans rfl; have g0 := frozen_row HBX.out 0; have g1 := frozen_row HBX.out 1))
                 clear hv8 hb8 HO HN_
                 refine ⟨_, rfl, ?_⟩
                 refine hK.out _ _ ⟨uj HB.out q0, uj HB.out ya1, uj HB.out yb1⟩ (fun hHeld => ?_)
                 clear hK K
                 refine vz (a' := ?_) ?_ ?_; rotate_left; (· (show Act.put _ (some 55) _ = _); (simp only [Act.put, ua, ub, uc, uh, ui]); rfl)
                 refine last_ (i := 22) (N := none) #[yY, yY, yY, yY, yY, yY, yY, yY, yY, yY, yY, yY, yY, yY, yY, yY, yY, yY, yY, yY, yY, yY, yY] rfl rfl (by kernel_rfl) (by decide) (fun K hK => ?_)
                 go_simp
                 refine hK.out _ _ ?_
                 clear hK K
                 (try simp only [Act.put, ua, ub, uc, uh, ui])
                 refine done_ (by kernel_rfl) ?_
                 go_wp2_with fail
                 go_meet
                 exact ⟨X, A8, c8, rfl, ⟨blk_put (blk_put HBX.out 0 (.int .i64 (joinB a b).f0) rfl) 1 (.slice A8 (joinB a b).f1.length c8) rfl, (Kd.V_at HV8.out).2.1, Kd.F_mono (Kd.F_far (Kd.F_far (Kd.V_at HV8.out).2.2 (p := ⟨X, 0, none⟩) (fun k hk => hk.2) _) (p := ⟨X, 1, none⟩) (fun k hk => hk.2) _) (fun k hk => HOKd.out k hk.1)⟩, ⟨Nat.le_trans HBd.out.size HXS.out⟩, ⟨un (un (ur HBd.out HB.out) (Nat.le_trans HBd.out.size HXS.out)) (Nat.le_trans HBd.out.size HXS.out)⟩⟩
             · skip
               refine box_step ?hg (N := 4) ?hd (cs := #[.int .i64 0, .slice none 0 0]) (t := 70) ?hr ?_; (case hd => rfl); (case hg => rfl); (case hr => first | (go_simp; done) | (go_simp; rfl))
               intro X hX wB hx hbX
               have HBX := Aside0.mk hx
               (try (have HNX := Aside0.mk (show ∀ k, vC.ownBlock = some k → k ≠ X from fun k hk => by have := Kd.R_lt HO.out k hk; omega)))
               (try (have HOn := Aside0.mk (Kd.R_below HO.out hbX); clear HO; have HO := HOn; clear HOn))
               (try (have HV8n := Aside0.mk (show Kd.V k46 46 wB 0 (fun k => wd.heap.size ≤ k ∧ k ≠ X) (.slice A8 (joinB a b).f1.length c8) (joinB a b).f1 from Kd.V_mono (Kd.V_below HV8.out hbX) (fun k hk => ⟨hk.1, by have := hk.2; omega⟩)); clear HV8; have HV8 := HV8n; clear HV8n))
               have HXS := Aside0.mk (show wd.heap.size ≤ X by rw [hX]; exact HB.out.size)
               have n_ := Aside0.mk (ur HB.out hbX)
               (try clear HB)
               have HB := n_
               clear n_
               (try clear k0 k1 g0 g1)
               (try (have k0 := (uv HBX.out 0).trans rfl; have k1 := (uv HBX.out 1).trans rfl; have g0 := frozen_row HBX.out 0; have g1 := frozen_row HBX.out 1))
               clear hx hbX hX
               refine hK.out _ _ ⟨uj HB.out q0, uj HB.out ya1, uj HB.out yb1⟩ (fun hHeld => ?_)
               clear hK K
               refine vz (a' := ?_) ?_ ?_; rotate_left; (· (show Act.put _ (some 4) _ = _); (simp only [Act.put, ua, ub, uc, uh, ui]); rfl)
               refine one_ (i := 19) (N := (some 54)) #[yY, yY, yY, yY, yY, yY, yY, yY, yY, yY, yY, yY, yY, yY, yY, yY, yY, yY, yY, yY, xX, yY, xX] rfl rfl (by kernel_rfl) (by decide) (fun K hK => ?_)
               refine xc k46 (w0 := wd) wd.heap.size (by rfl) (.tmp 44) (.tmp 53) 30 46 (.agg #[(.int .u64 0), (.int .i64 0)]) 16 rfl Try.underlying30 info46 rfl (by decide) (by omega) vC a.f1 b.f1 _ _ _ (fun _ => True) (fun _ => False) rfl rfl HO.out (xk HCB.out HB.out) (fun _ _ h => h) (fun _ h => h.elim) (fun _ _ => trivial) HB.out HB.out.size (by (try simp only [List.length_nil, List.length_append]); omega) ?_
               intro vD wC ho hb hg hat
               (try rw [List.nil_append] at ho)
               (try (have HBXn := Aside0.mk ((hg.block X (blk_lt HBX.out) (fun e => HNX.out X e.symm rfl)).trans HBX.out); have HNXn := Aside0.mk (show ∀ k, vD.ownBlock = some k → k ≠ X from fun k hk => Or.elim hat (fun h => HNX.out k (by rw [← h]; exact hk)) (fun h => by obtain ⟨b', h1, h2⟩ := h; rw [h1] at hk; injection hk with hk; have := blk_lt HBX.out; omega)); clear HBX HNX; have HBX := HBXn; have HNX := HNXn; clear HBXn HNXn))
               clear HO HB
               obtain ⟨vC, hvC⟩ : ∃ vC, vC = vD := ⟨_, rfl⟩
               subst hvC
               have HO := Aside0.mk ho
               have HB := Aside0.mk hb
               clear ho hb hg hat
               refine hK.out _ _ ⟨uj HB.out q0, uj HB.out ya1, uj HB.out yb1⟩ (fun hHeld => ?_)
               clear hK K
               refine vz (a' := ?_) ?_ ?_; rotate_left; (· (show Act.put _ (some 54) _ = _); (simp only [Act.put, ua, ub, uc, uh, ui]); rfl)
               refine one_ (i := 20) (N := (some 55)) #[yY, yY, yY, yY, yY, yY, yY, yY, yY, yY, yY, yY, yY, yY, yY, yY, yY, yY, yY, yY, yY, yY, xX] rfl rfl (by kernel_rfl) (by decide) (fun K hK => ?_)
               obtain ⟨A7, c7, e_⟩ := xn HO.out
               subst e_
               have HN_ := Aside0.mk (xr HO.out)
               refine goes_ Try.func59 (by kernel_rfl) rfl #[.slice A7 (a.f1 ++ b.f1).length c7] (by rfl) rfl rfl (by (try simp only [ul, ut, uu]); first | done | rfl) ?_
               refine (vergerref5_Of.calls 3000000 A7 c7 (a.f1 ++ b.f1) _ _ _ HN_.out.2.2 HN_.out.2.1 HOF.out).mono ?_
               rintro y w8 ⟨v8, rfl, hv8, hb8⟩
               obtain ⟨A8, c8, e_⟩ := xn hv8
               subst e_
               first
                | (have HV8 := Aside0.mk (show Kd.V k46 46 w8 0 (fun k => wd.heap.size ≤ k ∧ k ≠ X) (.slice A8 (joinB a b).f1.length c8) (joinB a b).f1 from Kd.R_V (xi (Kd.R_bound hv8) (fun k hk => ⟨Nat.le_trans HB.out.size hk.2.1, fun e => by have h1 := blk_lt HBX.out; have h2 := hk.2.1; omega⟩))))
                | (have HV8 := Aside0.mk (show Kd.V k46 46 w8 0 (fun k => wd.heap.size ≤ k ∧ k < w8.heap.size) (.slice A8 (joinB a b).f1.length c8) (joinB a b).f1 from Kd.R_V (xi (Kd.R_bound hv8) (fun k hk => ⟨Nat.le_trans HB.out.size hk.2.1, hk.2.2.1⟩))))
               (try (have HBXn := Aside0.mk (vy HBX.out hb8); clear HBX; have HBX := HBXn; clear HBXn))
               (try clear HNX)
               have n_ := Aside0.mk (ur HB.out hb8)
               (try clear HB)
               have HB := n_
               clear n_
               (try clear k0 k1 g0 g1)
               (try (have k0 := (uv HBX.out 0).trans rfl; have k1 := (uv HBX.out 1).trans rfl; have g0 := frozen_row HBX.out 0; have g1 := frozen_row HBX.out 1))
               clear hv8 hb8 HO HN_
               refine ⟨_, rfl, ?_⟩
               refine hK.out _ _ ⟨uj HB.out q0, uj HB.out ya1, uj HB.out yb1⟩ (fun hHeld => ?_)
               clear hK K
               refine vz (a' := ?_) ?_ ?_; rotate_left; (· (show Act.put _ (some 55) _ = _); (simp only [Act.put, ua, ub, uc, uh, ui]); rfl)
               refine last_ (i := 22) (N := none) #[yY, yY, yY, yY, yY, yY, yY, yY, yY, yY, yY, yY, yY, yY, yY, yY, yY, yY, yY, yY, yY, yY, yY] rfl rfl (by kernel_rfl) (by decide) (fun K hK => ?_)
               go_simp
               refine hK.out _ _ ?_
               clear hK K
               (try simp only [Act.put, ua, ub, uc, uh, ui])
               refine done_ (by kernel_rfl) ?_
               go_wp2_with fail
               go_meet
               exact ⟨X, A8, c8, rfl, ⟨blk_put (blk_put HBX.out 0 (.int .i64 (joinB a b).f0) rfl) 1 (.slice A8 (joinB a b).f1.length c8) rfl, (Kd.V_at HV8.out).2.1, Kd.F_mono (Kd.F_far (Kd.F_far (Kd.V_at HV8.out).2.2 (p := ⟨X, 0, none⟩) (fun k hk => hk.2) _) (p := ⟨X, 1, none⟩) (fun k hk => hk.2) _) (fun k hk => HOKd.out k hk.1)⟩, ⟨Nat.le_trans HBd.out.size HXS.out⟩, ⟨un (un (ur HBd.out HB.out) (Nat.le_trans HBd.out.size HXS.out)) (Nat.le_trans HBd.out.size HXS.out)⟩⟩
           · skip
             refine box_step ?hg (N := 4) ?hd (cs := #[.int .i64 0, .slice none 0 0]) (t := 70) ?hr ?_; (case hd => rfl); (case hg => rfl); (case hr => first | (go_simp; done) | (go_simp; rfl))
             intro X hX wB hx hbX
             have HBX := Aside0.mk hx
             (try (have HNX := Aside0.mk (show ∀ k, vC.ownBlock = some k → k ≠ X from fun k hk => by have := Kd.R_lt HO.out k hk; omega)))
             (try (have HOn := Aside0.mk (Kd.R_below HO.out hbX); clear HO; have HO := HOn; clear HOn))
             (try (have HV8n := Aside0.mk (show Kd.V k46 46 wB 0 (fun k => wd.heap.size ≤ k ∧ k ≠ X) (.slice A8 (joinB a b).f1.length c8) (joinB a b).f1 from Kd.V_mono (Kd.V_below HV8.out hbX) (fun k hk => ⟨hk.1, by have := hk.2; omega⟩)); clear HV8; have HV8 := HV8n; clear HV8n))
             have HXS := Aside0.mk (show wd.heap.size ≤ X by rw [hX]; exact HB.out.size)
             have n_ := Aside0.mk (ur HB.out hbX)
             (try clear HB)
             have HB := n_
             clear n_
             (try clear k0 k1 g0 g1)
             (try (have k0 := (uv HBX.out 0).trans rfl; have k1 := (uv HBX.out 1).trans rfl; have g0 := frozen_row HBX.out 0; have g1 := frozen_row HBX.out 1))
             clear hx hbX hX
             refine hK.out _ _ ⟨uj HB.out q0, uj HB.out ya1, uj HB.out yb1⟩ (fun hHeld => ?_)
             clear hK K
             refine vz (a' := ?_) ?_ ?_; rotate_left; (· (show Act.put _ (some 4) _ = _); (simp only [Act.put, ua, ub, uc, uh, ui]); rfl)
             refine one_ (i := 9) (N := (some 44)) #[yY, yY, yY, yY, yY, yY, yY, yY, yY, yY, yY, yY, yY, yY, yY, yY, yY, yY, yY, xX, xX, yY, xX] rfl rfl (by kernel_rfl) (by decide) (fun K hK => ?_)
             refine xc k46 (w0 := wd) wd.heap.size (by rfl) (.tmp 35) (.tmp 43) 30 46 (.agg #[(.int .u64 0), (.int .i64 0)]) 16 rfl Try.underlying30 info46 rfl (by decide) (by omega) vC ([] : List E) a.f1 _ _ _ (fun _ => True) (fun _ => False) rfl rfl HO.out (xk HCA.out HB.out) (fun _ _ h => h) (fun _ h => h.elim) (fun _ _ => trivial) HB.out HB.out.size (by (try simp only [List.length_nil, List.length_append]); omega) ?_
             intro vD wC ho hb hg hat
             (try rw [List.nil_append] at ho)
             (try (have HBXn := Aside0.mk ((hg.block X (blk_lt HBX.out) (fun e => HNX.out X e.symm rfl)).trans HBX.out); have HNXn := Aside0.mk (show ∀ k, vD.ownBlock = some k → k ≠ X from fun k hk => Or.elim hat (fun h => HNX.out k (by rw [← h]; exact hk)) (fun h => by obtain ⟨b', h1, h2⟩ := h; rw [h1] at hk; injection hk with hk; have := blk_lt HBX.out; omega)); clear HBX HNX; have HBX := HBXn; have HNX := HNXn; clear HBXn HNXn))
             clear HO HB
             obtain ⟨vC, hvC⟩ : ∃ vC, vC = vD := ⟨_, rfl⟩
             subst hvC
             have HO := Aside0.mk ho
             have HB := Aside0.mk hb
             clear ho hb hg hat
             refine hK.out _ _ ⟨uj HB.out q0, uj HB.out ya1, uj HB.out yb1⟩ (fun hHeld => ?_)
             clear hK K
             refine vz (a' := ?_) ?_ ?_; rotate_left; (· (show Act.put _ (some 44) _ = _); (simp only [Act.put, ua, ub, uc, uh, ui]); rfl)
             refine one_ (i := 19) (N := (some 54)) #[yY, yY, yY, yY, yY, yY, yY, yY, yY, yY, yY, yY, yY, yY, yY, yY, yY, yY, yY, yY, xX, yY, xX] rfl rfl (by kernel_rfl) (by decide) (fun K hK => ?_)
             refine xc k46 (w0 := wd) wd.heap.size (by rfl) (.tmp 44) (.tmp 53) 30 46 (.agg #[(.int .u64 0), (.int .i64 0)]) 16 rfl Try.underlying30 info46 rfl (by decide) (by omega) vC a.f1 b.f1 _ _ _ (fun _ => True) (fun _ => False) rfl rfl HO.out (xk HCB.out HB.out) (fun _ _ h => h) (fun _ h => h.elim) (fun _ _ => trivial) HB.out HB.out.size (by (try simp only [List.length_nil, List.length_append]); omega) ?_
             intro vD wC ho hb hg hat
             (try rw [List.nil_append] at ho)
             (try (have HBXn := Aside0.mk ((hg.block X (blk_lt HBX.out) (fun e => HNX.out X e.symm rfl)).trans HBX.out); have HNXn := Aside0.mk (show ∀ k, vD.ownBlock = some k → k ≠ X from fun k hk => Or.elim hat (fun h => HNX.out k (by rw [← h]; exact hk)) (fun h => by obtain ⟨b', h1, h2⟩ := h; rw [h1] at hk; injection hk with hk; have := blk_lt HBX.out; omega)); clear HBX HNX; have HBX := HBXn; have HNX := HNXn; clear HBXn HNXn))
             clear HO HB
             obtain ⟨vC, hvC⟩ : ∃ vC, vC = vD := ⟨_, rfl⟩
             subst hvC
             have HO := Aside0.mk ho
             have HB := Aside0.mk hb
             clear ho hb hg hat
             refine hK.out _ _ ⟨uj HB.out q0, uj HB.out ya1, uj HB.out yb1⟩ (fun hHeld => ?_)
             clear hK K
             refine vz (a' := ?_) ?_ ?_; rotate_left; (· (show Act.put _ (some 54) _ = _); (simp only [Act.put, ua, ub, uc, uh, ui]); rfl)
             refine one_ (i := 20) (N := (some 55)) #[yY, yY, yY, yY, yY, yY, yY, yY, yY, yY, yY, yY, yY, yY, yY, yY, yY, yY, yY, yY, yY, yY, xX] rfl rfl (by kernel_rfl) (by decide) (fun K hK => ?_)
             obtain ⟨A7, c7, e_⟩ := xn HO.out
             subst e_
             have HN_ := Aside0.mk (xr HO.out)
             refine goes_ Try.func59 (by kernel_rfl) rfl #[.slice A7 (a.f1 ++ b.f1).length c7] (by rfl) rfl rfl (by (try simp only [ul, ut, uu]); first | done | rfl) ?_
             refine (vergerref5_Of.calls 3000000 A7 c7 (a.f1 ++ b.f1) _ _ _ HN_.out.2.2 HN_.out.2.1 HOF.out).mono ?_
             rintro y w8 ⟨v8, rfl, hv8, hb8⟩
             obtain ⟨A8, c8, e_⟩ := xn hv8
             subst e_
             first
              | (have HV8 := Aside0.mk (show Kd.V k46 46 w8 0 (fun k => wd.heap.size ≤ k ∧ k ≠ X) (.slice A8 (joinB a b).f1.length c8) (joinB a b).f1 from Kd.R_V (xi (Kd.R_bound hv8) (fun k hk => ⟨Nat.le_trans HB.out.size hk.2.1, fun e => by have h1 := blk_lt HBX.out; have h2 := hk.2.1; omega⟩))))
              | (have HV8 := Aside0.mk (show Kd.V k46 46 w8 0 (fun k => wd.heap.size ≤ k ∧ k < w8.heap.size) (.slice A8 (joinB a b).f1.length c8) (joinB a b).f1 from Kd.R_V (xi (Kd.R_bound hv8) (fun k hk => ⟨Nat.le_trans HB.out.size hk.2.1, hk.2.2.1⟩))))
             (try (have HBXn := Aside0.mk (vy HBX.out hb8); clear HBX; have HBX := HBXn; clear HBXn))
             (try clear HNX)
             have n_ := Aside0.mk (ur HB.out hb8)
             (try clear HB)
             have HB := n_
             clear n_
             (try clear k0 k1 g0 g1)
             (try (have k0 := (uv HBX.out 0).trans rfl; have k1 := (uv HBX.out 1).trans rfl; have g0 := frozen_row HBX.out 0; have g1 := frozen_row HBX.out 1))
             clear hv8 hb8 HO HN_
             refine ⟨_, rfl, ?_⟩
             refine hK.out _ _ ⟨uj HB.out q0, uj HB.out ya1, uj HB.out yb1⟩ (fun hHeld => ?_)
             clear hK K
             refine vz (a' := ?_) ?_ ?_; rotate_left; (· (show Act.put _ (some 55) _ = _); (simp only [Act.put, ua, ub, uc, uh, ui]); rfl)
             refine last_ (i := 22) (N := none) #[yY, yY, yY, yY, yY, yY, yY, yY, yY, yY, yY, yY, yY, yY, yY, yY, yY, yY, yY, yY, yY, yY, yY] rfl rfl (by kernel_rfl) (by decide) (fun K hK => ?_)
             go_simp
             refine hK.out _ _ ?_
             clear hK K
             (try simp only [Act.put, ua, ub, uc, uh, ui])
             refine done_ (by kernel_rfl) ?_
             go_wp2_with fail
             go_meet
             exact ⟨X, A8, c8, rfl, ⟨blk_put (blk_put HBX.out 0 (.int .i64 (joinB a b).f0) rfl) 1 (.slice A8 (joinB a b).f1.length c8) rfl, (Kd.V_at HV8.out).2.1, Kd.F_mono (Kd.F_far (Kd.F_far (Kd.V_at HV8.out).2.2 (p := ⟨X, 0, none⟩) (fun k hk => hk.2) _) (p := ⟨X, 1, none⟩) (fun k hk => hk.2) _) (fun k hk => HOKd.out k hk.1)⟩, ⟨Nat.le_trans HBd.out.size HXS.out⟩, ⟨un (un (ur HBd.out HB.out) (Nat.le_trans HBd.out.size HXS.out)) (Nat.le_trans HBd.out.size HXS.out)⟩⟩
         · skip
           refine box_step ?hg (N := 4) ?hd (cs := #[.int .i64 0, .slice none 0 0]) (t := 70) ?hr ?_; (case hd => rfl); (case hg => rfl); (case hr => first | (go_simp; done) | (go_simp; rfl))
           intro X hX wB hx hbX
           have HBX := Aside0.mk hx
           (try (have HNX := Aside0.mk (show ∀ k, vC.ownBlock = some k → k ≠ X from fun k hk => by have := Kd.R_lt HO.out k hk; omega)))
           (try (have HOn := Aside0.mk (Kd.R_below HO.out hbX); clear HO; have HO := HOn; clear HOn))
           (try (have HV8n := Aside0.mk (show Kd.V k46 46 wB 0 (fun k => wd.heap.size ≤ k ∧ k ≠ X) (.slice A8 (joinB a b).f1.length c8) (joinB a b).f1 from Kd.V_mono (Kd.V_below HV8.out hbX) (fun k hk => ⟨hk.1, by have := hk.2; omega⟩)); clear HV8; have HV8 := HV8n; clear HV8n))
           have HXS := Aside0.mk (show wd.heap.size ≤ X by rw [hX]; exact HB.out.size)
           have n_ := Aside0.mk (ur HB.out hbX)
           (try clear HB)
           have HB := n_
           clear n_
           (try clear k0 k1 g0 g1)
           (try (have k0 := (uv HBX.out 0).trans rfl; have k1 := (uv HBX.out 1).trans rfl; have g0 := frozen_row HBX.out 0; have g1 := frozen_row HBX.out 1))
           clear hx hbX hX
           refine hK.out _ _ ⟨uj HB.out q0, uj HB.out ya1, uj HB.out yb1⟩ (fun hHeld => ?_)
           clear hK K
           refine vz (a' := ?_) ?_ ?_; rotate_left; (· (show Act.put _ (some 4) _ = _); (simp only [Act.put, ua, ub, uc, uh, ui]); rfl)
           refine one_ (i := 0) (N := (some 35)) #[yY, yY, yY, yY, yY, yY, yY, yY, yY, xX, yY, yY, yY, yY, yY, yY, yY, yY, yY, xX, xX, yY, xX] rfl rfl (by kernel_rfl) (by decide) (fun K hK => ?_)
           refine Kd.R_lit_step k46 _ 46 ?hg (N := 35) ?hd (xs := ([] : List E)) (inner := []) (ok := fun _ => True) (okp := fun _ => True) ?hr ?hp (fun _ hk => hk) trivial (Below.refl _ _) (vn _) (by simp) ?_; (case hd => rfl); (case hg => rfl); (case hr => first | (go_simp; done) | (go_simp; rfl)); (case hp => exact (Reps.none _ _))
           intro vC wC ho6 hb6 hg6 hnew6
           (try (have HNX := Aside0.mk (show ∀ k, vC.ownBlock = some k → k ≠ X from fun k hk => by obtain ⟨b', h1, h2⟩ := hnew6; rw [h1] at hk; injection hk with hk; have := blk_lt HBX.out; omega)))
           (try (have HBXn := Aside0.mk (vy HBX.out hb6); clear HBX; have HBX := HBXn; clear HBXn))
           have n_ := Aside0.mk (Kd.R_lower ho6 HB.out.size)
           (try clear HO)
           have HO := n_
           clear n_
           have n_ := Aside0.mk (ur HB.out hb6)
           (try clear HB)
           have HB := n_
           clear n_
           clear ho6 hb6 hg6 hnew6
           refine hK.out _ _ ⟨uj HB.out q0, uj HB.out ya1, uj HB.out yb1⟩ (fun hHeld => ?_)
           clear hK K
           refine vz (a' := ?_) ?_ ?_; rotate_left; (· (show Act.put _ (some 35) _ = _); (simp only [Act.put, ua, ub, uc, uh, ui]); rfl)
           refine one_ (i := 9) (N := (some 44)) #[yY, yY, yY, yY, yY, yY, yY, yY, yY, yY, yY, yY, yY, yY, yY, yY, yY, yY, yY, xX, xX, yY, xX] rfl rfl (by kernel_rfl) (by decide) (fun K hK => ?_)
           refine xc k46 (w0 := wd) wd.heap.size (by rfl) (.tmp 35) (.tmp 43) 30 46 (.agg #[(.int .u64 0), (.int .i64 0)]) 16 rfl Try.underlying30 info46 rfl (by decide) (by omega) vC ([] : List E) a.f1 _ _ _ (fun _ => True) (fun _ => False) rfl rfl HO.out (xk HCA.out HB.out) (fun _ _ h => h) (fun _ h => h.elim) (fun _ _ => trivial) HB.out HB.out.size (by (try simp only [List.length_nil, List.length_append]); omega) ?_
           intro vD wC ho hb hg hat
           (try rw [List.nil_append] at ho)
           (try (have HBXn := Aside0.mk ((hg.block X (blk_lt HBX.out) (fun e => HNX.out X e.symm rfl)).trans HBX.out); have HNXn := Aside0.mk (show ∀ k, vD.ownBlock = some k → k ≠ X from fun k hk => Or.elim hat (fun h => HNX.out k (by rw [← h]; exact hk)) (fun h => by obtain ⟨b', h1, h2⟩ := h; rw [h1] at hk; injection hk with hk; have := blk_lt HBX.out; omega)); clear HBX HNX; have HBX := HBXn; have HNX := HNXn; clear HBXn HNXn))
           clear HO HB
           obtain ⟨vC, hvC⟩ : ∃ vC, vC = vD := ⟨_, rfl⟩
           subst hvC
           have HO := Aside0.mk ho
           have HB := Aside0.mk hb
           clear ho hb hg hat
           refine hK.out _ _ ⟨uj HB.out q0, uj HB.out ya1, uj HB.out yb1⟩ (fun hHeld => ?_)
           clear hK K
           refine vz (a' := ?_) ?_ ?_; rotate_left; (· (show Act.put _ (some 44) _ = _); (simp only [Act.put, ua, ub, uc, uh, ui]); rfl)
           refine one_ (i := 19) (N := (some 54)) #[yY, yY, yY, yY, yY, yY, yY, yY, yY, yY, yY, yY, yY, yY, yY, yY, yY, yY, yY, yY, xX, yY, xX] rfl rfl (by kernel_rfl) (by decide) (fun K hK => ?_)
           refine xc k46 (w0 := wd) wd.heap.size (by rfl) (.tmp 44) (.tmp 53) 30 46 (.agg #[(.int .u64 0), (.int .i64 0)]) 16 rfl Try.underlying30 info46 rfl (by decide) (by omega) vC a.f1 b.f1 _ _ _ (fun _ => True) (fun _ => False) rfl rfl HO.out (xk HCB.out HB.out) (fun _ _ h => h) (fun _ h => h.elim) (fun _ _ => trivial) HB.out HB.out.size (by (try simp only [List.length_nil, List.length_append]); omega) ?_
           intro vD wC ho hb hg hat
           (try rw [List.nil_append] at ho)
           (try (have HBXn := Aside0.mk ((hg.block X (blk_lt HBX.out) (fun e => HNX.out X e.symm rfl)).trans HBX.out); have HNXn := Aside0.mk (show ∀ k, vD.ownBlock = some k → k ≠ X from fun k hk => Or.elim hat (fun h => HNX.out k (by rw [← h]; exact hk)) (fun h => by obtain ⟨b', h1, h2⟩ := h; rw [h1] at hk; injection hk with hk; have := blk_lt HBX.out; omega)); clear HBX HNX; have HBX := HBXn; have HNX := HNXn; clear HBXn HNXn))
           clear HO HB
           obtain ⟨vC, hvC⟩ : ∃ vC, vC = vD := ⟨_, rfl⟩
           subst hvC
           have HO := Aside0.mk ho
           have HB := Aside0.mk hb
           clear ho hb hg hat
           refine hK.out _ _ ⟨uj HB.out q0, uj HB.out ya1, uj HB.out yb1⟩ (fun hHeld => ?_)
           clear hK K
           refine vz (a' := ?_) ?_ ?_; rotate_left; (· (show Act.put _ (some 54) _ = _); (simp only [Act.put, ua, ub, uc, uh, ui]); rfl)
           refine one_ (i := 20) (N := (some 55)) #[yY, yY, yY, yY, yY, yY, yY, yY, yY, yY, yY, yY, yY, yY, yY, yY, yY, yY, yY, yY, yY, yY, xX] rfl rfl (by kernel_rfl) (by decide) (fun K hK => ?_)
           obtain ⟨A7, c7, e_⟩ := xn HO.out
           subst e_
           have HN_ := Aside0.mk (xr HO.out)
           refine goes_ Try.func59 (by kernel_rfl) rfl #[.slice A7 (a.f1 ++ b.f1).length c7] (by rfl) rfl rfl (by (try simp only [ul, ut, uu]); first | done | rfl) ?_
           refine (vergerref5_Of.calls 3000000 A7 c7 (a.f1 ++ b.f1) _ _ _ HN_.out.2.2 HN_.out.2.1 HOF.out).mono ?_
           rintro y w8 ⟨v8, rfl, hv8, hb8⟩
           obtain ⟨A8, c8, e_⟩ := xn hv8
           subst e_
           first
            | (have HV8 := Aside0.mk (show Kd.V k46 46 w8 0 (fun k => wd.heap.size ≤ k ∧ k ≠ X) (.slice A8 (joinB a b).f1.length c8) (joinB a b).f1 from Kd.R_V (xi (Kd.R_bound hv8) (fun k hk => ⟨Nat.le_trans HB.out.size hk.2.1, fun e => by have h1 := blk_lt HBX.out; have h2 := hk.2.1; omega⟩))))
            | (have HV8 := Aside0.mk (show Kd.V k46 46 w8 0 (fun k => wd.heap.size ≤ k ∧ k < w8.heap.size) (.slice A8 (joinB a b).f1.length c8) (joinB a b).f1 from Kd.R_V (xi (Kd.R_bound hv8) (fun k hk => ⟨Nat.le_trans HB.out.size hk.2.1, hk.2.2.1⟩))))
           (try (have HBXn := Aside0.mk (vy HBX.out hb8); clear HBX; have HBX := HBXn; clear HBXn))
           (try clear HNX)
           have n_ := Aside0.mk (ur HB.out hb8)
           (try clear HB)
           have HB := n_
           clear n_
           (try clear k0 k1 g0 g1)
           (try (have k0 := (uv HBX.out 0).trans rfl; have k1 := (uv HBX.out 1).trans rfl; have g0 := frozen_row HBX.out 0; have g1 := frozen_row HBX.out 1))
           clear hv8 hb8 HO HN_
           refine ⟨_, rfl, ?_⟩
           refine hK.out _ _ ⟨uj HB.out q0, uj HB.out ya1, uj HB.out yb1⟩ (fun hHeld => ?_)
           clear hK K
           refine vz (a' := ?_) ?_ ?_; rotate_left; (· (show Act.put _ (some 55) _ = _); (simp only [Act.put, ua, ub, uc, uh, ui]); rfl)
           refine last_ (i := 22) (N := none) #[yY, yY, yY, yY, yY, yY, yY, yY, yY, yY, yY, yY, yY, yY, yY, yY, yY, yY, yY, yY, yY, yY, yY] rfl rfl (by kernel_rfl) (by decide) (fun K hK => ?_)
           go_simp
           refine hK.out _ _ ?_
           clear hK K
           (try simp only [Act.put, ua, ub, uc, uh, ui])
           refine done_ (by kernel_rfl) ?_
           go_wp2_with fail
           go_meet
           exact ⟨X, A8, c8, rfl, ⟨blk_put (blk_put HBX.out 0 (.int .i64 (joinB a b).f0) rfl) 1 (.slice A8 (joinB a b).f1.length c8) rfl, (Kd.V_at HV8.out).2.1, Kd.F_mono (Kd.F_far (Kd.F_far (Kd.V_at HV8.out).2.2 (p := ⟨X, 0, none⟩) (fun k hk => hk.2) _) (p := ⟨X, 1, none⟩) (fun k hk => hk.2) _) (fun k hk => HOKd.out k hk.1)⟩, ⟨Nat.le_trans HBd.out.size HXS.out⟩, ⟨un (un (ur HBd.out HB.out) (Nat.le_trans HBd.out.size HXS.out)) (Nat.le_trans HBd.out.size HXS.out)⟩⟩
        case rest =>
         obtain ⟨X, Aj, cj, e4_, HJ, HXW, HBy⟩ := hcut
         subst e4_
         rename World => wy
         have HP8 := Aside0.mk (HSi.out.below HBy.out)
         replace q0 := HP8.out.cell0
         have HBX8 := Aside0.mk HJ.out.1
         obtain ⟨T, D, AD, cD, hT, hD, hct, hcf, hf1, hf2, hcD⟩ := rcuts2 (rs := rs) (i := i) HP8.out.row (by omega)
         have HCU := Aside0.mk (And.intro hf1 hf2)
         have HTQ := Aside0.mk (And.intro hT hD)
         have hTl : T.length ≤ 900 := by rw [hT, uq]; omega
         have hDl : D.length ≤ 900 := by rw [hD, uo]; omega
         have HOK := Aside0.mk (show ∀ k, wy.heap.size ≤ k → OK k from fun k hk => HOK0.out k (by have := HWO.out; have := HBy.out.size; omega))
         obtain ⟨RF, hRF⟩ : ∃ RF, RF = T ++ D := ⟨_, rfl⟩
         have HRF := Aside0.mk hRF
         have hXq : ¬ X = q := by have := HXW.out; have := HSi.out.lt; omega
         have hqX : ¬ q = X := fun e => hXq e.symm
         clear hT hD hf1 hf2 hRF ya1 yb1
         go_wp2_with fail
         have HB := Aside0.mk (below_drew (Below.refl wy.heap.size wy))
         refine start_ (n := 17) (S := fun w' => w'.cell? ⟨q, 0, none⟩ = some (.slice (some ad) rs.length c) ∧ True) (ds := []) #[xX, xX, xX, xX, xX, xX, xX, xX, xX, xX, xX, xX, xX, xX, xX, xX, xX] (by kernel_rfl) rfl rfl ⟨q0, trivial⟩ (fun hHeld => ?_)
         refine pU (i := 1) (N := (some 57)) (bA 17 2) (by kernel_rfl) rfl ?_
         refine pU (i := 2) (N := (some 58)) (bA 17 6) (by kernel_rfl) rfl ?_
         refine pU (i := 3) (N := (some 59)) (bA 17 14) (by kernel_rfl) rfl ?_
         refine pU (i := 5) (N := (some 61)) (bA 17 46) (by kernel_rfl) rfl ?_
         refine pU (i := 8) (N := (some 64)) (bA 17 302) (by kernel_rfl) rfl ?_
         refine pU (i := 9) (N := (some 65)) (bA 17 814) (by kernel_rfl) rfl ?_
         refine pU (i := 10) (N := (some 66)) (bA 17 1838) (by kernel_rfl) rfl ?_
         refine pU (i := 12) (N := (some 68)) (bA 17 5934) (by kernel_rfl) rfl ?_
         refine pU (i := 13) (N := (some 69)) (bA 17 14126) (by kernel_rfl) rfl ?_
         refine tU (i := 4) (N := (some 60)) (bA 17 14142) (by kernel_rfl) rfl hHeld (by (constructor; (rintro w' ⟨s0, s1⟩; go_simp; (with_reducible rfl)); (simp only [Act.put, ua, ub, uc, uh, ui]; rfl))) ?_
         refine pU (i := 6) (N := (some 62)) (bA 17 14206) (by kernel_rfl) rfl ?_
         refine tU (i := 11) (N := (some 67)) (bA 17 16254) (by kernel_rfl) rfl hHeld (by (constructor; (rintro w' ⟨s0, s1⟩; go_simp; (with_reducible rfl)); (simp only [Act.put, ua, ub, uc, uh, ui]; rfl))) ?_
         refine pU (i := 14) (N := (some 70)) (bA 17 32638) (by kernel_rfl) rfl ?_
         refine one_ (i := 0) (N := (some 56)) #[yY, yY, yY, yY, yY, yY, yY, xX, yY, yY, yY, yY, yY, yY, yY, xX, xX] rfl rfl (by kernel_rfl) (by decide) (fun K hK => ?_)
         refine Kd.N_lit_step k70 _ 70 ?hg (N' := 56) ?hd (xs := ([] : List RBk)) (inner := []) (ok := OK) (okp := fun _ => False) ?hr ?hp (fun _ hk => hk.elim) ?hf (Below.refl _ _) (vn _) (by simp) ?_; (case hd => rfl); (case hg => rfl); (case hr => first | (go_simp; done) | (go_simp; rfl)); (case hp => exact (Reps.none _ _)); (case hf => exact HOK.out _ HB.out.size)
         intro vC wC ho6 hb6 hg6 hnew6
         (try (have HLn := Aside0.mk (show Kd.F k70 wC (fun k => OK k ∧ some k ≠ vC.ownBlock) _ _ _ from Kd.F_mono (xm (Kd.F_bound HL.out) hb6) (fun k hk => ⟨hk.1, fun e => by obtain ⟨b', h1, h2⟩ := hnew6; rw [h1] at e; injection e with e; have := hk.2; omega⟩)); clear HL; have HL := HLn; clear HLn))
         have n_ := Aside0.mk (Kd.N_lower ho6 HB.out.size)
         (try clear HO)
         have HO := n_
         clear n_
         have n_ := Aside0.mk (ur HB.out hb6)
         (try clear HB)
         have HB := n_
         clear n_
         clear ho6 hb6 hg6 hnew6
         refine hK.out _ _ ⟨uj HB.out q0, trivial⟩ (fun hHeld => ?_)
         clear hK K
         refine vz (a' := ?_) ?_ ?_; rotate_left; (· (show Act.put _ (some 56) _ = _); (simp only [Act.put, ua, ub, uc, uh, ui]); rfl)
         refine one_ (i := 7) (N := (some 63)) #[yY, yY, yY, yY, yY, yY, yY, yY, yY, yY, yY, yY, yY, yY, yY, xX, xX] rfl rfl (by kernel_rfl) (by decide) (fun K hK => ?_)
         refine vx k70 (w0 := wy) wy.heap.size (by rfl) (.tmp 56) (.tmp 62) 27 70 (.agg #[.int .i64 0, .slice none 0 0]) 32 rfl Try.underlying27 infoRB rfl (by decide) (by decide) _ ([] : List RBk) T _ _ _ OK (fun k => OK k ∧ k < wy.heap.size) rfl rfl HO.out (xm (Kd.F_bound HCU.out.1) HB.out) (fun k hk => ⟨hk.1, fun e => by have h1 := Kd.N_base HO.out k e.symm; have := hk.2; omega⟩) (fun k hk => HOK.out k (Nat.le_trans HB.out.size hk)) HB.out HB.out.size (by (try simp only [List.length_nil, List.length_append, List.length_cons]); omega) ?_
         intro vD wC ho hb hg hat
         (try rw [List.nil_append] at ho)
         (try (have HLn := Aside0.mk (Kd.F_after HL.out hg hat); clear HL; have HL := HLn; clear HLn))
         clear HO HB
         obtain ⟨vC, hvC⟩ : ∃ vC, vC = vD := ⟨_, rfl⟩
         subst hvC
         have HO := Aside0.mk ho
         have HB := Aside0.mk hb
         clear ho hb hg hat
         refine hK.out _ _ ⟨uj HB.out q0, trivial⟩ (fun hHeld => ?_)
         clear hK K
         refine vz (a' := ?_) ?_ ?_; rotate_left; (· (show Act.put _ (some 63) _ = _); (simp only [Act.put, ua, ub, uc, uh, ui]); rfl)
         refine one_ (i := 15) (N := (some 71)) #[yY, yY, yY, yY, yY, yY, yY, yY, yY, yY, yY, yY, yY, yY, yY, yY, xX] rfl rfl (by kernel_rfl) (by decide) (fun K hK => ?_)
         refine vx k70 (w0 := wy) wy.heap.size (by rfl) (.tmp 63) (.tmp 70) 27 70 (.agg #[.int .i64 0, .slice none 0 0]) 32 rfl Try.underlying27 infoRB rfl (by decide) (by decide) _ T D _ _ _ OK (fun k => OK k ∧ k < wy.heap.size) rfl rfl HO.out (xm (Kd.F_bound HCU.out.2) HB.out) (fun k hk => ⟨hk.1, fun e => by have h1 := Kd.N_base HO.out k e.symm; have := hk.2; omega⟩) (fun k hk => HOK.out k (Nat.le_trans HB.out.size hk)) HB.out HB.out.size (by (try simp only [List.length_nil, List.length_append, List.length_cons]); omega) ?_
         intro vD wC ho hb hg hat
         (try rw [List.nil_append] at ho)
         (try (have HLn := Aside0.mk (Kd.F_after HL.out hg hat); clear HL; have HL := HLn; clear HLn))
         clear HO HB
         obtain ⟨vC, hvC⟩ : ∃ vC, vC = vD := ⟨_, rfl⟩
         subst hvC
         have HO := Aside0.mk ho
         have HB := Aside0.mk hb
         clear ho hb hg hat
         have HO_ := HO.out
         rw [← HRF.out] at HO_
         obtain ⟨AF, cF, e_⟩ := Kd.N_slice HO_
         subst e_
         clear HO
         have HO := Aside0.mk HO_
         clear HO_
         have hp_ := HP8.out.below HB.out
         have k0 := hp_.cell0
         have g0 := hp_.froz 0
         have HPC := Aside0.mk hp_
         have kx0 := (uv (vy HBX8.out HB.out) 0).trans rfl
         have kx1 := (uv (vy HBX8.out HB.out) 1).trans rfl
         clear hp_
         refine hK.out _ _ ⟨uj HB.out q0, trivial⟩ (fun hHeld => ?_)
         clear hK K
         refine vz (a' := ?_) ?_ ?_; rotate_left; (· (show Act.put _ (some 71) _ = _); (simp only [Act.put, ua, ub, uc, uh, ui]); rfl)
         refine pU (i := 16) (N := (some 5)) (bA 17 131071) (by kernel_rfl) rfl ?_
         refine done_ (by kernel_rfl) ?_
         go_wp2_with fail
         obtain ⟨wl, hwl⟩ : ∃ wl : World, wl = wC.setCell ⟨q, 0, none⟩ (.slice AF RF.length cF) := ⟨_, rfl⟩
         have hrest : RF = (cs.take i ++ cs.drop (i + 2)).map toR := by rw [HRF.out, HTQ.out.1, HTQ.out.2, HRS.out, List.map_append, List.map_take, List.map_drop]
         have HL8 := Aside0.mk (show RLAt wl base q OK (.slice AF RF.length cF) ((cs.take i ++ cs.drop (i + 2)).map toR) by
          rw [hwl, ← hrest]
          exact ⟨blk_put HPC.out.hd 0 (.slice AF RF.length cF) rfl, Kd.V_far (Kd.V_mk (Kd.N_reads' HO.out).2.1 (Kd.N_F HO.out) (e := 70) (base := 0)) (p := ⟨q, 0, none⟩) (fun k hk => HSi.out.okq k hk) _, HSi.out.lo, HSi.out.okq⟩)
         have HG8 := Aside0.mk (show wo.grownBy wl (some q) by rw [hwl]; exact grown_set1 (below_then HBo.out HBo.out.size (ur HBy.out HB.out)))
         have HF8 := Aside0.mk (show Kd.F k46 wl OK Aj (joinB a b).f1.length (joinB a b).f1 by rw [hwl]; exact Kd.F_far (xm HJ.out.2.2 HB.out) (p := ⟨q, 0, none⟩) (fun k hk => HSi.out.okq k hk) _)
         have HZ8 := Aside0.mk (show wy.heap.size ≤ wl.heap.size by rw [hwl]; simp only [World.setCell, Array.size_modify]; exact HB.out.size)
         rw [← hwl]
         clear hwl hrest
         refine (rl_lay base q OK _ (cs.take i ++ cs.drop (i + 2)) (joinB a b) Aj cj wl HL8.out (fun k hk => HOK.out k (Nat.le_trans HZ8.out hk)) HF8.out HJ.out.2.1 (by rw [List.length_append, uq, uo]; have := HRL.out; omega)).mono ?_
         rintro y w9 ⟨rfl, v9, hs9, hg9⟩
         have HS9 := Aside0.mk hs9
         have HG9 := Aside0.mk (grown_grown HG8.out hg9)
         clear hs9 hg9
         have hpair := HM.out.1.pair HE.out.1 HE.out.2 HEQ.out (by omega)
         have hlen := layL_len (rest := cs.take i ++ cs.drop (i + 2)) hpair.1.ne
         have hlen2 : (cs.take i ++ cs.drop (i + 2)).length + 2 = cs.length := by rw [List.length_append, uq, uo]; have := HRL.out; omega
         have hall := (layL_all (joinB a b) (cs.take i ++ cs.drop (i + 2))).length_eq
         have hj := (joinB_all a b).length_eq
         rw [List.length_append] at hall hj
         have HMM := Aside0.mk (show Mrg (layL (joinB a b) (cs.take i ++ cs.drop (i + 2))) fin ∧ (layL (joinB a b) (cs.take i ++ cs.drop (i + 2))).length + 1 = cs.length ∧ (layL (joinB a b) (cs.take i ++ cs.drop (i + 2))).length ≤ 900 ∧ (allB (layL (joinB a b) (cs.take i ++ cs.drop (i + 2)))).length ≤ 1000000 from ⟨by rw [hpair.2.2]; exact lay_mrg hpair.1 hpair.2.1, by omega, by have := HM.out.2.1; omega, by have := HM.out.2.2; have := HPL.out; omega⟩)
         clear hpair hlen hlen2 hall hj
         go_wp2_with fail
         go_roundw
         case rel => exact ⟨true, v9, _, rfl, HS9, ⟨HMM.out.1, HMM.out.2.2.1, HMM.out.2.2.2⟩, ⟨grown_grown HG.out HG9.out⟩, ⟨fun h => by cases h⟩⟩
         case measure =>
          obtain ⟨Aq, cq, hvq, _, _⟩ := HS9.out.reads
          have hcq := HS9.out.cell0
          rw [hvq, List.length_map] at hcq
          have h1 : rowLen q w9 = (layL (joinB a b) (cs.take i ++ cs.drop (i + 2))).length := by unfold rowLen; rw [hcq]
          have h2 : rowLen q wo = rs.length := by unfold rowLen; rw [HQ0.out]
          rw [h1, h2]
          have := HMM.out.2.1
          have := HRL.out
          simp [boolOf]
          omega
      · have hq1 : (a.f0 == b.f0) = false := by rw [beq_eq_false_iff_ne]; exact hq
        have hq2 : (a.f0 != b.f0) = true := by simp [bne, hq1]
        have hq3 : decide (a.f0 = b.f0) = false := decide_eq_false hq
        have HN2 : Aside0 (pairN cs (i + 1)) := ⟨fun j x y hj hx hy => by
         by_cases h1 : j = i
         · subst h1
           rw [HE.out.1] at hx
           rw [HE.out.2] at hy
           injection hx with hx
           injection hy with hy
           rw [← hx, ← hy]; exact hq
         · exact HN.out j x y (by omega) hx hy⟩
        go_wp2_with fail
        refine start_ (n := 18) (S := fun w' => w'.cell? ⟨q, 0, none⟩ = some (.slice (some ad) rs.length c) ∧ w'.cell? (ad.add (i * 2)) = some (.int .i64 a.f0) ∧ w'.cell? (ad.add ((i + 1) * 2)) = some (.int .i64 b.f0)) (ds := []) #[xX, xX, xX, xX, xX, xX, xX, xX, xX, xX, xX, xX, xX, xX, xX, xX, xX, xX] (by kernel_rfl) rfl rfl ⟨q0, ya0, yb0⟩ (fun hHeld => ?_)
        refine pU (i := 0) (N := (some 17)) (bA 18 1) (by kernel_rfl) rfl ?_
        refine pU (i := 1) (N := (some 18)) (bA 18 3) (by kernel_rfl) rfl ?_
        refine pU (i := 2) (N := (some 19)) (bA 18 7) (by kernel_rfl) rfl ?_
        refine pU (i := 4) (N := (some 21)) (bA 18 23) (by kernel_rfl) rfl ?_
        refine pU (i := 8) (N := (some 25)) (bA 18 279) (by kernel_rfl) rfl ?_
        refine pU (i := 9) (N := (some 26)) (bA 18 791) (by kernel_rfl) rfl ?_
        refine pU (i := 10) (N := (some 27)) (bA 18 1815) (by kernel_rfl) rfl ?_
        refine pU (i := 12) (N := (some 29)) (bA 18 5911) (by kernel_rfl) rfl ?_
        refine pU (i := 13) (N := (some 30)) (bA 18 14103) (by kernel_rfl) rfl ?_
        refine tU (i := 3) (N := (some 20)) (bA 18 14111) (by kernel_rfl) rfl hHeld (by (constructor; (rintro w' ⟨s0, s1, s2⟩; go_simp; (with_reducible rfl)); (simp only [Act.put, ua, ub, uc, uh, ui]; rfl))) ?_
        refine pU (i := 5) (N := (some 22)) (bA 18 14143) (by kernel_rfl) rfl ?_
        refine pU (i := 6) (N := (some 23)) (bA 18 14207) (by kernel_rfl) rfl ?_
        refine tU (i := 7) (N := (some 24)) (bA 18 14335) (by kernel_rfl) rfl hHeld (by (constructor; (rintro w' ⟨s0, s1, s2⟩; go_simp; (with_reducible rfl)); (simp only [Act.put, ua, ub, uc, uh, ui]; rfl))) ?_
        refine tU (i := 11) (N := (some 28)) (bA 18 16383) (by kernel_rfl) rfl hHeld (by (constructor; (rintro w' ⟨s0, s1, s2⟩; go_simp; (with_reducible rfl)); (simp only [Act.put, ua, ub, uc, uh, ui]; rfl))) ?_
        refine pU (i := 14) (N := (some 31)) (bA 18 32767) (by kernel_rfl) rfl ?_
        refine pU (i := 15) (N := (some 32)) (bA 18 65535) (by kernel_rfl) rfl ?_
        refine tU (i := 16) (N := (some 33)) (bA 18 131071) (by kernel_rfl) rfl hHeld (by (constructor; (rintro w' ⟨s0, s1, s2⟩; go_simp; (with_reducible rfl)); (simp only [Act.put, ua, ub, uc, uh, ui]; rfl))) ?_
        refine pU (i := 17) (N := (some 34)) (bA 18 262143) (by kernel_rfl) rfl ?_
        refine done_ (by kernel_rfl) ?_
        go_wp2_with fail
        go_roundw
        case rel => exact ⟨rfl, i + 1, by go_num, by omega, ⟨ur HB.out (below_drew (Below.refl _ _))⟩, HN2⟩
        case measure => simp [intOf]; omega
    · have hlt2 : ¬ (i : Int) + 1 < (rs.length : Int) := by omega
      go_wp2_with fail
      go_roundw
      case rel => exact ⟨false, _, cs, rfl, ⟨by rw [← HRS.out]; exact HSi.out⟩, HM, ⟨grown_grown HG.out (grown_below HB.out)⟩, ⟨fun _ => fun j x y hj hx hy => HN.out j x y (by have := (List.getElem?_eq_some_iff.1 hy).1; have := HRL.out; omega) hx hy⟩⟩
      case measure =>
       have h1 : rowLen q wr = rs.length := by unfold rowLen; rw [q0]
       have h2 : rowLen q wo = rs.length := by unfold rowLen; rw [HQ0.out]
       rw [h1, h2]
       simp [boolOf]
end Go.Proofs.Ytdfndglenbckhaa.V
