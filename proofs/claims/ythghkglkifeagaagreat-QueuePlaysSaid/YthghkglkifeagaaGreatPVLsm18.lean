-- a text of this work, without what this claim doesn't use (wip/shake.py)
import Derived.Test.YthghkglkifeagaaGreatPVQ0
import Derived.Test.YthghkglkifeagaaGreatPVGenS
import Derived.Test.YthghkglkifeagaaGreatPVLsm13
import Derived.Test.YthghkglkifeagaaGreatPVPblockb
import Derived.Deep.RegionWith
import Derived.Deep.DeepCutAuto
import Derived.Deep.CutBlock
set_option maxRecDepth 100000
set_option maxHeartbeats 8000000
section
set_option linter.unusedVariables false
set_option linter.unusedSimpArgs false
namespace Go.Proofs.YthghkglkifeagaaGreat.V
open Go.RowKit Go.Proofs.YthghkglkifeagaaGreatW.PrintWords Go.Proofs.YthghkglkifeagaaGreatW.PrintLast Go.Proofs.YthghkglkifeagaaGreatW.PrintMore
def BoxF (W : World) (f g : Nat) (id : Int) : Prop := W.heap[f]? = some (.cells #[.func (.func 109) #[] #[.pointer (some ⟨g, 0, none⟩)]] 90 (0, 0)) ∧ BoxI W g id
theorem BoxF.below {W W1 : World} {f g : Nat} {id : Int} (h : BoxF W f g id) (hb : Below W.heap.size W W1) : BoxF W1 f g id := ⟨blk_below h.1 hb, h.2.below hb⟩
theorem BoxF.c0 {W : World} {f g : Nat} {id : Int} (h : BoxF W f g id) : W.cell? ⟨f, 0, none⟩ = some (.func (.func 109) #[] #[.pointer (some ⟨g, 0, none⟩)]) := (blk_cell h.1 0).trans rfl
theorem askD1 (g : Nat) (id : Int) : AskE 109 #[.pointer (some ⟨g, 0, none⟩)] (isId id) (fun W => BoxI W g id) := by
 refine ⟨⟨_, Tryz.func109, by kernel_rfl, rfl⟩, fun _ _ h hb => h.below hb, fun e W hi => ?_⟩
 have c0 := (hi.below (below_alloc (Below.refl W.heap.size W) (.cells #[.int .u64 e.f0, .int .i64 e.f1] 33))).c0
 clear hi
 show Calls Tryz.prog 109 #[.agg #[.int .u64 e.f0, .int .i64 e.f1], .pointer (some ⟨g, 0, none⟩)] W _
 unfold isId
 go_enter Tryz.func109, Tryz.ntmps109
 go_wp2
 go_ret
 exact ⟨by first | rfl | simp, below_alloc (Below.refl _ _) _⟩
theorem askD3 (g : Nat) (id : Int) : AskI 111 #[.pointer (some ⟨g, 0, none⟩)] (fun x => decide (x = id)) (fun W => BoxI W g id) := by
 refine ⟨⟨_, Tryz.func111, by kernel_rfl, rfl⟩, fun _ _ h hb => h.below hb, fun x W hi => ?_⟩
 have c0 := hi.c0
 clear hi
 show Calls Tryz.prog 111 #[.int .i64 x, .pointer (some ⟨g, 0, none⟩)] W _
 go_enter Tryz.func111, Tryz.ntmps111
 go_wp2
 go_ret
 exact ⟨by first | rfl | simp, Below.refl _ _⟩
def a1s (id : Int) (b : Bk) : Bool := b.f1.any (isId id)
theorem askD2 (f g : Nat) (id : Int) (bs : List Bk) (ha : (allB bs).length ≤ 1000000) : AskB 110 #[.pointer (some ⟨f, 0, none⟩)] (a1s id) bs (fun W => BoxF W f g id) := by
 refine ⟨⟨_, Tryz.func110, by kernel_rfl, rfl⟩, fun _ _ h hb => h.below hb, fun b A c W hb hi hr hc => ?_⟩
 have hl : b.f1.length ≤ 1000000 := by
  obtain ⟨i, hi, rfl⟩ := List.getElem_of_mem hb
  have := a1z (List.getElem?_eq_getElem hi)
  omega
 have HZ := za (below_alloc (Below.refl W.heap.size W) (.cells #[.int .i64 b.f0, .slice A b.f1.length c] 109))
 have HI := za (hi.below HZ.out)
 have c0 := HI.out.c0
 have HR := za (Kd.C_below hr HZ.out)
 clear hi hr hb
 show Calls Tryz.prog 110 #[.agg #[.int .i64 b.f0, .slice A b.f1.length c], .pointer (some ⟨f, 0, none⟩)] W _
 unfold a1s
 go_enter Tryz.func110, Tryz.ntmps110
 go_wp2_with fail
 refine (b2q A c b.f1 _ (askD1 g id) HR.out hc hl HI.out.2).mono ?_
 rintro x w2 ⟨rfl, hb2⟩
 have HB2 := za (below_step HZ.out hb2)
 clear hb2
 go_wp2
 go_ret
 exact ⟨rfl, HB2.out⟩
def a1d (id : Int) (bs : List Bk) : Bool × List Bk :=
  match bs.findIdx? (a1s id) with
  | none => (false, bs)
  | some i => (true, if (outB id (bs.getD i ⟨0, []⟩)) = [] then bs.eraseIdx i else bs.set i (mkB (outB id (bs.getD i ⟨0, []⟩))))
theorem b1x (id : Int) (b : Bk) : (b.f1.filter fun e => !decide (e.f1 = id)) = outB id b := by
 unfold outB
 congr 1
 funext e
 by_cases h : e.f1 = id <;> simp [h]
theorem a9h {id : Int} {bs : List Bk} (h : ∀ b ∈ bs, okB b = true) : ∀ b ∈ (a1d id bs).2, okB b = true := by
 unfold a1d
 cases hf : bs.findIdx? (a1s id) with
 | none => exact h
 | some i =>
  dsimp only
  split
  · exact fun b hb => h b (List.mem_of_mem_eraseIdx hb)
  · intro b hb
    rcases List.mem_or_eq_of_mem_set hb with hb | rfl
    · exact h b hb
    · exact a4m _
theorem c1m {bs : List Bk} {i : Nat} {b : Bk} (hb : bs[i]? = some b) (l : List E) : (allB (bs.set i (mkB l))).Perm (l ++ allB (bs.eraseIdx i)) := by
 have hlt := (List.getElem?_eq_some_iff.1 hb).1
 have hb' : (bs.set i (mkB l))[i]? = some (mkB l) := by rw [List.getElem?_set_self hlt]
 have h1 := a4q hb'
 have h2 : (bs.set i (mkB l)).eraseIdx i = bs.eraseIdx i := by
  rw [List.eraseIdx_eq_take_drop_succ, List.eraseIdx_eq_take_drop_succ, List.take_set, List.drop_set, if_pos (by omega), List.set_eq_of_length_le (by rw [List.length_take]; omega)]
 rw [h2] at h1
 exact h1.trans ((a0n l).append_right _)
theorem a5o {id : Int} {bs : List Bk} {i : Nat} {b : Bk} (hf : bs.findIdx? (a1s id) = some i) (hb : bs[i]? = some b) : a1d id bs = (true, if outB id b = [] then bs.eraseIdx i else bs.set i (mkB (outB id b))) := by
 unfold a1d
 rw [hf]
 have : bs.getD i ⟨0, []⟩ = b := by rw [List.getD_eq_getElem?_getD, hb]; rfl
 simp only [this]
theorem a7k {id : Int} {bs : List Bk} (hf : bs.findIdx? (a1s id) = none) : a1d id bs = (false, bs) := by unfold a1d; rw [hf]
theorem b0i {id : Int} {bs : List Bk} {i : Nat} {b : Bk} (hf : bs.findIdx? (a1s id) = some i) (hb : bs[i]? = some b) : (allB (a1d id bs).2).Perm (outB id b ++ allB (bs.eraseIdx i)) := by
 rw [a5o hf hb]
 dsimp only
 split
 · rename_i h0; rw [h0]; exact List.Perm.refl _
 · exact c1m hb _
theorem a8y {id : Int} {bs : List Bk} : (a1d id bs).2.length ≤ bs.length ∧ (allB (a1d id bs).2).length ≤ (allB bs).length := by
 cases hf : bs.findIdx? (a1s id) with
 | none => rw [a7k hf]; exact ⟨Nat.le_refl _, Nat.le_refl _⟩
 | some i =>
  have hlt : i < bs.length := by rw [List.findIdx?_eq_some_iff_getElem] at hf; exact hf.1
  have hb := List.getElem?_eq_getElem hlt
  refine ⟨?_, ?_⟩
  · rw [a5o hf hb]
    dsimp only
    split
    · exact List.length_eraseIdx_le _ _
    · rw [List.length_set]; exact Nat.le_refl _
  · rw [(b0i hf hb).length_eq, (a4q hb).length_eq, List.length_append, List.length_append]
    have : (outB id bs[i]).length ≤ bs[i].f1.length := List.length_filter_le _ _
    omega
def a6r [XSet] (base p : Nat) (ver : Int) (bs : List Bk) (id : Int) (w : World) (x : Ending) (w' : World) : Prop :=
  x = .returned (.bool (a1d id bs).1) ∧ ∃ v', ShAt w' base p (if (a1d id bs).1 = true then ver + 1 else ver) v' (a1d id bs).2 ∧ w.grownBy w' (some p)
theorem a7y [XSet] {base p : Nat} {ver : Int} {bs : List Bk} {id : Int} {w w' : World} {x : Ending} {r : Bool} {cs : List Bk} {v : Value} {ver' : Int} (hd : a1d id bs = (r, cs)) (hx : x = .returned (.bool r)) (hv : ver' = if r = true then ver + 1 else ver) (hs : ShAt w' base p ver' v cs) (hg : w.grownBy w' (some p)) : a6r base p ver bs id w x w' := by
 unfold a6r
 rw [hd]
 subst hv
 exact ⟨hx, v, hs, hg⟩
theorem b6a (P : Program) (w : World) (a : Addr) (m : Mode) (f : Fn) (x y : Array Value) : (store a (.func f x y) m).run P w = stored P w a (.func f x y) m := run_store P w a _ m rfl
attribute [local go_sem] b6a
theorem c2j [XSet] (base p : Nat) (ver : Int) (v : Value) (bs : List Bk) (id : Int) (w : World) (h : ShAt w base p ver v bs) (hv : 0 ≤ ver ∧ ver ≤ 1000000) (hl : bs.length ≤ 900) (ha : (allB bs).length ≤ 1000000) (hok : ∀ b ∈ bs, okB b = true) :
 Calls Tryz.prog 81 #[.pointer (some ⟨p, 0, none⟩), .int .i64 id] w (a6r base p ver bs id w) := by
 have hz := below_alloc (below_alloc (Below.refl w.heap.size w) (.cells #[.int .i64 id] 3)) (.cells #[.func (.func 109) #[] #[.pointer (some ⟨w.heap.size, 0, none⟩)]] 90)
 have HZ := za hz
 have HBF := za (show BoxF ((w.alloc (.cells #[.int .i64 id] 3)).alloc (.cells #[.func (.func 109) #[] #[.pointer (some ⟨w.heap.size, 0, none⟩)]] 90)) (w.heap.size + 1) w.heap.size id from ⟨(a2j w _ _).2.1, (a2j w _ _).1⟩)
 have HS := za h
 have HV := za hv
 have HA := za ha
 have HOK := za hok
 have HSZ := za (h.below hz)
 have hpz := HSZ.out.cell1
 obtain ⟨A, c, hve, hc, hf0⟩ := HSZ.out.reads
 subst hve
 have HF := za hf0
 clear hz h ha hok hf0
 go_enter Tryz.func81, Tryz.ntmps81
 go_wp2_with fail
 refine (a4v A c bs _ (askD2 (w.heap.size + 1) w.heap.size id bs HA.out) (Kd.F_now HF.out) hc (by omega) HBF.out).mono ?_
 rintro y w1 ⟨rfl, hb1⟩
 have HS1 := za (HSZ.out.below hb1)
 have HBF1 := za (HBF.out.below hb1)
 have HB1 := za (below_step HZ.out hb1)
 have HF1 := za (Kd.F_below HF.out hb1)
 clear hb1 hpz HF HBF HSZ
 cases hf : bs.findIdx? (a1s id) with
 | none =>
  have HD := za (a7k hf)
  clear hf
  rw [show posB none = -1 from rfl]
  go_wp2
  go_ret
  exact a7y HD.out rfl (if_neg (by simp)).symm HS1.out ⟨HB1.out.os, HB1.out.tape, HB1.out.output, HB1.out.size, fun k hk _ => HB1.out.block k hk⟩
 | some i =>
  have hlt : i < bs.length := by rw [List.findIdx?_eq_some_iff_getElem] at hf; exact hf.1
  obtain ⟨b, hb⟩ : ∃ b, bs[i]? = some b := ⟨_, List.getElem?_eq_getElem hlt⟩
  have HD := za (a5o hf hb)
  have HOKD := za (a9h (id := id) HOK.out)
  have HFW := za (a8y (id := id) (bs := bs))
  have HBb := za hb
  have hp1 := HS1.out.cell1
  have hle := a1z hb
  have HBL := za (show b.f1.length ≤ 1000000 by have := HA.out; omega)
  have d0 : decide ((i : Int) < 0) = false := decide_eq_false (by omega)
  clear hf hb hle
  rw [show posB (some i) = (i : Int) from rfl]
  go_wp2_with fail
  refine (a7g (fun k => XSet.ok k ∧ k ≠ p) A c bs _ HF1.out hc (by omega)).mono ?_
  rintro y w2 ⟨v2, rfl, hn2, hb2⟩
  have HS2 := za (HS1.out.below hb2)
  have HB2 := za (below_step HB1.out hb2)
  have HI2 := za (HBF1.out.2.below hb2)
  have HN2 := za (show Kd.N k109 109 w2 w1.heap.size (fun k => XSet.ok k ∧ k ≠ p) v2 bs from Kd.N_mono hn2 (fun k hk => by
   have := HS1.out.lt
   rcases hk with hk | hk
   · exact hk
   · exact ⟨HS1.out.fresh hk, by omega⟩))
  obtain ⟨g, cap, hform, hgb, hgl, _⟩ := Kd.N_form HN2.out (by omega)
  subst hform
  obtain ⟨A2, k2, x0, x1, hbl, hbk, hbf⟩ := a2g HN2.out HBb.out
  obtain ⟨_, _, e4, _, hbF⟩ := a2v hbk
  injection e4 with _ e4
  injection e4 with e4
  injection e4 with h1 h2 h3
  subst h1; subst h3
  have HCB := za (Kd.F_now hbF)
  have HXF := za hbf
  have HGL := za (show g < w2.heap.size ∧ w1.heap.size ≤ g ∧ p < w1.heap.size from ⟨hgl, hgb, HS1.out.lt⟩)
  have hin : (i : Int) < (bs.length : Int) := by omega
  have hin0 : (0 : Int) ≤ (i : Int) := by omega
  clear hn2 hb2 hp1 hbF hbk hbf hgl hgb
  go_wp2_with fail
  refine (b4h b A2 k2 _ (askD3 w.heap.size id) HCB.out hbl HBL.out HI2.out).mono ?_
  rintro y w3 ⟨A3, c3, rfl, hv3, hb3⟩
  rw [b1x] at hv3 ⊢
  have HB3 := za (below_step HB2.out hb3)
  have HS3 := za (HS2.out.below hb3)
  have n0 := pw_cell_below hb3 x0
  have n1 := pw_cell_below hb3 x1
  have f0 := a2b hb3 HGL.out.1 (HXF.out 0)
  have f1 := a2b hb3 HGL.out.1 (HXF.out 1)
  rw [Nat.add_zero] at f0
  have HN3 := za (Kd.N_below HN2.out hb3)
  have HN4 := za (show Kd.N k109 109 ((w3.setCell ⟨g, i * 2, none⟩ (.int .i64 (mkB (outB id b)).f0)).setCell ⟨g, i * 2 + 1, none⟩ (.slice A3 (mkB (outB id b)).f1.length c3)) w1.heap.size (fun k => XSet.ok k ∧ k ≠ p) (.slice (some ⟨g, 0, none⟩) bs.length cap) (bs.set i (mkB (outB id b))) from
   a3r HN3.out hlt (a8g (base := 0) (N := w2.heap.size) (Kd.V_lower hv3 (Nat.zero_le _)) (fun k hk => by have := HGL.out; exact ⟨⟨HS2.out.fresh hk, by have := HS2.out.lt; omega⟩, by omega⟩)))
  have HB4 := za (show Below w.heap.size w ((w3.setCell ⟨g, i * 2, none⟩ (.int .i64 (mkB (outB id b)).f0)).setCell ⟨g, i * 2 + 1, none⟩ (.slice A3 (mkB (outB id b)).f1.length c3)) from below_set (below_set HB3.out (by have := HGL.out; have := HB1.out.size; omega)) (by have := HGL.out; have := HB1.out.size; omega))
  have HS4 := za (HS.out.below HB4.out)
  have hsx : (bs.set i (mkB (outB id b)))[i]? = some (mkB (outB id b)) := by rw [List.getElem?_set_self hlt]
  obtain ⟨A6, k6, z0, z1, _, _, _⟩ := a2g HN4.out hsx
  have hxl : (mkB (outB id b)).f1.length = (outB id b).length := a0i _
  have hsl : (bs.set i (mkB (outB id b))).length = bs.length := List.length_set
  have hp4 := HS4.out.cell0
  have HBZ := za (show w1.heap.size ≤ ((w3.setCell ⟨g, i * 2, none⟩ (.int .i64 (mkB (outB id b)).f0)).setCell ⟨g, i * 2 + 1, none⟩ (.slice A3 (mkB (outB id b)).f1.length c3)).heap.size by have := HGL.out; have := hb3.size; simp; omega)
  have HSL := za hsl
  clear hv3 hb3 hsx x0 x1 hsl
  by_cases h0 : outB id b = []
  · have h00 : (mkB (outB id b)).f1.length = 0 := by rw [hxl, h0]; rfl
    have HD2 := HD.out
    rw [if_pos h0] at HD2
    have HD3 := za HD2
    have HER := za (show (bs.set i (mkB (outB id b))).eraseIdx i = bs.eraseIdx i by
     rw [List.eraseIdx_eq_take_drop_succ, List.eraseIdx_eq_take_drop_succ, List.take_set, List.drop_set, if_pos (by omega)]
     rw [List.set_eq_of_length_le (by rw [List.length_take]; omega)])
    have HLN := za (show (bs.eraseIdx i).length = bs.length - 1 by rw [List.length_eraseIdx, if_pos hlt])
    have q1 : (((mkB (outB id b)).f1.length : Int) == 0) = true := by rw [h00]; rfl
    have q2 : decide ((mkB (outB id b)).f1.length = 0) = true := decide_eq_true h00
    have q3 : decide ((mkB (outB id b)).f1 = []) = true := decide_eq_true (List.length_eq_zero_iff.1 h00)
    clear h0 h00 hxl HD2
    go_wp2_with fail
    refine (bdel w1.heap.size g bs.length cap i _ (bs.set i (mkB (outB id b))) _ HN4.out hlt (by omega) HBZ.out).mono ?_
    rintro y w5 ⟨rfl, hn5, hg5⟩
    rw [HER.out] at hn5
    have HB5 := za (a7d HB4.out hg5 (fun k hk => by injection hk with hk; have := HGL.out; have := HB1.out.size; omega))
    have HS5 := za (HS.out.below HB5.out)
    have hp5 := HS5.out.cell0
    have HN5 := za hn5
    have HSW := za (show (∀ b ∈ bs.eraseIdx i, okB b = true) ∧ (bs.eraseIdx i).length ≤ 1000 ∧ (allB (bs.eraseIdx i)).length ≤ 1000000 from by
     have h1 := HOKD.out
     have h2 := HFW.out
     rw [HD3.out] at h1 h2
     dsimp only at h1 h2
     exact ⟨h1, by have := h2.1; omega, by have := h2.2; have := HA.out; omega⟩)
    rw [← HLN.out]
    clear hn5 hg5 z0 z1 hp4 q1 q2 q3
    go_wp2_with fail
    refine (a8s base p ver _ bs (bs.eraseIdx i) (some ⟨g, 0, none⟩) cap _ HS5.out HV.out (by have := Kd.N_F HN5.out; rwa [← HLN.out] at this) (by have := (Kd.N_reads' HN5.out).2.1; have := HLN.out; omega) HSW.out.1 HSW.out.2.1 HSW.out.2.2).mono ?_
    rintro y w6 ⟨rfl, v6, hs6, hg6⟩
    have HE := za (show ShAt w6 base p (ver + 1) v6 (bs.eraseIdx i) ∧ w.grownBy w6 (some p) from ⟨hs6, a7p HB5.out hg6⟩)
    clear hs6 hg6
    go_wp2
    go_ret
    exact a7y HD3.out rfl (if_pos rfl).symm HE.out.1 HE.out.2
  · have HD2 := HD.out
    rw [if_neg h0] at HD2
    have HD3 := za HD2
    have hpos : 0 < (outB id b).length := by
     cases hq : outB id b with
     | nil => exact absurd hq h0
     | cons _ _ => simp
    have q1 : (((mkB (outB id b)).f1.length : Int) == 0) = false := by rw [beq_eq_false_iff_ne]; omega
    have q2 : decide ((mkB (outB id b)).f1.length = 0) = false := decide_eq_false (by omega)
    have q3 : decide ((mkB (outB id b)).f1 = []) = false := decide_eq_false (by intro e; rw [e] at hxl; simp at hxl; omega)
    have q4 : ¬ ((mkB (outB id b)).f1 = []) := by intro e; rw [e] at hxl; simp at hxl; omega
    have HSW := za (show (∀ q ∈ bs.set i (mkB (outB id b)), okB q = true) ∧ (bs.set i (mkB (outB id b))).length ≤ 1000 ∧ (allB (bs.set i (mkB (outB id b)))).length ≤ 1000000 from by
     have h1 := HOKD.out
     have h2 := HFW.out
     rw [HD3.out] at h1 h2
     dsimp only at h1 h2
     exact ⟨h1, by have := h2.1; omega, by have := h2.2; have := HA.out; omega⟩)
    clear h0 hpos hxl HD2
    go_wp2_with fail
    rw [← HSL.out]
    refine (a8s base p ver _ bs (bs.set i (mkB (outB id b))) (some ⟨g, 0, none⟩) cap _ HS4.out HV.out (by have := Kd.N_F HN4.out; rwa [← HSL.out] at this) (by have := (Kd.N_reads' HN4.out).2.1; have := HSL.out; omega) HSW.out.1 HSW.out.2.1 HSW.out.2.2).mono ?_
    rintro y w6 ⟨rfl, v6, hs6, hg6⟩
    have HE := za (show ShAt w6 base p (ver + 1) v6 (bs.set i (mkB (outB id b))) ∧ w.grownBy w6 (some p) from ⟨hs6, a7p HB4.out hg6⟩)
    clear hs6 hg6 q1 q2 q3 q4 z0 z1
    go_wp2
    go_ret
    exact a7y HD3.out rfl (if_pos rfl).symm HE.out.1 HE.out.2
end Go.Proofs.YthghkglkifeagaaGreat.V
end
section
set_option linter.unusedVariables false
set_option linter.unusedSimpArgs false
namespace Go.Proofs.YthghkglkifeagaaGreat.V
open Go.RowKit Go.Proofs.YthghkglkifeagaaGreatW.PrintWords Go.Proofs.YthghkglkifeagaaGreatW.PrintLast Go.Proofs.YthghkglkifeagaaGreatW.PrintMore
theorem isId_true {id : Int} {e : E} : isId id e = true ↔ e.f1 = id := by unfold isId; exact decide_eq_true_iff
theorem isId_false {id : Int} {e : E} : isId id e = false ↔ e.f1 ≠ id := by unfold isId; exact decide_eq_false_iff_not
def a0h (id : Int) (es : List E) : List E := es.filter fun e => !isId id e
theorem a3i {id : Int} {es : List E} (h : es.any (isId id) = false) : a0h id es = es := by
 unfold a0h
 refine List.filter_eq_self.2 fun e he => ?_
 rw [List.any_eq_false] at h
 simp [h e he]
theorem b0j {id : Int} {es fs : List E} (h : es.Perm fs) : (a0h id es).Perm (a0h id fs) := h.filter _
theorem c2q (id : Int) (b : Bk) : outB id b = a0h id b.f1 := (b1x id b).symm
theorem a3w {id : Int} {es fs : List E} (h : es.Perm fs) : es.any (isId id) = fs.any (isId id) := by
 rw [Bool.eq_iff_iff, List.any_eq_true, List.any_eq_true]
 exact ⟨fun ⟨x, hx, h2⟩ => ⟨x, h.mem_iff.1 hx, h2⟩, fun ⟨x, hx, h2⟩ => ⟨x, h.mem_iff.2 hx, h2⟩⟩
theorem b1o (id : Int) (bs : List Bk) : (allB bs).any (isId id) = bs.any (a1s id) := by
 induction bs with
 | nil => rw [a7u]; rfl
 | cons b t ih => rw [a1l, List.any_append, ih, List.any_cons]; rfl
theorem b9c {id : Int} {bs : List Bk} {es : List E} (hp : (allB bs).Perm es) (hu : Unlike es) : (a1d id bs).1 = es.any (isId id) ∧ (allB (a1d id bs).2).Perm (a0h id es) := by
 cases hf : bs.findIdx? (a1s id) with
 | none =>
  rw [a7k hf]
  have h0 : bs.any (a1s id) = false := by
   rw [List.findIdx?_eq_none_iff] at hf
   rw [List.any_eq_false]
   intro b hb
   simp [hf b hb]
  have h1 : es.any (isId id) = false := by rw [← a3w hp, b1o, h0]
  exact ⟨h1.symm, by rw [a3i h1]; exact hp⟩
 | some i =>
  rw [List.findIdx?_eq_some_iff_getElem] at hf
  obtain ⟨hlt, hb2, _⟩ := hf
  have hf : bs.findIdx? (a1s id) = some i := by rw [List.findIdx?_eq_some_iff_getElem]; exact ⟨hlt, hb2, by assumption⟩
  have hb := List.getElem?_eq_getElem hlt
  have h1 : bs.any (a1s id) = true := List.any_eq_true.2 ⟨_, List.getElem_mem hlt, hb2⟩
  have h2 : es.any (isId id) = true := by rw [← a3w hp, b1o, h1]
  refine ⟨by rw [a5o hf hb, h2], ?_⟩
  have h3 := (a4q hb).symm.trans hp
  have h4 : (a0h id (bs[i].f1 ++ allB (bs.eraseIdx i))).Perm (a0h id es) := b0j h3
  have h5 : a0h id (allB (bs.eraseIdx i)) = allB (bs.eraseIdx i) := by
   apply a3i
   rw [List.any_eq_false]
   intro e he hid
   have hu2 : Unlike (bs[i].f1 ++ allB (bs.eraseIdx i)) := hu.perm h3.symm
   unfold Unlike at hu2
   rw [List.map_append, List.nodup_append] at hu2
   unfold a1s at hb2
   obtain ⟨a, ha, hida⟩ := List.any_eq_true.1 hb2
   exact hu2.2.2 a.f1 (List.mem_map_of_mem ha) e.f1 (List.mem_map_of_mem he) (by rw [isId_true.1 hida, isId_true.1 hid])
  have h6 := b0i hf hb
  rw [c2q, ← h5] at h6
  refine h6.trans ?_
  rw [← show a0h id (bs[i].f1 ++ allB (bs.eraseIdx i)) = a0h id bs[i].f1 ++ a0h id (allB (bs.eraseIdx i)) from List.filter_append ..]
  exact h4
theorem b8z {id j : Int} {es : List E} : (a0h id es).any (isId j) = (!decide (j = id) && es.any (isId j)) := by
 rw [Bool.eq_iff_iff, List.any_eq_true]
 unfold a0h
 constructor
 · rintro ⟨x, hx, hj⟩
   rw [List.mem_filter] at hx
   have h1 := isId_true.1 hj
   have h2 : ¬ (j = id) := by
    intro e
    have : isId id x = true := isId_true.2 (by rw [h1, e])
    rw [this] at hx
    exact absurd hx.2 (by simp)
   rw [Bool.and_eq_true]
   exact ⟨by simp [h2], List.any_eq_true.2 ⟨x, hx.1, hj⟩⟩
 · intro h
   rw [Bool.and_eq_true] at h
   obtain ⟨x, hx, hj⟩ := List.any_eq_true.1 h.2
   have h1 := isId_true.1 hj
   have h2 : ¬ (j = id) := by have := h.1; simpa using this
   exact ⟨x, List.mem_filter.2 ⟨hx, by rw [isId_false.2 (by rw [h1]; exact h2)]; rfl⟩, hj⟩
structure KpP (keys : List Int) (i : Nat) (es : List E) (L : List Bool) : Prop where
  len : L.length = 31
  un : Unlike es
  mem : ∀ e ∈ es, ∃ j : Nat, j < i ∧ e.f1 = (j : Int) + 1 ∧ keys[j]? = some e.f0
  th : ∀ j : Nat, L.getD j false = es.any (isId (j : Int))
namespace KpP
variable {keys : List Int} {i : Nat} {es : List E} {L : List Bool}
theorem put (h : KpP keys i es L) {x : Int} (hx : keys[i]? = some x) (hi : i < 30) : KpP keys (i + 1) (⟨x, (i : Int) + 1⟩ :: es) (L.set (i + 1) true) := by
 refine ⟨by rw [List.length_set, h.len], ?_, ?_, fun j => ?_⟩
 · unfold Unlike
   rw [List.map_cons, List.nodup_cons]
   refine ⟨fun hm => ?_, h.un⟩
   obtain ⟨e, he, h1⟩ := List.mem_map.1 hm
   obtain ⟨j, hj, h2, _⟩ := h.mem e he
   dsimp only at h1
   omega
 · intro e he
   rcases List.mem_cons.1 he with rfl | he
   · exact ⟨i, by omega, rfl, hx⟩
   · obtain ⟨j, hj, h2, h3⟩ := h.mem e he
     exact ⟨j, by omega, h2, h3⟩
 · rw [List.getD_eq_getElem?_getD, List.getElem?_set, List.any_cons]
   by_cases hj : i + 1 = j
   · subst hj
     rw [if_pos rfl, if_pos (by rw [h.len]; omega)]
     rw [show isId (((i + 1 : Nat)) : Int) (⟨x, (i : Int) + 1⟩ : E) = true from isId_true.2 (by push_cast; rfl)]
     rfl
   · rw [if_neg hj, show isId (j : Int) (⟨x, (i : Int) + 1⟩ : E) = false from isId_false.2 (by dsimp only; omega), Bool.false_or, ← h.th, List.getD_eq_getElem?_getD]
theorem out (h : KpP keys i es L) (k : Nat) : KpP keys i (a0h (k : Int) es) (L.set k false) := by
 refine ⟨by rw [List.length_set, h.len], h.un.sub List.filter_sublist, fun e he => h.mem e ((List.mem_filter.1 he).1), fun j => ?_⟩
 rw [b8z, ← h.th, List.getD_eq_getElem?_getD, List.getElem?_set]
 by_cases hj : k = j
 · subst hj
   rw [if_pos rfl]
   split <;> simp
 · rw [if_neg hj, ← List.getD_eq_getElem?_getD]
   rw [show decide ((j : Int) = (k : Int)) = false from decide_eq_false (by omega)]
   rfl
theorem stay (h : KpP keys i es L) (k : Nat) (hk : L.getD k false = false) : KpP keys i (a0h (k : Int) es) L := by
 rw [a3i (by rw [← h.th]; exact hk)]; exact h
end KpP
def isE (id : Int) (e : E) : Bool := decide (e.f1 = id)
def idxV : Option Nat → Int
  | none => -1
  | some i => (i : Int)
theorem b2s {α : Type} {p : α → Bool} {l : List α} {m : Nat} {a : α} (ha : l[m]? = some a) (hp : p a = true) (hb : ∀ j b, j < m → l[j]? = some b → p b = false) : l.findIdx? p = some m := by
 obtain ⟨h1, rfl⟩ := List.getElem?_eq_some_iff.1 ha
 rw [List.findIdx?_eq_some_iff_getElem]
 exact ⟨h1, hp, fun j hj => by rw [hb j _ hj (List.getElem?_eq_getElem (by omega))]; simp⟩
theorem b3k {α : Type} {p : α → Bool} {l : List α} (hb : ∀ j b, j < l.length → l[j]? = some b → p b = false) : l.findIdx? p = none := by
 rw [List.findIdx?_eq_none_iff]
 intro x hx
 obtain ⟨j, hj, rfl⟩ := List.getElem_of_mem hx
 exact hb j _ hj (List.getElem?_eq_getElem hj)
def CapI (w : World) (gi : Nat) (id : Int) : Prop := w.heap[gi]? = some (.cells #[.int .i64 id] 3 (0, 0))
theorem CapI.below {w w1 : World} {gi : Nat} {id : Int} (h : CapI w gi id) (hb : Below w.heap.size w w1) : CapI w1 gi id := (hb.block gi (Array.getElem?_eq_some_iff.1 h).1).trans h
theorem CapI.cell {w : World} {gi : Nat} {id : Int} (h : CapI w gi id) : w.cell? ⟨gi, 0, none⟩ = some (.int .i64 id) := by
 unfold CapI at h
 simp [World.cell?, h]
theorem ld1 (id : Int) (gi : Nat) (e : E) (w : World) (h : CapI w gi id) :
 Calls Tryz.prog 105 #[.agg #[.int .u64 e.f0, .int .i64 e.f1], .pointer (some ⟨gi, 0, none⟩)] w fun x w' => x = .returned (.bool (isE id e)) ∧ Below w.heap.size w w' := by
 have hc := (h.below (below_alloc (Below.refl w.heap.size w) (.cells #[.int .u64 e.f0, .int .i64 e.f1] 33))).cell
 clear h
 unfold isE
 go_enter Tryz.func105, Tryz.ntmps105
 go_wp2
 go_ret
 exact ⟨by first | rfl | simp, below_alloc (Below.refl _ _) _⟩
theorem eidx (id : Int) (gi : Nat) (A : Option Addr) (c : Nat) (l : List E) (w : World) (hr : k33.C w A l.length l) (hc : l.length ≤ c) (hl : l.length ≤ 1000000) (h : CapI w gi id) :
 Calls Tryz.prog 92 #[.slice A l.length c, .func (.func 105) #[] #[.pointer (some ⟨gi, 0, none⟩)]] w fun x w' => x = .returned (.int .i64 (idxV (l.findIdx? (isE id)))) ∧ Below w.heap.size w w' := by
 have HR := za hr
 have HC := za h
 clear hr h
 go_enter Tryz.func92, Tryz.ntmps92
 go_wp2
 go_loopw [8] (fun i wr => ∃ m : Nat, m ≤ l.length ∧ i = .int .i64 m ∧ Aside0 (∀ j b, j < m → l[j]? = some b → isE id b = false) ∧ Aside0 (Below w.heap.size w wr)) (fun i _ => l.length - (intOf i).toNat)
 case atStart => exact ⟨0, Nat.zero_le _, rfl, ⟨fun j b h => by omega⟩, ⟨Below.refl _ _⟩⟩
 case round =>
  obtain ⟨m, hm, rfl, HN, HB⟩ := hrel
  by_cases hlt : m < l.length
  · obtain ⟨e, he⟩ : ∃ e, l[m]? = some e := ⟨_, List.getElem?_eq_getElem hlt⟩
    obtain ⟨ad, e1, y0, y1⟩ := a0e (Kd.C_below HR.out HB.out) (m : Int) (by omega) (by omega)
    subst e1
    rw [Int.toNat_natCast, b2m he] at y0 y1
    have HE := za he
    clear he
    go_wp2_with fail
    refine (ld1 id gi e _ (HC.out.below HB.out)).mono ?_
    rintro x w2 ⟨rfl, hb2⟩
    have HB2 := za (below_step HB.out hb2)
    clear hb2 y0 y1
    cases hi : isE id e with
    | true =>
     have HF := za (b2s HE.out hi HN.out)
     clear hi
     go_wp2
     go_ret
     exact ⟨by rw [HF.out]; rfl, HB2.out⟩
    | false =>
     have HN2 : Aside0 (∀ j b, j < m + 1 → l[j]? = some b → isE id b = false) := ⟨fun j b hj hb => by
      by_cases h1 : j = m
      · subst h1
        rw [HE.out] at hb
        injection hb with hb
        rw [← hb]; exact hi
      · exact HN.out j b (by omega) hb⟩
     clear hi
     go_wp2
     go_roundw
     case rel => exact ⟨m + 1, by omega, by go_num, HN2, HB2⟩
     case measure => simp [intOf]; omega
  · obtain rfl : m = l.length := by omega
    have HF := za (b3k HN.out)
    go_wp2
    go_ret
    exact ⟨by rw [HF.out]; rfl, HB.out⟩
theorem b8a {α : Type} (p : α → Bool) (l : List α) : decide (0 ≤ idxV (l.findIdx? p)) = l.any p := by
 cases h : l.findIdx? p with
 | none =>
  rw [List.findIdx?_eq_none_iff] at h
  have : l.any p = false := by rw [List.any_eq_false]; intro x hx; rw [h x hx]; simp
  rw [this]; rfl
 | some i =>
  rw [List.findIdx?_eq_some_iff_getElem] at h
  obtain ⟨h1, h2, _⟩ := h
  have : l.any p = true := List.any_eq_true.2 ⟨_, List.getElem_mem h1, h2⟩
  rw [this]
  exact decide_eq_true (Int.natCast_nonneg i)
theorem econt (id : Int) (gi : Nat) (A : Option Addr) (c : Nat) (l : List E) (w : World) (hr : k33.C w A l.length l) (hc : l.length ≤ c) (hl : l.length ≤ 1000000) (h : CapI w gi id) :
 Calls Tryz.prog 61 #[.slice A l.length c, .func (.func 105) #[] #[.pointer (some ⟨gi, 0, none⟩)]] w fun x w' => x = .returned (.bool (l.any (isE id))) ∧ Below w.heap.size w w' := by
 have HR := za hr
 have HC := za h
 have HA := za (b8a (isE id) l)
 clear hr h
 go_enter Tryz.func61, Tryz.ntmps61
 go_wp2_with fail
 refine (eidx id gi A c l _ HR.out hc hl HC.out).mono ?_
 rintro x w2 ⟨rfl, hb2⟩
 have HB2 := za hb2
 clear hb2
 generalize idxV (l.findIdx? (isE id)) = v at HA ⊢
 go_wp2
 go_ret
 exact ⟨by rw [← HA.out]; rfl, HB2.out⟩
def CapF (w : World) (gf gi : Nat) (id : Int) : Prop := w.heap[gf]? = some (.cells #[.func (.func 105) #[] #[.pointer (some ⟨gi, 0, none⟩)]] 90 (0, 0)) ∧ CapI w gi id
theorem CapF.below {w w1 : World} {gf gi : Nat} {id : Int} (h : CapF w gf gi id) (hb : Below w.heap.size w w1) : CapF w1 gf gi id := ⟨(hb.block gf (Array.getElem?_eq_some_iff.1 h.1).1).trans h.1, h.2.below hb⟩
theorem CapF.cell {w : World} {gf gi : Nat} {id : Int} (h : CapF w gf gi id) : w.cell? ⟨gf, 0, none⟩ = some (.func (.func 105) #[] #[.pointer (some ⟨gi, 0, none⟩)]) := by
 have := h.1
 simp [World.cell?, this]
theorem ld2 (id : Int) (gf gi : Nat) (b : Bk) (A : Option Addr) (c : Nat) (w : World) (hr : k33.C w A b.f1.length b.f1) (hc : b.f1.length ≤ c) (hl : b.f1.length ≤ 1000000) (h : CapF w gf gi id) :
 Calls Tryz.prog 106 #[.agg #[.int .i64 b.f0, .slice A b.f1.length c], .pointer (some ⟨gf, 0, none⟩)] w fun x w' => x = .returned (.bool (hasB id b)) ∧ Below w.heap.size w w' := by
 have hcf := (h.below (below_alloc (Below.refl w.heap.size w) (.cells #[.int .i64 b.f0, .slice A b.f1.length c] 109))).cell
 have HF := za (h.below (below_alloc (Below.refl w.heap.size w) (.cells #[.int .i64 b.f0, .slice A b.f1.length c] 109)))
 have HR := za (Kd.C_below hr (below_alloc (Below.refl w.heap.size w) (.cells #[.int .i64 b.f0, .slice A b.f1.length c] 109)))
 clear hr h
 go_enter Tryz.func106, Tryz.ntmps106
 go_wp2_with fail
 refine (econt id gi A c b.f1 _ HR.out hc hl HF.out.2).mono ?_
 rintro x w2 ⟨rfl, hb2⟩
 have HB2 := za (below_step (below_alloc (Below.refl w.heap.size w) (.cells #[.int .i64 b.f0, .slice A b.f1.length c] 109)) hb2)
 clear hb2
 go_wp2
 go_ret
 exact ⟨rfl, HB2.out⟩
theorem bidx (id : Int) (gf gi : Nat) (A : Option Addr) (c : Nat) (bs : List Bk) (w : World) (hr : k109.C w A bs.length bs) (hc : bs.length ≤ c) (hn : bs.length ≤ 100) (hl : (allB bs).length ≤ 1000000) (h : CapF w gf gi id) :
 Calls Tryz.prog 72 #[.slice A bs.length c, .func (.func 106) #[] #[.pointer (some ⟨gf, 0, none⟩)]] w fun x w' => x = .returned (.int .i64 (idxV (bs.findIdx? (hasB id)))) ∧ Below w.heap.size w w' := by
 have HR := za hr
 have HC := za h
 clear hr h
 go_enter Tryz.func72, Tryz.ntmps72
 go_wp2
 go_loopw [8] (fun i wr => ∃ m : Nat, m ≤ bs.length ∧ i = .int .i64 m ∧ Aside0 (∀ j b, j < m → bs[j]? = some b → hasB id b = false) ∧ Aside0 (Below w.heap.size w wr)) (fun i _ => bs.length - (intOf i).toNat)
 case atStart => exact ⟨0, Nat.zero_le _, rfl, ⟨fun j b h => by omega⟩, ⟨Below.refl _ _⟩⟩
 case round =>
  obtain ⟨m, hm, rfl, HN, HB⟩ := hrel
  by_cases hlt : m < bs.length
  · obtain ⟨b, hb⟩ : ∃ b, bs[m]? = some b := ⟨_, List.getElem?_eq_getElem hlt⟩
    obtain ⟨ad, A1, c1, rfl, y0, y1, e4, e5⟩ := a6h (Kd.C_below HR.out HB.out) hb
    have HE := za hb
    have HV := za e5
    have hle := a1z hb
    have HL := za (show b.f1.length ≤ 1000000 by omega)
    clear hb e5 hle
    go_wp2_with fail
    refine (ld2 id gf gi b A1 c1 _ HV.out e4 HL.out (HC.out.below HB.out)).mono ?_
    rintro x w2 ⟨rfl, hb2⟩
    have HB2 := za (below_step HB.out hb2)
    clear hb2 y0 y1
    cases hi : hasB id b with
    | true =>
     have HF := za (b2s HE.out hi HN.out)
     clear hi
     go_wp2
     go_ret
     exact ⟨by rw [HF.out]; rfl, HB2.out⟩
    | false =>
     have HN2 : Aside0 (∀ j b, j < m + 1 → bs[j]? = some b → hasB id b = false) := ⟨fun j b' hj hb' => by
      by_cases h1 : j = m
      · subst h1
        rw [HE.out] at hb'
        injection hb' with hb'
        rw [← hb']; exact hi
      · exact HN.out j b' (by omega) hb'⟩
     clear hi
     go_wp2
     go_roundw
     case rel => exact ⟨m + 1, by omega, by go_num, HN2, HB2⟩
     case measure => simp [intOf]; omega
  · obtain rfl : m = bs.length := by omega
    have HF := za (b3k HN.out)
    go_wp2
    go_ret
    exact ⟨by rw [HF.out]; rfl, HB.out⟩
theorem ld3 (id : Int) (gi : Nat) (x : Int) (w : World) (h : CapI w gi id) :
 Calls Tryz.prog 108 #[.int .i64 x, .pointer (some ⟨gi, 0, none⟩)] w fun y w' => y = .returned (.bool (decide (x = id))) ∧ w = w' := by
 have hc := h.cell
 clear h
 go_enter Tryz.func108, Tryz.ntmps108
 go_wp2
 go_ret
 exact ⟨by first | rfl | simp, rfl⟩
theorem b7c (f : Fn) (x y : Array Value) (W : World) : (binOp .eql 34 (.func f x y) .nilFunc).run Tryz.prog W = .ok (.bool false) W := by
 have h : ∀ d, (Op.equalIn (d + 1) 34 (.func f x y) .nilFunc).run Tryz.prog W = .ok false W := fun d => by simp [Op.equalIn, run_underlying Tryz.underlying34]
 simp only [binOp]
 simp [Op.equal, Op.maxDepth, h 9999]
theorem b3v {id : Int} {b : Bk} {m : Nat} {e : E} (h : b.f1[m]? = some e) : (b.f1.take (m + 1)).filter (fun e => decide (e.f1 ≠ id)) = (b.f1.take m).filter (fun e => decide (e.f1 ≠ id)) ++ (if e.f1 = id then [] else [e]) := by
 obtain ⟨h1, rfl⟩ := List.getElem?_eq_some_iff.1 h
 rw [List.take_succ_eq_append_getElem h1, List.filter_append]
 by_cases hi : b.f1[m].f1 = id <;> simp [hi]
theorem b4k (id : Int) (gi : Nat) (b : Bk) (A : Option Addr) (c : Nat) (w : World) (hr : k33.C w A b.f1.length b.f1) (hc : b.f1.length ≤ c) (hl : b.f1.length ≤ 1000000) (h : CapI w gi id) :
 Calls Tryz.prog 107 #[.agg #[.int .i64 b.f0, .slice A b.f1.length c], .func (.func 108) #[] #[.pointer (some ⟨gi, 0, none⟩)]] w fun x w' => ∃ v1, x = .returned (.agg #[.int .i64 (mkB (outB id b)).f0, v1]) ∧ Kd.V k33 33 w' w.heap.size (fun k => w.heap.size ≤ k) v1 (mkB (outB id b)).f1 ∧ Below w.heap.size w w' := by
 have hz := below_alloc (below_alloc (Below.refl w.heap.size w) (.cells #[.int .i64 b.f0, .slice A b.f1.length c] 109)) (.cells #[.int .i64 0, .slice none 0 0] 109)
 have HZ := za hz
 have HR := za (Kd.C_below hr hz)
 have HC := za (h.below hz)
 have HX := za (heap_alloc_new (w.alloc (.cells #[.int .i64 b.f0, .slice A b.f1.length c] 109)) (.cells #[.int .i64 0, .slice none 0 0] 109))
 have hnil := fun W => b7c (.func 108) #[] #[.pointer (some ⟨gi, 0, none⟩)] W
 clear hz hr h
 go_enter Tryz.func107, Tryz.ntmps107
 go_wp2
 obtain ⟨wz, hwz⟩ : ∃ wz : World, wz = (w.alloc (.cells #[.int .i64 b.f0, .slice A b.f1.length c] 109)).alloc (.cells #[.int .i64 0, .slice none 0 0] 109) := ⟨_, rfl⟩
 rw [← hwz] at HZ HR HC HX ⊢
 rw [World.size_alloc] at HX
 clear hwz
 go_loopw [5, 11] (fun q i wr => ∃ m : Nat, m ≤ b.f1.length ∧ i = .int .i64 m ∧ Aside0 (Kd.R k33 33 wr wz.heap.size (fun _ => True) q ((b.f1.take m).filter (fun e => decide (e.f1 ≠ id)))) ∧ Aside0 (Below wz.heap.size wz wr)) (fun _ i _ => b.f1.length - (intOf i).toNat)
 case atStart => exact ⟨0, Nat.zero_le _, rfl, ⟨Kd.R_nil _ _ _ _ _⟩, ⟨Below.refl _ _⟩⟩
 case round =>
  obtain ⟨m, hm, rfl, HQ, HB⟩ := hrel
  by_cases hlt : m < b.f1.length
  · obtain ⟨e, he⟩ : ∃ e, b.f1[m]? = some e := ⟨_, List.getElem?_eq_getElem hlt⟩
    obtain ⟨ad, e1, y0, y1⟩ := a0e (Kd.C_below HR.out HB.out) (m : Int) (by omega) (by omega)
    subst e1
    rw [Int.toNat_natCast, b2m he] at y0 y1
    have HT := za (b3v (id := id) he)
    have hql : ((b.f1.take m).filter (fun e => decide (e.f1 ≠ id))).length ≤ 1000000 := Nat.le_trans (List.length_filter_le _ _) (by rw [List.length_take]; omega)
    have HQL := za hql
    clear he hql
    by_cases hi : e.f1 = id
    · have HT2 := HT.out
      rw [if_pos hi, List.append_nil] at HT2
      have HT3 := za HT2
      have di : decide (e.f1 = id) = true := decide_eq_true hi
      clear HT2 hi
      go_wp2_with fail
      refine (ld3 id gi e.f1 _ ((HC.out.below HB.out).below (below_alloc (Below.refl _ _) _))).mono ?_
      rintro y w2 ⟨rfl, rfl⟩
      go_wp2
      go_roundw
      case rel => exact ⟨m + 1, by omega, by go_num, ⟨by rw [HT3.out]; exact Kd.R_alloc HQ.out _⟩, ⟨below_alloc HB.out _⟩⟩
      case measure => simp [intOf]; omega
    · have HT2 := HT.out
      rw [if_neg hi] at HT2
      have HT3 := za HT2
      have di : decide (e.f1 = id) = false := decide_eq_false hi
      clear HT2 hi
      go_wp2_with fail
      refine (ld3 id gi e.f1 _ ((HC.out.below HB.out).below (below_alloc (Below.refl _ _) _))).mono ?_
      rintro y w2 ⟨rfl, rfl⟩
      go_wp2_with (at_builtin; go_loud (refine Kd.R_append k33 (w0 := wz) wz.heap.size rfl (.tmp 24) (.tmp 26) 35 33 (.agg #[(.int .u64 0), (.int .i64 0)]) 16 rfl Tryz.underlying35 a0m rfl (by decide) (by decide) u5 ((b.f1.take m).filter (fun e => decide (e.f1 ≠ id))) e [.int .u64 e.f0, .int .i64 e.f1] (fun _ => True) (fun _ => False) rfl (by simp [Act.eval]) (a0v _ _ _ e) (fun _ hk => hk.elim) (fun _ _ => trivial) (Kd.R_alloc HQ.out _) (below_alloc HB.out _) (below_alloc HB.out _).size (by have := HQL.out; omega) ?_; intro v1 w3 ho1 hb1 hg1 hat1; have HQ1 := za ho1; have HB1 := za hb1; clear ho1 hb1 hg1 hat1))
      go_roundw
      case rel => exact ⟨m + 1, by omega, by go_num, ⟨by rw [HT3.out]; exact HQ1.out⟩, HB1⟩
      case measure => simp [intOf]; omega
  · obtain rfl : m = b.f1.length := by omega
    rw [List.take_length] at HQ
    have HOB : Aside0 (Kd.R k33 33 wr wz.heap.size (fun _ => True) u5 (outB id b)) := HQ
    have HOL := za (show (outB id b).length ≤ 1000000 from Nat.le_trans (List.length_filter_le _ _) hl)
    obtain ⟨A1, c1, e1⟩ := Kd.R_slice HOB.out
    subst e1
    have HRD := za (Kd.R_reads' HOB.out)
    have HOF := za (show block_Of.f 100 (outB id b) = some ((mkB (outB id b)).f0, (mkB (outB id b)).f1) from a4n 100 _ (by have := HOL.out; omega) (by omega))
    clear HQ
    go_wp2_with fail
    refine (block_Of.calls 100 A1 c1 (outB id b) _ _ wr HRD.out.2.2 HRD.out.2.1 HOF.out).mono ?_
    rintro y w4 ⟨v4, rfl, hv4, hb4⟩
    obtain ⟨A4, c4, rfl⟩ := Kd.V_slice hv4
    have HV4 := za hv4
    have HB4 := za (below_then HB.out HB.out.size hb4)
    have hx := (HB4.out.block _ (Array.getElem?_eq_some_iff.1 HX.out).1).trans HX.out
    have x0 : w4.cell? ⟨w.heap.size + 1, 0, none⟩ = some (.int .i64 0) := by simp [World.cell?, hx]
    have x1 : w4.cell? ⟨w.heap.size + 1, 1, none⟩ = some (.slice none 0 0) := by simp [World.cell?, hx]
    have f0 : w4.frozen? ⟨w.heap.size + 1, 0, none⟩ = false := by simp [World.frozen?, hx]
    have f1 : w4.frozen? ⟨w.heap.size + 1, 1, none⟩ = false := by simp [World.frozen?, hx]
    clear hv4 hb4 hx
    have HWZ : Aside0 (w.heap.size + 1 < wr.heap.size) := ⟨Nat.lt_of_lt_of_le (Array.getElem?_eq_some_iff.1 HX.out).1 HB.out.size⟩
    have HV5 := za (Kd.V_mono (Kd.V_far (Kd.V_far HV4.out (p := ⟨w.heap.size + 1, 0, none⟩) (fun k hk => by have := HWZ.out; show k ≠ w.heap.size + 1; omega) (.int .i64 (mkB (outB id b)).f0)) (p := ⟨w.heap.size + 1, 1, none⟩) (fun k hk => by have := HWZ.out; show k ≠ w.heap.size + 1; omega) (.slice A4 (mkB (outB id b)).f1.length c4)) (ok' := fun k => w.heap.size ≤ k) (fun k hk => by have := HWZ.out; omega))
    go_wp2
    exact bodyPost_ret (v := .agg #[.int .i64 (mkB (outB id b)).f0, .slice A4 (mkB (outB id b)).f1.length c4]) (by simp [results, Tryz.results107, go_sem, x0, x1]) rfl ⟨_, rfl, HV5.out, ((below_step HZ.out HB4.out).setCell (Nat.le_succ _) _).setCell (Nat.le_succ _) _⟩
theorem b4q (P : Program) (w : World) (a : Addr) (m : Mode) (f : Fn) (x y : Array Value) : (store a (.func f x y) m).run P w = stored P w a (.func f x y) m := run_store P w a _ m rfl
attribute [local go_sem] b4q
theorem a5c {bs : List Bk} (h : Good bs) (id : Int) {i : Nat} {b : Bk} (hi : bs.findIdx? (hasB id) = some i) (hb : bs[i]? = some b) (hl : (allB bs).length ≤ 999999) :
 (a0u id bs).1 = true ∧ (outB id b = [] → Mrg (a0f (bs.eraseIdx i)) (a0u id bs).2 ∧ ∀ q ∈ bs.eraseIdx i, Sound q) ∧ (outB id b ≠ [] → Mrg (a0f (bs.set i (mkB (outB id b)))) (a0u id bs).2 ∧ ∀ q ∈ bs.set i (mkB (outB id b)), Sound q) := by
 have hlt := (List.getElem?_eq_some_iff.1 hb).1
 obtain ⟨h1, h2⟩ := b8h h id hi hb (fun q hq => by
  obtain ⟨k, hk, rfl⟩ := List.getElem_of_mem hq
  have := a1z (List.getElem?_eq_getElem hk)
  omega)
 refine ⟨by rw [h1], fun h0 => ?_, fun h0 => ?_⟩
 · rw [if_pos h0, List.append_nil] at h2
   rw [List.eraseIdx_eq_take_drop_succ]
   exact ⟨h2, fun q hq => h.snd q ((a9r bs i).subset hq)⟩
 · rw [if_neg h0, List.append_assoc] at h2
   refine ⟨by rw [List.set_eq_take_append_cons_drop, if_pos hlt]; exact h2, fun q hq => ?_⟩
   rcases List.mem_or_eq_of_mem_set hq with hq | rfl
   · exact h.snd q hq
   · exact a5u h0
theorem a5j {bs : List Bk} {id : Int} (hi : bs.findIdx? (hasB id) = none) : a0u id bs = (false, bs) := by unfold a0u; rw [hi]
theorem b2l (l : List Bk) : (allB (a0f l)).length = (allB l).length := ((a4j l).flatMap_right _).length_eq
theorem b3j {bs : List Bk} (h : Good bs) (id : Int) (hl : (allB bs).length ≤ 999999) : (allB (a0u id bs).2).length ≤ (allB bs).length := by
 cases hi : bs.findIdx? (hasB id) with
 | none => rw [a5j hi]; exact Nat.le_refl _
 | some i =>
  have hlt : i < bs.length := by rw [List.findIdx?_eq_some_iff_getElem] at hi; exact hi.1
  have hb := List.getElem?_eq_getElem hlt
  obtain ⟨_, h1, h2⟩ := a5c h id hi hb hl
  have e1 : bs = bs.take i ++ bs[i] :: bs.drop (i + 1) := by
   conv => lhs; rw [← List.take_append_drop i bs, List.drop_eq_getElem_cons hlt]
  have hc : (allB bs).length = (allB (bs.take i)).length + (bs[i].f1.length + (allB (bs.drop (i + 1))).length) := by
   conv => lhs; rw [e1, a1g, a1l, List.length_append, List.length_append]
  have ho : (outB id bs[i]).length ≤ bs[i].f1.length := List.length_filter_le _ _
  by_cases h0 : outB id bs[i] = []
  · rw [← a5q (h1 h0).1, b2l, List.eraseIdx_eq_take_drop_succ, a1g, List.length_append]
    omega
  · rw [← a5q (h2 h0).1, b2l, List.set_eq_take_append_cons_drop, if_pos hlt, a1g, a1l, List.length_append, List.length_append]
    have : (mkB (outB id bs[i])).f1.length = (outB id bs[i]).length := a0i _
    omega
theorem b8g [XSet] (base p : Nat) (v : Value) (bs : List Bk) (id : Int) (w : World) (hs : LsmAt w base p v bs) (hg : Good bs) (hn : bs.length ≤ 18) (hl : (allB bs).length ≤ 999999) :
 Calls Tryz.prog 80 #[.pointer (some ⟨p, 0, none⟩), .int .i64 id] w fun x w' => x = .returned (.bool (a0u id bs).1) ∧ ∃ v', LsmAt w' base p v' (a0u id bs).2 ∧ Turn w w' p v v' := by
 have hz := below_alloc (below_alloc (Below.refl w.heap.size w) (.cells #[.int .i64 id] 3)) (.cells #[.func (.func 105) #[] #[.pointer (some ⟨w.heap.size, 0, none⟩)]] 90)
 have HZ := za hz
 have hcf : CapF ((w.alloc (.cells #[.int .i64 id] 3)).alloc (.cells #[.func (.func 105) #[] #[.pointer (some ⟨w.heap.size, 0, none⟩)]] 90)) (w.heap.size + 1) w.heap.size id := ⟨(a2j w _ _).2.1, (a2j w _ _).1⟩
 have HCF := za hcf
 have HLZ := za (hs.below hz)
 have hpz := HLZ.out.cell
 obtain ⟨A, c, rfl, hc, hC⟩ := HLZ.out.reads
 have HC := za hC
 have HG := za hg
 have HL := za hl
 clear hz hcf hs hg hC hl
 go_enter Tryz.func80, Tryz.ntmps80
 go_wp2_with fail
 refine (bidx id (w.heap.size + 1) w.heap.size A c bs _ HC.out hc (by omega) (by have := HL.out; omega) HCF.out).mono ?_
 rintro y w1 ⟨rfl, hb1⟩
 have HL1 := za (HLZ.out.below hb1)
 have HCF1 := za (HCF.out.below hb1)
 have HB1 := za (below_step HZ.out hb1)
 clear hb1 hpz HC
 cases hf : bs.findIdx? (hasB id) with
 | none =>
  have HD := za (a5j hf)
  clear hf
  rw [show idxV none = -1 from rfl]
  go_wp2
  go_ret
  exact ⟨by rw [HD.out]; rfl, _, by rw [HD.out]; exact HL1.out, Turn.of_below HB1.out p _⟩
 | some i =>
  have hlt : i < bs.length := by rw [List.findIdx?_eq_some_iff_getElem] at hf; exact hf.1
  obtain ⟨b, hb⟩ : ∃ b, bs[i]? = some b := ⟨_, List.getElem?_eq_getElem hlt⟩
  have HD := za (a5c HG.out id hf hb HL.out)
  have HLF := za (b3j HG.out id HL.out)
  have HBb := za hb
  have HI := za hlt
  clear hf hb
  rw [show idxV (some i) = (i : Int) from rfl]
  obtain ⟨g, cap, hv, _, hgl, _⟩ := Kd.N_form HL1.out.row (by omega)
  injection hv with e1 e2 e3
  subst e1; subst e3
  obtain ⟨A1, k1, x0, x1, xV⟩ := a8e HL1.out.row HBb.out
  obtain ⟨_, _, _, _, _, _, xf⟩ := a2g HL1.out.row HBb.out
  have hp1 := HL1.out.cell
  have hin : i < bs.length := hlt
  have hin2 : (i : Int) < (bs.length : Int) := by omega
  have hin3 : (0 : Int) ≤ (i : Int) := by omega
  have d0 : decide ((i : Int) < 0) = false := decide_eq_false (by omega)
  have HXV := za xV
  have HXF := za xf
  have HGL := za (show g < w1.heap.size ∧ p < w1.heap.size ∧ g ≠ p from ⟨(HL1.out.own g rfl).2.1, HL1.out.lt, (HL1.out.own g rfl).2.2⟩)
  have HFL := za (show b.f1.length ≤ 1000000 by have h1 := a1z HBb.out; have h2 := HL.out; omega)
  clear xV xf hgl hlt
  have HCB := za (Kd.C_below (Kd.V_reads' (HXV.out 0)).2.2 (below_drew (Below.refl w1.heap.size w1)))
  have HCC := za (Kd.V_reads' (HXV.out 0)).2.1
  have HCI := za (HCF1.out.2.below (below_drew (Below.refl w1.heap.size w1)))
  have HNW := za (show ∀ k, w1.drew.heap.size ≤ k → (XSet.ok k ∧ k ≠ p) ∧ k ≠ g from fun k hk => by have h1 := HGL.out; have h2 : w1.heap.size ≤ k := hk; exact ⟨⟨HL1.out.fresh h2, by omega⟩, by omega⟩)
  go_upto_region 5 with fail
  go_cut [1] (fun s1 wx => Aside0 (LsmAt wx base p (.slice (some ⟨g, 0, none⟩) bs.length c) (bs.set i (mkB (outB id b))) ∧ Turn w wx p (.slice (some ⟨g, 0, none⟩) bs.length c) (.slice (some ⟨g, 0, none⟩) bs.length c)))
  case first =>
   go_region_with (first
    | (go_at_call 107; go_loud (refine (b4k id w.heap.size b A1 k1 w1.drew HCB.out HCC.out HFL.out HCI.out).mono ?_; rintro y w5 ⟨v5, rfl, hv5, hb5⟩; obtain ⟨A5, c5, rfl⟩ := Kd.V_slice hv5; have HV5 := za hv5; have HB5 := za (below_step (below_drew (Below.refl w1.heap.size w1)) hb5); have n0 := pw_cell_below HB5.out x0; have n1 := pw_cell_below HB5.out x1; have np := pw_cell_below HB5.out hp1; have f0 := a2b HB5.out HGL.out.1 (HXF.out 0); have f1 := a2b HB5.out HGL.out.1 (HXF.out 1); rw [Nat.add_zero] at f0; have HL5 := za (HL1.out.below HB5.out); clear hv5 hb5)))
   all_goals (go_wp2_with fail)
   all_goals go_meet
   all_goals exact ⟨⟨(Below.heap_setCell _ ⟨g, i * 2 + 1, none⟩ _ p (fun e => HGL.out.2.2 e.symm)).trans ((Below.heap_setCell _ ⟨g, i * 2, none⟩ _ p (fun e => HGL.out.2.2 e.symm)).trans HL5.out.hd), a3r HL5.out.row HI.out (a8g HV5.out HNW.out), HL5.out.lo, by simp only [World.setCell, Array.size_modify]; exact HL5.out.xs⟩, (Turn.of_below (below_step HB1.out HB5.out) p _).trans (a4y (a3o (grown_of_below (Below.refl _ _) _)))⟩
  case rest =>
   have HCT := hcut
   have HL7 := za HCT.out.1
   have HT7 := za HCT.out.2
   have hp7 := HL7.out.cell
   have hsx : (bs.set i (mkB (outB id b)))[i]? = some (mkB (outB id b)) := by rw [List.getElem?_set_self HI.out]
   obtain ⟨A6, k6, z0, z1, _, _, _⟩ := a2g HL7.out.row hsx
   have hxl : (mkB (outB id b)).f1.length = (outB id b).length := a0i _
   have HBZ := za (show base ≤ wc.heap.size from Nat.le_of_lt (Nat.lt_of_le_of_lt HL7.out.lo HL7.out.lt))
   have HNB := za (show bs.length ≤ 1000 ∧ bs.length ≤ 19 by omega)
   have HFI := za (show (allB (a0u id bs).2).length ≤ 1000000 from Nat.le_trans HLF.out (by have := HL.out; omega))
   clear x0 x1 hp1 hsx
   by_cases h0 : outB id b = []
   · have hM := HD.out.2.1 h0
     have HM := za hM
     have h00 : (mkB (outB id b)).f1.length = 0 := by rw [hxl, h0]; rfl
     rw [h00] at z1
     have HER := za (show (bs.set i (mkB (outB id b))).eraseIdx i = bs.eraseIdx i by
      rw [List.eraseIdx_eq_take_drop_succ, List.eraseIdx_eq_take_drop_succ, List.take_set, List.drop_set, if_pos (by omega)]
      rw [List.set_eq_of_length_le (by rw [List.length_take]; omega)])
     have HEL := za (show (bs.eraseIdx i).length ≤ 19 from Nat.le_trans (List.length_eraseIdx_le _ _) HNB.out.2)
     clear h0 hM h00 hxl
     go_wp2_with fail
     refine (bdel base g bs.length c i _ (bs.set i (mkB (outB id b))) _ HL7.out.row HI.out HNB.out.1 HBZ.out).mono ?_
     rintro y w8 ⟨rfl, hN8, hg8⟩
     rw [HER.out] at hN8
     have HN8 := za hN8
     have HG8 := za hg8
     have HP8 := za ((hg8.block p HL7.out.lt (fun e => HGL.out.2.2 (by injection e with e; exact e.symm))).trans HL7.out.hd)
     have rp : w8.cell? ⟨p, 0, none⟩ = some (.slice (some ⟨g, 0, none⟩) bs.length c) := by simp [World.cell?, HP8.out]
     have rf : w8.frozen? ⟨p, 0, none⟩ = false := by simp [World.frozen?, HP8.out]
     have HL9 := za (show LsmAt (w8.setCell ⟨p, 0, none⟩ (.slice (some ⟨g, 0, none⟩) (bs.length - 1) c)) base p (.slice (some ⟨g, 0, none⟩) (bs.length - 1) c) (bs.eraseIdx i) from ⟨a6b p w8 _ _ _ HP8.out, Kd.N_far HN8.out (fun k hk => hk.2) _, HL7.out.lo, Nat.le_trans HL7.out.xs (by simp only [World.setCell, Array.size_modify]; exact HG8.out.size)⟩)
     clear hN8 hg8 z0 z1
     go_wp2_with fail
     refine (a7m base p _ (bs.eraseIdx i) (a0u id bs).2 _ HL9.out HM.out.2 HM.out.1 HEL.out HFI.out).mono ?_
     rintro y w9 ⟨rfl, v9, hl9, ht9⟩
     have HR := za (show LsmAt w9 base p v9 (a0u id bs).2 ∧ Turn w w9 p (.slice (some ⟨g, 0, none⟩) bs.length c) v9 from ⟨hl9, ((HT7.out.trans (a4y HG8.out)).trans (a7s (u := .slice (some ⟨g, 0, none⟩) (bs.length - 1) c) (.inl rfl))).trans ht9⟩)
     clear hl9 ht9
     go_wp2
     go_ret
     exact ⟨by rw [HD.out.1]; rfl, v9, HR.out.1, HR.out.2⟩
   · have hM := HD.out.2.2 h0
     have HM := za hM
     have hpos : 0 < (outB id b).length := by
      cases hq : outB id b with
      | nil => exact absurd hq h0
      | cons _ _ => simp
     have q1 : (((mkB (outB id b)).f1.length : Int) == 0) = false := by rw [beq_eq_false_iff_ne]; omega
     have q2 : decide ((mkB (outB id b)).f1.length = 0) = false := decide_eq_false (by omega)
     have q3 : decide ((mkB (outB id b)).f1 = []) = false := decide_eq_false (by intro e; rw [e] at hxl; simp at hxl; omega)
     have q4 : ¬ ((mkB (outB id b)).f1 = []) := by intro e; rw [e] at hxl; simp at hxl; omega
     have HSL := za (show (bs.set i (mkB (outB id b))).length ≤ 19 by rw [List.length_set]; exact HNB.out.2)
     clear h0 hM hxl hpos
     go_wp2_with fail
     refine (a7m base p _ (bs.set i (mkB (outB id b))) (a0u id bs).2 _ HL7.out HM.out.2 HM.out.1 HSL.out HFI.out).mono ?_
     rintro y w9 ⟨rfl, v9, hl9, ht9⟩
     have HR := za (show LsmAt w9 base p v9 (a0u id bs).2 ∧ Turn w w9 p (.slice (some ⟨g, 0, none⟩) bs.length c) v9 from ⟨hl9, HT7.out.trans ht9⟩)
     clear hl9 ht9 q1 q2 q3 q4 z0 z1
     go_wp2
     go_ret
     exact ⟨by rw [HD.out.1]; rfl, v9, HR.out.1, HR.out.2⟩
end Go.Proofs.YthghkglkifeagaaGreat.V
end
section
set_option linter.unusedVariables false
set_option linter.unusedSimpArgs false
namespace Go.Proofs.YthghkglkifeagaaGreat.V
open Go.RowKit Go.Proofs.YthghkglkifeagaaGreatW.PrintWords Go.Proofs.YthghkglkifeagaaGreatW.PrintLast Go.Proofs.YthghkglkifeagaaGreatW.PrintMore
theorem c1t {bs : List Bk} (h : Good bs) (id : Int) (hl : (allB bs).length ≤ 999999) : Good (a0u id bs).2 := by
 cases hi : bs.findIdx? (hasB id) with
 | none => rw [a5j hi]; exact h
 | some i =>
  have hlt : i < bs.length := by rw [List.findIdx?_eq_some_iff_getElem] at hi; exact hi.1
  have hb := List.getElem?_eq_getElem hlt
  have hd := b3j h id hl
  obtain ⟨_, h1, h2⟩ := a5c h id hi hb hl
  by_cases h0 : outB id bs[i] = []
  · have hm := (h1 h0).1
    exact a9u _ _ rfl hm (by rw [← hm.all.length_eq]; omega)
  · have hm := (h2 h0).1
    exact a9u _ _ rfl hm (by rw [← hm.all.length_eq]; omega)
theorem b5v {bs : List Bk} (h : Good bs) (id : Int) (hu : Unlike (allB bs)) (hl : (allB bs).length ≤ 999999) :
 (a0u id bs).1 = ((allB bs).any fun e => decide (e.f1 = id)) ∧ (allB (a0u id bs).2).Perm ((allB bs).filter fun e => decide (e.f1 ≠ id)) := by
 cases hi : bs.findIdx? (hasB id) with
 | none =>
  rw [a5j hi]
  have hn : ∀ e ∈ allB bs, e.f1 ≠ id := by
   intro e he h1
   obtain ⟨b, hb, heb⟩ := List.mem_flatMap.1 he
   have := (List.findIdx?_eq_none_iff.1 hi) b hb
   simp [hasB] at this
   exact this e heb h1
  refine ⟨?_, by rw [a6y hn]⟩
  symm
  simpa using hn
 | some i =>
  rw [List.findIdx?_eq_some_iff_getElem] at hi
  obtain ⟨hlt, hhas, hbefore⟩ := hi
  have hi : bs.findIdx? (hasB id) = some i := by rw [List.findIdx?_eq_some_iff_getElem]; exact ⟨hlt, hhas, hbefore⟩
  have hb := List.getElem?_eq_getElem hlt
  obtain ⟨h0, h1, h2⟩ := a5c h id hi hb hl
  have e1 : bs = bs.take i ++ bs[i] :: bs.drop (i + 1) := by
   conv => lhs; rw [← List.take_append_drop i bs, List.drop_eq_getElem_cons hlt]
  have e2 : allB bs = allB (bs.take i) ++ (bs[i].f1 ++ allB (bs.drop (i + 1))) := by
   conv => lhs; rw [e1, a1g, a1l]
  obtain ⟨x, hx, hxi⟩ : ∃ x ∈ bs[i].f1, x.f1 = id := by simpa [hasB] using hhas
  have t1 : (allB (bs.take i)).filter (fun e => decide (e.f1 ≠ id)) = allB (bs.take i) := by
   refine a6y ?_
   intro e he h3
   obtain ⟨b, hb, heb⟩ := List.mem_flatMap.1 he
   obtain ⟨j, hj, rfl⟩ := List.getElem_of_mem hb
   rw [List.length_take] at hj
   have := hbefore j (by omega)
   rw [List.getElem_take] at heb
   simp [hasB] at this
   exact this e heb h3
  have t2 : (allB (bs.drop (i + 1))).filter (fun e => decide (e.f1 ≠ id)) = allB (bs.drop (i + 1)) := by
   refine a6y ?_
   intro e he h3
   rw [e2] at hu
   have hu2 := hu.sub (List.sublist_append_right _ _)
   unfold Unlike at hu2
   rw [List.map_append, List.nodup_append] at hu2
   exact hu2.2.2 x.f1 (List.mem_map_of_mem hx) e.f1 (List.mem_map_of_mem he) (by rw [hxi, h3])
  have e3 : (allB bs).filter (fun e => decide (e.f1 ≠ id)) = allB (bs.take i) ++ (outB id bs[i] ++ allB (bs.drop (i + 1))) := by
   rw [e2, List.filter_append, List.filter_append, t1, t2]
   rfl
  refine ⟨?_, ?_⟩
  · rw [h0]
    symm
    rw [List.any_eq_true]
    exact ⟨x, by rw [e2]; simp [hx], by simpa using hxi⟩
  · rw [e3]
    by_cases h4 : outB id bs[i] = []
    · refine (h1 h4).1.all.trans ?_
      refine ((a4j _).flatMap_right _).trans ?_
      rw [h4, List.eraseIdx_eq_take_drop_succ]
      show (allB _).Perm _
      rw [a1g]
      exact List.Perm.refl _
    · refine (h2 h4).1.all.trans ?_
      refine ((a4j _).flatMap_right _).trans ?_
      rw [List.set_eq_take_append_cons_drop, if_pos hlt]
      show (allB _).Perm _
      rw [a1g, a1l]
      refine List.Perm.append_left _ (List.Perm.append_right _ ?_)
      exact a0n _
end Go.Proofs.YthghkglkifeagaaGreat.V
end
