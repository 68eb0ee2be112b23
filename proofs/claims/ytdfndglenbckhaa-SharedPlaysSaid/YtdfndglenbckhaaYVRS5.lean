-- a text of this work, without what this claim doesn't use (wip/shake.py)
import Derived.Test.YtdfndglenbckhaaYVSh5
import Derived.Test.YtdfndglenbckhaaYVGenS
import Derived.Test.YtdfndglenbckhaaYVPvergerref51
import Derived.Test.YtdfndglenbckhaaYVP5T
import Derived.Test.YtdfndglenbckhaaYVPvergerref5
section
set_option linter.unusedVariables false
set_option linter.unusedSimpArgs false
namespace Go.Proofs.Ytdfndglenbckhaa.V
open Go.RowKit Go.Proofs.YtdfndglenbckhaaW.PrintWords Go.Proofs.YtdfndglenbckhaaW.PrintLast Go.Proofs.YtdfndglenbckhaaW.PrintMore
def BoxI (W : World) (g : Nat) (id : Int) : Prop := W.heap[g]? = some (.cells #[.int .i64 id] 3 (0, 0))
theorem BoxI.below {W W1 : World} {g : Nat} {id : Int} (h : BoxI W g id) (hb : Below W.heap.size W W1) : BoxI W1 g id := blk_below h hb
theorem BoxI.c0 {W : World} {g : Nat} {id : Int} (h : BoxI W g id) : W.cell? ⟨g, 0, none⟩ = some (.int .i64 id) := (blk_cell h 0).trans rfl
def BoxF (W : World) (f g : Nat) (id : Int) : Prop := W.heap[f]? = some (.cells #[.func (.func 60) #[] #[.pointer (some ⟨g, 0, none⟩)]] 92 (0, 0)) ∧ BoxI W g id
theorem BoxF.below {W W1 : World} {f g : Nat} {id : Int} (h : BoxF W f g id) (hb : Below W.heap.size W W1) : BoxF W1 f g id := ⟨blk_below h.1 hb, h.2.below hb⟩
theorem BoxF.c0 {W : World} {f g : Nat} {id : Int} (h : BoxF W f g id) : W.cell? ⟨f, 0, none⟩ = some (.func (.func 60) #[] #[.pointer (some ⟨g, 0, none⟩)]) := (blk_cell h.1 0).trans rfl
def isId (id : Int) (e : E) : Bool := decide (e.f1 = id)
set_option maxHeartbeats 400000 in
theorem askD1 (g : Nat) (id : Int) : AskE 60 #[.pointer (some ⟨g, 0, none⟩)] (isId id) (fun W => BoxI W g id) := by
 refine ⟨⟨_, Try.func60, by kernel_rfl, rfl⟩, fun _ _ h hb => h.below hb, fun e W hi => ?_⟩
 have c0 := (hi.below (below_alloc (Below.refl W.heap.size W) (.cells #[.int .u64 e.f0, .int .i64 e.f1] 46))).c0
 clear hi
 show Calls Try.prog 60 #[.agg #[.int .u64 e.f0, .int .i64 e.f1], .pointer (some ⟨g, 0, none⟩)] W _
 unfold isId
 go_enter Try.func60, Try.ntmps60
 go_wp2
 go_ret
 exact ⟨by first | rfl | simp, below_alloc (Below.refl _ _) _⟩
set_option maxHeartbeats 400000 in
theorem askD3 (g : Nat) (id : Int) : AskI 64 #[.pointer (some ⟨g, 0, none⟩)] (fun x => decide (x = id)) (fun W => BoxI W g id) := by
 refine ⟨⟨_, Try.func64, by kernel_rfl, rfl⟩, fun _ _ h hb => h.below hb, fun x W hi => ?_⟩
 have c0 := hi.c0
 clear hi
 show Calls Try.prog 64 #[.int .i64 x, .pointer (some ⟨g, 0, none⟩)] W _
 go_enter Try.func64, Try.ntmps64
 go_wp2
 go_ret
 exact ⟨by first | rfl | simp, Below.refl _ _⟩
def hasId (id : Int) (b : Bk) : Bool := b.f1.any (isId id)
set_option maxHeartbeats 800000 in
theorem askD2 (f g : Nat) (id : Int) (bs : List Bk) (ha : (allB bs).length ≤ 1000000) : AskB 61 #[.pointer (some ⟨f, 0, none⟩)] (hasId id) bs (fun W => BoxF W f g id) := by
 refine ⟨⟨_, Try.func61, by kernel_rfl, rfl⟩, fun _ _ h hb => h.below hb, fun b A c W hb hi hr hc => ?_⟩
 have hl : b.f1.length ≤ 1000000 := by
  obtain ⟨i, hi, rfl⟩ := List.getElem_of_mem hb
  have := allB_at_le (List.getElem?_eq_getElem hi)
  omega
 have HZ := Aside0.mk (below_alloc (Below.refl W.heap.size W) (.cells #[.int .i64 b.f0, .slice A b.f1.length c] 84))
 have HI := Aside0.mk (hi.below HZ.out)
 have c0 := HI.out.c0
 have HR := Aside0.mk (Kd.C_below hr HZ.out)
 clear hi hr hb
 show Calls Try.prog 61 #[.agg #[.int .i64 b.f0, .slice A b.f1.length c], .pointer (some ⟨f, 0, none⟩)] W _
 unfold hasId
 go_enter Try.func61, Try.ntmps61
 go_wp2_with fail
 refine (econt_gen A c b.f1 _ (askD1 g id) HR.out hc hl HI.out.2).mono ?_
 rintro x w2 ⟨rfl, hb2⟩
 have HB2 := Aside0.mk (below_step HZ.out hb2)
 clear hb2
 go_wp2
 go_ret
 exact ⟨rfl, HB2.out⟩
def dropS (id : Int) (bs : List Bk) : Bool × List Bk :=
  match bs.findIdx? (hasId id) with
  | none => (false, bs)
  | some i => (true, if (outB id (bs.getD i ⟨0, []⟩)) = [] then bs.eraseIdx i else bs.set i (mkB (outB id (bs.getD i ⟨0, []⟩))))
theorem out_filter (id : Int) (b : Bk) : (b.f1.filter fun e => !decide (e.f1 = id)) = outB id b := by
 unfold outB
 congr 1
 funext e
 by_cases h : e.f1 = id <;> simp [h]
theorem dropS_okB {id : Int} {bs : List Bk} (h : ∀ b ∈ bs, okB b = true) : ∀ b ∈ (dropS id bs).2, okB b = true := by
 unfold dropS
 cases hf : bs.findIdx? (hasId id) with
 | none => exact h
 | some i =>
  dsimp only
  split
  · exact fun b hb => h b (List.mem_of_mem_eraseIdx hb)
  · intro b hb
    rcases List.mem_or_eq_of_mem_set hb with hb | rfl
    · exact h b hb
    · exact okB_mk _
theorem set_all {bs : List Bk} {i : Nat} {b : Bk} (hb : bs[i]? = some b) (l : List E) : (allB (bs.set i (mkB l))).Perm (l ++ allB (bs.eraseIdx i)) := by
 have hlt := (List.getElem?_eq_some_iff.1 hb).1
 have hb' : (bs.set i (mkB l))[i]? = some (mkB l) := by rw [List.getElem?_set_self hlt]
 have h1 := erase_all hb'
 have h2 : (bs.set i (mkB l)).eraseIdx i = bs.eraseIdx i := by
  rw [List.eraseIdx_eq_take_drop_succ, List.eraseIdx_eq_take_drop_succ, List.take_set, List.drop_set, if_pos (by omega), List.set_eq_of_length_le (by rw [List.length_take]; omega)]
 rw [h2] at h1
 exact h1.trans ((sortE_perm l).append_right _)
theorem dropS_some {id : Int} {bs : List Bk} {i : Nat} {b : Bk} (hf : bs.findIdx? (hasId id) = some i) (hb : bs[i]? = some b) : dropS id bs = (true, if outB id b = [] then bs.eraseIdx i else bs.set i (mkB (outB id b))) := by
 unfold dropS
 rw [hf]
 have : bs.getD i ⟨0, []⟩ = b := by rw [List.getD_eq_getElem?_getD, hb]; rfl
 simp only [this]
theorem dropS_none {id : Int} {bs : List Bk} (hf : bs.findIdx? (hasId id) = none) : dropS id bs = (false, bs) := by unfold dropS; rw [hf]
theorem dropS_all {id : Int} {bs : List Bk} {i : Nat} {b : Bk} (hf : bs.findIdx? (hasId id) = some i) (hb : bs[i]? = some b) : (allB (dropS id bs).2).Perm (outB id b ++ allB (bs.eraseIdx i)) := by
 rw [dropS_some hf hb]
 dsimp only
 split
 · rename_i h0; rw [h0]; exact List.Perm.refl _
 · exact set_all hb _
theorem dropS_few {id : Int} {bs : List Bk} : (dropS id bs).2.length ≤ bs.length ∧ (allB (dropS id bs).2).length ≤ (allB bs).length := by
 cases hf : bs.findIdx? (hasId id) with
 | none => rw [dropS_none hf]; exact ⟨Nat.le_refl _, Nat.le_refl _⟩
 | some i =>
  have hlt : i < bs.length := by rw [List.findIdx?_eq_some_iff_getElem] at hf; exact hf.1
  have hb := List.getElem?_eq_getElem hlt
  refine ⟨?_, ?_⟩
  · rw [dropS_some hf hb]
    dsimp only
    split
    · exact List.length_eraseIdx_le _ _
    · rw [List.length_set]; exact Nat.le_refl _
  · rw [(dropS_all hf hb).length_eq, (erase_all hb).length_eq, List.length_append, List.length_append]
    have : (outB id bs[i]).length ≤ bs[i].f1.length := List.length_filter_le _ _
    omega
def DropPost (base p : Nat) (ver : Int) (bs : List Bk) (id : Int) (w : World) (x : Ending) (w' : World) : Prop :=
  x = .returned (.bool (dropS id bs).1) ∧ ∃ v', ShAt w' base p (if (dropS id bs).1 = true then ver + 1 else ver) v' (dropS id bs).2 ∧ w.grownBy w' (some p)
theorem dropPost_mk {base p : Nat} {ver : Int} {bs : List Bk} {id : Int} {w w' : World} {x : Ending} {r : Bool} {cs : List Bk} {v : Value} {ver' : Int} (hd : dropS id bs = (r, cs)) (hx : x = .returned (.bool r)) (hv : ver' = if r = true then ver + 1 else ver) (hs : ShAt w' base p ver' v cs) (hg : w.grownBy w' (some p)) : DropPost base p ver bs id w x w' := by
 unfold DropPost
 rw [hd]
 subst hv
 exact ⟨hx, v, hs, hg⟩
theorem run_store_funcS (P : Program) (w : World) (a : Addr) (m : Mode) (f : Fn) (x y : Array Value) : (store a (.func f x y) m).run P w = stored P w a (.func f x y) m := run_store P w a _ m rfl
attribute [local go_sem] run_store_funcS
set_option maxRecDepth 100000 in
set_option maxHeartbeats 8000000 in
theorem sh_drop (base p : Nat) (ver : Int) (v : Value) (bs : List Bk) (id : Int) (w : World) (h : ShAt w base p ver v bs) (hv : 0 ≤ ver ∧ ver ≤ 1000000) (hl : bs.length ≤ 900) (ha : (allB bs).length ≤ 1000000) (hok : ∀ b ∈ bs, okB b = true) :
 Calls Try.prog 13 #[.pointer (some ⟨p, 0, none⟩), .int .i64 id] w (DropPost base p ver bs id w) := by
 have hz := below_alloc (below_alloc (Below.refl w.heap.size w) (.cells #[.int .i64 id] 3)) (.cells #[.func (.func 60) #[] #[.pointer (some ⟨w.heap.size, 0, none⟩)]] 92)
 have HZ := Aside0.mk hz
 have HBF := Aside0.mk (show BoxF ((w.alloc (.cells #[.int .i64 id] 3)).alloc (.cells #[.func (.func 60) #[] #[.pointer (some ⟨w.heap.size, 0, none⟩)]] 92)) (w.heap.size + 1) w.heap.size id from ⟨(two_boxes w _ _).2.1, (two_boxes w _ _).1⟩)
 have HS := Aside0.mk h
 have HV := Aside0.mk hv
 have HA := Aside0.mk ha
 have HOK := Aside0.mk hok
 have HSZ := Aside0.mk (h.below hz)
 have hpz := HSZ.out.cell1
 obtain ⟨A, c, hve, hc, hf0⟩ := HSZ.out.reads
 subst hve
 have HF := Aside0.mk hf0
 clear hz h ha hok hf0
 go_enter Try.func13, Try.ntmps13
 go_wp2_with fail
 refine (bidx_gen A c bs _ (askD2 (w.heap.size + 1) w.heap.size id bs HA.out) (Kd.F_now HF.out) hc (by omega) HBF.out).mono ?_
 rintro y w1 ⟨rfl, hb1⟩
 have HS1 := Aside0.mk (HSZ.out.below hb1)
 have HBF1 := Aside0.mk (HBF.out.below hb1)
 have HB1 := Aside0.mk (below_step HZ.out hb1)
 have HF1 := Aside0.mk (Kd.F_below HF.out hb1)
 clear hb1 hpz HF HBF HSZ
 cases hf : bs.findIdx? (hasId id) with
 | none =>
  have HD := Aside0.mk (dropS_none hf)
  clear hf
  rw [show posB none = -1 from rfl]
  go_wp2
  go_ret
  exact dropPost_mk HD.out rfl (if_neg (by simp)).symm HS1.out ⟨HB1.out.os, HB1.out.tape, HB1.out.output, HB1.out.size, fun k hk _ => HB1.out.block k hk⟩
 | some i =>
  have hlt : i < bs.length := by rw [List.findIdx?_eq_some_iff_getElem] at hf; exact hf.1
  obtain ⟨b, hb⟩ : ∃ b, bs[i]? = some b := ⟨_, List.getElem?_eq_getElem hlt⟩
  have HD := Aside0.mk (dropS_some hf hb)
  have HOKD := Aside0.mk (dropS_okB (id := id) HOK.out)
  have HFW := Aside0.mk (dropS_few (id := id) (bs := bs))
  have HBb := Aside0.mk hb
  have hp1 := HS1.out.cell1
  have hle := allB_at_le hb
  have HBL := Aside0.mk (show b.f1.length ≤ 1000000 by have := HA.out; omega)
  have d0 : decide ((i : Int) < 0) = false := decide_eq_false (by omega)
  clear hf hb hle
  rw [show posB (some i) = (i : Int) from rfl]
  go_wp2_with fail
  refine (bclone (fun k => k ≠ p) A c bs _ HF1.out hc (by omega)).mono ?_
  rintro y w2 ⟨v2, rfl, hn2, hb2⟩
  have HS2 := Aside0.mk (HS1.out.below hb2)
  have HB2 := Aside0.mk (below_step HB1.out hb2)
  have HI2 := Aside0.mk (HBF1.out.2.below hb2)
  have HN2 := Aside0.mk (show Kd.N k84 84 w2 w1.heap.size (fun k => k ≠ p) v2 bs from Kd.N_mono hn2 (fun k hk => by
   have := HS1.out.lt
   rcases hk with hk | hk
   · exact hk
   · omega))
  obtain ⟨g, cap, hform, hgb, hgl, _⟩ := Kd.N_form HN2.out (by omega)
  subst hform
  obtain ⟨A2, k2, x0, x1, hbl, hbk, hbf⟩ := bk_elem HN2.out HBb.out
  obtain ⟨_, _, e4, _, hbF⟩ := k84_openF hbk
  injection e4 with _ e4
  injection e4 with e4
  injection e4 with h1 h2 h3
  subst h1; subst h3
  have HCB := Aside0.mk (Kd.F_now hbF)
  have HXF := Aside0.mk hbf
  have HGL := Aside0.mk (show g < w2.heap.size ∧ w1.heap.size ≤ g ∧ p < w1.heap.size from ⟨hgl, hgb, HS1.out.lt⟩)
  have hin : (i : Int) < (bs.length : Int) := by omega
  have hin0 : (0 : Int) ≤ (i : Int) := by omega
  clear hn2 hb2 hp1 hbF hbk hbf hgl hgb
  go_wp2_with fail
  refine (shrink_gen b A2 k2 _ (askD3 w.heap.size id) HCB.out hbl HBL.out HI2.out).mono ?_
  rintro y w3 ⟨A3, c3, rfl, hv3, hb3⟩
  rw [out_filter] at hv3 ⊢
  have HB3 := Aside0.mk (below_step HB2.out hb3)
  have HS3 := Aside0.mk (HS2.out.below hb3)
  have n0 := pw_cell_below hb3 x0
  have n1 := pw_cell_below hb3 x1
  have f0 := froz_below hb3 HGL.out.1 (HXF.out 0)
  have f1 := froz_below hb3 HGL.out.1 (HXF.out 1)
  rw [Nat.add_zero] at f0
  have HN3 := Aside0.mk (Kd.N_below HN2.out hb3)
  have HN4 := Aside0.mk (show Kd.N k84 84 ((w3.setCell ⟨g, i * 2, none⟩ (.int .i64 (mkB (outB id b)).f0)).setCell ⟨g, i * 2 + 1, none⟩ (.slice A3 (mkB (outB id b)).f1.length c3)) w1.heap.size (fun k => k ≠ p) (.slice (some ⟨g, 0, none⟩) bs.length cap) (bs.set i (mkB (outB id b))) from
   bk_set HN3.out hlt (fk_new (base := 0) (N := w2.heap.size) (Kd.V_lower hv3 (Nat.zero_le _)) (fun k hk => by have := HGL.out; exact ⟨by have := HS2.out.lt; omega, by omega⟩)))
  have HB4 := Aside0.mk (show Below w.heap.size w ((w3.setCell ⟨g, i * 2, none⟩ (.int .i64 (mkB (outB id b)).f0)).setCell ⟨g, i * 2 + 1, none⟩ (.slice A3 (mkB (outB id b)).f1.length c3)) from below_set (below_set HB3.out (by have := HGL.out; have := HB1.out.size; omega)) (by have := HGL.out; have := HB1.out.size; omega))
  have HS4 := Aside0.mk (HS.out.below HB4.out)
  have hsx : (bs.set i (mkB (outB id b)))[i]? = some (mkB (outB id b)) := by rw [List.getElem?_set_self hlt]
  obtain ⟨A6, k6, z0, z1, _, _, _⟩ := bk_elem HN4.out hsx
  have hxl : (mkB (outB id b)).f1.length = (outB id b).length := sortE_length _
  have hsl : (bs.set i (mkB (outB id b))).length = bs.length := List.length_set
  have hp4 := HS4.out.cell0
  have HBZ := Aside0.mk (show w1.heap.size ≤ ((w3.setCell ⟨g, i * 2, none⟩ (.int .i64 (mkB (outB id b)).f0)).setCell ⟨g, i * 2 + 1, none⟩ (.slice A3 (mkB (outB id b)).f1.length c3)).heap.size by have := HGL.out; have := hb3.size; simp; omega)
  have HSL := Aside0.mk hsl
  clear hv3 hb3 hsx x0 x1 hsl
  by_cases h0 : outB id b = []
  · have h00 : (mkB (outB id b)).f1.length = 0 := by rw [hxl, h0]; rfl
    have HD2 := HD.out
    rw [if_pos h0] at HD2
    have HD3 := Aside0.mk HD2
    have HER := Aside0.mk (show (bs.set i (mkB (outB id b))).eraseIdx i = bs.eraseIdx i by
     rw [List.eraseIdx_eq_take_drop_succ, List.eraseIdx_eq_take_drop_succ, List.take_set, List.drop_set, if_pos (by omega)]
     rw [List.set_eq_of_length_le (by rw [List.length_take]; omega)])
    have HLN := Aside0.mk (show (bs.eraseIdx i).length = bs.length - 1 by rw [List.length_eraseIdx, if_pos hlt])
    have q1 : (((mkB (outB id b)).f1.length : Int) == 0) = true := by rw [h00]; rfl
    have q2 : decide ((mkB (outB id b)).f1.length = 0) = true := decide_eq_true h00
    have q3 : decide ((mkB (outB id b)).f1 = []) = true := decide_eq_true (List.length_eq_zero_iff.1 h00)
    clear h0 h00 hxl HD2
    go_wp2_with fail
    refine (bdel w1.heap.size g bs.length cap i _ (bs.set i (mkB (outB id b))) _ HN4.out hlt (by omega) HBZ.out).mono ?_
    rintro y w5 ⟨rfl, hn5, hg5⟩
    rw [HER.out] at hn5
    have HB5 := Aside0.mk (below_grown HB4.out hg5 (fun k hk => by injection hk with hk; have := HGL.out; have := HB1.out.size; omega))
    have HS5 := Aside0.mk (HS.out.below HB5.out)
    have hp5 := HS5.out.cell0
    have HN5 := Aside0.mk hn5
    have HSW := Aside0.mk (show (∀ b ∈ bs.eraseIdx i, okB b = true) ∧ (bs.eraseIdx i).length ≤ 1000 ∧ (allB (bs.eraseIdx i)).length ≤ 1000000 from by
     have h1 := HOKD.out
     have h2 := HFW.out
     rw [HD3.out] at h1 h2
     dsimp only at h1 h2
     exact ⟨h1, by have := h2.1; omega, by have := h2.2; have := HA.out; omega⟩)
    rw [← HLN.out]
    clear hn5 hg5 z0 z1 hp4 q1 q2 q3
    go_wp2_with fail
    refine (sh_swap_yes base p ver _ bs (bs.eraseIdx i) (some ⟨g, 0, none⟩) cap _ HS5.out HV.out (by have := Kd.N_F HN5.out; rwa [← HLN.out] at this) (by have := (Kd.N_reads' HN5.out).2.1; have := HLN.out; omega) HSW.out.1 HSW.out.2.1 HSW.out.2.2).mono ?_
    rintro y w6 ⟨rfl, v6, hs6, hg6⟩
    have HE := Aside0.mk (show ShAt w6 base p (ver + 1) v6 (bs.eraseIdx i) ∧ w.grownBy w6 (some p) from ⟨hs6, grown_after HB5.out hg6⟩)
    clear hs6 hg6
    go_wp2
    go_ret
    exact dropPost_mk HD3.out rfl (if_pos rfl).symm HE.out.1 HE.out.2
  · have HD2 := HD.out
    rw [if_neg h0] at HD2
    have HD3 := Aside0.mk HD2
    have hpos : 0 < (outB id b).length := by
     cases hq : outB id b with
     | nil => exact absurd hq h0
     | cons _ _ => simp
    have q1 : (((mkB (outB id b)).f1.length : Int) == 0) = false := by rw [beq_eq_false_iff_ne]; omega
    have q2 : decide ((mkB (outB id b)).f1.length = 0) = false := decide_eq_false (by omega)
    have q3 : decide ((mkB (outB id b)).f1 = []) = false := decide_eq_false (by intro e; rw [e] at hxl; simp at hxl; omega)
    have q4 : ¬ ((mkB (outB id b)).f1 = []) := by intro e; rw [e] at hxl; simp at hxl; omega
    have HSW := Aside0.mk (show (∀ q ∈ bs.set i (mkB (outB id b)), okB q = true) ∧ (bs.set i (mkB (outB id b))).length ≤ 1000 ∧ (allB (bs.set i (mkB (outB id b)))).length ≤ 1000000 from by
     have h1 := HOKD.out
     have h2 := HFW.out
     rw [HD3.out] at h1 h2
     dsimp only at h1 h2
     exact ⟨h1, by have := h2.1; omega, by have := h2.2; have := HA.out; omega⟩)
    clear h0 hpos hxl HD2
    go_wp2_with fail
    rw [← HSL.out]
    refine (sh_swap_yes base p ver _ bs (bs.set i (mkB (outB id b))) (some ⟨g, 0, none⟩) cap _ HS4.out HV.out (by have := Kd.N_F HN4.out; rwa [← HSL.out] at this) (by have := (Kd.N_reads' HN4.out).2.1; have := HSL.out; omega) HSW.out.1 HSW.out.2.1 HSW.out.2.2).mono ?_
    rintro y w6 ⟨rfl, v6, hs6, hg6⟩
    have HE := Aside0.mk (show ShAt w6 base p (ver + 1) v6 (bs.set i (mkB (outB id b))) ∧ w.grownBy w6 (some p) from ⟨hs6, grown_after HB4.out hg6⟩)
    clear hs6 hg6 q1 q2 q3 q4 z0 z1
    go_wp2
    go_ret
    exact dropPost_mk HD3.out rfl (if_pos rfl).symm HE.out.1 HE.out.2
end Go.Proofs.Ytdfndglenbckhaa.V
end
section
set_option linter.unusedVariables false
set_option linter.unusedSimpArgs false
namespace Go.Proofs.Ytdfndglenbckhaa.V
open Go.RowKit Go.Proofs.YtdfndglenbckhaaW.PrintWords Go.Proofs.YtdfndglenbckhaaW.PrintLast Go.Proofs.YtdfndglenbckhaaW.PrintMore
theorem without_loop (l : List E) (id : Int) (hl : l.length < 1000000000) : ∀ (n k i : Nat) (acc : List E), n + i = l.length → n < k → acc.length ≤ i →
 vergerref5_Without.l0 k l id acc (i : Int) = some (acc ++ (l.drop i).filter (fun e => decide (e.f1 ≠ id))) := by
 intro n
 induction n with
 | zero =>
  intro k i acc h hk ha
  obtain ⟨k, rfl⟩ : ∃ q, k = q + 1 := ⟨k - 1, by omega⟩
  simp only [vergerref5_Without.l0]
  rw [if_neg (by omega), List.drop_eq_nil_of_le (by omega)]
  simp
 | succ n ih =>
  intro k i acc h hk ha
  obtain ⟨k, rfl⟩ : ∃ q, k = q + 1 := ⟨k - 1, by omega⟩
  have hlt : i < l.length := by omega
  simp only [vergerref5_Without.l0]
  have hrd : rd_T46 l (i : Int) = l[i] := by unfold rd_T46; rw [Int.toNat_natCast, List.getD_eq_getElem?_getD, List.getElem?_eq_getElem hlt]; rfl
  have hw : wrap64 ((i : Int) + 1) = ((i + 1 : Nat) : Int) := by unfold wrap64; omega
  rw [if_pos (by omega), if_pos (by omega), hrd, hw, List.drop_eq_getElem_cons hlt]
  by_cases he : (l[i]).f1 = id
  · rw [if_pos he, ih k (i + 1) acc (by omega) (by omega) (by omega), List.filter_cons, if_neg (by simp [he])]
  · rw [if_neg he, if_pos (by omega), ih k (i + 1) _ (by omega) (by omega) (by rw [List.length_append]; simp; omega), List.filter_cons, if_pos (by simp [he])]
    simp
theorem without_told (k : Nat) (b : Bk) (id : Int) (hl : b.f1.length < 1000000000) (hk : b.f1.length < k) : vergerref5_Without.f k b.f1 id = some (outB id b) := by
 unfold vergerref5_Without.f outB
 have := without_loop b.f1 id hl b.f1.length k 0 [] (by omega) hk (by simp)
 simpa using this
end Go.Proofs.Ytdfndglenbckhaa.V
end
section
set_option linter.unusedVariables false
set_option linter.unusedSimpArgs false
namespace Go.Proofs.Ytdfndglenbckhaa.V
open Go.RowKit Go.Proofs.YtdfndglenbckhaaW.PrintWords Go.Proofs.YtdfndglenbckhaaW.PrintLast Go.Proofs.YtdfndglenbckhaaW.PrintMore
def fstId (l : List E) (id : Int) : Nat := l.findIdx fun e => e.f1 == id
theorem fstId_le (l : List E) (id : Int) : fstId l id ≤ l.length := List.findIdx_le_length
theorem fstId_at {l : List E} {id : Int} {i : Nat} (hi : i < l.length) (hle : i ≤ fstId l id) (h : (l[i]).f1 = id) : fstId l id = i := by
 rcases Nat.lt_or_ge i (fstId l id) with hlt | hge
 · have := List.not_of_lt_findIdx hlt
   simp [h] at this
 · omega
theorem fstId_past {l : List E} {id : Int} {i : Nat} (hi : i < l.length) (hle : i ≤ fstId l id) (h : ¬ (l[i]).f1 = id) : i + 1 ≤ fstId l id := by
 rcases Nat.lt_or_ge i (fstId l id) with hlt | hge
 · exact hlt
 · have he : fstId l id = i := by omega
   have h2 := (List.findIdx_eq hi).1 (show l.findIdx (fun e => e.f1 == id) = i from he)
   exact absurd (by simpa using h2.1) h
theorem has_loop (l : List E) (id : Int) (hl : l.length < 1000000000) : ∀ (d k i : Nat), l.length - i = d → i ≤ fstId l id → d < k → vergerref5_Has.l0 k l id (i : Int) = some (decide (fstId l id < l.length)) := by
 have hfl := fstId_le l id
 intro d
 induction d with
 | zero =>
  intro k i hd hi hk
  obtain ⟨k, rfl, _⟩ := succ_of hk
  simp only [vergerref5_Has.l0]
  rw [if_neg (by omega), decide_eq_false (by omega)]
 | succ d ih =>
  intro k i hd hi hk
  obtain ⟨k, rfl, hk'⟩ := succ_of hk
  have hlt : i < l.length := by omega
  have hz : (i : Int) < (l.length : Int) := by omega
  have h0 : (0 : Int) ≤ (i : Int) := by omega
  simp only [vergerref5_Has.l0, if_pos hz, if_pos h0, rd_get hlt, wrap_nat (show i ≤ 4611686018427387904 by omega)]
  by_cases hc : (l[i]).f1 = id
  · rw [if_pos hc, fstId_at hlt hi hc, decide_eq_true hlt]
  · rw [if_neg hc]
    exact ih k (i + 1) (by omega) (fstId_past hlt hi hc) (by omega)
theorem has_told (k : Nat) (l : List E) (id : Int) (hl : l.length < 1000000000) (hk : l.length < k) : vergerref5_Has.f k l id = some (decide (fstId l id < l.length)) := by
 have := has_loop l id hl l.length k 0 (by omega) (by omega) hk
 unfold vergerref5_Has.f
 exact this
theorem fstId_iff (l : List E) (id : Int) : fstId l id < l.length ↔ ∃ e ∈ l, e.f1 = id := by
 unfold fstId
 rw [List.findIdx_lt_length]
 simp
end Go.Proofs.Ytdfndglenbckhaa.V
end
section
set_option linter.unusedVariables false
set_option linter.unusedSimpArgs false
namespace Go.Proofs.Ytdfndglenbckhaa.V
open Go.RowKit Go.Proofs.YtdfndglenbckhaaW.PrintWords Go.Proofs.YtdfndglenbckhaaW.PrintLast Go.Proofs.YtdfndglenbckhaaW.PrintMore
theorem rcut_to (A : Option Addr) (n c i : Nat) (h : i ≤ n) (hc : n ≤ c) : ∀ W : World, (Instr.slice 27 (.slice A n c) none (some (.int .i64 (i : Int))) none).run Try.prog W = .ok (.slice A i c) W := by
 intro W
 obtain ⟨inf, h1, h2⟩ := Option.map_eq_some_iff.1 infoRB
 have := cut_to (P := Try.prog) 27 70 .i64 Try.underlying27 h1 A n c (i : Int) (by omega) (by omega) hc W
 rw [Int.toNat_natCast] at this
 exact this
theorem rcut_from (A : Option Addr) (n c i : Nat) (h : i + 1 ≤ n) : ∀ W : World, (Instr.slice 27 (.slice A n c) (some (.int .i64 ((i : Int) + 1))) none none).run Try.prog W = .ok (.slice (if c = i + 1 then A else A.map (·.add ((i + 1) * 2))) (n - (i + 1)) (c - (i + 1))) W := by
 intro W
 obtain ⟨inf, h1, h2⟩ := Option.map_eq_some_iff.1 infoRB
 simp only [Prod.mk.injEq] at h2
 have := cut_from (P := Try.prog) 27 70 .i64 Try.underlying27 h1 2 h2.2.1 A n c ((i : Int) + 1) (by omega) (by omega) W
 rw [show ((i : Int) + 1).toNat = i + 1 by omega] at this
 exact this
theorem rcut_at (A : Option Addr) (n c i : Nat) (h : i ≤ n) : ∀ W : World, (Instr.slice 27 (.slice A n c) (some (.int .i64 (i : Int))) none none).run Try.prog W = .ok (.slice (if c = i then A else A.map (·.add (i * 2))) (n - i) (c - i)) W := by
 intro W
 obtain ⟨inf, h1, h2⟩ := Option.map_eq_some_iff.1 infoRB
 simp only [Prod.mk.injEq] at h2
 have := cut_from (P := Try.prog) 27 70 .i64 Try.underlying27 h1 2 h2.2.1 A n c (i : Int) (by omega) (by omega) W
 rw [Int.toNat_natCast] at this
 exact this
theorem rcuts {w : World} {ok : Nat → Prop} {A : Option Addr} {c i : Nat} {rs : List RBk} (h : Kd.V k70 70 w 0 ok (.slice A rs.length c) rs) (hi : i < rs.length) :
 ∃ T D AD cD, T = rs.take i ∧ D = rs.drop (i + 1) ∧ (∀ W : World, (Instr.slice 27 (.slice A rs.length c) none (some (.int .i64 (i : Int))) none).run Try.prog W = .ok (.slice A T.length c) W) ∧ (∀ W : World, (Instr.slice 27 (.slice A rs.length c) (some (.int .i64 ((i : Int) + 1))) none none).run Try.prog W = .ok (.slice AD D.length cD) W) ∧ Kd.F k70 w ok A T.length T ∧ Kd.F k70 w ok AD D.length D ∧ D.length ≤ cD := by
 have hc := (Kd.V_at h).2.1
 refine ⟨rs.take i, rs.drop (i + 1), (if c = i + 1 then A else A.map (·.add ((i + 1) * 2))), c - (i + 1), rfl, rfl, fun W => ?_, fun W => ?_, Kd.F_take (Kd.V_F h) (by omega), Kd.F_cut (m := i + 1) (Kd.V_F h) (by omega) hc, ?_⟩
 · rw [rcut_to A rs.length c i (by omega) hc W, List.length_take, Nat.min_eq_left (by omega)]
 · rw [rcut_from A rs.length c i (by omega) W, List.length_drop]
 · rw [List.length_drop]; omega
theorem rcutsAt {w : World} {ok : Nat → Prop} {A : Option Addr} {c i : Nat} {rs : List RBk} (h : Kd.V k70 70 w 0 ok (.slice A rs.length c) rs) (hi : i ≤ rs.length) :
 ∃ T D AD cD, T = rs.take i ∧ D = rs.drop i ∧ (∀ W : World, (Instr.slice 27 (.slice A rs.length c) none (some (.int .i64 (i : Int))) none).run Try.prog W = .ok (.slice A T.length c) W) ∧ (∀ W : World, (Instr.slice 27 (.slice A rs.length c) (some (.int .i64 (i : Int))) none none).run Try.prog W = .ok (.slice AD D.length cD) W) ∧ Kd.F k70 w ok A T.length T ∧ Kd.F k70 w ok AD D.length D ∧ D.length ≤ cD := by
 have hc := (Kd.V_at h).2.1
 refine ⟨rs.take i, rs.drop i, (if c = i then A else A.map (·.add (i * 2))), c - i, rfl, rfl, fun W => ?_, fun W => ?_, Kd.F_take (Kd.V_F h) (by omega), Kd.F_cut (m := i) (Kd.V_F h) (by omega) hc, ?_⟩
 · rw [rcut_to A rs.length c i (by omega) hc W, List.length_take, Nat.min_eq_left (by omega)]
 · rw [rcut_at A rs.length c i (by omega) W, List.length_drop]
 · rw [List.length_drop]; omega
theorem has_id (k : Nat) (id : Int) (b : Bk) (hl : b.f1.length < 1000000000) (hk : b.f1.length < k) : vergerref5_Has.f k b.f1 id = some (hasId id b) := by
 rw [has_told k b.f1 id hl hk]
 congr 1
 unfold hasId
 apply Bool.eq_iff_iff.2
 rw [decide_eq_true_eq, fstId_iff, List.any_eq_true]
 simp [isId]
theorem refof_mkR (k : Nat) (l : List E) (hl : l.length < 1000000000) (hk : 2 * l.length + 63 ≤ k) : vergerref5_Of.f k l = some ((mkB l).f0, (mkB l).f1) := refof_told k l hl hk
theorem reps_oneR {W : World} {ok : Nat → Prop} {b : RBk} {a u : Value} (h : Kd.FK k70 W ok b [a, u]) : Reps (Kd.FK k70 W ok) k70.sz [b] [a, u] := by
 refine ⟨rfl, fun j q hj => ?_⟩
 cases j with
 | zero => simp at hj; subst hj; exact h
 | succ j => simp at hj
theorem dropR_nil {id : Int} {bs : List Bk} {i : Nat} {b : Bk} (h0 : outB id b = []) : ((bs.map toR).take i ++ (bs.map toR).drop (i + 1)) = (if outB id b = [] then bs.eraseIdx i else bs.set i (mkB (outB id b))).map toR := by
 rw [if_pos h0, List.eraseIdx_eq_take_drop_succ, List.map_append, List.map_take, List.map_drop]
theorem dropR_set {id : Int} {bs : List Bk} {i : Nat} {b : Bk} (hi : i < bs.length) (h0 : outB id b ≠ []) : (((bs.map toR).take i ++ [toR (mkB (outB id b))]) ++ (bs.map toR).drop (i + 1)) = (if outB id b = [] then bs.eraseIdx i else bs.set i (mkB (outB id b))).map toR := by
 rw [if_neg h0, List.set_eq_take_append_cons_drop, if_pos hi, List.map_append, List.map_take, List.map_cons, List.map_drop, List.append_assoc]
 rfl
def RDropPost (base p : Nat) (ver : Int) (bs : List Bk) (id : Int) (w : World) (x : Ending) (w' : World) : Prop :=
  x = .returned (.bool (dropS id bs).1) ∧ ∃ v', RShAt w' base p (if (dropS id bs).1 = true then ver + 1 else ver) v' ((dropS id bs).2.map toR) ∧ w.grownBy w' (some p)
theorem rdropPost_mk {base p : Nat} {ver : Int} {bs : List Bk} {id : Int} {w w' : World} {x : Ending} {r : Bool} {cs : List Bk} {rs : List RBk} {v : Value} {ver' : Int} (hd : dropS id bs = (r, cs)) (hrs : rs = cs.map toR) (hx : x = .returned (.bool r)) (hv : ver' = if r = true then ver + 1 else ver) (hs : RShAt w' base p ver' v rs) (hg : w.grownBy w' (some p)) : RDropPost base p ver bs id w x w' := by
 unfold RDropPost
 rw [hd]
 subst hv; subst hrs
 exact ⟨hx, v, hs, hg⟩
set_option maxRecDepth 100000 in
set_option maxHeartbeats 8000000 in
theorem rs_drop (base p : Nat) (ver : Int) (v : Value) (bs : List Bk) (id : Int) (w : World) (h : RShAt w base p ver v (bs.map toR)) (hv : 0 ≤ ver ∧ ver ≤ 1000000) (hl : bs.length ≤ 900) (ha : (allB bs).length ≤ 1000000) :
 Calls Try.prog 14 #[.pointer (some ⟨p, 0, none⟩), .int .i64 id] w (RDropPost base p ver bs id w) := by
 obtain ⟨rs, hrs⟩ : ∃ rs, rs = bs.map toR := ⟨_, rfl⟩
 rw [← hrs] at h
 have HRS := Aside0.mk hrs
 have hln : rs.length = bs.length := by rw [hrs, List.length_map]
 have HLN := Aside0.mk hln
 have hrl : rs.length ≤ 900 := by omega
 have HS := Aside0.mk h
 have HA := Aside0.mk ha
 have HV := Aside0.mk hv
 obtain ⟨A, c, rfl, hc, hF0⟩ := h.reads
 have HF := Aside0.mk (Kd.F_bound hF0)
 have HW := Aside0.mk h.lt
 clear h hF0 ha hrs hln hl
 go_enter Try.func14, Try.ntmps14
 go_wp2
 go_loopw [5] (fun s5 wr => ∃ i : Nat, s5 = .int .i64 i ∧ i ≤ rs.length ∧ Aside0 (∀ (j : Nat) (b : Bk), j < i → bs[j]? = some b → hasId id b = false) ∧ Aside0 (Below w.heap.size w wr)) (fun i _ => rs.length - (intOf i).toNat)
 case atStart => exact ⟨0, rfl, Nat.zero_le _, ⟨fun j b h => by omega⟩, ⟨Below.refl _ _⟩⟩
 case round =>
  obtain ⟨i, rfl, hi, HN, HB⟩ := hrel
  have HP := Aside0.mk (HS.out.below HB.out)
  have q1 := HP.out.cell1
  by_cases hlt : i < rs.length
  · obtain ⟨bk, hbk⟩ : ∃ b, bs[i]? = some b := ⟨_, List.getElem?_eq_getElem (by have := HLN.out; omega)⟩
    have hb : rs[i]? = some (toR bk) := by rw [HRS.out, List.getElem?_map, hbk]; rfl
    obtain ⟨ad, A1, c1, rfl, y0, y1, e4, e5⟩ := rb_at (Kd.C_below (Kd.F_now HF.out) HB.out) hb
    dsimp only [toR] at y0 y1 e4 e5
    have HC := Aside0.mk e5
    have hle := allB_at_le hbk
    have HBL := Aside0.mk (show bk.f1.length ≤ 1000000 by have := HA.out; omega)
    have HO := Aside0.mk (has_id 2000000 id bk (by have := HBL.out; omega) (by have := HBL.out; omega))
    have HE := Aside0.mk hbk
    have hil : (i : Int) < (rs.length : Int) := by omega
    have hi0 : (0 : Int) ≤ (i : Int) := by omega
    obtain ⟨r, hr⟩ : ∃ r, hasId id bk = r := ⟨_, rfl⟩
    rw [hr] at HO
    have HRR := Aside0.mk hr
    clear hb e5 hr hbk hle y0
    go_wp2_with fail
    refine (vergerref5_Has.calls 2000000 A1 c1 bk.f1 id r _ HC.out e4 HO.out).mono ?_
    rintro x w2 ⟨rfl, hd2⟩
    have HB2 := Aside0.mk (below_step HB.out hd2.below)
    have HC2 := Aside0.mk (Kd.C_below HC.out hd2.below)
    have y2 := pw_cell_below hd2.below y1
    have HP2 := Aside0.mk (HP.out.below hd2.below)
    have q2 := HP2.out.cell1
    clear hd2 y1 q1
    cases r with
    | false =>
     have HN2 : Aside0 (∀ (j : Nat) (b : Bk), j < i + 1 → bs[j]? = some b → hasId id b = false) := ⟨fun j b' hj hb' => by
      by_cases h1 : j = i
      · subst h1
        rw [HE.out] at hb'
        injection hb' with hb'
        rw [← hb']; exact HRR.out
      · exact HN.out j b' (by omega) hb'⟩
     go_wp2
     go_roundw
     case rel => exact ⟨i + 1, by go_num, by omega, HN2, HB2⟩
     case measure => simp [intOf]; omega
    | true =>
     have HFI := Aside0.mk (show bs.findIdx? (hasId id) = some i from List.findIdx?_eq_some_iff_getElem.2 ⟨by have := HLN.out; omega, by
      have h1 := HE.out
      rw [List.getElem?_eq_getElem (by have := HLN.out; omega)] at h1
      injection h1 with h1
      rw [h1]; exact HRR.out, fun j hj => by
      have := HN.out j _ hj (List.getElem?_eq_getElem (by have := HLN.out; omega))
      rw [this]; simp⟩)
     have HD := Aside0.mk (dropS_some HFI.out HE.out)
     have HT := Aside0.mk (without_told 2000000 bk id (by have := HBL.out; omega) (by have := HBL.out; omega))
     have HOL := Aside0.mk (show (outB id bk).length ≤ 1000000 from Nat.le_trans (List.length_filter_le _ _) HBL.out)
     go_wp2_with fail
     refine (vergerref5_Without.calls 2000000 A1 c1 bk.f1 id (outB id bk) _ HC2.out e4 HT.out).mono ?_
     rintro x w3 ⟨v3, rfl, hv3, hb3⟩
     obtain ⟨A3, c3, rfl⟩ := Kd.R_slice hv3
     have HR3 := Aside0.mk (Kd.R_reads' hv3)
     have HB3 := Aside0.mk (below_step HB2.out hb3)
     clear hv3 hb3 y2 q2
     go_wp2_with fail
     refine (vergerref5_Of.calls 3000000 A3 c3 (outB id bk) _ _ _ HR3.out.2.2 HR3.out.2.1 (refof_mkR _ _ (by have := HOL.out; omega) (by have := HOL.out; omega))).mono ?_
     rintro x w4 ⟨v4, rfl, hv4, hb4⟩
     obtain ⟨A4, c4, rfl⟩ := Kd.R_slice hv4
     have HV4 := Aside0.mk (show Kd.V k46 46 w4 0 (fun k => w3.heap.size ≤ k ∧ k < w4.heap.size) (.slice A4 (mkB (outB id bk)).f1.length c4) (mkB (outB id bk)).f1 from Kd.R_V (Kd.R_mono (Kd.R_bound hv4) (fun k hk => ⟨hk.2.1, hk.2.2.1⟩)))
     have HB4 := Aside0.mk (below_step HB3.out hb4)
     clear hv4 hb4
     go_upto_region 6 with fail
     obtain ⟨Y, hY⟩ : ∃ Y, Y = mkB (outB id bk) := ⟨_, rfl⟩
     rw [← hY] at HV4 ⊢
     have hyl : Y.f1.length = (outB id bk).length := by rw [hY]; exact sortE_length _
     obtain ⟨G, hG⟩ : ∃ G, G = w4.heap.size := ⟨_, rfl⟩
     obtain ⟨w5, hw5⟩ : ∃ w5 : World, w5 = w4.alloc (.cells #[.int .i64 Y.f0, .slice A4 Y.f1.length c4] 70) := ⟨_, rfl⟩
     rw [← hw5, ← hG]
     have HX5 := Aside0.mk (show w5.heap[G]? = some (.cells #[.int .i64 Y.f0, .slice A4 Y.f1.length c4] 70 (0, 0)) by rw [hw5, hG]; exact heap_alloc_new _ _)
     have hb5 : Below w4.heap.size w4 w5 := by rw [hw5]; exact below_alloc (Below.refl _ _) _
     have HB5 := Aside0.mk (below_step HB4.out hb5)
     have hpw : p < w3.heap.size := Nat.lt_of_lt_of_le HW.out HB3.out.size
     have HV5 := Aside0.mk (Kd.V_at (Kd.V_below HV4.out hb5))
     have HXV := Aside0.mk (show Y.f1.length ≤ c4 ∧ Kd.F k46 w5 (fun k => k ≠ p ∧ k < w5.heap.size) A4 Y.f1.length Y.f1 from ⟨HV5.out.2.1, Kd.F_mono HV5.out.2.2 (fun k hk => ⟨by have := hk.1; omega, by have := hk.2; have := hb5.size; omega⟩)⟩)
     have HP5 := Aside0.mk (HS.out.below HB5.out)
     have q5 := HP5.out.cell1
     have HOK := Aside0.mk (show ∀ k, w5.heap.size ≤ k → k ≠ p from fun k hk => by have := HP5.out.lt; omega)
     have HYY := Aside0.mk hY
     obtain ⟨T, D, AD, cD, hT, hD, hct, hcf, hf1, hf2, hcD⟩ := rcuts HP5.out.row hlt
     have HCU := Aside0.mk (And.intro hf1 hf2)
     have HTQ := Aside0.mk (And.intro hT hD)
     have hTl : T.length ≤ 900 := by rw [hT, List.length_take]; omega
     have hDl : D.length ≤ 900 := by rw [hD, List.length_drop]; omega
     have HO := Aside0.mk trivial
     have HB := Aside0.mk (Below.refl w5.heap.size w5)
     clear HP HP2 HB2 HB3 HB4 HV4 HV5 hT hD hf1 hf2 hw5 hG hb5 hpw hY HC HC2 HO
     by_cases h0 : outB id bk = []
     · have h00 : Y.f1.length = 0 := by rw [hyl, h0]; rfl
       have q1 : ¬ (0 : Int) < (Y.f1.length : Int) := by omega
       have q2 : ¬ 0 < Y.f1.length := by omega
       have q3 : ¬ (Y.f1 ≠ []) := fun e => e (List.length_eq_zero_iff.1 h00)
       have HZ0 := Aside0.mk h0
       clear hyl h00 h0
       obtain ⟨RF, hRF⟩ : ∃ RF, RF = T ++ D := ⟨_, rfl⟩
       have HRF := Aside0.mk hRF
       clear hRF
       go_wp2_with (first | ((with_reducible refine gate_dst (N := 39) rfl ?_); go_loud (refine Kd.N_lit k70 (w0 := w5) w5.heap.size 70 ?hg (N' := 39) ?hd (xs := ([] : List RBk)) (inner := []) (ok := (fun k => k ≠ p)) (okp := fun _ => False) ?hr ?hp (fun _ hk => hk.elim) ?hf (Below.refl _ _) (Nat.le_refl _) (by simp) ?_; (case hd => rfl); (case hg => rfl); (case hr => first | (go_simp; done) | (go_simp; rfl)); (case hp => exact (Reps.none _ _)); (case hf => exact HOK.out _ (Nat.le_refl _)); intro v6 w6 ho6 hb6 hg6 hnew6; have n_ := Aside0.mk (ho6); (try clear HO); have HO := n_; clear n_; have n_ := Aside0.mk (hb6); (try clear HB); have HB := n_; clear n_; have q6 := (HP5.out.below HB.out).cell1; clear ho6 hb6 hg6 hnew6)) | ((with_reducible refine gate_builtin (b := .append) (xs := #[.tmp 39, .tmp 45]) rfl ?_); at_builtin; go_loud (refine Kd.N_append_rows k70 (w0 := w5) w5.heap.size rfl (.tmp 39) (.tmp 45) 27 70 (.agg #[.int .i64 0, .slice none 0 0]) 32 rfl Try.underlying27 infoRB rfl (by decide) (by decide) v6 ([] : List RBk) T _ _ _ (fun k => k ≠ p) (fun k => k ≠ p ∧ k < w5.heap.size) rfl rfl HO.out (Kd.F_below (Kd.F_bound HCU.out.1) HB.out) (fun k hk => ⟨hk.1, fun e => by have h1 := Kd.N_base HO.out k e.symm; have := hk.2; omega⟩) (fun k hk => HOK.out k (Nat.le_trans HB.out.size hk)) HB.out HB.out.size (by (try simp only [List.length_nil, List.length_append, List.length_cons]); omega) ?_; intro v7 w7 ho hb hg hat; (try rw [List.nil_append] at ho); clear HO HB; have HO := Aside0.mk ho; have HB := Aside0.mk hb; clear ho hb hg hat; have hx_ := blk_below HX5.out HB.out; have x0 : w7.cell? ⟨G, 0, none⟩ = some (.int .i64 Y.f0) := (blk_cell hx_ 0).trans rfl; have x1 : w7.cell? ⟨G, 1, none⟩ = some (.slice A4 Y.f1.length c4) := (blk_cell hx_ 1).trans rfl; clear hx_; have q7 := (HP5.out.below HB.out).cell1)) | ((with_reducible refine gate_builtin (b := .append) (xs := #[.tmp 56, .tmp 63]) rfl ?_); at_builtin; go_loud (refine Kd.N_append_rows k70 (w0 := w5) w5.heap.size rfl (.tmp 56) (.tmp 63) 27 70 (.agg #[.int .i64 0, .slice none 0 0]) 32 rfl Try.underlying27 infoRB rfl (by decide) (by decide) v7 T D _ _ _ (fun k => k ≠ p) (fun k => k ≠ p ∧ k < w5.heap.size) rfl rfl HO.out (Kd.F_below (Kd.F_bound HCU.out.2) HB.out) (fun k hk => ⟨hk.1, fun e => by have h1 := Kd.N_base HO.out k e.symm; have := hk.2; omega⟩) (fun k hk => HOK.out k (Nat.le_trans HB.out.size hk)) HB.out HB.out.size (by (try simp only [List.length_nil, List.length_append, List.length_cons]); omega) ?_; intro v8 w8 ho hb hg hat; (try rw [List.nil_append] at ho); clear HO HB; have HO := Aside0.mk ho; have HB := Aside0.mk hb; clear ho hb hg hat; have HO_ := HO.out; rw [← HRF.out] at HO_; obtain ⟨AF, cF, e_⟩ := Kd.N_slice HO_; subst e_; clear HO; have HO := Aside0.mk HO_; clear HO_; have hp_ := HP5.out.below HB.out; have q0 := hp_.cell0; have q1 := hp_.cell1; have g0 := hp_.froz 0; have g1 := hp_.froz 1; have HPC := Aside0.mk hp_; clear hp_)))
       have HN2 := Aside0.mk (Kd.V_mk (Kd.N_reads' HO.out).2.1 (Kd.N_F HO.out) (e := 70) (base := 0))
       have HB3 := Aside0.mk (below_step HB5.out HB.out)
       go_ret
       have hd := HD.out
       refine rdropPost_mk hd (by rw [HRF.out, HTQ.out.1, HTQ.out.2, HRS.out]; exact dropR_nil HZ0.out) rfl (if_pos rfl).symm ⟨blk_put (blk_put HPC.out.hd 1 (.slice AF RF.length cF) rfl) 0 (.int .u64 (ver + 1)) rfl, Kd.V_far (Kd.V_far HN2.out (p := ⟨p, 1, none⟩) (fun k hk => hk) _) (p := ⟨p, 0, none⟩) (fun k hk => hk) _, HS.out.lo⟩ ?_
       exact set2_grown ⟨HB3.out.os, HB3.out.tape, HB3.out.output, HB3.out.size, fun k hk _ => HB3.out.block k hk⟩
     · have h00 : 0 < Y.f1.length := by
        rw [hyl]
        cases hq : outB id bk with
        | nil => exact absurd hq h0
        | cons _ _ => simp
       have q1 : (0 : Int) < (Y.f1.length : Int) := by omega
       have q3 : ¬ Y.f1 = [] := fun e => by rw [e] at h00; simp at h00
       have HZ0 := Aside0.mk h0
       clear hyl h0
       obtain ⟨RF, hRF⟩ : ∃ RF, RF = T ++ [toR Y] ++ D := ⟨_, rfl⟩
       have HRF := Aside0.mk hRF
       clear hRF
       go_wp2_with (first | ((with_reducible refine gate_dst (N := 39) rfl ?_); go_loud (refine Kd.N_lit k70 (w0 := w5) w5.heap.size 70 ?hg (N' := 39) ?hd (xs := ([] : List RBk)) (inner := []) (ok := (fun k => k ≠ p)) (okp := fun _ => False) ?hr ?hp (fun _ hk => hk.elim) ?hf (Below.refl _ _) (Nat.le_refl _) (by simp) ?_; (case hd => rfl); (case hg => rfl); (case hr => first | (go_simp; done) | (go_simp; rfl)); (case hp => exact (Reps.none _ _)); (case hf => exact HOK.out _ (Nat.le_refl _)); intro v6 w6 ho6 hb6 hg6 hnew6; have n_ := Aside0.mk (ho6); (try clear HO); have HO := n_; clear n_; have n_ := Aside0.mk (hb6); (try clear HB); have HB := n_; clear n_; have q6 := (HP5.out.below HB.out).cell1; clear ho6 hb6 hg6 hnew6)) | ((with_reducible refine gate_builtin (b := .append) (xs := #[.tmp 39, .tmp 45]) rfl ?_); at_builtin; go_loud (refine Kd.N_append_rows k70 (w0 := w5) w5.heap.size rfl (.tmp 39) (.tmp 45) 27 70 (.agg #[.int .i64 0, .slice none 0 0]) 32 rfl Try.underlying27 infoRB rfl (by decide) (by decide) v6 ([] : List RBk) T _ _ _ (fun k => k ≠ p) (fun k => k ≠ p ∧ k < w5.heap.size) rfl rfl HO.out (Kd.F_below (Kd.F_bound HCU.out.1) HB.out) (fun k hk => ⟨hk.1, fun e => by have h1 := Kd.N_base HO.out k e.symm; have := hk.2; omega⟩) (fun k hk => HOK.out k (Nat.le_trans HB.out.size hk)) HB.out HB.out.size (by (try simp only [List.length_nil, List.length_append, List.length_cons]); omega) ?_; intro v7 w7 ho hb hg hat; (try rw [List.nil_append] at ho); clear HO HB; have HO := Aside0.mk ho; have HB := Aside0.mk hb; clear ho hb hg hat; have hx_ := blk_below HX5.out HB.out; have x0 : w7.cell? ⟨G, 0, none⟩ = some (.int .i64 Y.f0) := (blk_cell hx_ 0).trans rfl; have x1 : w7.cell? ⟨G, 1, none⟩ = some (.slice A4 Y.f1.length c4) := (blk_cell hx_ 1).trans rfl; clear hx_; have q7 := (HP5.out.below HB.out).cell1)) | ((with_reducible refine gate_dst (N := 53) rfl ?_); go_loud (refine Kd.N_lit k70 _ 70 ?hg (N' := 53) ?hd (xs := [toR Y]) (inner := [.int .i64 Y.f0, .slice A4 Y.f1.length c4]) (ok := fun k => k ≠ p ∧ some k ≠ v7.ownBlock) (okp := fun k => k ≠ p ∧ k < w5.heap.size) ?hr ?hp (fun k hk => ⟨hk.1, fun e => by have := Kd.N_base HO.out k e.symm; have := hk.2; omega⟩) ?hf (Below.refl _ _) (Nat.le_refl _) (by simp) ?_; (case hd => rfl); (case hg => rfl); (case hr => first | (go_simp; done) | (go_simp; rfl)); (case hp => exact reps_oneR (k70_mkF _ _ (toR Y) HXV.out.1 (Kd.F_below HXV.out.2 HB.out))); (case hf => exact ⟨HOK.out _ HB.out.size, fun e => by have := Kd.N_lt HO.out _ e.symm; omega⟩); intro vL wL ho6 hb6 hg6 hnew6; have HOn := Aside0.mk (Kd.N_below HO.out hb6); clear HO; have HO := HOn; clear HOn; obtain ⟨AL, cL, e_⟩ := Kd.N_slice ho6; subst e_; have HL := Aside0.mk (Kd.N_F ho6); have n_ := Aside0.mk (below_step HB.out hb6); (try clear HB); have HB := n_; clear n_; clear ho6 hb6 hg6 hnew6)) | ((with_reducible refine gate_builtin (b := .append) (xs := #[.tmp 51, .tmp 53]) rfl ?_); at_builtin; go_loud (refine Kd.N_append_rows k70 (w0 := w5) w5.heap.size rfl (.tmp 51) (.tmp 53) 27 70 (.agg #[.int .i64 0, .slice none 0 0]) 32 rfl Try.underlying27 infoRB rfl (by decide) (by decide) v7 T [toR Y] _ _ _ (fun k => k ≠ p) (fun k => k ≠ p ∧ some k ≠ v7.ownBlock) rfl rfl HO.out HL.out (fun k hk => hk) (fun k hk => HOK.out k (Nat.le_trans HB.out.size hk)) HB.out HB.out.size (by (try simp only [List.length_nil, List.length_append, List.length_cons]); omega) ?_; intro v8 w8 ho hb hg hat; (try rw [List.nil_append] at ho); clear HO HB; have HO := Aside0.mk ho; have HB := Aside0.mk hb; clear ho hb hg hat; have q8 := (HP5.out.below HB.out).cell1)) | ((with_reducible refine gate_builtin (b := .append) (xs := #[.tmp 56, .tmp 63]) rfl ?_); at_builtin; go_loud (refine Kd.N_append_rows k70 (w0 := w5) w5.heap.size rfl (.tmp 56) (.tmp 63) 27 70 (.agg #[.int .i64 0, .slice none 0 0]) 32 rfl Try.underlying27 infoRB rfl (by decide) (by decide) v8 (T ++ [toR Y]) D _ _ _ (fun k => k ≠ p) (fun k => k ≠ p ∧ k < w5.heap.size) rfl rfl HO.out (Kd.F_below (Kd.F_bound HCU.out.2) HB.out) (fun k hk => ⟨hk.1, fun e => by have h1 := Kd.N_base HO.out k e.symm; have := hk.2; omega⟩) (fun k hk => HOK.out k (Nat.le_trans HB.out.size hk)) HB.out HB.out.size (by (try simp only [List.length_nil, List.length_append, List.length_cons]); omega) ?_; intro v9 w9 ho hb hg hat; (try rw [List.nil_append] at ho); clear HO HB; have HO := Aside0.mk ho; have HB := Aside0.mk hb; clear ho hb hg hat; have HO_ := HO.out; rw [← HRF.out] at HO_; obtain ⟨AF, cF, e_⟩ := Kd.N_slice HO_; subst e_; clear HO; have HO := Aside0.mk HO_; clear HO_; have hp_ := HP5.out.below HB.out; have q0 := hp_.cell0; have q1 := hp_.cell1; have g0 := hp_.froz 0; have g1 := hp_.froz 1; have HPC := Aside0.mk hp_; clear hp_)))
       have HN2 := Aside0.mk (Kd.V_mk (Kd.N_reads' HO.out).2.1 (Kd.N_F HO.out) (e := 70) (base := 0))
       have HB3 := Aside0.mk (below_step HB5.out HB.out)
       go_ret
       have hd := HD.out
       refine rdropPost_mk hd (by rw [HRF.out, HTQ.out.1, HTQ.out.2, HRS.out, HYY.out]; exact dropR_set (by have := HLN.out; omega) HZ0.out) rfl (if_pos rfl).symm ⟨blk_put (blk_put HPC.out.hd 1 (.slice AF RF.length cF) rfl) 0 (.int .u64 (ver + 1)) rfl, Kd.V_far (Kd.V_far HN2.out (p := ⟨p, 1, none⟩) (fun k hk => hk) _) (p := ⟨p, 0, none⟩) (fun k hk => hk) _, HS.out.lo⟩ ?_
       exact set2_grown ⟨HB3.out.os, HB3.out.tape, HB3.out.output, HB3.out.size, fun k hk _ => HB3.out.block k hk⟩
  · have hin : i = rs.length := by omega
    have HF2 := Aside0.mk (dropS_none (id := id) (bs := bs) (List.findIdx?_eq_none_iff.2 (fun b hb => by
     obtain ⟨j, hj, rfl⟩ := List.getElem_of_mem hb
     exact HN.out j _ (by have := HLN.out; omega) (List.getElem?_eq_getElem hj))))
    subst hin
    clear hlt hi
    go_wp2
    go_ret
    exact rdropPost_mk HF2.out HRS.out rfl (if_neg (by simp)).symm HP.out ⟨HB.out.os, HB.out.tape, HB.out.output, HB.out.size, fun k hk _ => HB.out.block k hk⟩
end Go.Proofs.Ytdfndglenbckhaa.V
end
