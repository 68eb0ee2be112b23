-- a text of this work, without what this claim doesn't use (wip/shake.py)
import Derived.Test.YtdfndglenbckhaaLVPvergerref5
import Derived.Test.YtdfndglenbckhaaLVRS6
import Derived.Test.YtdfndglenbckhaaLVRS7
import Derived.Deep.DeepCutAuto
import Derived.Deep.CutBlock
import Derived.Test.YtdfndglenbckhaaLVShP
import Derived.Test.YtdfndglenbckhaaLVPblockb
import Derived.Deep.RegionWith
import Derived.Test.YtdfndglenbckhaaLVE46
import Derived.Test.YtdfndglenbckhaaLVPcmp
import Derived.Test.YtdfndglenbckhaaLVPblock
import Derived.Test.YtdfndglenbckhaaLVLsm5
import Derived.IntWalk
import Derived.BigQuiet
section
set_option linter.unusedVariables false
set_option linter.unusedSimpArgs false
namespace Go.Proofs.Ytdfndglenbckhaa.V
open Go.RowKit Go.Proofs.YtdfndglenbckhaaW.PrintWords Go.Proofs.YtdfndglenbckhaaW.PrintLast Go.Proofs.YtdfndglenbckhaaW.PrintMore
theorem allR_map (bs : List Bk) : allR (bs.map toR) = allB bs := by
 unfold allR allB
 rw [List.flatMap_map]
 rfl
theorem VB_grownI {w w1 : World} {base G : Nat} {ok : Nat → Prop} {v : Value} {bs : List Bk} (h : Kd.V k84 84 w base ok v bs) (hG : NoI w G) (hg : w.grownBy w1 (some G)) : Kd.V k84 84 w1 base ok v bs :=
 Kd.V_map h (fun A hf => Kd.F_mono (Kd.F_step (FB_noi hf hG) (fun k hk hlt => hg.block k hlt (fun e => hk.2 (by injection e)))) (fun k hk => hk.1))
theorem VR_grownI {w w1 : World} {base G : Nat} {ok : Nat → Prop} {v : Value} {bs : List RBk} (h : Kd.V k70 70 w base ok v bs) (hG : NoI w G) (hg : w.grownBy w1 (some G)) : Kd.V k70 70 w1 base ok v bs :=
 Kd.V_map h (fun A hf => Kd.F_mono (Kd.F_step (FR_noi hf hG) (fun k hk hlt => hg.block k hlt (fun e => hk.2 (by injection e)))) (fun k hk => hk.1))
theorem ShAt.noI {w : World} {base p : Nat} {ver : Int} {v : Value} {bs : List Bk} (h : ShAt w base p ver v bs) : NoI w p := noI_mk h.hd (by
 intro x hx
 obtain ⟨A, c, rfl, _⟩ := h.reads
 simp at hx)
theorem RShAt.noI {w : World} {base p : Nat} {ver : Int} {v : Value} {bs : List RBk} (h : RShAt w base p ver v bs) : NoI w p := noI_mk h.hd (by
 intro x hx
 obtain ⟨A, c, rfl, _⟩ := h.reads
 simp at hx)
theorem ShAt.grown {w w1 : World} {base p G : Nat} {ver : Int} {v : Value} {bs : List Bk} (h : ShAt w base p ver v bs) (hG : NoI w G) (hg : w.grownBy w1 (some G)) (hne : p ≠ G) : ShAt w1 base p ver v bs :=
 ⟨(hg.block p h.lt (fun e => hne (by injection e))).trans h.hd, VB_grownI h.row hG hg, h.lo⟩
theorem RShAt.grown {w w1 : World} {base p G : Nat} {ver : Int} {v : Value} {bs : List RBk} (h : RShAt w base p ver v bs) (hG : NoI w G) (hg : w.grownBy w1 (some G)) (hne : p ≠ G) : RShAt w1 base p ver v bs :=
 ⟨(hg.block p h.lt (fun e => hne (by injection e))).trans h.hd, VR_grownI h.row hG hg, h.lo⟩
structure St8 (w wr : World) (p q : Nat) (i ver : Nat) (v v' : Value) (bs : List Bk) : Prop where
  s : ShAt wr w.heap.size p (ver : Int) v bs
  r : RShAt wr w.heap.size q (ver : Int) v' (bs.map toR)
  ok : ∀ b ∈ bs, okB b = true
  few : bs.length ≤ 2 * i ∧ (allB bs).length ≤ 80 * i ∧ ver ≤ i
  ne : p ≠ q
  bel : Below w.heap.size w wr
namespace St8
variable {w wr w1 w2 : World} {p q i ver ver1 : Nat} {v v' v1 v2 : Value} {bs bs1 : List Bk}
theorem below (h : St8 w wr p q i ver v v' bs) (hb : Below wr.heap.size wr w1) : St8 w w1 p q i ver v v' bs := ⟨h.s.below hb, h.r.below hb, h.ok, h.few, h.ne, below_step h.bel hb⟩
theorem next (h : St8 w wr p q i ver v v' bs) (hg : wr.grownBy w1 (some p)) : RShAt w1 w.heap.size q (ver : Int) v' (bs.map toR) := h.r.grown h.s.noI hg (fun e => h.ne e.symm)
theorem close (h : St8 w wr p q i ver v v' bs) (hs : ShAt w1 w.heap.size p (ver1 : Int) v1 bs1) (hg : wr.grownBy w1 (some p)) (hr : RShAt w2 w.heap.size q (ver1 : Int) v2 (bs1.map toR)) (hg2 : w1.grownBy w2 (some q)) (hok : ∀ b ∈ bs1, okB b = true) (hf : bs1.length ≤ 2 * (i + 1) ∧ (allB bs1).length ≤ 80 * (i + 1) ∧ ver1 ≤ i + 1) : St8 w w2 p q (i + 1) ver1 v1 v2 bs1 :=
 ⟨hs.grown (h.next hg).noI hg2 h.ne, hr, hok, hf, h.ne, below_grown (below_grown h.bel hg (fun k hk => by injection hk with hk; have := h.s.lo; omega)) hg2 (fun k hk => by injection hk with hk; have := h.r.lo; omega)⟩
end St8
structure Old8 (w wr : World) (p q go gs gw : Nat) (o : S32) (A4 A5 A1 : Option Addr) (c4 c5 c1 ver0 : Nat) (v0 : Value) (bs0 : List Bk) : Prop where
  op : wr.heap[go]? = some (.cells #[.int .i64 o.f0, .int .i64 o.f1, .int .i64 o.f2, .bool o.f3, .slice A4 o.f4.length c4, .slice A5 o.f5.length c5] 32 (0, 0))
  sn : wr.heap[gs]? = some (.cells #[.int .u64 (ver0 : Int), .slice A1 bs0.length c1] 36 (0, 0))
  row : Kd.V k84 84 wr 0 (fun _ => True) (.slice A1 bs0.length c1) bs0
  was : RShAt wr w.heap.size gw (ver0 : Int) v0 (bs0.map toR)
  ne : (go ≠ p ∧ go ≠ q) ∧ (gs ≠ p ∧ gs ≠ q) ∧ gw ≠ p ∧ gw ≠ q
namespace Old8
variable {w wr w1 : World} {p q go gs gw c4 c5 c1 ver0 G : Nat} {o : S32} {A4 A5 A1 : Option Addr} {v0 : Value} {bs0 : List Bk}
theorem below (h : Old8 w wr p q go gs gw o A4 A5 A1 c4 c5 c1 ver0 v0 bs0) (hb : Below wr.heap.size wr w1) : Old8 w w1 p q go gs gw o A4 A5 A1 c4 c5 c1 ver0 v0 bs0 := ⟨blk_below h.op hb, blk_below h.sn hb, Kd.V_below h.row hb, h.was.below hb, h.ne⟩
theorem grown (h : Old8 w wr p q go gs gw o A4 A5 A1 c4 c5 c1 ver0 v0 bs0) (hG : NoI wr G) (hg : wr.grownBy w1 (some G)) (hn : G = p ∨ G = q) : Old8 w w1 p q go gs gw o A4 A5 A1 c4 c5 c1 ver0 v0 bs0 := by
 have h1 : go ≠ G ∧ gs ≠ G ∧ gw ≠ G := by
  obtain ⟨⟨a, b⟩, ⟨c, d⟩, e, f⟩ := h.ne
  rcases hn with rfl | rfl
  · exact ⟨a, c, e⟩
  · exact ⟨b, d, f⟩
 exact ⟨(hg.block go (blk_lt h.op) (fun e => h1.1 (by injection e))).trans h.op, (hg.block gs (blk_lt h.sn) (fun e => h1.2.1 (by injection e))).trans h.sn, VB_grownI h.row hG hg, h.was.grown hG hg h1.2.2, h.ne⟩
end Old8
end Go.Proofs.Ytdfndglenbckhaa.V
end
section
set_option linter.unusedVariables false
set_option linter.unusedSimpArgs false
namespace Go.Proofs.Ytdfndglenbckhaa.V
open Go.RowKit Go.Proofs.YtdfndglenbckhaaW.PrintWords Go.Proofs.YtdfndglenbckhaaW.PrintLast Go.Proofs.YtdfndglenbckhaaW.PrintMore
def isE (id : Int) (e : E) : Bool := decide (e.f1 = id)
def idxV : Option Nat → Int
  | none => -1
  | some i => (i : Int)
theorem find_here {α : Type} {p : α → Bool} {l : List α} {m : Nat} {a : α} (ha : l[m]? = some a) (hp : p a = true) (hb : ∀ j b, j < m → l[j]? = some b → p b = false) : l.findIdx? p = some m := by
 obtain ⟨h1, rfl⟩ := List.getElem?_eq_some_iff.1 ha
 rw [List.findIdx?_eq_some_iff_getElem]
 exact ⟨h1, hp, fun j hj => by rw [hb j _ hj (List.getElem?_eq_getElem (by omega))]; simp⟩
theorem find_none {α : Type} {p : α → Bool} {l : List α} (hb : ∀ j b, j < l.length → l[j]? = some b → p b = false) : l.findIdx? p = none := by
 rw [List.findIdx?_eq_none_iff]
 intro x hx
 obtain ⟨j, hj, rfl⟩ := List.getElem_of_mem hx
 exact hb j _ hj (List.getElem?_eq_getElem hj)
def CapI (w : World) (gi : Nat) (id : Int) : Prop := w.heap[gi]? = some (.cells #[.int .i64 id] 3 (0, 0))
theorem CapI.below {w w1 : World} {gi : Nat} {id : Int} (h : CapI w gi id) (hb : Below w.heap.size w w1) : CapI w1 gi id := (hb.block gi (Array.getElem?_eq_some_iff.1 h).1).trans h
theorem CapI.cell {w : World} {gi : Nat} {id : Int} (h : CapI w gi id) : w.cell? ⟨gi, 0, none⟩ = some (.int .i64 id) := by
 unfold CapI at h
 simp [World.cell?, h]
set_option maxHeartbeats 400000 in
theorem ld1 (id : Int) (gi : Nat) (e : E) (w : World) (h : CapI w gi id) :
 Calls Try.prog 76 #[.agg #[.int .u64 e.f0, .int .i64 e.f1], .pointer (some ⟨gi, 0, none⟩)] w fun x w' => x = .returned (.bool (isE id e)) ∧ Below w.heap.size w w' := by
 have hc := (h.below (below_alloc (Below.refl w.heap.size w) (.cells #[.int .u64 e.f0, .int .i64 e.f1] 46))).cell
 clear h
 unfold isE
 go_enter Try.func76, Try.ntmps76
 go_wp2
 go_ret
 exact ⟨by first | rfl | simp, below_alloc (Below.refl _ _) _⟩
set_option maxRecDepth 100000 in
set_option maxHeartbeats 2000000 in
theorem eidx (id : Int) (gi : Nat) (A : Option Addr) (c : Nat) (l : List E) (w : World) (hr : k46.C w A l.length l) (hc : l.length ≤ c) (hl : l.length ≤ 1000000) (h : CapI w gi id) :
 Calls Try.prog 105 #[.slice A l.length c, .func (.func 76) #[] #[.pointer (some ⟨gi, 0, none⟩)]] w fun x w' => x = .returned (.int .i64 (idxV (l.findIdx? (isE id)))) ∧ Below w.heap.size w w' := by
 have HR := Aside0.mk hr
 have HC := Aside0.mk h
 clear hr h
 go_enter Try.func105, Try.ntmps105
 go_wp2
 go_loopw [8] (fun i wr => ∃ m : Nat, m ≤ l.length ∧ i = .int .i64 m ∧ Aside0 (∀ j b, j < m → l[j]? = some b → isE id b = false) ∧ Aside0 (Below w.heap.size w wr)) (fun i _ => l.length - (intOf i).toNat)
 case atStart => exact ⟨0, Nat.zero_le _, rfl, ⟨fun j b h => by omega⟩, ⟨Below.refl _ _⟩⟩
 case round =>
  obtain ⟨m, hm, rfl, HN, HB⟩ := hrel
  by_cases hlt : m < l.length
  · obtain ⟨e, he⟩ : ∃ e, l[m]? = some e := ⟨_, List.getElem?_eq_getElem hlt⟩
    obtain ⟨ad, e1, y0, y1⟩ := at_T46 (Kd.C_below HR.out HB.out) (m : Int) (by omega) (by omega)
    subst e1
    rw [Int.toNat_natCast, rd_some he] at y0 y1
    have HE := Aside0.mk he
    clear he
    go_wp2_with fail
    refine (ld1 id gi e _ (HC.out.below HB.out)).mono ?_
    rintro x w2 ⟨rfl, hb2⟩
    have HB2 := Aside0.mk (below_step HB.out hb2)
    clear hb2 y0 y1
    cases hi : isE id e with
    | true =>
     have HF := Aside0.mk (find_here HE.out hi HN.out)
     clear hi
     go_wp2
     go_ret
     exact ⟨by rw [HF.out]; rfl, HB2.out⟩
    | false =>
     have HN2 : Aside0 (∀ j b, j < m + 1 → l[j]? = some b → isE id b = false) := ⟨fun j b hj hb => by
      by_cases h1 : j = m
      · subst h1
        rw [HE.out] at hb
        injection hb with hb
        rw [← hb]; exact hi
      · exact HN.out j b (by omega) hb⟩
     clear hi
     go_wp2
     go_roundw
     case rel => exact ⟨m + 1, by omega, by go_num, HN2, HB2⟩
     case measure => simp [intOf]; omega
  · obtain rfl : m = l.length := by omega
    have HF := Aside0.mk (find_none HN.out)
    go_wp2
    go_ret
    exact ⟨by rw [HF.out]; rfl, HB.out⟩
theorem idx_any {α : Type} (p : α → Bool) (l : List α) : decide (0 ≤ idxV (l.findIdx? p)) = l.any p := by
 cases h : l.findIdx? p with
 | none =>
  rw [List.findIdx?_eq_none_iff] at h
  have : l.any p = false := by rw [List.any_eq_false]; intro x hx; rw [h x hx]; simp
  rw [this]; rfl
 | some i =>
  rw [List.findIdx?_eq_some_iff_getElem] at h
  obtain ⟨h1, h2, _⟩ := h
  have : l.any p = true := List.any_eq_true.2 ⟨_, List.getElem_mem h1, h2⟩
  rw [this]
  exact decide_eq_true (Int.natCast_nonneg i)
set_option maxHeartbeats 1000000 in
theorem econt (id : Int) (gi : Nat) (A : Option Addr) (c : Nat) (l : List E) (w : World) (hr : k46.C w A l.length l) (hc : l.length ≤ c) (hl : l.length ≤ 1000000) (h : CapI w gi id) :
 Calls Try.prog 62 #[.slice A l.length c, .func (.func 76) #[] #[.pointer (some ⟨gi, 0, none⟩)]] w fun x w' => x = .returned (.bool (l.any (isE id))) ∧ Below w.heap.size w w' := by
 have HR := Aside0.mk hr
 have HC := Aside0.mk h
 have HA := Aside0.mk (idx_any (isE id) l)
 clear hr h
 go_enter Try.func62, Try.ntmps62
 go_wp2_with fail
 refine (eidx id gi A c l _ HR.out hc hl HC.out).mono ?_
 rintro x w2 ⟨rfl, hb2⟩
 have HB2 := Aside0.mk hb2
 clear hb2
 generalize idxV (l.findIdx? (isE id)) = v at HA ⊢
 go_wp2
 go_ret
 exact ⟨by rw [← HA.out]; rfl, HB2.out⟩
def CapF (w : World) (gf gi : Nat) (id : Int) : Prop := w.heap[gf]? = some (.cells #[.func (.func 76) #[] #[.pointer (some ⟨gi, 0, none⟩)]] 92 (0, 0)) ∧ CapI w gi id
theorem CapF.below {w w1 : World} {gf gi : Nat} {id : Int} (h : CapF w gf gi id) (hb : Below w.heap.size w w1) : CapF w1 gf gi id := ⟨(hb.block gf (Array.getElem?_eq_some_iff.1 h.1).1).trans h.1, h.2.below hb⟩
theorem CapF.cell {w : World} {gf gi : Nat} {id : Int} (h : CapF w gf gi id) : w.cell? ⟨gf, 0, none⟩ = some (.func (.func 76) #[] #[.pointer (some ⟨gi, 0, none⟩)]) := by
 have := h.1
 simp [World.cell?, this]
set_option maxHeartbeats 1000000 in
theorem ld2 (id : Int) (gf gi : Nat) (b : Bk) (A : Option Addr) (c : Nat) (w : World) (hr : k46.C w A b.f1.length b.f1) (hc : b.f1.length ≤ c) (hl : b.f1.length ≤ 1000000) (h : CapF w gf gi id) :
 Calls Try.prog 77 #[.agg #[.int .i64 b.f0, .slice A b.f1.length c], .pointer (some ⟨gf, 0, none⟩)] w fun x w' => x = .returned (.bool (hasB id b)) ∧ Below w.heap.size w w' := by
 have hcf := (h.below (below_alloc (Below.refl w.heap.size w) (.cells #[.int .i64 b.f0, .slice A b.f1.length c] 84))).cell
 have HF := Aside0.mk (h.below (below_alloc (Below.refl w.heap.size w) (.cells #[.int .i64 b.f0, .slice A b.f1.length c] 84)))
 have HR := Aside0.mk (Kd.C_below hr (below_alloc (Below.refl w.heap.size w) (.cells #[.int .i64 b.f0, .slice A b.f1.length c] 84)))
 clear hr h
 go_enter Try.func77, Try.ntmps77
 go_wp2_with fail
 refine (econt id gi A c b.f1 _ HR.out hc hl HF.out.2).mono ?_
 rintro x w2 ⟨rfl, hb2⟩
 have HB2 := Aside0.mk (below_step (below_alloc (Below.refl w.heap.size w) (.cells #[.int .i64 b.f0, .slice A b.f1.length c] 84)) hb2)
 clear hb2
 go_wp2
 go_ret
 exact ⟨rfl, HB2.out⟩
set_option maxRecDepth 100000 in
set_option maxHeartbeats 2000000 in
theorem bidx (id : Int) (gf gi : Nat) (A : Option Addr) (c : Nat) (bs : List Bk) (w : World) (hr : k84.C w A bs.length bs) (hc : bs.length ≤ c) (hn : bs.length ≤ 100) (hl : (allB bs).length ≤ 1000000) (h : CapF w gf gi id) :
 Calls Try.prog 54 #[.slice A bs.length c, .func (.func 77) #[] #[.pointer (some ⟨gf, 0, none⟩)]] w fun x w' => x = .returned (.int .i64 (idxV (bs.findIdx? (hasB id)))) ∧ Below w.heap.size w w' := by
 have HR := Aside0.mk hr
 have HC := Aside0.mk h
 clear hr h
 go_enter Try.func54, Try.ntmps54
 go_wp2
 go_loopw [8] (fun i wr => ∃ m : Nat, m ≤ bs.length ∧ i = .int .i64 m ∧ Aside0 (∀ j b, j < m → bs[j]? = some b → hasB id b = false) ∧ Aside0 (Below w.heap.size w wr)) (fun i _ => bs.length - (intOf i).toNat)
 case atStart => exact ⟨0, Nat.zero_le _, rfl, ⟨fun j b h => by omega⟩, ⟨Below.refl _ _⟩⟩
 case round =>
  obtain ⟨m, hm, rfl, HN, HB⟩ := hrel
  by_cases hlt : m < bs.length
  · obtain ⟨b, hb⟩ : ∃ b, bs[m]? = some b := ⟨_, List.getElem?_eq_getElem hlt⟩
    obtain ⟨ad, A1, c1, rfl, y0, y1, e4, e5⟩ := bk_at (Kd.C_below HR.out HB.out) hb
    have HE := Aside0.mk hb
    have HV := Aside0.mk e5
    have hle := allB_at_le hb
    have HL := Aside0.mk (show b.f1.length ≤ 1000000 by omega)
    clear hb e5 hle
    go_wp2_with fail
    refine (ld2 id gf gi b A1 c1 _ HV.out e4 HL.out (HC.out.below HB.out)).mono ?_
    rintro x w2 ⟨rfl, hb2⟩
    have HB2 := Aside0.mk (below_step HB.out hb2)
    clear hb2 y0 y1
    cases hi : hasB id b with
    | true =>
     have HF := Aside0.mk (find_here HE.out hi HN.out)
     clear hi
     go_wp2
     go_ret
     exact ⟨by rw [HF.out]; rfl, HB2.out⟩
    | false =>
     have HN2 : Aside0 (∀ j b, j < m + 1 → bs[j]? = some b → hasB id b = false) := ⟨fun j b' hj hb' => by
      by_cases h1 : j = m
      · subst h1
        rw [HE.out] at hb'
        injection hb' with hb'
        rw [← hb']; exact hi
      · exact HN.out j b' (by omega) hb'⟩
     clear hi
     go_wp2
     go_roundw
     case rel => exact ⟨m + 1, by omega, by go_num, HN2, HB2⟩
     case measure => simp [intOf]; omega
  · obtain rfl : m = bs.length := by omega
    have HF := Aside0.mk (find_none HN.out)
    go_wp2
    go_ret
    exact ⟨by rw [HF.out]; rfl, HB.out⟩
end Go.Proofs.Ytdfndglenbckhaa.V
end
section
set_option linter.unusedVariables false
set_option linter.unusedSimpArgs false
namespace Go.Proofs.Ytdfndglenbckhaa.V
open Go.RowKit Go.Proofs.YtdfndglenbckhaaW.PrintWords Go.Proofs.YtdfndglenbckhaaW.PrintLast Go.Proofs.YtdfndglenbckhaaW.PrintMore
set_option maxHeartbeats 400000 in
theorem ld3 (id : Int) (gi : Nat) (x : Int) (w : World) (h : CapI w gi id) :
 Calls Try.prog 78 #[.int .i64 x, .pointer (some ⟨gi, 0, none⟩)] w fun y w' => y = .returned (.bool (decide (x = id))) ∧ w = w' := by
 have hc := h.cell
 clear h
 go_enter Try.func78, Try.ntmps78
 go_wp2
 go_ret
 exact ⟨by first | rfl | simp, rfl⟩
theorem func_nil (f : Fn) (x y : Array Value) (W : World) : (binOp .eql 39 (.func f x y) .nilFunc).run Try.prog W = .ok (.bool false) W := by
 have h : ∀ d, (Op.equalIn (d + 1) 39 (.func f x y) .nilFunc).run Try.prog W = .ok false W := fun d => by simp [Op.equalIn, run_underlying Try.underlying39]
 simp only [binOp]
 simp [Op.equal, Op.maxDepth, h 9999]
theorem out_take {id : Int} {b : Bk} {m : Nat} {e : E} (h : b.f1[m]? = some e) : (b.f1.take (m + 1)).filter (fun e => decide (e.f1 ≠ id)) = (b.f1.take m).filter (fun e => decide (e.f1 ≠ id)) ++ (if e.f1 = id then [] else [e]) := by
 obtain ⟨h1, rfl⟩ := List.getElem?_eq_some_iff.1 h
 rw [List.take_succ_eq_append_getElem h1, List.filter_append]
 by_cases hi : b.f1[m].f1 = id <;> simp [hi]
set_option maxRecDepth 100000 in
set_option maxHeartbeats 4000000 in
theorem shrink_ld3 (id : Int) (gi : Nat) (b : Bk) (A : Option Addr) (c : Nat) (w : World) (hr : k46.C w A b.f1.length b.f1) (hc : b.f1.length ≤ c) (hl : b.f1.length ≤ 1000000) (h : CapI w gi id) :
 Calls Try.prog 63 #[.agg #[.int .i64 b.f0, .slice A b.f1.length c], .func (.func 78) #[] #[.pointer (some ⟨gi, 0, none⟩)]] w fun x w' => ∃ v1, x = .returned (.agg #[.int .i64 (mkB (outB id b)).f0, v1]) ∧ Kd.V k46 46 w' w.heap.size (fun k => w.heap.size ≤ k) v1 (mkB (outB id b)).f1 ∧ Below w.heap.size w w' := by
 have hz := below_alloc (below_alloc (Below.refl w.heap.size w) (.cells #[.int .i64 b.f0, .slice A b.f1.length c] 84)) (.cells #[.int .i64 0, .slice none 0 0] 84)
 have HZ := Aside0.mk hz
 have HR := Aside0.mk (Kd.C_below hr hz)
 have HC := Aside0.mk (h.below hz)
 have HX := Aside0.mk (heap_alloc_new (w.alloc (.cells #[.int .i64 b.f0, .slice A b.f1.length c] 84)) (.cells #[.int .i64 0, .slice none 0 0] 84))
 have hnil := fun W => func_nil (.func 78) #[] #[.pointer (some ⟨gi, 0, none⟩)] W
 clear hz hr h
 go_enter Try.func63, Try.ntmps63
 go_wp2
 obtain ⟨wz, hwz⟩ : ∃ wz : World, wz = (w.alloc (.cells #[.int .i64 b.f0, .slice A b.f1.length c] 84)).alloc (.cells #[.int .i64 0, .slice none 0 0] 84) := ⟨_, rfl⟩
 rw [← hwz] at HZ HR HC HX ⊢
 rw [World.size_alloc] at HX
 clear hwz
 go_loopw [5, 11] (fun q i wr => ∃ m : Nat, m ≤ b.f1.length ∧ i = .int .i64 m ∧ Aside0 (Kd.R k46 46 wr wz.heap.size (fun _ => True) q ((b.f1.take m).filter (fun e => decide (e.f1 ≠ id)))) ∧ Aside0 (Below wz.heap.size wz wr)) (fun _ i _ => b.f1.length - (intOf i).toNat)
 case atStart => exact ⟨0, Nat.zero_le _, rfl, ⟨Kd.R_nil _ _ _ _ _⟩, ⟨Below.refl _ _⟩⟩
 case round =>
  obtain ⟨m, hm, rfl, HQ, HB⟩ := hrel
  by_cases hlt : m < b.f1.length
  · obtain ⟨e, he⟩ : ∃ e, b.f1[m]? = some e := ⟨_, List.getElem?_eq_getElem hlt⟩
    obtain ⟨ad, e1, y0, y1⟩ := at_T46 (Kd.C_below HR.out HB.out) (m : Int) (by omega) (by omega)
    subst e1
    rw [Int.toNat_natCast, rd_some he] at y0 y1
    have HT := Aside0.mk (out_take (id := id) he)
    have hql : ((b.f1.take m).filter (fun e => decide (e.f1 ≠ id))).length ≤ 1000000 := Nat.le_trans (List.length_filter_le _ _) (by rw [List.length_take]; omega)
    have HQL := Aside0.mk hql
    clear he hql
    by_cases hi : e.f1 = id
    · have HT2 := HT.out
      rw [if_pos hi, List.append_nil] at HT2
      have HT3 := Aside0.mk HT2
      have di : decide (e.f1 = id) = true := decide_eq_true hi
      clear HT2 hi
      go_wp2_with fail
      refine (ld3 id gi e.f1 _ ((HC.out.below HB.out).below (below_alloc (Below.refl _ _) _))).mono ?_
      rintro y w2 ⟨rfl, rfl⟩
      go_wp2
      go_roundw
      case rel => exact ⟨m + 1, by omega, by go_num, ⟨by rw [HT3.out]; exact Kd.R_alloc HQ.out _⟩, ⟨below_alloc HB.out _⟩⟩
      case measure => simp [intOf]; omega
    · have HT2 := HT.out
      rw [if_neg hi] at HT2
      have HT3 := Aside0.mk HT2
      have di : decide (e.f1 = id) = false := decide_eq_false hi
      clear HT2 hi
      go_wp2_with fail
      refine (ld3 id gi e.f1 _ ((HC.out.below HB.out).below (below_alloc (Below.refl _ _) _))).mono ?_
      rintro y w2 ⟨rfl, rfl⟩
      go_wp2_with (at_builtin; go_loud (refine Kd.R_append k46 (w0 := wz) wz.heap.size rfl (.tmp 24) (.tmp 26) 30 46 (.agg #[(.int .u64 0), (.int .i64 0)]) 16 rfl Try.underlying30 info46 rfl (by decide) (by decide) u5 ((b.f1.take m).filter (fun e => decide (e.f1 ≠ id))) e [.int .u64 e.f0, .int .i64 e.f1] (fun _ => True) (fun _ => False) rfl (by simp [Act.eval]) (k46_mkM _ _ _ e) (fun _ hk => hk.elim) (fun _ _ => trivial) (Kd.R_alloc HQ.out _) (below_alloc HB.out _) (below_alloc HB.out _).size (by have := HQL.out; omega) ?_; intro v1 w3 ho1 hb1 hg1 hat1; have HQ1 := Aside0.mk ho1; have HB1 := Aside0.mk hb1; clear ho1 hb1 hg1 hat1))
      go_roundw
      case rel => exact ⟨m + 1, by omega, by go_num, ⟨by rw [HT3.out]; exact HQ1.out⟩, HB1⟩
      case measure => simp [intOf]; omega
  · obtain rfl : m = b.f1.length := by omega
    rw [List.take_length] at HQ
    have HOB : Aside0 (Kd.R k46 46 wr wz.heap.size (fun _ => True) u5 (outB id b)) := HQ
    have HOL := Aside0.mk (show (outB id b).length ≤ 1000000 from Nat.le_trans (List.length_filter_le _ _) hl)
    obtain ⟨A1, c1, e1⟩ := Kd.R_slice HOB.out
    subst e1
    have HRD := Aside0.mk (Kd.R_reads' HOB.out)
    have HOF := Aside0.mk (show block_Of.f 100 (outB id b) = some ((mkB (outB id b)).f0, (mkB (outB id b)).f1) from of_told 100 _ (by have := HOL.out; omega) (by omega))
    clear HQ
    go_wp2_with fail
    refine (block_Of.calls 100 A1 c1 (outB id b) _ _ wr HRD.out.2.2 HRD.out.2.1 HOF.out).mono ?_
    rintro y w4 ⟨v4, rfl, hv4, hb4⟩
    obtain ⟨A4, c4, rfl⟩ := Kd.V_slice hv4
    have HV4 := Aside0.mk hv4
    have HB4 := Aside0.mk (below_then HB.out HB.out.size hb4)
    have hx := (HB4.out.block _ (Array.getElem?_eq_some_iff.1 HX.out).1).trans HX.out
    have x0 : w4.cell? ⟨w.heap.size + 1, 0, none⟩ = some (.int .i64 0) := by simp [World.cell?, hx]
    have x1 : w4.cell? ⟨w.heap.size + 1, 1, none⟩ = some (.slice none 0 0) := by simp [World.cell?, hx]
    have f0 : w4.frozen? ⟨w.heap.size + 1, 0, none⟩ = false := by simp [World.frozen?, hx]
    have f1 : w4.frozen? ⟨w.heap.size + 1, 1, none⟩ = false := by simp [World.frozen?, hx]
    clear hv4 hb4 hx
    have HWZ : Aside0 (w.heap.size + 1 < wr.heap.size) := ⟨Nat.lt_of_lt_of_le (Array.getElem?_eq_some_iff.1 HX.out).1 HB.out.size⟩
    have HV5 := Aside0.mk (Kd.V_mono (Kd.V_far (Kd.V_far HV4.out (p := ⟨w.heap.size + 1, 0, none⟩) (fun k hk => by have := HWZ.out; show k ≠ w.heap.size + 1; omega) (.int .i64 (mkB (outB id b)).f0)) (p := ⟨w.heap.size + 1, 1, none⟩) (fun k hk => by have := HWZ.out; show k ≠ w.heap.size + 1; omega) (.slice A4 (mkB (outB id b)).f1.length c4)) (ok' := fun k => w.heap.size ≤ k) (fun k hk => by have := HWZ.out; omega))
    go_wp2
    exact bodyPost_ret (v := .agg #[.int .i64 (mkB (outB id b)).f0, .slice A4 (mkB (outB id b)).f1.length c4]) (by simp [results, Try.results63, go_sem, x0, x1]) rfl ⟨_, rfl, HV5.out, ((below_step HZ.out HB4.out).setCell (Nat.le_succ _) _).setCell (Nat.le_succ _) _⟩
end Go.Proofs.Ytdfndglenbckhaa.V
end
section
set_option linter.unusedVariables false
set_option linter.unusedSimpArgs false
namespace Go.Proofs.Ytdfndglenbckhaa.V
open Go.RowKit Go.Proofs.YtdfndglenbckhaaW.PrintWords Go.Proofs.YtdfndglenbckhaaW.PrintLast Go.Proofs.YtdfndglenbckhaaW.PrintMore
theorem run_store_func (P : Program) (w : World) (a : Addr) (m : Mode) (f : Fn) (x y : Array Value) : (store a (.func f x y) m).run P w = stored P w a (.func f x y) m := run_store P w a _ m rfl
attribute [local go_sem] run_store_func
theorem drop_some {bs : List Bk} (h : Good bs) (id : Int) {i : Nat} {b : Bk} (hi : bs.findIdx? (hasB id) = some i) (hb : bs[i]? = some b) (hl : (allB bs).length ≤ 999999) :
 (dropL id bs).1 = true ∧ (outB id b = [] → Mrg (isort (bs.eraseIdx i)) (dropL id bs).2 ∧ ∀ q ∈ bs.eraseIdx i, Sound q) ∧ (outB id b ≠ [] → Mrg (isort (bs.set i (mkB (outB id b)))) (dropL id bs).2 ∧ ∀ q ∈ bs.set i (mkB (outB id b)), Sound q) := by
 have hlt := (List.getElem?_eq_some_iff.1 hb).1
 obtain ⟨h1, h2⟩ := drop_mrg h id hi hb (fun q hq => by
  obtain ⟨k, hk, rfl⟩ := List.getElem_of_mem hq
  have := allB_at_le (List.getElem?_eq_getElem hk)
  omega)
 refine ⟨by rw [h1], fun h0 => ?_, fun h0 => ?_⟩
 · rw [if_pos h0, List.append_nil] at h2
   rw [List.eraseIdx_eq_take_drop_succ]
   exact ⟨h2, fun q hq => h.snd q ((cut_out bs i).subset hq)⟩
 · rw [if_neg h0, List.append_assoc] at h2
   refine ⟨by rw [List.set_eq_take_append_cons_drop, if_pos hlt]; exact h2, fun q hq => ?_⟩
   rcases List.mem_or_eq_of_mem_set hq with hq | rfl
   · exact h.snd q hq
   · exact mkB_sound h0
theorem drop_none {bs : List Bk} {id : Int} (hi : bs.findIdx? (hasB id) = none) : dropL id bs = (false, bs) := by unfold dropL; rw [hi]
theorem isort_allB (l : List Bk) : (allB (isort l)).length = (allB l).length := ((isort_perm l).flatMap_right _).length_eq
theorem drop_len {bs : List Bk} (h : Good bs) (id : Int) (hl : (allB bs).length ≤ 999999) : (allB (dropL id bs).2).length ≤ (allB bs).length := by
 cases hi : bs.findIdx? (hasB id) with
 | none => rw [drop_none hi]; exact Nat.le_refl _
 | some i =>
  have hlt : i < bs.length := by rw [List.findIdx?_eq_some_iff_getElem] at hi; exact hi.1
  have hb := List.getElem?_eq_getElem hlt
  obtain ⟨_, h1, h2⟩ := drop_some h id hi hb hl
  have e1 : bs = bs.take i ++ bs[i] :: bs.drop (i + 1) := by
   conv => lhs; rw [← List.take_append_drop i bs, List.drop_eq_getElem_cons hlt]
  have hc : (allB bs).length = (allB (bs.take i)).length + (bs[i].f1.length + (allB (bs.drop (i + 1))).length) := by
   conv => lhs; rw [e1, allB_append, allB_cons, List.length_append, List.length_append]
  have ho : (outB id bs[i]).length ≤ bs[i].f1.length := List.length_filter_le _ _
  by_cases h0 : outB id bs[i] = []
  · rw [← mrg_all (h1 h0).1, isort_allB, List.eraseIdx_eq_take_drop_succ, allB_append, List.length_append]
    omega
  · rw [← mrg_all (h2 h0).1, isort_allB, List.set_eq_take_append_cons_drop, if_pos hlt, allB_append, allB_cons, List.length_append, List.length_append]
    have : (mkB (outB id bs[i])).f1.length = (outB id bs[i]).length := sortE_length _
    omega
set_option maxRecDepth 100000 in
set_option maxHeartbeats 8000000 in
theorem lsm_drop (base p : Nat) (v : Value) (bs : List Bk) (id : Int) (w : World) (hs : LsmAt w base p v bs) (hg : Good bs) (hn : bs.length ≤ 18) (hl : (allB bs).length ≤ 999999) :
 Calls Try.prog 29 #[.pointer (some ⟨p, 0, none⟩), .int .i64 id] w fun x w' => x = .returned (.bool (dropL id bs).1) ∧ ∃ v', LsmAt w' base p v' (dropL id bs).2 ∧ Turn w w' p v v' := by
 have hz := below_alloc (below_alloc (Below.refl w.heap.size w) (.cells #[.int .i64 id] 3)) (.cells #[.func (.func 76) #[] #[.pointer (some ⟨w.heap.size, 0, none⟩)]] 92)
 have HZ := Aside0.mk hz
 have hcf : CapF ((w.alloc (.cells #[.int .i64 id] 3)).alloc (.cells #[.func (.func 76) #[] #[.pointer (some ⟨w.heap.size, 0, none⟩)]] 92)) (w.heap.size + 1) w.heap.size id := ⟨(two_boxes w _ _).2.1, (two_boxes w _ _).1⟩
 have HCF := Aside0.mk hcf
 have HLZ := Aside0.mk (hs.below hz)
 have hpz := HLZ.out.cell
 obtain ⟨A, c, rfl, hc, hC⟩ := HLZ.out.reads
 have HC := Aside0.mk hC
 have HG := Aside0.mk hg
 have HL := Aside0.mk hl
 clear hz hcf hs hg hC hl
 go_enter Try.func29, Try.ntmps29
 go_wp2_with fail
 refine (bidx id (w.heap.size + 1) w.heap.size A c bs _ HC.out hc (by omega) (by have := HL.out; omega) HCF.out).mono ?_
 rintro y w1 ⟨rfl, hb1⟩
 have HL1 := Aside0.mk (HLZ.out.below hb1)
 have HCF1 := Aside0.mk (HCF.out.below hb1)
 have HB1 := Aside0.mk (below_step HZ.out hb1)
 clear hb1 hpz HC
 cases hf : bs.findIdx? (hasB id) with
 | none =>
  have HD := Aside0.mk (drop_none hf)
  clear hf
  rw [show idxV none = -1 from rfl]
  go_wp2
  go_ret
  exact ⟨by rw [HD.out]; rfl, _, by rw [HD.out]; exact HL1.out, Turn.of_below HB1.out p _⟩
 | some i =>
  have hlt : i < bs.length := by rw [List.findIdx?_eq_some_iff_getElem] at hf; exact hf.1
  obtain ⟨b, hb⟩ : ∃ b, bs[i]? = some b := ⟨_, List.getElem?_eq_getElem hlt⟩
  have HD := Aside0.mk (drop_some HG.out id hf hb HL.out)
  have HLF := Aside0.mk (drop_len HG.out id HL.out)
  have HBb := Aside0.mk hb
  have HI := Aside0.mk hlt
  clear hf hb
  rw [show idxV (some i) = (i : Int) from rfl]
  obtain ⟨g, cap, hv, _, hgl, _⟩ := Kd.N_form HL1.out.row (by omega)
  injection hv with e1 e2 e3
  subst e1; subst e3
  obtain ⟨A1, k1, x0, x1, xV⟩ := bk_elemV HL1.out.row HBb.out
  obtain ⟨_, _, _, _, _, _, xf⟩ := bk_elem HL1.out.row HBb.out
  have hp1 := HL1.out.cell
  have hin : i < bs.length := hlt
  have hin2 : (i : Int) < (bs.length : Int) := by omega
  have hin3 : (0 : Int) ≤ (i : Int) := by omega
  have d0 : decide ((i : Int) < 0) = false := decide_eq_false (by omega)
  have HXV := Aside0.mk xV
  have HXF := Aside0.mk xf
  have HGL := Aside0.mk (show g < w1.heap.size ∧ p < w1.heap.size ∧ g ≠ p from ⟨(HL1.out.own g rfl).2.1, HL1.out.lt, (HL1.out.own g rfl).2.2⟩)
  have HFL := Aside0.mk (show b.f1.length ≤ 1000000 by have h1 := allB_at_le HBb.out; have h2 := HL.out; omega)
  clear xV xf hgl hlt
  have HCB := Aside0.mk (Kd.C_below (Kd.V_reads' (HXV.out 0)).2.2 (below_drew (Below.refl w1.heap.size w1)))
  have HCC := Aside0.mk (Kd.V_reads' (HXV.out 0)).2.1
  have HCI := Aside0.mk (HCF1.out.2.below (below_drew (Below.refl w1.heap.size w1)))
  have HNW := Aside0.mk (show ∀ k, w1.drew.heap.size ≤ k → k ≠ p ∧ k ≠ g from fun k hk => by have h1 := HGL.out; have h2 : w1.heap.size ≤ k := hk; omega)
  go_upto_region 5 with fail
  go_cut [1] (fun s1 wx => Aside0 (LsmAt wx base p (.slice (some ⟨g, 0, none⟩) bs.length c) (bs.set i (mkB (outB id b))) ∧ Turn w wx p (.slice (some ⟨g, 0, none⟩) bs.length c) (.slice (some ⟨g, 0, none⟩) bs.length c)))
  case first =>
   go_region_with (first
    | (go_at_call 63; go_loud (refine (shrink_ld3 id w.heap.size b A1 k1 w1.drew HCB.out HCC.out HFL.out HCI.out).mono ?_; rintro y w5 ⟨v5, rfl, hv5, hb5⟩; obtain ⟨A5, c5, rfl⟩ := Kd.V_slice hv5; have HV5 := Aside0.mk hv5; have HB5 := Aside0.mk (below_step (below_drew (Below.refl w1.heap.size w1)) hb5); have n0 := pw_cell_below HB5.out x0; have n1 := pw_cell_below HB5.out x1; have np := pw_cell_below HB5.out hp1; have f0 := froz_below HB5.out HGL.out.1 (HXF.out 0); have f1 := froz_below HB5.out HGL.out.1 (HXF.out 1); rw [Nat.add_zero] at f0; have HL5 := Aside0.mk (HL1.out.below HB5.out); clear hv5 hb5)))
   all_goals (go_wp2_with fail)
   all_goals go_meet
   all_goals exact ⟨⟨(Below.heap_setCell _ ⟨g, i * 2 + 1, none⟩ _ p (fun e => HGL.out.2.2 e.symm)).trans ((Below.heap_setCell _ ⟨g, i * 2, none⟩ _ p (fun e => HGL.out.2.2 e.symm)).trans HL5.out.hd), bk_set HL5.out.row HI.out (fk_new HV5.out HNW.out), HL5.out.lo⟩, (Turn.of_below (below_step HB1.out HB5.out) p _).trans (turn_grown (set2_grown (grown_of_below (Below.refl _ _) _)))⟩
  case rest =>
   have HCT := hcut
   have HL7 := Aside0.mk HCT.out.1
   have HT7 := Aside0.mk HCT.out.2
   have hp7 := HL7.out.cell
   have hsx : (bs.set i (mkB (outB id b)))[i]? = some (mkB (outB id b)) := by rw [List.getElem?_set_self HI.out]
   obtain ⟨A6, k6, z0, z1, _, _, _⟩ := bk_elem HL7.out.row hsx
   have hxl : (mkB (outB id b)).f1.length = (outB id b).length := sortE_length _
   have HBZ := Aside0.mk (show base ≤ wc.heap.size from Nat.le_of_lt (Nat.lt_of_le_of_lt HL7.out.lo HL7.out.lt))
   have HNB := Aside0.mk (show bs.length ≤ 1000 ∧ bs.length ≤ 19 by omega)
   have HFI := Aside0.mk (show (allB (dropL id bs).2).length ≤ 1000000 from Nat.le_trans HLF.out (by have := HL.out; omega))
   clear x0 x1 hp1 hsx
   by_cases h0 : outB id b = []
   · have hM := HD.out.2.1 h0
     have HM := Aside0.mk hM
     have h00 : (mkB (outB id b)).f1.length = 0 := by rw [hxl, h0]; rfl
     rw [h00] at z1
     have HER := Aside0.mk (show (bs.set i (mkB (outB id b))).eraseIdx i = bs.eraseIdx i by
      rw [List.eraseIdx_eq_take_drop_succ, List.eraseIdx_eq_take_drop_succ, List.take_set, List.drop_set, if_pos (by omega)]
      rw [List.set_eq_of_length_le (by rw [List.length_take]; omega)])
     have HEL := Aside0.mk (show (bs.eraseIdx i).length ≤ 19 from Nat.le_trans (List.length_eraseIdx_le _ _) HNB.out.2)
     clear h0 hM h00 hxl
     go_wp2_with fail
     refine (bdel base g bs.length c i _ (bs.set i (mkB (outB id b))) _ HL7.out.row HI.out HNB.out.1 HBZ.out).mono ?_
     rintro y w8 ⟨rfl, hN8, hg8⟩
     rw [HER.out] at hN8
     have HN8 := Aside0.mk hN8
     have HG8 := Aside0.mk hg8
     have HP8 := Aside0.mk ((hg8.block p HL7.out.lt (fun e => HGL.out.2.2 (by injection e with e; exact e.symm))).trans HL7.out.hd)
     have rp : w8.cell? ⟨p, 0, none⟩ = some (.slice (some ⟨g, 0, none⟩) bs.length c) := by simp [World.cell?, HP8.out]
     have rf : w8.frozen? ⟨p, 0, none⟩ = false := by simp [World.frozen?, HP8.out]
     have HL9 := Aside0.mk (show LsmAt (w8.setCell ⟨p, 0, none⟩ (.slice (some ⟨g, 0, none⟩) (bs.length - 1) c)) base p (.slice (some ⟨g, 0, none⟩) (bs.length - 1) c) (bs.eraseIdx i) from ⟨cells_set0 p w8 _ _ _ HP8.out, Kd.N_far HN8.out (fun k hk => hk) _, HL7.out.lo⟩)
     clear hN8 hg8 z0 z1
     go_wp2_with fail
     refine (lsm_merge base p _ (bs.eraseIdx i) (dropL id bs).2 _ HL9.out HM.out.2 HM.out.1 HEL.out HFI.out).mono ?_
     rintro y w9 ⟨rfl, v9, hl9, ht9⟩
     have HR := Aside0.mk (show LsmAt w9 base p v9 (dropL id bs).2 ∧ Turn w w9 p (.slice (some ⟨g, 0, none⟩) bs.length c) v9 from ⟨hl9, ((HT7.out.trans (turn_grown HG8.out)).trans (turn_head (u := .slice (some ⟨g, 0, none⟩) (bs.length - 1) c) (.inl rfl))).trans ht9⟩)
     clear hl9 ht9
     go_wp2
     go_ret
     exact ⟨by rw [HD.out.1]; rfl, v9, HR.out.1, HR.out.2⟩
   · have hM := HD.out.2.2 h0
     have HM := Aside0.mk hM
     have hpos : 0 < (outB id b).length := by
      cases hq : outB id b with
      | nil => exact absurd hq h0
      | cons _ _ => simp
     have q1 : (((mkB (outB id b)).f1.length : Int) == 0) = false := by rw [beq_eq_false_iff_ne]; omega
     have q2 : decide ((mkB (outB id b)).f1.length = 0) = false := decide_eq_false (by omega)
     have q3 : decide ((mkB (outB id b)).f1 = []) = false := decide_eq_false (by intro e; rw [e] at hxl; simp at hxl; omega)
     have q4 : ¬ ((mkB (outB id b)).f1 = []) := by intro e; rw [e] at hxl; simp at hxl; omega
     have HSL := Aside0.mk (show (bs.set i (mkB (outB id b))).length ≤ 19 by rw [List.length_set]; exact HNB.out.2)
     clear h0 hM hxl hpos
     go_wp2_with fail
     refine (lsm_merge base p _ (bs.set i (mkB (outB id b))) (dropL id bs).2 _ HL7.out HM.out.2 HM.out.1 HSL.out HFI.out).mono ?_
     rintro y w9 ⟨rfl, v9, hl9, ht9⟩
     have HR := Aside0.mk (show LsmAt w9 base p v9 (dropL id bs).2 ∧ Turn w w9 p (.slice (some ⟨g, 0, none⟩) bs.length c) v9 from ⟨hl9, HT7.out.trans ht9⟩)
     clear hl9 ht9 q1 q2 q3 q4 z0 z1
     go_wp2
     go_ret
     exact ⟨by rw [HD.out.1]; rfl, v9, HR.out.1, HR.out.2⟩
end Go.Proofs.Ytdfndglenbckhaa.V
end
section
set_option linter.unusedVariables false
set_option linter.unusedSimpArgs false
namespace Go.Proofs.Ytdfndglenbckhaa.V
open Go.RowKit Go.Proofs.YtdfndglenbckhaaW.PrintWords Go.Proofs.YtdfndglenbckhaaW.PrintLast Go.Proofs.YtdfndglenbckhaaW.PrintMore
theorem drop_good {bs : List Bk} (h : Good bs) (id : Int) (hl : (allB bs).length ≤ 999999) : Good (dropL id bs).2 := by
 cases hi : bs.findIdx? (hasB id) with
 | none => rw [drop_none hi]; exact h
 | some i =>
  have hlt : i < bs.length := by rw [List.findIdx?_eq_some_iff_getElem] at hi; exact hi.1
  have hb := List.getElem?_eq_getElem hlt
  have hd := drop_len h id hl
  obtain ⟨_, h1, h2⟩ := drop_some h id hi hb hl
  by_cases h0 : outB id bs[i] = []
  · have hm := (h1 h0).1
    exact mrg_good _ _ rfl hm (by rw [← hm.all.length_eq]; omega)
  · have hm := (h2 h0).1
    exact mrg_good _ _ rfl hm (by rw [← hm.all.length_eq]; omega)
end Go.Proofs.Ytdfndglenbckhaa.V
end
section
set_option linter.unusedVariables false
set_option linter.unusedSimpArgs false
namespace Go.Proofs.Ytdfndglenbckhaa.V
open Go.RowKit Go.Proofs.YtdfndglenbckhaaW.PrintWords Go.Proofs.YtdfndglenbckhaaW.PrintLast Go.Proofs.YtdfndglenbckhaaW.PrintMore
theorem N_noi {w : World} {base G : Nat} {ok : Nat → Prop} {v : Value} {bs : List Bk} (h : Kd.N k84 84 w base ok v bs) (hG : NoI w G) (hv : v.ownBlock ≠ some G) : Kd.N k84 84 w base (fun k => ok k ∧ k ≠ G) v bs := by
 obtain ⟨h0, rows, hlr, hR, hf⟩ := h
 refine ⟨fun k hk => ⟨h0 k hk, fun e => hv (by rw [hk, e])⟩, rows, hlr, hR, fun j x c hx hc => ?_⟩
 have h1 := hf j x c hx hc
 obtain ⟨A1, c1, rfl, l1, g1⟩ := k84_openF h1
 exact Kd.FK_mono (k84_mkF w _ x l1 (FE_noi g1 hG)) (fun k hk => ⟨⟨hk.1.1, hk.2⟩, hk.1.2⟩)
theorem LsmAt.grownI {w w1 : World} {base p G : Nat} {v : Value} {bs : List Bk} (h : LsmAt w base p v bs) (hG : NoI w G) (hg : w.grownBy w1 (some G)) (hne : p ≠ G) (hv : v.ownBlock ≠ some G) : LsmAt w1 base p v bs :=
 ⟨(hg.block p h.lt (fun e => hne (by injection e))).trans h.hd, Kd.N_mono (Kd.N_step (N_noi h.row hG hv) (fun k hk hlt => hg.block k hlt (fun e => hk.2 (by injection e)))) (fun k hk => hk.1), h.lo⟩
def OK7 (p q : Nat) (v : Value) (k : Nat) : Prop := k ≠ q ∧ k ≠ p ∧ some k ≠ v.ownBlock
theorem RLAt.noI {w : World} {base q : Nat} {OK : Nat → Prop} {v : Value} {rs : List RBk} (h : RLAt w base q OK v rs) : NoI w q := noI_mk h.hd (by
 intro x hx
 obtain ⟨A, c, rfl, _⟩ := h.reads
 simp at hx)
structure St7 (w wr : World) (p q : Nat) (v v' : Value) (bs : List Bk) (i : Nat) : Prop where
  l : LsmAt wr w.heap.size p v bs
  r : RLAt wr w.heap.size q (OK7 p q v) v' (bs.map toR)
  good : Good bs
  cnt : (allB bs).length ≤ i
  ne : p ≠ q
  own : v.ownBlock ≠ some q
  bel : Below w.heap.size w wr
namespace St7
variable {w wr w1 w2 : World} {p q i : Nat} {v v' v1 v2 : Value} {bs bs1 : List Bk}
theorem below (h : St7 w wr p q v v' bs i) (hb : Below wr.heap.size wr w1) : St7 w w1 p q v v' bs i := ⟨h.l.below hb, h.r.below hb, h.good, h.cnt, h.ne, h.own, below_step h.bel hb⟩
theorem few (h : St7 w wr p q v v' bs i) (hi : i ≤ 1000) : bs.length ≤ 11 := good_len h.good (by have := h.cnt; omega)
theorem next (h : St7 w wr p q v v' bs i) (hl : LsmAt w1 w.heap.size p v1 bs1) (ht : Turn wr w1 p v v1) : RLAt w1 w.heap.size q (OK7 p q v1) v' (bs.map toR) ∧ v1.ownBlock ≠ some q ∧ (∀ k, w1.heap.size ≤ k → OK7 p q v1 k) := by
 have hq := h.r.lt
 have hp := h.l.lt
 have hown : v1.ownBlock ≠ some q := by
  rcases ht.own with e | e | ⟨b, e, hb⟩
  · rw [e]; exact h.own
  · rw [e]; simp
  · rw [e]; intro e2; injection e2 with e2; omega
 refine ⟨⟨(ht.block q hq (fun e => h.ne e.symm) (fun e => h.own e.symm)).trans h.r.hd, ?_, h.r.lo, fun k hk => hk.1⟩, hown, fun k hk => ⟨by have := ht.size; omega, by have := ht.size; omega, fun e => by have := (hl.own k e.symm).2.1; omega⟩⟩
 refine Kd.V_mono (Kd.V_step (Kd.V_bound h.r.row) (fun k hk hlt => ht.block k hlt hk.1.2.1 hk.1.2.2)) (fun k hk => ⟨hk.1.1, hk.1.2.1, ?_⟩)
 rcases ht.own with e | e | ⟨b, e, hb⟩
 · rw [e]; exact hk.1.2.2
 · rw [e]; simp
 · rw [e]; intro e2; injection e2 with e2; have := hk.2; omega
theorem close (h : St7 w wr p q v v' bs i) (hl : LsmAt w1 w.heap.size p v1 bs1) (ht : Turn wr w1 p v v1) (hr : RLAt w2 w.heap.size q (OK7 p q v1) v2 (bs1.map toR)) (hg : w1.grownBy w2 (some q)) (hgd : Good bs1) (hc : (allB bs1).length ≤ i + 1) : St7 w w2 p q v1 v2 bs1 (i + 1) := by
 obtain ⟨h1, h2, _⟩ := h.next hl ht
 refine ⟨hl.grownI h1.noI hg h.ne h2, hr, hgd, hc, h.ne, h2, below_grown (ht.below h.bel h.l.lo (Nat.le_of_lt (Nat.lt_of_le_of_lt h.l.lo h.l.lt)) (fun k hk => (h.l.own k hk).1)) hg (fun k hk => by injection hk with hk; have := h.r.lo; omega)⟩
end St7
theorem turn_blk {w w1 : World} {p g : Nat} {v v1 : Value} {o : Obj} (h : w.heap[g]? = some o) (ht : Turn w w1 p v v1) (hp : g ≠ p) (hv : some g ≠ v.ownBlock) : w1.heap[g]? = some o := (ht.block g (blk_lt h) hp hv).trans h
theorem rl_all {w : World} {base q : Nat} {OK : Nat → Prop} {v : Value} {bs : List Bk} (h : RLAt w base q OK v (bs.map toR)) (hl : bs.length ≤ 1000) (ha : (allB bs).length ≤ 1000000) :
 ∃ A c, v = .slice A bs.length c ∧ (Calls Try.prog 18 #[.slice A bs.length c] w fun x w' => ∃ A1 c1, x = .returned (.slice A1 (sortE (allB bs)).length c1) ∧ (sortE (allB bs)).length ≤ c1 ∧ k46.C w' A1 (sortE (allB bs)).length (sortE (allB bs)) ∧ Below w.heap.size w w') := by
 obtain ⟨A, c, rfl, hc, hF⟩ := h.reads
 have hT := refall_told 3000000 (bs.map toR) (by rw [List.length_map]; omega) (by rw [allR_map]; omega) (by rw [List.length_map, allR_map]; omega)
 rw [allR_map] at hT
 refine ⟨A, c, by rw [List.length_map], ?_⟩
 have := vergerref5_All.calls 3000000 A c (bs.map toR) _ w (Kd.F_now hF) hc hT
 rw [List.length_map] at this
 refine this.mono ?_
 rintro x w' ⟨v1, rfl, hv1, hb1⟩
 obtain ⟨A1, c1, rfl⟩ := Kd.R_slice hv1
 exact ⟨A1, c1, rfl, (Kd.R_reads' hv1).2.1, (Kd.R_reads' hv1).2.2, hb1⟩
theorem rl_allS {w : World} {base q n c : Nat} {OK : Nat → Prop} {A : Option Addr} {bs : List Bk} (h : RLAt w base q OK (.slice A n c) (bs.map toR)) (hl : bs.length ≤ 1000) (ha : (allB bs).length ≤ 1000000) :
 Calls Try.prog 18 #[.slice A n c] w fun x w' => ∃ A1 c1, x = .returned (.slice A1 (sortE (allB bs)).length c1) ∧ (sortE (allB bs)).length ≤ c1 ∧ k46.C w' A1 (sortE (allB bs)).length (sortE (allB bs)) ∧ Below w.heap.size w w' := by
 obtain ⟨A', c', e, hc⟩ := rl_all h hl ha
 rw [e]
 exact hc
theorem op7_at {w : World} {A : Option Addr} {l : List S62} (h : k62.C w A l.length l) {i : Nat} {o : S62} (ho : l[i]? = some o) :
 ∃ ad, A = some ad ∧ w.cell? (ad.add (i * 3)) = some (.int .i64 o.f0) ∧ w.cell? ⟨(ad.add (i * 3)).block, (ad.add (i * 3)).off + 1, none⟩ = some (.int .u64 o.f1.f0) ∧ w.cell? ⟨(ad.add (i * 3)).block, (ad.add (i * 3)).off + 2, none⟩ = some (.int .i64 o.f1.f1) := by
 obtain ⟨hlt, rfl⟩ := List.getElem?_eq_some_iff.1 ho
 have := at_T62 h (i : Int) (by omega) (by omega)
 have hr : rd_T62 l (i : Int) = l[i] := by unfold rd_T62; rw [Int.toNat_natCast, List.getD_eq_getElem?_getD, List.getElem?_eq_getElem hlt]; rfl
 rw [hr, Int.toNat_natCast] at this
 exact this
end Go.Proofs.Ytdfndglenbckhaa.V
end
section
set_option linter.unusedVariables false
set_option linter.unusedSimpArgs false
namespace Go.Proofs.Ytdfndglenbckhaa.V
open Go.RowKit Go.Proofs.YtdfndglenbckhaaW.PrintWords Go.Proofs.YtdfndglenbckhaaW.PrintLast Go.Proofs.YtdfndglenbckhaaW.PrintMore
theorem neqE_run (a b c d : Int) (w : World) : (binOp .neq 46 (.agg #[.int .u64 a, .int .i64 b]) (.agg #[.int .u64 c, .int .i64 d])).run Try.prog w = .ok (.bool (!(a == c && (b == d)))) w := by
 have h := eqA46 9998 w a c b d
 simp only [binOp]
 simp [Op.equal, Op.maxDepth, h]
theorem neqE_same (a b : Int) (w : World) : (binOp .neq 46 (.agg #[.int .u64 a, .int .i64 b]) (.agg #[.int .u64 a, .int .i64 b])).run Try.prog w = .ok (.bool false) w := by
 rw [neqE_run]; simp
end Go.Proofs.Ytdfndglenbckhaa.V
end
section
set_option linter.unusedVariables false
set_option linter.unusedSimpArgs false
namespace Go.Proofs.Ytdfndglenbckhaa.V
open Go.BigFrame
open Go.RowKit Go.Proofs.YtdfndglenbckhaaW.PrintWords Go.Proofs.YtdfndglenbckhaaW.PrintLast Go.Proofs.YtdfndglenbckhaaW.PrintMore
theorem tail_quiet {P : Program} {h1 h2 : Oper} {l : List Oper} {listed : Array Bool} {a : Act} {w : World} {Q' : Exit → Act → World → Prop} (hs : Region.noSelect (h1 :: h2 :: l).toArray = true) (hB : Region.lexFrom .any (h1 :: h2 :: l).toArray l.length 2 listed = true)
 (h : wpQuiet P (h1 :: h2 :: l).toArray (fun w' => ∃ n, w' = w.drewN n) (fun a' => ∀ w', (∃ n, w' = w.drewN n) → Q' .normal a' w') l a) : wpAny P .any (h1 :: h2 :: l).toArray Q' l.length listed a w :=
 wpAny_of_quiet (C := fun w' => ∃ n, w' = w.drewN n) (Q := fun a' => ∀ w', (∃ n, w' = w.drewN n) → Q' .normal a' w') (fun _ w' hw' h => h w' hw') _ _ _ _ ⟨0, rfl⟩
  (wpAnyQ_lex hs l 2 listed a (fun j => by simp [Nat.add_comm 2 j]) hB h)
theorem ok_sound {b : Bk} (h : Sound b) (hl : b.f1.length ≤ 1000000) : block_Block_Ok.f 2000000 b.f0 b.f1 = some true := by
 have := blockok_of 2000000 b.f1 (by omega) (by omega)
 rwa [sortE_of_sorted h.up, ← h.lv] at this
set_option maxRecDepth 100000 in
set_option maxHeartbeats 2000000 in
theorem lsm_check (base p : Nat) (v : Value) (bs : List Bk) (w : World) (hs : LsmAt w base p v bs) (hg : Good bs) (hn : bs.length ≤ 100) (hl : (allB bs).length ≤ 1000000) :
 Calls Try.prog 36 #[.pointer (some ⟨p, 0, none⟩)] w fun e w' => e = .returned (.int .i64 0) ∧ Below w.heap.size w w' := by
 obtain ⟨A, c, rfl, hc, hC⟩ := hs.reads
 have hp := hs.cell
 have HC := Aside0.mk hC
 have HG := Aside0.mk hg
 have HP := Aside0.mk hp
 clear hC hs hg
 go_enter Try.func36, Try.ntmps36
 go_wp2
 go_loopw [10] (fun i wr => ∃ m : Nat, m ≤ bs.length ∧ i = .int .i64 m ∧ Aside0 (Below w.heap.size w wr)) (fun i _ => bs.length - (intOf i).toNat)
 case atStart => exact ⟨0, Nat.zero_le _, rfl, ⟨Below.refl _ _⟩⟩
 case round =>
  obtain ⟨m, hm, rfl, HB⟩ := hrel
  by_cases hlt : m < bs.length
  · obtain ⟨b, hb⟩ : ∃ b, bs[m]? = some b := ⟨_, List.getElem?_eq_getElem hlt⟩
    obtain ⟨ad, A1, c1, rfl, e2, e3, e4, e5⟩ := bk_at (Kd.C_below HC.out HB.out) hb
    have hle := allB_at_le hb
    have HK := Aside0.mk (ok_sound (HG.out.snd b (List.mem_of_getElem? hb)) (by omega))
    have hne : decide (b.f1 = []) = false := decide_eq_false (HG.out.snd b (List.mem_of_getElem? hb)).ne
    have hne3 : ((b.f1.length : Int) == 0) = false := by
     have := (HG.out.snd b (List.mem_of_getElem? hb)).pos
     rw [beq_eq_false_iff_ne]; omega
    have hne2 : ¬ b.f1 = [] := (HG.out.snd b (List.mem_of_getElem? hb)).ne
    have HE := Aside0.mk (Kd.C_below e5 (below_drew (below_alloc (Below.refl wr.heap.size wr) (.cells #[.int .i64 b.f0, .slice A1 b.f1.length c1] 84))))
    have HX := Aside0.mk (heap_alloc_new wr (.cells #[.int .i64 b.f0, .slice A1 b.f1.length c1] 84))
    have HL := Aside0.mk e4
    have HBD := Aside0.mk (below_drew (below_alloc HB.out (.cells #[.int .i64 b.f0, .slice A1 b.f1.length c1] 84)))
    clear e5 hle
    by_cases h0 : m = 0
    · have d0 : decide (0 < m) = false := decide_eq_false (by omega)
      have d1 : decide ((m : Int) > 0) = false := decide_eq_false (by omega)
      have d2 : decide (0 < (m : Int)) = false := decide_eq_false (by omega)
      clear hb h0
      go_wp2
      refine wp_region_any (by kernel_rfl) ?_
      change wpAny _ _ _ _ _ _ _ (World.drew _)
      refine wpAny_ready (rs := [0]) (by kernel_rfl) (by simp) ?_
      refine AllReady.cons rfl (fun K hK => ?_) AllReady.nil
      have x0 : (wr.alloc (.cells #[.int .i64 b.f0, .slice A1 b.f1.length c1] 84)).cell? ⟨wr.heap.size, 0, none⟩ = some (.int .i64 b.f0) := by simp [World.cell?_alloc_new]
      have x1 : (wr.alloc (.cells #[.int .i64 b.f0, .slice A1 b.f1.length c1] 84)).cell? ⟨wr.heap.size, 1, none⟩ = some (.slice A1 b.f1.length c1) := by simp [World.cell?_alloc_new]
      go_simp
      refine hK _ _ ?_
      clear hK K
      refine wpAny_ready (rs := [1]) (by kernel_rfl) (by simp) ?_
      refine AllReady.cons rfl (fun K hK => ?_) AllReady.nil
      go_simp
      refine (block_Block_Ok.calls 2000000 _ _ _ _ true _ HE.out HL.out HK.out).mono ?_
      rintro e w1 ⟨rfl, hb1⟩
      have hh1 := (hb1.block _ (by simp : wr.heap.size < _)).trans HX.out
      have y0 : w1.cell? ⟨wr.heap.size, 0, none⟩ = some (.int .i64 b.f0) := by simp [World.cell?, hh1]
      have y1 : w1.cell? ⟨wr.heap.size, 1, none⟩ = some (.slice A1 b.f1.length c1) := by simp [World.cell?, hh1]
      clear hh1
      have HB1 := Aside0.mk (below_step HBD.out hb1)
      clear hb1 x0 x1
      go_wp2_with fail
      refine tail_quiet (by kernel_rfl) (by kernel_rfl) ?_
      repeat (go_big_quiet_step (fail))
      refine wpQuiet_nil ?_
      intro _ hw'
      obtain ⟨nq, hw''⟩ := hw'
      subst hw''
      go_wp2
      go_roundw
      case rel => exact ⟨m + 1, by omega, by go_num, ⟨pw_below_drewN HB1.out _⟩⟩
      case measure => simp [intOf]; omega
    · obtain ⟨q, rfl⟩ : ∃ q, m = q + 1 := ⟨m - 1, by omega⟩
      obtain ⟨a, ha⟩ : ∃ a, bs[q]? = some a := ⟨_, List.getElem?_eq_getElem (by omega)⟩
      obtain ⟨ad', A2, c2, e1, f2, f3, f4, f5⟩ := bk_at (Kd.C_below HC.out HB.out) ha
      injection e1 with e1
      subst e1
      have hab : decide (a.f0 ≤ b.f0) = false := by
       obtain ⟨h1, rfl⟩ := List.getElem?_eq_some_iff.1 ha
       obtain ⟨h2, rfl⟩ := List.getElem?_eq_some_iff.1 hb
       have := List.pairwise_iff_getElem.1 HG.out.desc q (q + 1) h1 h2 (by omega)
       exact decide_eq_false (by omega)
      have d0 : decide (0 < q + 1) = true := decide_eq_true (by omega)
      have d1 : decide (((q + 1 : Nat) : Int) > 0) = true := decide_eq_true (by omega)
      have hpw := pw_cell_below HB.out HP.out
      have HZ0 := Aside0.mk hpw
      have HZ1 := Aside0.mk f2
      clear ha hb h0 f3 f4 f5
      go_wp2
      have x0 : (wr.alloc (.cells #[.int .i64 b.f0, .slice A1 b.f1.length c1] 84)).cell? ⟨wr.heap.size, 0, none⟩ = some (.int .i64 b.f0) := by simp [World.cell?_alloc_new]
      have x1 : (wr.alloc (.cells #[.int .i64 b.f0, .slice A1 b.f1.length c1] 84)).cell? ⟨wr.heap.size, 1, none⟩ = some (.slice A1 b.f1.length c1) := by simp [World.cell?_alloc_new]
      have x2 := pw_cell_below (below_alloc (Below.refl wr.heap.size wr) (.cells #[.int .i64 b.f0, .slice A1 b.f1.length c1] 84)) HZ0.out
      have x3 := pw_cell_below (below_alloc (Below.refl wr.heap.size wr) (.cells #[.int .i64 b.f0, .slice A1 b.f1.length c1] 84)) HZ1.out
      have hq1 : q < bs.length := by omega
      have hq2 : (q : Int) < (bs.length : Int) := by omega
      have s3 : IntKind.i64.wrap (q : Int) = (q : Int) := IntWalk.i64_in _ (by omega)
      have s4 : (0 : Int) ≤ (q : Int) := by omega
      have s1 : IntKind.i64.wrap ((q : Int) + 1 - 1) = (q : Int) := by rw [show (q : Int) + 1 - 1 = (q : Int) by omega]; exact IntWalk.i64_in _ (by omega)
      have s2 : IntKind.i64.wrap (((q + 1 : Nat) : Int) - 1) = (q : Int) := by rw [show ((q + 1 : Nat) : Int) - 1 = (q : Int) by omega]; exact IntWalk.i64_in _ (by omega)
      go_region_held3 (fun W => W.cell? ⟨wr.heap.size, 0, none⟩ = some (.int .i64 b.f0) ∧ W.cell? ⟨wr.heap.size, 1, none⟩ = some (.slice A1 b.f1.length c1) ∧ W.cell? ⟨p, 0, none⟩ = some (.slice (some ad) bs.length c) ∧ W.cell? (ad.add (q * 2)) = some (.int .i64 a.f0) ∧ Aside0 (Below w.heap.size w W)) (first | exact ⟨x0, x1, x2, x3, HBD⟩ | exact ⟨y0, y1, y2, y3, HB1⟩)
       (first | (go_at_call 69; go_loud (refine (block_Block_Ok.calls 2000000 _ _ _ _ true _ HE.out HL.out HK.out).mono ?_; rintro e w1 ⟨rfl, hb1⟩; have hh1 := (hb1.block _ (by simp : wr.heap.size < _)).trans HX.out; have y0 : w1.cell? ⟨wr.heap.size, 0, none⟩ = some (.int .i64 b.f0) := (by simp [World.cell?, hh1]); have y1 : w1.cell? ⟨wr.heap.size, 1, none⟩ = some (.slice A1 b.f1.length c1) := (by simp [World.cell?, hh1]); clear hh1; have y2 : w1.cell? ⟨p, 0, none⟩ = some (.slice (some ad) bs.length c) := pw_cell_below hb1 x2; have y3 : w1.cell? (ad.add (q * 2)) = some (.int .i64 a.f0) := pw_cell_below hb1 x3; have HB1 := Aside0.mk (below_step HBD.out hb1); clear hb1)))
      all_goals go_wp2
      all_goals go_roundw
      case rel => exact ⟨q + 1 + 1, by omega, by go_num, HB1⟩
      case measure => simp [intOf]; omega
  · obtain rfl : m = bs.length := by omega
    go_wp2
    go_ret
    exact ⟨rfl, HB.out⟩
end Go.Proofs.Ytdfndglenbckhaa.V
end
section
set_option linter.unusedVariables false
set_option linter.unusedSimpArgs false
namespace Go.Proofs.Ytdfndglenbckhaa.V
open Go.RowKit Go.Proofs.YtdfndglenbckhaaW.PrintWords Go.Proofs.YtdfndglenbckhaaW.PrintLast Go.Proofs.YtdfndglenbckhaaW.PrintMore
theorem clip_int (A : Option Addr) (n c : Nat) (w : World) (hl : n ≤ c) (hm : n ≤ 9223372036854775807) :
 Calls Try.prog 80 #[.slice A n c] w fun e w' => e = .returned (.slice A n n) ∧ w = w' := by
 go_enter Try.func80, Try.ntmps80
 go_wp2
 go_ret
 exact ⟨rfl, rfl⟩
set_option maxRecDepth 100000 in
set_option maxHeartbeats 2000000 in
theorem lsm_levels (base p : Nat) (v : Value) (bs : List Bk) (w : World) (hs : LsmAt w base p v bs) (hn : bs.length ≤ 100) :
 Calls Try.prog 32 #[.pointer (some ⟨p, 0, none⟩)] w fun e w' => ∃ v0_ : Value, e = .returned (v0_) ∧ Kd.V (Kd.int .i64) 3 w' w.heap.size (fun k_ => (w.heap.size ≤ k_)) v0_ (bs.map fun b => b.f0) ∧ Below w.heap.size w w' := by
 obtain ⟨A, c, rfl, hc, hC⟩ := hs.reads
 have hp := hs.cell
 have HC := Aside0.mk hC
 clear hC hs
 go_enter Try.func32, Try.ntmps32
 go_wp2
 go_loopw [3, 11] (fun s i wr => ∃ m : Nat, m ≤ bs.length ∧ i = .int .i64 m ∧ Aside0 (Kd.R (Kd.int .i64) 3 wr w.heap.size (fun _ => True) s ((bs.take m).map fun b => b.f0)) ∧ Aside0 (Below w.heap.size w wr)) (fun _ i _ => bs.length - (intOf i).toNat)
 case atStart => exact ⟨0, Nat.zero_le _, rfl, ⟨Kd.R_nil _ _ _ _ _⟩, ⟨Below.refl _ _⟩⟩
 case round =>
  obtain ⟨m, hm, rfl, HR, HB⟩ := hrel
  by_cases hlt : m < bs.length
  · obtain ⟨b, hb⟩ : ∃ b, bs[m]? = some b := ⟨_, List.getElem?_eq_getElem hlt⟩
    obtain ⟨ad, A1, c1, rfl, e2, e3, e4, e5⟩ := bk_at (Kd.C_below HC.out HB.out) hb
    have HT := Aside0.mk (show (bs.take (m + 1)).map (fun b => b.f0) = (bs.take m).map (fun b => b.f0) ++ [b.f0] by obtain ⟨h1, rfl⟩ := List.getElem?_eq_some_iff.1 hb; rw [List.take_succ_eq_append_getElem h1, List.map_append]; rfl)
    have hle : ((bs.take m).map (fun b => b.f0)).length ≤ 100 := by rw [List.length_map, List.length_take]; omega
    clear hb e5
    go_wp2_with (at_builtin; go_loud (refine Kd.R_append (Kd.int .i64) (w0 := w) w.heap.size rfl (.tmp 15) (.tmp 18) 64 3 (.int .i64 0) 8 rfl Try.underlying64 info3 rfl (by decide) (by decide) u3 ((bs.take m).map fun b => b.f0) b.f0 [.int .i64 b.f0] (fun _ => True) (fun _ => False) rfl ?aX ?aP (fun _ hk => hk.elim) ?aF ?aO ?aB ?aS ?aL ?_; (case aX => simp [Act.eval]); (case aP => exact rfl); (case aF => exact fun _ _ => trivial); (case aO => exact Kd.R_alloc HR.out _); (case aB => exact below_alloc HB.out _); (case aS => exact (below_alloc HB.out _).size); (case aL => omega); intro v1 w1 ho1 hb1 hg1 hat1; have HR1 := Aside0.mk ho1; have HB1 := Aside0.mk hb1; clear ho1 hb1 hg1 hat1))
    go_roundw
    case rel => exact ⟨m + 1, by omega, by go_num, ⟨by rw [HT.out]; exact HR1.out⟩, HB1⟩
    case measure => simp [intOf]; omega
  · obtain rfl : m = bs.length := by omega
    rw [List.take_length] at HR
    obtain ⟨A1, c1, e1⟩ := Kd.R_slice HR.out
    subst e1
    have HC1 := Aside0.mk (show bs.length ≤ c1 by have := (Kd.R_reads' HR.out).2.1; rwa [List.length_map] at this)
    have HM := Aside0.mk (show bs.length ≤ 9223372036854775807 by omega)
    have HV := Aside0.mk (show Kd.V (Kd.int .i64) 3 wr w.heap.size (fun k_ => (w.heap.size ≤ k_)) (.slice A1 bs.length bs.length) (bs.map fun b => b.f0) by
     have h1 : Kd.R (Kd.int .i64) 3 wr w.heap.size (fun _ => True) (.slice A1 bs.length c1) (bs.map fun b => b.f0) := by have := HR.out; rwa [List.length_map] at this
     exact Kd.RC_Vbase (Kd.RC_cut h1 (Nat.le_refl _) HC1.out))
    clear HR
    go_wp2_with fail
    refine (clip_int A1 bs.length c1 _ HC1.out HM.out).mono ?_
    rintro e w2 ⟨rfl, rfl⟩
    go_wp2
    go_ret
    exact ⟨_, rfl, HV.out, HB.out⟩
end Go.Proofs.Ytdfndglenbckhaa.V
end
