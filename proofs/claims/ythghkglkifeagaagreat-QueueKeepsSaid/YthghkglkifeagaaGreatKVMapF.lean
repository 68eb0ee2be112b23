-- a text of this work, without what this claim doesn't use (wip/shake.py)
import Derived.Test.YthghkglkifeagaaGreatKVQ0
import Derived.Test.YthghkglkifeagaaGreatKVPblockb
import Derived.Deep.RegionWith
import Derived.Deep.DeepCutAuto
import Derived.Deep.CutBlock
import Derived.Test.YthghkglkifeagaaGreatKVQ11
import Derived.Test.YthghkglkifeagaaGreatKVShK0
import Derived.Test.YthghkglkifeagaaGreatKVPentry1
import Derived.Test.YthghkglkifeagaaGreatKVPvergerref5
import Derived.Maps.OwnSet
import Derived.WideKeyPair
section
set_option linter.unusedVariables false
set_option linter.unusedSimpArgs false
namespace Go.Proofs.YthghkglkifeagaaGreat.V
open Go.RowKit Go.Proofs.YthghkglkifeagaaGreatW.PrintWords Go.Proofs.YthghkglkifeagaaGreatW.PrintLast Go.Proofs.YthghkglkifeagaaGreatW.PrintMore
def isE (id : Int) (e : E) : Bool := decide (e.f1 = id)
def idxV : Option Nat → Int
  | none => -1
  | some i => (i : Int)
theorem find_here {α : Type} {p : α → Bool} {l : List α} {m : Nat} {a : α} (ha : l[m]? = some a) (hp : p a = true) (hb : ∀ j b, j < m → l[j]? = some b → p b = false) : l.findIdx? p = some m := by
 obtain ⟨h1, rfl⟩ := List.getElem?_eq_some_iff.1 ha
 rw [List.findIdx?_eq_some_iff_getElem]
 exact ⟨h1, hp, fun j hj => by rw [hb j _ hj (List.getElem?_eq_getElem (by omega))]; simp⟩
theorem find_none {α : Type} {p : α → Bool} {l : List α} (hb : ∀ j b, j < l.length → l[j]? = some b → p b = false) : l.findIdx? p = none := by
 rw [List.findIdx?_eq_none_iff]
 intro x hx
 obtain ⟨j, hj, rfl⟩ := List.getElem_of_mem hx
 exact hb j _ hj (List.getElem?_eq_getElem hj)
def CapI (w : World) (gi : Nat) (id : Int) : Prop := w.heap[gi]? = some (.cells #[.int .i64 id] 3 (0, 0))
theorem CapI.below {w w1 : World} {gi : Nat} {id : Int} (h : CapI w gi id) (hb : Below w.heap.size w w1) : CapI w1 gi id := (hb.block gi (Array.getElem?_eq_some_iff.1 h).1).trans h
theorem CapI.cell {w : World} {gi : Nat} {id : Int} (h : CapI w gi id) : w.cell? ⟨gi, 0, none⟩ = some (.int .i64 id) := by
 unfold CapI at h
 simp [World.cell?, h]
set_option maxHeartbeats 400000 in
theorem ld1 (id : Int) (gi : Nat) (e : E) (w : World) (h : CapI w gi id) :
 Calls Tryz.prog 105 #[.agg #[.int .u64 e.f0, .int .i64 e.f1], .pointer (some ⟨gi, 0, none⟩)] w fun x w' => x = .returned (.bool (isE id e)) ∧ Below w.heap.size w w' := by
 have hc := (h.below (below_alloc (Below.refl w.heap.size w) (.cells #[.int .u64 e.f0, .int .i64 e.f1] 33))).cell
 clear h
 unfold isE
 go_enter Tryz.func105, Tryz.ntmps105
 go_wp2
 go_ret
 exact ⟨by first | rfl | simp, below_alloc (Below.refl _ _) _⟩
set_option maxRecDepth 100000 in
set_option maxHeartbeats 2000000 in
theorem eidx (id : Int) (gi : Nat) (A : Option Addr) (c : Nat) (l : List E) (w : World) (hr : k33.C w A l.length l) (hc : l.length ≤ c) (hl : l.length ≤ 1000000) (h : CapI w gi id) :
 Calls Tryz.prog 92 #[.slice A l.length c, .func (.func 105) #[] #[.pointer (some ⟨gi, 0, none⟩)]] w fun x w' => x = .returned (.int .i64 (idxV (l.findIdx? (isE id)))) ∧ Below w.heap.size w w' := by
 have HR := Aside0.mk hr
 have HC := Aside0.mk h
 clear hr h
 go_enter Tryz.func92, Tryz.ntmps92
 go_wp2
 go_loopw [8] (fun i wr => ∃ m : Nat, m ≤ l.length ∧ i = .int .i64 m ∧ Aside0 (∀ j b, j < m → l[j]? = some b → isE id b = false) ∧ Aside0 (Below w.heap.size w wr)) (fun i _ => l.length - (intOf i).toNat)
 case atStart => exact ⟨0, Nat.zero_le _, rfl, ⟨fun j b h => by omega⟩, ⟨Below.refl _ _⟩⟩
 case round =>
  obtain ⟨m, hm, rfl, HN, HB⟩ := hrel
  by_cases hlt : m < l.length
  · obtain ⟨e, he⟩ : ∃ e, l[m]? = some e := ⟨_, List.getElem?_eq_getElem hlt⟩
    obtain ⟨ad, e1, y0, y1⟩ := at_T33 (Kd.C_below HR.out HB.out) (m : Int) (by omega) (by omega)
    subst e1
    rw [Int.toNat_natCast, rd_some he] at y0 y1
    have HE := Aside0.mk he
    clear he
    go_wp2_with fail
    refine (ld1 id gi e _ (HC.out.below HB.out)).mono ?_
    rintro x w2 ⟨rfl, hb2⟩
    have HB2 := Aside0.mk (below_step HB.out hb2)
    clear hb2 y0 y1
    cases hi : isE id e with
    | true =>
     have HF := Aside0.mk (find_here HE.out hi HN.out)
     clear hi
     go_wp2
     go_ret
     exact ⟨by rw [HF.out]; rfl, HB2.out⟩
    | false =>
     have HN2 : Aside0 (∀ j b, j < m + 1 → l[j]? = some b → isE id b = false) := ⟨fun j b hj hb => by
      by_cases h1 : j = m
      · subst h1
        rw [HE.out] at hb
        injection hb with hb
        rw [← hb]; exact hi
      · exact HN.out j b (by omega) hb⟩
     clear hi
     go_wp2
     go_roundw
     case rel => exact ⟨m + 1, by omega, by go_num, HN2, HB2⟩
     case measure => simp [intOf]; omega
  · obtain rfl : m = l.length := by omega
    have HF := Aside0.mk (find_none HN.out)
    go_wp2
    go_ret
    exact ⟨by rw [HF.out]; rfl, HB.out⟩
theorem idx_any {α : Type} (p : α → Bool) (l : List α) : decide (0 ≤ idxV (l.findIdx? p)) = l.any p := by
 cases h : l.findIdx? p with
 | none =>
  rw [List.findIdx?_eq_none_iff] at h
  have : l.any p = false := by rw [List.any_eq_false]; intro x hx; rw [h x hx]; simp
  rw [this]; rfl
 | some i =>
  rw [List.findIdx?_eq_some_iff_getElem] at h
  obtain ⟨h1, h2, _⟩ := h
  have : l.any p = true := List.any_eq_true.2 ⟨_, List.getElem_mem h1, h2⟩
  rw [this]
  exact decide_eq_true (Int.natCast_nonneg i)
set_option maxHeartbeats 1000000 in
theorem econt (id : Int) (gi : Nat) (A : Option Addr) (c : Nat) (l : List E) (w : World) (hr : k33.C w A l.length l) (hc : l.length ≤ c) (hl : l.length ≤ 1000000) (h : CapI w gi id) :
 Calls Tryz.prog 61 #[.slice A l.length c, .func (.func 105) #[] #[.pointer (some ⟨gi, 0, none⟩)]] w fun x w' => x = .returned (.bool (l.any (isE id))) ∧ Below w.heap.size w w' := by
 have HR := Aside0.mk hr
 have HC := Aside0.mk h
 have HA := Aside0.mk (idx_any (isE id) l)
 clear hr h
 go_enter Tryz.func61, Tryz.ntmps61
 go_wp2_with fail
 refine (eidx id gi A c l _ HR.out hc hl HC.out).mono ?_
 rintro x w2 ⟨rfl, hb2⟩
 have HB2 := Aside0.mk hb2
 clear hb2
 generalize idxV (l.findIdx? (isE id)) = v at HA ⊢
 go_wp2
 go_ret
 exact ⟨by rw [← HA.out]; rfl, HB2.out⟩
def CapF (w : World) (gf gi : Nat) (id : Int) : Prop := w.heap[gf]? = some (.cells #[.func (.func 105) #[] #[.pointer (some ⟨gi, 0, none⟩)]] 90 (0, 0)) ∧ CapI w gi id
theorem CapF.below {w w1 : World} {gf gi : Nat} {id : Int} (h : CapF w gf gi id) (hb : Below w.heap.size w w1) : CapF w1 gf gi id := ⟨(hb.block gf (Array.getElem?_eq_some_iff.1 h.1).1).trans h.1, h.2.below hb⟩
theorem CapF.cell {w : World} {gf gi : Nat} {id : Int} (h : CapF w gf gi id) : w.cell? ⟨gf, 0, none⟩ = some (.func (.func 105) #[] #[.pointer (some ⟨gi, 0, none⟩)]) := by
 have := h.1
 simp [World.cell?, this]
set_option maxHeartbeats 1000000 in
theorem ld2 (id : Int) (gf gi : Nat) (b : Bk) (A : Option Addr) (c : Nat) (w : World) (hr : k33.C w A b.f1.length b.f1) (hc : b.f1.length ≤ c) (hl : b.f1.length ≤ 1000000) (h : CapF w gf gi id) :
 Calls Tryz.prog 106 #[.agg #[.int .i64 b.f0, .slice A b.f1.length c], .pointer (some ⟨gf, 0, none⟩)] w fun x w' => x = .returned (.bool (hasB id b)) ∧ Below w.heap.size w w' := by
 have hcf := (h.below (below_alloc (Below.refl w.heap.size w) (.cells #[.int .i64 b.f0, .slice A b.f1.length c] 109))).cell
 have HF := Aside0.mk (h.below (below_alloc (Below.refl w.heap.size w) (.cells #[.int .i64 b.f0, .slice A b.f1.length c] 109)))
 have HR := Aside0.mk (Kd.C_below hr (below_alloc (Below.refl w.heap.size w) (.cells #[.int .i64 b.f0, .slice A b.f1.length c] 109)))
 clear hr h
 go_enter Tryz.func106, Tryz.ntmps106
 go_wp2_with fail
 refine (econt id gi A c b.f1 _ HR.out hc hl HF.out.2).mono ?_
 rintro x w2 ⟨rfl, hb2⟩
 have HB2 := Aside0.mk (below_step (below_alloc (Below.refl w.heap.size w) (.cells #[.int .i64 b.f0, .slice A b.f1.length c] 109)) hb2)
 clear hb2
 go_wp2
 go_ret
 exact ⟨rfl, HB2.out⟩
set_option maxRecDepth 100000 in
set_option maxHeartbeats 2000000 in
theorem bidx (id : Int) (gf gi : Nat) (A : Option Addr) (c : Nat) (bs : List Bk) (w : World) (hr : k109.C w A bs.length bs) (hc : bs.length ≤ c) (hn : bs.length ≤ 100) (hl : (allB bs).length ≤ 1000000) (h : CapF w gf gi id) :
 Calls Tryz.prog 72 #[.slice A bs.length c, .func (.func 106) #[] #[.pointer (some ⟨gf, 0, none⟩)]] w fun x w' => x = .returned (.int .i64 (idxV (bs.findIdx? (hasB id)))) ∧ Below w.heap.size w w' := by
 have HR := Aside0.mk hr
 have HC := Aside0.mk h
 clear hr h
 go_enter Tryz.func72, Tryz.ntmps72
 go_wp2
 go_loopw [8] (fun i wr => ∃ m : Nat, m ≤ bs.length ∧ i = .int .i64 m ∧ Aside0 (∀ j b, j < m → bs[j]? = some b → hasB id b = false) ∧ Aside0 (Below w.heap.size w wr)) (fun i _ => bs.length - (intOf i).toNat)
 case atStart => exact ⟨0, Nat.zero_le _, rfl, ⟨fun j b h => by omega⟩, ⟨Below.refl _ _⟩⟩
 case round =>
  obtain ⟨m, hm, rfl, HN, HB⟩ := hrel
  by_cases hlt : m < bs.length
  · obtain ⟨b, hb⟩ : ∃ b, bs[m]? = some b := ⟨_, List.getElem?_eq_getElem hlt⟩
    obtain ⟨ad, A1, c1, rfl, y0, y1, e4, e5⟩ := bk_at (Kd.C_below HR.out HB.out) hb
    have HE := Aside0.mk hb
    have HV := Aside0.mk e5
    have hle := allB_at_le hb
    have HL := Aside0.mk (show b.f1.length ≤ 1000000 by omega)
    clear hb e5 hle
    go_wp2_with fail
    refine (ld2 id gf gi b A1 c1 _ HV.out e4 HL.out (HC.out.below HB.out)).mono ?_
    rintro x w2 ⟨rfl, hb2⟩
    have HB2 := Aside0.mk (below_step HB.out hb2)
    clear hb2 y0 y1
    cases hi : hasB id b with
    | true =>
     have HF := Aside0.mk (find_here HE.out hi HN.out)
     clear hi
     go_wp2
     go_ret
     exact ⟨by rw [HF.out]; rfl, HB2.out⟩
    | false =>
     have HN2 : Aside0 (∀ j b, j < m + 1 → bs[j]? = some b → hasB id b = false) := ⟨fun j b' hj hb' => by
      by_cases h1 : j = m
      · subst h1
        rw [HE.out] at hb'
        injection hb' with hb'
        rw [← hb']; exact hi
      · exact HN.out j b' (by omega) hb'⟩
     clear hi
     go_wp2
     go_roundw
     case rel => exact ⟨m + 1, by omega, by go_num, HN2, HB2⟩
     case measure => simp [intOf]; omega
  · obtain rfl : m = bs.length := by omega
    have HF := Aside0.mk (find_none HN.out)
    go_wp2
    go_ret
    exact ⟨by rw [HF.out]; rfl, HB.out⟩
end Go.Proofs.YthghkglkifeagaaGreat.V
end
section
set_option linter.unusedVariables false
set_option linter.unusedSimpArgs false
namespace Go.Proofs.YthghkglkifeagaaGreat.V
open Go.RowKit Go.Proofs.YthghkglkifeagaaGreatW.PrintWords Go.Proofs.YthghkglkifeagaaGreatW.PrintLast Go.Proofs.YthghkglkifeagaaGreatW.PrintMore
set_option maxHeartbeats 400000 in
theorem ld3 (id : Int) (gi : Nat) (x : Int) (w : World) (h : CapI w gi id) :
 Calls Tryz.prog 108 #[.int .i64 x, .pointer (some ⟨gi, 0, none⟩)] w fun y w' => y = .returned (.bool (decide (x = id))) ∧ w = w' := by
 have hc := h.cell
 clear h
 go_enter Tryz.func108, Tryz.ntmps108
 go_wp2
 go_ret
 exact ⟨by first | rfl | simp, rfl⟩
theorem func_nil (f : Fn) (x y : Array Value) (W : World) : (binOp .eql 34 (.func f x y) .nilFunc).run Tryz.prog W = .ok (.bool false) W := by
 have h : ∀ d, (Op.equalIn (d + 1) 34 (.func f x y) .nilFunc).run Tryz.prog W = .ok false W := fun d => by simp [Op.equalIn, run_underlying Tryz.underlying34]
 simp only [binOp]
 simp [Op.equal, Op.maxDepth, h 9999]
theorem out_take {id : Int} {b : Bk} {m : Nat} {e : E} (h : b.f1[m]? = some e) : (b.f1.take (m + 1)).filter (fun e => decide (e.f1 ≠ id)) = (b.f1.take m).filter (fun e => decide (e.f1 ≠ id)) ++ (if e.f1 = id then [] else [e]) := by
 obtain ⟨h1, rfl⟩ := List.getElem?_eq_some_iff.1 h
 rw [List.take_succ_eq_append_getElem h1, List.filter_append]
 by_cases hi : b.f1[m].f1 = id <;> simp [hi]
set_option maxRecDepth 100000 in
set_option maxHeartbeats 4000000 in
theorem shrink_ld3 (id : Int) (gi : Nat) (b : Bk) (A : Option Addr) (c : Nat) (w : World) (hr : k33.C w A b.f1.length b.f1) (hc : b.f1.length ≤ c) (hl : b.f1.length ≤ 1000000) (h : CapI w gi id) :
 Calls Tryz.prog 107 #[.agg #[.int .i64 b.f0, .slice A b.f1.length c], .func (.func 108) #[] #[.pointer (some ⟨gi, 0, none⟩)]] w fun x w' => ∃ v1, x = .returned (.agg #[.int .i64 (mkB (outB id b)).f0, v1]) ∧ Kd.V k33 33 w' w.heap.size (fun k => w.heap.size ≤ k) v1 (mkB (outB id b)).f1 ∧ Below w.heap.size w w' := by
 have hz := below_alloc (below_alloc (Below.refl w.heap.size w) (.cells #[.int .i64 b.f0, .slice A b.f1.length c] 109)) (.cells #[.int .i64 0, .slice none 0 0] 109)
 have HZ := Aside0.mk hz
 have HR := Aside0.mk (Kd.C_below hr hz)
 have HC := Aside0.mk (h.below hz)
 have HX := Aside0.mk (heap_alloc_new (w.alloc (.cells #[.int .i64 b.f0, .slice A b.f1.length c] 109)) (.cells #[.int .i64 0, .slice none 0 0] 109))
 have hnil := fun W => func_nil (.func 108) #[] #[.pointer (some ⟨gi, 0, none⟩)] W
 clear hz hr h
 go_enter Tryz.func107, Tryz.ntmps107
 go_wp2
 obtain ⟨wz, hwz⟩ : ∃ wz : World, wz = (w.alloc (.cells #[.int .i64 b.f0, .slice A b.f1.length c] 109)).alloc (.cells #[.int .i64 0, .slice none 0 0] 109) := ⟨_, rfl⟩
 rw [← hwz] at HZ HR HC HX ⊢
 rw [World.size_alloc] at HX
 clear hwz
 go_loopw [5, 11] (fun q i wr => ∃ m : Nat, m ≤ b.f1.length ∧ i = .int .i64 m ∧ Aside0 (Kd.R k33 33 wr wz.heap.size (fun _ => True) q ((b.f1.take m).filter (fun e => decide (e.f1 ≠ id)))) ∧ Aside0 (Below wz.heap.size wz wr)) (fun _ i _ => b.f1.length - (intOf i).toNat)
 case atStart => exact ⟨0, Nat.zero_le _, rfl, ⟨Kd.R_nil _ _ _ _ _⟩, ⟨Below.refl _ _⟩⟩
 case round =>
  obtain ⟨m, hm, rfl, HQ, HB⟩ := hrel
  by_cases hlt : m < b.f1.length
  · obtain ⟨e, he⟩ : ∃ e, b.f1[m]? = some e := ⟨_, List.getElem?_eq_getElem hlt⟩
    obtain ⟨ad, e1, y0, y1⟩ := at_T33 (Kd.C_below HR.out HB.out) (m : Int) (by omega) (by omega)
    subst e1
    rw [Int.toNat_natCast, rd_some he] at y0 y1
    have HT := Aside0.mk (out_take (id := id) he)
    have hql : ((b.f1.take m).filter (fun e => decide (e.f1 ≠ id))).length ≤ 1000000 := Nat.le_trans (List.length_filter_le _ _) (by rw [List.length_take]; omega)
    have HQL := Aside0.mk hql
    clear he hql
    by_cases hi : e.f1 = id
    · have HT2 := HT.out
      rw [if_pos hi, List.append_nil] at HT2
      have HT3 := Aside0.mk HT2
      have di : decide (e.f1 = id) = true := decide_eq_true hi
      clear HT2 hi
      go_wp2_with fail
      refine (ld3 id gi e.f1 _ ((HC.out.below HB.out).below (below_alloc (Below.refl _ _) _))).mono ?_
      rintro y w2 ⟨rfl, rfl⟩
      go_wp2
      go_roundw
      case rel => exact ⟨m + 1, by omega, by go_num, ⟨by rw [HT3.out]; exact Kd.R_alloc HQ.out _⟩, ⟨below_alloc HB.out _⟩⟩
      case measure => simp [intOf]; omega
    · have HT2 := HT.out
      rw [if_neg hi] at HT2
      have HT3 := Aside0.mk HT2
      have di : decide (e.f1 = id) = false := decide_eq_false hi
      clear HT2 hi
      go_wp2_with fail
      refine (ld3 id gi e.f1 _ ((HC.out.below HB.out).below (below_alloc (Below.refl _ _) _))).mono ?_
      rintro y w2 ⟨rfl, rfl⟩
      go_wp2_with (at_builtin; go_loud (refine Kd.R_append k33 (w0 := wz) wz.heap.size rfl (.tmp 24) (.tmp 26) 35 33 (.agg #[(.int .u64 0), (.int .i64 0)]) 16 rfl Tryz.underlying35 info33 rfl (by decide) (by decide) u5 ((b.f1.take m).filter (fun e => decide (e.f1 ≠ id))) e [.int .u64 e.f0, .int .i64 e.f1] (fun _ => True) (fun _ => False) rfl (by simp [Act.eval]) (k33_mkM _ _ _ e) (fun _ hk => hk.elim) (fun _ _ => trivial) (Kd.R_alloc HQ.out _) (below_alloc HB.out _) (below_alloc HB.out _).size (by have := HQL.out; omega) ?_; intro v1 w3 ho1 hb1 hg1 hat1; have HQ1 := Aside0.mk ho1; have HB1 := Aside0.mk hb1; clear ho1 hb1 hg1 hat1))
      go_roundw
      case rel => exact ⟨m + 1, by omega, by go_num, ⟨by rw [HT3.out]; exact HQ1.out⟩, HB1⟩
      case measure => simp [intOf]; omega
  · obtain rfl : m = b.f1.length := by omega
    rw [List.take_length] at HQ
    have HOB : Aside0 (Kd.R k33 33 wr wz.heap.size (fun _ => True) u5 (outB id b)) := HQ
    have HOL := Aside0.mk (show (outB id b).length ≤ 1000000 from Nat.le_trans (List.length_filter_le _ _) hl)
    obtain ⟨A1, c1, e1⟩ := Kd.R_slice HOB.out
    subst e1
    have HRD := Aside0.mk (Kd.R_reads' HOB.out)
    have HOF := Aside0.mk (show block_Of.f 100 (outB id b) = some ((mkB (outB id b)).f0, (mkB (outB id b)).f1) from of_told 100 _ (by have := HOL.out; omega) (by omega))
    clear HQ
    go_wp2_with fail
    refine (block_Of.calls 100 A1 c1 (outB id b) _ _ wr HRD.out.2.2 HRD.out.2.1 HOF.out).mono ?_
    rintro y w4 ⟨v4, rfl, hv4, hb4⟩
    obtain ⟨A4, c4, rfl⟩ := Kd.V_slice hv4
    have HV4 := Aside0.mk hv4
    have HB4 := Aside0.mk (below_then HB.out HB.out.size hb4)
    have hx := (HB4.out.block _ (Array.getElem?_eq_some_iff.1 HX.out).1).trans HX.out
    have x0 : w4.cell? ⟨w.heap.size + 1, 0, none⟩ = some (.int .i64 0) := by simp [World.cell?, hx]
    have x1 : w4.cell? ⟨w.heap.size + 1, 1, none⟩ = some (.slice none 0 0) := by simp [World.cell?, hx]
    have f0 : w4.frozen? ⟨w.heap.size + 1, 0, none⟩ = false := by simp [World.frozen?, hx]
    have f1 : w4.frozen? ⟨w.heap.size + 1, 1, none⟩ = false := by simp [World.frozen?, hx]
    clear hv4 hb4 hx
    have HWZ : Aside0 (w.heap.size + 1 < wr.heap.size) := ⟨Nat.lt_of_lt_of_le (Array.getElem?_eq_some_iff.1 HX.out).1 HB.out.size⟩
    have HV5 := Aside0.mk (Kd.V_mono (Kd.V_far (Kd.V_far HV4.out (p := ⟨w.heap.size + 1, 0, none⟩) (fun k hk => by have := HWZ.out; show k ≠ w.heap.size + 1; omega) (.int .i64 (mkB (outB id b)).f0)) (p := ⟨w.heap.size + 1, 1, none⟩) (fun k hk => by have := HWZ.out; show k ≠ w.heap.size + 1; omega) (.slice A4 (mkB (outB id b)).f1.length c4)) (ok' := fun k => w.heap.size ≤ k) (fun k hk => by have := HWZ.out; omega))
    go_wp2
    exact bodyPost_ret (v := .agg #[.int .i64 (mkB (outB id b)).f0, .slice A4 (mkB (outB id b)).f1.length c4]) (by simp [results, Tryz.results107, go_sem, x0, x1]) rfl ⟨_, rfl, HV5.out, ((below_step HZ.out HB4.out).setCell (Nat.le_succ _) _).setCell (Nat.le_succ _) _⟩
end Go.Proofs.YthghkglkifeagaaGreat.V
end
section
set_option linter.unusedVariables false
set_option linter.unusedSimpArgs false
namespace Go.Proofs.YthghkglkifeagaaGreat.V
open Go.RowKit Go.Proofs.YthghkglkifeagaaGreatW.PrintWords Go.Proofs.YthghkglkifeagaaGreatW.PrintLast Go.Proofs.YthghkglkifeagaaGreatW.PrintMore
theorem run_store_func (P : Program) (w : World) (a : Addr) (m : Mode) (f : Fn) (x y : Array Value) : (store a (.func f x y) m).run P w = stored P w a (.func f x y) m := run_store P w a _ m rfl
attribute [local go_sem] run_store_func
theorem drop_some {bs : List Bk} (h : Good bs) (id : Int) {i : Nat} {b : Bk} (hi : bs.findIdx? (hasB id) = some i) (hb : bs[i]? = some b) (hl : (allB bs).length ≤ 999999) :
 (dropL id bs).1 = true ∧ (outB id b = [] → Mrg (isort (bs.eraseIdx i)) (dropL id bs).2 ∧ ∀ q ∈ bs.eraseIdx i, Sound q) ∧ (outB id b ≠ [] → Mrg (isort (bs.set i (mkB (outB id b)))) (dropL id bs).2 ∧ ∀ q ∈ bs.set i (mkB (outB id b)), Sound q) := by
 have hlt := (List.getElem?_eq_some_iff.1 hb).1
 obtain ⟨h1, h2⟩ := drop_mrg h id hi hb (fun q hq => by
  obtain ⟨k, hk, rfl⟩ := List.getElem_of_mem hq
  have := allB_at_le (List.getElem?_eq_getElem hk)
  omega)
 refine ⟨by rw [h1], fun h0 => ?_, fun h0 => ?_⟩
 · rw [if_pos h0, List.append_nil] at h2
   rw [List.eraseIdx_eq_take_drop_succ]
   exact ⟨h2, fun q hq => h.snd q ((cut_out bs i).subset hq)⟩
 · rw [if_neg h0, List.append_assoc] at h2
   refine ⟨by rw [List.set_eq_take_append_cons_drop, if_pos hlt]; exact h2, fun q hq => ?_⟩
   rcases List.mem_or_eq_of_mem_set hq with hq | rfl
   · exact h.snd q hq
   · exact mkB_sound h0
theorem drop_none {bs : List Bk} {id : Int} (hi : bs.findIdx? (hasB id) = none) : dropL id bs = (false, bs) := by unfold dropL; rw [hi]
theorem isort_allB (l : List Bk) : (allB (isort l)).length = (allB l).length := ((isort_perm l).flatMap_right _).length_eq
theorem drop_len {bs : List Bk} (h : Good bs) (id : Int) (hl : (allB bs).length ≤ 999999) : (allB (dropL id bs).2).length ≤ (allB bs).length := by
 cases hi : bs.findIdx? (hasB id) with
 | none => rw [drop_none hi]; exact Nat.le_refl _
 | some i =>
  have hlt : i < bs.length := by rw [List.findIdx?_eq_some_iff_getElem] at hi; exact hi.1
  have hb := List.getElem?_eq_getElem hlt
  obtain ⟨_, h1, h2⟩ := drop_some h id hi hb hl
  have e1 : bs = bs.take i ++ bs[i] :: bs.drop (i + 1) := by
   conv => lhs; rw [← List.take_append_drop i bs, List.drop_eq_getElem_cons hlt]
  have hc : (allB bs).length = (allB (bs.take i)).length + (bs[i].f1.length + (allB (bs.drop (i + 1))).length) := by
   conv => lhs; rw [e1, allB_append, allB_cons, List.length_append, List.length_append]
  have ho : (outB id bs[i]).length ≤ bs[i].f1.length := List.length_filter_le _ _
  by_cases h0 : outB id bs[i] = []
  · rw [← mrg_all (h1 h0).1, isort_allB, List.eraseIdx_eq_take_drop_succ, allB_append, List.length_append]
    omega
  · rw [← mrg_all (h2 h0).1, isort_allB, List.set_eq_take_append_cons_drop, if_pos hlt, allB_append, allB_cons, List.length_append, List.length_append]
    have : (mkB (outB id bs[i])).f1.length = (outB id bs[i]).length := sortE_length _
    omega
set_option maxRecDepth 100000 in
set_option maxHeartbeats 8000000 in
theorem lsm_drop [XSet] (base p : Nat) (v : Value) (bs : List Bk) (id : Int) (w : World) (hs : LsmAt w base p v bs) (hg : Good bs) (hn : bs.length ≤ 18) (hl : (allB bs).length ≤ 999999) :
 Calls Tryz.prog 80 #[.pointer (some ⟨p, 0, none⟩), .int .i64 id] w fun x w' => x = .returned (.bool (dropL id bs).1) ∧ ∃ v', LsmAt w' base p v' (dropL id bs).2 ∧ Turn w w' p v v' := by
 have hz := below_alloc (below_alloc (Below.refl w.heap.size w) (.cells #[.int .i64 id] 3)) (.cells #[.func (.func 105) #[] #[.pointer (some ⟨w.heap.size, 0, none⟩)]] 90)
 have HZ := Aside0.mk hz
 have hcf : CapF ((w.alloc (.cells #[.int .i64 id] 3)).alloc (.cells #[.func (.func 105) #[] #[.pointer (some ⟨w.heap.size, 0, none⟩)]] 90)) (w.heap.size + 1) w.heap.size id := ⟨(two_boxes w _ _).2.1, (two_boxes w _ _).1⟩
 have HCF := Aside0.mk hcf
 have HLZ := Aside0.mk (hs.below hz)
 have hpz := HLZ.out.cell
 obtain ⟨A, c, rfl, hc, hC⟩ := HLZ.out.reads
 have HC := Aside0.mk hC
 have HG := Aside0.mk hg
 have HL := Aside0.mk hl
 clear hz hcf hs hg hC hl
 go_enter Tryz.func80, Tryz.ntmps80
 go_wp2_with fail
 refine (bidx id (w.heap.size + 1) w.heap.size A c bs _ HC.out hc (by omega) (by have := HL.out; omega) HCF.out).mono ?_
 rintro y w1 ⟨rfl, hb1⟩
 have HL1 := Aside0.mk (HLZ.out.below hb1)
 have HCF1 := Aside0.mk (HCF.out.below hb1)
 have HB1 := Aside0.mk (below_step HZ.out hb1)
 clear hb1 hpz HC
 cases hf : bs.findIdx? (hasB id) with
 | none =>
  have HD := Aside0.mk (drop_none hf)
  clear hf
  rw [show idxV none = -1 from rfl]
  go_wp2
  go_ret
  exact ⟨by rw [HD.out]; rfl, _, by rw [HD.out]; exact HL1.out, Turn.of_below HB1.out p _⟩
 | some i =>
  have hlt : i < bs.length := by rw [List.findIdx?_eq_some_iff_getElem] at hf; exact hf.1
  obtain ⟨b, hb⟩ : ∃ b, bs[i]? = some b := ⟨_, List.getElem?_eq_getElem hlt⟩
  have HD := Aside0.mk (drop_some HG.out id hf hb HL.out)
  have HLF := Aside0.mk (drop_len HG.out id HL.out)
  have HBb := Aside0.mk hb
  have HI := Aside0.mk hlt
  clear hf hb
  rw [show idxV (some i) = (i : Int) from rfl]
  obtain ⟨g, cap, hv, _, hgl, _⟩ := Kd.N_form HL1.out.row (by omega)
  injection hv with e1 e2 e3
  subst e1; subst e3
  obtain ⟨A1, k1, x0, x1, xV⟩ := bk_elemV HL1.out.row HBb.out
  obtain ⟨_, _, _, _, _, _, xf⟩ := bk_elem HL1.out.row HBb.out
  have hp1 := HL1.out.cell
  have hin : i < bs.length := hlt
  have hin2 : (i : Int) < (bs.length : Int) := by omega
  have hin3 : (0 : Int) ≤ (i : Int) := by omega
  have d0 : decide ((i : Int) < 0) = false := decide_eq_false (by omega)
  have HXV := Aside0.mk xV
  have HXF := Aside0.mk xf
  have HGL := Aside0.mk (show g < w1.heap.size ∧ p < w1.heap.size ∧ g ≠ p from ⟨(HL1.out.own g rfl).2.1, HL1.out.lt, (HL1.out.own g rfl).2.2⟩)
  have HFL := Aside0.mk (show b.f1.length ≤ 1000000 by have h1 := allB_at_le HBb.out; have h2 := HL.out; omega)
  clear xV xf hgl hlt
  have HCB := Aside0.mk (Kd.C_below (Kd.V_reads' (HXV.out 0)).2.2 (below_drew (Below.refl w1.heap.size w1)))
  have HCC := Aside0.mk (Kd.V_reads' (HXV.out 0)).2.1
  have HCI := Aside0.mk (HCF1.out.2.below (below_drew (Below.refl w1.heap.size w1)))
  have HNW := Aside0.mk (show ∀ k, w1.drew.heap.size ≤ k → (XSet.ok k ∧ k ≠ p) ∧ k ≠ g from fun k hk => by have h1 := HGL.out; have h2 : w1.heap.size ≤ k := hk; exact ⟨⟨HL1.out.fresh h2, by omega⟩, by omega⟩)
  go_upto_region 5 with fail
  go_cut [1] (fun s1 wx => Aside0 (LsmAt wx base p (.slice (some ⟨g, 0, none⟩) bs.length c) (bs.set i (mkB (outB id b))) ∧ Turn w wx p (.slice (some ⟨g, 0, none⟩) bs.length c) (.slice (some ⟨g, 0, none⟩) bs.length c)))
  case first =>
   go_region_with (first
    | (go_at_call 107; go_loud (refine (shrink_ld3 id w.heap.size b A1 k1 w1.drew HCB.out HCC.out HFL.out HCI.out).mono ?_; rintro y w5 ⟨v5, rfl, hv5, hb5⟩; obtain ⟨A5, c5, rfl⟩ := Kd.V_slice hv5; have HV5 := Aside0.mk hv5; have HB5 := Aside0.mk (below_step (below_drew (Below.refl w1.heap.size w1)) hb5); have n0 := pw_cell_below HB5.out x0; have n1 := pw_cell_below HB5.out x1; have np := pw_cell_below HB5.out hp1; have f0 := froz_below HB5.out HGL.out.1 (HXF.out 0); have f1 := froz_below HB5.out HGL.out.1 (HXF.out 1); rw [Nat.add_zero] at f0; have HL5 := Aside0.mk (HL1.out.below HB5.out); clear hv5 hb5)))
   all_goals (go_wp2_with fail)
   all_goals go_meet
   all_goals exact ⟨⟨(Below.heap_setCell _ ⟨g, i * 2 + 1, none⟩ _ p (fun e => HGL.out.2.2 e.symm)).trans ((Below.heap_setCell _ ⟨g, i * 2, none⟩ _ p (fun e => HGL.out.2.2 e.symm)).trans HL5.out.hd), bk_set HL5.out.row HI.out (fk_new HV5.out HNW.out), HL5.out.lo, by simp only [World.setCell, Array.size_modify]; exact HL5.out.xs⟩, (Turn.of_below (below_step HB1.out HB5.out) p _).trans (turn_grown (set2_grown (grown_of_below (Below.refl _ _) _)))⟩
  case rest =>
   have HCT := hcut
   have HL7 := Aside0.mk HCT.out.1
   have HT7 := Aside0.mk HCT.out.2
   have hp7 := HL7.out.cell
   have hsx : (bs.set i (mkB (outB id b)))[i]? = some (mkB (outB id b)) := by rw [List.getElem?_set_self HI.out]
   obtain ⟨A6, k6, z0, z1, _, _, _⟩ := bk_elem HL7.out.row hsx
   have hxl : (mkB (outB id b)).f1.length = (outB id b).length := sortE_length _
   have HBZ := Aside0.mk (show base ≤ wc.heap.size from Nat.le_of_lt (Nat.lt_of_le_of_lt HL7.out.lo HL7.out.lt))
   have HNB := Aside0.mk (show bs.length ≤ 1000 ∧ bs.length ≤ 19 by omega)
   have HFI := Aside0.mk (show (allB (dropL id bs).2).length ≤ 1000000 from Nat.le_trans HLF.out (by have := HL.out; omega))
   clear x0 x1 hp1 hsx
   by_cases h0 : outB id b = []
   · have hM := HD.out.2.1 h0
     have HM := Aside0.mk hM
     have h00 : (mkB (outB id b)).f1.length = 0 := by rw [hxl, h0]; rfl
     rw [h00] at z1
     have HER := Aside0.mk (show (bs.set i (mkB (outB id b))).eraseIdx i = bs.eraseIdx i by
      rw [List.eraseIdx_eq_take_drop_succ, List.eraseIdx_eq_take_drop_succ, List.take_set, List.drop_set, if_pos (by omega)]
      rw [List.set_eq_of_length_le (by rw [List.length_take]; omega)])
     have HEL := Aside0.mk (show (bs.eraseIdx i).length ≤ 19 from Nat.le_trans (List.length_eraseIdx_le _ _) HNB.out.2)
     clear h0 hM h00 hxl
     go_wp2_with fail
     refine (bdel base g bs.length c i _ (bs.set i (mkB (outB id b))) _ HL7.out.row HI.out HNB.out.1 HBZ.out).mono ?_
     rintro y w8 ⟨rfl, hN8, hg8⟩
     rw [HER.out] at hN8
     have HN8 := Aside0.mk hN8
     have HG8 := Aside0.mk hg8
     have HP8 := Aside0.mk ((hg8.block p HL7.out.lt (fun e => HGL.out.2.2 (by injection e with e; exact e.symm))).trans HL7.out.hd)
     have rp : w8.cell? ⟨p, 0, none⟩ = some (.slice (some ⟨g, 0, none⟩) bs.length c) := by simp [World.cell?, HP8.out]
     have rf : w8.frozen? ⟨p, 0, none⟩ = false := by simp [World.frozen?, HP8.out]
     have HL9 := Aside0.mk (show LsmAt (w8.setCell ⟨p, 0, none⟩ (.slice (some ⟨g, 0, none⟩) (bs.length - 1) c)) base p (.slice (some ⟨g, 0, none⟩) (bs.length - 1) c) (bs.eraseIdx i) from ⟨cells_set0 p w8 _ _ _ HP8.out, Kd.N_far HN8.out (fun k hk => hk.2) _, HL7.out.lo, Nat.le_trans HL7.out.xs (by simp only [World.setCell, Array.size_modify]; exact HG8.out.size)⟩)
     clear hN8 hg8 z0 z1
     go_wp2_with fail
     refine (lsm_merge base p _ (bs.eraseIdx i) (dropL id bs).2 _ HL9.out HM.out.2 HM.out.1 HEL.out HFI.out).mono ?_
     rintro y w9 ⟨rfl, v9, hl9, ht9⟩
     have HR := Aside0.mk (show LsmAt w9 base p v9 (dropL id bs).2 ∧ Turn w w9 p (.slice (some ⟨g, 0, none⟩) bs.length c) v9 from ⟨hl9, ((HT7.out.trans (turn_grown HG8.out)).trans (turn_head (u := .slice (some ⟨g, 0, none⟩) (bs.length - 1) c) (.inl rfl))).trans ht9⟩)
     clear hl9 ht9
     go_wp2
     go_ret
     exact ⟨by rw [HD.out.1]; rfl, v9, HR.out.1, HR.out.2⟩
   · have hM := HD.out.2.2 h0
     have HM := Aside0.mk hM
     have hpos : 0 < (outB id b).length := by
      cases hq : outB id b with
      | nil => exact absurd hq h0
      | cons _ _ => simp
     have q1 : (((mkB (outB id b)).f1.length : Int) == 0) = false := by rw [beq_eq_false_iff_ne]; omega
     have q2 : decide ((mkB (outB id b)).f1.length = 0) = false := decide_eq_false (by omega)
     have q3 : decide ((mkB (outB id b)).f1 = []) = false := decide_eq_false (by intro e; rw [e] at hxl; simp at hxl; omega)
     have q4 : ¬ ((mkB (outB id b)).f1 = []) := by intro e; rw [e] at hxl; simp at hxl; omega
     have HSL := Aside0.mk (show (bs.set i (mkB (outB id b))).length ≤ 19 by rw [List.length_set]; exact HNB.out.2)
     clear h0 hM hxl hpos
     go_wp2_with fail
     refine (lsm_merge base p _ (bs.set i (mkB (outB id b))) (dropL id bs).2 _ HL7.out HM.out.2 HM.out.1 HSL.out HFI.out).mono ?_
     rintro y w9 ⟨rfl, v9, hl9, ht9⟩
     have HR := Aside0.mk (show LsmAt w9 base p v9 (dropL id bs).2 ∧ Turn w w9 p (.slice (some ⟨g, 0, none⟩) bs.length c) v9 from ⟨hl9, HT7.out.trans ht9⟩)
     clear hl9 ht9 q1 q2 q3 q4 z0 z1
     go_wp2
     go_ret
     exact ⟨by rw [HD.out.1]; rfl, v9, HR.out.1, HR.out.2⟩
end Go.Proofs.YthghkglkifeagaaGreat.V
end
section
set_option linter.unusedVariables false
set_option linter.unusedSimpArgs false
namespace Go.Proofs.YthghkglkifeagaaGreat.V
open Go.RowKit Go.Proofs.YthghkglkifeagaaGreatW.PrintWords Go.Proofs.YthghkglkifeagaaGreatW.PrintLast Go.Proofs.YthghkglkifeagaaGreatW.PrintMore
theorem drop_good {bs : List Bk} (h : Good bs) (id : Int) (hl : (allB bs).length ≤ 999999) : Good (dropL id bs).2 := by
 cases hi : bs.findIdx? (hasB id) with
 | none => rw [drop_none hi]; exact h
 | some i =>
  have hlt : i < bs.length := by rw [List.findIdx?_eq_some_iff_getElem] at hi; exact hi.1
  have hb := List.getElem?_eq_getElem hlt
  have hd := drop_len h id hl
  obtain ⟨_, h1, h2⟩ := drop_some h id hi hb hl
  by_cases h0 : outB id bs[i] = []
  · have hm := (h1 h0).1
    exact mrg_good _ _ rfl hm (by rw [← hm.all.length_eq]; omega)
  · have hm := (h2 h0).1
    exact mrg_good _ _ rfl hm (by rw [← hm.all.length_eq]; omega)
theorem drop_all {bs : List Bk} (h : Good bs) (id : Int) (hu : Unlike (allB bs)) (hl : (allB bs).length ≤ 999999) :
 (dropL id bs).1 = ((allB bs).any fun e => decide (e.f1 = id)) ∧ (allB (dropL id bs).2).Perm ((allB bs).filter fun e => decide (e.f1 ≠ id)) := by
 cases hi : bs.findIdx? (hasB id) with
 | none =>
  rw [drop_none hi]
  have hn : ∀ e ∈ allB bs, e.f1 ≠ id := by
   intro e he h1
   obtain ⟨b, hb, heb⟩ := List.mem_flatMap.1 he
   have := (List.findIdx?_eq_none_iff.1 hi) b hb
   simp [hasB] at this
   exact this e heb h1
  refine ⟨?_, by rw [filter_id hn]⟩
  symm
  simpa using hn
 | some i =>
  rw [List.findIdx?_eq_some_iff_getElem] at hi
  obtain ⟨hlt, hhas, hbefore⟩ := hi
  have hi : bs.findIdx? (hasB id) = some i := by rw [List.findIdx?_eq_some_iff_getElem]; exact ⟨hlt, hhas, hbefore⟩
  have hb := List.getElem?_eq_getElem hlt
  obtain ⟨h0, h1, h2⟩ := drop_some h id hi hb hl
  have e1 : bs = bs.take i ++ bs[i] :: bs.drop (i + 1) := by
   conv => lhs; rw [← List.take_append_drop i bs, List.drop_eq_getElem_cons hlt]
  have e2 : allB bs = allB (bs.take i) ++ (bs[i].f1 ++ allB (bs.drop (i + 1))) := by
   conv => lhs; rw [e1, allB_append, allB_cons]
  obtain ⟨x, hx, hxi⟩ : ∃ x ∈ bs[i].f1, x.f1 = id := by simpa [hasB] using hhas
  have t1 : (allB (bs.take i)).filter (fun e => decide (e.f1 ≠ id)) = allB (bs.take i) := by
   refine filter_id ?_
   intro e he h3
   obtain ⟨b, hb, heb⟩ := List.mem_flatMap.1 he
   obtain ⟨j, hj, rfl⟩ := List.getElem_of_mem hb
   rw [List.length_take] at hj
   have := hbefore j (by omega)
   rw [List.getElem_take] at heb
   simp [hasB] at this
   exact this e heb h3
  have t2 : (allB (bs.drop (i + 1))).filter (fun e => decide (e.f1 ≠ id)) = allB (bs.drop (i + 1)) := by
   refine filter_id ?_
   intro e he h3
   rw [e2] at hu
   have hu2 := hu.sub (List.sublist_append_right _ _)
   unfold Unlike at hu2
   rw [List.map_append, List.nodup_append] at hu2
   exact hu2.2.2 x.f1 (List.mem_map_of_mem hx) e.f1 (List.mem_map_of_mem he) (by rw [hxi, h3])
  have e3 : (allB bs).filter (fun e => decide (e.f1 ≠ id)) = allB (bs.take i) ++ (outB id bs[i] ++ allB (bs.drop (i + 1))) := by
   rw [e2, List.filter_append, List.filter_append, t1, t2]
   rfl
  refine ⟨?_, ?_⟩
  · rw [h0]
    symm
    rw [List.any_eq_true]
    exact ⟨x, by rw [e2]; simp [hx], by simpa using hxi⟩
  · rw [e3]
    by_cases h4 : outB id bs[i] = []
    · refine (h1 h4).1.all.trans ?_
      refine ((isort_perm _).flatMap_right _).trans ?_
      rw [h4, List.eraseIdx_eq_take_drop_succ]
      show (allB _).Perm _
      rw [allB_append]
      exact List.Perm.refl _
    · refine (h2 h4).1.all.trans ?_
      refine ((isort_perm _).flatMap_right _).trans ?_
      rw [List.set_eq_take_append_cons_drop, if_pos hlt]
      show (allB _).Perm _
      rw [allB_append, allB_cons]
      refine List.Perm.append_left _ (List.Perm.append_right _ ?_)
      exact sortE_perm _
end Go.Proofs.YthghkglkifeagaaGreat.V
end
section
set_option linter.unusedVariables false
set_option linter.unusedSimpArgs false
namespace Go.Proofs.YthghkglkifeagaaGreat.V
open Go.RowKit Go.Proofs.YthghkglkifeagaaGreatW.PrintWords Go.Proofs.YthghkglkifeagaaGreatW.PrintLast Go.Proofs.YthghkglkifeagaaGreatW.PrintMore
structure QOkP (w0 w : World) (pq : Nat) (a : Qa) (n : Nat) (B : List (Nat × Obj)) (P : List Nat) (s : Nat) : Prop where
  ex : ∃ who q, QAt who w w0.heap.size pq q ∧ QV q a n ∧ (∀ x ∈ B, w.heap[x.1]? = some x.2 ∧ who x.1 = 11 ∧ w0.heap.size ≤ x.1) ∧ q.ms.map Own1.p = P ∧ q.psh = s
  bel : Below w0.heap.size w0 w
namespace QOkP
variable {w0 w w1 : World} {pq : Nat} {a : Qa} {n : Nat} {B : List (Nat × Obj)} {P : List Nat} {s : Nat}
theorem ok (h : QOkP w0 w pq a n B P s) : QOk w0 w pq a n B := by
 obtain ⟨who, q, h1, h2, h3, _⟩ := h.ex
 exact ⟨⟨who, q, h1, h2, h3⟩, h.bel⟩
theorem at_ {x : Nat × Obj} (h : QOkP w0 w pq a n B P s) (hx : x ∈ B) : w.heap[x.1]? = some x.2 := h.ok.at_ hx
theorem below (h : QOkP w0 w pq a n B P s) (hb : Below w.heap.size w w1) : QOkP w0 w1 pq a n B P s := by
 obtain ⟨who, q, h1, h2, h3, h4⟩ := h.ex
 exact ⟨⟨_, q, h1.below hb 11 (by have := h1.few; omega), h2, QOk.boxes h3 (Keep.below hb 11), h4⟩, below_step h.bel hb⟩
theorem mono (h : QOkP w0 w pq a n B P s) {m : Nat} (hm : n ≤ m) : QOkP w0 w pq a m B P s := by
 obtain ⟨who, q, h1, h2, h3, h4⟩ := h.ex
 exact ⟨⟨who, q, h1, h2.mono hm, h3, h4⟩, h.bel⟩
end QOkP
def hitQ (a : Qa) (id : Int) (p : Nat × Nat) : Bool := if p.1 = 1 then hasO id (slotQ a p.2) else if p.1 = 2 then (a.loc.getD p.2 []).any (isId id) else a.sh.any (isId id)
def outQ (a : Qa) (id : Int) (p : Nat × Nat) : Qa := if p.1 = 1 then { a with S := a.S.set p.2 none } else if p.1 = 2 then { a with loc := a.loc.set p.2 (others id (a.loc.getD p.2 [])) } else { a with sh := others id a.sh }
theorem sort_others (id : Int) (l : List E) : sortE (others id l) = others id (sortE l) :=
 sortE_eq ((sortE_sorted l).sublist List.filter_sublist) ((sortE_perm l).filter _)
theorem others_le (id : Int) (l : List E) : (others id l).length ≤ l.length := List.length_filter_le _ _
theorem set_same (l : List (List E)) (t : Nat) : l.set t (l.getD t []) = l := by
 refine List.ext_getElem? fun i => ?_
 rw [List.getElem?_set]
 by_cases h : t = i
 · subst h
   rw [if_pos rfl]
   by_cases h2 : t < l.length
   · rw [if_pos h2, List.getD_eq_getElem?_getD, List.getElem?_eq_getElem h2]; rfl
   · rw [if_neg h2, List.getElem?_eq_none (by omega)]
 · rw [if_neg h]
theorem out_local {a : Qa} {id : Int} {t : Nat} (h : hitQ a id (2, t) = false) : outQ a id (2, t) = a := by
 have h1 : (a.loc.getD t []).any (isId id) = false := h
 show ({ a with loc := a.loc.set t (others id (a.loc.getD t [])) } : Qa) = a
 rw [others_none h1, set_same]
theorem out_shared {a : Qa} {id : Int} {t : Nat} (h : hitQ a id (3, t) = false) : outQ a id (3, t) = a := by
 have h1 : a.sh.any (isId id) = false := h
 show ({ a with sh := others id a.sh } : Qa) = a
 rw [others_none h1]
theorem QV.local {q : QSt} {a : Qa} {n t : Nat} {m : Own1} {v' : Value} {bs' : List Bk} {l' : List E} (h : QV q a n) (hm : q.ms[t]? = some m) (hg : Good bs') (he : bsE bs' = l') (hl : l'.length ≤ (a.loc.getD t []).length) :
 QV { q with ms := q.ms.set t ⟨m.p, v', bs'⟩ } { a with loc := a.loc.set t l' } n := by
 have hlt : t < a.loc.length := by rw [← h.len]; exact (List.getElem?_eq_some_iff.1 hm).1
 refine ⟨h.k, h.S, ?_, ?_, h.sh, h.ok, h.few, h.ver, ?_⟩
 · show (q.ms.set t ⟨m.p, v', bs'⟩).map (fun m => bsE m.bs) = a.loc.set t l'
   rw [List.map_set, h.loc, he]
 · intro x hx
   rcases List.mem_or_eq_of_mem_set hx with h1 | h1
   · exact h.good x h1
   · rw [h1]; exact hg
 · have h1 := sumL_set a.loc t l' hlt
   have h2 := h.cnt
   show sumL (a.loc.set t l') + a.sh.length ≤ n
   omega
theorem QV.shared {q : QSt} {a : Qa} {n n' : Nat} {ver' : Int} {v' : Value} {bs' : List Bk} {l' : List E} (h : QV q a n) (hn : n ≤ n') (he : bsE bs' = l') (hok : ∀ b ∈ bs', okB b = true) (hf : bs'.length ≤ n') (hv : 0 ≤ ver' ∧ ver' ≤ n') (hl : l'.length ≤ a.sh.length) :
 QV { q with ver := ver', vs := v', sb := bs' } { a with sh := l' } n' := by
 have h2 := h.cnt
 exact ⟨h.k, h.S, h.loc, h.good, he, hok, hf, hv, by show sumL a.loc + l'.length ≤ n'; omega⟩
theorem QV.empty {q : QSt} {a : Qa} {n t : Nat} {z : One} (h : QV q a n) (hz : z.full = false) : QV { q with L := q.L.set t z } { a with S := a.S.set t none } n := by
 refine ⟨h.k, ?_, h.loc, h.good, h.sh, h.ok, h.few, h.ver, h.cnt⟩
 show (q.L.set t z).map One.o = a.S.set t none
 rw [List.map_set, h.S]
 unfold One.o
 rw [hz]
 rfl
theorem unlike_sort {l : List E} (h : Unlike (sortE l)) : Unlike l := h.perm (sortE_perm l)
section
variable {w0 w : World} {pq : Nat} {a : Qa} {n : Nat} {B : List (Nat × Obj)} {P : List Nat} {s : Nat}
def TkPost (w0 : World) (pq : Nat) (a : Qa) (n : Nat) (B : List (Nat × Obj)) (P : List Nat) (s : Nat) (id : Int) (p : Nat × Nat) (e : Ending) (w' : World) : Prop :=
  e = .returned (.bool (hitQ a id p)) ∧ if hitQ a id p = true then QOkP w0 w' pq (outQ a id p) (n + 1) B P s else QOkP w0 w' pq a n B P s
theorem tk_local (h : QOkP w0 w pq a n B P s) (hn : n ≤ 800) (t : Nat) (ht : t < a.loc.length) (hu : Unlike (a.loc.getD t [])) (id : Int) (pl : Nat) (hpl : P[t]? = some pl) :
 Calls Tryz.prog 80 #[.pointer (some ⟨pl, 0, none⟩), .int .i64 id] w (TkPost w0 pq a n B P s id (2, t)) := by
 obtain ⟨who, q, h1, h2, h3, h4, h5⟩ := h.ex
 obtain ⟨m, hm⟩ : ∃ m, q.ms[t]? = some m := ⟨_, List.getElem?_eq_getElem (by rw [h2.len]; exact ht)⟩
 have hp : m.p = pl := by
  rw [← h4, List.getElem?_map, hm] at hpl
  injection hpl
 have hc := h2.cntL hm
 have hg := h2.good m (List.mem_of_getElem? hm)
 have hlen := good_len hg (by omega)
 have hat := h2.at_ hm
 rw [← hp]
 refine (@lsm_drop (XO who (t + 3) w.heap.size) w0.heap.size m.p m.v m.bs id w (h1.ow t m hm).1 hg (by omega) (by omega)).mono ?_
 rintro e w' ⟨rfl, v', hl, hT⟩
 have hub : Unlike (allB m.bs) := by rw [hat] at hu; exact unlike_sort hu
 obtain ⟨d1, d2⟩ := drop_all hg id hub (by omega)
 have hany : (dropL id m.bs).1 = hitQ a id (2, t) := by
  show _ = (a.loc.getD t []).any (isId id)
  rw [d1, hat]
  exact any_perm (sortE_perm _).symm
 have hb : bsE (dropL id m.bs).2 = others id (a.loc.getD t []) := by
  rw [hat]
  unfold bsE
  rw [← sort_others]
  refine sortE_of_perm (d2.trans (List.Perm.of_eq ?_))
  unfold others
  congr 1
  funext x
  unfold isId
  by_cases hx : x.f1 = id <;> simp [hx]
 have hq : QOkP w0 w' pq (outQ a id (2, t)) n B P s := by
  refine ⟨⟨_, _, h1.turnL hm hl hT, ?_, QOk.boxes h3 (h1.keepL hm hT), ?_, h5⟩, hT.below h.bel (@LsmAt.lo (XO who (t + 3) _) _ _ _ _ _ (h1.ow t m hm).1) h.ok.lo (fun k hk => (@LsmAt.own (XO who (t + 3) _) _ _ _ _ _ (h1.ow t m hm).1 k hk).1)⟩
  · exact h2.local hm (drop_good hg id (by omega)) hb (others_le _ _)
  · show (q.ms.set t ⟨m.p, v', _⟩).map Own1.p = P
    rw [List.map_set, h4, hp]
    refine List.ext_getElem? fun i => ?_
    rw [List.getElem?_set]
    by_cases hi : t = i
    · subst hi
      rw [if_pos rfl, if_pos (List.getElem?_eq_some_iff.1 hpl).1, hpl]
    · rw [if_neg hi]
 refine ⟨by rw [hany], ?_⟩
 cases hh : hitQ a id (2, t) with
 | true => rw [if_pos rfl]; exact hq.mono (by omega)
 | false => rw [if_neg (by simp)]; rw [out_local hh] at hq; exact hq
theorem tk_shared (h : QOkP w0 w pq a n B P s) (hn : n ≤ 800) (hu : Unlike a.sh) (id : Int) :
 Calls Tryz.prog 81 #[.pointer (some ⟨s, 0, none⟩), .int .i64 id] w (TkPost w0 pq a n B P s id (3, 0)) := by
 obtain ⟨who, q, h1, h2, h3, h4, h5⟩ := h.ex
 have hc := h2.cnt
 have hal := h2.allsh
 have hfew := h2.few
 have hver := h2.ver
 subst h5
 refine (@sh_drop (XO who 2 w.heap.size) w0.heap.size q.psh q.ver q.vs q.sb id w h1.sh.1 (by omega) (by omega) (by omega) h2.ok).mono ?_
 rintro e w' ⟨rfl, v', hs, hg⟩
 have hub : Unlike (allB q.sb) := by rw [← h2.sh] at hu; exact unlike_sort hu
 obtain ⟨d1, d2⟩ := dropS_out (List.Perm.refl (allB q.sb)) hub (id := id)
 have hany : (dropS id q.sb).1 = hitQ a id (3, 0) := by
  show _ = a.sh.any (isId id)
  rw [d1, ← h2.sh]
  exact any_perm (sortE_perm _).symm
 have hb : bsE (dropS id q.sb).2 = others id a.sh := by
  rw [← h2.sh]
  unfold bsE
  rw [← sort_others]
  exact sortE_of_perm d2
 have hfw := @dropS_few id q.sb
 have hq : ∀ n', n ≤ n' → (if (dropS id q.sb).1 = true then q.ver + 1 else q.ver) ≤ (n' : Int) → QOkP w0 w' pq (outQ a id (3, 0)) n' B P q.psh := fun n' hn' hv' => by
  refine ⟨⟨_, _, h1.turnA hs hg, ?_, QOk.boxes h3 (h1.keepA hg), h4, rfl⟩, pw_below_grown h.bel _ h.ok.lo hg (fun k hk => by injection hk with hk; rw [← hk]; exact @ShAt.lo (XO who 2 _) _ _ _ _ _ _ h1.sh.1)⟩
  exact h2.shared hn' hb (dropS_okB h2.ok) (by omega) ⟨by split <;> omega, hv'⟩ (others_le _ _)
 refine ⟨by rw [hany], ?_⟩
 cases hh : hitQ a id (3, 0) with
 | true =>
  rw [if_pos rfl]
  exact hq (n + 1) (by omega) (by rw [hany, hh, if_pos rfl]; omega)
 | false =>
  rw [if_neg (by simp)]
  have := hq n (Nat.le_refl _) (by rw [hany, hh, if_neg (by simp)]; omega)
  rwa [out_shared hh] at this
end
end Go.Proofs.YthghkglkifeagaaGreat.V
end
section
set_option linter.unusedVariables false
set_option linter.unusedSimpArgs false
namespace Go.Proofs.YthghkglkifeagaaGreat.V
open Go.RowKit Go.Proofs.YthghkglkifeagaaGreatW.PrintWords Go.Proofs.YthghkglkifeagaaGreatW.PrintLast Go.Proofs.YthghkglkifeagaaGreatW.PrintMore
def bxP (pq : Nat) : Obj := .cells #[.pointer (some ⟨pq, 0, none⟩)] 23
def bxI (x : Int) : Obj := .cells #[.int .i64 x] 3
section
variable {w0 w : World} {pq : Nat} {a : Qa} {n : Nat} {B : List (Nat × Obj)} {P : List Nat} {s : Nat}
theorem slot_taken {who : Nat → Nat} {q : QSt} {W : World} (hB : Below w0.heap.size w0 W) (h1 : QAt who W w0.heap.size pq q) (h2 : QV q a n) (h3 : ∀ x ∈ B, W.heap[x.1]? = some x.2 ∧ who x.1 = 11 ∧ w0.heap.size ≤ x.1) (h4 : q.ms.map Own1.p = P) (h5 : q.psh = s) (t : Nat) (o : One) (ho : q.L[t]? = some o) (hf : o.full = true) (id : Int) :
 Calls Tryz.prog 35 #[.pointer (some ⟨q.ps, 0, none⟩), .int .i64 t, .int .u64 o.ver] W fun e w' => e = .returned (.tuple #[.agg #[.int .u64 o.key, .int .i64 o.id], .bool true]) ∧ QOkP w0 w' pq (outQ a id (1, t)) (n + 1) B P s := by
 refine (slot_take_yes _ _ _ (t : Int) o _ h1.sl (by omega) (by rw [Int.toNat_natCast]; exact ho) hf).mono ?_
 rintro e w3 ⟨rfl, hs3, hg3⟩
 have e0 : ∀ x, setO q.L (t : Int) x = q.L.set t x := fun x => by unfold setO; rw [Int.toNat_natCast]
 rw [e0] at hs3
 refine ⟨rfl, ⟨⟨_, _, h1.turnS hs3 hg3 (by rw [List.length_set]), (h2.empty rfl).mono (by omega), QOk.boxes h3 (h1.keepS hg3), h4, h5⟩, pw_below_grown hB _ hB.size hg3 (fun k hk => by injection hk with hk; rw [← hk]; exact h1.ls.2)⟩⟩
set_option maxRecDepth 100000 in
set_option maxHeartbeats 8000000 in
theorem tk_slot (h : QOkP w0 w pq a n B P s) (t : Nat) (ht : t < a.loc.length) (id : Int) (g1 gt : Nat) (hg1 : (g1, bxP pq) ∈ B) (hgt : (gt, bxI t) ∈ B) :
 Calls Tryz.prog 79 #[.int .i64 id, .pointer (some ⟨g1, 0, none⟩), .pointer (some ⟨gt, 0, none⟩)] w (TkPost w0 pq a n B P s id (1, t)) := by
 have hb1 : w.heap[g1]? = some (.cells #[.pointer (some ⟨pq, 0, none⟩)] 23 (0, 0)) := h.at_ hg1
 have hb2 : w.heap[gt]? = some (.cells #[.int .i64 t] 3 (0, 0)) := h.at_ hgt
 have HP := Aside0.mk h
 have hfw := h.ok.few
 obtain ⟨who, q, h1, h2, h3, h4, h5⟩ := h.ex
 obtain ⟨o, ho⟩ : ∃ o, q.L[t]? = some o := ⟨_, List.getElem?_eq_getElem (by rw [h2.lenS]; omega)⟩
 have HS := Aside0.mk (show slotQ a t = o.o from h2.slot ho)
 have HA := Aside0.mk (show ∀ wr, Below w.heap.size w wr → QAt (upO who 11 w.heap.size) wr w0.heap.size pq q from fun wr hb => h1.below hb 11 (by have := h1.few; omega))
 have HQ := Aside0.mk h2
 have HO := Aside0.mk ho
 have HX3 := Aside0.mk (show ∀ wr, Below w.heap.size w wr → (∀ x ∈ B, wr.heap[x.1]? = some x.2 ∧ upO who 11 w.heap.size x.1 = 11 ∧ w0.heap.size ≤ x.1) from fun wr hb => QOk.boxes h3 (Keep.below hb 11))
 have H45 := Aside0.mk (show q.ms.map Own1.p = P ∧ q.psh = s from ⟨h4, h5⟩)
 have b1 : w.cell? ⟨g1, 0, none⟩ = some (.pointer (some ⟨pq, 0, none⟩)) := (blk_cell hb1 0).trans rfl
 have b2 : w.cell? ⟨gt, 0, none⟩ = some (.int .i64 t) := (blk_cell hb2 0).trans rfl
 have c1 := h1.c1
 have HB1 := Aside0.mk hb1
 have HB2 := Aside0.mk hb2
 have b1a := fun o => pw_cell_below (below_alloc (Below.refl w.heap.size w) o) b1
 have b2a := fun o => pw_cell_below (below_alloc (Below.refl w.heap.size w) o) b2
 have c1a := fun o => pw_cell_below (below_alloc (Below.refl w.heap.size w) o) c1
 have HGET := Aside0.mk (show ∀ W, Below w.heap.size w W → Calls Tryz.prog 34 #[.pointer (some ⟨q.ps, 0, none⟩), .int .i64 t] W fun e w' => e = .returned (.tuple #[.agg #[.int .u64 o.key, .int .i64 o.id], .int .u64 o.ver, .bool o.full]) ∧ Below W.heap.size W w' from fun W hb =>
  slot_get_in _ _ _ (t : Int) o _ (HA.out W hb).sl (by omega) (by rw [Int.toNat_natCast]; exact HO.out))
 have HBD := Aside0.mk (below_drew (Below.refl w.heap.size w))
 have HBD2 := Aside0.mk (show ∀ o, Below w.heap.size w (w.alloc o).drew from fun o => below_drew (below_alloc (Below.refl w.heap.size w) o))
 clear h h1 h2 h3 h4 h5 ho hb1 hb2 hg1 hgt
 go_enter Tryz.func79, Tryz.ntmps79
 go_upto_region 1 with fail
 go_cut [5, 6, 7] (fun s5 s6 s7 wx => ∃ X, s5 = .pointer (some ⟨X, 0, none⟩) ∧ s6 = .int .u64 o.ver ∧ s7 = .bool o.full ∧ Aside0 (wx.heap[X]? = some (.cells #[.int .u64 o.key, .int .i64 o.id] 33 (0, 0))) ∧ Aside0 (Below w.heap.size w wx))
 case first =>
  go_region_with (first
   | (go_at_call 34; go_loud ((first | refine (HGET.out _ HBD.out).mono ?_ | refine (HGET.out _ (HBD2.out _)).mono ?_); rintro x_ w6 ⟨rfl, hb6⟩; (first | (have H6 := Aside0.mk (after_zero hb6); obtain ⟨zc0, zc1, zf0, zf1⟩ := zero_facts H6.out.1; clear hb6) | (have H6 := Aside0.mk (after_draw hb6); clear hb6)))))
  all_goals (go_wp2_with fail)
  all_goals go_meet
  all_goals first
   | exact ⟨_, rfl, rfl, rfl, ⟨heap_alloc_new w6 _⟩, ⟨below_step H6.out (below_alloc (Below.refl w6.heap.size w6) _)⟩⟩
   | exact ⟨_, rfl, rfl, rfl, ⟨(put_two H6.out.1 H6.out.2 (Nat.le_refl _)).1⟩, ⟨(put_two H6.out.1 H6.out.2 (Nat.le_refl _)).2⟩⟩
 case rest =>
  obtain ⟨X, rfl, rfl, rfl, HX, HBX⟩ := hcut
  clear b1 b2 c1 b1a b2a c1a
  have x1 : wc.cell? ⟨X, 1, none⟩ = some (.int .i64 o.id) := (blk_cell HX.out 1).trans rfl
  cases hf : o.full with
  | false =>
   have HH := Aside0.mk (show hitQ a id (1, t) = false by show hasO id (slotQ a t) = false; rw [HS.out]; unfold One.o; rw [hf]; rfl)
   have HPO := Aside0.mk (show TkPost w0 pq a n B P s id (1, t) (.returned (.bool false)) wc from ⟨by rw [HH.out], by rw [HH.out, if_neg (by simp)]; exact HP.out.below HBX.out⟩)
   clear hf
   go_wp2_with fail
   go_ret
   exact HPO.out
  | true =>
   have HF := Aside0.mk hf
   by_cases hid : o.id = id
   · have HH := Aside0.mk (show hitQ a id (1, t) = true by show hasO id (slotQ a t) = true; rw [HS.out]; unfold One.o; rw [if_pos hf]; exact decide_eq_true hid)
     have b1 := pw_cell_below HBX.out ((blk_cell HB1.out 0).trans rfl : w.cell? ⟨g1, 0, none⟩ = some (.pointer (some ⟨pq, 0, none⟩)))
     have b2 := pw_cell_below HBX.out ((blk_cell HB2.out 0).trans rfl : w.cell? ⟨gt, 0, none⟩ = some (.int .i64 t))
     have c1 := (HA.out wc HBX.out).c1
     have HBC := Aside0.mk (show Below w.heap.size w wc.drew from below_drew HBX.out)
     have HTK := Aside0.mk (slot_taken (id := id) (below_then HP.out.bel HP.out.ok.lo HBC.out) (HA.out _ HBC.out) HQ.out (HX3.out _ HBC.out) H45.out.1 H45.out.2 t o HO.out HF.out)
     have d1 : (o.id != id) = false := by simp [hid]
     have d2 : decide (o.id = id) = true := decide_eq_true hid
     have d3 : (o.id == id) = true := by rw [beq_iff_eq]; exact hid
     clear hf hid
     go_wp2_with fail
     go_upto_region 4 with fail
     go_cut [7] (fun s7 wx => s7 = .bool true ∧ Aside0 (QOkP w0 wx pq (outQ a id (1, t)) (n + 1) B P s))
     case first =>
      go_region_with (first
       | (go_at_call 35; go_loud (refine HTK.out.mono ?_; rintro x_ w6 ⟨rfl, hq6⟩; have HQ6 := Aside0.mk hq6; clear hq6)))
      all_goals (go_wp2_with fail)
      all_goals go_meet
      all_goals exact ⟨rfl, HQ6⟩
     case rest =>
      obtain ⟨rfl, HQ6⟩ := hcut
      have HPO := Aside0.mk (show TkPost w0 pq a n B P s id (1, t) (.returned (.bool true)) wc from ⟨by rw [HH.out], by rw [HH.out, if_pos rfl]; exact HQ6.out⟩)
      go_wp2_with fail
      go_ret
      exact HPO.out
   · have HH := Aside0.mk (show hitQ a id (1, t) = false by show hasO id (slotQ a t) = false; rw [HS.out]; unfold One.o; rw [if_pos hf]; exact decide_eq_false hid)
     have d2 : decide (o.id = id) = false := decide_eq_false hid
     have d3 : (o.id == id) = false := by rw [beq_eq_false_iff_ne]; exact hid
     have HPO := Aside0.mk (show TkPost w0 pq a n B P s id (1, t) (.returned (.bool false)) wc from ⟨by rw [HH.out], by rw [HH.out, if_neg (by simp)]; exact HP.out.below HBX.out⟩)
     clear hf
     go_wp2_with fail
     go_ret
     exact HPO.out
end
end Go.Proofs.YthghkglkifeagaaGreat.V
end
section
set_option linter.unusedVariables false
set_option linter.unusedSimpArgs false
namespace Go.Proofs.YthghkglkifeagaaGreat.V
open Go.RowKit Go.Proofs.YthghkglkifeagaaGreatW.PrintWords Go.Proofs.YthghkglkifeagaaGreatW.PrintLast Go.Proofs.YthghkglkifeagaaGreatW.PrintMore
open Go.Maps (Keyed IsMap)
open Go.WideMaps
def Rf (v : Value) : Option (DataW Value × List MemPlace) := some (.held v, [])
theorem arrPl : Go.WideMaps.ArrKey Tryz.prog 77 3 2 := ⟨Tryz.underlying77, by kernel_rfl, by kernel_rfl, by kernel_rfl⟩
theorem keyedPl : Keyed Tryz.prog 77 := Keyed.of_law arrPl.law
theorem wf64 {n : Nat} (h : n < 1000) : (Lit.int .i64 (n : Int)).wf = true := by
 have h0 : IntKind.i64.min = -9223372036854775808 := by decide
 have h1 : IntKind.i64.max = 9223372036854775807 := by decide
 simp only [Lit.wf, decide_eq_true_eq, Bool.and_eq_true]
 rw [h0, h1]
 omega
def plV (p : Nat × Nat) : Value := .agg #[.int .i64 (p.1 : Int), .int .i64 (p.2 : Int)]
def plK (p : Nat × Nat) : Lit := .string (keyBytes [.int .i64 (p.1 : Int), .int .i64 (p.2 : Int)])
theorem plKey (p : Nat × Nat) (h0 : p.1 < 1000) (h1 : p.2 < 1000) : keyOf Tryz.prog 77 (plV p) = some (plK p) :=
 keyOf_pair arrPl Tryz.underlying3 ⟨Tryz.prog.types.size - 1, by kernel_rfl⟩ (wf64 h0) (wf64 h1)
theorem plV_inj {p q : Nat × Nat} (h : plV p = plV q) : p = q := by
 unfold plV at h
 simp only [Value.agg.injEq, Array.mk.injEq, List.cons.injEq, Value.int.injEq, true_and, and_true] at h
 exact Prod.ext (by omega) (by omega)
theorem plK_ne {p q : Nat × Nat} (h0 : p.1 < 1000) (h1 : p.2 < 1000) (k0 : q.1 < 1000) (k1 : q.2 < 1000) (hne : p ≠ q) : plK p ≠ plK q := fun e =>
 hne (plV_inj (keyedPl.inj (plKey p h0 h1) (by rw [e]; exact plKey q k0 k1)))
def MapF (w : World) (b n : Nat) (f : Nat × Nat → Value) : Prop :=
  ∃ D : DataW Value, w.ownsMap Tryz.prog 77 Rf b n D ∧ ∀ p : Nat × Nat, p.1 < 1000 → p.2 < 1000 → D.atKey (plK p) (.held .nilFunc) = .held (f p)
theorem MapF.made (w : World) : MapF (w.alloc (.map #[] 0)) w.heap.size 0 (fun _ => .nilFunc) := ⟨_, World.ownsMap_made _ _ _ _, fun p _ _ => rfl⟩
theorem MapF.lt {w : World} {b n : Nat} {f : Nat × Nat → Value} (h : MapF w b n f) : b < w.heap.size := by
 obtain ⟨D, h1, h2⟩ := h
 exact h1.lt
theorem MapF.at_ {w : World} {b n : Nat} {f : Nat × Nat → Value} (h : MapF w b n f) : ∃ es clock, w.heap[b]? = some (.map es clock) := by
 obtain ⟨D, ⟨es, clock, h1, _⟩, _⟩ := h
 exact ⟨es, clock, h1⟩
theorem MapF.move {w w' : World} {b n : Nat} {f : Nat × Nat → Value} (h : MapF w b n f) (hh : w'.heap[b]? = w.heap[b]?) : MapF w' b n f := by
 obtain ⟨D, ⟨es, clock, h1, h2⟩, h3⟩ := h
 exact ⟨D, ⟨es, clock, hh.trans h1, h2⟩, h3⟩
theorem zeroF (w : World) : (zeroValue 34).run Tryz.prog w = .ok .nilFunc w := by
 obtain ⟨i0, hi, hz⟩ := Option.map_eq_some_iff.1 (show (Tryz.prog.info? 34).map (fun i => i.zero) = some (some .nilFunc) from by kernel_rfl)
 simp [zeroValue, typeInfo, hi, hz]
theorem MapF.look {w : World} {b n : Nat} {f : Nat × Nat → Value} (h : MapF w b n f) (p : Nat × Nat) (h0 : p.1 < 1000) (h1 : p.2 < 1000) :
 (Instr.lookup 72 (.map (some b)) (plV p) false).run Tryz.prog w = .ok (f p) w := by
 obtain ⟨D, d1, d2⟩ := h
 obtain ⟨v, ps, hrun, hv⟩ := d1.lookup keyedPl Tryz.underlying72 (zeroF w) (show Rf .nilFunc = some (.held .nilFunc, []) from rfl) (plKey p h0 h1)
 rw [d2 p h0 h1] at hv
 have : v = f p := by
  unfold Rf at hv
  simp only [Option.some.injEq, Prod.mk.injEq, DataW.held.injEq] at hv
  exact hv.1
 rw [← this]
 exact hrun
theorem MapF.store {w : World} {b n : Nat} {f : Nat × Nat → Value} (h : MapF w b n f) (hn : n < 1000) (p : Nat × Nat) (h0 : p.1 < 1000) (h1 : p.2 < 1000) (v : Value) :
 ∃ w', (Instr.mapUpdate 72 (.map (some b)) (plV p) v).run Tryz.prog w = .ok () w' ∧ MapF w' b (n + 1) (fun q => if q = p then v else f q) ∧ w.grownBy w' (some b) := by
 obtain ⟨D, d1, d2⟩ := h
 obtain ⟨w', hrun, h3, h4⟩ := d1.update keyedPl Tryz.underlying72 (show n < maxLen by unfold maxLen; omega) (plKey p h0 h1) (show Rf v = some (.held v, []) from rfl)
 refine ⟨w', hrun, ⟨_, h3, fun q q0 q1 => ?_⟩, h4⟩
 by_cases hq : q = p
 · subst hq
   rw [Maps.atKey_put_same d1.isMap (by simp [WideAt.IsKeyLit, plK])]
   simp
 · rw [Maps.atKey_put_other (plK_ne q0 q1 h0 h1 hq), d2 q q0 q1]
   show DataW.held (f q) = DataW.held (if q = p then v else f q)
   rw [if_neg hq]
end Go.Proofs.YthghkglkifeagaaGreat.V
end
