-- a text of this work, without what this claim doesn't use (wip/shake.py)
import Derived.Test.YtoohkcffkhnodaaRVLsm16
import Derived.Test.YtoohkcffkhnodaaRVPblockb
import Derived.Deep.RegionWith
import Derived.Deep.DeepCutAuto
import Derived.Deep.CutBlock
import Derived.Test.YtoohkcffkhnodaaRVLsm5
import Derived.Test.YtoohkcffkhnodaaRVXGrow
import Derived.IntWalk
import Derived.BigQuiet
section
set_option linter.unusedVariables false
set_option linter.unusedSimpArgs false
namespace Go.Proofs.Ytoohkcffkhnodaa.V
open Go.RowKit Go.Proofs.YtoohkcffkhnodaaW.PrintWords Go.Proofs.YtoohkcffkhnodaaW.PrintLast Go.Proofs.YtoohkcffkhnodaaW.PrintMore
def isE (id : Int) (e : E) : Bool := decide (e.f1 = id)
def idxV : Option Nat → Int
  | none => -1
  | some i => (i : Int)
theorem find_here {α : Type} {p : α → Bool} {l : List α} {m : Nat} {a : α} (ha : l[m]? = some a) (hp : p a = true) (hb : ∀ j b, j < m → l[j]? = some b → p b = false) : l.findIdx? p = some m := by
 obtain ⟨h1, rfl⟩ := List.getElem?_eq_some_iff.1 ha
 rw [List.findIdx?_eq_some_iff_getElem]
 exact ⟨h1, hp, fun j hj => by rw [hb j _ hj (List.getElem?_eq_getElem (by omega))]; simp⟩
theorem find_none {α : Type} {p : α → Bool} {l : List α} (hb : ∀ j b, j < l.length → l[j]? = some b → p b = false) : l.findIdx? p = none := by
 rw [List.findIdx?_eq_none_iff]
 intro x hx
 obtain ⟨j, hj, rfl⟩ := List.getElem_of_mem hx
 exact hb j _ hj (List.getElem?_eq_getElem hj)
def CapI (w : World) (gi : Nat) (id : Int) : Prop := w.heap[gi]? = some (.cells #[.int .i64 id] 3 (0, 0))
theorem CapI.below {w w1 : World} {gi : Nat} {id : Int} (h : CapI w gi id) (hb : Below w.heap.size w w1) : CapI w1 gi id := (hb.block gi (Array.getElem?_eq_some_iff.1 h).1).trans h
theorem CapI.cell {w : World} {gi : Nat} {id : Int} (h : CapI w gi id) : w.cell? ⟨gi, 0, none⟩ = some (.int .i64 id) := by
 unfold CapI at h
 simp [World.cell?, h]
set_option maxHeartbeats 400000 in
theorem ld1 (id : Int) (gi : Nat) (e : E) (w : World) (h : CapI w gi id) :
 Calls Try.prog 29 #[.agg #[.int .u64 e.f0, .int .i64 e.f1], .pointer (some ⟨gi, 0, none⟩)] w fun x w' => x = .returned (.bool (isE id e)) ∧ Below w.heap.size w w' := by
 have hc := (h.below (below_alloc (Below.refl w.heap.size w) (.cells #[.int .u64 e.f0, .int .i64 e.f1] 28))).cell
 clear h
 unfold isE
 go_enter Try.func29, Try.ntmps29
 go_wp2
 go_ret
 exact ⟨by first | rfl | simp, below_alloc (Below.refl _ _) _⟩
set_option maxRecDepth 100000 in
set_option maxHeartbeats 2000000 in
theorem eidx (id : Int) (gi : Nat) (A : Option Addr) (c : Nat) (l : List E) (w : World) (hr : k28.C w A l.length l) (hc : l.length ≤ c) (hl : l.length ≤ 1000000) (h : CapI w gi id) :
 Calls Try.prog 52 #[.slice A l.length c, .func (.func 29) #[] #[.pointer (some ⟨gi, 0, none⟩)]] w fun x w' => x = .returned (.int .i64 (idxV (l.findIdx? (isE id)))) ∧ Below w.heap.size w w' := by
 have HR := Aside0.mk hr
 have HC := Aside0.mk h
 clear hr h
 go_enter Try.func52, Try.ntmps52
 go_wp2
 go_loopw [8] (fun i wr => ∃ m : Nat, m ≤ l.length ∧ i = .int .i64 m ∧ Aside0 (∀ j b, j < m → l[j]? = some b → isE id b = false) ∧ Aside0 (Below w.heap.size w wr)) (fun i _ => l.length - (intOf i).toNat)
 case atStart => exact ⟨0, Nat.zero_le _, rfl, ⟨fun j b h => by omega⟩, ⟨Below.refl _ _⟩⟩
 case round =>
  obtain ⟨m, hm, rfl, HN, HB⟩ := hrel
  by_cases hlt : m < l.length
  · obtain ⟨e, he⟩ : ∃ e, l[m]? = some e := ⟨_, List.getElem?_eq_getElem hlt⟩
    obtain ⟨ad, e1, y0, y1⟩ := at_T28 (Kd.C_below HR.out HB.out) (m : Int) (by omega) (by omega)
    subst e1
    rw [Int.toNat_natCast, rd_some he] at y0 y1
    have HE := Aside0.mk he
    clear he
    go_wp2_with fail
    refine (ld1 id gi e _ (HC.out.below HB.out)).mono ?_
    rintro x w2 ⟨rfl, hb2⟩
    have HB2 := Aside0.mk (below_step HB.out hb2)
    clear hb2 y0 y1
    cases hi : isE id e with
    | true =>
     have HF := Aside0.mk (find_here HE.out hi HN.out)
     clear hi
     go_wp2
     go_ret
     exact ⟨by rw [HF.out]; rfl, HB2.out⟩
    | false =>
     have HN2 : Aside0 (∀ j b, j < m + 1 → l[j]? = some b → isE id b = false) := ⟨fun j b hj hb => by
      by_cases h1 : j = m
      · subst h1
        rw [HE.out] at hb
        injection hb with hb
        rw [← hb]; exact hi
      · exact HN.out j b (by omega) hb⟩
     clear hi
     go_wp2
     go_roundw
     case rel => exact ⟨m + 1, by omega, by go_num, HN2, HB2⟩
     case measure => simp [intOf]; omega
  · obtain rfl : m = l.length := by omega
    have HF := Aside0.mk (find_none HN.out)
    go_wp2
    go_ret
    exact ⟨by rw [HF.out]; rfl, HB.out⟩
theorem idx_any {α : Type} (p : α → Bool) (l : List α) : decide (0 ≤ idxV (l.findIdx? p)) = l.any p := by
 cases h : l.findIdx? p with
 | none =>
  rw [List.findIdx?_eq_none_iff] at h
  have : l.any p = false := by rw [List.any_eq_false]; intro x hx; rw [h x hx]; simp
  rw [this]; rfl
 | some i =>
  rw [List.findIdx?_eq_some_iff_getElem] at h
  obtain ⟨h1, h2, _⟩ := h
  have : l.any p = true := List.any_eq_true.2 ⟨_, List.getElem_mem h1, h2⟩
  rw [this]
  exact decide_eq_true (Int.natCast_nonneg i)
set_option maxHeartbeats 1000000 in
theorem econt (id : Int) (gi : Nat) (A : Option Addr) (c : Nat) (l : List E) (w : World) (hr : k28.C w A l.length l) (hc : l.length ≤ c) (hl : l.length ≤ 1000000) (h : CapI w gi id) :
 Calls Try.prog 32 #[.slice A l.length c, .func (.func 29) #[] #[.pointer (some ⟨gi, 0, none⟩)]] w fun x w' => x = .returned (.bool (l.any (isE id))) ∧ Below w.heap.size w w' := by
 have HR := Aside0.mk hr
 have HC := Aside0.mk h
 have HA := Aside0.mk (idx_any (isE id) l)
 clear hr h
 go_enter Try.func32, Try.ntmps32
 go_wp2_with fail
 refine (eidx id gi A c l _ HR.out hc hl HC.out).mono ?_
 rintro x w2 ⟨rfl, hb2⟩
 have HB2 := Aside0.mk hb2
 clear hb2
 generalize idxV (l.findIdx? (isE id)) = v at HA ⊢
 go_wp2
 go_ret
 exact ⟨by rw [← HA.out]; rfl, HB2.out⟩
def CapF (w : World) (gf gi : Nat) (id : Int) : Prop := w.heap[gf]? = some (.cells #[.func (.func 29) #[] #[.pointer (some ⟨gi, 0, none⟩)]] 65 (0, 0)) ∧ CapI w gi id
theorem CapF.below {w w1 : World} {gf gi : Nat} {id : Int} (h : CapF w gf gi id) (hb : Below w.heap.size w w1) : CapF w1 gf gi id := ⟨(hb.block gf (Array.getElem?_eq_some_iff.1 h.1).1).trans h.1, h.2.below hb⟩
theorem CapF.cell {w : World} {gf gi : Nat} {id : Int} (h : CapF w gf gi id) : w.cell? ⟨gf, 0, none⟩ = some (.func (.func 29) #[] #[.pointer (some ⟨gi, 0, none⟩)]) := by
 have := h.1
 simp [World.cell?, this]
set_option maxHeartbeats 1000000 in
theorem ld2 (id : Int) (gf gi : Nat) (b : Bk) (A : Option Addr) (c : Nat) (w : World) (hr : k28.C w A b.f1.length b.f1) (hc : b.f1.length ≤ c) (hl : b.f1.length ≤ 1000000) (h : CapF w gf gi id) :
 Calls Try.prog 31 #[.agg #[.int .i64 b.f0, .slice A b.f1.length c], .pointer (some ⟨gf, 0, none⟩)] w fun x w' => x = .returned (.bool (hasB id b)) ∧ Below w.heap.size w w' := by
 have hcf := (h.below (below_alloc (Below.refl w.heap.size w) (.cells #[.int .i64 b.f0, .slice A b.f1.length c] 61))).cell
 have HF := Aside0.mk (h.below (below_alloc (Below.refl w.heap.size w) (.cells #[.int .i64 b.f0, .slice A b.f1.length c] 61)))
 have HR := Aside0.mk (Kd.C_below hr (below_alloc (Below.refl w.heap.size w) (.cells #[.int .i64 b.f0, .slice A b.f1.length c] 61)))
 clear hr h
 go_enter Try.func31, Try.ntmps31
 go_wp2_with fail
 refine (econt id gi A c b.f1 _ HR.out hc hl HF.out.2).mono ?_
 rintro x w2 ⟨rfl, hb2⟩
 have HB2 := Aside0.mk (below_step (below_alloc (Below.refl w.heap.size w) (.cells #[.int .i64 b.f0, .slice A b.f1.length c] 61)) hb2)
 clear hb2
 go_wp2
 go_ret
 exact ⟨rfl, HB2.out⟩
set_option maxRecDepth 100000 in
set_option maxHeartbeats 2000000 in
theorem bidx (id : Int) (gf gi : Nat) (A : Option Addr) (c : Nat) (bs : List Bk) (w : World) (hr : k61.C w A bs.length bs) (hc : bs.length ≤ c) (hn : bs.length ≤ 100) (hl : (allB bs).length ≤ 1000000) (h : CapF w gf gi id) :
 Calls Try.prog 30 #[.slice A bs.length c, .func (.func 31) #[] #[.pointer (some ⟨gf, 0, none⟩)]] w fun x w' => x = .returned (.int .i64 (idxV (bs.findIdx? (hasB id)))) ∧ Below w.heap.size w w' := by
 have HR := Aside0.mk hr
 have HC := Aside0.mk h
 clear hr h
 go_enter Try.func30, Try.ntmps30
 go_wp2
 go_loopw [8] (fun i wr => ∃ m : Nat, m ≤ bs.length ∧ i = .int .i64 m ∧ Aside0 (∀ j b, j < m → bs[j]? = some b → hasB id b = false) ∧ Aside0 (Below w.heap.size w wr)) (fun i _ => bs.length - (intOf i).toNat)
 case atStart => exact ⟨0, Nat.zero_le _, rfl, ⟨fun j b h => by omega⟩, ⟨Below.refl _ _⟩⟩
 case round =>
  obtain ⟨m, hm, rfl, HN, HB⟩ := hrel
  by_cases hlt : m < bs.length
  · obtain ⟨b, hb⟩ : ∃ b, bs[m]? = some b := ⟨_, List.getElem?_eq_getElem hlt⟩
    obtain ⟨ad, A1, c1, rfl, y0, y1, e4, e5⟩ := bk_at (Kd.C_below HR.out HB.out) hb
    have HE := Aside0.mk hb
    have HV := Aside0.mk e5
    have hle := allB_at_le hb
    have HL := Aside0.mk (show b.f1.length ≤ 1000000 by omega)
    clear hb e5 hle
    go_wp2_with fail
    refine (ld2 id gf gi b A1 c1 _ HV.out e4 HL.out (HC.out.below HB.out)).mono ?_
    rintro x w2 ⟨rfl, hb2⟩
    have HB2 := Aside0.mk (below_step HB.out hb2)
    clear hb2 y0 y1
    cases hi : hasB id b with
    | true =>
     have HF := Aside0.mk (find_here HE.out hi HN.out)
     clear hi
     go_wp2
     go_ret
     exact ⟨by rw [HF.out]; rfl, HB2.out⟩
    | false =>
     have HN2 : Aside0 (∀ j b, j < m + 1 → bs[j]? = some b → hasB id b = false) := ⟨fun j b' hj hb' => by
      by_cases h1 : j = m
      · subst h1
        rw [HE.out] at hb'
        injection hb' with hb'
        rw [← hb']; exact hi
      · exact HN.out j b' (by omega) hb'⟩
     clear hi
     go_wp2
     go_roundw
     case rel => exact ⟨m + 1, by omega, by go_num, HN2, HB2⟩
     case measure => simp [intOf]; omega
  · obtain rfl : m = bs.length := by omega
    have HF := Aside0.mk (find_none HN.out)
    go_wp2
    go_ret
    exact ⟨by rw [HF.out]; rfl, HB.out⟩
end Go.Proofs.Ytoohkcffkhnodaa.V
end
section
set_option linter.unusedVariables false
set_option linter.unusedSimpArgs false
namespace Go.Proofs.Ytoohkcffkhnodaa.V
open Go.RowKit Go.Proofs.YtoohkcffkhnodaaW.PrintWords Go.Proofs.YtoohkcffkhnodaaW.PrintLast Go.Proofs.YtoohkcffkhnodaaW.PrintMore
set_option maxHeartbeats 400000 in
theorem ld3 (id : Int) (gi : Nat) (x : Int) (w : World) (h : CapI w gi id) :
 Calls Try.prog 34 #[.int .i64 x, .pointer (some ⟨gi, 0, none⟩)] w fun y w' => y = .returned (.bool (decide (x = id))) ∧ w = w' := by
 have hc := h.cell
 clear h
 go_enter Try.func34, Try.ntmps34
 go_wp2
 go_ret
 exact ⟨by first | rfl | simp, rfl⟩
theorem func_nil (f : Fn) (x y : Array Value) (W : World) : (binOp .eql 44 (.func f x y) .nilFunc).run Try.prog W = .ok (.bool false) W := by
 have h : ∀ d, (Op.equalIn (d + 1) 44 (.func f x y) .nilFunc).run Try.prog W = .ok false W := fun d => by simp [Op.equalIn, run_underlying Try.underlying44]
 simp only [binOp]
 simp [Op.equal, Op.maxDepth, h 9999]
theorem out_take {id : Int} {b : Bk} {m : Nat} {e : E} (h : b.f1[m]? = some e) : (b.f1.take (m + 1)).filter (fun e => decide (e.f1 ≠ id)) = (b.f1.take m).filter (fun e => decide (e.f1 ≠ id)) ++ (if e.f1 = id then [] else [e]) := by
 obtain ⟨h1, rfl⟩ := List.getElem?_eq_some_iff.1 h
 rw [List.take_succ_eq_append_getElem h1, List.filter_append]
 by_cases hi : b.f1[m].f1 = id <;> simp [hi]
set_option maxRecDepth 100000 in
set_option maxHeartbeats 4000000 in
theorem shrink_ld3 (id : Int) (gi : Nat) (b : Bk) (A : Option Addr) (c : Nat) (w : World) (hr : k28.C w A b.f1.length b.f1) (hc : b.f1.length ≤ c) (hl : b.f1.length ≤ 1000000) (h : CapI w gi id) :
 Calls Try.prog 33 #[.agg #[.int .i64 b.f0, .slice A b.f1.length c], .func (.func 34) #[] #[.pointer (some ⟨gi, 0, none⟩)]] w fun x w' => ∃ v1, x = .returned (.agg #[.int .i64 (mkB (outB id b)).f0, v1]) ∧ Kd.V k28 28 w' w.heap.size (fun k => w.heap.size ≤ k) v1 (mkB (outB id b)).f1 ∧ Below w.heap.size w w' := by
 have hz := below_alloc (below_alloc (Below.refl w.heap.size w) (.cells #[.int .i64 b.f0, .slice A b.f1.length c] 61)) (.cells #[.int .i64 0, .slice none 0 0] 61)
 have HZ := Aside0.mk hz
 have HR := Aside0.mk (Kd.C_below hr hz)
 have HC := Aside0.mk (h.below hz)
 have HX := Aside0.mk (heap_alloc_new (w.alloc (.cells #[.int .i64 b.f0, .slice A b.f1.length c] 61)) (.cells #[.int .i64 0, .slice none 0 0] 61))
 have hnil := fun W => func_nil (.func 34) #[] #[.pointer (some ⟨gi, 0, none⟩)] W
 clear hz hr h
 go_enter Try.func33, Try.ntmps33
 go_wp2
 obtain ⟨wz, hwz⟩ : ∃ wz : World, wz = (w.alloc (.cells #[.int .i64 b.f0, .slice A b.f1.length c] 61)).alloc (.cells #[.int .i64 0, .slice none 0 0] 61) := ⟨_, rfl⟩
 rw [← hwz] at HZ HR HC HX ⊢
 rw [World.size_alloc] at HX
 clear hwz
 go_loopw [5, 11] (fun q i wr => ∃ m : Nat, m ≤ b.f1.length ∧ i = .int .i64 m ∧ Aside0 (Kd.R k28 28 wr wz.heap.size (fun _ => True) q ((b.f1.take m).filter (fun e => decide (e.f1 ≠ id)))) ∧ Aside0 (Below wz.heap.size wz wr)) (fun _ i _ => b.f1.length - (intOf i).toNat)
 case atStart => exact ⟨0, Nat.zero_le _, rfl, ⟨Kd.R_nil _ _ _ _ _⟩, ⟨Below.refl _ _⟩⟩
 case round =>
  obtain ⟨m, hm, rfl, HQ, HB⟩ := hrel
  by_cases hlt : m < b.f1.length
  · obtain ⟨e, he⟩ : ∃ e, b.f1[m]? = some e := ⟨_, List.getElem?_eq_getElem hlt⟩
    obtain ⟨ad, e1, y0, y1⟩ := at_T28 (Kd.C_below HR.out HB.out) (m : Int) (by omega) (by omega)
    subst e1
    rw [Int.toNat_natCast, rd_some he] at y0 y1
    have HT := Aside0.mk (out_take (id := id) he)
    have hql : ((b.f1.take m).filter (fun e => decide (e.f1 ≠ id))).length ≤ 1000000 := Nat.le_trans (List.length_filter_le _ _) (by rw [List.length_take]; omega)
    have HQL := Aside0.mk hql
    clear he hql
    by_cases hi : e.f1 = id
    · have HT2 := HT.out
      rw [if_pos hi, List.append_nil] at HT2
      have HT3 := Aside0.mk HT2
      have di : decide (e.f1 = id) = true := decide_eq_true hi
      clear HT2 hi
      go_wp2_with fail
      refine (ld3 id gi e.f1 _ ((HC.out.below HB.out).below (below_alloc (Below.refl _ _) _))).mono ?_
      rintro y w2 ⟨rfl, rfl⟩
      go_wp2
      go_roundw
      case rel => exact ⟨m + 1, by omega, by go_num, ⟨by rw [HT3.out]; exact Kd.R_alloc HQ.out _⟩, ⟨below_alloc HB.out _⟩⟩
      case measure => simp [intOf]; omega
    · have HT2 := HT.out
      rw [if_neg hi] at HT2
      have HT3 := Aside0.mk HT2
      have di : decide (e.f1 = id) = false := decide_eq_false hi
      clear HT2 hi
      go_wp2_with fail
      refine (ld3 id gi e.f1 _ ((HC.out.below HB.out).below (below_alloc (Below.refl _ _) _))).mono ?_
      rintro y w2 ⟨rfl, rfl⟩
      go_wp2_with (at_builtin; go_loud (refine Kd.R_append k28 (w0 := wz) wz.heap.size rfl (.tmp 24) (.tmp 26) 36 28 (.agg #[(.int .u64 0), (.int .i64 0)]) 16 rfl Try.underlying36 info28 rfl (by decide) (by decide) u5 ((b.f1.take m).filter (fun e => decide (e.f1 ≠ id))) e [.int .u64 e.f0, .int .i64 e.f1] (fun _ => True) (fun _ => False) rfl (by simp [Act.eval]) (k28_mkM _ _ _ e) (fun _ hk => hk.elim) (fun _ _ => trivial) (Kd.R_alloc HQ.out _) (below_alloc HB.out _) (below_alloc HB.out _).size (by have := HQL.out; omega) ?_; intro v1 w3 ho1 hb1 hg1 hat1; have HQ1 := Aside0.mk ho1; have HB1 := Aside0.mk hb1; clear ho1 hb1 hg1 hat1))
      go_roundw
      case rel => exact ⟨m + 1, by omega, by go_num, ⟨by rw [HT3.out]; exact HQ1.out⟩, HB1⟩
      case measure => simp [intOf]; omega
  · obtain rfl : m = b.f1.length := by omega
    rw [List.take_length] at HQ
    have HOB : Aside0 (Kd.R k28 28 wr wz.heap.size (fun _ => True) u5 (outB id b)) := HQ
    have HOL := Aside0.mk (show (outB id b).length ≤ 1000000 from Nat.le_trans (List.length_filter_le _ _) hl)
    obtain ⟨A1, c1, e1⟩ := Kd.R_slice HOB.out
    subst e1
    have HRD := Aside0.mk (Kd.R_reads' HOB.out)
    have HOF := Aside0.mk (show block_Of.f 100 (outB id b) = some ((mkB (outB id b)).f0, (mkB (outB id b)).f1) from of_told 100 _ (by have := HOL.out; omega) (by omega))
    clear HQ
    go_wp2_with fail
    refine (block_Of.calls 100 A1 c1 (outB id b) _ _ wr HRD.out.2.2 HRD.out.2.1 HOF.out).mono ?_
    rintro y w4 ⟨v4, rfl, hv4, hb4⟩
    obtain ⟨A4, c4, rfl⟩ := Kd.V_slice hv4
    have HV4 := Aside0.mk hv4
    have HB4 := Aside0.mk (below_then HB.out HB.out.size hb4)
    have hx := (HB4.out.block _ (Array.getElem?_eq_some_iff.1 HX.out).1).trans HX.out
    have x0 : w4.cell? ⟨w.heap.size + 1, 0, none⟩ = some (.int .i64 0) := by simp [World.cell?, hx]
    have x1 : w4.cell? ⟨w.heap.size + 1, 1, none⟩ = some (.slice none 0 0) := by simp [World.cell?, hx]
    have f0 : w4.frozen? ⟨w.heap.size + 1, 0, none⟩ = false := by simp [World.frozen?, hx]
    have f1 : w4.frozen? ⟨w.heap.size + 1, 1, none⟩ = false := by simp [World.frozen?, hx]
    clear hv4 hb4 hx
    have HWZ : Aside0 (w.heap.size + 1 < wr.heap.size) := ⟨Nat.lt_of_lt_of_le (Array.getElem?_eq_some_iff.1 HX.out).1 HB.out.size⟩
    have HV5 := Aside0.mk (Kd.V_mono (Kd.V_far (Kd.V_far HV4.out (p := ⟨w.heap.size + 1, 0, none⟩) (fun k hk => by have := HWZ.out; show k ≠ w.heap.size + 1; omega) (.int .i64 (mkB (outB id b)).f0)) (p := ⟨w.heap.size + 1, 1, none⟩) (fun k hk => by have := HWZ.out; show k ≠ w.heap.size + 1; omega) (.slice A4 (mkB (outB id b)).f1.length c4)) (ok' := fun k => w.heap.size ≤ k) (fun k hk => by have := HWZ.out; omega))
    go_wp2
    exact bodyPost_ret (v := .agg #[.int .i64 (mkB (outB id b)).f0, .slice A4 (mkB (outB id b)).f1.length c4]) (by simp [results, Try.results33, go_sem, x0, x1]) rfl ⟨_, rfl, HV5.out, ((below_step HZ.out HB4.out).setCell (Nat.le_succ _) _).setCell (Nat.le_succ _) _⟩
end Go.Proofs.Ytoohkcffkhnodaa.V
end
section
set_option linter.unusedVariables false
set_option linter.unusedSimpArgs false
namespace Go.Proofs.Ytoohkcffkhnodaa.V
open Go.RowKit Go.Proofs.YtoohkcffkhnodaaW.PrintWords Go.Proofs.YtoohkcffkhnodaaW.PrintLast Go.Proofs.YtoohkcffkhnodaaW.PrintMore
theorem run_store_func (P : Program) (w : World) (a : Addr) (m : Mode) (f : Fn) (x y : Array Value) : (store a (.func f x y) m).run P w = stored P w a (.func f x y) m := run_store P w a _ m rfl
attribute [local go_sem] run_store_func
theorem drop_some {bs : List Bk} (h : Good bs) (id : Int) {i : Nat} {b : Bk} (hi : bs.findIdx? (hasB id) = some i) (hb : bs[i]? = some b) (hl : (allB bs).length ≤ 999999) :
 (dropL id bs).1 = true ∧ (outB id b = [] → Mrg (isort (bs.eraseIdx i)) (dropL id bs).2 ∧ ∀ q ∈ bs.eraseIdx i, Sound q) ∧ (outB id b ≠ [] → Mrg (isort (bs.set i (mkB (outB id b)))) (dropL id bs).2 ∧ ∀ q ∈ bs.set i (mkB (outB id b)), Sound q) := by
 have hlt := (List.getElem?_eq_some_iff.1 hb).1
 obtain ⟨h1, h2⟩ := drop_mrg h id hi hb (fun q hq => by
  obtain ⟨k, hk, rfl⟩ := List.getElem_of_mem hq
  have := allB_at_le (List.getElem?_eq_getElem hk)
  omega)
 refine ⟨by rw [h1], fun h0 => ?_, fun h0 => ?_⟩
 · rw [if_pos h0, List.append_nil] at h2
   rw [List.eraseIdx_eq_take_drop_succ]
   exact ⟨h2, fun q hq => h.snd q ((cut_out bs i).subset hq)⟩
 · rw [if_neg h0, List.append_assoc] at h2
   refine ⟨by rw [List.set_eq_take_append_cons_drop, if_pos hlt]; exact h2, fun q hq => ?_⟩
   rcases List.mem_or_eq_of_mem_set hq with hq | rfl
   · exact h.snd q hq
   · exact mkB_sound h0
theorem drop_none {bs : List Bk} {id : Int} (hi : bs.findIdx? (hasB id) = none) : dropL id bs = (false, bs) := by unfold dropL; rw [hi]
theorem isort_allB (l : List Bk) : (allB (isort l)).length = (allB l).length := ((isort_perm l).flatMap_right _).length_eq
theorem drop_len {bs : List Bk} (h : Good bs) (id : Int) (hl : (allB bs).length ≤ 999999) : (allB (dropL id bs).2).length ≤ (allB bs).length := by
 cases hi : bs.findIdx? (hasB id) with
 | none => rw [drop_none hi]; exact Nat.le_refl _
 | some i =>
  have hlt : i < bs.length := by rw [List.findIdx?_eq_some_iff_getElem] at hi; exact hi.1
  have hb := List.getElem?_eq_getElem hlt
  obtain ⟨_, h1, h2⟩ := drop_some h id hi hb hl
  have e1 : bs = bs.take i ++ bs[i] :: bs.drop (i + 1) := by
   conv => lhs; rw [← List.take_append_drop i bs, List.drop_eq_getElem_cons hlt]
  have hc : (allB bs).length = (allB (bs.take i)).length + (bs[i].f1.length + (allB (bs.drop (i + 1))).length) := by
   conv => lhs; rw [e1, allB_append, allB_cons, List.length_append, List.length_append]
  have ho : (outB id bs[i]).length ≤ bs[i].f1.length := List.length_filter_le _ _
  by_cases h0 : outB id bs[i] = []
  · rw [← mrg_all (h1 h0).1, isort_allB, List.eraseIdx_eq_take_drop_succ, allB_append, List.length_append]
    omega
  · rw [← mrg_all (h2 h0).1, isort_allB, List.set_eq_take_append_cons_drop, if_pos hlt, allB_append, allB_cons, List.length_append, List.length_append]
    have : (mkB (outB id bs[i])).f1.length = (outB id bs[i]).length := sortE_length _
    omega
set_option maxRecDepth 100000 in
set_option maxHeartbeats 8000000 in
theorem lsm_drop (base p : Nat) (v : Value) (bs : List Bk) (id : Int) (w : World) (hs : LsmAt w base p v bs) (hg : Good bs) (hn : bs.length ≤ 18) (hl : (allB bs).length ≤ 999999) :
 Calls Try.prog 19 #[.pointer (some ⟨p, 0, none⟩), .int .i64 id] w fun x w' => x = .returned (.bool (dropL id bs).1) ∧ ∃ v', LsmAt w' base p v' (dropL id bs).2 ∧ Turn w w' p v v' := by
 have hz := below_alloc (below_alloc (Below.refl w.heap.size w) (.cells #[.int .i64 id] 3)) (.cells #[.func (.func 29) #[] #[.pointer (some ⟨w.heap.size, 0, none⟩)]] 65)
 have HZ := Aside0.mk hz
 have hcf : CapF ((w.alloc (.cells #[.int .i64 id] 3)).alloc (.cells #[.func (.func 29) #[] #[.pointer (some ⟨w.heap.size, 0, none⟩)]] 65)) (w.heap.size + 1) w.heap.size id := ⟨(two_boxes w _ _).2.1, (two_boxes w _ _).1⟩
 have HCF := Aside0.mk hcf
 have HLZ := Aside0.mk (hs.below hz)
 have hpz := HLZ.out.cell
 obtain ⟨A, c, rfl, hc, hC⟩ := HLZ.out.reads
 have HC := Aside0.mk hC
 have HG := Aside0.mk hg
 have HL := Aside0.mk hl
 clear hz hcf hs hg hC hl
 go_enter Try.func19, Try.ntmps19
 go_wp2_with fail
 refine (bidx id (w.heap.size + 1) w.heap.size A c bs _ HC.out hc (by omega) (by have := HL.out; omega) HCF.out).mono ?_
 rintro y w1 ⟨rfl, hb1⟩
 have HL1 := Aside0.mk (HLZ.out.below hb1)
 have HCF1 := Aside0.mk (HCF.out.below hb1)
 have HB1 := Aside0.mk (below_step HZ.out hb1)
 clear hb1 hpz HC
 cases hf : bs.findIdx? (hasB id) with
 | none =>
  have HD := Aside0.mk (drop_none hf)
  clear hf
  rw [show idxV none = -1 from rfl]
  go_wp2
  go_ret
  exact ⟨by rw [HD.out]; rfl, _, by rw [HD.out]; exact HL1.out, Turn.of_below HB1.out p _⟩
 | some i =>
  have hlt : i < bs.length := by rw [List.findIdx?_eq_some_iff_getElem] at hf; exact hf.1
  obtain ⟨b, hb⟩ : ∃ b, bs[i]? = some b := ⟨_, List.getElem?_eq_getElem hlt⟩
  have HD := Aside0.mk (drop_some HG.out id hf hb HL.out)
  have HLF := Aside0.mk (drop_len HG.out id HL.out)
  have HBb := Aside0.mk hb
  have HI := Aside0.mk hlt
  clear hf hb
  rw [show idxV (some i) = (i : Int) from rfl]
  obtain ⟨g, cap, hv, _, hgl, _⟩ := Kd.N_form HL1.out.row (by omega)
  injection hv with e1 e2 e3
  subst e1; subst e3
  obtain ⟨A1, k1, x0, x1, xV⟩ := bk_elemV HL1.out.row HBb.out
  obtain ⟨_, _, _, _, _, _, xf⟩ := bk_elem HL1.out.row HBb.out
  have hp1 := HL1.out.cell
  have hin : i < bs.length := hlt
  have hin2 : (i : Int) < (bs.length : Int) := by omega
  have hin3 : (0 : Int) ≤ (i : Int) := by omega
  have d0 : decide ((i : Int) < 0) = false := decide_eq_false (by omega)
  have HXV := Aside0.mk xV
  have HXF := Aside0.mk xf
  have HGL := Aside0.mk (show g < w1.heap.size ∧ p < w1.heap.size ∧ g ≠ p from ⟨(HL1.out.own g rfl).2.1, HL1.out.lt, (HL1.out.own g rfl).2.2⟩)
  have HFL := Aside0.mk (show b.f1.length ≤ 1000000 by have h1 := allB_at_le HBb.out; have h2 := HL.out; omega)
  clear xV xf hgl hlt
  have HCB := Aside0.mk (Kd.C_below (Kd.V_reads' (HXV.out 0)).2.2 (below_drew (Below.refl w1.heap.size w1)))
  have HCC := Aside0.mk (Kd.V_reads' (HXV.out 0)).2.1
  have HCI := Aside0.mk (HCF1.out.2.below (below_drew (Below.refl w1.heap.size w1)))
  have HNW := Aside0.mk (show ∀ k, w1.drew.heap.size ≤ k → k ≠ p ∧ k ≠ g from fun k hk => by have h1 := HGL.out; have h2 : w1.heap.size ≤ k := hk; omega)
  go_upto_region 5 with fail
  go_cut [1] (fun s1 wx => Aside0 (LsmAt wx base p (.slice (some ⟨g, 0, none⟩) bs.length c) (bs.set i (mkB (outB id b))) ∧ Turn w wx p (.slice (some ⟨g, 0, none⟩) bs.length c) (.slice (some ⟨g, 0, none⟩) bs.length c)))
  case first =>
   go_region_with (first
    | (go_at_call 33; go_loud (refine (shrink_ld3 id w.heap.size b A1 k1 w1.drew HCB.out HCC.out HFL.out HCI.out).mono ?_; rintro y w5 ⟨v5, rfl, hv5, hb5⟩; obtain ⟨A5, c5, rfl⟩ := Kd.V_slice hv5; have HV5 := Aside0.mk hv5; have HB5 := Aside0.mk (below_step (below_drew (Below.refl w1.heap.size w1)) hb5); have n0 := pw_cell_below HB5.out x0; have n1 := pw_cell_below HB5.out x1; have np := pw_cell_below HB5.out hp1; have f0 := froz_below HB5.out HGL.out.1 (HXF.out 0); have f1 := froz_below HB5.out HGL.out.1 (HXF.out 1); rw [Nat.add_zero] at f0; have HL5 := Aside0.mk (HL1.out.below HB5.out); clear hv5 hb5)))
   all_goals (go_wp2_with fail)
   all_goals go_meet
   all_goals exact ⟨⟨(Below.heap_setCell _ ⟨g, i * 2 + 1, none⟩ _ p (fun e => HGL.out.2.2 e.symm)).trans ((Below.heap_setCell _ ⟨g, i * 2, none⟩ _ p (fun e => HGL.out.2.2 e.symm)).trans HL5.out.hd), bk_set HL5.out.row HI.out (fk_new HV5.out HNW.out), HL5.out.lo⟩, (Turn.of_below (below_step HB1.out HB5.out) p _).trans (turn_grown (set2_grown (grown_of_below (Below.refl _ _) _)))⟩
  case rest =>
   have HCT := hcut
   have HL7 := Aside0.mk HCT.out.1
   have HT7 := Aside0.mk HCT.out.2
   have hp7 := HL7.out.cell
   have hsx : (bs.set i (mkB (outB id b)))[i]? = some (mkB (outB id b)) := by rw [List.getElem?_set_self HI.out]
   obtain ⟨A6, k6, z0, z1, _, _, _⟩ := bk_elem HL7.out.row hsx
   have hxl : (mkB (outB id b)).f1.length = (outB id b).length := sortE_length _
   have HBZ := Aside0.mk (show base ≤ wc.heap.size from Nat.le_of_lt (Nat.lt_of_le_of_lt HL7.out.lo HL7.out.lt))
   have HNB := Aside0.mk (show bs.length ≤ 1000 ∧ bs.length ≤ 19 by omega)
   have HFI := Aside0.mk (show (allB (dropL id bs).2).length ≤ 1000000 from Nat.le_trans HLF.out (by have := HL.out; omega))
   clear x0 x1 hp1 hsx
   by_cases h0 : outB id b = []
   · have hM := HD.out.2.1 h0
     have HM := Aside0.mk hM
     have h00 : (mkB (outB id b)).f1.length = 0 := by rw [hxl, h0]; rfl
     rw [h00] at z1
     have HER := Aside0.mk (show (bs.set i (mkB (outB id b))).eraseIdx i = bs.eraseIdx i by
      rw [List.eraseIdx_eq_take_drop_succ, List.eraseIdx_eq_take_drop_succ, List.take_set, List.drop_set, if_pos (by omega)]
      rw [List.set_eq_of_length_le (by rw [List.length_take]; omega)])
     have HEL := Aside0.mk (show (bs.eraseIdx i).length ≤ 19 from Nat.le_trans (List.length_eraseIdx_le _ _) HNB.out.2)
     clear h0 hM h00 hxl
     go_wp2_with fail
     refine (bdel base g bs.length c i _ (bs.set i (mkB (outB id b))) _ HL7.out.row HI.out HNB.out.1 HBZ.out).mono ?_
     rintro y w8 ⟨rfl, hN8, hg8⟩
     rw [HER.out] at hN8
     have HN8 := Aside0.mk hN8
     have HG8 := Aside0.mk hg8
     have HP8 := Aside0.mk ((hg8.block p HL7.out.lt (fun e => HGL.out.2.2 (by injection e with e; exact e.symm))).trans HL7.out.hd)
     have rp : w8.cell? ⟨p, 0, none⟩ = some (.slice (some ⟨g, 0, none⟩) bs.length c) := by simp [World.cell?, HP8.out]
     have rf : w8.frozen? ⟨p, 0, none⟩ = false := by simp [World.frozen?, HP8.out]
     have HL9 := Aside0.mk (show LsmAt (w8.setCell ⟨p, 0, none⟩ (.slice (some ⟨g, 0, none⟩) (bs.length - 1) c)) base p (.slice (some ⟨g, 0, none⟩) (bs.length - 1) c) (bs.eraseIdx i) from ⟨cells_set0 p w8 _ _ _ HP8.out, Kd.N_far HN8.out (fun k hk => hk) _, HL7.out.lo⟩)
     clear hN8 hg8 z0 z1
     go_wp2_with fail
     refine (lsm_merge base p _ (bs.eraseIdx i) (dropL id bs).2 _ HL9.out HM.out.2 HM.out.1 HEL.out HFI.out).mono ?_
     rintro y w9 ⟨rfl, v9, hl9, ht9⟩
     have HR := Aside0.mk (show LsmAt w9 base p v9 (dropL id bs).2 ∧ Turn w w9 p (.slice (some ⟨g, 0, none⟩) bs.length c) v9 from ⟨hl9, ((HT7.out.trans (turn_grown HG8.out)).trans (turn_head (u := .slice (some ⟨g, 0, none⟩) (bs.length - 1) c) (.inl rfl))).trans ht9⟩)
     clear hl9 ht9
     go_wp2
     go_ret
     exact ⟨by rw [HD.out.1]; rfl, v9, HR.out.1, HR.out.2⟩
   · have hM := HD.out.2.2 h0
     have HM := Aside0.mk hM
     have hpos : 0 < (outB id b).length := by
      cases hq : outB id b with
      | nil => exact absurd hq h0
      | cons _ _ => simp
     have q1 : (((mkB (outB id b)).f1.length : Int) == 0) = false := by rw [beq_eq_false_iff_ne]; omega
     have q2 : decide ((mkB (outB id b)).f1.length = 0) = false := decide_eq_false (by omega)
     have q3 : decide ((mkB (outB id b)).f1 = []) = false := decide_eq_false (by intro e; rw [e] at hxl; simp at hxl; omega)
     have q4 : ¬ ((mkB (outB id b)).f1 = []) := by intro e; rw [e] at hxl; simp at hxl; omega
     have HSL := Aside0.mk (show (bs.set i (mkB (outB id b))).length ≤ 19 by rw [List.length_set]; exact HNB.out.2)
     clear h0 hM hxl hpos
     go_wp2_with fail
     refine (lsm_merge base p _ (bs.set i (mkB (outB id b))) (dropL id bs).2 _ HL7.out HM.out.2 HM.out.1 HSL.out HFI.out).mono ?_
     rintro y w9 ⟨rfl, v9, hl9, ht9⟩
     have HR := Aside0.mk (show LsmAt w9 base p v9 (dropL id bs).2 ∧ Turn w w9 p (.slice (some ⟨g, 0, none⟩) bs.length c) v9 from ⟨hl9, HT7.out.trans ht9⟩)
     clear hl9 ht9 q1 q2 q3 q4 z0 z1
     go_wp2
     go_ret
     exact ⟨by rw [HD.out.1]; rfl, v9, HR.out.1, HR.out.2⟩
end Go.Proofs.Ytoohkcffkhnodaa.V
end
section
set_option linter.unusedVariables false
set_option linter.unusedSimpArgs false
namespace Go.Proofs.Ytoohkcffkhnodaa.V
open Go.RowKit Go.Proofs.YtoohkcffkhnodaaW.PrintWords Go.Proofs.YtoohkcffkhnodaaW.PrintLast Go.Proofs.YtoohkcffkhnodaaW.PrintMore
theorem mrg_good {fin : List Bk} : ∀ (d : Nat) (cur : List Bk), cur.length = d → Mrg cur fin → (allB cur).length < 1000000000 → Good fin := by
 intro d
 induction d with
 | zero =>
  intro cur hd hm _
  obtain rfl := List.length_eq_zero_iff.1 hd
  exact (hm.done (by simp)).1 ▸ (hm.done (by simp)).2
 | succ d ih =>
  intro cur hd hm hl
  by_cases hn : ∀ i a b, cur[i]? = some a → cur[i + 1]? = some b → a.f0 ≠ b.f0
  · have := hm.done hn
    rw [this.1]
    exact this.2
  · obtain ⟨i, hn⟩ := Classical.not_forall.1 hn
    obtain ⟨a, hn⟩ := Classical.not_forall.1 hn
    obtain ⟨b, hn⟩ := Classical.not_forall.1 hn
    have ha : cur[i]? = some a := Classical.byContradiction fun h => hn (fun h1 => absurd h1 h)
    have hb : cur[i + 1]? = some b := Classical.byContradiction fun h => hn (fun _ h1 => absurd h1 h)
    have he : a.f0 = b.f0 := Classical.byContradiction fun h => hn (fun _ _ => h)
    obtain ⟨h1, rfl⟩ := List.getElem?_eq_some_iff.1 ha
    obtain ⟨h2, rfl⟩ := List.getElem?_eq_some_iff.1 hb
    have e1 : cur = cur.take i ++ cur[i] :: cur[i + 1] :: cur.drop (i + 2) := by
     conv => lhs; rw [← List.take_append_drop i cur, List.drop_eq_getElem_cons h1, List.drop_eq_getElem_cons h2]
    have hall : (allB cur).length = (allB (cur.take i ++ joinB cur[i] cur[i + 1] :: cur.drop (i + 2))).length := by
     conv => lhs; rw [e1]
     simp only [allB_append, allB_cons, List.length_append]
     rw [(joinB_all cur[i] cur[i + 1]).length_eq, List.length_append]
     omega
    have hab : cur[i].f1.length + cur[i + 1].f1.length < 1000000000 := by
     have : (allB cur).length = (allB (cur.take i)).length + (cur[i].f1.length + (cur[i + 1].f1.length + (allB (cur.drop (i + 2))).length)) := by
      conv => lhs; rw [e1]
      simp only [allB_append, allB_cons, List.length_append]
     omega
    refine ih (cur.take i ++ joinB cur[i] cur[i + 1] :: cur.drop (i + 2)) ?_ (hm.step ha hb he hab) (by omega)
    simp only [List.length_append, List.length_take, List.length_cons, List.length_drop]
    omega
theorem good_few : ∀ {bs : List Bk} {m : Nat}, Desc bs → (∀ b ∈ bs, 0 ≤ b.f0) → (∀ b ∈ bs, b.f0 < (m : Int)) → bs.length ≤ m := by
 intro bs
 induction bs with
 | nil => intro m _ _ _; simp
 | cons b bs ih =>
  intro m hd h0 h1
  rw [Desc, List.pairwise_cons] at hd
  have b0 := h0 b (by simp)
  have b1 := h1 b (by simp)
  have := ih (m := b.f0.toNat) hd.2 (fun q hq => h0 q (by simp [hq])) (fun q hq => by have := hd.1 q hq; omega)
  rw [List.length_cons]
  omega
theorem good_len {bs : List Bk} (h : Good bs) (hl : (allB bs).length ≤ 1000) : bs.length ≤ 11 := by
 refine good_few h.desc (fun b hb => by rw [(h.snd b hb).lv]; omega) (fun b hb => ?_)
 rw [(h.snd b hb).lv]
 obtain ⟨i, hi, rfl⟩ := List.getElem_of_mem hb
 have h1 := allB_at_le (List.getElem?_eq_getElem hi)
 have h2 := lev_mono (a := (bs[i].f1.length : Int)) (b := 1000) (by omega) (by omega)
 have h3 : lev 1000 = 10 := by decide
 omega
def Unlike (l : List E) : Prop := (l.map fun e => e.f1).Nodup
theorem Unlike.perm {l m : List E} (h : Unlike l) (hp : l.Perm m) : Unlike m := (hp.map _).nodup_iff.1 h
theorem Unlike.sub {l m : List E} (h : Unlike l) (hs : m.Sublist l) : Unlike m := List.Nodup.sublist (hs.map _) h
theorem filter_id {l : List E} {id : Int} (h : ∀ e ∈ l, e.f1 ≠ id) : (l.filter fun e => decide (e.f1 ≠ id)) = l := List.filter_eq_self.2 (fun e he => by simpa using h e he)
namespace LOk
variable {w0 wr w2 : World} {p : Nat} {v : Value} {bs : List Bk} {ls : List Int} {es : List E}
theorem few (h : LOk w0 wr p v bs ls es) (hl : es.length ≤ 1000) : bs.length ≤ 18 ∧ ls.length ≤ 18 := by
 have h1 := good_len h.good (by have := h.cnt; omega)
 have := h.len
 omega
theorem any (h : LOk w0 wr p v bs ls es) : LOk w0 wr p v bs (lvls bs) es := ⟨h.hat, h.good, rfl, h.all, h.bel⟩
theorem perm (h : LOk w0 wr p v bs ls es) {fs : List E} (hp : es.Perm fs) : LOk w0 wr p v bs ls fs := ⟨h.hat, h.good, h.lv, h.all.trans hp, h.bel⟩
end LOk
theorem put_okA {w0 wr : World} {p : Nat} {v : Value} {bs : List Bk} {ls : List Int} {es : List E} (h : LOk w0 wr p v bs ls es) (e : E) (hl : es.length ≤ 1000) :
 Calls Try.prog 9 #[.pointer (some ⟨p, 0, none⟩), .agg #[.int .u64 e.f0, .int .i64 e.f1]] wr fun x w2 => x = .returned (.tuple #[]) ∧ ∃ v2 bs2, LOk w0 w2 p v2 bs2 (lvls bs2) (e :: es) := by
 refine (put_ok h e hl (h.few hl).2).mono ?_
 rintro x w2 ⟨rfl, v2, bs2, h2⟩
 exact ⟨rfl, v2, bs2, h2.any⟩
end Go.Proofs.Ytoohkcffkhnodaa.V
end
section
set_option linter.unusedVariables false
set_option linter.unusedSimpArgs false
namespace Go.Proofs.Ytoohkcffkhnodaa.V
open Go.RowKit Go.Proofs.YtoohkcffkhnodaaW.PrintWords Go.Proofs.YtoohkcffkhnodaaW.PrintLast Go.Proofs.YtoohkcffkhnodaaW.PrintMore
theorem drop_good {bs : List Bk} (h : Good bs) (id : Int) (hl : (allB bs).length ≤ 999999) : Good (dropL id bs).2 := by
 cases hi : bs.findIdx? (hasB id) with
 | none => rw [drop_none hi]; exact h
 | some i =>
  have hlt : i < bs.length := by rw [List.findIdx?_eq_some_iff_getElem] at hi; exact hi.1
  have hb := List.getElem?_eq_getElem hlt
  have hd := drop_len h id hl
  obtain ⟨_, h1, h2⟩ := drop_some h id hi hb hl
  by_cases h0 : outB id bs[i] = []
  · have hm := (h1 h0).1
    exact mrg_good _ _ rfl hm (by rw [← hm.all.length_eq]; omega)
  · have hm := (h2 h0).1
    exact mrg_good _ _ rfl hm (by rw [← hm.all.length_eq]; omega)
theorem drop_all {bs : List Bk} (h : Good bs) (id : Int) (hu : Unlike (allB bs)) (hl : (allB bs).length ≤ 999999) :
 (dropL id bs).1 = ((allB bs).any fun e => decide (e.f1 = id)) ∧ (allB (dropL id bs).2).Perm ((allB bs).filter fun e => decide (e.f1 ≠ id)) := by
 cases hi : bs.findIdx? (hasB id) with
 | none =>
  rw [drop_none hi]
  have hn : ∀ e ∈ allB bs, e.f1 ≠ id := by
   intro e he h1
   obtain ⟨b, hb, heb⟩ := List.mem_flatMap.1 he
   have := (List.findIdx?_eq_none_iff.1 hi) b hb
   simp [hasB] at this
   exact this e heb h1
  refine ⟨?_, by rw [filter_id hn]⟩
  symm
  simpa using hn
 | some i =>
  rw [List.findIdx?_eq_some_iff_getElem] at hi
  obtain ⟨hlt, hhas, hbefore⟩ := hi
  have hi : bs.findIdx? (hasB id) = some i := by rw [List.findIdx?_eq_some_iff_getElem]; exact ⟨hlt, hhas, hbefore⟩
  have hb := List.getElem?_eq_getElem hlt
  obtain ⟨h0, h1, h2⟩ := drop_some h id hi hb hl
  have e1 : bs = bs.take i ++ bs[i] :: bs.drop (i + 1) := by
   conv => lhs; rw [← List.take_append_drop i bs, List.drop_eq_getElem_cons hlt]
  have e2 : allB bs = allB (bs.take i) ++ (bs[i].f1 ++ allB (bs.drop (i + 1))) := by
   conv => lhs; rw [e1, allB_append, allB_cons]
  obtain ⟨x, hx, hxi⟩ : ∃ x ∈ bs[i].f1, x.f1 = id := by simpa [hasB] using hhas
  have t1 : (allB (bs.take i)).filter (fun e => decide (e.f1 ≠ id)) = allB (bs.take i) := by
   refine filter_id ?_
   intro e he h3
   obtain ⟨b, hb, heb⟩ := List.mem_flatMap.1 he
   obtain ⟨j, hj, rfl⟩ := List.getElem_of_mem hb
   rw [List.length_take] at hj
   have := hbefore j (by omega)
   rw [List.getElem_take] at heb
   simp [hasB] at this
   exact this e heb h3
  have t2 : (allB (bs.drop (i + 1))).filter (fun e => decide (e.f1 ≠ id)) = allB (bs.drop (i + 1)) := by
   refine filter_id ?_
   intro e he h3
   rw [e2] at hu
   have hu2 := hu.sub (List.sublist_append_right _ _)
   unfold Unlike at hu2
   rw [List.map_append, List.nodup_append] at hu2
   exact hu2.2.2 x.f1 (List.mem_map_of_mem hx) e.f1 (List.mem_map_of_mem he) (by rw [hxi, h3])
  have e3 : (allB bs).filter (fun e => decide (e.f1 ≠ id)) = allB (bs.take i) ++ (outB id bs[i] ++ allB (bs.drop (i + 1))) := by
   rw [e2, List.filter_append, List.filter_append, t1, t2]
   rfl
  refine ⟨?_, ?_⟩
  · rw [h0]
    symm
    rw [List.any_eq_true]
    exact ⟨x, by rw [e2]; simp [hx], by simpa using hxi⟩
  · rw [e3]
    by_cases h4 : outB id bs[i] = []
    · refine (h1 h4).1.all.trans ?_
      refine ((isort_perm _).flatMap_right _).trans ?_
      rw [h4, List.eraseIdx_eq_take_drop_succ]
      show (allB _).Perm _
      rw [allB_append]
      exact List.Perm.refl _
    · refine (h2 h4).1.all.trans ?_
      refine ((isort_perm _).flatMap_right _).trans ?_
      rw [List.set_eq_take_append_cons_drop, if_pos hlt]
      show (allB _).Perm _
      rw [allB_append, allB_cons]
      refine List.Perm.append_left _ (List.Perm.append_right _ ?_)
      exact sortE_perm _
end Go.Proofs.Ytoohkcffkhnodaa.V
end
section
set_option linter.unusedVariables false
set_option linter.unusedSimpArgs false
namespace Go.Proofs.Ytoohkcffkhnodaa.V
open Go.BigFrame
open Go.RowKit Go.Proofs.YtoohkcffkhnodaaW.PrintWords Go.Proofs.YtoohkcffkhnodaaW.PrintLast Go.Proofs.YtoohkcffkhnodaaW.PrintMore
theorem tail_quiet {P : Program} {h1 h2 : Oper} {l : List Oper} {listed : Array Bool} {a : Act} {w : World} {Q' : Exit → Act → World → Prop} (hs : Region.noSelect (h1 :: h2 :: l).toArray = true) (hB : Region.lexFrom .any (h1 :: h2 :: l).toArray l.length 2 listed = true)
 (h : wpQuiet P (h1 :: h2 :: l).toArray (fun w' => ∃ n, w' = w.drewN n) (fun a' => ∀ w', (∃ n, w' = w.drewN n) → Q' .normal a' w') l a) : wpAny P .any (h1 :: h2 :: l).toArray Q' l.length listed a w :=
 wpAny_of_quiet (C := fun w' => ∃ n, w' = w.drewN n) (Q := fun a' => ∀ w', (∃ n, w' = w.drewN n) → Q' .normal a' w') (fun _ w' hw' h => h w' hw') _ _ _ _ ⟨0, rfl⟩
  (wpAnyQ_lex hs l 2 listed a (fun j => by simp [Nat.add_comm 2 j]) hB h)
theorem ok_sound {b : Bk} (h : Sound b) (hl : b.f1.length ≤ 1000000) : block_Block_Ok.f 2000000 b.f0 b.f1 = some true := by
 have := blockok_of 2000000 b.f1 (by omega) (by omega)
 rwa [sortE_of_sorted h.up, ← h.lv] at this
set_option maxRecDepth 100000 in
set_option maxHeartbeats 2000000 in
theorem lsm_check (base p : Nat) (v : Value) (bs : List Bk) (w : World) (hs : LsmAt w base p v bs) (hg : Good bs) (hn : bs.length ≤ 100) (hl : (allB bs).length ≤ 1000000) :
 Calls Try.prog 12 #[.pointer (some ⟨p, 0, none⟩)] w fun e w' => e = .returned (.int .i64 0) ∧ Below w.heap.size w w' := by
 obtain ⟨A, c, rfl, hc, hC⟩ := hs.reads
 have hp := hs.cell
 have HC := Aside0.mk hC
 have HG := Aside0.mk hg
 have HP := Aside0.mk hp
 clear hC hs hg
 go_enter Try.func12, Try.ntmps12
 go_wp2
 go_loopw [10] (fun i wr => ∃ m : Nat, m ≤ bs.length ∧ i = .int .i64 m ∧ Aside0 (Below w.heap.size w wr)) (fun i _ => bs.length - (intOf i).toNat)
 case atStart => exact ⟨0, Nat.zero_le _, rfl, ⟨Below.refl _ _⟩⟩
 case round =>
  obtain ⟨m, hm, rfl, HB⟩ := hrel
  by_cases hlt : m < bs.length
  · obtain ⟨b, hb⟩ : ∃ b, bs[m]? = some b := ⟨_, List.getElem?_eq_getElem hlt⟩
    obtain ⟨ad, A1, c1, rfl, e2, e3, e4, e5⟩ := bk_at (Kd.C_below HC.out HB.out) hb
    have hle := allB_at_le hb
    have HK := Aside0.mk (ok_sound (HG.out.snd b (List.mem_of_getElem? hb)) (by omega))
    have hne : decide (b.f1 = []) = false := decide_eq_false (HG.out.snd b (List.mem_of_getElem? hb)).ne
    have hne3 : ((b.f1.length : Int) == 0) = false := by
     have := (HG.out.snd b (List.mem_of_getElem? hb)).pos
     rw [beq_eq_false_iff_ne]; omega
    have hne2 : ¬ b.f1 = [] := (HG.out.snd b (List.mem_of_getElem? hb)).ne
    have HE := Aside0.mk (Kd.C_below e5 (below_drew (below_alloc (Below.refl wr.heap.size wr) (.cells #[.int .i64 b.f0, .slice A1 b.f1.length c1] 61))))
    have HX := Aside0.mk (heap_alloc_new wr (.cells #[.int .i64 b.f0, .slice A1 b.f1.length c1] 61))
    have HL := Aside0.mk e4
    have HBD := Aside0.mk (below_drew (below_alloc HB.out (.cells #[.int .i64 b.f0, .slice A1 b.f1.length c1] 61)))
    clear e5 hle
    by_cases h0 : m = 0
    · have d0 : decide (0 < m) = false := decide_eq_false (by omega)
      have d1 : decide ((m : Int) > 0) = false := decide_eq_false (by omega)
      have d2 : decide (0 < (m : Int)) = false := decide_eq_false (by omega)
      clear hb h0
      go_wp2
      refine wp_region_any (by kernel_rfl) ?_
      change wpAny _ _ _ _ _ _ _ (World.drew _)
      refine wpAny_ready (rs := [0]) (by kernel_rfl) (by simp) ?_
      refine AllReady.cons rfl (fun K hK => ?_) AllReady.nil
      have x0 : (wr.alloc (.cells #[.int .i64 b.f0, .slice A1 b.f1.length c1] 61)).cell? ⟨wr.heap.size, 0, none⟩ = some (.int .i64 b.f0) := by simp [World.cell?_alloc_new]
      have x1 : (wr.alloc (.cells #[.int .i64 b.f0, .slice A1 b.f1.length c1] 61)).cell? ⟨wr.heap.size, 1, none⟩ = some (.slice A1 b.f1.length c1) := by simp [World.cell?_alloc_new]
      go_simp
      refine hK _ _ ?_
      clear hK K
      refine wpAny_ready (rs := [1]) (by kernel_rfl) (by simp) ?_
      refine AllReady.cons rfl (fun K hK => ?_) AllReady.nil
      go_simp
      refine (block_Block_Ok.calls 2000000 _ _ _ _ true _ HE.out HL.out HK.out).mono ?_
      rintro e w1 ⟨rfl, hb1⟩
      have hh1 := (hb1.block _ (by simp : wr.heap.size < _)).trans HX.out
      have y0 : w1.cell? ⟨wr.heap.size, 0, none⟩ = some (.int .i64 b.f0) := by simp [World.cell?, hh1]
      have y1 : w1.cell? ⟨wr.heap.size, 1, none⟩ = some (.slice A1 b.f1.length c1) := by simp [World.cell?, hh1]
      clear hh1
      have HB1 := Aside0.mk (below_step HBD.out hb1)
      clear hb1 x0 x1
      go_wp2_with fail
      refine tail_quiet (by kernel_rfl) (by kernel_rfl) ?_
      repeat (go_big_quiet_step (fail))
      refine wpQuiet_nil ?_
      intro _ hw'
      obtain ⟨nq, hw''⟩ := hw'
      subst hw''
      go_wp2
      go_roundw
      case rel => exact ⟨m + 1, by omega, by go_num, ⟨pw_below_drewN HB1.out _⟩⟩
      case measure => simp [intOf]; omega
    · obtain ⟨q, rfl⟩ : ∃ q, m = q + 1 := ⟨m - 1, by omega⟩
      obtain ⟨a, ha⟩ : ∃ a, bs[q]? = some a := ⟨_, List.getElem?_eq_getElem (by omega)⟩
      obtain ⟨ad', A2, c2, e1, f2, f3, f4, f5⟩ := bk_at (Kd.C_below HC.out HB.out) ha
      injection e1 with e1
      subst e1
      have hab : decide (a.f0 ≤ b.f0) = false := by
       obtain ⟨h1, rfl⟩ := List.getElem?_eq_some_iff.1 ha
       obtain ⟨h2, rfl⟩ := List.getElem?_eq_some_iff.1 hb
       have := List.pairwise_iff_getElem.1 HG.out.desc q (q + 1) h1 h2 (by omega)
       exact decide_eq_false (by omega)
      have d0 : decide (0 < q + 1) = true := decide_eq_true (by omega)
      have d1 : decide (((q + 1 : Nat) : Int) > 0) = true := decide_eq_true (by omega)
      have hpw := pw_cell_below HB.out HP.out
      have HZ0 := Aside0.mk hpw
      have HZ1 := Aside0.mk f2
      clear ha hb h0 f3 f4 f5
      go_wp2
      have x0 : (wr.alloc (.cells #[.int .i64 b.f0, .slice A1 b.f1.length c1] 61)).cell? ⟨wr.heap.size, 0, none⟩ = some (.int .i64 b.f0) := by simp [World.cell?_alloc_new]
      have x1 : (wr.alloc (.cells #[.int .i64 b.f0, .slice A1 b.f1.length c1] 61)).cell? ⟨wr.heap.size, 1, none⟩ = some (.slice A1 b.f1.length c1) := by simp [World.cell?_alloc_new]
      have x2 := pw_cell_below (below_alloc (Below.refl wr.heap.size wr) (.cells #[.int .i64 b.f0, .slice A1 b.f1.length c1] 61)) HZ0.out
      have x3 := pw_cell_below (below_alloc (Below.refl wr.heap.size wr) (.cells #[.int .i64 b.f0, .slice A1 b.f1.length c1] 61)) HZ1.out
      have hq1 : q < bs.length := by omega
      have hq2 : (q : Int) < (bs.length : Int) := by omega
      have s3 : IntKind.i64.wrap (q : Int) = (q : Int) := IntWalk.i64_in _ (by omega)
      have s4 : (0 : Int) ≤ (q : Int) := by omega
      have s1 : IntKind.i64.wrap ((q : Int) + 1 - 1) = (q : Int) := by rw [show (q : Int) + 1 - 1 = (q : Int) by omega]; exact IntWalk.i64_in _ (by omega)
      have s2 : IntKind.i64.wrap (((q + 1 : Nat) : Int) - 1) = (q : Int) := by rw [show ((q + 1 : Nat) : Int) - 1 = (q : Int) by omega]; exact IntWalk.i64_in _ (by omega)
      go_region_held3 (fun W => W.cell? ⟨wr.heap.size, 0, none⟩ = some (.int .i64 b.f0) ∧ W.cell? ⟨wr.heap.size, 1, none⟩ = some (.slice A1 b.f1.length c1) ∧ W.cell? ⟨p, 0, none⟩ = some (.slice (some ad) bs.length c) ∧ W.cell? (ad.add (q * 2)) = some (.int .i64 a.f0) ∧ Aside0 (Below w.heap.size w W)) (first | exact ⟨x0, x1, x2, x3, HBD⟩ | exact ⟨y0, y1, y2, y3, HB1⟩)
       (first | (go_at_call 27; go_loud (refine (block_Block_Ok.calls 2000000 _ _ _ _ true _ HE.out HL.out HK.out).mono ?_; rintro e w1 ⟨rfl, hb1⟩; have hh1 := (hb1.block _ (by simp : wr.heap.size < _)).trans HX.out; have y0 : w1.cell? ⟨wr.heap.size, 0, none⟩ = some (.int .i64 b.f0) := (by simp [World.cell?, hh1]); have y1 : w1.cell? ⟨wr.heap.size, 1, none⟩ = some (.slice A1 b.f1.length c1) := (by simp [World.cell?, hh1]); clear hh1; have y2 : w1.cell? ⟨p, 0, none⟩ = some (.slice (some ad) bs.length c) := pw_cell_below hb1 x2; have y3 : w1.cell? (ad.add (q * 2)) = some (.int .i64 a.f0) := pw_cell_below hb1 x3; have HB1 := Aside0.mk (below_step HBD.out hb1); clear hb1)))
      all_goals go_wp2
      all_goals go_roundw
      case rel => exact ⟨q + 1 + 1, by omega, by go_num, HB1⟩
      case measure => simp [intOf]; omega
  · obtain rfl : m = bs.length := by omega
    go_wp2
    go_ret
    exact ⟨rfl, HB.out⟩
end Go.Proofs.Ytoohkcffkhnodaa.V
end
section
set_option linter.unusedVariables false
set_option linter.unusedSimpArgs false
namespace Go.Proofs.Ytoohkcffkhnodaa.V
open Go.RowKit Go.Proofs.YtoohkcffkhnodaaW.PrintWords Go.Proofs.YtoohkcffkhnodaaW.PrintLast Go.Proofs.YtoohkcffkhnodaaW.PrintMore
theorem clip_int (A : Option Addr) (n c : Nat) (w : World) (hl : n ≤ c) (hm : n ≤ 9223372036854775807) :
 Calls Try.prog 26 #[.slice A n c] w fun e w' => e = .returned (.slice A n n) ∧ w = w' := by
 go_enter Try.func26, Try.ntmps26
 go_wp2
 go_ret
 exact ⟨rfl, rfl⟩
set_option maxRecDepth 100000 in
set_option maxHeartbeats 2000000 in
theorem lsm_levels (base p : Nat) (v : Value) (bs : List Bk) (w : World) (hs : LsmAt w base p v bs) (hn : bs.length ≤ 100) :
 Calls Try.prog 10 #[.pointer (some ⟨p, 0, none⟩)] w fun e w' => ∃ v0_ : Value, e = .returned (v0_) ∧ Kd.V (Kd.int .i64) 3 w' w.heap.size (fun k_ => (w.heap.size ≤ k_)) v0_ (bs.map fun b => b.f0) ∧ Below w.heap.size w w' := by
 obtain ⟨A, c, rfl, hc, hC⟩ := hs.reads
 have hp := hs.cell
 have HC := Aside0.mk hC
 clear hC hs
 go_enter Try.func10, Try.ntmps10
 go_wp2
 go_loopw [3, 11] (fun s i wr => ∃ m : Nat, m ≤ bs.length ∧ i = .int .i64 m ∧ Aside0 (Kd.R (Kd.int .i64) 3 wr w.heap.size (fun _ => True) s ((bs.take m).map fun b => b.f0)) ∧ Aside0 (Below w.heap.size w wr)) (fun _ i _ => bs.length - (intOf i).toNat)
 case atStart => exact ⟨0, Nat.zero_le _, rfl, ⟨Kd.R_nil _ _ _ _ _⟩, ⟨Below.refl _ _⟩⟩
 case round =>
  obtain ⟨m, hm, rfl, HR, HB⟩ := hrel
  by_cases hlt : m < bs.length
  · obtain ⟨b, hb⟩ : ∃ b, bs[m]? = some b := ⟨_, List.getElem?_eq_getElem hlt⟩
    obtain ⟨ad, A1, c1, rfl, e2, e3, e4, e5⟩ := bk_at (Kd.C_below HC.out HB.out) hb
    have HT := Aside0.mk (show (bs.take (m + 1)).map (fun b => b.f0) = (bs.take m).map (fun b => b.f0) ++ [b.f0] by obtain ⟨h1, rfl⟩ := List.getElem?_eq_some_iff.1 hb; rw [List.take_succ_eq_append_getElem h1, List.map_append]; rfl)
    have hle : ((bs.take m).map (fun b => b.f0)).length ≤ 100 := by rw [List.length_map, List.length_take]; omega
    clear hb e5
    go_wp2_with (at_builtin; go_loud (refine Kd.R_append (Kd.int .i64) (w0 := w) w.heap.size rfl (.tmp 15) (.tmp 18) 29 3 (.int .i64 0) 8 rfl Try.underlying29 info3 rfl (by decide) (by decide) u3 ((bs.take m).map fun b => b.f0) b.f0 [.int .i64 b.f0] (fun _ => True) (fun _ => False) rfl ?aX ?aP (fun _ hk => hk.elim) ?aF ?aO ?aB ?aS ?aL ?_; (case aX => simp [Act.eval]); (case aP => exact rfl); (case aF => exact fun _ _ => trivial); (case aO => exact Kd.R_alloc HR.out _); (case aB => exact below_alloc HB.out _); (case aS => exact (below_alloc HB.out _).size); (case aL => omega); intro v1 w1 ho1 hb1 hg1 hat1; have HR1 := Aside0.mk ho1; have HB1 := Aside0.mk hb1; clear ho1 hb1 hg1 hat1))
    go_roundw
    case rel => exact ⟨m + 1, by omega, by go_num, ⟨by rw [HT.out]; exact HR1.out⟩, HB1⟩
    case measure => simp [intOf]; omega
  · obtain rfl : m = bs.length := by omega
    rw [List.take_length] at HR
    obtain ⟨A1, c1, e1⟩ := Kd.R_slice HR.out
    subst e1
    have HC1 := Aside0.mk (show bs.length ≤ c1 by have := (Kd.R_reads' HR.out).2.1; rwa [List.length_map] at this)
    have HM := Aside0.mk (show bs.length ≤ 9223372036854775807 by omega)
    have HV := Aside0.mk (show Kd.V (Kd.int .i64) 3 wr w.heap.size (fun k_ => (w.heap.size ≤ k_)) (.slice A1 bs.length bs.length) (bs.map fun b => b.f0) by
     have h1 : Kd.R (Kd.int .i64) 3 wr w.heap.size (fun _ => True) (.slice A1 bs.length c1) (bs.map fun b => b.f0) := by have := HR.out; rwa [List.length_map] at this
     exact Kd.RC_Vbase (Kd.RC_cut h1 (Nat.le_refl _) HC1.out))
    clear HR
    go_wp2_with fail
    refine (clip_int A1 bs.length c1 _ HC1.out HM.out).mono ?_
    rintro e w2 ⟨rfl, rfl⟩
    go_wp2
    go_ret
    exact ⟨_, rfl, HV.out, HB.out⟩
end Go.Proofs.Ytoohkcffkhnodaa.V
end
section
set_option linter.unusedVariables false
set_option linter.unusedSimpArgs false
namespace Go.Proofs.Ytoohkcffkhnodaa.V
open Go.RowKit Go.Proofs.YtoohkcffkhnodaaW.PrintWords Go.Proofs.YtoohkcffkhnodaaW.PrintLast Go.Proofs.YtoohkcffkhnodaaW.PrintMore
theorem sorted3 : SortedE ([⟨6, 3⟩, ⟨7, 2⟩, ⟨8, 1⟩] : List E) := by
 simp [SortedE, leE, ltE]
set_option maxRecDepth 100000 in
set_option maxHeartbeats 4000000 in
theorem awake7 (w : World) : Calls Try.prog 13 #[] w fun e w' => e = .returned (.bool true) ∧ Below w.heap.size w w' := by
 go_enter Try.func13, Try.ntmps13
 go_wp2_with fail
 refine (new_ok w).mono ?_
 rintro x w1 ⟨rfl, hk1⟩
 have HK1 := Aside0.mk hk1
 clear hk1
 go_wp2_with fail
 go_loopw [2] (fun i wr => ∃ (j : Int) (v : Value) (bs : List Bk), i = .int .i64 j ∧ ((j = 1 ∧ Aside0 (LOk w wr w.heap.size v bs [] [])) ∨ (j = 2 ∧ Aside0 (LOk w wr w.heap.size v bs (lvN 1) [⟨8, 1⟩])) ∨ (j = 3 ∧ Aside0 (LOk w wr w.heap.size v bs (lvN 2) [⟨7, 2⟩, ⟨8, 1⟩])) ∨ (j = 4 ∧ Aside0 (LOk w wr w.heap.size v bs (lvN 3) [⟨6, 3⟩, ⟨7, 2⟩, ⟨8, 1⟩])))) (fun i _ => (5 - intOf i).toNat)
 case atStart => exact ⟨1, _, _, rfl, .inl ⟨rfl, HK1⟩⟩
 case round =>
  obtain ⟨j, v, bs, rfl, hj⟩ := hrel
  rcases hj with ⟨rfl, HK⟩ | ⟨rfl, HK⟩ | ⟨rfl, HK⟩ | ⟨rfl, HK⟩
  · go_wp2_with fail
    refine (put_ok HK.out ⟨8, 1⟩ (by simp) (by simp)).mono ?_
    rintro x w2 ⟨rfl, v2, bs2, hk2⟩
    have HK2 := Aside0.mk hk2
    clear hk2
    go_wp2
    go_roundw
    case rel => exact ⟨2, v2, bs2, rfl, .inr (.inl ⟨rfl, HK2⟩)⟩
    case measure => simp [intOf]
  · go_wp2_with fail
    refine (put_ok HK.out ⟨7, 2⟩ (by simp) (by decide)).mono ?_
    rintro x w2 ⟨rfl, v2, bs2, hk2⟩
    have HK2 := Aside0.mk hk2
    clear hk2
    go_wp2
    go_roundw
    case rel => exact ⟨3, v2, bs2, rfl, .inr (.inr (.inl ⟨rfl, HK2⟩))⟩
    case measure => simp [intOf]
  · go_wp2_with fail
    refine (put_ok HK.out ⟨6, 3⟩ (by simp) (by decide)).mono ?_
    rintro x w2 ⟨rfl, v2, bs2, hk2⟩
    have HK2 := Aside0.mk hk2
    clear hk2
    go_wp2
    go_roundw
    case rel => exact ⟨4, v2, bs2, rfl, .inr (.inr (.inr ⟨rfl, HK2⟩))⟩
    case measure => simp [intOf]
  · have hlen := HK.out.len
    have hcnt := HK.out.cnt
    have hl3 : lvN 3 = [1, 0] := by decide
    have hlv := HK.out.lv
    rw [hl3] at hlv hlen
    have HLV := Aside0.mk hlv
    have HLEN := Aside0.mk (show bs.length ≤ 100 ∧ (allB bs).length ≤ 1000000 by simp at hlen hcnt; omega)
    have HCNT := Aside0.mk (show (allB bs).length = 3 from hcnt)
    have hso : sortE (allB bs) = [⟨6, 3⟩, ⟨7, 2⟩, ⟨8, 1⟩] := by rw [sortE_of_perm HK.out.all]; exact sortE_of_sorted sorted3
    have HSO := Aside0.mk hso
    clear hlen hcnt hlv hl3 hso
    go_wp2_with fail
    refine (lsm_min w.heap.size w.heap.size v bs _ HK.out.hat HLEN.out.1 HLEN.out.2).mono ?_
    rintro x w3 ⟨rfl, hb3⟩
    rw [HSO.out]
    rw [show minV ([⟨6, 3⟩, ⟨7, 2⟩, ⟨8, 1⟩] : List E) = (.agg #[.int .u64 6, .int .i64 3], true) from rfl]
    have HK3 := Aside0.mk (HK.out.below (below_step hb3 (below_alloc (Below.refl _ _) (.cells #[.int .u64 6, .int .i64 3] 28))))
    have HX := Aside0.mk (heap_alloc_new w3 (.cells #[.int .u64 6, .int .i64 3] 28))
    have HB3 := Aside0.mk (below_step HK.out.bel hb3)
    clear hb3
    go_wp2_with fail
    refine (lsm_levels w.heap.size w.heap.size v bs _ HK3.out.hat HLEN.out.1).mono ?_
    rintro x w4 ⟨v4, rfl, hv4, hb4⟩
    rw [show (bs.map fun b => b.f0) = [1, 0] from HLV.out] at hv4
    obtain ⟨A4, c4, rfl⟩ := Kd.V_slice hv4
    have hr4 := Kd.V_reads' hv4
    have hb5 := (hb4.block _ (by simp : w3.heap.size < _)).trans HX.out
    have x0 : w4.cell? ⟨w3.heap.size, 0, none⟩ = some (.int .u64 6) := by simp [World.cell?, hb5]
    have HK4 := Aside0.mk (HK3.out.below hb4)
    obtain ⟨ad, rfl⟩ : ∃ ad, A4 = some ad := by
     obtain ⟨ad, e, _⟩ := hr4.2.2.2.2 (by simp)
     exact ⟨ad, e⟩
    have y0 := Kd.foot_int hr4.2.2 0 (by omega) (by simp)
    have y1 := Kd.foot_int hr4.2.2 1 (by omega) (by simp)
    simp only [show Int.toNat 0 = 0 from rfl, show Int.toNat 1 = 1 from rfl, Addr.add_zero', show rd [1, 0] 0 = 1 from rfl, show rd [1, 0] 1 = 0 from rfl] at y0 y1
    have y2 : w4.cell? ⟨(ad.add 0).block, (ad.add 0).off + 1, none⟩ = some (.int .i64 0) := by rw [← add_field _ _ 1 (by omega)]; exact y1
    simp only [Addr.add_zero'] at y2
    clear hv4 hb4 hb5 hr4
    go_wp2_with fail
    refine (lsm_check w.heap.size w.heap.size v bs _ HK4.out.hat HK4.out.good HLEN.out.1 HLEN.out.2).mono ?_
    rintro x w5 ⟨rfl, hb5⟩
    have HK5 := Aside0.mk (HK4.out.below hb5)
    clear hb5 x0 y0 y1 y2
    go_wp2_with fail
    refine (lsm_len w.heap.size w.heap.size v bs _ HK5.out.hat HLEN.out.1 HLEN.out.2).mono ?_
    rintro x w6 ⟨rfl, hb6⟩
    rw [HCNT.out]
    have HK6 := Aside0.mk (HK5.out.below hb6)
    clear hb6
    go_wp2
    go_ret
    exact ⟨by first | rfl | simp, HK6.out.bel⟩
end Go.Proofs.Ytoohkcffkhnodaa.V
end
