-- a text of this work, without what this claim doesn't use (wip/shake.py)
import Derived.Test.YthghkglkifeagaaGreatPVSh7
import Derived.Test.YthghkglkifeagaaGreatPVPentry1
import Derived.Test.YthghkglkifeagaaGreatPVLsm6b
import Derived.Test.YthghkglkifeagaaGreatPVCall
import Derived.IntWalk
import Derived.Test.YthghkglkifeagaaGreatPVLsm13
import Derived.Test.YthghkglkifeagaaGreatPVLsm12
import Derived.Test.YthghkglkifeagaaGreatPVPblockb
set_option maxRecDepth 100000
set_option maxHeartbeats 8000000
set_option linter.unusedVariables false
set_option linter.unusedSimpArgs false
namespace Go.Proofs.YthghkglkifeagaaGreat.V
open Go.RowKit Go.Proofs.YthghkglkifeagaaGreatW.PrintWords Go.Proofs.YthghkglkifeagaaGreatW.PrintLast Go.Proofs.YthghkglkifeagaaGreatW.PrintMore
def optV (o : Option E) : Value × Bool := match o with | none => (.agg #[.int .u64 0, .int .i64 0], false) | some e => (.agg #[.int .u64 e.f0, .int .i64 e.f1], true)
def retV (o : Option E) : Value := .tuple #[(optV o).1, .bool (optV o).2]
theorem a9l (l : List E) : minV l = optV l.head? := by cases l <;> rfl
def eE (e : E) : Obj := .cells #[.int .u64 e.f0, .int .i64 e.f1] 33
structure ZBox (w wr : World) (g : Nat) : Prop where
  at_ : wr.heap[g]? = some (.cells #[.int .u64 0, .int .i64 0] 33 (0, 0))
  lo : w.heap.size ≤ g
  bel : Below w.heap.size w wr
theorem ZBox.below {w wr w1 : World} {g : Nat} (h : ZBox w wr g) (hb : Below wr.heap.size wr w1) : ZBox w w1 g := ⟨blk_below h.at_ hb, h.lo, below_step h.bel hb⟩
theorem ZBox.first (w : World) : ZBox w (w.alloc (.cells #[.int .u64 0, .int .i64 0] 33)) w.heap.size := ⟨heap_alloc_new w _, Nat.le_refl _, below_alloc (Below.refl _ _) _⟩
theorem ZBox.facts {w wr : World} {g : Nat} (h : ZBox w wr g) : wr.cell? ⟨g, 0, none⟩ = some (.int .u64 0) ∧ wr.cell? ⟨g, 1, none⟩ = some (.int .i64 0) ∧ wr.frozen? ⟨g, 0, none⟩ = false ∧ wr.frozen? ⟨g, 1, none⟩ = false :=
 ⟨(blk_cell h.at_ 0).trans rfl, (blk_cell h.at_ 1).trans rfl, a1h h.at_ 0, a1h h.at_ 1⟩
theorem ZBox.done {w wr : World} {g : Nat} (h : ZBox w wr g) (x y : Value) : Below w.heap.size w ((wr.setCell ⟨g, 0, none⟩ x).setCell ⟨g, 1, none⟩ y) := (h.bel.setCell h.lo _).setCell h.lo _
theorem b0q {w0 w : World} {pq : Nat} {a : Qa} {n : Nat} {B : List (Nat × Obj)} (h : QOk w0 w pq a n B) (hn : n ≤ 900) :
 Calls Tryz.prog 49 #[.pointer (some ⟨pq, 0, none⟩)] w fun e w' => e = .returned (retV (allQ a).head?) ∧ Below w.heap.size w w' := by
 have HQ := za (h.below (ZBox.first w).bel)
 have HZ := za (ZBox.first w)
 obtain ⟨l, hl⟩ : ∃ l, allQ a = l := ⟨_, rfl⟩
 have HL := za hl
 rw [hl]
 have HLA := za (show l.length ≤ 1000000 by rw [← hl]; have := a6d a; have := h.cnt; have := h.few; omega)
 clear h hl
 go_enter Tryz.func49, Tryz.ntmps49
 go_wp2_with fail
 refine (a6p HQ.out hn).mono ?_
 rintro e w1 ⟨v1, rfl, hv1, hb1⟩
 rw [HL.out] at hv1
 obtain ⟨A1, c1, rfl⟩ := Kd.V_slice hv1
 have HZ1 := za (HZ.out.below hb1)
 have HV1 := za (Kd.V_reads' hv1)
 clear hv1 hb1
 have HX := za (heap_alloc_new w1 (.cells #[.slice A1 l.length c1] 35))
 have HB2 := za (below_alloc (Below.refl w1.heap.size w1) (.cells #[.slice A1 l.length c1] 35))
 have HCL := za (Kd.C_below HV1.out.2.2 HB2.out)
 have HZ2 := za (HZ1.out.below HB2.out)
 go_wp2_with fail
 cases l with
 | nil =>
  refine (b3i _ _ _ _ HX.out HCL.out).mono ?_
  rintro e w3 ⟨rfl, hb3⟩
  have HZ3 := za (HZ2.out.below hb3)
  have HZ4 := za (HZ3.out.below (below_alloc (Below.refl w3.heap.size w3) (.cells #[.int .u64 0, .int .i64 0] 33)))
  obtain ⟨x0, x1, y0, y1⟩ := HZ4.out.facts
  clear hb3
  go_wp2
  exact bodyPost_ret (v := retV none) (by simp [results, Tryz.results49, go_sem, x0, x1, retV, optV]) rfl ⟨rfl, HZ4.out.done _ _⟩
 | cons e0 t =>
  refine (b1v _ _ _ _ _ _ HX.out HCL.out).mono ?_
  rintro e w3 ⟨rfl, hb3⟩
  have HZ3 := za (HZ2.out.below hb3)
  have HZ4 := za (HZ3.out.below (below_alloc (Below.refl w3.heap.size w3) (.cells #[.int .u64 e0.f0, .int .i64 e0.f1] 33)))
  obtain ⟨x0, x1, y0, y1⟩ := HZ4.out.facts
  clear hb3
  go_wp2
  exact bodyPost_ret (v := retV (some e0)) (by simp [results, Tryz.results49, go_sem, x0, x1, retV, optV]) rfl ⟨rfl, HZ4.out.done _ _⟩
theorem a5l {b w6 : World} (hb : Below b.drew.heap.size b.drew w6) : Below b.heap.size b w6 := below_then (below_drew (Below.refl b.heap.size b)) (Nat.le_refl _) hb
theorem a5g {b w6 : World} {cs : Array Value} {t : TypeId} (hb : Below (b.alloc (.cells cs t)).drew.heap.size (b.alloc (.cells cs t)).drew w6) : w6.heap[b.heap.size]? = some (.cells cs t (0, 0)) ∧ Below b.heap.size b w6 := by
 have h1 := below_drew (below_alloc (Below.refl b.heap.size b) (.cells cs t))
 have h0 : (b.alloc (.cells cs t)).drew.heap[b.heap.size]? = some (.cells cs t (0, 0)) := heap_alloc_new b _
 exact ⟨(hb.block _ (Array.getElem?_eq_some_iff.1 h0).1).trans h0, below_then h1 h1.size hb⟩
theorem a5k {w6 : World} {b : Nat} {t : TypeId} {u v : Value} (h : w6.heap[b]? = some (.cells #[u, v] t (0, 0))) : w6.cell? ⟨b, 0, none⟩ = some u ∧ w6.cell? ⟨b, 1, none⟩ = some v ∧ w6.frozen? ⟨b, 0, none⟩ = false ∧ w6.frozen? ⟨b, 1, none⟩ = false :=
 ⟨(blk_cell h 0).trans rfl, (blk_cell h 1).trans rfl, a1h h 0, a1h h 1⟩
theorem a2u {w6 : World} {b : Nat} {t : TypeId} {u v x y : Value} {n : Nat} {w : World} (h : w6.heap[b]? = some (.cells #[u, v] t (0, 0))) (hb : Below n w w6) (hn : n ≤ b) :
 ((w6.setCell ⟨b, 0, none⟩ x).setCell ⟨b, 1, none⟩ y).heap[b]? = some (.cells #[x, y] t (0, 0)) ∧ Below n w ((w6.setCell ⟨b, 0, none⟩ x).setCell ⟨b, 1, none⟩ y) :=
 ⟨blk_put (blk_put h 0 x rfl) 1 y rfl, (hb.setCell hn _).setCell hn _⟩
theorem b4j {α β : Type} {f : α → Option β} {e : β} : ∀ {l : List α} {m : Nat} {x : α}, l[m]? = some x → f x = some e → (∀ j y, j < m → l[j]? = some y → f y = none) → l.findSome? f = some e := by
 intro l
 induction l with
 | nil => intro m x h; simp at h
 | cons b r ih =>
  intro m x hx he hb
  cases m with
  | zero =>
   simp only [List.getElem?_cons_zero, Option.some.injEq] at hx
   subst hx
   rw [List.findSome?_cons, he]
  | succ m =>
   rw [List.findSome?_cons, hb 0 b (by omega) (by simp)]
   exact ih (m := m) (x := x) (by simpa using hx) he (fun j y hj hy => hb (j + 1) y (by omega) (by simpa using hy))
theorem b7a {α β : Type} {f : α → Option β} {l : List α} (hb : ∀ x ∈ l, f x = none) : l.findSome? f = none := List.findSome?_eq_none_iff.2 hb
def a1q (a : Qa) (t i : Nat) : Option E := (a.loc.getD ((t + 1 + i) % a.loc.length) []).head?
def a2d (a : Qa) (t : Nat) : Option E := match (List.range a.loc.length).findSome? (a1q a t) with | some e => some e | none => (a0b (a0l a)).head?
theorem b0h {a : Qa} {t m : Nat} {e : E} (hm : m < a.loc.length) (he : a1q a t m = some e) (hb : ∀ j, j < m → a1q a t j = none) : a2d a t = some e := by
 unfold a2d
 rw [b4j (m := m) (x := m) (by rw [List.getElem?_range hm]) he (fun j y hj hy => by
  rw [List.getElem?_range (by omega)] at hy
  injection hy with hy
  subst hy; exact hb j hj)]
theorem a8z {a : Qa} {t : Nat} (hb : ∀ j, j < a.loc.length → a1q a t j = none) : a2d a t = (a0b (a0l a)).head? := by
 unfold a2d
 rw [b7a (fun x hx => hb x (List.mem_range.1 hx))]
theorem c0l {w0 w : World} {pq : Nat} {a : Qa} {n : Nat} {B : List (Nat × Obj)} (h : QOk w0 w pq a n B) (hn : n ≤ 900) (t : Nat) (ht : t < a.loc.length) :
 Calls Tryz.prog 52 #[.pointer (some ⟨pq, 0, none⟩), .int .i64 t] w fun e w' => e = .returned (retV (a2d a t)) ∧ Below w.heap.size w w' := by
 have HC := za h.cnt
 obtain ⟨f1, f2, f3⟩ := h.few
 obtain ⟨who, q, h1, h2, _⟩ := h.ex
 have HA := za (show ∀ wr, Below w.heap.size w wr → QAt (upO who 11 w.heap.size) wr w0.heap.size pq q from fun wr hb => h1.below hb 11 (by have := h1.few; omega))
 obtain ⟨g, cap, hv, hc, _, hr⟩ := h1.lists
 have HLE := za h2.len
 have HH2 := za h2
 have HR := za hr
 have HZ := za (ZBox.first w)
 have HSE := za (show (a0l a).length ≤ 8 by have := a3g a; omega)
 have hq2 : ∀ wr, Below w.heap.size w wr → wr.cell? ⟨pq, 2, none⟩ = some (.slice (some ⟨g, 0, none⟩) a.loc.length cap) := fun wr hb => by
  rw [← h2.len, ← hv]; exact (HA.out wr hb).c2
 have HQ2 := za hq2
 have hp := hq2 _ HZ.out.bel
 have HCAP := za (show a.loc.length ≤ cap by rw [← h2.len]; exact hc)
 clear h h1 h2 hv hc hr hq2
 go_enter Tryz.func52, Tryz.ntmps52
 go_wp2
 obtain ⟨wz, hwz⟩ : ∃ wz : World, wz = w.alloc (.cells #[.int .u64 0, .int .i64 0] 33) := ⟨_, rfl⟩
 rw [← hwz] at HZ hp ⊢
 clear hwz
 go_loopw [17] (fun i wr => ∃ m : Nat, m ≤ a.loc.length ∧ i = .int .i64 m ∧ Aside0 (∀ j, j < m → a1q a t j = none) ∧ Aside0 (ZBox w wr w.heap.size)) (fun i _ => a.loc.length - (intOf i).toNat)
 case atStart => exact ⟨0, Nat.zero_le _, rfl, ⟨fun j h => by omega⟩, HZ⟩
 case round =>
  obtain ⟨m, hm, rfl, HN, HZR⟩ := hrel
  by_cases hlt : m < a.loc.length
  · obtain ⟨r, hr⟩ : ∃ r, (t + 1 + m) % a.loc.length = r := ⟨_, rfl⟩
    have hrl : r < a.loc.length := by rw [← hr]; exact Nat.mod_lt _ (by omega)
    have r1 : ((t : Int) + 1 + (m : Int)).tmod (a.loc.length : Int) = (r : Int) := by
     rw [Int.tmod_eq_emod_of_nonneg (by omega), ← hr]
     show ((t + 1 + m : Nat) : Int) % _ = _
     rfl
    have r2 : ((t : Int) + 1 + (m : Int)) % (a.loc.length : Int) = (r : Int) := by
     rw [← hr]
     show ((t + 1 + m : Nat) : Int) % _ = _
     rfl
    have r3 : ((a.loc.length : Int) == 0) = false := by rw [beq_eq_false_iff_ne]; omega
    have r4 : ¬ ((a.loc.length : Int) = 0) := by omega
    have r5 : ¬ (a.loc.length = 0) := by omega
    have v1 : IntKind.i64.wrap ((t : Int) + 1) = (t : Int) + 1 := IntWalk.i64_in _ (by omega)
    have v2 : IntKind.i64.wrap ((t : Int) + 1 + (m : Int)) = (t : Int) + 1 + (m : Int) := IntWalk.i64_in _ (by omega)
    have r6 : ¬ (a.loc = []) := fun e => by rw [e] at hlt; simp at hlt
    have r7 : decide (a.loc = []) = false := decide_eq_false r6
    have r8 : decide (a.loc.length = 0) = false := decide_eq_false r5
    obtain ⟨mm, hmm⟩ : ∃ mm, q.ms[r]? = some mm := ⟨_, List.getElem?_eq_getElem (by have := HLE.out; omega)⟩
    have x1 := pw_cell_below HZR.out.bel (HR.out r mm hmm)
    have x2 := HQ2.out wr HZR.out.bel
    have x1a := fun o => pw_cell_below (below_alloc (Below.refl wr.heap.size wr) o) x1
    have x2a := fun o => pw_cell_below (below_alloc (Below.refl wr.heap.size wr) o) x2
    have HLM := za (HH2.out.cntL hmm)
    have HGM := za (HH2.out.good mm (List.mem_of_getElem? hmm))
    have HNM := za (a2p HGM.out (by have := HLM.out; omega))
    have HBD := za (show Below w.heap.size w wr.drew from below_drew HZR.out.bel)
    have HMM := za hmm
    have HNH := za (show a1q a t m = (a0b (allB mm.bs)).head? by unfold a1q; rw [hr, HH2.out.at_ hmm]; rfl)
    have hri : (r : Int) < (a.loc.length : Int) := by omega
    have hri0 : (0 : Int) ≤ (r : Int) := by omega
    clear hmm hr
    have HMIN := za (show ∀ W, Below w.heap.size w W → Calls Tryz.prog 50 #[.pointer (some ⟨mm.p, 0, none⟩)] W fun x_ w' => x_ = .returned (.tuple #[(optV (a1q a t m)).1, .bool (optV (a1q a t m)).2]) ∧ Below W.heap.size W w' from fun W hb => by
     have := @b1d (XO (upO who 11 w.heap.size) (r + 3) W.heap.size) _ _ _ _ _ ((HA.out W hb).ow r mm HMM.out).1 (by have := HNM.out; have := HLM.out; omega) (by have := HLM.out; omega)
     rw [a9l, ← HNH.out] at this
     exact this)
    have HBD2 := za (show ∀ o, Below w.heap.size w (wr.alloc o).drew from fun o => below_drew (below_step HZR.out.bel (below_alloc (Below.refl wr.heap.size wr) o)))
    obtain ⟨y, hy⟩ : ∃ y, a1q a t m = y := ⟨_, rfl⟩
    rw [hy] at HMIN
    have HY := za hy
    clear hy
    cases y with
    | none =>
     have HMIN2 := za (show ∀ W, Below w.heap.size w W → Calls Tryz.prog 50 #[.pointer (some ⟨mm.p, 0, none⟩)] W fun x_ w' => x_ = .returned (.tuple #[.agg #[.int .u64 0, .int .i64 0], .bool false]) ∧ Below W.heap.size W w' from HMIN.out)
     have HN2 : Aside0 (∀ j, j < m + 1 → a1q a t j = none) := ⟨fun j hj => by
      by_cases h1 : j = m
      · rw [h1]; exact HY.out
      · exact HN.out j (by omega)⟩
     go_upto_region 4 with fail
     go_cut [7, 8] (fun s7 s8 wx => (∃ X, s7 = .pointer (some ⟨X, 0, none⟩)) ∧ s8 = .bool false ∧ Aside0 (Below wr.heap.size wr wx))
     case first =>
      go_region_with (first
       | (go_at_call 50; go_loud ((first | refine (HMIN2.out _ HBD.out).mono ?_ | refine (HMIN2.out _ (HBD2.out _)).mono ?_); rintro x_ w6 ⟨rfl, hb6⟩; (first | (have H6 := za (a5g hb6); obtain ⟨zc0, zc1, zf0, zf1⟩ := a5k H6.out.1; clear hb6) | (have H6 := za (a5l hb6); clear hb6)))))
      all_goals (go_wp2_with fail)
      all_goals go_meet
      all_goals first
       | exact ⟨⟨_, rfl⟩, rfl, ⟨below_step H6.out (below_alloc (Below.refl w6.heap.size w6) _)⟩⟩
       | exact ⟨⟨_, rfl⟩, rfl, ⟨(a2u H6.out.1 H6.out.2 (Nat.le_refl _)).2⟩⟩
     case rest =>
      obtain ⟨⟨X, rfl⟩, rfl, HBX⟩ := hcut
      have HZ2 := za (HZR.out.below HBX.out)
      go_wp2
      go_roundw
      case rel => exact ⟨m + 1, by omega, by go_num, HN2, HZ2⟩
      case measure => simp [intOf]; omega
    | some e =>
     have HMIN2 := za (show ∀ W, Below w.heap.size w W → Calls Tryz.prog 50 #[.pointer (some ⟨mm.p, 0, none⟩)] W fun x_ w' => x_ = .returned (.tuple #[.agg #[.int .u64 e.f0, .int .i64 e.f1], .bool true]) ∧ Below W.heap.size W w' from HMIN.out)
     have HHIT := za (b0h hlt HY.out HN.out)
     go_upto_region 4 with fail
     go_cut [7, 8] (fun s7 s8 wx => ∃ X, s7 = .pointer (some ⟨X, 0, none⟩) ∧ s8 = .bool true ∧ Aside0 (wx.heap[X]? = some (.cells #[.int .u64 e.f0, .int .i64 e.f1] 33 (0, 0))) ∧ Aside0 (Below wr.heap.size wr wx))
     case first =>
      go_region_with (first
       | (go_at_call 50; go_loud ((first | refine (HMIN2.out _ HBD.out).mono ?_ | refine (HMIN2.out _ (HBD2.out _)).mono ?_); rintro x_ w6 ⟨rfl, hb6⟩; (first | (have H6 := za (a5g hb6); obtain ⟨zc0, zc1, zf0, zf1⟩ := a5k H6.out.1; clear hb6) | (have H6 := za (a5l hb6); clear hb6)))))
      all_goals (go_wp2_with fail)
      all_goals go_meet
      all_goals first
       | exact ⟨_, rfl, rfl, ⟨heap_alloc_new w6 _⟩, ⟨below_step H6.out (below_alloc (Below.refl w6.heap.size w6) _)⟩⟩
       | exact ⟨_, rfl, rfl, ⟨(a2u H6.out.1 H6.out.2 (Nat.le_refl _)).1⟩, ⟨(a2u H6.out.1 H6.out.2 (Nat.le_refl _)).2⟩⟩
     case rest =>
      obtain ⟨X, rfl, rfl, HX, HBX⟩ := hcut
      have HZ2 := za (HZR.out.below HBX.out)
      have y0 : wc.cell? ⟨X, 0, none⟩ = some (.int .u64 e.f0) := (blk_cell HX.out 0).trans rfl
      have y1 : wc.cell? ⟨X, 1, none⟩ = some (.int .i64 e.f1) := (blk_cell HX.out 1).trans rfl
      obtain ⟨x0, x1, z0, z1⟩ := HZ2.out.facts
      go_wp2
      exact bodyPost_ret (v := retV (some e)) (by simp [results, Tryz.results52, go_sem, x0, x1, retV, optV]) rfl ⟨by rw [HHIT.out], HZ2.out.done _ _⟩
  · obtain rfl : m = a.loc.length := by omega
    have HMISS := za (a8z HN.out)
    have hq1 := (HA.out wr HZR.out.bel).c1
    have HSL := za (HA.out wr HZR.out.bel).sl
    have HSS := za (show allO q.L = a0l a by rw [b2v, HH2.out.S]; rfl)
    clear HN
    go_wp2_with fail
    refine (b0o _ _ _ _ HSL.out).mono ?_
    rintro e w1 ⟨v1, rfl, hv1, hb1⟩
    rw [HSS.out] at hv1
    obtain ⟨A1, c1, rfl⟩ := Kd.V_slice hv1
    have HZ1 := za (HZR.out.below hb1)
    have HV1 := za (Kd.V_reads' hv1)
    clear hv1 hb1
    go_wp2_with fail
    refine (entry_Sort.calls A1 c1 (a0l a) _ w1 HV1.out.2.2 HV1.out.2.1 (a5n (by have := HSE.out; omega))).mono ?_
    rintro e w2 ⟨v2, rfl, hv2, hb2⟩
    obtain ⟨A2, c2, rfl⟩ := Kd.V_slice hv2
    have HZ2 := za (HZ1.out.below hb2)
    have HV2 := za (Kd.V_reads' hv2)
    clear hv2 hb2
    have HX := za (heap_alloc_new w2 (.cells #[.slice A2 (a0b (a0l a)).length c2] 35))
    have HB3 := za (below_alloc (Below.refl w2.heap.size w2) (.cells #[.slice A2 (a0b (a0l a)).length c2] 35))
    have HCL := za (Kd.C_below HV2.out.2.2 HB3.out)
    have HZ3 := za (HZ2.out.below HB3.out)
    generalize a0b (a0l a) = l at *
    go_wp2_with fail
    cases l with
    | nil =>
     refine (b3i _ _ _ _ HX.out HCL.out).mono ?_
     rintro e w4 ⟨rfl, hb4⟩
     have HZ4 := za ((HZ3.out.below hb4).below (below_alloc (Below.refl w4.heap.size w4) (.cells #[.int .u64 0, .int .i64 0] 33)))
     obtain ⟨x0, x1, y0, y1⟩ := HZ4.out.facts
     clear hb4
     go_wp2
     exact bodyPost_ret (v := retV none) (by simp [results, Tryz.results52, go_sem, x0, x1, retV, optV]) rfl ⟨by rw [HMISS.out]; rfl, HZ4.out.done _ _⟩
    | cons e0 t0 =>
     refine (b1v _ _ _ _ _ _ HX.out HCL.out).mono ?_
     rintro e w4 ⟨rfl, hb4⟩
     have HZ4 := za ((HZ3.out.below hb4).below (below_alloc (Below.refl w4.heap.size w4) (.cells #[.int .u64 e0.f0, .int .i64 e0.f1] 33)))
     obtain ⟨x0, x1, y0, y1⟩ := HZ4.out.facts
     clear hb4
     go_wp2
     exact bodyPost_ret (v := retV (some e0)) (by simp [results, Tryz.results52, go_sem, x0, x1, retV, optV]) rfl ⟨by rw [HMISS.out]; rfl, HZ4.out.done _ _⟩
def a3y (L : List E) (d : Nat) : Option E := if L = [] then none else some (L.getD (d % L.length) ⟨0, 0⟩)
theorem b7i (L : List E) (d : Nat) : a3t L d = optV (a3y L d) := by
 unfold a3t a3y
 by_cases h : L = []
 · rw [if_pos h, if_pos h]; rfl
 · rw [if_neg h, if_neg h]; rfl
theorem b7o (k : Nat) (es : List E) : a1k (k : Int) es = (a0b es).take (k + 1) := by
 unfold a1k
 rcases Nat.lt_or_ge k es.length with h | h
 · rw [a6t (by omega) (by omega), Int.toNat_natCast]
 · have : a0o (k : Int) es.length = es.length := by
    rcases Nat.lt_or_ge es.length k with h2 | h2
    · exact b0v (by omega)
    · rw [a6t (by omega) (by omega), Int.toNat_natCast]; omega
   rw [this, List.take_of_length_le (by rw [a0i]; omega), List.take_of_length_le (by rw [a0i]; omega)]
def a3f (a : Qa) (d : Nat) : Option E := a3y (a.sh.take (a.k + 1)) d
def a4w (p r o : Option E) : Option E :=
  match p, r with
  | none, none => o
  | some x, none => some x
  | none, some y => some y
  | some x, some y => if ltE y x = true then some y else some x
def a1j (a : Qa) (t d : Nat) : Option E := a4w (a.loc.getD t []).head? (a3f a d) (a2d a t)
theorem a3c (o : Option E) : ∃ (x : E) (b : Bool), optV o = (.agg #[.int .u64 x.f0, .int .i64 x.f1], b) ∧ o = if b = true then some x else none := by
 cases o with
 | none => exact ⟨⟨0, 0⟩, false, rfl, rfl⟩
 | some e => exact ⟨e, true, rfl, rfl⟩
theorem a3l {o : Option E} {x : E} {b : Bool} (h : optV o = (.agg #[.int .u64 x.f0, .int .i64 x.f1], b)) : retV o = .tuple #[.agg #[.int .u64 x.f0, .int .i64 x.f1], .bool b] := by unfold retV; rw [h]
theorem b7t {w0 w : World} {pq : Nat} {a : Qa} {n : Nat} {B : List (Nat × Obj)} (h : QOk w0 w pq a n B) (hn : n ≤ 900) (t : Nat) (ht : t < a.loc.length) (d : Nat) (hd : d < 18446744073709551616) :
 Calls Tryz.prog 15 #[.pointer (some ⟨pq, 0, none⟩), .int .i64 t, .int .u64 d] w fun e w' => e = .returned (retV (a1j a t d)) ∧ Below w.heap.size w w' := by
 have HRO := za (show ∀ wr, Below w.heap.size w wr → Calls Tryz.prog 52 #[.pointer (some ⟨pq, 0, none⟩), .int .i64 t] wr fun e w' => e = .returned (retV (a2d a t)) ∧ Below wr.heap.size wr w' from fun wr hb => c0l (h.below hb) hn t ht)
 obtain ⟨f1, f2, f3⟩ := h.few
 obtain ⟨who, q, h1, h2, _⟩ := h.ex
 have HA := za (show ∀ wr, Below w.heap.size w wr → QAt (upO who 11 w.heap.size) wr w0.heap.size pq q from fun wr hb => h1.below hb 11 (by have := h1.few; omega))
 obtain ⟨g, cap, hv, hc, _, hr⟩ := h1.lists
 have HLE := za h2.len
 have HZ := za (ZBox.first w)
 have hq2 : ∀ wr, Below w.heap.size w wr → wr.cell? ⟨pq, 2, none⟩ = some (.slice (some ⟨g, 0, none⟩) a.loc.length cap) := fun wr hb => by
  rw [← h2.len, ← hv]; exact (HA.out wr hb).c2
 have HQ2 := za hq2
 have hp := hq2 _ HZ.out.bel
 have hqk := h2.k
 have HQK := za hqk
 obtain ⟨mm, hmm⟩ : ∃ mm, q.ms[t]? = some mm := ⟨_, List.getElem?_eq_getElem (by rw [h2.len]; exact ht)⟩
 have x1 := pw_cell_below HZ.out.bel (hr t mm hmm)
 have hLM := h2.cntL hmm
 have hNM := a2p (h2.good mm (List.mem_of_getElem? hmm)) (by omega)
 have hat := h2.at_ hmm
 have e5 := h2.allsh
 have e6 := h2.cnt
 have e7 := h2.few
 obtain ⟨x, px, hx1, hx2⟩ := a3c (a.loc.getD t []).head?
 obtain ⟨y, py, hy1, hy2⟩ := a3c (a3f a d)
 have HREL := za (show a1j a t d = a4w (if px = true then some x else none) (if py = true then some y else none) (a2d a t) by rw [← hx2, ← hy2]; rfl)
 have HMIN := za (show ∀ wr, Below w.heap.size w wr → Calls Tryz.prog 50 #[.pointer (some ⟨mm.p, 0, none⟩)] wr fun e w' => e = .returned (.tuple #[.agg #[.int .u64 x.f0, .int .i64 x.f1], .bool px]) ∧ Below wr.heap.size wr w' from fun wr hb => by
  have := @b1d (XO (upO who 11 w.heap.size) (t + 3) wr.heap.size) _ _ _ _ _ ((HA.out wr hb).ow t mm hmm).1 (by omega) (by omega)
  rw [a9l, show a0b (allB mm.bs) = a.loc.getD t [] from hat.symm, hx1] at this
  exact this)
 have HCAND := za (show ∀ wr, Below w.heap.size w wr → Calls Tryz.prog 51 #[.pointer (some ⟨q.psh, 0, none⟩), .int .i64 q.k, .int .u64 (d : Int)] wr fun e w' => e = .returned (.tuple #[.agg #[.int .u64 y.f0, .int .i64 y.f1], .bool py]) ∧ Below wr.heap.size wr w' from fun wr hb => by
  refine (@b8j (XO (upO who 11 w.heap.size) 2 wr.heap.size) w0.heap.size q.psh q.ver q.vs q.sb q.k d wr (HA.out wr hb).sh.1 hd (by omega) (by omega)).mono ?_
  rintro e w' hp
  unfold a4a at hp
  rw [b7o, show a0b (allB q.sb) = a.sh from h2.sh, b7i, hqk, show optV (a3y (a.sh.take (a.k + 1)) d) = _ from hy1] at hp
  exact hp)
 have HLESS := za (b2n 5 (by omega) y.f0 y.f1 x.f0 x.f1)
 have HTH := za (a7w (HA.out _ HZ.out.bel) t (by rw [h2.len]; exact ht))
 have hti : (t : Int) < (a.loc.length : Int) := by omega
 have hti0 : (0 : Int) ≤ (t : Int) := by omega
 clear h h1 h2 hv hc hr hq2 hmm hLM hNM hat e5 e6 e7 hx1 hx2 hy1 hy2 hqk
 go_enter Tryz.func15, Tryz.ntmps15
 go_wp2_with fail
 obtain ⟨wz, hwz⟩ : ∃ wz : World, wz = w.alloc (.cells #[.int .u64 0, .int .i64 0] 33) := ⟨_, rfl⟩
 rw [← hwz] at HZ hp x1 HTH ⊢
 clear hwz
 refine HTH.out.mono ?_
 rintro e w1 ⟨rfl, rfl⟩
 go_wp2_with fail
 refine (HMIN.out _ HZ.out.bel).mono ?_
 rintro e w2 ⟨rfl, hb2⟩
 have HX8 := za (heap_alloc_new w2 (.cells #[.int .u64 x.f0, .int .i64 x.f1] 33))
 have HZ2 := za ((HZ.out.below hb2).below (below_alloc (Below.refl w2.heap.size w2) (.cells #[.int .u64 x.f0, .int .i64 x.f1] 33)))
 go_upto_region 4 with fail
 obtain ⟨wb, hwb⟩ : ∃ wb : World, wb = w2.alloc (.cells #[.int .u64 x.f0, .int .i64 x.f1] 33) := ⟨_, rfl⟩
 rw [← hwb] at HX8 HZ2 ⊢
 have HBD := za (below_drew HZ2.out.bel)
 have HBD2 := za (show ∀ o, Below w.heap.size w (wb.alloc o).drew from fun o => below_drew (below_step HZ2.out.bel (below_alloc (Below.refl wb.heap.size wb) o)))
 have hq3 := (HA.out _ HZ2.out.bel).c3
 have hq0 := (HA.out _ HZ2.out.bel).c0
 have hq3a := fun o => pw_cell_below (below_alloc (Below.refl wb.heap.size wb) o) hq3
 have hq0a := fun o => pw_cell_below (below_alloc (Below.refl wb.heap.size wb) o) hq0
 clear hb2 hp x1 hwb
 go_cut [10, 11] (fun s10 s11 wx => ∃ X, s10 = .pointer (some ⟨X, 0, none⟩) ∧ s11 = .bool py ∧ Aside0 (wx.heap[X]? = some (.cells #[.int .u64 y.f0, .int .i64 y.f1] 33 (0, 0))) ∧ Aside0 (wx.heap[w2.heap.size]? = some (.cells #[.int .u64 x.f0, .int .i64 x.f1] 33 (0, 0))) ∧ Aside0 (ZBox w wx w.heap.size))
 case first =>
  go_region_with (first
   | (go_at_call 51; go_loud ((first | refine (HCAND.out _ HBD.out).mono ?_ | refine (HCAND.out _ (HBD2.out _)).mono ?_); rintro x_ w6 ⟨rfl, hb6⟩; (first | (have H6 := za (a5g hb6); obtain ⟨zc0, zc1, zf0, zf1⟩ := a5k H6.out.1; clear hb6) | (have H6 := za (a5l hb6); clear hb6)))))
  all_goals (go_wp2_with fail)
  all_goals go_meet
  all_goals first
   | exact ⟨_, rfl, rfl, ⟨heap_alloc_new w6 _⟩, ⟨blk_below HX8.out (below_step H6.out (below_alloc (Below.refl w6.heap.size w6) _))⟩, ⟨HZ2.out.below (below_step H6.out (below_alloc (Below.refl w6.heap.size w6) _))⟩⟩
   | exact ⟨_, rfl, rfl, ⟨(a2u H6.out.1 H6.out.2 (Nat.le_refl _)).1⟩, ⟨blk_below HX8.out (a2u H6.out.1 H6.out.2 (Nat.le_refl _)).2⟩, ⟨HZ2.out.below (a2u H6.out.1 H6.out.2 (Nat.le_refl _)).2⟩⟩
 case rest =>
  obtain ⟨X, rfl, rfl, HX, HX8c, HZC⟩ := hcut
  have y0 : wc.cell? ⟨X, 0, none⟩ = some (.int .u64 y.f0) := (blk_cell HX.out 0).trans rfl
  have y1 : wc.cell? ⟨X, 1, none⟩ = some (.int .i64 y.f1) := (blk_cell HX.out 1).trans rfl
  have x0 : wc.cell? ⟨w2.heap.size, 0, none⟩ = some (.int .u64 x.f0) := (blk_cell HX8c.out 0).trans rfl
  have x1 : wc.cell? ⟨w2.heap.size, 1, none⟩ = some (.int .i64 x.f1) := (blk_cell HX8c.out 1).trans rfl
  cases px with
  | false =>
   cases py with
   | false =>
    obtain ⟨z, pz, hz1, hz2⟩ := a3c (a2d a t)
    have HZ1 := za hz1
    have HRC := za (HRO.out wc HZC.out.bel)
    rw [a3l hz1] at HRC
    have HRR := za (show retV (a1j a t d) = .tuple #[.agg #[.int .u64 z.f0, .int .i64 z.f1], .bool pz] by rw [HREL.out]; exact a3l hz1)
    clear hz1 hz2 y0 y1 x0 x1
    go_wp2_with fail
    refine HRC.out.mono ?_
    rintro e w7 ⟨rfl, hb7⟩
    have HZ7 := za (HZC.out.below hb7)
    obtain ⟨z0, z1, z2, z3⟩ := HZ7.out.facts
    clear hb7
    go_wp2
    exact bodyPost_ret (v := .tuple #[.agg #[.int .u64 z.f0, .int .i64 z.f1], .bool pz]) (by simp [results, Tryz.results15, go_sem, z0, z1]) rfl ⟨by rw [HRR.out], HZ7.out.done _ _⟩
   | true =>
    have HRR := za (show retV (a1j a t d) = .tuple #[.agg #[.int .u64 y.f0, .int .i64 y.f1], .bool true] by rw [HREL.out]; rfl)
    obtain ⟨z0, z1, z2, z3⟩ := HZC.out.facts
    go_wp2
    exact bodyPost_ret (v := .tuple #[.agg #[.int .u64 y.f0, .int .i64 y.f1], .bool true]) (by simp [results, Tryz.results15, go_sem, z0, z1]) rfl ⟨by rw [HRR.out], HZC.out.done _ _⟩
  | true =>
   cases py with
   | false =>
    have HRR := za (show retV (a1j a t d) = .tuple #[.agg #[.int .u64 x.f0, .int .i64 x.f1], .bool true] by rw [HREL.out]; rfl)
    obtain ⟨z0, z1, z2, z3⟩ := HZC.out.facts
    go_wp2
    exact bodyPost_ret (v := .tuple #[.agg #[.int .u64 x.f0, .int .i64 x.f1], .bool true]) (by simp [results, Tryz.results15, go_sem, z0, z1]) rfl ⟨by rw [HRR.out], HZC.out.done _ _⟩
   | true =>
    have HRR := za (show a1j a t d = if ltE y x = true then some y else some x by rw [HREL.out]; rfl)
    cases hl : ltE (⟨y.f0, y.f1⟩ : E) ⟨x.f0, x.f1⟩ with
    | true =>
     have HRT := za (show retV (a1j a t d) = .tuple #[.agg #[.int .u64 y.f0, .int .i64 y.f1], .bool true] by rw [HRR.out, if_pos hl]; rfl)
     rw [hl] at HLESS
     clear hl
     go_wp2_with fail
     refine (entry_Less.calls 5 _ _ _ _ _ _ HLESS.out).mono ?_
     rintro e w7 ⟨rfl, hb7⟩
     have HZ7 := za (HZC.out.below hb7)
     obtain ⟨z0, z1, z2, z3⟩ := HZ7.out.facts
     have y0' := pw_cell_below hb7 y0
     have y1' := pw_cell_below hb7 y1
     clear hb7 y0 y1 x0 x1
     go_wp2
     exact bodyPost_ret (v := .tuple #[.agg #[.int .u64 y.f0, .int .i64 y.f1], .bool true]) (by simp [results, Tryz.results15, go_sem, z0, z1]) rfl ⟨by rw [HRT.out], HZ7.out.done _ _⟩
    | false =>
     have HRT := za (show retV (a1j a t d) = .tuple #[.agg #[.int .u64 x.f0, .int .i64 x.f1], .bool true] by rw [HRR.out, if_neg (by simpa using hl)]; rfl)
     rw [hl] at HLESS
     clear hl
     go_wp2_with fail
     refine (entry_Less.calls 5 _ _ _ _ _ _ HLESS.out).mono ?_
     rintro e w7 ⟨rfl, hb7⟩
     have HZ7 := za (HZC.out.below hb7)
     obtain ⟨z0, z1, z2, z3⟩ := HZ7.out.facts
     have x0' := pw_cell_below hb7 x0
     have x1' := pw_cell_below hb7 x1
     clear hb7 y0 y1 x0 x1
     go_wp2
     exact bodyPost_ret (v := .tuple #[.agg #[.int .u64 x.f0, .int .i64 x.f1], .bool true]) (by simp [results, Tryz.results15, go_sem, z0, z1]) rfl ⟨by rw [HRT.out], HZ7.out.done _ _⟩
def BoxI (W : World) (g : Nat) (id : Int) : Prop := W.heap[g]? = some (.cells #[.int .i64 id] 3 (0, 0))
theorem BoxI.below {W W1 : World} {g : Nat} {id : Int} (h : BoxI W g id) (hb : Below W.heap.size W W1) : BoxI W1 g id := blk_below h hb
theorem BoxI.c0 {W : World} {g : Nat} {id : Int} (h : BoxI W g id) : W.cell? ⟨g, 0, none⟩ = some (.int .i64 id) := (blk_cell h 0).trans rfl
def isId (id : Int) (e : E) : Bool := decide (e.f1 = id)
section
variable {P : Program} {ops : Array Oper} {Q : Exit → Act → World → Prop}
theorem b1q {rest : List Oper} {oi : Oper} {a : Act} {w : World} (N : Option Tmp) (hd : oi.dst = N) (hw : Region.wanted oi (yielded ops a.tmps) = true) {f : FuncId} {fn : Func} {xs : Array Operand} {ts : Array TypeId} {x : Operand} {cb : Array Value} (hf : P.funcs[f]? = some fn) (hname : (fn.name == "runtime.NumGoroutine") = false) (hb : fn.body.isSome = true) (args : Array Value)
 (hop : oi.op = .call { callee := .value x, args := xs, argTypes := ts }) (hx : a.eval x = .func (.func f) #[] cb) (hargs : xs.map a.eval ++ cb = args)
 (h : Calls P f args w fun e w' => ∃ v, e = .returned v ∧ wpList P ops Q rest (a.put N v) w') : wpList P ops Q (oi :: rest) a w := by
 refine wpList_step fun K hK => ?_
 rw [hw, if_pos rfl]
 have he := enters_ hf hname hb args w
 have hrun : (execOp a.eval oi).run P w = .ok (.enter f args) w := by
  unfold execOp
  simp [hop, resolve, Deferred.ofValue, invoke, hx, hargs, he]
 unfold Oper.wp
 rw [hrun, Oper.upon_enter]
 refine h.mono fun e w'' hh => ?_
 obtain ⟨v, rfl, hk⟩ := hh
 subst hd
 exact hK _ _ hk
end
theorem b2u {l : List E} {m : Nat} {e : E} (h : l[m]? = some e) : a0a l (m : Int) = e := by unfold a0a; rw [Int.toNat_natCast, List.getD_eq_getElem?_getD, h]; rfl
structure AskE (fid : FuncId) (cb : Array Value) (p : E → Bool) (Inv : World → Prop) : Prop where
  known : ∃ fn, Tryz.prog.funcs[fid]? = some fn ∧ (fn.name == "runtime.NumGoroutine") = false ∧ fn.body.isSome = true
  stay : ∀ W W', Inv W → Below W.heap.size W W' → Inv W'
  call : ∀ (e : E) (W : World), Inv W → Calls Tryz.prog fid (#[.agg #[.int .u64 e.f0, .int .i64 e.f1]] ++ cb) W fun x W' => x = .returned (.bool (p e)) ∧ Below W.heap.size W W'
structure AskI (fid : FuncId) (cb : Array Value) (p : Int → Bool) (Inv : World → Prop) : Prop where
  known : ∃ fn, Tryz.prog.funcs[fid]? = some fn ∧ (fn.name == "runtime.NumGoroutine") = false ∧ fn.body.isSome = true
  stay : ∀ W W', Inv W → Below W.heap.size W W' → Inv W'
  call : ∀ (x : Int) (W : World), Inv W → Calls Tryz.prog fid (#[.int .i64 x] ++ cb) W fun y W' => y = .returned (.bool (p x)) ∧ Below W.heap.size W W'
theorem c2b {p : E → Bool} {l : List E} {m : Nat} {e : E} (h : l[m]? = some e) : (l.take (m + 1)).filter p = (l.take m).filter p ++ (if p e = true then [e] else []) := by
 obtain ⟨h1, rfl⟩ := List.getElem?_eq_some_iff.1 h
 rw [List.take_succ_eq_append_getElem h1, List.filter_append]
 by_cases hi : p l[m] = true <;> simp [hi]
theorem c2w {fid : FuncId} {cb : Array Value} {p : E → Bool} {Inv : World → Prop} (A : Option Addr) (c : Nat) (l : List E) (w : World) (hf : AskE fid cb p Inv) (hr : k33.C w A l.length l) (hc : l.length ≤ c) (hl : l.length ≤ 1000000) (h : Inv w) :
 Calls Tryz.prog 92 #[.slice A l.length c, .func (.func fid) #[] cb] w fun x w' => x = .returned (.int .i64 (posB (l.findIdx? p))) ∧ Below w.heap.size w w' := by
 have HR := za hr
 have HC := za h
 have HF := za hf
 obtain ⟨fn, hk1, hk2, hk3⟩ := hf.known
 have HK := za hk1
 have HK2 := za hk2
 have HK3 := za hk3
 clear hr h hf hk1 hk2 hk3
 go_enter Tryz.func92, Tryz.ntmps92
 go_wp2
 go_loopw [8] (fun i wr => ∃ m : Nat, m ≤ l.length ∧ i = .int .i64 m ∧ Aside0 (∀ j b, j < m → l[j]? = some b → p b = false) ∧ Aside0 (Below w.heap.size w wr)) (fun i _ => l.length - (intOf i).toNat)
 case atStart => exact ⟨0, Nat.zero_le _, rfl, ⟨fun j b h => by omega⟩, ⟨Below.refl _ _⟩⟩
 case round =>
  obtain ⟨m, hm, rfl, HN, HB⟩ := hrel
  by_cases hlt : m < l.length
  · obtain ⟨e, he⟩ : ∃ e, l[m]? = some e := ⟨_, List.getElem?_eq_getElem hlt⟩
    obtain ⟨ad, e1, y0, y1⟩ := a0e (Kd.C_below HR.out HB.out) (m : Int) (by omega) (by omega)
    subst e1
    rw [Int.toNat_natCast, b2u he] at y0 y1
    have HE := za he
    have HI := za (HF.out.stay _ _ HC.out HB.out)
    clear he
    cases hi : p e with
    | false =>
     have HP := za hi
     have HN2 : Aside0 (∀ j b, j < m + 1 → l[j]? = some b → p b = false) := ⟨fun j b' hj hb' => by
      by_cases h1 : j = m
      · subst h1
        rw [HE.out] at hb'
        injection hb' with hb'
        rw [← hb']; exact hi
      · exact HN.out j b' (by omega) hb'⟩
     clear hi
     go_wp2_with ((with_reducible refine gate_dst (N := 16) rfl ?_); go_loud (refine goesLC_ (some 16) rfl rfl HK.out HK2.out HK3.out (#[.agg #[.int .u64 e.f0, .int .i64 e.f1]] ++ cb) rfl rfl (by (try simp only [List.map_toArray, List.map_cons, List.map_nil]); first | done | rfl) ?_; refine (HF.out.call e _ HI.out).mono ?_; rintro x w2 ⟨rfl, hb2⟩; rw [HP.out]; have HB2 := za (below_step HB.out hb2); clear hb2; refine ⟨_, rfl, ?_⟩))
     go_roundw
     case rel => exact ⟨m + 1, by omega, by go_num, HN2, HB2⟩
     case measure => simp [intOf]; omega
    | true =>
     have HP := za hi
     have HFI := za (b2t HE.out hi HN.out)
     clear hi
     go_wp2_with ((with_reducible refine gate_dst (N := 16) rfl ?_); go_loud (refine goesLC_ (some 16) rfl rfl HK.out HK2.out HK3.out (#[.agg #[.int .u64 e.f0, .int .i64 e.f1]] ++ cb) rfl rfl (by (try simp only [List.map_toArray, List.map_cons, List.map_nil]); first | done | rfl) ?_; refine (HF.out.call e _ HI.out).mono ?_; rintro x w2 ⟨rfl, hb2⟩; rw [HP.out]; have HB2 := za (below_step HB.out hb2); clear hb2; refine ⟨_, rfl, ?_⟩))
     go_ret
     exact ⟨by rw [HFI.out]; rfl, HB2.out⟩
  · obtain rfl : m = l.length := by omega
    have HF := za (b3r HN.out)
    go_wp2
    go_ret
    exact ⟨by rw [HF.out]; rfl, HB.out⟩
theorem b2q {fid : FuncId} {cb : Array Value} {p : E → Bool} {Inv : World → Prop} (A : Option Addr) (c : Nat) (l : List E) (w : World) (hf : AskE fid cb p Inv) (hr : k33.C w A l.length l) (hc : l.length ≤ c) (hl : l.length ≤ 1000000) (h : Inv w) :
 Calls Tryz.prog 61 #[.slice A l.length c, .func (.func fid) #[] cb] w fun x w' => x = .returned (.bool (l.any p)) ∧ Below w.heap.size w w' := by
 have HR := za hr
 have HC := za h
 have HF := za hf
 have HA := za (b2z p l)
 clear hr h hf
 go_enter Tryz.func61, Tryz.ntmps61
 go_wp2_with fail
 refine (c2w A c l _ HF.out HR.out hc hl HC.out).mono ?_
 rintro x w2 ⟨rfl, hb2⟩
 have HB2 := za hb2
 clear hb2
 generalize posB (l.findIdx? p) = v at HA ⊢
 go_wp2
 go_ret
 exact ⟨by rw [← HA.out]; rfl, HB2.out⟩
theorem askW (g : Nat) (id : Int) : AskE 62 #[.pointer (some ⟨g, 0, none⟩)] (isId id) (fun W => BoxI W g id) := by
 refine ⟨⟨_, Tryz.func62, by kernel_rfl, rfl⟩, fun _ _ h hb => h.below hb, fun e W hi => ?_⟩
 have c0 := (hi.below (below_alloc (Below.refl W.heap.size W) (.cells #[.int .u64 e.f0, .int .i64 e.f1] 33))).c0
 clear hi
 show Calls Tryz.prog 62 #[.agg #[.int .u64 e.f0, .int .i64 e.f1], .pointer (some ⟨g, 0, none⟩)] W _
 unfold isId
 go_enter Tryz.func62, Tryz.ntmps62
 go_wp2
 go_ret
 exact ⟨by first | rfl | simp, below_alloc (Below.refl _ _) _⟩
theorem q_has (id : Int) (g : Nat) (A : Option Addr) (c : Nat) (l : List E) (w : World) (hr : k33.C w A l.length l) (hc : l.length ≤ c) (hl : l.length ≤ 1000000) (h : BoxI w g id) :
 Calls Tryz.prog 60 #[.slice A l.length c, .pointer (some ⟨g, 0, none⟩)] w fun x w' => x = .returned (.bool (l.any (isId id))) ∧ Below w.heap.size w w' := by
 have HR := za hr
 have HI := za h
 clear hr h
 go_enter Tryz.func60, Tryz.ntmps60
 go_wp2_with fail
 refine (b2q A c l _ (askW g id) HR.out hc hl HI.out).mono ?_
 rintro x w2 ⟨rfl, hb2⟩
 have HB2 := za hb2
 clear hb2
 go_wp2
 go_ret
 exact ⟨rfl, HB2.out⟩
def hasO (id : Int) (o : Option E) : Bool := match o with | some e => isId id e | none => false
def a0p (a : Qa) (id : Int) : Nat × Nat :=
  match a.S.findIdx? (hasO id) with
  | some t => (1, t)
  | none => match a.loc.findIdx? (fun l => l.any (isId id)) with
    | some t => (2, t)
    | none => if a.sh.any (isId id) = true then (3, 0) else (0, 0)
theorem b2p {a : Qa} {id : Int} {m : Nat} {o : Option E} (ho : a.S[m]? = some o) (hp : hasO id o = true) (hb : ∀ j b, j < m → a.S[j]? = some b → hasO id b = false) : a0p a id = (1, m) := by
 obtain ⟨h1, rfl⟩ := List.getElem?_eq_some_iff.1 ho
 have : a.S.findIdx? (hasO id) = some m := by
  rw [List.findIdx?_eq_some_iff_getElem]
  exact ⟨h1, hp, fun j hj => by rw [hb j _ hj (List.getElem?_eq_getElem (by omega))]; simp⟩
 unfold a0p
 rw [this]
theorem a5h {α : Type} {p : α → Bool} {l : List α} (hb : ∀ j b, j < l.length → l[j]? = some b → p b = false) : l.findIdx? p = none := by
 rw [List.findIdx?_eq_none_iff]
 intro x hx
 obtain ⟨j, hj, rfl⟩ := List.getElem_of_mem hx
 exact hb j _ hj (List.getElem?_eq_getElem hj)
theorem a9c {a : Qa} {id : Int} {m : Nat} {l : List E} (hS : a.S.findIdx? (hasO id) = none) (hl : a.loc[m]? = some l) (hp : l.any (isId id) = true) (hb : ∀ j b, j < m → a.loc[j]? = some b → b.any (isId id) = false) : a0p a id = (2, m) := by
 obtain ⟨h1, rfl⟩ := List.getElem?_eq_some_iff.1 hl
 have : a.loc.findIdx? (fun l => l.any (isId id)) = some m := by
  rw [List.findIdx?_eq_some_iff_getElem]
  exact ⟨h1, hp, fun j hj => by rw [hb j _ hj (List.getElem?_eq_getElem (by omega))]; simp⟩
 unfold a0p
 rw [hS, this]
theorem a6c {a : Qa} {id : Int} (hS : a.S.findIdx? (hasO id) = none) (hL : a.loc.findIdx? (fun l => l.any (isId id)) = none) : a0p a id = if a.sh.any (isId id) = true then (3, 0) else (0, 0) := by
 unfold a0p
 rw [hS, hL]
def a0t (p : Nat × Nat) : Value := .tuple #[.int .i64 (p.1 : Int), .int .i64 (p.2 : Int)]
theorem b2g {w0 w : World} {pq : Nat} {a : Qa} {n : Nat} {B : List (Nat × Obj)} (h : QOk w0 w pq a n B) (hn : n ≤ 900) (id : Int) :
 Calls Tryz.prog 22 #[.pointer (some ⟨pq, 0, none⟩), .int .i64 id] w fun e w' => e = .returned (a0t (a0p a id)) ∧ Below w.heap.size w w' := by
 have HC := za h.cnt
 obtain ⟨f1, f2, f3⟩ := h.few
 obtain ⟨who, q, h1, h2, _⟩ := h.ex
 have HA := za (show ∀ wr, Below w.heap.size w wr → QAt (upO who 11 w.heap.size) wr w0.heap.size pq q from fun wr hb => h1.below hb 11 (by have := h1.few; omega))
 obtain ⟨g, cap, hv, hc, _, hr⟩ := h1.lists
 have HLE := za h2.len
 have HLS := za h2.lenS
 have HH2 := za h2
 have HR := za hr
 have HZ := za (below_alloc (Below.refl w.heap.size w) (.cells #[.int .i64 id] 3))
 have HI := za (show BoxI (w.alloc (.cells #[.int .i64 id] 3)) w.heap.size id from heap_alloc_new w _)
 have hq2 : ∀ wr, Below w.heap.size w wr → wr.cell? ⟨pq, 2, none⟩ = some (.slice (some ⟨g, 0, none⟩) a.loc.length cap) := fun wr hb => by
  rw [← h2.len, ← hv]; exact (HA.out wr hb).c2
 have HQ2 := za hq2
 have hp := hq2 _ HZ.out
 have HCAP := za (show a.loc.length ≤ cap by rw [← h2.len]; exact hc)
 have HQ := za h
 clear h h1 h2 hv hc hr hq2
 go_enter Tryz.func22, Tryz.ntmps22
 go_wp2
 obtain ⟨wz, hwz⟩ : ∃ wz : World, wz = w.alloc (.cells #[.int .i64 id] 3) := ⟨_, rfl⟩
 rw [← hwz] at HZ HI hp ⊢
 clear hwz
 go_loopw [19] (fun i wr => ∃ m : Nat, m ≤ a.loc.length ∧ i = .int .i64 m ∧ Aside0 (∀ j b, j < m → a.S[j]? = some b → hasO id b = false) ∧ Aside0 (Below wz.heap.size wz wr)) (fun i _ => a.loc.length - (intOf i).toNat)
 case atStart => exact ⟨0, Nat.zero_le _, rfl, ⟨fun j b h => by omega⟩, ⟨Below.refl _ _⟩⟩
 case round =>
  obtain ⟨m, hm, rfl, HN, HB⟩ := hrel
  have HBW := za (below_then HZ.out HZ.out.size HB.out)
  by_cases hlt : m < a.loc.length
  · obtain ⟨o, ho⟩ : ∃ o, q.L[m]? = some o := ⟨_, List.getElem?_eq_getElem (by have := HLS.out; omega)⟩
    have HO := za ho
    have HS := za (show a.S[m]? = some o.o by rw [← HH2.out.S, List.getElem?_map, ho]; rfl)
    have hq1 := (HA.out wr HBW.out).c1
    have HSL := za (HA.out wr HBW.out).sl
    have HI1 := za (HI.out.below HB.out)
    clear ho
    by_cases hh : hasO id o.o = true
    · have hoo : o.full = true ∧ o.id = id := by
       unfold One.o hasO at hh
       by_cases hf : o.full = true
       · rw [if_pos hf] at hh
         exact ⟨hf, of_decide_eq_true hh⟩
       · rw [if_neg hf] at hh
         simp at hh
      obtain ⟨hf, hid⟩ := hoo
      have HW := za (b2p HS.out hh HN.out)
      have HF := za hf
      have HID := za hid
      have d1 : (o.id == id) = true := by rw [beq_iff_eq]; exact hid
      have d2 : decide (o.id = id) = true := decide_eq_true hid
      clear hh hf hid
      go_wp2_with fail
      refine (a3q _ _ _ (m : Int) o _ HSL.out (by omega) (by rw [Int.toNat_natCast]; exact HO.out)).mono ?_
      rintro e w1 ⟨rfl, hb1⟩
      rw [HF.out]
      have HB1 := za (below_step HBW.out hb1)
      have hx := fun o' => ((HI1.out.below hb1).below (below_alloc (Below.refl w1.heap.size w1) o')).c0
      have HBA := za (show ∀ o', Below w.heap.size w (w1.alloc o') from fun o' => below_step HB1.out (below_alloc (Below.refl w1.heap.size w1) o'))
      clear hb1
      go_wp2
      exact bodyPost_ret (v := a0t (1, m)) (by simp [results, Tryz.results22, go_sem, a0t]) rfl ⟨by rw [HW.out], HBA.out _⟩
    · have hh2 : hasO id o.o = false := by simpa using hh
      have HN2 : Aside0 (∀ j b, j < m + 1 → a.S[j]? = some b → hasO id b = false) := ⟨fun j b hj hb => by
       by_cases h1 : j = m
       · subst h1
         rw [HS.out] at hb
         injection hb with hb
         rw [← hb]; exact hh2
       · exact HN.out j b (by omega) hb⟩
      have hoo : o.full = false ∨ ¬ o.id = id := by
       unfold One.o hasO at hh2
       by_cases hf : o.full = true
       · rw [if_pos hf] at hh2
         exact .inr (of_decide_eq_false hh2)
       · exact .inl (by simpa using hf)
      clear hh hh2
      cases hf : o.full with
      | false =>
       have HF := za hf
       clear hf hoo
       go_wp2_with fail
       refine (a3q _ _ _ (m : Int) o _ HSL.out (by omega) (by rw [Int.toNat_natCast]; exact HO.out)).mono ?_
       rintro e w1 ⟨rfl, hb1⟩
       rw [HF.out]
       have HBA := za (show ∀ o', Below wz.heap.size wz (w1.alloc o') from fun o' => below_step (below_step HB.out hb1) (below_alloc (Below.refl w1.heap.size w1) o'))
       clear hb1
       go_wp2
       go_roundw
       case rel => exact ⟨m + 1, by omega, by go_num, HN2, ⟨HBA.out _⟩⟩
       case measure => simp [intOf]; omega
      | true =>
       have hid : ¬ o.id = id := by
        rcases hoo with h | h
        · rw [hf] at h; simp at h
        · exact h
       have HF := za hf
       have d1 : (o.id == id) = false := by rw [beq_eq_false_iff_ne]; exact hid
       have d2 : decide (o.id = id) = false := decide_eq_false hid
       clear hf hoo
       go_wp2_with fail
       refine (a3q _ _ _ (m : Int) o _ HSL.out (by omega) (by rw [Int.toNat_natCast]; exact HO.out)).mono ?_
       rintro e w1 ⟨rfl, hb1⟩
       rw [HF.out]
       have hx := fun o' => ((HI1.out.below hb1).below (below_alloc (Below.refl w1.heap.size w1) o')).c0
       have HBA := za (show ∀ o', Below wz.heap.size wz (w1.alloc o') from fun o' => below_step (below_step HB.out hb1) (below_alloc (Below.refl w1.heap.size w1) o'))
       clear hb1
       go_wp2
       go_roundw
       case rel => exact ⟨m + 1, by omega, by go_num, HN2, ⟨HBA.out _⟩⟩
       case measure => simp [intOf]; omega
  · obtain rfl : m = a.loc.length := by omega
    have HNS := za (a5h (l := a.S) (p := hasO id) (fun j b hj hb => HN.out j b (by omega) hb))
    have hp2 := HQ2.out wr HBW.out
    clear HN
    go_wp2
    rename World => wo
    go_loopw [46] (fun i wr => ∃ m : Nat, m ≤ a.loc.length ∧ i = .int .i64 m ∧ Aside0 (∀ j b, j < m → a.loc[j]? = some b → b.any (isId id) = false) ∧ Aside0 (Below wz.heap.size wz wr)) (fun i _ => a.loc.length - (intOf i).toNat)
    case atStart => exact ⟨0, Nat.zero_le _, rfl, ⟨fun j b h => by omega⟩, HB⟩
    case round =>
     obtain ⟨m, hm, rfl, HN, HB⟩ := hrel
     have HBW := za (below_then HZ.out HZ.out.size HB.out)
     by_cases hlt : m < a.loc.length
     · obtain ⟨mm, hmm⟩ : ∃ mm, q.ms[m]? = some mm := ⟨_, List.getElem?_eq_getElem (by have := HLE.out; omega)⟩
       have x1 := pw_cell_below HBW.out (HR.out m mm hmm)
       have HLM := za (HH2.out.cntL hmm)
       have HGM := za (HH2.out.good mm (List.mem_of_getElem? hmm))
       have HNM := za (a2p HGM.out (by have := HLM.out; omega))
       have HOW := za ((HA.out wr HBW.out).ow m mm hmm)
       have HAL := za (show a.loc[m]? = some (a0b (allB mm.bs)) by rw [← HH2.out.loc, List.getElem?_map, hmm]; rfl)
       have HI1 := za (HI.out.below HB.out)
       have HLS2 := za (show (a0b (allB mm.bs)).length ≤ 1000000 by rw [a0i]; have := HLM.out; omega)
       clear hmm
       go_wp2_with fail
       refine (@a5r (XO (upO who 11 w.heap.size) (m + 3) wr.heap.size) _ _ _ _ _ HOW.out.1 HGM.out.snd (by have := HNM.out; have := HLM.out; omega) (by have := HLM.out; omega)).mono ?_
       rintro e w6 ⟨v6, rfl, hv6, hb6⟩
       obtain ⟨A6, c6, rfl⟩ := Kd.V_slice hv6
       have HB6 := za (below_step HB.out hb6)
       have HV6 := za (Kd.V_reads' hv6)
       have HI6 := za (HI1.out.below hb6)
       clear hv6 hb6
       generalize a0b (allB mm.bs) = l at HAL HV6 HLS2 ⊢
       go_wp2_with fail
       refine (q_has id w.heap.size A6 c6 l w6 HV6.out.2.2 HV6.out.2.1 HLS2.out HI6.out).mono ?_
       rintro e w7 ⟨rfl, hb7⟩
       have HB7 := za (below_step HB6.out hb7)
       have HBW7 := za (below_then HZ.out HZ.out.size HB7.out)
       clear hb7
       cases hh : l.any (isId id) with
       | true =>
        have HW := za (a9c HNS.out HAL.out hh HN.out)
        clear hh
        go_wp2
        exact bodyPost_ret (v := a0t (2, m)) (by simp [results, Tryz.results22, go_sem, a0t]) rfl ⟨by rw [HW.out], HBW7.out⟩
       | false =>
        have HN2 : Aside0 (∀ j b, j < m + 1 → a.loc[j]? = some b → b.any (isId id) = false) := ⟨fun j b hj hb => by
         by_cases h1 : j = m
         · subst h1
           rw [HAL.out] at hb
           injection hb with hb
           rw [← hb]; exact hh
         · exact HN.out j b (by omega) hb⟩
        clear hh
        go_wp2
        go_roundw
        case rel => exact ⟨m + 1, by omega, by go_num, HN2, HB7⟩
        case measure => simp [intOf]; omega
     · obtain rfl : m = a.loc.length := by omega
       have HNL := za (a5h (l := a.loc) (p := fun l => l.any (isId id)) HN.out)
       have HWH := za (a6c HNS.out HNL.out)
       have hq3 := (HA.out wr HBW.out).c3
       have HSH := za (HA.out wr HBW.out).sh
       have HI1 := za (HI.out.below HB.out)
       have HLSH := za (show q.sb.length ≤ 1000 ∧ (allB q.sb).length ≤ 1000000 by have e1 := HH2.out.allsh; have e2 := HH2.out.cnt; have e3 := HH2.out.few; omega)
       have HSE := za (show a0b (allB q.sb) = a.sh from HH2.out.sh)
       have HSL := za (show a.sh.length ≤ 1000000 by have := HC.out; omega)
       go_wp2_with fail
       refine (@a8t (XO (upO who 11 w.heap.size) 2 wr.heap.size) _ _ _ _ _ _ HSH.out.1 HLSH.out.1 HLSH.out.2).mono ?_
       rintro e w6 ⟨v6, rfl, hv6, hb6⟩
       rw [HSE.out] at hv6
       obtain ⟨A6, c6, rfl⟩ := Kd.V_slice hv6
       have HB6 := za (below_step HB.out hb6)
       have HV6 := za (Kd.V_reads' hv6)
       have HI6 := za (HI1.out.below hb6)
       clear hv6 hb6
       go_wp2_with fail
       refine (q_has id w.heap.size A6 c6 a.sh w6 HV6.out.2.2 HV6.out.2.1 HSL.out HI6.out).mono ?_
       rintro e w7 ⟨rfl, hb7⟩
       have HBW7 := za (below_then HZ.out HZ.out.size (below_step HB6.out hb7))
       clear hb7
       cases hh : a.sh.any (isId id) with
       | true =>
        have HW := za (show a0p a id = (3, 0) by rw [HWH.out, if_pos hh])
        clear hh
        go_wp2
        exact bodyPost_ret (v := a0t (3, 0)) (by simp [results, Tryz.results22, go_sem, a0t]) rfl ⟨by rw [HW.out], HBW7.out⟩
       | false =>
        have HW := za (show a0p a id = (0, 0) by rw [HWH.out, hh]; rfl)
        clear hh
        go_wp2
        exact bodyPost_ret (v := a0t (0, 0)) (by simp [results, Tryz.results22, go_sem, a0t]) rfl ⟨by rw [HW.out], HBW7.out⟩
theorem b6d (f : Fn) (x y : Array Value) (W : World) : (binOp .eql 34 (.func f x y) .nilFunc).run Tryz.prog W = .ok (.bool false) W := by
 have h : ∀ d, (Op.equalIn (d + 1) 34 (.func f x y) .nilFunc).run Tryz.prog W = .ok false W := fun d => by simp [Op.equalIn, run_underlying Tryz.underlying34]
 simp only [binOp]
 simp [Op.equal, Op.maxDepth, h 9999]
theorem b4h {fid : FuncId} {cb : Array Value} {gone : Int → Bool} {Inv : World → Prop} (b : Bk) (A : Option Addr) (c : Nat) (w : World) (hf : AskI fid cb gone Inv) (hr : k33.C w A b.f1.length b.f1) (hc : b.f1.length ≤ c) (hl : b.f1.length ≤ 1000000) (h : Inv w) :
 Calls Tryz.prog 107 #[.agg #[.int .i64 b.f0, .slice A b.f1.length c], .func (.func fid) #[] cb] w fun x w' => ∃ A1 c1, x = .returned (.agg #[.int .i64 (mkB (b.f1.filter fun e => !gone e.f1)).f0, .slice A1 (mkB (b.f1.filter fun e => !gone e.f1)).f1.length c1]) ∧ Kd.V k33 33 w' w.heap.size (fun k => w.heap.size ≤ k) (.slice A1 (mkB (b.f1.filter fun e => !gone e.f1)).f1.length c1) (mkB (b.f1.filter fun e => !gone e.f1)).f1 ∧ Below w.heap.size w w' := by
 have hz := below_alloc (below_alloc (Below.refl w.heap.size w) (.cells #[.int .i64 b.f0, .slice A b.f1.length c] 109)) (.cells #[.int .i64 0, .slice none 0 0] 109)
 have HZ := za hz
 have HR := za (Kd.C_below hr hz)
 have HC := za (hf.stay _ _ h hz)
 have HF := za hf
 obtain ⟨fn, hk1, hk2, hk3⟩ := hf.known
 have HK := za hk1
 have HK2 := za hk2
 have HK3 := za hk3
 have HX := za (heap_alloc_new (w.alloc (.cells #[.int .i64 b.f0, .slice A b.f1.length c] 109)) (.cells #[.int .i64 0, .slice none 0 0] 109))
 have hnil := fun W => b6d (.func fid) #[] cb W
 obtain ⟨keep, hkeep⟩ : ∃ keep : E → Bool, keep = fun e => !gone e.f1 := ⟨_, rfl⟩
 have HKE := za hkeep
 rw [← hkeep]
 obtain ⟨L, hL⟩ : ∃ L, L = b.f1.filter keep := ⟨_, rfl⟩
 have HLE := za hL
 rw [← hL]
 clear hz hr h hf hk1 hk2 hk3 hkeep hL
 go_enter Tryz.func107, Tryz.ntmps107
 go_wp2
 obtain ⟨wz, hwz⟩ : ∃ wz : World, wz = (w.alloc (.cells #[.int .i64 b.f0, .slice A b.f1.length c] 109)).alloc (.cells #[.int .i64 0, .slice none 0 0] 109) := ⟨_, rfl⟩
 rw [← hwz] at HZ HR HC HX ⊢
 rw [World.size_alloc] at HX
 clear hwz
 go_loopw [5, 11] (fun q i wr => ∃ m : Nat, m ≤ b.f1.length ∧ i = .int .i64 m ∧ Aside0 (Kd.R k33 33 wr wz.heap.size (fun _ => True) q ((b.f1.take m).filter keep)) ∧ Aside0 (Below wz.heap.size wz wr)) (fun _ i _ => b.f1.length - (intOf i).toNat)
 case atStart => exact ⟨0, Nat.zero_le _, rfl, ⟨Kd.R_nil _ _ _ _ _⟩, ⟨Below.refl _ _⟩⟩
 case round =>
  obtain ⟨m, hm, rfl, HQ, HB⟩ := hrel
  by_cases hlt : m < b.f1.length
  · obtain ⟨e, he⟩ : ∃ e, b.f1[m]? = some e := ⟨_, List.getElem?_eq_getElem hlt⟩
    obtain ⟨ad, e1, y0, y1⟩ := a0e (Kd.C_below HR.out HB.out) (m : Int) (by omega) (by omega)
    subst e1
    rw [Int.toNat_natCast, b2u he] at y0 y1
    have HT := za (c2b (p := keep) he)
    have hql : ((b.f1.take m).filter keep).length ≤ 1000000 := Nat.le_trans (List.length_filter_le _ _) (by rw [List.length_take]; omega)
    have HQL := za hql
    have HI := za (HF.out.stay _ _ (HF.out.stay _ _ HC.out HB.out) (below_alloc (Below.refl wr.heap.size wr) (.cells #[.int .u64 e.f0, .int .i64 e.f1] 33)))
    have hkk : keep e = !gone e.f1 := by rw [HKE.out]
    clear he hql
    cases hi : gone e.f1 with
    | true =>
     have HT2 := HT.out
     rw [hkk, hi, if_neg (by simp), List.append_nil] at HT2
     have HT3 := za HT2
     have HP := za hi
     clear HT2 hi hkk
     go_wp2_with ((with_reducible refine gate_dst (N := 21) rfl ?_); go_loud (refine b1q (some 21) rfl (by rfl) HK.out HK2.out HK3.out (#[.int .i64 e.f1] ++ cb) rfl rfl (by (try simp only [List.map_toArray, List.map_cons, List.map_nil]); first | done | rfl) ?_; refine (HF.out.call e.f1 _ HI.out).mono ?_; rintro x w2 ⟨rfl, hb2⟩; rw [HP.out]; have HB2 := za (below_step (below_alloc (Below.refl wr.heap.size wr) (.cells #[.int .u64 e.f0, .int .i64 e.f1] 33)) hb2); clear hb2; refine ⟨_, rfl, ?_⟩))
     go_roundw
     case rel => exact ⟨m + 1, by omega, by go_num, ⟨by rw [HT3.out]; exact Kd.R_below HQ.out HB2.out⟩, ⟨below_step HB.out HB2.out⟩⟩
     case measure => simp [intOf]; omega
    | false =>
     have HT2 := HT.out
     rw [hkk, hi, if_pos (by simp)] at HT2
     have HT3 := za HT2
     have HP := za hi
     clear HT2 hi hkk
     have HX1 := za (heap_alloc_new wr (.cells #[.int .u64 e.f0, .int .i64 e.f1] 33))
     go_wp2_with (first
      | ((with_reducible refine gate_dst (N := 21) rfl ?_); go_loud (refine b1q (some 21) rfl (by rfl) HK.out HK2.out HK3.out (#[.int .i64 e.f1] ++ cb) rfl rfl (by (try simp only [List.map_toArray, List.map_cons, List.map_nil]); first | done | rfl) ?_; refine (HF.out.call e.f1 _ HI.out).mono ?_; rintro x w2 ⟨rfl, hb2⟩; rw [HP.out]; have hx1 := blk_below HX1.out hb2; have k0 : w2.cell? ⟨wr.heap.size, 0, none⟩ = some (.int .u64 e.f0) := (blk_cell hx1 0).trans rfl; have k1 : w2.cell? ⟨wr.heap.size, 1, none⟩ = some (.int .i64 e.f1) := (blk_cell hx1 1).trans rfl; have HB2 := za (below_step (below_alloc (Below.refl wr.heap.size wr) (.cells #[.int .u64 e.f0, .int .i64 e.f1] 33)) hb2); have HQ2 := za (Kd.R_below HQ.out HB2.out); have HBB := za (below_step HB.out HB2.out); clear hb2 hx1; refine ⟨_, rfl, ?_⟩))
      | ((with_reducible refine gate_builtin (b := .append) (xs := #[.tmp 24, .tmp 26]) rfl ?_); at_builtin; go_loud (refine Kd.R_append k33 (w0 := wz) wz.heap.size rfl (.tmp 24) (.tmp 26) 35 33 (.agg #[(.int .u64 0), (.int .i64 0)]) 16 rfl Tryz.underlying35 a0m rfl (by decide) (by decide) u5 ((b.f1.take m).filter keep) e [.int .u64 e.f0, .int .i64 e.f1] (fun _ => True) (fun _ => False) rfl (by simp [Act.eval]) (a0v _ _ _ e) (fun _ hk => hk.elim) (fun _ _ => trivial) HQ2.out HBB.out HBB.out.size (by have := HQL.out; omega) ?_; intro v1 w3 ho1 hb1 hg1 hat1; have HQ1 := za ho1; have HB1 := za hb1; clear ho1 hb1 hg1 hat1)))
     go_roundw
     case rel => exact ⟨m + 1, by omega, by go_num, ⟨by rw [HT3.out]; exact HQ1.out⟩, HB1⟩
     case measure => simp [intOf]; omega
  · obtain rfl : m = b.f1.length := by omega
    rw [List.take_length] at HQ
    have HOB : Aside0 (Kd.R k33 33 wr wz.heap.size (fun _ => True) u5 L) := by rw [HLE.out]; exact HQ
    have HOL := za (show L.length ≤ 1000000 by rw [HLE.out]; exact Nat.le_trans (List.length_filter_le _ _) hl)
    obtain ⟨A1, c1, e1⟩ := Kd.R_slice HOB.out
    subst e1
    have HRD := za (Kd.R_reads' HOB.out)
    have HOF := za (show block_Of.f 100 L = some ((mkB L).f0, (mkB L).f1) from a4n 100 _ (by have := HOL.out; omega) (by omega))
    clear HQ
    go_wp2_with fail
    refine (block_Of.calls 100 A1 c1 L _ _ wr HRD.out.2.2 HRD.out.2.1 HOF.out).mono ?_
    rintro y w4 ⟨v4, rfl, hv4, hb4⟩
    obtain ⟨A4, c4, rfl⟩ := Kd.V_slice hv4
    have HV4 := za hv4
    have HB4 := za (below_then HB.out HB.out.size hb4)
    have hx := (HB4.out.block _ (Array.getElem?_eq_some_iff.1 HX.out).1).trans HX.out
    have x0 : w4.cell? ⟨w.heap.size + 1, 0, none⟩ = some (.int .i64 0) := by simp [World.cell?, hx]
    have x1 : w4.cell? ⟨w.heap.size + 1, 1, none⟩ = some (.slice none 0 0) := by simp [World.cell?, hx]
    have f0 : w4.frozen? ⟨w.heap.size + 1, 0, none⟩ = false := by simp [World.frozen?, hx]
    have f1 : w4.frozen? ⟨w.heap.size + 1, 1, none⟩ = false := by simp [World.frozen?, hx]
    clear hv4 hb4 hx
    have HWZ : Aside0 (w.heap.size + 1 < wr.heap.size) := ⟨Nat.lt_of_lt_of_le (Array.getElem?_eq_some_iff.1 HX.out).1 HB.out.size⟩
    have HV5 := za (Kd.V_mono (Kd.V_far (Kd.V_far HV4.out (p := ⟨w.heap.size + 1, 0, none⟩) (fun k hk => by have := HWZ.out; show k ≠ w.heap.size + 1; omega) (.int .i64 (mkB L).f0)) (p := ⟨w.heap.size + 1, 1, none⟩) (fun k hk => by have := HWZ.out; show k ≠ w.heap.size + 1; omega) (.slice A4 (mkB L).f1.length c4)) (ok' := fun k => w.heap.size ≤ k) (fun k hk => by have := HWZ.out; omega))
    go_wp2
    exact bodyPost_ret (v := .agg #[.int .i64 (mkB L).f0, .slice A4 (mkB L).f1.length c4]) (by simp [results, Tryz.results107, go_sem, x0, x1]) rfl ⟨_, _, rfl, HV5.out, ((below_step HZ.out HB4.out).setCell (Nat.le_succ _) _).setCell (Nat.le_succ _) _⟩
end Go.Proofs.YthghkglkifeagaaGreat.V
