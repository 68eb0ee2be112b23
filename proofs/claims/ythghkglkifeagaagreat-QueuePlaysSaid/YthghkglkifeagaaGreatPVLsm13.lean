-- a text of this work, without what this claim doesn't use (wip/shake.py)
import Derived.Test.YthghkglkifeagaaGreatPVLsm12
import Derived.Test.YthghkglkifeagaaGreatPVPblock
import Derived.WalkKit
import Derived.Test.YthghkglkifeagaaGreatPVLsm6b
import Derived.Test.YthghkglkifeagaaGreatPVPblockb
import Derived.Test.YthghkglkifeagaaGreatPVTB
import Derived.KernelRfl
set_option maxRecDepth 100000
set_option maxHeartbeats 8000000
set_option linter.unusedVariables false
set_option linter.unusedSimpArgs false
namespace Go.Proofs.YthghkglkifeagaaGreat.V
open Go.RowKit Go.Proofs.YthghkglkifeagaaGreatW.PrintWords Go.Proofs.YthghkglkifeagaaGreatW.PrintLast Go.Proofs.YthghkglkifeagaaGreatW.PrintMore
theorem a5d {α : Type} (a b : List α) (n : Nat) (h : a.length = n) : (a ++ b).take n = a := by subst h; simp
theorem c1y {α : Type} (a b : List α) (n : Nat) (h : a.length = n) : (a ++ b).drop n = b := by subst h; simp
abbrev CP := Value × Value
def encC (x : CP) : List Value := [x.1, x.2]
def a0g (l : List CP) : List Value := l.flatMap encC
def OneC (l : List CP) : Prop := ∀ x ∈ l, x.1.oneCell' = true ∧ x.2.oneCell' = true
theorem a4c (a : CP) (l : List CP) : a0g (a :: l) = encC a ++ a0g l := rfl
theorem b6z (l m : List CP) : a0g (l ++ m) = a0g l ++ a0g m := by simp [a0g]
theorem a2z (l : List CP) : (a0g l).length = l.length * 2 := by
 induction l with
 | nil => rfl
 | cons a l ih => rw [a4c, List.length_append, ih, List.length_cons]; simp [encC]; omega
theorem a3n {x : CP} (h : x.1.oneCell' = true ∧ x.2.oneCell' = true) : ∀ v ∈ encC x, v.oneCell' = true := by
 intro v hv
 simp only [encC, List.mem_cons, List.not_mem_nil, or_false] at hv
 rcases hv with rfl | rfl
 · exact h.1
 · exact h.2
theorem b3a {l : List CP} (h : OneC l) : ∀ v ∈ a0g l, v.oneCell' = true := by
 intro v hv
 obtain ⟨e, he, hv⟩ := List.mem_flatMap.1 hv
 exact a3n (h e he) v hv
theorem b1j {l : List CP} (h : OneC l) (i : Nat) : OneC (l.drop i) := fun x hx => h x (List.mem_of_mem_drop hx)
theorem a8v (l : List CP) (n : Nat) : (a0g l).take (n * 2) = a0g (l.take n) := by
 induction l generalizing n with
 | nil => simp [a0g]
 | cons a l ih =>
  cases n with
  | zero => simp [a0g]
  | succ n =>
   rw [a4c, List.take_succ_cons, a4c, Nat.succ_mul, List.take_append]
   have : (encC a).length = 2 := rfl
   rw [this, show n * 2 + 2 - 2 = n * 2 by omega, ih, List.take_of_length_le (by rw [this]; omega)]
theorem a9j (l : List CP) (n : Nat) : (a0g l).drop (n * 2) = a0g (l.drop n) := by
 induction l generalizing n with
 | nil => simp [a0g]
 | cons a l ih =>
  cases n with
  | zero => simp [a0g]
  | succ n =>
   rw [a4c, List.drop_succ_cons, Nat.succ_mul, List.drop_append]
   have : (encC a).length = 2 := rfl
   rw [this, show n * 2 + 2 - 2 = n * 2 by omega, ih, List.drop_of_length_le (by rw [this]; omega), List.nil_append]
theorem b2k (l : List CP) (x : CP) (i : Nat) (rest : List Value) (hi : i ≤ l.length) : (a0g (l.take i) ++ encC x ++ (a0g (l.drop i) ++ rest)).take ((l.length + 1) * 2) = a0g (l.take i ++ x :: l.drop i) := by
 have h : a0g (l.take i ++ x :: l.drop i) = a0g (l.take i) ++ encC x ++ a0g (l.drop i) := by rw [b6z, a4c, List.append_assoc]
 rw [h, ← List.append_assoc]
 refine a5d _ _ _ ?_
 simp only [List.length_append, a2z, List.length_take, List.length_drop]
 show _ + 2 + _ = _
 rw [Nat.min_eq_left hi]
 omega
theorem b6r (w : World) (g c i vb vc : Nat) (l : List CP) (x : CP) (cur curv : Array Value) (ho : OneC l) (hx : x.1.oneCell' = true ∧ x.2.oneCell' = true) (hi : i < l.length) (hroom : l.length + 1 ≤ c) (hc : c ≤ 9223372036854775807)
 (hg : w.heap[g]? = some (.cells cur 109 (0, 0))) (hs : cur.size = c * 2) (ht : cur.toList.take (l.length * 2) = a0g l)
 (hvg : w.heap[vb]? = some (.cells curv 109 (0, 0))) (hvs : 2 ≤ curv.size) (hvt : curv.toList.take 2 = encC x) (hne : vb ≠ g) :
 Calls Tryz.prog 77 #[.slice (some ⟨g, 0, none⟩) l.length c, .int .i64 i, .slice (some ⟨vb, 0, none⟩) 1 vc] w fun e w' =>
  e = .returned (.slice (some ⟨g, 0, none⟩) (l.length + 1) c) ∧ ∃ C : Array Value, w'.heap[g]? = some (.cells C 109 (0, 0)) ∧ C.size = c * 2 ∧ C.toList.take ((l.length + 1) * 2) = a0g (l.take i ++ x :: l.drop i) ∧ OnlyG w w' g := by
 obtain ⟨n, hn⟩ : ∃ n, n = l.length := ⟨_, rfl⟩
 have hsz : (Tryz.prog.info? 109).map (·.size) = some 2 := by kernel_rfl
 have u96 := Tryz.underlying96
 have mixed : Tryz.prog.follows .mixedOrders = true := by kernel_rfl
 have hsize : ∀ w, (sizeOf 109).run Tryz.prog w = .ok 2 w := fun w => by
  cases hq : Tryz.prog.info? 109 with
  | none => rw [hq] at hsz; simp at hsz
  | some i0 =>
   have : i0.size = 2 := by rw [hq] at hsz; simpa using hsz
   simp [sizeOf, typeInfo, hq, this]
 have hov : ∀ lb cb o, (callFunc 103 #[.slice (some ⟨vb, 0, none⟩) 1 vc, .slice (some ⟨g, o, none⟩) lb cb]).run Tryz.prog w = .ok (.value (.bool false)) w := fun lb cb o => by
  rw [run_callFunc_extern Tryz.func103 (by kernel_rfl) (by kernel_rfl) (by kernel_rfl) (e := Extern.SlicesOverlaps.overlaps #[96, 96] #[4]) (by kernel_rfl),
   Lib.run_overlaps_apart w 96 4 109 Tryz.underlying96 2 hsize ⟨vb, 0, none⟩ ⟨g, o, none⟩ 1 vc lb cb hne 109 109 _ _ (b0k hvg) (b0k hg) (by omega) (a1h hvg 0) (a1h hvg _)]
  rfl
 obtain ⟨C1, hC1⟩ : ∃ C1 : List Value, C1 = cur.toList.take ((i + 1) * 2) ++ a0g (l.drop i) ++ cur.toList.drop ((i + 1) * 2 + (a0g (l.drop i)).length) := ⟨_, rfl⟩
 have hdl : (a0g (l.drop i)).length = (l.length - i) * 2 := by rw [a2z, List.length_drop]
 have hC1l : C1.length = c * 2 := by
  rw [hC1]
  simp only [List.length_append, List.length_take, List.length_drop, hdl, Array.length_toList, hs]
  omega
 have hcp1 : ∀ ty dc sc, (Builtin.copy_ #[96, 96] ty #[.slice (some ⟨g, (i + 1) * 2, none⟩) (n - i) dc, .slice (some ⟨g, i * 2, none⟩) (n + 1 - i) sc]).run Tryz.prog w.drew = .ok (goInt ((n - i : Nat) : Int)) (w.drew.setRow g C1.toArray) := fun ty dc sc => by
  have := a3p (P := Tryz.prog) w.drew 96 96 ty 109 g ((i + 1) * 2) (n - i) dc ⟨g, i * 2, none⟩ (n + 1 - i) sc cur 109 (a0g (l.drop i)) Tryz.underlying96 hsz hg (by rw [hdl, hn]; simp only [Nat.min_def]; split <;> omega)
   (fun j v hj => by
    rw [Addr.add_lit, a1e (w := w.drew) hg]
    rw [← a9j, ← ht, List.getElem?_drop, List.getElem?_take] at hj
    split at hj
    · simpa using hj
    · cases hj) (by rw [hdl, hs]; omega) (b3a (b1j ho i))
  rw [this, ← hC1]
  congr 2
  simp only [Nat.min_def]
  split <;> omega
 have hg1 : (w.drew.setRow g C1.toArray).heap[g]? = some (.cells C1.toArray 109 (0, 0)) := setRow_heap w.drew g cur _ _ _ hg
 have hcp2 : ∀ ty dc, (Builtin.copy_ #[96, 96] ty #[.slice (some ⟨g, i * 2, none⟩) (n + 1 - i) dc, .slice (some ⟨vb, 0, none⟩) 1 vc]).run Tryz.prog (w.drew.setRow g C1.toArray) = .ok (goInt 1) ((w.drew.setRow g C1.toArray).setRow g (C1.take (i * 2) ++ encC x ++ C1.drop (i * 2 + 2)).toArray) := fun ty dc => by
  have h1 : Nat.min 1 (n + 1 - i) = 1 := by simp only [Nat.min_def]; split <;> omega
  have := a3p (P := Tryz.prog) (w.drew.setRow g C1.toArray) 96 96 ty 109 g (i * 2) (n + 1 - i) dc ⟨vb, 0, none⟩ 1 vc C1.toArray 109 (encC x) Tryz.underlying96 hsz hg1 (by rw [h1]; rfl)
   (fun j v hj => by
    have hv1 : (w.drew.setRow g C1.toArray).heap[vb]? = some (.cells curv 109 (0, 0)) := by rw [setRow_other _ _ _ _ hne]; exact hvg
    rw [Addr.add_lit, a1e hv1]
    rw [← hvt, List.getElem?_take] at hj
    split at hj
    · simpa using hj
    · cases hj) (by simp only [List.size_toArray, hC1l]; show i * 2 + 2 ≤ _; omega) (a3n hx)
  rw [this, h1]
  rfl
 have hend : ∃ C : Array Value, ((w.drew.setRow g C1.toArray).setRow g (C1.take (i * 2) ++ encC x ++ C1.drop (i * 2 + 2)).toArray).heap[g]? = some (.cells C 109 (0, 0)) ∧ C.size = c * 2 ∧ C.toList.take ((l.length + 1) * 2) = a0g (l.take i ++ x :: l.drop i) ∧
  OnlyG w ((w.drew.setRow g C1.toArray).setRow g (C1.take (i * 2) ++ encC x ++ C1.drop (i * 2 + 2)).toArray) g := by
  have hlen : (cur.toList.take ((i + 1) * 2)).length = (i + 1) * 2 := by rw [List.length_take, Array.length_toList, hs]; omega
  have h1 : C1.take (i * 2) = a0g (l.take i) := by
   rw [hC1, List.append_assoc, List.take_append_of_le_length (by rw [hlen]; omega), List.take_take, Nat.min_eq_left (by omega), ← a8v, ← ht, List.take_take, Nat.min_eq_left (by omega)]
  have h2 : C1.drop (i * 2 + 2) = a0g (l.drop i) ++ cur.toList.drop ((i + 1) * 2 + (a0g (l.drop i)).length) := by
   rw [hC1, List.append_assoc]
   exact c1y _ _ _ (by rw [hlen]; omega)
  refine ⟨_, setRow_heap _ g _ _ _ _ hg1, ?_, ?_, ?_⟩
  · simp only [List.size_toArray, List.length_append, List.length_take, List.length_drop, hC1l]
    show min (i * 2) (c * 2) + 2 + (c * 2 - (i * 2 + 2)) = c * 2
    rw [Nat.min_eq_left (by omega)]
    omega
  · rw [h1, h2]
    exact b2k l x i _ (by omega)
  · exact (((OnlyG.refl w g).drew).setRow _).setRow _
 have HEND := za hend
 clear hend
 rw [← hn] at hi hroom ⊢
 rw [← hn] at HEND
 clear hn ht hs hC1l hdl hg1 hsize
 have HC1 := za hC1
 clear hC1
 have hw1 : IntKind.i64.wrap ((i : Int) + 1) = (i : Int) + 1 := by rw [IntKind.wrap_i64]; omega
 have hb1 : (0 : Int) ≤ (i : Int) + 1 := by omega
 have hin : i ≤ n := by omega
 have htn : ((i : Int) + 1).toNat = i + 1 := by omega
 have hb2 : ¬ (c = i + 1) := by omega
 have hb3 : (i : Int) ≤ (n : Int) + 1 := by omega
 have hb4 : ¬ (c = i) := by omega
 go_enter Tryz.func77, Tryz.ntmps77
 go_wp2_with (simp only [hov])
 go_region_law_o (refine step_copy_runI rfl _ _ 96 96 rfl _ _ (by simp [Act.eval, Act.put]) (by simp [Act.eval, Act.put]) (hcp1 _ _ _) ?_)
 go_wp2_with (at_builtin; refine wpList_copy_runI _ rfl _ _ 96 96 rfl _ _ rfl rfl (hcp2 _ _) ?_)
 go_ret
 first
  | exact ⟨rfl, HEND.out⟩
  | (refine ⟨rfl, ?_⟩; have h := HEND.out; rw [List.append_assoc (List.take (i * 2) C1)] at h; exact h)
theorem c0w (w : World) (g i vb vc : Nat) (l : List CP) (x : CP) (cur curv : Array Value) (ho : OneC l) (hx : x.1.oneCell' = true ∧ x.2.oneCell' = true) (hi : i < l.length) (hl : l.length < 1000000000)
 (hg : w.heap[g]? = some (.cells cur 109 (0, 0))) (hs : cur.size = l.length * 2) (ht : cur.toList.take (l.length * 2) = a0g l)
 (hvg : w.heap[vb]? = some (.cells curv 109 (0, 0))) (hvs : 2 ≤ curv.size) (hvt : curv.toList.take 2 = encC x) :
 Calls Tryz.prog 77 #[.slice (some ⟨g, 0, none⟩) l.length l.length, .int .i64 i, .slice (some ⟨vb, 0, none⟩) 1 vc] w fun e w' =>
  ∃ G, e = .returned (.slice (some ⟨w.heap.size, 0, none⟩) (l.length + 1) G) ∧ l.length + 1 ≤ G ∧ G ≤ 9223372036854775807 ∧ ∃ C : Array Value, w'.heap[w.heap.size]? = some (.cells C 109 (0, 0)) ∧ C.size = G * 2 ∧ C.toList.take ((l.length + 1) * 2) = a0g (l.take i ++ x :: l.drop i) ∧ Below w.heap.size w w' := by
 obtain ⟨n, hn⟩ : ∃ n, n = l.length := ⟨_, rfl⟩
 have u96 := Tryz.underlying96
 have mixed : Tryz.prog.follows .mixedOrders = true := by kernel_rfl
 have hsz : (Tryz.prog.info? 109).map (·.size) = some 2 := by kernel_rfl
 have hgl : g < w.heap.size := (Array.getElem?_eq_some_iff.1 hg).1
 have hvl : vb < w.heap.size := (Array.getElem?_eq_some_iff.1 hvg).1
 obtain ⟨i0, hi0, hzz⟩ := Option.map_eq_some_iff.1 a4g
 simp only [Prod.mk.injEq] at hzz
 obtain ⟨hz0, hz1, hz2⟩ := hzz
 have hold : (Builtin.firstCells i0.size i (.slice (some ⟨g, 0, none⟩) i l.length)).run Tryz.prog w.drew = .ok (a0g (l.take i)).toArray w.drew := by
  rw [hz1]
  refine run_firstCells_some w.drew 2 i ⟨g, 0, none⟩ i l.length (a0g (l.take i)) (by rw [a2z, List.length_take]; omega) (fun j v hj => ?_)
  rw [Addr.add_lit, a1e (w := w.drew) hg]
  rw [← a8v, ← ht, List.take_take, List.getElem?_take] at hj
  split at hj
  · simpa using hj
  · cases hj
 obtain ⟨G, hG⟩ : ∃ G, G = grownCap w (n + 1) n 109 := ⟨_, rfl⟩
 obtain ⟨ROW, hROW⟩ : ∃ ROW : Array Value, ROW = (a0g (l.take i)).toArray ++ Builtin.zeroCells (Value.agg #[(.int .i64 0), (.slice none 0 0)]).cells (n + 1 - i) ++ Builtin.zeroCells (Value.agg #[(.int .i64 0), (.slice none 0 0)]).cells (G - (n + 1)) := ⟨_, rfl⟩
 have hrz : ∀ ty, (Builtin.append_ #[96, 3] ty #[.slice (some ⟨g, 0, none⟩) i n, .int .i64 ((n : Int) + 1 - (i : Int))]).run Tryz.prog w =
  .ok (.slice (some ⟨w.heap.size, 0, none⟩) (n + 1) G) (w.drew.alloc (.cells ROW 109)) := fun ty => by
  have h := Lib.run_append_grow_zeros (P := Tryz.prog) w 96 3 ty 109 i0 _ .i64 .i64 Tryz.underlying96 Tryz.underlying3 hi0 hz0 (some ⟨g, 0, none⟩) i l.length (a0g (l.take i)) hold (n + 1 - i) (by omega) (by rw [hz1]; omega) (by omega) (by omega) (by rw [hz2]; omega)
   (by rw [hz2, show i + (n + 1 - i) = n + 1 by omega]; exact growslice_fits (by omega) (by omega))
  rw [show i + (n + 1 - i) = n + 1 by omega, ← hn, ← hG, ← hROW] at h
  rw [show (n : Int) + 1 - (i : Int) = ((n + 1 - i : Nat) : Int) by omega]
  exact h
 have hGn : n + 1 ≤ G := by rw [hG]; exact grownCap_ge w _ _ _
 have hG63 : G ≤ 9223372036854775807 := by
  have := grownCap_le_maxLen w (n + 1) n 109 (by unfold maxLen; omega)
  rw [← hG] at this
  unfold maxLen at this
  omega
 have hRs : ROW.size = G * 2 := by
  rw [hROW]
  simp only [Array.size_append, List.size_toArray, a2z, List.length_take, Builtin.zeroCells, Array.size_map, Array.size_range]
  show min i l.length * 2 + (n + 1 - i) * 2 + (G - (n + 1)) * 2 = G * 2
  rw [Nat.min_eq_left (by omega)]
  omega
 have hRt : ROW.toList.take (i * 2) = a0g (l.take i) := by
  rw [hROW, Array.append_assoc, Array.toList_append]
  exact a5d _ _ _ (by simp only [a2z, List.length_take]; rw [Nat.min_eq_left (by omega)])
 obtain ⟨N, hN⟩ : ∃ N, N = w.heap.size := ⟨_, rfl⟩
 obtain ⟨W1, hW1⟩ : ∃ W1, W1 = w.drew.alloc (.cells ROW 109) := ⟨_, rfl⟩
 have hH : W1.heap[N]? = some (.cells ROW 109 (0, 0)) := by rw [hW1, hN]; show (w.heap.push _)[w.heap.size]? = _; simp
 have hHg : W1.heap[g]? = some (.cells cur 109 (0, 0)) := by rw [hW1, ← hg]; show (w.heap.push _)[g]? = _; simp [Array.getElem?_push, Nat.ne_of_lt hgl]
 have hHv : W1.heap[vb]? = some (.cells curv 109 (0, 0)) := by rw [hW1, ← hvg]; show (w.heap.push _)[vb]? = _; simp [Array.getElem?_push, Nat.ne_of_lt hvl]
 obtain ⟨C1, hC1⟩ : ∃ C1 : List Value, C1 = ROW.toList.take (i * 2) ++ encC x ++ ROW.toList.drop (i * 2 + 2) := ⟨_, rfl⟩
 obtain ⟨C2, hC2⟩ : ∃ C2 : List Value, C2 = C1.take ((i + 1) * 2) ++ a0g (l.drop i) ++ C1.drop ((i + 1) * 2 + (a0g (l.drop i)).length) := ⟨_, rfl⟩
 have hdl : (a0g (l.drop i)).length = (l.length - i) * 2 := by rw [a2z, List.length_drop]
 have hC1l : C1.length = G * 2 := by
  rw [hC1]
  simp only [List.length_append, List.length_take, List.length_drop, Array.length_toList, hRs]
  show min (i * 2) (G * 2) + 2 + (G * 2 - (i * 2 + 2)) = G * 2
  rw [Nat.min_eq_left (by omega)]
  omega
 have hC2l : C2.length = G * 2 := by
  rw [hC2]
  simp only [List.length_append, List.length_take, List.length_drop, hdl, hC1l]
  rw [Nat.min_eq_left (by omega)]
  omega
 have hcpA : ∀ (W : World), W.heap = W1.heap → ∀ ty dc, (Builtin.copy_ #[96, 96] ty #[.slice (some ⟨N, i * 2, none⟩) (n + 1 - i) dc, .slice (some ⟨vb, 0, none⟩) 1 vc]).run Tryz.prog W = .ok (goInt 1) (W.setRow N C1.toArray) := fun W hW ty dc => by
  have h1 : Nat.min 1 (n + 1 - i) = 1 := by simp only [Nat.min_def]; split <;> omega
  have := a3p (P := Tryz.prog) W 96 96 ty 109 N (i * 2) (n + 1 - i) dc ⟨vb, 0, none⟩ 1 vc ROW 109 (encC x) Tryz.underlying96 hsz (by rw [hW]; exact hH) (by rw [h1]; rfl)
   (fun j v hj => by
    rw [Addr.add_lit, a1e (w := W) (by rw [hW]; exact hHv)]
    rw [← hvt, List.getElem?_take] at hj
    split at hj
    · simpa using hj
    · cases hj) (by rw [hRs]; show i * 2 + 2 ≤ _; omega) (a3n hx)
  rw [this, h1, hC1]
  rfl
 have hgN : g ≠ N := by omega
 have hcpB : ∀ (W : World), W.heap = (W1.setRow N C1.toArray).heap → ∀ ty dc sc, (Builtin.copy_ #[96, 96] ty #[.slice (some ⟨N, (i + 1) * 2, none⟩) (n - i) dc, .slice (some ⟨g, i * 2, none⟩) (n - i) sc]).run Tryz.prog W = .ok (goInt ((n - i : Nat) : Int)) (W.setRow N C2.toArray) := fun W hW ty dc sc => by
  have := a3p (P := Tryz.prog) W 96 96 ty 109 N ((i + 1) * 2) (n - i) dc ⟨g, i * 2, none⟩ (n - i) sc C1.toArray 109 (a0g (l.drop i)) Tryz.underlying96 hsz (by rw [hW]; exact setRow_heap _ _ _ _ _ _ hH) (by rw [hdl, hn]; simp [Nat.min_def])
   (fun j v hj => by
    rw [Addr.add_lit, a1e (w := W) (by rw [hW, setRow_other _ _ _ _ hgN]; exact hHg)]
    rw [← a9j, ← ht, List.getElem?_drop, List.getElem?_take] at hj
    split at hj
    · simpa using hj
    · cases hj) (by simp only [List.size_toArray, hdl, hC1l]; omega) (b3a (b1j ho i))
  rw [this, hC2]
  simp [Nat.min_def]
 have hend : ∀ W : World, W.heap = ((W1.setRow N C1.toArray).setRow N C2.toArray).heap → W.heap[N]? = some (.cells C2.toArray 109 (0, 0)) ∧ C2.toArray.size = G * 2 ∧ C2.toArray.toList.take ((n + 1) * 2) = a0g (l.take i ++ x :: l.drop i) := fun W hW => by
  refine ⟨by rw [hW]; exact setRow_heap _ _ _ _ _ _ (setRow_heap _ _ _ _ _ _ hH), by simpa using hC2l, ?_⟩
  have hA : (ROW.toList.take (i * 2) ++ encC x).length = (i + 1) * 2 := by
   rw [List.length_append, List.length_take, Array.length_toList, hRs]
   show min (i * 2) (G * 2) + 2 = _
   rw [Nat.min_eq_left (by omega)]
   omega
  have h1 : C1.take ((i + 1) * 2) = a0g (l.take i) ++ encC x := by
   rw [hC1, ← hRt]
   exact a5d _ _ _ hA
  rw [hC2, h1, hn, List.append_assoc (a0g (l.take i) ++ encC x)]
  exact b2k l x i _ (by omega)
 have hbel : ∀ W : World, W = (((w.alloc (.cells ROW 109)).drew.setRow N C1.toArray).drew).setRow N C2.toArray → Below N w W := fun W hW => by
  rw [hW]
  refine below_setRow (below_drew (below_setRow (below_drew ?_) (Nat.le_refl _) _)) (Nat.le_refl _) _
  rw [hN]
  exact below_alloc (Below.refl _ _) _
 have HEND := za hend
 have HBEL := za hbel
 have HGN := za (show n + 1 ≤ G ∧ G ≤ 9223372036854775807 from ⟨hGn, hG63⟩)
 rw [← hn] at hi ⊢
 subst hN
 have HW1 := za hW1
 rw [← hW1] at hrz
 clear hn ht hs hC1l hC2l hdl hend hbel hH hHg hHv hC1 hC2 hRt hRs hROW hG hold hi0 hz0 hz1 hz2 hl
 subst hW1
 have hw1 : IntKind.i64.wrap ((i : Int) + 1) = (i : Int) + 1 := by rw [IntKind.wrap_i64]; omega
 have hb1 : (0 : Int) ≤ (i : Int) + 1 := by omega
 have hin : i ≤ n := by omega
 have htn : ((i : Int) + 1).toNat = i + 1 := by omega
 have hb3 : (i : Int) ≤ (n : Int) := by omega
 have hGi : ¬ (G = i) := by omega
 have hGim : ¬ (G = i + 1) := by omega
 have hci : ¬ (n = i) := by omega
 have hcpA1 := hcpA ((w.alloc (.cells ROW 109)).drew) rfl
 have HCB := za (hcpB ((((w.alloc (.cells ROW 109)).drew).setRow w.heap.size C1.toArray).drew) rfl)
 clear hcpA hcpB
 go_enter Tryz.func77, Tryz.ntmps77
 go_wp2_with (at_builtin; refine Lib.wpList_append_run _ rfl _ _ _ _ rfl _ _ rfl rfl _ _ (hrz _) ?_)
 go_region_law_o (refine step_copy_runI rfl _ _ 96 96 rfl (.slice (some ⟨w.heap.size, (i + 1) * 2, none⟩) (n - i) (G - (i + 1))) (.slice (some ⟨g, i * 2, none⟩) (n - i) (n - i)) (by simp [Act.eval, Act.put]) (by simp [Act.eval, Act.put]) (HCB.out 3 (G - (i + 1)) (n - i)) ?_)
 go_wp2
 go_ret
 exact ⟨G, rfl, HGN.out.1, HGN.out.2, _, (HEND.out _ rfl).1, (HEND.out _ rfl).2.1, (HEND.out _ rfl).2.2, HBEL.out _ rfl⟩
theorem b6l {rows : List (List Value)} (h : ∀ c ∈ rows, c.length = 2 ∧ ∀ u ∈ c, u.oneCell' = true) : ∃ ps : List CP, rows = ps.map encC ∧ OneC ps := by
 induction rows with
 | nil => exact ⟨[], rfl, by intro x hx; simp at hx⟩
 | cons c r ih =>
  obtain ⟨ps, hp, ho⟩ := ih (fun q hq => h q (by simp [hq]))
  obtain ⟨h1, h2⟩ := h c (by simp)
  match c, h1, h2 with
  | [u, v], _, h2 =>
   refine ⟨(u, v) :: ps, by rw [hp]; rfl, ?_⟩
   intro x hx
   rcases List.mem_cons.1 hx with rfl | hx
   · exact ⟨h2 u (by simp), h2 v (by simp)⟩
   · exact ho x hx
theorem a8b (ps : List CP) : (ps.map encC).flatten = a0g ps := by
 induction ps with
 | nil => rfl
 | cons a l ih => rw [List.map_cons, List.flatten_cons, ih, a4c]
theorem b5s (w : World) (base : Nat) (ok : Nat → Prop) (A : Option Addr) (c : Nat) (bs : List Bk) (m : Bk) (V : Option Addr) (vc : Nat) (hl : bs.length ≤ 1000)
 (HR : Kd.N k109 109 w base ok (.slice A bs.length c) bs) (HV : Kd.F k109 w (fun k => ok k ∧ some k ≠ (Value.slice A bs.length c).ownBlock) V 1 [m]) (hfresh : ∀ k, w.heap.size ≤ k → ok k) (hbase : base ≤ w.heap.size) :
 Calls Tryz.prog 77 #[.slice A bs.length c, .int .i64 bs.length, .slice V 1 vc] w fun e w' => ∃ v, e = .returned v ∧ Kd.N k109 109 w' base ok v (bs ++ [m]) ∧ w.grownBy w' (Value.slice A bs.length c).ownBlock := by
 have HO := za HR
 have HC := za HV
 have HL := za hl
 have HB := za hbase
 have HF := za hfresh
 have hlc := (Kd.N_reads' HR).2.1
 have hl63 : c ≤ 9223372036854775807 := by
  cases A with
  | none =>
   obtain ⟨_, rows, _, hR, _⟩ := HR
   obtain ⟨_, inner, ⟨_, h2⟩, _⟩ := hR
   rcases h2 with ⟨he, _⟩ | ⟨g, cap, cur, he, _⟩
   · injection he with _ _ hc; omega
   · cases he
  | some ad =>
   obtain ⟨_, rows, _, hR, _⟩ := HR
   obtain ⟨_, inner, ⟨_, h2⟩, _⟩ := hR
   rcases h2 with ⟨he, _⟩ | ⟨g, cap, cur, he, _, _, _, hcm, _⟩
   · cases he
   · injection he with _ _ hc; unfold maxLen at hcm; omega
 clear HR HV hl hbase hfresh
 cases A with
 | none =>
  go_enter Tryz.func77, Tryz.ntmps77
  go_wp2_with ((with_reducible refine gate_builtin (b := .append) (xs := #[.tmp 23, .tmp 24]) rfl ?_); at_builtin; go_loud (refine Kd.N_append_rows k109 (w0 := w) base rfl (.tmp 23) (.tmp 24) 96 109 (.agg #[.int .i64 0, .slice none 0 0]) 32 rfl Tryz.underlying96 a4g rfl (by decide) (by decide) (.slice none bs.length c) bs [m] _ _ _ ok _ rfl rfl HO.out HC.out (fun _ h => h) HF.out (Below.refl _ _) HB.out ?aL ?_; (case aL => have := HL.out; omega); intro v2 w2 ho hb hg hat; have n0_ := za hg; have n1_ := za ho; clear HB; clear HO; have HB := n0_; have HO := n1_; clear n0_ n1_; clear ho hb hg hat))
  go_ret
  exact ⟨_, rfl, HO.out, HB.out⟩
 | some ad =>
  go_enter Tryz.func77, Tryz.ntmps77
  go_wp2_with ((with_reducible refine gate_builtin (b := .append) (xs := #[.tmp 23, .tmp 24]) rfl ?_); at_builtin; go_loud (refine Kd.N_append_rows k109 (w0 := w) base rfl (.tmp 23) (.tmp 24) 96 109 (.agg #[.int .i64 0, .slice none 0 0]) 32 rfl Tryz.underlying96 a4g rfl (by decide) (by decide) (.slice (some ad) bs.length c) bs [m] _ _ _ ok _ rfl rfl HO.out HC.out (fun _ h => h) HF.out (Below.refl _ _) HB.out ?aL ?_; (case aL => have := HL.out; omega); intro v2 w2 ho hb hg hat; have n0_ := za hg; have n1_ := za ho; clear HB; clear HO; have HB := n0_; have HO := n1_; clear n0_ n1_; clear ho hb hg hat))
  all_goals (go_ret; exact ⟨_, rfl, HO.out, HB.out⟩)
theorem ins_at {α β : Type} {R : α → β → Prop} {xs : List α} {ys : List β} {q : Nat} {x : α} {y : β} (hl : ys.length = xs.length) (hq : q ≤ xs.length) (h : ∀ (j : Nat) (a : α) (b : β), xs[j]? = some a → ys[j]? = some b → R a b) (hxy : R x y) :
 ∀ (j : Nat) (a : α) (b : β), (xs.take q ++ x :: xs.drop q)[j]? = some a → (ys.take q ++ y :: ys.drop q)[j]? = some b → R a b := by
 intro j a b ha hb
 have l1 : (xs.take q).length = q := by rw [List.length_take]; omega
 have l2 : (ys.take q).length = q := by rw [List.length_take]; omega
 by_cases h1 : j < q
 · rw [List.getElem?_append_left (by omega), List.getElem?_take, if_pos h1] at ha hb
   exact h j a b ha hb
 · rw [List.getElem?_append_right (by omega), l1] at ha
   rw [List.getElem?_append_right (by omega), l2] at hb
   obtain ⟨d, hd⟩ : ∃ d, j - q = d := ⟨_, rfl⟩
   rw [hd] at ha hb
   cases d with
   | zero =>
    obtain rfl : x = a := by simpa using ha
    obtain rfl : y = b := by simpa using hb
    exact hxy
   | succ d =>
    rw [List.getElem?_cons_succ, List.getElem?_drop] at ha hb
    exact h _ a b ha hb
theorem b3x (w : World) (base : Nat) (ok : Nat → Prop) (A : Option Addr) (c i vb : Nat) (bs : List Bk) (m : Bk) (u : Value) (hi : i ≤ bs.length) (hl : bs.length ≤ 1000)
 (HR : Kd.N k109 109 w base ok (.slice A bs.length c) bs) (hv : w.heap[vb]? = some (.cells #[.int .i64 m.f0, u] 109 (0, 0))) (hne : some vb ≠ (Value.slice A bs.length c).ownBlock) (hok : ok vb)
 (hM : Kd.FK k109 w (fun k => ok k ∧ some k ≠ (Value.slice A bs.length c).ownBlock) m [.int .i64 m.f0, u]) (hfresh : ∀ k, w.heap.size ≤ k → ok k) (hbase : base ≤ w.heap.size) :
 Calls Tryz.prog 77 #[.slice A bs.length c, .int .i64 i, .slice (some ⟨vb, 0, none⟩) 1 1] w fun e w' => ∃ v, e = .returned v ∧ Kd.N k109 109 w' base ok v (bs.take i ++ m :: bs.drop i) ∧ w.grownBy w' (Value.slice A bs.length c).ownBlock := by
 by_cases hj : i = bs.length
 · subst hj
   have hF : Kd.F k109 w (fun k => ok k ∧ some k ≠ (Value.slice A bs.length c).ownBlock) (some ⟨vb, 0, none⟩) 1 [m] := by
    intro W' hW
    refine ⟨rfl, by simp, fun _ => ⟨⟨vb, 0, none⟩, rfl, fun j p hp => ?_⟩⟩
    obtain ⟨hj, rfl⟩ := List.getElem?_eq_some_iff.1 hp
    obtain rfl : j = 0 := by simpa using hj
    have hb : W'.heap[vb]? = some (.cells #[.int .i64 m.f0, u] 109 (0, 0)) := (hW vb ⟨hok, hne⟩ (Array.getElem?_eq_some_iff.1 hv).1).trans hv
    refine ⟨[.int .i64 m.f0, u], rfl, hM W' hW, fun i v hiv => ?_⟩
    have e : (⟨vb, 0, none⟩ : Addr).add (0 * k109.sz + i) = ⟨vb, i, none⟩ := by rw [Addr.add_lit]; simp
    rw [e, a1e hb]
    simpa using hiv
   refine (b5s w base ok A c bs m (some ⟨vb, 0, none⟩) 1 hl HR hF hfresh hbase).mono ?_
   rintro e w' ⟨v0, rfl, ho, hg⟩
   exact ⟨v0, rfl, by simpa using ho, hg⟩
 · have hi' : i < bs.length := by omega
   obtain ⟨g, cap, hform, _, hgl, _⟩ := Kd.N_form HR (by omega)
   injection hform with e1 e2 e3
   subst e1; subst e3
   have hown : (Value.slice (some ⟨g, 0, none⟩) bs.length c).ownBlock = some g := rfl
   rw [hown] at hM hne ⊢
   have hng : vb ≠ g := fun e => hne (by rw [e])
   obtain ⟨cur, rows, T, hg, hs, hnc, hcm, hb, hokg, hrl, hrow, ht, hf⟩ := a4b HR
   obtain ⟨ps, hps, ho⟩ := b6l hrow
   have hpl : ps.length = bs.length := by rw [← hrl, hps, List.length_map]
   have hmr : ([.int .i64 m.f0, u] : List Value).length = 2 ∧ ∀ x ∈ ([.int .i64 m.f0, u] : List Value), x.oneCell' = true := (Kd.FK_raw hM).2
   have hx : ((.int .i64 m.f0, u) : CP).1.oneCell' = true ∧ ((.int .i64 m.f0, u) : CP).2.oneCell' = true := ⟨rfl, hmr.2 u (by simp)⟩
   have ht' : cur.toList.take (ps.length * 2) = a0g ps := by rw [ht, hps, a8b]; exact a5d _ _ _ (a2z ps)
   have hrows : ∀ c ∈ (ps.take i ++ ((.int .i64 m.f0, u) : CP) :: ps.drop i).map encC, c.length = 2 ∧ ∀ y ∈ c, y.oneCell' = true := by
    intro c hc
    obtain ⟨p, hp, rfl⟩ := List.mem_map.1 hc
    refine ⟨rfl, ?_⟩
    rcases List.mem_append.1 hp with hp | hp
    · exact a3n (ho p (List.mem_of_mem_take hp))
    · rcases List.mem_cons.1 hp with rfl | hp
      · exact a3n hx
      · exact a3n (ho p (List.mem_of_mem_drop hp))
   have hlen : (bs.take i ++ m :: bs.drop i).length = bs.length + 1 := by simp; omega
   have hlen2 : ((ps.take i ++ ((.int .i64 m.f0, u) : CP) :: ps.drop i).map encC).length = (bs.take i ++ m :: bs.drop i).length := by simp [hpl]
   have hff : ∀ (j : Nat) (b : Bk) (c : List Value), (bs.take i ++ m :: bs.drop i)[j]? = some b → ((ps.take i ++ ((.int .i64 m.f0, u) : CP) :: ps.drop i).map encC)[j]? = some c → Kd.FK k109 w (fun k => ok k ∧ k ≠ g) b c := by
    rw [List.map_append, List.map_take, List.map_cons, List.map_drop, ← hps]
    exact ins_at hrl hi (fun j a b h1 h2 => Kd.FK_mono (hf j a b h1 h2) (fun k hk => ⟨hk.1, hk.2⟩)) (Kd.FK_mono hM (fun k hk => ⟨hk.1, fun e => hk.2 (by rw [e])⟩))
   by_cases hroom : bs.length + 1 ≤ c
   · have := b6r w g c i vb 1 ps (.int .i64 m.f0, u) cur #[.int .i64 m.f0, u] ho hx (by omega) (by omega) hcm hg hs ht' hv (by simp) rfl hng
     rw [hpl] at this
     refine this.mono ?_
     rintro e w' ⟨rfl, C, k1, k2, k3, hb'⟩
     refine ⟨_, rfl, ?_, hb'.grown⟩
     obtain ⟨T', hT'⟩ : ∃ T', C.toList = ((ps.take i ++ ((.int .i64 m.f0, u) : CP) :: ps.drop i).map encC).flatten ++ T' := ⟨C.toList.drop ((bs.length + 1) * 2), by rw [a8b, ← k3, List.take_append_drop]⟩
     have := a6w (W := w') (base := base) (ok := ok) (n := bs.length + 1) (cap := c) (bs := bs.take i ++ m :: bs.drop i) k1 k2 hroom hcm hb hokg hlen2 hlen.symm hrows hT' (fun j b c h1 h2 => Kd.FK_step (hff j b c h1 h2) (fun k hk _ => hb'.other k hk.2))
     exact this
   · have hcl : c = bs.length := by omega
     subst hcl
     have := c0w w g i vb 1 ps (.int .i64 m.f0, u) cur #[.int .i64 m.f0, u] ho hx (by omega) (by omega) hg (by rw [hs, hpl]) ht' hv (by simp) rfl
     rw [hpl] at this
     refine this.mono ?_
     rintro e w' ⟨G, rfl, g1, g2, C, k1, k2, k3, hb'⟩
     refine ⟨_, rfl, ?_, ⟨hb'.os, hb'.tape, hb'.output, hb'.size, fun k hk _ => hb'.block k hk⟩⟩
     obtain ⟨T', hT'⟩ : ∃ T', C.toList = ((ps.take i ++ ((.int .i64 m.f0, u) : CP) :: ps.drop i).map encC).flatten ++ T' := ⟨C.toList.drop ((bs.length + 1) * 2), by rw [a8b, ← k3, List.take_append_drop]⟩
     refine a6w (W := w') (base := base) (ok := ok) (g := w.heap.size) (n := bs.length + 1) (cap := G) (bs := bs.take i ++ m :: bs.drop i) k1 k2 g1 g2 hbase (hfresh _ (Nat.le_refl _)) hlen2 hlen.symm hrows hT' (fun j b c h1 h2 => ?_)
     have h3 := Kd.FK_below (Kd.FK_bound (hff j b c h1 h2)) hb'
     exact Kd.FK_mono h3 (fun k hk => ⟨hk.1.1, fun e => by have := hk.2; omega⟩)
def posB : Option Nat → Int
  | none => -1
  | some i => (i : Int)
theorem b2t {α : Type} {p : α → Bool} {l : List α} {m : Nat} {a : α} (ha : l[m]? = some a) (hp : p a = true) (hb : ∀ j b, j < m → l[j]? = some b → p b = false) : l.findIdx? p = some m := by
 obtain ⟨h1, rfl⟩ := List.getElem?_eq_some_iff.1 ha
 rw [List.findIdx?_eq_some_iff_getElem]
 exact ⟨h1, hp, fun j hj => by rw [hb j _ hj (List.getElem?_eq_getElem (by omega))]; simp⟩
theorem b3r {α : Type} {p : α → Bool} {l : List α} (hb : ∀ j b, j < l.length → l[j]? = some b → p b = false) : l.findIdx? p = none := by
 rw [List.findIdx?_eq_none_iff]
 intro x hx
 obtain ⟨j, hj, rfl⟩ := List.getElem_of_mem hx
 exact hb j _ hj (List.getElem?_eq_getElem hj)
theorem b2z {α : Type} (p : α → Bool) (l : List α) : decide (0 ≤ posB (l.findIdx? p)) = l.any p := by
 cases h : l.findIdx? p with
 | none =>
  rw [List.findIdx?_eq_none_iff] at h
  have : l.any p = false := by rw [List.any_eq_false]; intro x hx; rw [h x hx]; simp
  rw [this]; rfl
 | some i =>
  rw [List.findIdx?_eq_some_iff_getElem] at h
  obtain ⟨h1, h2, _⟩ := h
  have : l.any p = true := List.any_eq_true.2 ⟨_, List.getElem_mem h1, h2⟩
  rw [this]
  exact decide_eq_true (Int.natCast_nonneg i)
structure AskB (fid : FuncId) (cb : Array Value) (p : Bk → Bool) (bs : List Bk) (Inv : World → Prop) : Prop where
  known : ∃ fn, Tryz.prog.funcs[fid]? = some fn ∧ (fn.name == "runtime.NumGoroutine") = false ∧ fn.body.isSome = true
  stay : ∀ W W', Inv W → Below W.heap.size W W' → Inv W'
  call : ∀ (b : Bk) (A : Option Addr) (c : Nat) (W : World), b ∈ bs → Inv W → k33.C W A b.f1.length b.f1 → b.f1.length ≤ c → Calls Tryz.prog fid (#[.agg #[.int .i64 b.f0, .slice A b.f1.length c]] ++ cb) W fun x W' => x = .returned (.bool (p b)) ∧ Below W.heap.size W W'
theorem a4v {fid : FuncId} {cb : Array Value} {p : Bk → Bool} {Inv : World → Prop} (A : Option Addr) (c : Nat) (bs : List Bk) (w : World) (hf : AskB fid cb p bs Inv) (hr : k109.C w A bs.length bs) (hc : bs.length ≤ c) (hn : bs.length ≤ 1000) (h : Inv w) :
 Calls Tryz.prog 72 #[.slice A bs.length c, .func (.func fid) #[] cb] w fun x w' => x = .returned (.int .i64 (posB (bs.findIdx? p))) ∧ Below w.heap.size w w' := by
 have HR := za hr
 have HC := za h
 have HF := za hf
 obtain ⟨fn, hk1, hk2, hk3⟩ := hf.known
 have HK := za hk1
 have HK2 := za hk2
 have HK3 := za hk3
 clear hr h hf hk1 hk2 hk3
 go_enter Tryz.func72, Tryz.ntmps72
 go_wp2
 go_loopw [8] (fun i wr => ∃ m : Nat, m ≤ bs.length ∧ i = .int .i64 m ∧ Aside0 (∀ j b, j < m → bs[j]? = some b → p b = false) ∧ Aside0 (Below w.heap.size w wr)) (fun i _ => bs.length - (intOf i).toNat)
 case atStart => exact ⟨0, Nat.zero_le _, rfl, ⟨fun j b h => by omega⟩, ⟨Below.refl _ _⟩⟩
 case round =>
  obtain ⟨m, hm, rfl, HN, HB⟩ := hrel
  by_cases hlt : m < bs.length
  · obtain ⟨b, hb⟩ : ∃ b, bs[m]? = some b := ⟨_, List.getElem?_eq_getElem hlt⟩
    obtain ⟨ad, A1, c1, rfl, y0, y1, e4, e5⟩ := a6h (Kd.C_below HR.out HB.out) hb
    have HE := za hb
    have HV := za e5
    have HI := za (HF.out.stay _ _ HC.out HB.out)
    clear hb e5
    cases hi : p b with
    | false =>
     have HP := za hi
     have HN2 : Aside0 (∀ j b, j < m + 1 → bs[j]? = some b → p b = false) := ⟨fun j b' hj hb' => by
      by_cases h1 : j = m
      · subst h1
        rw [HE.out] at hb'
        injection hb' with hb'
        rw [← hb']; exact hi
      · exact HN.out j b' (by omega) hb'⟩
     clear hi
     go_wp2_with ((with_reducible refine gate_dst (N := 16) rfl ?_); go_loud (refine goesLC_ (some 16) rfl rfl HK.out HK2.out HK3.out (#[.agg #[.int .i64 b.f0, .slice A1 b.f1.length c1]] ++ cb) rfl rfl (by (try simp only [List.map_toArray, List.map_cons, List.map_nil]); first | done | rfl) ?_; refine (HF.out.call b A1 c1 _ (List.mem_of_getElem? HE.out) HI.out HV.out e4).mono ?_; rintro x w2 ⟨rfl, hb2⟩; rw [HP.out]; have HB2 := za (below_step HB.out hb2); clear hb2; refine ⟨_, rfl, ?_⟩))
     go_roundw
     case rel => exact ⟨m + 1, by omega, by go_num, HN2, HB2⟩
     case measure => simp [intOf]; omega
    | true =>
     have HP := za hi
     have HFI := za (b2t HE.out hi HN.out)
     clear hi
     go_wp2_with ((with_reducible refine gate_dst (N := 16) rfl ?_); go_loud (refine goesLC_ (some 16) rfl rfl HK.out HK2.out HK3.out (#[.agg #[.int .i64 b.f0, .slice A1 b.f1.length c1]] ++ cb) rfl rfl (by (try simp only [List.map_toArray, List.map_cons, List.map_nil]); first | done | rfl) ?_; refine (HF.out.call b A1 c1 _ (List.mem_of_getElem? HE.out) HI.out HV.out e4).mono ?_; rintro x w2 ⟨rfl, hb2⟩; rw [HP.out]; have HB2 := za (below_step HB.out hb2); clear hb2; refine ⟨_, rfl, ?_⟩))
     go_ret
     exact ⟨by rw [HFI.out]; rfl, HB2.out⟩
  · obtain rfl : m = bs.length := by omega
    have HF := za (b3r HN.out)
    go_wp2
    go_ret
    exact ⟨by rw [HF.out]; rfl, HB.out⟩
theorem c0g {fid : FuncId} {cb : Array Value} {p : Bk → Bool} {Inv : World → Prop} (A : Option Addr) (c : Nat) (bs : List Bk) (w : World) (hf : AskB fid cb p bs Inv) (hr : k109.C w A bs.length bs) (hc : bs.length ≤ c) (hn : bs.length ≤ 1000) (h : Inv w) :
 Calls Tryz.prog 99 #[.slice A bs.length c, .func (.func fid) #[] cb] w fun x w' => x = .returned (.bool (bs.any p)) ∧ Below w.heap.size w w' := by
 have HR := za hr
 have HC := za h
 have HF := za hf
 have HA := za (b2z p bs)
 clear hr h hf
 go_enter Tryz.func99, Tryz.ntmps99
 go_wp2_with fail
 refine (a4v A c bs _ HF.out HR.out hc hn HC.out).mono ?_
 rintro x w2 ⟨rfl, hb2⟩
 have HB2 := za hb2
 clear hb2
 generalize posB (bs.findIdx? p) = v at HA ⊢
 go_wp2
 go_ret
 exact ⟨by rw [← HA.out]; rfl, HB2.out⟩
structure ShAt [XSet] (w : World) (base p : Nat) (ver : Int) (v : Value) (bs : List Bk) : Prop where
  hd : w.heap[p]? = some (.cells #[.int .u64 ver, v] 100 (0, 0))
  row : Kd.V k109 109 w 0 (fun k => XSet.ok k ∧ k ≠ p) v bs
  lo : base ≤ p
  xs : XSet.n ≤ w.heap.size
namespace ShAt
variable [XSet] {w w1 : World} {base p : Nat} {ver : Int} {v : Value} {bs : List Bk}
theorem lt (h : ShAt w base p ver v bs) : p < w.heap.size := (Array.getElem?_eq_some_iff.1 h.hd).1
theorem below (h : ShAt w base p ver v bs) (hb : Below w.heap.size w w1) : ShAt w1 base p ver v bs := ⟨(hb.block p h.lt).trans h.hd, Kd.V_below h.row hb, h.lo, Nat.le_trans h.xs hb.size⟩
theorem fresh (h : ShAt w base p ver v bs) {k : Nat} (hk : w.heap.size ≤ k) : XSet.ok k := XSet.fresh k (Nat.le_trans h.xs hk)
theorem cell0 (h : ShAt w base p ver v bs) : w.cell? ⟨p, 0, none⟩ = some (.int .u64 ver) := by simp [World.cell?, h.hd]
theorem cell1 (h : ShAt w base p ver v bs) : w.cell? ⟨p, 1, none⟩ = some v := by simp [World.cell?, h.hd]
theorem reads (h : ShAt w base p ver v bs) : ∃ A c, v = .slice A bs.length c ∧ bs.length ≤ c ∧ Kd.F k109 w (fun k => XSet.ok k ∧ k ≠ p) A bs.length bs := by
 obtain ⟨A, c, rfl⟩ := Kd.V_slice h.row
 have := Kd.V_at h.row
 exact ⟨A, c, rfl, this.2.1, this.2.2⟩
end ShAt
theorem b7q {α : Type} {d : Kd α} {w : World} {l : List α} (h : d.C w none l.length l) : l = [] := by
 have h1 := h.2.2
 cases l with
 | nil => rfl
 | cons a l => obtain ⟨ad, h2, _⟩ := h1 (by simp); cases h2
theorem a7g (ok : Nat → Prop) (A : Option Addr) (c : Nat) (bs : List Bk) (w : World) (hr : Kd.F k109 w ok A bs.length bs) (hc : bs.length ≤ c) (hl : bs.length ≤ 1000) :
 Calls Tryz.prog 70 #[.slice A bs.length c] w fun e w' => ∃ v, e = .returned v ∧ Kd.N k109 109 w' w.heap.size (fun k => ok k ∨ w.heap.size ≤ k) v bs ∧ Below w.heap.size w w' := by
 have HR := za hr
 have HL := za hl
 have HB := za (Below.refl w.heap.size w)
 have HC := za hc
 cases A with
 | none =>
  have H0 := za (b7q (Kd.F_now hr))
  have he := Lib.run_eql_slice_nil (P := Tryz.prog) w 96 109 none bs.length c 0 0 Tryz.underlying96
  clear hr hl hc
  go_enter Tryz.func70, Tryz.ntmps70
  go_wp2
  go_ret
  exact ⟨_, rfl, by rw [H0.out]; exact Kd.N_nil _ _ _ _ _, Below.refl _ _⟩
 | some ad =>
  have he := Lib.run_eql_slice_nil (P := Tryz.prog) w 96 109 (some ad) bs.length c 0 0 Tryz.underlying96
  clear hr hl hc
  go_enter Tryz.func70, Tryz.ntmps70
  go_wp2_with (first
   | ((with_reducible refine gate_dst (N := 5) rfl ?_); go_loud (refine Kd.N_lit k109 _ 109 ?hg (N' := 5) ?hd (xs := ([] : List Bk)) (inner := []) (ok := fun k => ok k ∨ w.heap.size ≤ k) (okp := fun _ => False) ?hr ?hp (fun _ hk => hk.elim) ?hf (Below.refl _ _) (Nat.le_refl _) (by simp) ?_; (case hd => rfl); (case hg => rfl); (case hr => first | (go_simp; done) | (go_simp; rfl)); (case hp => exact (Reps.none _ _)); (case hf => exact .inr (Nat.le_refl _)); intro v1 w1 ho hb hg_ hnew_; have HNW := za hnew_; clear hg_ hnew_; have n0_ := za ho; have n1_ := za (below_step HB.out hb); clear HB; have HO := n0_; have HB := n1_; clear n0_ n1_; clear hb ho))
   | ((with_reducible refine gate_builtin (b := .append) (xs := #[.tmp 5, .tmp 6]) rfl ?_); at_builtin; go_loud (refine Kd.N_append_rows k109 (w0 := w) w.heap.size rfl (.tmp 5) (.tmp 6) 96 109 (.agg #[.int .i64 0, .slice none 0 0]) 32 rfl Tryz.underlying96 a4g rfl (by decide) (by decide) v1 [] bs _ _ _ (fun k => ok k ∨ w.heap.size ≤ k) (fun k => ok k ∧ k < w.heap.size) rfl rfl ?aO ?aR ?aK ?aF ?aB ?aS ?aL ?_; (case aR => exact (Kd.F_below (Kd.F_bound HR.out) HB.out)); (case aK => exact (fun k hk => ⟨.inl hk.1, fun e => by obtain ⟨b, h1, h2⟩ := HNW.out; rw [h1] at e; injection e with e; have := hk.2; omega⟩)); (case aB => exact HB.out); (case aF => exact (fun k hk => .inr (Nat.le_trans HB.out.size hk))); (case aO => exact HO.out); (case aS => exact HB.out.size); (case aL => have := HL.out; simp only [List.length_nil]; omega); intro v2 w2 ho hb hg hat; rw [List.nil_append] at ho; have n0_ := za (hb); have n1_ := za (ho); clear HB; clear HO; have HB := n0_; have HO := n1_; clear n0_ n1_; clear ho hb hg hat)))
  go_ret
  exact ⟨_, rfl, HO.out, HB.out⟩
theorem bclip (A : Option Addr) (n c : Nat) (w : World) (hc : n ≤ c) (hm : n ≤ 9223372036854775807) :
 Calls Tryz.prog 120 #[.slice A n c] w fun e w' => e = .returned (.slice A n n) ∧ w = w' := by
 go_enter Tryz.func120, Tryz.ntmps120
 go_wp2
 go_ret
 exact ⟨rfl, rfl⟩
theorem b9r {W : World} {base g n cap : Nat} {ok : Nat → Prop} {bs : List Bk} (h : Kd.N k109 109 W base ok (.slice (some ⟨g, 0, none⟩) n cap) bs) {i : Nat} {b : Bk} (hb : bs[i]? = some b) {u : Value} (hM : Kd.FK k109 W (fun k => ok k ∧ k ≠ g) b [.int .i64 b.f0, u]) :
 Kd.N k109 109 (W.setCell ⟨g, i * 2 + 1, none⟩ u) base ok (.slice (some ⟨g, 0, none⟩) n cap) bs := by
 obtain ⟨hi, hbe⟩ := List.getElem?_eq_some_iff.1 hb
 have hn := (Kd.N_reads' h).1
 obtain ⟨c, hcl, hK, hcc, hfr⟩ := Kd.N_elem h z109 (i : Int) (by omega) (by omega)
 have hg : bs.getD ((i : Int)).toNat z109 = b := by rw [Int.toNat_natCast, List.getD_eq_getElem?_getD, hb]; rfl
 rw [hg] at hK
 obtain ⟨A1, c1, rfl, l1, g1⟩ := a2v hK
 have h2 := (Kd.N_seg h (i : Int) (by omega) (by omega) (c := [.int .i64 b.f0, .slice A1 b.f1.length c1]) (seg := [u]) (j := 1) (x' := b) (okp := fun k => ok k ∧ k ≠ g) hcl hcc (by show 1 + 1 ≤ 2; omega) hM (fun _ hk => hk)).1
 rw [Int.toNat_natCast, show bs.set i b = bs by rw [← hbe]; exact List.set_getElem_self hi] at h2
 exact h2
theorem c1d (ok : Nat → Prop) (A : Option Addr) (c : Nat) (bs : List Bk) (w : World) (hr : Kd.F k109 w ok A bs.length bs) (hc : bs.length ≤ c) (hl : bs.length ≤ 1000) (ha : (allB bs).length ≤ 1000000) :
 Calls Tryz.prog 102 #[.slice A bs.length c] w fun e w' => ∃ A1 c1, e = .returned (.slice A1 bs.length c1) ∧ bs.length ≤ c1 ∧ Kd.F k109 w' (fun k => ok k ∨ w.heap.size ≤ k) A1 bs.length bs ∧ Below w.heap.size w w' := by
 have HR := za hr
 have HL := za hl
 have HA := za ha
 clear hr ha
 go_enter Tryz.func102, Tryz.ntmps102
 go_wp2_with fail
 refine (a7g ok A c bs _ HR.out hc hl).mono ?_
 rintro x w1 ⟨v1, rfl, hn1, hb1⟩
 obtain ⟨A1, c1, rfl⟩ := Kd.N_slice hn1
 have HC1 := za (Kd.N_reads' hn1).2.1
 have HN1 := za hn1
 have HB1 := za hb1
 clear hn1 hb1
 go_wp2_with fail
 refine (bclip A1 bs.length c1 _ HC1.out (by omega)).mono ?_
 rintro x w2 ⟨rfl, rfl⟩
 go_wp2_with fail
 go_loopw [11] (fun i wr => ∃ m : Nat, m ≤ bs.length ∧ i = .int .i64 m ∧ Aside0 (Kd.N k109 109 wr w.heap.size (fun k => ok k ∨ w.heap.size ≤ k) (.slice A1 bs.length c1) bs) ∧ Aside0 (Below w.heap.size w wr)) (fun i _ => bs.length - (intOf i).toNat)
 case atStart => exact ⟨0, Nat.zero_le _, rfl, HN1, HB1⟩
 case round =>
  clear HN1 HB1
  obtain ⟨m, hm, rfl, HN, HB⟩ := hrel
  by_cases hlt : m < bs.length
  · obtain ⟨b, hb⟩ : ∃ b, bs[m]? = some b := ⟨_, List.getElem?_eq_getElem hlt⟩
    obtain ⟨g, cap, hv, hbg, hgl, _⟩ := Kd.N_form HN.out (by omega)
    injection hv with e1 e2 e3
    subst e1; subst e3
    obtain ⟨A2, k2, x0, x1, x2, x3, x4⟩ := a2g HN.out hb
    obtain ⟨A3, k3, e4, l3, g3⟩ := a2v x3
    have eA : A2 = A3 ∧ k2 = k3 := by injection e4 with _ e4; injection e4 with e4; injection e4 with h1 h2 h3; exact ⟨h1, h3⟩
    obtain ⟨rfl, rfl⟩ := eA
    have HE := za hb
    have HX4 := za (x4 1)
    have HG3 := za g3
    have hle := a1z hb
    have HBL := za (show b.f1.length ≤ 1000000 by have := HA.out; omega)
    have HGL := za hgl
    have HBG := za hbg
    clear hb x3 x4 e4 g3 hle hgl hbg
    have hin : (m : Int) < (bs.length : Int) := by omega
    have hin0 : (0 : Int) ≤ (m : Int) := by omega
    have hz := below_alloc (Below.refl wr.heap.size wr) (.cells #[.int .i64 b.f0, .slice A2 b.f1.length k2] 109)
    have HZ := za hz
    have HCE := za (Kd.F_now (Kd.F_below HG3.out hz))
    clear hz
    go_wp2_with fail
    refine (api_Entry_83.calls A2 k2 b.f1 b.f1 _ HCE.out x2 (by unfold api_Entry_83.f; rw [if_pos (by have := HBL.out; omega)])).mono ?_
    rintro y w3 ⟨v3, rfl, ho3, hb3⟩
    obtain ⟨A4, k4, rfl⟩ := Kd.R_slice ho3
    have HV3 := za (show Kd.V k33 33 w3 0 (fun k => wr.heap.size ≤ k ∧ k < w3.heap.size) (.slice A4 b.f1.length k4) b.f1 from Kd.R_V (Kd.R_mono (Kd.R_bound ho3) (fun k hk => ⟨by have := hk.2.1; simp at this; omega, hk.2.2.1⟩)))
    have HB3 := za (below_step HZ.out hb3)
    clear ho3 hb3
    go_wp2_with fail
    refine (api_Entry_48.calls (fun k => wr.heap.size ≤ k ∧ k < w3.heap.size) A4 k4 b.f1 b.f1 _ HV3.out rfl).mono ?_
    rintro y w4 ⟨v4, rfl, hv4, hb4⟩
    obtain ⟨A5, k5, rfl⟩ := Kd.V_slice hv4
    have HB4 := za (below_step HB3.out hb4)
    have HV4 := za hv4
    clear hv4 hb4
    have y0 := pw_cell_below HB4.out x0
    have y1 := pw_cell_below HB4.out x1
    have f1 := a2b HB4.out HGL.out HX4.out
    have HN4 := za (Kd.N_below HN.out HB4.out)
    have HM := za (show Kd.FK k109 w4 (fun k => (ok k ∨ w.heap.size ≤ k) ∧ k ≠ g) b [.int .i64 b.f0, .slice A5 b.f1.length k5] from a4r _ _ b (Kd.V_at HV4.out).2.1 (Kd.F_mono (Kd.V_at HV4.out).2.2 (fun k hk => by
     have h1 := HB.out.size
     have h2 := HGL.out
     have h3 := HB3.out.size
     rcases hk with hk | hk
     · exact ⟨.inr (by have := hk.1; omega), by have := hk.1; omega⟩
     · exact ⟨.inr (by omega), by omega⟩)))
    have HN5 := za (b9r HN4.out HE.out HM.out)
    have HB5 := za (below_set (below_then HB.out HB.out.size HB4.out) HBG.out (v := .slice A5 b.f1.length k5) (j := m * 2 + 1))
    clear x0 x1 HX4
    go_wp2
    go_roundw
    case rel => exact ⟨m + 1, by omega, by go_num, HN5, HB5⟩
    case measure => simp [intOf]; omega
  · obtain rfl : m = bs.length := by omega
    go_wp2
    go_ret
    exact ⟨A1, bs.length, rfl, Nat.le_refl _, by
     have := Kd.N_F HN.out
     exact this, HB.out⟩
theorem sh_new [XSet] (w : World) (hX : XSet.n ≤ w.heap.size) : Calls Tryz.prog 30 #[] w fun x w2 => x = .returned (.pointer (some ⟨w.heap.size, 0, none⟩)) ∧ ShAt w2 w.heap.size w.heap.size 0 (.slice none 0 0) [] ∧ Below w.heap.size w w2 := by
 have HX := za (heap_alloc_new w (.cells #[.int .u64 0, .slice none 0 0] 100))
 go_enter Tryz.func30, Tryz.ntmps30
 go_wp2
 go_ret
 exact ⟨rfl, ⟨HX.out, Kd.V_nil _ _ _ _ _, Nat.le_refl _, Nat.le_trans hX (below_alloc (Below.refl _ _) _).size⟩, below_alloc (Below.refl _ _) _⟩
def okB (b : Bk) : Bool := decide (b.f0 = ((lev (b.f1.length : Int) : Nat) : Int)) && okTo b.f1 (b.f1.length - 1)
theorem askS1y (bs : List Bk) (hok : ∀ b ∈ bs, okB b = true) (ha : (allB bs).length ≤ 1000000) : AskB 100 #[] (fun b => !okB b) bs (fun _ => True) := by
 refine ⟨⟨_, Tryz.func100, by kernel_rfl, rfl⟩, fun _ _ _ _ => trivial, fun b A c W hb _ hr hc => ?_⟩
 have hl : b.f1.length ≤ 1000000 := by
  obtain ⟨i, hi, rfl⟩ := List.getElem_of_mem hb
  have := a1z (List.getElem?_eq_getElem hi)
  omega
 have hb1 := hok b hb
 have HT := za (show OkE b.f0 b.f1 by unfold okB at hb1; rw [Bool.and_eq_true, decide_eq_true_eq] at hb1; exact ⟨hb1.1, hb1.2, hl⟩)
 have HR := za (Kd.C_below hr (below_alloc (Below.refl W.heap.size W) (.cells #[.int .i64 b.f0, .slice A b.f1.length c] 109)))
 show Calls Tryz.prog 100 #[.agg #[.int .i64 b.f0, .slice A b.f1.length c]] W _
 rw [hb1]
 clear hr hb hb1
 go_enter Tryz.func100, Tryz.ntmps100
 go_wp2_with fail
 refine (b4w _ _ _ _ _ HR.out hc HT.out).mono ?_
 rintro x w2 ⟨rfl, hb2⟩
 have HB2 := za (below_step (below_alloc (Below.refl W.heap.size W) (.cells #[.int .i64 b.f0, .slice A b.f1.length c] 109)) hb2)
 clear hb2
 go_wp2
 go_ret
 exact ⟨by first | rfl | simp, HB2.out⟩
theorem any_no {bs : List Bk} (h : ∀ b ∈ bs, okB b = true) : bs.any (fun b => !okB b) = false := by
 rw [List.any_eq_false]
 intro b hb
 simp [h b hb]
theorem b7x {w w3 : World} {p : Nat} {t : TypeId} {a b u v : Value} (hb : Below w.heap.size w w3) (hp : w.heap[p]? = some (.cells #[a, b] t (0, 0))) :
 ((w3.setCell ⟨p, 0, none⟩ u).setCell ⟨p, 1, none⟩ v).heap[p]? = some (.cells #[u, v] t (0, 0)) ∧ w.grownBy ((w3.setCell ⟨p, 0, none⟩ u).setCell ⟨p, 1, none⟩ v) (some p) := by
 have hp3 := (hb.block p (Array.getElem?_eq_some_iff.1 hp).1).trans hp
 refine ⟨blk_put (blk_put hp3 0 u rfl) 1 v rfl, a3o ⟨hb.os, hb.tape, hb.output, hb.size, fun k hk _ => hb.block k hk⟩⟩
theorem a8s [XSet] (base p : Nat) (ver : Int) (v : Value) (bs cs : List Bk) (A : Option Addr) (c : Nat) (w : World) (h : ShAt w base p ver v bs) (hv : 0 ≤ ver ∧ ver ≤ 1000000) (hr : Kd.F k109 w (fun k => XSet.ok k ∧ k ≠ p) A cs.length cs) (hc : cs.length ≤ c) (hok : ∀ b ∈ cs, okB b = true) (hl : cs.length ≤ 1000) (ha : (allB cs).length ≤ 1000000) :
 Calls Tryz.prog 76 #[.pointer (some ⟨p, 0, none⟩), .int .u64 ver, .slice A cs.length c] w fun x w' => x = .returned (.bool true) ∧ ∃ v', ShAt w' base p (ver + 1) v' cs ∧ w.grownBy w' (some p) := by
 have HS := za h
 have HR := za hr
 have HL := za ha
 have HAK := za (askS1y cs hok ha)
 have HAN := za (any_no hok)
 have HC1 := za (Kd.F_now hr)
 have hc0 := h.cell0
 clear h hr hok ha
 go_enter Tryz.func76, Tryz.ntmps76
 go_wp2_with fail
 refine (c0g A c cs _ HAK.out HC1.out hc hl trivial).mono ?_
 rintro x w2 ⟨rfl, hb2⟩
 rw [HAN.out]
 have HB2 := za hb2
 clear hb2
 go_wp2_with fail
 refine (c1d (fun k => XSet.ok k ∧ k ≠ p) A c cs _ (Kd.F_below HR.out HB2.out) hc hl HL.out).mono ?_
 rintro x w3 ⟨A3, c3, rfl, hc3, hf3, hb3⟩
 have HB3 := za (below_step HB2.out hb3)
 have hp3 := (HB3.out.block p HS.out.lt).trans HS.out.hd
 have y0 : w3.cell? ⟨p, 0, none⟩ = some (.int .u64 ver) := by simp [World.cell?, hp3]
 have y1 : w3.cell? ⟨p, 1, none⟩ = some v := by simp [World.cell?, hp3]
 have f0 : w3.frozen? ⟨p, 0, none⟩ = false := by simp [World.frozen?, hp3]
 have f1 : w3.frozen? ⟨p, 1, none⟩ = false := by simp [World.frozen?, hp3]
 have HF3 := za (show Kd.F k109 w3 (fun k => XSet.ok k ∧ k ≠ p) A3 cs.length cs from Kd.F_mono hf3 (fun k hk => hk.elim id (fun h => by have h1 := HS.out.lt; have h2 := HB2.out.size; have h3 : _ ≤ k := h; exact ⟨HS.out.fresh (by omega), by omega⟩)))
 have HST := za (b7x (u := .int .u64 (ver + 1)) (v := .slice A3 cs.length c3) HB3.out HS.out.hd)
 clear hc0 hp3 hf3 hb3
 go_wp2
 go_ret
 exact ⟨rfl, _, ⟨HST.out.1, Kd.V_far (Kd.V_far (Kd.V_mk hc3 HF3.out) (p := ⟨p, 0, none⟩) (fun k hk => hk.2) _) (p := ⟨p, 1, none⟩) (fun k hk => hk.2) _, HS.out.lo, Nat.le_trans HS.out.xs HST.out.2.size⟩, HST.out.2⟩
theorem a5p [XSet] (base p : Nat) (ver : Int) (v : Value) (bs : List Bk) (w : World) (h : ShAt w base p ver v bs) (hl : bs.length ≤ 1000) (ha : (allB bs).length ≤ 1000000) :
 Calls Tryz.prog 91 #[.pointer (some ⟨p, 0, none⟩)] w fun x w' => x = .returned (.int .i64 (allB bs).length) ∧ Below w.heap.size w w' := by
 have hp := h.cell1
 obtain ⟨A, c, rfl, hc, hf⟩ := h.reads
 have HC := za (Kd.F_now hf)
 have HA := za ha
 clear h hf ha
 go_enter Tryz.func91, Tryz.ntmps91
 go_wp2_with fail
 go_loopw [3, 12] (fun q i wr => ∃ m : Nat, m ≤ bs.length ∧ i = .int .i64 m ∧ q = .int .i64 ((allB (bs.take m)).length) ∧ Aside0 (Below w.heap.size w wr)) (fun _ i _ => bs.length - (intOf i).toNat)
 case atStart => exact ⟨0, Nat.zero_le _, rfl, rfl, ⟨Below.refl _ _⟩⟩
 case round =>
  obtain ⟨m, hm, rfl, rfl, HB⟩ := hrel
  by_cases hlt : m < bs.length
  · obtain ⟨b, hb⟩ : ∃ b, bs[m]? = some b := ⟨_, List.getElem?_eq_getElem hlt⟩
    obtain ⟨ad, A1, c1, rfl, y0, y1, e4, e5⟩ := a6h (Kd.C_below HC.out HB.out) hb
    have hle := a1z hb
    have HT := za (a5t hb)
    have h1 := HA.out
    have q1 : (allB (bs.take m)).length ≤ 1000000 := by omega
    have q2 : b.f1.length ≤ 1000000 := by omega
    clear hb e5 hle h1
    go_wp2
    go_roundw
    case rel => exact ⟨m + 1, by omega, by go_num, by rw [HT.out, List.length_append]; go_num, ⟨below_alloc HB.out _⟩⟩
    case measure => simp [intOf]; omega
  · obtain rfl : m = bs.length := by omega
    rw [List.take_length]
    go_wp2
    go_ret
    exact ⟨rfl, HB.out⟩
theorem a5v [XSet] (base p : Nat) (ver : Int) (v : Value) (bs : List Bk) (n : Int) (w : World) (h : ShAt w base p ver v bs) (hl : bs.length ≤ 1000) (ha : (allB bs).length ≤ 1000000) :
 Calls Tryz.prog 90 #[.pointer (some ⟨p, 0, none⟩), .int .i64 n] w fun x w' => ∃ v1, x = .returned v1 ∧ Kd.V k33 33 w' w.heap.size (fun k => w.heap.size ≤ k) v1 ((a0b (allB bs)).take (a0o n (allB bs).length)) ∧ Below w.heap.size w w' := by
 have hp := h.cell1
 obtain ⟨A, c, rfl, hc, hf⟩ := h.reads
 have HC := za (Kd.F_now hf)
 have HT := za (b0m 1001 bs n (by omega) (by omega) (by omega))
 clear h hf ha
 go_enter Tryz.func90, Tryz.ntmps90
 go_wp2_with fail
 refine (block_Pivot.calls 1001 A c bs n _ w HC.out hc HT.out).mono ?_
 rintro x w2 ⟨v1, rfl, hv1, hb1⟩
 have HV := za hv1
 have HB := za hb1
 clear hv1 hb1
 go_wp2
 go_ret
 exact ⟨_, rfl, HV.out, HB.out⟩
theorem a8t [XSet] (base p : Nat) (ver : Int) (v : Value) (bs : List Bk) (w : World) (h : ShAt w base p ver v bs) (hl : bs.length ≤ 1000) (ha : (allB bs).length ≤ 1000000) :
 Calls Tryz.prog 63 #[.pointer (some ⟨p, 0, none⟩)] w fun x w' => ∃ v1, x = .returned v1 ∧ Kd.V k33 33 w' w.heap.size (fun k => w.heap.size ≤ k) v1 (a0b (allB bs)) ∧ Below w.heap.size w w' := by
 have HS := za h
 have HT := za (show (a0b (allB bs)).take (a0o ((allB bs).length : Int) (allB bs).length) = a0b (allB bs) by
  have : a0o ((allB bs).length : Int) (allB bs).length = (allB bs).length := by unfold a0o mn mx; (repeat' split) <;> omega
  rw [this]
  exact List.take_of_length_le (by rw [a0i]; exact Nat.le_refl _))
 go_enter Tryz.func63, Tryz.ntmps63
 go_wp2_with fail
 refine (a5p base p ver v bs w h hl ha).mono ?_
 rintro x w2 ⟨rfl, hb1⟩
 have HS2 := za (HS.out.below hb1)
 have HB := za hb1
 clear hb1 h
 go_wp2_with fail
 refine (a5v base p ver v bs _ w2 HS2.out hl ha).mono ?_
 rintro x w3 ⟨v1, rfl, hv1, hb2⟩
 rw [HT.out] at hv1
 have HV := za (Kd.V_mono hv1 (fun k hk => (Nat.le_trans HB.out.size hk : w.heap.size ≤ k)))
 have HB2 := za (below_step HB.out hb2)
 clear hv1 hb2
 go_wp2
 go_ret
 exact ⟨_, rfl, HV.out, HB2.out⟩
def lvls (bs : List Bk) : List Int := bs.map fun b => b.f0
theorem a9a {bs : List Bk} (h : Good bs) (e : E) (hl : (allB bs).length < 999999999) : Good (putL e bs) := by
 have hm := a5x h e
 have key : ∀ (d : Nat) (cur : List Bk), cur.length = d → Mrg cur (putL e bs) → (allB cur).length < 1000000000 → Good (putL e bs) := by
  intro d
  induction d with
  | zero =>
   intro cur hd hm _
   obtain rfl := List.length_eq_zero_iff.1 hd
   exact (hm.done (by simp)).1 ▸ (hm.done (by simp)).2
  | succ d ih =>
   intro cur hd hm hl
   by_cases hn : ∀ i a b, cur[i]? = some a → cur[i + 1]? = some b → a.f0 ≠ b.f0
   · have := hm.done hn
     rw [this.1]
     exact this.2
   · obtain ⟨i, hn⟩ := Classical.not_forall.1 hn
     obtain ⟨a, hn⟩ := Classical.not_forall.1 hn
     obtain ⟨b, hn⟩ := Classical.not_forall.1 hn
     have ha : cur[i]? = some a := Classical.byContradiction fun h => hn (fun h1 => absurd h1 h)
     have hb : cur[i + 1]? = some b := Classical.byContradiction fun h => hn (fun _ h1 => absurd h1 h)
     have he : a.f0 = b.f0 := Classical.byContradiction fun h => hn (fun _ _ => h)
     obtain ⟨h1, rfl⟩ := List.getElem?_eq_some_iff.1 ha
     obtain ⟨h2, rfl⟩ := List.getElem?_eq_some_iff.1 hb
     have e1 : cur = cur.take i ++ cur[i] :: cur[i + 1] :: cur.drop (i + 2) := by
      conv => lhs; rw [← List.take_append_drop i cur, List.drop_eq_getElem_cons h1, List.drop_eq_getElem_cons h2]
     have hall : (allB cur).length = (allB (cur.take i ++ a0c cur[i] cur[i + 1] :: cur.drop (i + 2))).length := by
      conv => lhs; rw [e1]
      simp only [a1g, a1l, List.length_append]
      rw [(a4u cur[i] cur[i + 1]).length_eq, List.length_append]
      omega
     have hab : cur[i].f1.length + cur[i + 1].f1.length < 1000000000 := by
      have : (allB cur).length = (allB (cur.take i)).length + (cur[i].f1.length + (cur[i + 1].f1.length + (allB (cur.drop (i + 2))).length)) := by
       conv => lhs; rw [e1]
       simp only [a1g, a1l, List.length_append]
      omega
     refine ih (cur.take i ++ a0c cur[i] cur[i + 1] :: cur.drop (i + 2)) ?_ (hm.step ha hb he hab) (by omega)
     simp only [List.length_append, List.length_take, List.length_cons, List.length_drop]
     omega
 refine key _ _ rfl hm ?_
 rw [a1g, List.length_append]
 have : (allB [mkB [e]]).length = 1 := by simp [allB, mkB, a0i]
 omega
theorem a8c (bs : List Bk) (e : E) : (allB (putL e bs)).Perm (e :: allB bs) := by
 refine (b2y _ _).trans ?_
 have : (mkB [e]).f1 = [e] := a2m (by simp [a0d])
 rw [this]
 exact List.Perm.refl _
structure LOk [XSet] (w0 wr : World) (p : Nat) (v : Value) (bs : List Bk) (ls : List Int) (es : List E) : Prop where
  hat : LsmAt wr w0.heap.size p v bs
  good : Good bs
  lv : lvls bs = ls
  all : (allB bs).Perm es
  bel : Below w0.heap.size w0 wr
namespace LOk
variable [XSet] {w0 wr w2 : World} {p : Nat} {v : Value} {bs : List Bk} {ls : List Int} {es : List E}
theorem len (h : LOk w0 wr p v bs ls es) : bs.length = ls.length := by rw [← h.lv]; simp [lvls]
theorem cnt (h : LOk w0 wr p v bs ls es) : (allB bs).length = es.length := h.all.length_eq
theorem below (h : LOk w0 wr p v bs ls es) (hb : Below wr.heap.size wr w2) : LOk w0 w2 p v bs ls es := ⟨h.hat.below hb, h.good, h.lv, h.all, below_step h.bel hb⟩
theorem drewN (h : LOk w0 wr p v bs ls es) (m : Nat) : LOk w0 (wr.drewN m) p v bs ls es := h.below (pw_below_drewN (Below.refl _ _) m)
end LOk
end Go.Proofs.YthghkglkifeagaaGreat.V
