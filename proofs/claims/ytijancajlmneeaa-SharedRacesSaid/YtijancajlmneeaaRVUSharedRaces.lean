-- a text of this work, without what this claim doesn't use (wip/shake.py)
import Derived.Test.YtijancajlmneeaaRWWords
import Derived.SizedLaws
import Derived.ChangeSlices
import Derived.WalkKit
import Derived.ProofKit
import Derived.OpenShut
import Derived.ShutString
import Derived.ChangeOld
import Derived.Below
import Derived.Deep.Slices
import Derived.Test.YtijancajlmneeaaRVShR
section
set_option linter.unusedVariables false
set_option linter.unusedSimpArgs false
namespace Go.Proofs.Ytijancajlmneeaa.VOpen
open Go.RowKit Go.Proofs.YtijancajlmneeaaW.PrintWords Go.Deep Go.ChangeShapes Go.WideShapes
structure Fits {α : Type} (P : Program) (t : TypeId) (d : Kd α) (good : α → Prop) : Prop where
  sz : P.cellsOf t = d.sz
  opens : ∀ {H : Type} {enc : TypeId × Value → H} {w : World} {base : Nat} {spare : Nat → Bool} {held : Bool} {fuel : Nat} {cs : List Value} {x : DataW H × List MemPlace},
    DataW.trod enc P w base spare held fuel t cs = some x → ∃ a, d.K w a cs ∧ good a
theorem fits_int {P : Program} {t : TypeId} {k : IntKind} (ht : P.underlying t = some (.int k)) (hc : P.cellsOf t = 1) : Fits P t (Kd.int k) (fun n => (Lit.int k n).wf = true) where
 sz := hc
 opens := fun h => by
  obtain ⟨n, rfl, _, hw⟩ := DataW.trod_int ht h
  exact ⟨n, rfl, hw⟩
theorem filter_all {α : Type} (f : Nat → Option α) : ∀ (len : Nat), (∀ i, i < len → ∃ u, f i = some u) → ((List.range len).filterMap f).length = len ∧ ∀ i, i < len → ((List.range len).filterMap f)[i]? = f i := by
 intro len
 induction len with
 | zero => simp
 | succ k ih =>
  intro hf
  obtain ⟨h1, h2⟩ := ih (fun i hi => hf i (by omega))
  obtain ⟨u, hu⟩ := hf k (by omega)
  rw [List.range_succ, List.filterMap_append]
  simp only [List.filterMap_cons, hu, List.filterMap_nil]
  refine ⟨by simp [h1], fun i hi => ?_⟩
  by_cases hik : i < k
  · rw [List.getElem?_append_left (by omega)]
    exact h2 i hik
  · have : i = k := by omega
    subst this
    rw [List.getElem?_append_right (by omega), h1, hu]
    simp
theorem fits_slice {α : Type} {P : Program} {t e : TypeId} {d : Kd α} {good : α → Prop} (ht : P.underlying t = some (.slice e)) (hc : P.cellsOf t = 1) (h : Fits P e d good) : Fits P t (Kd.slice e d) (fun l => ∀ x ∈ l, good x) where
 sz := hc
 opens := fun {H enc w base spare held fuel cs x} hx => by
  rcases open_slice ht hx with ⟨rfl, _⟩ | ⟨a, len, cap, m, n, D, Pl, rfl, _, hl, hm, hmm, _, hcell⟩
  · exact ⟨[], ⟨none, 0, rfl, Nat.le_refl _, rfl, by simp, fun h0 => absurd h0 (by simp)⟩, by simp⟩
  · have hlm : len ≤ m := by rw [hmm]; split <;> omega
    have each : ∀ i, i < len → ∃ u : α, (∃ c, c.length = d.sz ∧ d.K w u c ∧ ∀ j v, c[j]? = some v → w.cell? (a.add (i * d.sz + j)) = some v) ∧ good u := by
     intro i hi
     obtain ⟨c, h1, h2⟩ := hcell i (by omega)
     rw [h.sz] at h1
     obtain ⟨_, h3, h4⟩ := World.cells?_some h1
     obtain ⟨u, hu, gu⟩ := h.opens h2
     refine ⟨u, ⟨c, h3, hu, fun j v hj => ?_⟩, gu⟩
     have hjl : j < d.sz := by have := (List.getElem?_eq_some_iff.1 hj).1; omega
     have := h4 j hjl
     rw [Addr.add_add] at this
     rw [this, hj]
    have hex : ∃ f : Nat → Option α, ∀ i, i < len → ∃ u, f i = some u ∧ (∃ c, c.length = d.sz ∧ d.K w u c ∧ ∀ j v, c[j]? = some v → w.cell? (a.add (i * d.sz + j)) = some v) ∧ good u := by
     classical
     refine ⟨fun i => if hi : i < len then some (Classical.choose (each i hi)) else none, fun i hi => ⟨Classical.choose (each i hi), by simp [hi], Classical.choose_spec (each i hi)⟩⟩
    obtain ⟨f, hf⟩ := hex
    have hlen := filter_all f len (fun i hi => (hf i hi).imp fun _ h => h.1)
    refine ⟨(List.range len).filterMap f, ⟨some a, cap, by rw [hlen.1], by rw [hlen.1]; exact hl, rfl, by rw [hlen.1]; unfold maxLen at hm; omega, fun _ => ⟨a, rfl, fun j p hj => ?_⟩⟩, fun x hx => ?_⟩
    · have hjl : j < len := by have := (List.getElem?_eq_some_iff.1 hj).1; rw [hlen.1] at this; exact this
      obtain ⟨u, hu, hc, _⟩ := hf j hjl
      rw [hlen.2 j hjl, hu] at hj
      injection hj with hj
      subst hj
      exact hc
    · obtain ⟨j, hj⟩ := List.mem_iff_getElem?.1 hx
      have hjl : j < len := by have := (List.getElem?_eq_some_iff.1 hj).1; rw [hlen.1] at this; exact this
      obtain ⟨u, hu, _, gu⟩ := hf j hjl
      rw [hlen.2 j hjl, hu] at hj
      injection hj with hj
      subst hj
      exact gu
theorem slice_arg {α : Type} {P : Program} {t e : TypeId} {d : Kd α} {good : List α → Prop} (h : Fits P t (Kd.slice e d) good) {H : Type} {enc : TypeId × Value → H} {w : World} {base : Nat} {spare : Nat → Bool} {held : Bool} {fuel : Nat} {v : Value}
 {x : DataW H × List MemPlace} {A : Option Addr} {len cap : Nat} (hv : v = .slice A len cap) (hx : DataW.trod enc P w base spare held fuel t v.cells.toList = some x) : ∃ l : List α, len = l.length ∧ l.length ≤ cap ∧ d.C w A l.length l ∧ good l := by
 subst hv
 obtain ⟨l, ⟨A', c', hcs, hl, hC⟩, hg⟩ := h.opens hx
 simp only [Value.cells, List.cons.injEq, and_true, Value.slice.injEq] at hcs
 obtain ⟨rfl, rfl, rfl⟩ := hcs
 exact ⟨l, rfl, hl, hC, hg⟩
theorem slice_bound {P : Program} {t e : TypeId} (ht : P.underlying t = some (.slice e)) {H : Type} {enc : TypeId × Value → H} {w : World} {base : Nat} {spare : Nat → Bool} {held : Bool} {fuel : Nat}
 {x : DataW H × List MemPlace} {A : Option Addr} {len cap : Nat} (hx : DataW.trod enc P w base spare held fuel t (Value.slice A len cap).cells.toList = some x)
 {ts : List TypeId} {ds : List (DataW H)} (hs : (DataW.weightsEach P ts ds).all (· ≤ reachBytes) = true) {j : Nat} (h1 : ts[j]? = some t) (h2 : ds[j]? = some x.1) {b : Nat} (hb : P.bytesOf e = b) : len * b ≤ 140737488351232 := by
 rcases DataW.trod_slice ht hx with ⟨hc, rfl⟩ | ⟨a, len', cap', elems, rest, n, _, hc, rfl, _, _, _, hl, _⟩
 · simp only [Value.cells, List.cons.injEq, and_true, Value.slice.injEq] at hc
   obtain ⟨rfl, rfl, rfl⟩ := hc
   omega
 · simp only [Value.cells, List.cons.injEq, and_true, Value.slice.injEq] at hc
   obtain ⟨rfl, rfl, rfl⟩ := hc
   have := sized_slice hs h1 h2 ht
   rw [hb, List.length_map, hl] at this
   refine Nat.le_trans (Nat.mul_le_mul_right b (Nat.le_add_right len _)) this
end Go.Proofs.Ytijancajlmneeaa.VOpen
end
section
set_option linter.unusedVariables false
set_option linter.unusedSimpArgs false
namespace Go.Proofs.Ytijancajlmneeaa.V
open Go.RowKit Go.Proofs.YtijancajlmneeaaW.PrintWords Go.Proofs.YtijancajlmneeaaW.PrintLast Go.Proofs.YtijancajlmneeaaW.PrintMore
def vergerlaw8_SharedRaces.f (a0 : Int) (l1 : List Int) : Option Bool := some true
theorem vergerlaw8_SharedRaces.calls (a0 : Int) (A1 : Option Addr) (c1 : Nat) (l1 : List Int) (r : Bool) (w : World) (hr1 : Kd.C (Kd.int .i64) w A1 l1.length l1) (hc1 : l1.length ≤ c1) (h : vergerlaw8_SharedRaces.f a0 l1 = some r) :
 Calls Try.prog 4 #[.int .i64 a0, .slice A1 l1.length c1] w fun e w' => e = .returned (.bool r) ∧ Below w.heap.size w w' := by
 obtain rfl := Option.some.inj h
 exact sharedRaces_walk a0 A1 c1 l1 w hr1 hc1
theorem SharedRaces_pure (a0 : Int) (l1 : List Int) {P0 P1 P2 : Prop} (_ : P0) (_ : P1) (_ : P2) : vergerlaw8_SharedRaces.f a0 l1 = some true := rfl
end Go.Proofs.Ytijancajlmneeaa.V
end
