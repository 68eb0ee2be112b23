-- a text of this work, without what this claim doesn't use (wip/shake.py)
import Derived.Test.YthghkglkifeagaaGreatPVP5T
import Derived.Test.YthghkglkifeagaaGreatPVMake
import Derived.Laws.CopyRow
import Derived.Laws.CopyOwn
import Derived.Laws.Externs
import Derived.Lib.Overlaps
import Derived.Lib.AppendZerosOnto
import Derived.Shelf.Spec.SlicesInsert
import Derived.Test.YthghkglkifeagaaGreatPVPvergerref5
import Derived.Test.YthghkglkifeagaaGreatPVPblock
set_option maxRecDepth 100000
set_option maxHeartbeats 8000000
section
set_option linter.unusedVariables false
set_option linter.unusedSimpArgs false
namespace Go.Proofs.YthghkglkifeagaaGreat.V
open Go.RowKit Go.Proofs.YthghkglkifeagaaGreatW.PrintWords Go.Proofs.YthghkglkifeagaaGreatW.PrintLast Go.Proofs.YthghkglkifeagaaGreatW.PrintMore
def encE (e : E) : List Value := [.int .u64 e.f0, .int .i64 e.f1]
def encs (l : List E) : List Value := l.flatMap encE
theorem a6l (a : E) (l : List E) : encs (a :: l) = encE a ++ encs l := rfl
theorem encs_length (l : List E) : (encs l).length = l.length * 2 := by
 induction l with
 | nil => rfl
 | cons a l ih => rw [a6l, List.length_append, ih, List.length_cons]; simp [encE]; omega
theorem b9u (l : List E) (n : Nat) : (encs l).drop (n * 2) = encs (l.drop n) := by
 induction l generalizing n with
 | nil => simp [encs]
 | cons a l ih =>
  cases n with
  | zero => simp [encs]
  | succ n =>
   rw [a6l, List.drop_succ_cons, Nat.succ_mul, List.drop_append]
   have : (encE a).length = 2 := rfl
   rw [this, show n * 2 + 2 - 2 = n * 2 by omega, ih, List.drop_of_length_le (by rw [this]; omega), List.nil_append]
theorem c1b (w : World) (base : Nat) (ok : Nat → Prop) (l : List E) : Reps (k33.M w base ok) k33.sz l (encs l) := by
 have hsz : k33.sz = 2 := rfl
 rw [hsz]
 refine ⟨encs_length l, fun j p hj => ?_⟩
 rw [b9u]
 obtain ⟨hjl, he⟩ := List.getElem?_eq_some_iff.1 hj
 have : l.drop j = p :: l.drop (j + 1) := by rw [← he]; exact List.drop_eq_getElem_cons hjl
 rw [this, a6l]
 exact a0v w base ok p
theorem a8x {e : Nat} {w : World} {base : Nat} {ok : Nat → Prop} {g c : Nat} {cur : Array Value} {l : List E} (hb : base ≤ g) (hok : ok g) (hh : w.heap[g]? = some (.cells cur e (0, 0))) (hc : c ≤ 9223372036854775807) (hl : l.length ≤ c) (hs : cur.size = c * 2)
 (ht : cur.toList.take (l.length * 2) = encs l) : k33.R e w base ok (.slice (some ⟨g, 0, none⟩) l.length c) l :=
 ⟨fun k hk => (by simpa [Value.ownBlock] using hk : g = k) ▸ hok, encs l, ⟨encs_length l, .inr ⟨g, c, cur, rfl, hb, hh, hl, by unfold maxLen; omega, hs, ht⟩⟩, c1b _ _ _ _⟩
theorem a3p {P : Program} (w : World) (dT sT ty elem : TypeId) (g o dLen dCap : Nat) (a : Addr) (sLen sCap : Nat) (cur : Array Value) (t : TypeId) (cs : List Value)
 (hu : P.underlying dT = some (.slice elem)) (hs : (P.info? elem).map (·.size) = some 2)
 (hg : w.heap[g]? = some (.cells cur t (0, 0))) (hn : cs.length = Nat.min sLen dLen * 2)
 (hsrc : ∀ j v, cs[j]? = some v → w.cell? (a.add j) = some v) (hfit : o + cs.length ≤ cur.size) (h1 : ∀ v ∈ cs, v.oneCell' = true) :
 (Builtin.copy_ #[dT, sT] ty #[.slice (some ⟨g, o, none⟩) dLen dCap, .slice (some a) sLen sCap]).run P w =
  .ok (goInt (Nat.min sLen dLen : Nat)) (w.setRow g (cur.toList.take o ++ cs ++ cur.toList.drop (o + cs.length)).toArray) := by
 have hl := run_loadCells_list (P := P) w a cs hsrc
 have hst := run_storeCells_at P g o t cs 0 cur w hg (by simpa using hfit) h1
 cases hq : P.info? elem with
 | none => simp [hq] at hs
 | some i =>
  have hi : i.size = 2 := by simpa [hq] using hs
  simp [Builtin.copy_, run_underlying hu, Builtin.lenOf, Builtin.firstCells, sizeOf, typeInfo, hq, hi, ← hn, hl, hst]
theorem a1e {w : World} {g : Nat} {cur : Array Value} {t : TypeId} (hg : w.heap[g]? = some (.cells cur t (0, 0))) (j : Nat) : w.cell? ⟨g, j, none⟩ = cur[j]? := by
 simp [World.cell?, hg]
theorem a1h {w : World} {g : Nat} {cur : Array Value} {t : TypeId} (hg : w.heap[g]? = some (.cells cur t (0, 0))) (j : Nat) : w.frozen? ⟨g, j, none⟩ = false := by
 simp [World.frozen?, hg]
theorem b0k {w : World} {g : Nat} {cur : Array Value} {t : TypeId} (hg : w.heap[g]? = some (.cells cur t (0, 0))) : w.shape? g = some (t, cur.size) := by
 simp [World.shape?, hg]
def api_Entry_118.f (l0 : List E) (n : Int) : Option (List E) := if l0.length = 0 ∧ 0 ≤ n ∧ n < 1000000000 then some [] else none
theorem b7u (m : Nat) (w : World) (hm : 0 < m) (hl : m < 1000000000) :
 Calls Tryz.prog 118 #[.slice none 0 0, .int .i64 m] w fun e w' => ∃ v0_ : Value, e = .returned (v0_) ∧ Kd.R k33 33 w' w.heap.size (fun _ => True) v0_ [] ∧ Below w.heap.size w w' := by
 have u35 := Tryz.underlying35
 obtain ⟨i0, hi0, hzz⟩ := Option.map_eq_some_iff.1 a0m
 simp only [Prod.mk.injEq] at hzz
 obtain ⟨hz0, hz1, hz2⟩ := hzz
 have hold : (Builtin.firstCells i0.size 0 (.slice none 0 0)).run Tryz.prog w.drew = .ok (([] : List Value)).toArray w.drew := run_firstCells_none w.drew i0.size 0 0 0
 obtain ⟨G, hG⟩ : ∃ G, G = grownCap w m 0 33 := ⟨_, rfl⟩
 obtain ⟨ROW, hROW⟩ : ∃ ROW : Array Value, ROW = (([] : List Value)).toArray ++ Builtin.zeroCells (Value.agg #[(.int .u64 0), (.int .i64 0)]).cells m ++ Builtin.zeroCells (Value.agg #[(.int .u64 0), (.int .i64 0)]).cells (G - m) := ⟨_, rfl⟩
 have hrz : ∀ ty, (Builtin.append_ #[35, 3] ty #[.slice none 0 0, .int .i64 (m : Int)]).run Tryz.prog w =
  .ok (.slice (some ⟨w.heap.size, 0, none⟩) m G) (w.drew.alloc (.cells ROW 33)) := fun ty => by
  have h := Lib.run_append_grow_zeros (P := Tryz.prog) w 35 3 ty 33 i0 _ .i64 .i64 Tryz.underlying35 Tryz.underlying3 hi0 hz0 none 0 0 [] hold m hm (by rw [hz1]; omega) (by omega) (by omega) (by rw [hz2]; omega)
   (by rw [hz2, Nat.zero_add]; exact growslice_fits (by omega) (by omega))
  rw [Nat.zero_add, ← hG, ← hROW] at h
  exact h
 have hGm : m ≤ G := by rw [hG]; exact grownCap_ge w _ _ _
 have hG63 : G ≤ 9223372036854775807 := by
  have := grownCap_le_maxLen w m 0 33 (by unfold maxLen; omega)
  rw [← hG] at this
  unfold maxLen at this
  omega
 have hRs : ROW.size = G * 2 := by
  rw [hROW]
  simp only [Array.size_append, List.size_toArray, List.length_nil, Builtin.zeroCells, Array.size_map, Array.size_range]
  show 0 + m * 2 + (G - m) * 2 = G * 2
  omega
 have hend : ∀ W : World, W = (w.alloc (.cells ROW 33)).drew → Kd.R k33 33 W w.heap.size (fun _ => True) (.slice (some ⟨w.heap.size, 0, none⟩) 0 G) [] ∧ Below w.heap.size w W := fun W hW => by
  have hH : W.heap[w.heap.size]? = some (.cells ROW 33 (0, 0)) := by rw [hW]; show (w.heap.push _)[w.heap.size]? = _; simp
  refine ⟨a8x (l := []) (Nat.le_refl _) trivial hH hG63 (Nat.zero_le _) hRs (by simp [encs]), ?_⟩
  rw [hW]
  exact below_drew (below_alloc (Below.refl _ _) _)
 have HEND := za hend
 clear hend hRs hROW hG hold hi0 hz0 hz1 hz2 hl
 have hp : (0 : Int) < (m : Int) := by omega
 have hn : ¬ (m : Int) < 0 := by omega
 go_enter Tryz.func118, Tryz.ntmps118
 go_wp2_with (at_builtin; refine Lib.wpList_append_run _ rfl _ _ _ _ rfl _ _ rfl rfl _ _ (hrz _) ?_)
 go_ret
 exact ⟨_, rfl, (HEND.out _ rfl).1, (HEND.out _ rfl).2⟩
theorem b8p (w : World) :
 Calls Tryz.prog 118 #[.slice none 0 0, .int .i64 0] w fun e w' => ∃ v0_ : Value, e = .returned (v0_) ∧ Kd.R k33 33 w' w.heap.size (fun _ => True) v0_ [] ∧ Below w.heap.size w w' := by
 go_enter Tryz.func118, Tryz.ntmps118
 go_wp2
 go_ret
 exact ⟨_, rfl, Kd.R_nil _ _ _ _ _, Below.refl _ _⟩
theorem api_Entry_118.calls (n : Int) (r : List E) (w : World) (h : api_Entry_118.f [] n = some r) :
 Calls Tryz.prog 118 #[.slice none 0 0, .int .i64 n] w fun e w' => ∃ v0_ : Value, e = .returned (v0_) ∧ Kd.R k33 33 w' w.heap.size (fun _ => True) v0_ r ∧ Below w.heap.size w w' := by
 unfold api_Entry_118.f at h
 by_cases hc : ([] : List E).length = 0 ∧ 0 ≤ n ∧ n < 1000000000
 · rw [if_pos hc] at h
   obtain rfl := Option.some.inj h
   obtain ⟨_, h0, h1⟩ := hc
   obtain ⟨m, rfl⟩ := Int.eq_ofNat_of_zero_le h0
   by_cases hm : m = 0
   · subst hm; exact b8p w
   · exact b7u m w (by omega) (by omega)
 · rw [if_neg hc] at h
   cases h
end Go.Proofs.YthghkglkifeagaaGreat.V
end
section
namespace Go.Proofs.YthghkglkifeagaaGreat.V
open Go.RowKit Go.Proofs.YthghkglkifeagaaGreatW.PrintWords Go.Proofs.YthghkglkifeagaaGreatW.PrintLast Go.Proofs.YthghkglkifeagaaGreatW.PrintMore
attribute [local go_sem] max2_int min2_int max_two min_two max_three min_three max_four min_four
set_option linter.unusedVariables false
set_option linter.unusedSimpArgs false
mutual
def api_Entry_98.l0 : Nat → List (List (S33)) → Int → List (List (S33)) → Int → Int → Option ((List (S33)))
 | 0, _, _, _, _, _ => none
 | k + 1, x0, x3, x9, x10, x11 => if x11 < x10 then (if 0 ≤ x11 then (if x11 < (x9.length : Int) then (if (wrap64 (x3 + ((a1n x9 x11).length : Int))) < 0 then (none) else (api_Entry_98.l0 k x0 (wrap64 (x3 + ((a1n x9 x11).length : Int))) x9 x10 (wrap64 (x11 + 1)))) else (none)) else (none)) else ((api_Entry_118.f ([] : List (S33)) x3).bind fun t102 => (api_Entry_98.l1 k t102 x0 (x0.length : Int) 0))
def api_Entry_98.l1 : Nat → List (S33) → List (List (S33)) → Int → Int → Option ((List (S33)))
 | 0, _, _, _, _ => none
 | k + 1, x6, x25, x26, x27 => if x27 < x26 then (if 0 ≤ x27 then (if x27 < (x25.length : Int) then (if x6.length + (a1n x25 x27).length < 8796093022208 then (api_Entry_98.l1 k (x6 ++ (a1n x25 x27)) x25 x26 (wrap64 (x27 + 1))) else (none)) else (none)) else (none)) else (some x6)
end
def api_Entry_98.f (k : Nat) (l0 : List (List (S33))) : Option ((List (S33))) := api_Entry_98.l0 k l0 0 l0 (l0.length : Int) 0
theorem api_Entry_98.calls (k : Nat) (A0 : Option Addr) (c0 : Nat) (l0 : List (List (S33))) (r : List (S33)) (w : World) (hr0 : Kd.C (Kd.slice 33 k33) w A0 l0.length l0) (hc0 : l0.length ≤ c0) (h : api_Entry_98.f k l0 = some r) :
 Calls Tryz.prog 98 #[.slice A0 l0.length c0] w fun e w' => ∃ v0_ : Value, e = .returned (v0_) ∧ Kd.R k33 33 w' w.heap.size (fun _ => True) v0_ r ∧ Below w.heap.size w w' := by
 have HR0 := za hr0; have HC0 := za hc0; clear hr0 hc0; have HB := za (Below.refl w.heap.size w); have H : (api_Entry_98.l0 k l0 0 l0 (l0.length : Int) 0) = some r := h; clear h; have H' := za H; clear H; go_enter Tryz.func98, Tryz.ntmps98
 go_wp2
 go_loopg [3, 11] k (fun kq v3 v11 w' => ∃ (x3_1 : Int) (x11_1 : Int), v3 = .int .i64 x3_1 ∧ v11 = .int .i64 x11_1 ∧ Aside0 (api_Entry_98.l0 kq l0 x3_1 l0 (l0.length : Int) x11_1 = some r) ∧ Aside0 (kq ≤ k) ∧ Aside0 (Below w.heap.size w w'))
 case atStart => exact ⟨(0), (0), rfl, rfl, H', ⟨ut _⟩, ⟨HB.out⟩⟩
 case round =>
  clear H'; obtain ⟨x3_1, x11_1, rfl, rfl, HA, HK1, HB⟩ := hrel
  cases gk with
  | zero => exact absurd HA.out (by simp [api_Entry_98.l0])
  | succ k1 =>
   have H := HA.out; clear HA; simp only [api_Entry_98.l0] at H
   by_cases c2 : x11_1 < (l0.length : Int)
   · rw [if_pos c2] at H; have c2b0 : decide (x11_1 < (l0.length : Int)) = true := decide_eq_true c2; clear c2
     by_cases c3 : 0 ≤ x11_1
     · rw [if_pos c3] at H; have c3b0 : decide (0 ≤ x11_1) = true := decide_eq_true c3; clear c3
       by_cases c4 : x11_1 < (l0.length : Int)
       · rw [if_pos c4] at H; have c4b0 : decide (x11_1 < (l0.length : Int)) = true := decide_eq_true c4; clear c4
         by_cases c5 : (wrap64 (x3_1 + ((a1n l0 x11_1).length : Int))) < 0
         · rw [if_pos c5] at H; exact absurd H (by simp)
         · rw [if_neg c5] at H; have c5b0 : decide ((wrap64 (x3_1 + ((a1n l0 x11_1).length : Int))) < 0) = false := decide_eq_false c5; clear c5; have H' := za H; clear H; have p101 : 0 ≤ (x11_1 : Int) := ud (by assumption); have q101 : x11_1 < (l0.length : Int) := ud (by assumption); obtain ⟨ad101, A101_0, c101_0, e101, hx101_0, hl101_0, hi101_0⟩ := at_L5 HR0.out x11_1 p101 q101
           cases e101
           replace hx101_0 := (HB.out.cell (World.block_lt_of_cell? w _ hx101_0)).trans hx101_0; have HR101_0 := za hi101_0; have HC101_0 := za hl101_0; clear hi101_0 hl101_0; replace p101 := eq_true p101; replace q101 := eq_true q101
           go_wp2
           go_roundg k1
           case measure => have := HK1.out; omega
           case rel => exact ⟨(wrap64 (x3_1 + ((a1n l0 x11_1).length : Int))), (wrap64 (x11_1 + 1)), rfl, rfl, H', ⟨by have := HK1.out; omega⟩, ⟨HB.out⟩⟩
       · rw [if_neg c4] at H; exact absurd H (by simp)
     · rw [if_neg c3] at H; exact absurd H (by simp)
   · rw [if_neg c2] at H; have c2b0 : decide (x11_1 < (l0.length : Int)) = false := decide_eq_false c2; clear c2; replace H := Option.bind_eq_some_iff.mp H; obtain ⟨t102, A60, H⟩ := H; replace H : (api_Entry_98.l1 k1 t102 l0 (l0.length : Int) 0) = some r := H; have A6 := za A60; clear A60; have H' := za H; clear H
     go_wp2_with (first | ((with_reducible refine ux (f := 118) rfl ?_); refine vx (some 24) rfl rfl Tryz.func118 (by kernel_rfl) rfl #[.slice none 0 0, .int .i64 x3_1] rfl (by (try simp only [ug, ul, uo]); first | done | rfl | (simp only [uk, uj]; rfl)) ?_; (refine (api_Entry_118.calls x3_1 t102 _ A6.out).mono ?_); rintro e w7 ⟨v103, rfl, ho0, hb⟩; refine ⟨_, rfl, ?_⟩; have n0_ := za (Kd.R_lower ho0 (uu HB.out)); have n1_ := za (ur HB.out hb); clear HB; have HO104 := n0_; have HB := n1_; clear n0_ n1_; (try clear hb); (try clear hk); (try clear hi); (try clear ho0)))
     go_loopg [6, 27] k1 (fun kq v6 v27 w' => ∃ (x6_2 : List (S33)) (x27_2 : Int), v27 = .int .i64 x27_2 ∧ Aside0 (api_Entry_98.l1 kq x6_2 l0 (l0.length : Int) x27_2 = some r) ∧ Aside0 (kq ≤ k1) ∧ Aside0 (Kd.R k33 33 w' w.heap.size (fun _ => True) v6 x6_2) ∧ Aside0 (Below w.heap.size w w'))
     case atStart => exact ⟨(t102), (0), rfl, H', ⟨ut _⟩, ⟨HO104.out⟩, ⟨HB.out⟩⟩
     case round =>
      clear H'
      try clear c2
      try clear c2b0
      obtain ⟨x6_2, x27_2, rfl, HA, HK2, HO_6, HB⟩ := hrel
      cases gk with
      | zero => exact absurd HA.out (by simp [api_Entry_98.l1])
      | succ k2 =>
       have H := HA.out; clear HA; simp only [api_Entry_98.l1] at H
       by_cases c8 : x27_2 < (l0.length : Int)
       · rw [if_pos c8] at H; have c8b0 : decide (x27_2 < (l0.length : Int)) = true := decide_eq_true c8; clear c8
         by_cases c9 : 0 ≤ x27_2
         · rw [if_pos c9] at H; have c9b0 : decide (0 ≤ x27_2) = true := decide_eq_true c9; clear c9
           by_cases c10 : x27_2 < (l0.length : Int)
           · rw [if_pos c10] at H; have c10b0 : decide (x27_2 < (l0.length : Int)) = true := decide_eq_true c10; clear c10
             by_cases c11 : x6_2.length + (a1n l0 x27_2).length < 8796093022208
             · rw [if_pos c11] at H; have LMc11 := za c11; clear c11; obtain ⟨y106, hy106⟩ : ∃ y_ : List (S33), y_ = (x6_2 ++ (a1n l0 x27_2)) := ⟨_, rfl⟩; (replace H : (api_Entry_98.l1 k2 y106 l0 (l0.length : Int) (wrap64 (x27_2 + 1))) = some r := by first | (rw [hy106]; with_reducible exact H) | (have H2_ := (ui _ _).symm.trans H; rw [hy106]; with_reducible exact H2_) | (have H2_ := (ui _ _).symm.trans H; with_reducible exact H2_) | with_reducible exact H | (rw [hy106]; exact H) | exact H); have Ny106 := za hy106; clear hy106; have H' := za H; clear H; have p105 : 0 ≤ (x27_2 : Int) := ud (by assumption); have q105 : x27_2 < (l0.length : Int) := ud (by assumption); obtain ⟨ad105, A105_0, c105_0, e105, hx105_0, hl105_0, hi105_0⟩ := at_L5 HR0.out x27_2 p105 q105
               cases e105
               replace hx105_0 := (HB.out.cell (World.block_lt_of_cell? w _ hx105_0)).trans hx105_0; have HR105_0 := za hi105_0; have HC105_0 := za hl105_0; clear hi105_0 hl105_0; replace p105 := eq_true p105; replace q105 := eq_true q105
               go_wp2_with (first | ((with_reducible refine gate_builtin (b := .append) (xs := #[.tmp 31, .tmp 32]) rfl ?_); at_builtin; refine Kd.R_append_rows k33 (w0 := w) w.heap.size rfl (.tmp 31) (.tmp 32) 35 33 (.agg #[(.int .u64 0), (.int .i64 0)]) 16 rfl Tryz.underlying35 a0m rfl (by decide) (by omega) u6 x6_2 (a1n l0 x27_2) _ _ _ (fun _ => True) (fun _ => False) rfl rfl ?aO ?aR (fun _ _ h => h) (fun _ h => h.elim) ?aF ?aB ?aS ?aL ?_; (case aR => exact (vt HR105_0.out HB.out)); (case aB => exact HB.out); (case aF => exact (fun _ _ => trivial)); (case aO => exact HO_6.out); (case aS => exact (uu HB.out)); (case aL => have := LMc11.out; omega); intro v107 w12 ho hb hg hat; rw [← Ny106.out] at ho; have n0_ := za (hb); have n1_ := za (ho); clear HB; clear HO_6; have HB := n0_; have HO108 := n1_; clear n0_ n1_; clear ho hb hg hat))
               go_roundg k2
               case measure => have := HK1.out; have := HK2.out; omega
               case rel => exact ⟨(y106), (wrap64 (x27_2 + 1)), rfl, H', ⟨by have := HK1.out; have := HK2.out; omega⟩, ⟨HO108.out⟩, ⟨HB.out⟩⟩
             · rw [if_neg c11] at H; exact absurd H (by simp)
           · rw [if_neg c10] at H; exact absurd H (by simp)
         · rw [if_neg c9] at H; exact absurd H (by simp)
       · rw [if_neg c8] at H; have c8b0 : decide (x27_2 < (l0.length : Int)) = false := decide_eq_false c8; clear c8; obtain rfl := Option.some.inj H
         go_wp2
         go_ret
         exact ⟨_, rfl, HO_6.out, HB.out⟩
def block_Pivot.l0 : Nat → Int → List (S33) → List (S109) → Int → Int → Option ((List (S33)))
  | 0, _, _, _, _, _ => none
  | k + 1, x1, x5, x8, x9, x10 => if x10 < x9 then (if 0 ≤ x10 then (if x10 < (x8.length : Int) then (if x5.length + ((a1f x8 x10).f1).length < 8796093022208 then (block_Pivot.l0 k x1 (x5 ++ ((a1f x8 x10).f1)) x8 x9 (wrap64 (x10 + 1))) else (none)) else (none)) else (none)) else ((entry_Sort.f x5).bind fun t106 => (if 0 ≤ (mn (mx x1 0) (t106.length : Int)) then (if (mn (mx x1 0) (t106.length : Int)) ≤ (t106.length : Int) then ((api_Entry_48.f (t106.take ((mn (mx x1 0) (t106.length : Int)) : Int).toNat)).bind fun t114 => (some t114)) else (none)) else (none)))
def block_Pivot.f (k : Nat) (l0 : List (S109)) (a1 : Int) : Option ((List (S33))) := block_Pivot.l0 k a1 ([] : List (S33)) l0 (l0.length : Int) 0
theorem block_Pivot.calls (k : Nat) (A0 : Option Addr) (c0 : Nat) (l0 : List (S109)) (a1 : Int) (r : List (S33)) (w : World) (hr0 : Kd.C k109 w A0 l0.length l0) (hc0 : l0.length ≤ c0) (h : block_Pivot.f k l0 a1 = some r) :
 Calls Tryz.prog 89 #[.slice A0 l0.length c0, .int .i64 a1] w fun e w' => ∃ v0_ : Value, e = .returned (v0_) ∧ Kd.V k33 33 w' w.heap.size (fun k_ => (w.heap.size ≤ k_)) v0_ r ∧ Below w.heap.size w w' := by
 have hu109 := Tryz.underlying109; have HR0 := za hr0; have HC0 := za hc0; clear hr0 hc0; have HB := za (Below.refl w.heap.size w); have H : (block_Pivot.l0 k a1 ([] : List (S33)) l0 (l0.length : Int) 0) = some r := h; clear h; have H' := za H; clear H; go_enter Tryz.func89, Tryz.ntmps89
 go_wp2
 go_loopg [5, 10] k (fun kq v5 v10 w' => ∃ (x5_1 : List (S33)) (x10_1 : Int), v10 = .int .i64 x10_1 ∧ Aside0 (block_Pivot.l0 kq a1 x5_1 l0 (l0.length : Int) x10_1 = some r) ∧ Aside0 (kq ≤ k) ∧ Aside0 (Kd.R k33 33 w' w.heap.size (fun k_ => (w.heap.size ≤ k_)) v5 x5_1) ∧ Aside0 (Below w.heap.size w w'))
 case atStart => exact ⟨(([] : List (S33))), (0), rfl, H', ⟨ut _⟩, ⟨by first | exact Kd.R_nil _ _ _ _ _ | exact Kd.N_nil _ _ _ _ _ | exact Kd.V_nil _ _ _ _ _ | exact Kd.Q_nil _ _ _ _ _ | exact Kd.S_nil _ _ _ _ _⟩, ⟨HB.out⟩⟩
 case round =>
  clear H'
  obtain ⟨x5_1, x10_1, rfl, HA, HK1, HO_5, HB⟩ := hrel
  cases gk with
  | zero => exact absurd HA.out (by simp [block_Pivot.l0])
  | succ k1 =>
   have H := HA.out; clear HA; simp only [block_Pivot.l0] at H
   by_cases c3 : x10_1 < (l0.length : Int)
   · rw [if_pos c3] at H; have c3b0 : decide (x10_1 < (l0.length : Int)) = true := decide_eq_true c3; clear c3
     by_cases c4 : 0 ≤ x10_1
     · rw [if_pos c4] at H; have c4b0 : decide (0 ≤ x10_1) = true := decide_eq_true c4; clear c4
       by_cases c5 : x10_1 < (l0.length : Int)
       · rw [if_pos c5] at H; have c5b0 : decide (x10_1 < (l0.length : Int)) = true := decide_eq_true c5; clear c5
         by_cases c6 : x5_1.length + ((a1f l0 x10_1).f1).length < 8796093022208
         · rw [if_pos c6] at H; have LMc6 := za c6; clear c6; obtain ⟨y103, hy103⟩ : ∃ y_ : List (S33), y_ = (x5_1 ++ ((a1f l0 x10_1).f1)) := ⟨_, rfl⟩; (replace H : (block_Pivot.l0 k1 a1 y103 l0 (l0.length : Int) (wrap64 (x10_1 + 1))) = some r := by first | (rw [hy103]; with_reducible exact H) | (have H2_ := (ui _ _).symm.trans H; rw [hy103]; with_reducible exact H2_) | (have H2_ := (ui _ _).symm.trans H; with_reducible exact H2_) | with_reducible exact H | (rw [hy103]; exact H) | exact H); have Ny103 := za hy103; clear hy103; have H' := za H; clear H; have p101 : 0 ≤ (x10_1 : Int) := ud (by assumption); have q101 : x10_1 < (l0.length : Int) := ud (by first | (with_reducible assumption) | assumption); obtain ⟨ad101, A101_1, c101_1, e101, hx101_0, hx101_1, hl101_1, hi101_1⟩ := b3f HR0.out x10_1 p101 q101
           cases e101
           replace hx101_0 := (HB.out.cell (World.block_lt_of_cell? w _ hx101_0)).trans hx101_0; replace hx101_1 := (HB.out.cell (World.block_lt_of_cell? w _ hx101_1)).trans hx101_1; have HR101_1 := za hi101_1; have HC101_1 := za hl101_1; clear hi101_1 hl101_1; replace p101 := eq_true p101; replace q101 := eq_true q101
           go_wp2_with (first | ((with_reducible refine gate_dst (N := 7) rfl ?_); refine box_event ?hg (N := 7) ?hd (cs := #[.int .i64 0, .slice none 0 0]) (t := 109) ?hr ?_; (case hd => rfl); (case hg => rfl); (case hr => first | (go_simp; done) | (go_simp; rfl)); intro gb102 hg w7 hbox hb; have n0_ := za (Kd.R_below (by (with_reducible repeat (first | apply Kd.R_alloc | apply Kd.R_drewN | apply Kd.R_drew)); exact HO_5.out) hb); have n1_ := za (ur (by repeat (first | (with_reducible first | exact HB.out | apply uv | apply uw | apply us) | exact HB.out)) hb); have n2_ := za (hbox); have n3_ := za ((by rw [hg]; exact (uu (by repeat (first | (with_reducible first | exact HB.out | apply uv | apply uw | apply us) | exact HB.out))) : w.heap.size ≤ gb102)); have n4_ := za ((by rw [hg]; exact (uu (by repeat (first | (with_reducible first | exact HB.out | apply uv | apply uw | apply us) | exact HB.out))) : w.heap.size ≤ gb102)); clear HO_5; clear HB; have HO_5 := n0_; have HB := n1_; have BK102 := n2_; have GW102 := n3_; have GE102 := n4_; clear n0_ n1_ n2_ n3_ n4_; clear hb hbox hg; have hcz8_0 : w7.cell? ⟨gb102, 0, none⟩ = some (.int .i64 0) := (uq BK102.out 0).trans rfl; have hcz8_1 : w7.cell? ⟨gb102, 1, none⟩ = some (.slice none 0 0) := (uq BK102.out 1).trans rfl; have hfz8_0 := vk BK102.out 0; have hfz8_1 := vk BK102.out 1) | ((with_reducible refine gate_builtin (b := .append) (xs := #[.tmp 14, .tmp 16]) rfl ?_); at_builtin; refine Kd.R_append_rows k33 (w0 := w) w.heap.size rfl (.tmp 14) (.tmp 16) 35 33 (.agg #[(.int .u64 0), (.int .i64 0)]) 16 rfl Tryz.underlying35 a0m rfl (by decide) (by omega) u5 x5_1 ((a1f l0 x10_1).f1) _ _ _ (fun k_ => (w.heap.size ≤ k_)) (fun _ => False) rfl rfl ?aO ?aR (fun _ _ h => h) (fun _ h => h.elim) ?aF ?aB ?aS ?aL ?_; (case aR => exact vt HR101_1.out (by repeat (first | (with_reducible first | exact HB.out | apply uv | apply uw | apply us | refine vn ?_ GE102.out) | exact HB.out))); (case aB => exact (by repeat (first | (with_reducible first | exact HB.out | apply uv | apply uw | apply us | refine vn ?_ GE102.out) | exact HB.out))); (case aF => exact (fun k_ hk => (Nat.le_trans (uu (by repeat (first | (with_reducible first | exact HB.out | apply uv | apply uw | apply us | refine vn ?_ GE102.out) | exact HB.out))) hk))); (case aO => exact (by (with_reducible repeat (first | apply Kd.R_alloc | apply Kd.R_drewN | apply Kd.R_drew)); exact vz (Kd.R_far (p := ⟨gb102, 1, none⟩) (Kd.R_far (p := ⟨gb102, 0, none⟩) (Kd.R_types HO_5.out BK102.out (by decide)) (fun _ hk => hk.2) (.int .i64 ((a1f l0 x10_1).f0))) (fun _ hk => hk.2) (.slice A101_1 ((a1f l0 x10_1).f1).length c101_1)) (fun _ hk => hk.1))); (case aS => exact (uu (by repeat (first | (with_reducible first | exact HB.out | apply uv | apply uw | apply us | refine vn ?_ GE102.out) | exact HB.out)))); (case aL => have := LMc6.out; omega); intro v104 w9 ho hb hg hat; rw [← Ny103.out] at ho; have n0_ := za (blk_grown (g := gb102) (o := .cells #[.int .i64 ((a1f l0 x10_1).f0), .slice A101_1 ((a1f l0 x10_1).f1).length c101_1] 109 (0, 0)) (by (with_reducible repeat (first | refine blk_drewN ?_ _ | refine blk_drew ?_ | refine blk_alloc ?_ _)); refine blk_put (cs := #[.int .i64 ((a1f l0 x10_1).f0), .slice none 0 0]) ?_ 1 _ rfl; (with_reducible repeat (first | refine blk_drewN ?_ _ | refine blk_drew ?_ | refine blk_alloc ?_ _)); refine blk_put (cs := #[.int .i64 0, .slice none 0 0]) ?_ 0 _ rfl; (with_reducible repeat (first | refine blk_drewN ?_ _ | refine blk_drew ?_ | refine blk_alloc ?_ _)); exact BK102.out) hg (Kd.R_ne HO_5.out BK102.out (by decide))); have n1_ := za (hb); have n2_ := za (ho); clear BK102; clear HB; clear HO_5; have BK102 := n0_; have HB := n1_; have HO105 := n2_; clear n0_ n1_ n2_; clear ho hb hg hat))
           go_roundg k1
           case measure => have := HK1.out; omega
           case rel => exact ⟨(y103), (wrap64 (x10_1 + 1)), (by first | rfl | (simp; done) | (simp [*]; done)), H', ⟨by have := HK1.out; omega⟩, ⟨by (with_reducible repeat (first | apply Kd.R_alloc | apply Kd.R_drewN | apply Kd.R_drew)); exact HO105.out⟩, ⟨by repeat (first | (with_reducible first | exact HB.out | apply uv | apply uw | apply us | refine vn ?_ GE102.out) | exact HB.out)⟩⟩
         · rw [if_neg c6] at H; exact absurd H (by simp)
       · rw [if_neg c5] at H; exact absurd H (by simp)
     · rw [if_neg c4] at H; exact absurd H (by simp)
   · rw [if_neg c3] at H; have c3b0 : decide (x10_1 < (l0.length : Int)) = false := decide_eq_false c3; clear c3; replace H := Option.bind_eq_some_iff.mp H; obtain ⟨t106, A100, H⟩ := H; replace H : (if 0 ≤ (mn (mx a1 0) (t106.length : Int)) then (if (mn (mx a1 0) (t106.length : Int)) ≤ (t106.length : Int) then ((api_Entry_48.f (t106.take ((mn (mx a1 0) (t106.length : Int)) : Int).toNat)).bind fun t114 => (some t114)) else (none)) else (none)) = some r := H; have A10 := za A100; clear A100; obtain ⟨ji11, hji11⟩ : ∃ j_ : Int, (mx a1 0) = j_ := ⟨_, rfl⟩; (replace H : (if 0 ≤ (mn (ji11) (t106.length : Int)) then (if (mn (ji11) (t106.length : Int)) ≤ (t106.length : Int) then ((api_Entry_48.f (t106.take ((mn (ji11) (t106.length : Int)) : Int).toNat)).bind fun t114 => (some t114)) else (none)) else (none)) = some r := by first | (rw [hji11] at H; exact H) | (simp only [hji11] at H ⊢; exact H)); (try rw [hji11] at A10); have hji11_ : (if a1 < 0 then 0 else a1) = ji11 := hji11; obtain ⟨ji12, hji12⟩ : ∃ j_ : Int, (mn (ji11) (t106.length : Int)) = j_ := ⟨_, rfl⟩; (replace H : (if 0 ≤ (ji12) then (if (ji12) ≤ (t106.length : Int) then ((api_Entry_48.f (t106.take ((ji12) : Int).toNat)).bind fun t114 => (some t114)) else (none)) else (none)) = some r := by first | (rw [hji12] at H; exact H) | (simp only [hji12] at H ⊢; exact H)); (try rw [hji12] at A10); have hji12_ : (if (t106.length : Int) < (ji11) then (t106.length : Int) else (ji11)) = ji12 := hji12
     by_cases c13 : 0 ≤ (ji12)
     · rw [if_pos c13] at H; have c13b0 := eq_true c13; have c13b1 : decide (0 ≤ (ji12)) = true := decide_eq_true c13; clear c13
       by_cases c14 : (ji12) ≤ (t106.length : Int)
       · rw [if_pos c14] at H; have c14b0 := eq_true c14; have c14b1 : decide ((ji12) ≤ (t106.length : Int)) = true := decide_eq_true c14; clear c14; obtain ⟨y109, hy109⟩ : ∃ y_ : List (S33), y_ = (t106.take ((ji12) : Int).toNat) := ⟨_, rfl⟩; (replace H : ((api_Entry_48.f y109).bind fun t114 => (some t114)) = some r := by first | (rw [hy109]; with_reducible exact H) | (have H2_ := (ui _ _).symm.trans H; rw [hy109]; with_reducible exact H2_) | (have H2_ := (ui _ _).symm.trans H; with_reducible exact H2_) | with_reducible exact H | (rw [hy109]; exact H) | exact H); have Ny109 := za hy109; clear hy109; replace H := Option.bind_eq_some_iff.mp H; obtain ⟨t114, A150, H⟩ := H; replace H : (some t114) = some r := H; have A15 := za A150; clear A150; obtain rfl := Option.some.inj H; obtain ⟨Ao16, co16, eo16⟩ := Kd.R_slice HO_5.out; subst eo16
         go_wp2_with (first | ((with_reducible refine ux (f := 44) rfl ?_); refine vx (some 20) rfl rfl Tryz.func44 (by kernel_rfl) rfl #[.slice Ao16 x5_1.length co16] rfl (by (try simp only [ug, ul, uo]); first | done | rfl | (simp only [uk, uj]; rfl)) ?_; (with_reducible refine (entry_Sort.calls _ _ x5_1 t106 _ ?side1 ?side2 A10.out).mono ?_); (case side1 => repeat (first | exact (Kd.R_reads' HO_5.out).2.2 | (with_reducible refine Kd.C_alloc ?_ _) | (with_reducible refine Kd.C_drewN ?_ _) | (with_reducible refine Kd.C_drew ?_))); (case side2 => exact (Kd.R_reads' HO_5.out).2.1); rintro e w17 ⟨v107, rfl, ho0, hb⟩; refine ⟨_, rfl, ?_⟩; have n0_ := za (Kd.R_below HO_5.out hb); have n1_ := za (Kd.V_lower (Kd.V_mono (ok' := fun k_ => (w.heap.size ≤ k_) ∧ some k_ ≠ (.slice Ao16 x5_1.length co16 : Value).ownBlock) ho0 (fun k_ hk_ => ⟨(Nat.le_trans (uu HB.out) hk_), (Kd.fresh' (Kd.R_lt HO_5.out) k_ hk_)⟩)) (uu HB.out)); have n2_ := za (ur HB.out hb); clear HO_5; clear HB; have HO_5 := n0_; have HO108 := n1_; have HB := n2_; clear n0_ n1_ n2_; (try clear hb); (try clear hk); (try clear hi); (try clear ho0); obtain ⟨Ao18, co18, eo18⟩ := xd HO108.out; subst eo18; have q19 : ((ji12) : Int) ≤ ((t106.length : Int) : Int) := ud (by assumption); obtain ⟨i019, hi019, _, hsz19, _⟩ := info_parts a0m; have hroom19 : t106.length ≤ co18 := (xa HO108.out).2.1; have hC19 : Kd.F k33 _ _ Ao18 t106.length t106 := (Kd.V_at (base := w.heap.size) HO108.out).2.2; have hcut19 := cut_to (P := Tryz.prog) 35 33 .i64 Tryz.underlying35 hi019 Ao18 t106.length co18 (ji12) (ud (by assumption)) q19 hroom19; have hr19 := Kd.F_take (m := ((ji12) : Int).toNat) hC19 (by omega); have hy19 : y109.length = ((ji12) : Int).toNat := (by rw [Ny109.out, uj]; omega); rw [← Ny109.out] at hr19; rw [← hy19] at hcut19; have HO113 := za (show Kd.V k33 33 _ w.heap.size _ (.slice Ao18 y109.length co18) y109 from Kd.V_mk (by omega) hr19); have HC113 := za (show y109.length ≤ co18 from by omega); clear hr19 hC19 hroom19 hi019 hsz19; have KY19 := za hy19; clear hy19; replace q19 := eq_true q19) | ((with_reducible refine ux (f := 48) rfl ?_); refine vx (some 28) rfl rfl Tryz.func48 (by kernel_rfl) rfl #[.slice Ao18 y109.length co18] rfl (by (try simp only [ug, ul, uo]); first | done | rfl | (simp only [uk, uj]; rfl)) ?_; (with_reducible refine (api_Entry_48.calls (fun k_ => ((w.heap.size ≤ k_) ∧ some k_ ≠ (.slice Ao16 x5_1.length co16 : Value).ownBlock)) _ _ y109 t114 _ ?side1 A15.out).mono ?_); (case side1 => exact HO113.out); rintro e w20 ⟨v115, rfl, ho0, hb⟩; refine ⟨_, rfl, ?_⟩; have n0_ := za (Kd.R_below HO_5.out hb); have n1_ := za (Kd.V_below HO108.out hb); have n2_ := za (Kd.V_below HO113.out hb); have n3_ := za (Kd.V_lower (Kd.V_mono (ok' := fun k_ => (w.heap.size ≤ k_) ∧ some k_ ≠ (.slice Ao16 x5_1.length co16 : Value).ownBlock) ho0 (fun k_ hk_ => ⟨Or.elim hk_ (fun hs_ => hs_.1) (fun hn_ => (Nat.le_trans (uu HB.out) hn_)), Or.elim hk_ (fun hs_ => hs_.2) (fun hn_ => (Kd.fresh' (Kd.R_lt HO_5.out) k_ hn_))⟩)) (uu HB.out)); have n4_ := za (ur HB.out hb); clear HO_5; clear HO108; clear HO113; clear HB; have HO_5 := n0_; have HO108 := n1_; have HO113 := n2_; have HO116 := n3_; have HB := n4_; clear n0_ n1_ n2_ n3_ n4_; (try clear hb); (try clear hk); (try clear hi); (try clear ho0)))
         go_ret
         exact ⟨_, by first | rfl | (simp [a2k, a2n] <;> rfl) | (simp only [← hji11, ← hji12]; first | rfl | (simp [a2k, a2n] <;> rfl)) | (simp [*, a2k, a2n] <;> rfl), by (with_reducible repeat (first | apply Kd.V_alloc | apply Kd.V_drewN | apply Kd.V_drew)); exact Kd.V_mono HO116.out (fun _ hk => hk.1), by repeat (first | (with_reducible first | exact HB.out | apply uv | apply uw | apply us) | exact HB.out)⟩
       · rw [if_neg c14] at H; exact absurd H (by simp)
     · rw [if_neg c13] at H; exact absurd H (by simp)
def block_Of.f (k : Nat) (l0 : List (S33)) : Option (Int × (List (S33))) := (block_Level.f k (l0.length : Int)).bind fun t102 => ((entry_Sort.f l0).bind fun t103 => (some (t102, t103)))
theorem block_Of.calls (k : Nat) (A0 : Option Addr) (c0 : Nat) (l0 : List (S33)) (r1 : Int) (r2 : List (S33)) (w : World) (hr0 : Kd.C k33 w A0 l0.length l0) (hc0 : l0.length ≤ c0) (h : block_Of.f k l0 = some (r1, r2)) :
 Calls Tryz.prog 68 #[.slice A0 l0.length c0] w fun e w' => ∃ v1_ : Value, e = .returned (.agg #[.int .i64 r1, v1_]) ∧ Kd.V k33 33 w' w.heap.size (fun k_ => (w.heap.size ≤ k_)) v1_ r2 ∧ Below w.heap.size w w' := by
 have hu109 := Tryz.underlying109; have HR0 := za hr0; have HC0 := za hc0; clear hr0 hc0; have HB := za (Below.refl w.heap.size w); have H : ((block_Level.f k (l0.length : Int)).bind fun t102 => ((entry_Sort.f l0).bind fun t103 => (some (t102, t103)))) = some (r1, r2) := h; clear h; replace H := Option.bind_eq_some_iff.mp H; obtain ⟨t102, A20, H⟩ := H; replace H : ((entry_Sort.f l0).bind fun t103 => (some (t102, t103))) = some (r1, r2) := H; have A2 := za A20; clear A20; replace H := Option.bind_eq_some_iff.mp H; obtain ⟨t103, A30, H⟩ := H; replace H : (some (t102, t103)) = some (r1, r2) := H; have A3 := za A30; clear A30; simp only [Option.some.injEq, Prod.mk.injEq] at H; obtain ⟨rfl, rfl⟩ := H; go_enter Tryz.func68, Tryz.ntmps68
 go_wp2_with (first | ((with_reducible refine gate_dst (N := 2) rfl ?_); refine box_event ?hg (N := 2) ?hd (cs := #[.int .i64 0, .slice none 0 0]) (t := 109) ?hr ?_; (case hd => rfl); (case hg => rfl); (case hr => first | (go_simp; done) | (go_simp; rfl)); intro gb101 hg w4 hbox hb; have n0_ := za (ur (by repeat (first | (with_reducible first | exact HB.out | apply uv | apply uw | apply us) | exact HB.out)) hb); have n1_ := za (hbox); have n2_ := za ((by rw [hg]; exact (uu (by repeat (first | (with_reducible first | exact HB.out | apply uv | apply uw | apply us) | exact HB.out))) : w.heap.size ≤ gb101)); have n3_ := za ((by rw [hg]; exact (uu (by repeat (first | (with_reducible first | exact HB.out | apply uv | apply uw | apply us) | exact HB.out))) : w.heap.size ≤ gb101)); clear HB; have HB := n0_; have BK101 := n1_; have GW101 := n2_; have GE101 := n3_; clear n0_ n1_ n2_ n3_; clear hb hbox hg) | ((with_reducible refine ux (f := 93) rfl ?_); refine vx (some 5) rfl rfl Tryz.func93 (by kernel_rfl) rfl #[.int .i64 (l0.length : Int)] rfl (by (try simp only [ug, ul, uo]); first | done | rfl | (simp only [uk, uj]; rfl)) ?_; (with_reducible refine (block_Level.calls k (l0.length : Int) t102 _ A2.out).mono ?_); rintro e w' ⟨rfl, ⟨nd, rfl⟩⟩; refine ⟨_, rfl, ?_⟩; (try (rw [drewN_self w4]; generalize hq_ : World.drewN w4 _ = w4; have n0_ : Aside0 (w4.heap[gb101]? = some (.cells #[.int .i64 0, .slice none 0 0] 109 (0, 0))) := ⟨by rw [← hq_]; exact (by (with_reducible repeat (first | refine blk_drewN ?_ _ | refine blk_drew ?_ | refine blk_alloc ?_ _)); exact BK101.out)⟩; have n1_ : Aside0 (Below w.heap.size w w4) := ⟨by rw [← hq_]; exact (by repeat (first | (with_reducible first | exact HB.out | apply uv | apply uw | apply us | refine vn ?_ GE101.out) | exact HB.out))⟩; clear BK101 HB hq_; have BK101 := n0_; have HB := n1_; clear n0_ n1_))) | ((with_reducible refine ux (f := 44) rfl ?_); refine vx (some 7) rfl rfl Tryz.func44 (by kernel_rfl) rfl #[.slice A0 l0.length c0] rfl (by (try simp only [ug, ul, uo]); first | done | rfl | (simp only [uk, uj]; rfl)) ?_; (with_reducible refine (entry_Sort.calls _ _ l0 t103 _ ?side1 ?side2 A3.out).mono ?_); (case side1 => repeat (first | exact (vt HR0.out HB.out) | (with_reducible refine Kd.C_alloc ?_ _) | (with_reducible refine Kd.C_drewN ?_ _) | (with_reducible refine Kd.C_drew ?_))); (case side2 => exact HC0.out); rintro e w5 ⟨v104, rfl, ho0, hb⟩; refine ⟨_, rfl, ?_⟩; have n0_ := za (Kd.V_lower (Kd.V_mono (ok' := fun k_ => (w.heap.size ≤ k_) ∧ k_ ≠ gb101) ho0 (fun k_ hk_ => ⟨(Nat.le_trans (uu (by repeat (first | (with_reducible first | exact HB.out | apply uv | apply uw | apply us | refine vn ?_ GE101.out) | exact HB.out))) hk_), (Kd.freshB (g := gb101) (o := .cells #[.int .i64 0, .slice none 0 0] 109 (0, 0)) (by (with_reducible repeat (first | refine blk_drewN ?_ _ | refine blk_drew ?_ | refine blk_alloc ?_ _)); exact BK101.out) k_ hk_)⟩)) (uu (by repeat (first | (with_reducible first | exact HB.out | apply uv | apply uw | apply us | refine vn ?_ GE101.out) | exact HB.out)))); have n1_ := za (vo (g := gb101) (o := .cells #[.int .i64 0, .slice none 0 0] 109 (0, 0)) (by (with_reducible repeat (first | refine blk_drewN ?_ _ | refine blk_drew ?_ | refine blk_alloc ?_ _)); exact BK101.out) hb); have n2_ := za (ur (by repeat (first | (with_reducible first | exact HB.out | apply uv | apply uw | apply us | refine vn ?_ GE101.out) | exact HB.out)) hb); clear BK101; clear HB; have HO105 := n0_; have BK101 := n1_; have HB := n2_; clear n0_ n1_ n2_; (try clear hb); (try clear hk); (try clear hi); (try clear ho0); obtain ⟨Ao6, co6, eo6⟩ := xd HO105.out; subst eo6; have hcz7_0 : w5.cell? ⟨gb101, 0, none⟩ = some (.int .i64 0) := (uq BK101.out 0).trans rfl; have hcz7_1 : w5.cell? ⟨gb101, 1, none⟩ = some (.slice none 0 0) := (uq BK101.out 1).trans rfl; have hfz7_0 := vk BK101.out 0; have hfz7_1 := vk BK101.out 1))
 refine bodyPost_ret (results_cell_row rfl _ _ gb101 109 #[.int .i64 t102, .slice Ao6 t103.length co6] (0, 0) _ rfl (by (with_reducible repeat (first | refine blk_drewN ?_ _ | refine blk_drew ?_ | refine blk_alloc ?_ _)); refine blk_put (cs := #[.int .i64 t102, .slice none 0 0]) ?_ 1 _ rfl; (with_reducible repeat (first | refine blk_drewN ?_ _ | refine blk_drew ?_ | refine blk_alloc ?_ _)); refine blk_put (cs := #[.int .i64 0, .slice none 0 0]) ?_ 0 _ rfl; (with_reducible repeat (first | refine blk_drewN ?_ _ | refine blk_drew ?_ | refine blk_alloc ?_ _)); exact BK101.out) Tryz.underlying109 rfl (by kernel_rfl)) rfl ?_; exact ⟨_, by first | rfl | (simp [a2k, a2n] <;> rfl) | (simp [*, a2k, a2n] <;> rfl), by (with_reducible repeat (first | apply Kd.V_alloc | apply Kd.V_drewN | apply Kd.V_drew)); exact Kd.V_mono (Kd.V_far (p := ⟨gb101, 1, none⟩) (Kd.V_far (p := ⟨gb101, 0, none⟩) (Kd.V_mono HO105.out (fun k_ hk => (⟨hk, hk.2⟩ : _ ∧ k_ ≠ gb101))) (fun _ hk => hk.2) (.int .i64 t102)) (fun _ hk => hk.2) (.slice Ao6 t103.length co6)) (fun _ hk => hk.1.1), by repeat (first | (with_reducible first | exact HB.out | apply uv | apply uw | apply us | refine vn ?_ GE101.out) | exact HB.out)⟩
def block_Merge.f (k : Nat) (a0_0 : Int) (l0_1 : List (S33)) (a1_0 : Int) (l1_1 : List (S33)) : Option (Int × (List (S33))) := (api_Entry_98.f k (([l0_1, l1_1] : List (List (S33))))).bind fun t107 => ((block_Of.f k t107).bind fun bt110 => (some (bt110.1, bt110.2)))
end Go.Proofs.YthghkglkifeagaaGreat.V
end
