-- a text of this work, without what this claim doesn't use (wip/shake.py)
import Derived.Test.YthghkglkifeagaaGreatPVPblockb
import Derived.Test.YthghkglkifeagaaGreatPVTB
import Derived.Deep.RegionHeld3
import Derived.BigRegion
import Derived.WalkMore
import Derived.ScopeJumps
import Derived.IntWalk
import Derived.Shelf.RegionOpenPlain
set_option maxRecDepth 100000
set_option maxHeartbeats 8000000
set_option linter.unusedVariables false
set_option linter.unusedSimpArgs false
namespace Go.Proofs.YthghkglkifeagaaGreat.V
open Go.RowKit Go.Proofs.YthghkglkifeagaaGreatW.PrintWords Go.Proofs.YthghkglkifeagaaGreatW.PrintLast Go.Proofs.YthghkglkifeagaaGreatW.PrintMore
theorem brepl (base g n cap q vb vc : Nat) (ok : Nat → Prop) (bs : List Bk) (m : Bk) (u : Value) (w : World) (hN : Kd.N k109 109 w base ok (.slice (some ⟨g, 0, none⟩) n cap) bs) (hq : q + 2 ≤ n) (hn : n ≤ 1000)
 (hv : w.heap[vb]? = some (.cells #[.int .i64 m.f0, u] 109 (0, 0))) (hne : vb ≠ g) (hM : Kd.FK k109 w (fun k => ok k ∧ k ≠ g) m [.int .i64 m.f0, u]) :
 Calls Tryz.prog 96 #[.slice (some ⟨g, 0, none⟩) n cap, .int .i64 (q : Int), .int .i64 ((q : Int) + 2), .slice (some ⟨vb, 0, none⟩) 1 vc] w fun e w' => e = .returned (.slice (some ⟨g, 0, none⟩) (n - 1) cap) ∧ Kd.N k109 109 w' base ok (.slice (some ⟨g, 0, none⟩) (n - 1) cap) (bs.take q ++ m :: bs.drop (q + 2)) ∧ w.grownBy w' (some g) := by
 by_cases h : q + 2 = n
 · exact b4e base g n cap q vb vc ok bs m u w hN h hn hv hne hM
 · exact c0r base g n cap q vb vc ok bs m u w hN (by omega) hn hv hne hM
theorem a8e {W : World} {base g n cap : Nat} {ok : Nat → Prop} {bs : List Bk} (h : Kd.N k109 109 W base ok (.slice (some ⟨g, 0, none⟩) n cap) bs) {i : Nat} {b : Bk} (hb : bs[i]? = some b) :
 ∃ A1 c1, W.cell? ⟨g, i * 2, none⟩ = some (.int .i64 b.f0) ∧ W.cell? ⟨g, i * 2 + 1, none⟩ = some (.slice A1 b.f1.length c1) ∧ ∀ B, Kd.V k33 33 W B (fun k => ok k ∧ k ≠ g) (.slice A1 b.f1.length c1) b.f1 := by
 obtain ⟨A1, c1, x0, x1, _, hK, _⟩ := a2g h hb
 obtain ⟨A2, c2, e, l2, g2⟩ := a2v hK
 injection e with _ e
 injection e with e _
 injection e with e1 _ e2
 subst e1; subst e2
 exact ⟨A1, c1, x0, x1, fun B => Kd.V_mk l2 g2⟩
theorem a4y {w w1 : World} {p : Nat} {v : Value} (h : w.grownBy w1 v.ownBlock) : Turn w w1 p v v := ⟨h.os, h.tape, h.output, h.size, fun i hi _ hv => h.block i hi hv, .inl rfl⟩
theorem c0v {w w1 : World} {p : Nat} {v u u1 : Value} (h : Turn w w1 p v u) (he : u1.ownBlock = u.ownBlock) : Turn w w1 p v u1 := ⟨h.os, h.tape, h.output, h.size, h.block, by rw [he]; exact h.own⟩
theorem a5q {cur fin : List Bk} (h : Mrg cur fin) : (allB cur).length = (allB fin).length := (h.all.length_eq).symm
theorem c2f {cur : List Bk} {q : Nat} {m : Bk} (hq : q + 1 < cur.length) : (cur.take q ++ m :: cur.drop (q + 2)).length + 1 = cur.length := by
 simp only [List.length_append, List.length_take, List.length_cons, List.length_drop]; omega
theorem b3w [XSet] {W W0 : World} {p g c : Nat} {A : Option Addr} {b : Bk} {base : Nat} (h : Kd.V k33 33 W base (fun k => (((XSet.ok k ∧ k ≠ p) ∧ k ≠ g) ∨ ((XSet.ok k ∧ k ≠ p) ∧ k ≠ g)) ∨ W0.heap.size ≤ k) (.slice A b.f1.length c) b.f1) (hX : XSet.n ≤ W0.heap.size) (hp : p < W0.heap.size) (hg : g < W0.heap.size) :
 Kd.FK k109 W (fun k => (XSet.ok k ∧ k ≠ p) ∧ k ≠ g) b [.int .i64 b.f0, .slice A b.f1.length c] := by
 obtain ⟨_, h2, h3⟩ := Kd.V_at h
 refine a4r W _ b h2 (Kd.F_mono h3 (fun k hk => ?_))
 rcases hk with (hk | hk) | hk
 · exact hk
 · exact hk
 · exact ⟨⟨XSet.fresh k (Nat.le_trans hX hk), by omega⟩, by omega⟩
theorem a2j (w : World) (o1 o2 : Obj) : ((w.alloc o1).alloc o2).drew.heap[w.heap.size]? = some o1 ∧ ((w.alloc o1).alloc o2).drew.heap[w.heap.size + 1]? = some o2 ∧ Below w.heap.size w ((w.alloc o1).alloc o2).drew := by
 refine ⟨heap_alloc2_old w o1 o2, ?_, below_drew (below_alloc (below_alloc (Below.refl _ _) _) _)⟩
 have := heap_alloc_new (w.alloc o1) o2
 rwa [World.size_alloc] at this
def JM [XSet] (w0 : World) (base p : Nat) (v0 : Value) (fin : List Bk) (w : World) (n : Nat) : Prop :=
  ∃ v cur, cur.length = n ∧ n ≤ 19 ∧ (allB fin).length ≤ 1000000 ∧ Mrg cur fin ∧ LsmAt w base p v cur ∧ Turn w0 w p v0 v
def muM (p : Nat) (w : World) : Nat := match w.heap[p]? with | some (.cells cs _ _) => (match cs.getD 0 undef with | .slice _ n _ => n | _ => 0) | _ => 0
theorem muM_at [XSet] {w : World} {base p : Nat} {A : Option Addr} {n c : Nat} {bs : List Bk} (h : LsmAt w base p (.slice A n c) bs) : muM p w = n := by unfold muM; rw [h.hd]; rfl
def JF [XSet] (w0 : World) (base p : Nat) (v0 : Value) (fin : List Bk) (a : Act) (w : World) : Prop := ∃ n u1 u2 u3 u4 u5 u6 u7 u8 u9 u10 u11 u12 u13 u14 u15 u16 u17 u18 u19 u20 u21 u22 u23 u24 u25 u26 u27 u28 u29 u30 u31 u32 u33 u34 u35 u36 u37 u38 u39 u40 u41 u42 u43 u44 u45 u46 u47 u48 u49 u50 u51 u52 u53 u54 u55 u56 u57 u58 u59 u60, a = { tmps := #[.pointer (some ⟨p, 0, none⟩), u1, u2, u3, u4, u5, u6, u7, u8, u9, u10, u11, u12, u13, u14, u15, u16, u17, u18, u19, u20, u21, u22, u23, u24, u25, u26, u27, u28, u29, u30, u31, u32, u33, u34, u35, u36, u37, u38, u39, u40, u41, u42, u43, u44, u45, u46, u47, u48, u49, u50, u51, u52, u53, u54, u55, u56, u57, u58, u59, u60], defers := [] } ∧ JM w0 base p v0 fin w n
theorem b9o {l : Nat} {J J' : Act → World → Prop} {Q : Exit → Act → World → Prop} (h : ∀ a w, J a w → J' a w) : ∀ (e : Exit) (a : Act) (w : World), Exit.jump l J Q e a w → Exit.jump l J' Q e a w := by
 intro e a w hh
 cases e <;> first | exact ⟨hh.1, h a w hh.2⟩ | exact hh
theorem b7k {P : Program} {a : Act} {w : World} {Q : Exit → Act → World → Prop} {c body : Code} (l : Nat) (J : Act → World → Prop) (μ : Act → World → Nat) (hf : findLabel c l = some (.seq .skip body))
 (pass : ∀ a w, J a w → body.wp P (Exit.jump l (fun a' w' => J a' w' ∧ μ a' w' < μ a w) Q) a w)
 (first : (∀ a w, J a w → body.wp P (Exit.jump l J Q) a w) → c.wp P (Exit.jump l J Q) a w) : (Code.scope c).wp P Q a w :=
 wp_scope_jumps l J μ hf (first (fun a w h => Code.wp_mono (b9o (fun _ _ h => h.1)) (pass a w h))) (fun a w h => wp_seq (wp_skip (pass a w h)))
theorem b7e {P : Program} {a : Act} {w : World} {Q : Exit → Act → World → Prop} {l : Nat} {body : Code} (h : body.wp P Q a w) : (Code.seq (.label l) body).wp P Q a w := wp_seq (wp_label h)
theorem a7m [XSet] (base p : Nat) (v0 : Value) (bs fin : List Bk) (w : World) (hs : LsmAt w base p v0 bs) (hsd : ∀ b ∈ bs, Sound b) (hm : Mrg (a0f bs) fin) (hn : bs.length ≤ 19) (hl : (allB fin).length ≤ 1000000) :
 Calls Tryz.prog 69 #[.pointer (some ⟨p, 0, none⟩)] w fun e w' => e = .returned (.tuple #[]) ∧ ∃ v', LsmAt w' base p v' fin ∧ Turn w w' p v0 v' := by
 have hp := hs.cell
 have HS := za hs
 have HSD := za hsd
 have HM := za hm
 have HL := za hl
 clear hs hsd hm hl
 go_enter Tryz.func69, Tryz.ntmps69
 go_wp2
 refine b7k 0 (fun a' w' => JF w base p v0 fin a' w') (fun _ w' => muM p w') rfl ?pass ?first
 case first =>
  intro hp2
  have HP2 := za hp2
  clear hp2
  go_wp2_with fail
  refine (c2o base _ v0 bs w HS.out.row HSD.out hn).mono ?_
  rintro e w1 ⟨rfl, hN, hg⟩
  have HN := za hN
  have HG := za hg
  clear hN hg
  have hj : JM w base p v0 fin w1 bs.length := ⟨v0, a0f bs, a6q bs, hn, HL.out, HM.out, ⟨(HG.out.block p HS.out.lt (fun e => (HS.out.own p e.symm).2.2 rfl)).trans HS.out.hd, HN.out, HS.out.lo, Nat.le_trans HS.out.xs HG.out.size⟩, a4y HG.out⟩
  have HJ := za hj
  clear hj
  rename_i K1 hK1 K2 hK2
  refine hK2 _ _ ?_
  refine hK1 _ _ ?_
  refine b7e (HP2.out _ _ ?_)
  unfold JF
  exact ⟨bs.length, _, _, _, _, _, _, _, _, _, _, _, _, _, _, _, _, _, _, _, _, _, _, _, _, _, _, _, _, _, _, _, _, _, _, _, _, _, _, _, _, _, _, _, _, _, _, _, _, _, _, _, _, _, _, _, _, _, _, _, _, rfl, HJ.out⟩
 case pass =>
  intro a w1 hJF
  unfold JF at hJF
  obtain ⟨n, u1, u2, u3, u4, u5, u6, u7, u8, u9, u10, u11, u12, u13, u14, u15, u16, u17, u18, u19, u20, u21, u22, u23, u24, u25, u26, u27, u28, u29, u30, u31, u32, u33, u34, u35, u36, u37, u38, u39, u40, u41, u42, u43, u44, u45, u46, u47, u48, u49, u50, u51, u52, u53, u54, u55, u56, u57, u58, u59, u60, rfl, hJ⟩ := hJF
  obtain ⟨v, cur, hcl, hn19, hl, hm, hls, ht⟩ := hJ
  obtain ⟨A, c, rfl, hc, _⟩ := hls.reads
  rw [hcl] at hls ht hc
  have hp1 := hls.cell
  have HLS := za hls
  have HM2 := za hm
  have HT := za ht
  have HCL := za hcl
  have HBD := za (show ∀ b ∈ cur, b.f1.length ≤ 1000000 from fun b hb => by
   have h1 := a5q hm
   obtain ⟨k, hk, rfl⟩ := List.getElem_of_mem hb
   have h2 := a1z (List.getElem?_eq_getElem hk)
   omega)
  have HMU := za (muM_at hls)
  clear hl hm hls ht hcl hp hc HM
  go_wp2
  go_loopw [2] (fun i wr => ∃ (m : Nat) (j : Int), i = .int .i64 j ∧ j = (m : Int) - 1 ∧ m ≤ n ∧ Aside0 (Below w1.heap.size w1 wr) ∧ Aside0 (∀ k a b, m ≤ k + 1 → cur[k]? = some a → cur[k + 1]? = some b → a.f0 ≠ b.f0)) (fun i _ => (intOf i).toNat)
  case atStart =>
   refine ⟨n, (n : Int) - 1, by first | rfl | (simp; done) | (rw [IntWalk.i64_in _ (by omega)]), rfl, Nat.le_refl _, ⟨Below.refl _ _⟩, ⟨?_⟩⟩
   intro k a b hk _ hb
   have := (List.getElem?_eq_some_iff.1 hb).1
   have := HCL.out
   omega
  case round =>
   obtain ⟨m, j, rfl, hj, hmn, HB, HNE⟩ := hrel
   by_cases hm1 : m ≤ 1
   · have d0 : decide (j > 0) = false := decide_eq_false (by omega)
     have d1 : decide (0 < j) = false := decide_eq_false (by omega)
     have hfin := HM2.out.done (fun k a b ha hb => HNE.out k a b (by omega) ha hb)
     have HF := za hfin
     clear hfin hj hm1
     go_wp2
     exact ⟨rfl, .tuple #[], by simp [results, Tryz.results69, go_sem], rfl, _, by rw [HF.out.1]; exact HLS.out.below HB.out, HT.out.trans (Turn.of_below HB.out p _)⟩
   · obtain ⟨q, rfl⟩ : ∃ q, m = q + 2 := ⟨m - 2, by omega⟩
     obtain rfl : j = (q : Int) + 1 := by omega
     have hcl := HCL.out
     obtain ⟨g, cap, hv, _, hgl, _⟩ := Kd.N_form HLS.out.row (by omega)
     injection hv with e1 e2 e3
     subst e1; subst e3
     have HLr := za (HLS.out.below HB.out)
     obtain ⟨a, ha⟩ : ∃ a, cur[q]? = some a := ⟨_, List.getElem?_eq_getElem (by omega)⟩
     obtain ⟨b, hb⟩ : ∃ b, cur[q + 1]? = some b := ⟨_, List.getElem?_eq_getElem (by omega)⟩
     obtain ⟨A1, k1, x0, x1, xV⟩ := a8e HLr.out.row ha
     obtain ⟨A2, k2, y0, y1, yV⟩ := a8e HLr.out.row hb
     have hp2 := HLr.out.cell
     have HA := za ha
     have HBb := za hb
     have HXV := za xV
     have HYV := za yV
     have hgp : g ≠ p := (HLS.out.own g rfl).2.2
     have HGP := za hgp
     have HGL := za (show g < wr.heap.size ∧ p < wr.heap.size from ⟨(HLr.out.own g rfl).2.1, HLr.out.lt⟩)
     have d0 : decide ((q : Int) + 1 > 0) = true := decide_eq_true (by omega)
     have d1 : decide (0 < (q : Int) + 1) = true := decide_eq_true (by omega)
     have b1 : q < n := by omega
     have b2 : q + 1 < n := by omega
     have b3 : (q : Int) < (n : Int) := by omega
     have b4 : (q : Int) + 1 < (n : Int) := by omega
     have b5 : ((q : Int) + 1).toNat = q + 1 := by omega
     have b6 : (0 : Int) ≤ (q : Int) + 1 := by omega
     have b7 : (0 : Int) ≤ (q : Int) := by omega
     have s1 : IntKind.i64.wrap ((q : Int) + 1 - 1) = (q : Int) := by rw [show (q : Int) + 1 - 1 = (q : Int) by omega]; exact IntWalk.i64_in _ (by omega)
     have s3 : IntKind.i64.wrap (q : Int) = (q : Int) := IntWalk.i64_in _ (by omega)
     have s4 : IntKind.i64.wrap ((q : Int) + 1 + 1) = (q : Int) + 2 := by rw [show (q : Int) + 1 + 1 = (q : Int) + 2 by omega]; exact IntWalk.i64_in _ (by omega)
     have HQN := za (show q + 2 ≤ n ∧ n ≤ 19 from ⟨by omega, hn19⟩)
     clear ha hb xV yV hj hm1 hmn e2 hcl hgl
     go_upto_region 4 with fail
     go_cut [3, 4] (fun s3 s4 wx => ∃ ga gb : Nat, s3 = .pointer (some ⟨ga, 0, none⟩) ∧ s4 = .pointer (some ⟨gb, 0, none⟩) ∧ Aside0 (wx.heap[ga]? = some (.cells #[.int .i64 a.f0, .slice A1 a.f1.length k1] 109 (0, 0)) ∧ wx.heap[gb]? = some (.cells #[.int .i64 b.f0, .slice A2 b.f1.length k2] 109 (0, 0)) ∧ Below wr.heap.size wr wx) ∧ Aside0 (wr.heap.size ≤ ga ∧ wr.heap.size ≤ gb))
     case first =>
      have p2a := fun o => pw_cell_below (below_alloc (Below.refl wr.heap.size wr) o) hp2
      have p2b := fun o o' => pw_cell_below (below_alloc (Below.refl (wr.alloc o).heap.size (wr.alloc o)) o') (p2a o)
      have x0a := fun o => pw_cell_below (below_alloc (Below.refl wr.heap.size wr) o) x0
      have x0b := fun o o' => pw_cell_below (below_alloc (Below.refl (wr.alloc o).heap.size (wr.alloc o)) o') (x0a o)
      have x1a := fun o => pw_cell_below (below_alloc (Below.refl wr.heap.size wr) o) x1
      have x1b := fun o o' => pw_cell_below (below_alloc (Below.refl (wr.alloc o).heap.size (wr.alloc o)) o') (x1a o)
      have y0a := fun o => pw_cell_below (below_alloc (Below.refl wr.heap.size wr) o) y0
      have y0b := fun o o' => pw_cell_below (below_alloc (Below.refl (wr.alloc o).heap.size (wr.alloc o)) o') (y0a o)
      have y1a := fun o => pw_cell_below (below_alloc (Below.refl wr.heap.size wr) o) y1
      have y1b := fun o o' => pw_cell_below (below_alloc (Below.refl (wr.alloc o).heap.size (wr.alloc o)) o') (y1a o)
      go_region
      all_goals (go_wp2_with fail)
      all_goals go_meet
      · exact ⟨_, _, rfl, rfl, ⟨(a2j wr _ _).1, (a2j wr _ _).2.1, (a2j wr _ _).2.2⟩, ⟨Nat.le_refl _, Nat.le_succ _⟩⟩
      · exact ⟨_, _, rfl, rfl, ⟨(a2j wr _ _).2.1, (a2j wr _ _).1, (a2j wr _ _).2.2⟩, ⟨Nat.le_succ _, Nat.le_refl _⟩⟩
     case rest =>
      obtain ⟨ga, gb, rfl, rfl, HW, HGE⟩ := hcut
      obtain ⟨w4a, w4b, hbx⟩ := HW.out
      have a0 : wc.cell? ⟨ga, 0, none⟩ = some (.int .i64 a.f0) := by simp [World.cell?, w4a]
      have a1 : wc.cell? ⟨ga, 1, none⟩ = some (.slice A1 a.f1.length k1) := by simp [World.cell?, w4a]
      have c0 : wc.cell? ⟨gb, 0, none⟩ = some (.int .i64 b.f0) := by simp [World.cell?, w4b]
      have c1 : wc.cell? ⟨gb, 1, none⟩ = some (.slice A2 b.f1.length k2) := by simp [World.cell?, w4b]
      have HLx := za (HLr.out.below hbx)
      have HBX := za (below_step HB.out hbx)
      clear w4a w4b hbx hp2 x0 x1 y0 y1
      by_cases hab : a.f0 = b.f0
      · have e1 : (a.f0 == b.f0) = true := by simp [hab]
        have e2 : decide (a.f0 = b.f0) = true := by simp [hab]
        have HAB := za hab
        clear hab
        have HMG := za (show block_Merge.f 100 a.f0 a.f1 b.f0 b.f1 = some ((a0c a b).f0, (a0c a b).f1) by
         have h1 := HBD.out a (List.mem_of_getElem? HA.out)
         have h2 := HBD.out b (List.mem_of_getElem? HBb.out)
         rw [b0y 100 a.f0 b.f0 a.f1 b.f1 (by omega) (by omega), ← List.length_append]
         rfl)
        have HXc := za (show ∀ B, Kd.V k33 33 wc.drew B (fun k => (XSet.ok k ∧ k ≠ p) ∧ k ≠ g) (.slice A1 a.f1.length k1) a.f1 from fun B => Kd.V_below (HXV.out B) (below_drew HW.out.2.2))
        have HYc := za (show ∀ B, Kd.V k33 33 wc.drew B (fun k => (XSet.ok k ∧ k ≠ p) ∧ k ≠ g) (.slice A2 b.f1.length k2) b.f1 from fun B => Kd.V_below (HYV.out B) (below_drew HW.out.2.2))
        have hcp := HLx.out.cell
        have HGa := za (show ga < wc.heap.size ∧ gb < wc.heap.size from ⟨(Array.getElem?_eq_some_iff.1 HW.out.1).1, (Array.getElem?_eq_some_iff.1 HW.out.2.1).1⟩)
        have HTY := za (show ga ≠ p ∧ ga ≠ g ∧ gb ≠ p ∧ gb ≠ g from by have h1 := HGL.out; have h2 := HGE.out; omega)
        have HGL2 := za (show p < wc.drew.heap.size ∧ g < wc.drew.heap.size from ⟨HLx.out.lt, (HLx.out.own g rfl).2.1⟩)
        have HN19 := za (show n ≤ 1000 by omega)
        have HNG := za (show ∀ W : World, Below wc.heap.size wc W → W.heap.size ≠ g from fun W h e => by have h1 := h.size; have h2 := (HLx.out.own g rfl).2.1; omega)
        have HSG := za (show some ga ≠ some g ∧ some gb ≠ some g ∧ some p ≠ some g from by have h1 := HTY.out; have h2 := HGP.out; refine ⟨fun e => ?_, fun e => ?_, fun e => ?_⟩ <;> injection e <;> omega)
        have t1 : ¬ (ga = p) := HTY.out.1
        have t2 : ¬ (gb = p) := HTY.out.2.2.1
        have t3 : ¬ (p = ga) := fun e => HTY.out.1 e.symm
        have t4 : ¬ (p = gb) := fun e => HTY.out.2.2.1 e.symm
        go_upto_region 6 with fail
        go_cut [1] (fun s1 wx => Aside0 (LsmAt wx base p (.slice (some ⟨g, 0, none⟩) (n - 1) c) (cur.take q ++ a0c a b :: cur.drop (q + 2)) ∧ Turn w1 wx p (.slice (some ⟨g, 0, none⟩) n c) (.slice (some ⟨g, 0, none⟩) (n - 1) c)))
        case first =>
         go_region_with
          (first
           | (go_at_call 73; go_loud (refine (b1s 100 _ (fun k => (XSet.ok k ∧ k ≠ p) ∧ k ≠ g) _ _ _ _ (fun k => (XSet.ok k ∧ k ≠ p) ∧ k ≠ g) _ _ _ (a0c a b).f0 (a0c a b).f1 wc.drew (HXc.out _) (HYc.out _) HMG.out).mono ?_; rintro e w5 ⟨v5, rfl, hv5, hb5⟩; obtain ⟨A5, c5, rfl⟩ := Kd.V_slice hv5; have HV5 := za hv5; have HB5 := za (below_step (below_drew (Below.refl wc.heap.size wc)) hb5); have n0 := pw_cell_below HB5.out a0; have n1 := pw_cell_below HB5.out a1; have n2 := pw_cell_below HB5.out c0; have n3 := pw_cell_below HB5.out c1; have np := pw_cell_below HB5.out hcp; have npa := fun o => pw_cell_below (below_alloc (Below.refl w5.heap.size w5) o) np; have HL5 := za (HLx.out.below HB5.out); clear hv5 hb5))
           | (go_at_call 96; go_loud (have HW6 := za (below_alloc (Below.refl w5.heap.size w5) (.cells #[.int .i64 (a0c a b).f0, .slice A5 (a0c a b).f1.length c5] 109)); have HL6 := za (HL5.out.below HW6.out); have HF5 := za (Kd.FK_below (b3w HV5.out HLx.out.xs HGL2.out.1 HGL2.out.2) HW6.out); refine (brepl base g n c q w5.heap.size 1 (fun k => XSet.ok k ∧ k ≠ p) cur (a0c a b) (.slice A5 (a0c a b).f1.length c5) _ HL6.out.row HQN.out.1 HN19.out (heap_alloc_new _ _) (HNG.out _ HB5.out) HF5.out).mono ?_; rintro e w6 ⟨rfl, hN6, hg6⟩; have HN6 := za hN6; have HG6 := za hg6; have r0 := cell_grown hg6 (pw_cell_below HW6.out n0) (HSG.out.1); have r1 := cell_grown hg6 (pw_cell_below HW6.out n1) (HSG.out.1); have r2 := cell_grown hg6 (pw_cell_below HW6.out n2) (HSG.out.2.1); have r3 := cell_grown hg6 (pw_cell_below HW6.out n3) (HSG.out.2.1); have rp := cell_grown hg6 (pw_cell_below HW6.out np) (HSG.out.2.2); have HP6 := za ((hg6.block p HL6.out.lt HSG.out.2.2).trans HL6.out.hd); have rf : w6.frozen? ⟨p, 0, none⟩ = false := (by simp [World.frozen?, HP6.out]); clear hN6 hg6)))
         all_goals (go_wp2_with fail)
         all_goals go_meet
         all_goals exact ⟨⟨a6b p w6 _ _ _ HP6.out, Kd.N_far HN6.out (fun k hk => hk.2) _, HLx.out.lo, Nat.le_trans HL6.out.xs (by simp only [World.setCell, Array.size_modify]; exact HG6.out.size)⟩, c0v ((((Turn.of_below HBX.out p _).trans (Turn.of_below HB5.out p _)).trans (Turn.of_below HW6.out p _)).trans ((a4y HG6.out).trans (a7s (.inl rfl)))) rfl⟩
        case rest =>
         have HCT := hcut
         have hm7 : Mrg (cur.take q ++ a0c a b :: cur.drop (q + 2)) fin := HM2.out.step HA.out HBb.out HAB.out (by
          have h1 := HBD.out a (List.mem_of_getElem? HA.out)
          have h2 := HBD.out b (List.mem_of_getElem? HBb.out)
          omega)
         have hl7 : (cur.take q ++ a0c a b :: cur.drop (q + 2)).length = n - 1 := by
          have h1 := c2f (cur := cur) (q := q) (m := a0c a b) (by have := HCL.out; omega)
          have := HCL.out
          omega
         have HS7 := za HCT.out.1
         have hp7 := HS7.out.cell
         have HM7 := za hm7
         have HL7 := za hl7
         have HN1 := za (show (cur.take q ++ a0c a b :: cur.drop (q + 2)).length ≤ 19 ∧ n - 1 < n by have := HQN.out; omega)
         clear hm7 hl7
         go_wp2_with fail
         refine (b9z base (fun k => XSet.ok k ∧ k ≠ p) (.slice (some ⟨g, 0, none⟩) (n - 1) c) _ _ HS7.out.row HM7.out.snd HN1.out.1).mono ?_
         rintro e w8 ⟨rfl, hN8, hg8⟩
         have hj8 : JM w base p v0 fin w8 (n - 1) := ⟨.slice (some ⟨g, 0, none⟩) (n - 1) c, cur.take q ++ a0c a b :: cur.drop (q + 2), HL7.out, by have := HN1.out.1; have := HL7.out; omega, HL.out, HM7.out,
          ⟨(hg8.block p HS7.out.lt (fun e => (HS7.out.own p e.symm).2.2 rfl)).trans HS7.out.hd, by rw [a6g HM7.out.weak] at hN8; exact hN8, HS7.out.lo, Nat.le_trans HS7.out.xs hg8.size⟩, (HT.out.trans HCT.out.2).trans (a4y hg8)⟩
         have HMU8 := za (show muM p w8 < muM p w1 by
          have h1 : muM p w8 = n - 1 := by
           unfold muM
           rw [(hg8.block p HS7.out.lt (fun e => (HS7.out.own p e.symm).2.2 rfl)).trans HS7.out.hd]
           rfl
          have h2 := HMU.out
          have h3 := HN1.out.2
          omega)
         have HJ8 := za hj8
         clear hj8 hN8 hg8
         go_wp2
         go_step3
         refine ⟨rfl, ?_, HMU8.out⟩
         unfold JF
         exact ⟨n - 1, _, _, _, _, _, _, _, _, _, _, _, _, _, _, _, _, _, _, _, _, _, _, _, _, _, _, _, _, _, _, _, _, _, _, _, _, _, _, _, _, _, _, _, _, _, _, _, _, _, _, _, _, _, _, _, _, _, _, _, _, rfl, HJ8.out⟩
      · have e1 : (a.f0 == b.f0) = false := by simp [hab]
        have e2 : decide (a.f0 = b.f0) = false := by simp [hab]
        have HNE2 : Aside0 (∀ k a b, q + 1 ≤ k + 1 → cur[k]? = some a → cur[k + 1]? = some b → a.f0 ≠ b.f0) := ⟨by
         intro k a' b' hk ha' hb'
         by_cases hkq : k = q
         · subst hkq
           rw [HA.out] at ha'
           rw [HBb.out] at hb'
           injection ha' with ha'
           injection hb' with hb'
           subst ha'; subst hb'
           exact hab
         · exact HNE.out k a' b' (by omega) ha' hb'⟩
        have HQ := HQN.out
        clear hab
        go_wp2
        go_roundw
        case rel => exact ⟨q + 1, (q : Int), rfl, by omega, by omega, HBX, HNE2⟩
        case measure => simp [intOf]
section
variable {P : Program} {ops : Array Oper} {Q : Exit → Act → World → Prop}
theorem a3s {o : Oper} {a : Act} {w : World} {K : Act → World → Prop} {X : Prop} (c : Op) (_ : o.op = c) (h : if Region.wanted o (yielded ops a.tmps) = true then Oper.wp P o a w K Q else X) : if Region.wanted o (yielded ops a.tmps) = true then Oper.wp P o a w K Q else X := h
theorem b3h {o : Oper} {a : Act} {w : World} {K : Act → World → Prop} {X : Prop} {f : FuncId} {fn : Func} {xs : Array Operand} {ts : Array TypeId} (hg : o.guard = none) (hop : o.op = .call { callee := .value (.func f), args := xs, argTypes := ts }) (hf : P.funcs[f]? = some fn) (hname : (fn.name == "runtime.NumGoroutine") = false) (hb : fn.body.isSome = true) (args : Array Value)
 (hargs : xs.map a.eval = args) (h : Calls P f args w fun e w' => ∃ v, e = .returned v ∧ K (a.put o.dst v) w') : if Region.wanted o (yielded ops a.tmps) = true then Oper.wp P o a w K Q else X := by
 have hw : Region.wanted o (yielded ops a.tmps) = true := by simp [Region.wanted, hg]
 have := goes_ (Q := Q) (ops := ops) hf hname hb args hw rfl hop hargs h
 rw [if_pos hw] at this ⊢
 exact this
theorem b1r {α : Type} (d : Kd α) {o : Oper} {a : Act} {W : World} {K : Act → World → Prop} {X : Prop} (base : Nat) (hg : o.guard = none) (s x : Operand) (t e : TypeId) (z : Value) (bytes : Nat)
 (ho : o.op = .call { callee := .builtin .append, args := #[s, x], argTypes := #[t, t] })
 (ht : P.underlying t = some (.slice e)) (hinfo : (P.info? e).map (fun i => (i.zero, i.size, i.bytes)) = some (some z, d.sz, bytes)) (hz : z.cells.size = d.sz) (hs0 : 0 < d.sz) (hb0 : 0 < bytes)
 (v : Value) (xs : List α) (p : α) (cs : List Value) (ok okp : Nat → Prop) (hs : a.eval s = v) (hx : a.eval x = .slice (some ⟨W.heap.size, 0, none⟩) 1 1) (hp : Kd.FK d W okp p cs) (hokp : ∀ k, okp k → ok k ∧ some k ≠ v.ownBlock) (hfresh : ∀ k, W.heap.size ≤ k → ok k)
 (HO : Kd.N d e W base ok v xs) (hbase : base ≤ W.heap.size) (hl : (xs.length + 1) * bytes ≤ 140737488355328)
 (h : ∀ v1 w1, Kd.N d e w1 base ok v1 (xs ++ [p]) → W.grownBy w1 v.ownBlock → (v1.ownBlock = v.ownBlock ∨ ∃ b, v1.ownBlock = some b ∧ W.heap.size ≤ b) → K (a.put o.dst v1) w1) :
 if Region.wanted o (yielded ops a.tmps) = true then Oper.wp P o a (W.alloc (.cells cs.toArray e)) K Q else X := by
 have hw : Region.wanted o (yielded ops a.tmps) = true := by simp [Region.wanted, hg]
 have := Kd.N_append_step (Q := Q) (ops := ops) (Kc := K) (w0 := W) d base hw s x t e z bytes ho ht hinfo hz hs0 hb0 v xs p cs ok okp hs hx hp hokp hfresh HO (Below.refl _ _) hbase hl (fun v1 w1 h1 _ h3 h4 => h v1 w1 h1 h3 h4)
 rw [if_pos hw] at this ⊢
 exact this
end
theorem b2o {w w1 : World} {p : Nat} {v u : Value} (hg : w.grownBy w1 v.ownBlock) (hat : u.ownBlock = v.ownBlock ∨ ∃ b, u.ownBlock = some b ∧ w.heap.size ≤ b) : Turn w (w1.setCell ⟨p, 0, none⟩ u) p v u :=
 ⟨hg.os, hg.tape, hg.output, by simpa [World.setCell] using hg.size, fun i hi hp hv => (Below.heap_setCell w1 ⟨p, 0, none⟩ u i hp).trans (hg.block i hi hv), by rcases hat with h | h; exact .inl h; exact .inr (.inr h)⟩
theorem a4g : (Tryz.prog.info? 109).map (fun i => (i.zero, i.size, i.bytes)) = some (some (.agg #[.int .i64 0, .slice none 0 0]), 2, 32) := by kernel_rfl
theorem one_C {W : World} {g : Nat} {e : E} (h : W.heap[g]? = some (.cells #[.int .u64 e.f0, .int .i64 e.f1] 33 (0, 0))) : k33.C W (some ⟨g, 0, none⟩) ([e] : List E).length [e] :=
 (Kd.R_reads' (a8x (e := 33) (base := 0) (ok := fun _ => True) (c := 1) (l := [e]) (Nat.zero_le _) trivial h (by omega) (by simp) rfl rfl)).2.2
theorem of_one (e : E) : block_Of.f 100 [e] = some ((mkB [e]).f0, (mkB [e]).f1) := a4n 100 [e] (by simp) (by omega)
theorem a8g {W : World} {N c : Nat} {A : Option Addr} {b : Bk} {base : Nat} {ok : Nat → Prop} (h : Kd.V k33 33 W base (fun k => N ≤ k) (.slice A b.f1.length c) b.f1) (hok : ∀ k, N ≤ k → ok k) :
 Kd.FK k109 W ok b [.int .i64 b.f0, .slice A b.f1.length c] := by
 obtain ⟨_, h2, h3⟩ := Kd.V_at h
 exact a4r W _ b h2 (Kd.F_mono h3 hok)
theorem b9v [XSet] (base p : Nat) (v : Value) (bs : List Bk) (e : E) (w : World) (hs : LsmAt w base p v bs) (hg : Good bs) (hn : bs.length ≤ 18) (hl : (allB bs).length ≤ 999999) :
 Calls Tryz.prog 36 #[.pointer (some ⟨p, 0, none⟩), .agg #[.int .u64 e.f0, .int .i64 e.f1]] w fun x w' => x = .returned (.tuple #[]) ∧ ∃ v', LsmAt w' base p v' (putL e bs) ∧ Turn w w' p v v' := by
 have HS := za hs
 have HM := za (a5x hg e)
 have HSD := za (show ∀ b ∈ bs ++ [mkB [e]], Sound b from (a5x hg e).snd)
 have HLF := za (show (allB (putL e bs)).length ≤ 1000000 by
  rw [← a5q (a5x hg e), a1g, List.length_append]
  have : (allB [mkB [e]]).length = 1 := by simp [allB, mkB, a0i]
  omega)
 have HLB := za (show (bs ++ [mkB [e]]).length ≤ 19 by simp; omega)
 have hp0 := hs.cell
 have HLEN := za (show (bs ++ [mkB [e]]).length = bs.length + 1 by simp)
 have hpa := fun o => pw_cell_below (below_alloc (Below.refl w.heap.size w) o) hp0
 have hpb := fun o o' => pw_cell_below (below_alloc (Below.refl (w.alloc o).heap.size (w.alloc o)) o') (hpa o)
 have HLA := za (show ∀ (o o' : Obj), LsmAt ((w.alloc o).alloc o').drew base p v bs from fun o o' => hs.below (below_drew (below_alloc (below_alloc (Below.refl _ _) o) o')))
 have HBA := za (show ∀ (o o' : Obj), Below w.heap.size w ((w.alloc o).alloc o').drew from fun o o' => below_drew (below_alloc (below_alloc (Below.refl _ _) o) o'))
 have HCO := za (show ∀ (o : Obj), k33.C ((w.alloc o).alloc (.cells #[.int .u64 e.f0, .int .i64 e.f1] 33)).drew (some ⟨w.heap.size + 1, 0, none⟩) ([e] : List E).length [e] from fun o => one_C (a2j w o _).2.1)
 have HPL := za hs.lt
 have HLO := za hs.lo
 have HLX := za hs.xs
 have HOWN := za hs.own
 have hsz := hs.lt
 have HFR := za (show ∀ k, ((w.alloc (.cells #[.int .u64 e.f0, .int .i64 e.f1] 33)).alloc (.cells #[.int .u64 e.f0, .int .i64 e.f1] 33)).drew.heap.size ≤ k → (XSet.ok k ∧ k ≠ p) ∧ some k ≠ v.ownBlock from fun k hk => by
  have h1 : ((w.alloc (.cells #[.int .u64 e.f0, .int .i64 e.f1] 33)).alloc (.cells #[.int .u64 e.f0, .int .i64 e.f1] 33)).drew.heap.size = w.heap.size + 1 + 1 := by rw [show ((w.alloc (.cells #[.int .u64 e.f0, .int .i64 e.f1] 33)).alloc (.cells #[.int .u64 e.f0, .int .i64 e.f1] 33)).drew.heap.size = ((w.alloc (.cells #[.int .u64 e.f0, .int .i64 e.f1] 33)).alloc (.cells #[.int .u64 e.f0, .int .i64 e.f1] 33)).heap.size from rfl, World.size_alloc, World.size_alloc]
  refine ⟨⟨hs.fresh (by omega), by omega⟩, fun e => ?_⟩
  have := (hs.own k e.symm).2.1
  omega)
 have HFS := za (show ∀ W : World, Below ((w.alloc (.cells #[.int .u64 e.f0, .int .i64 e.f1] 33)).alloc (.cells #[.int .u64 e.f0, .int .i64 e.f1] 33)).drew.heap.size ((w.alloc (.cells #[.int .u64 e.f0, .int .i64 e.f1] 33)).alloc (.cells #[.int .u64 e.f0, .int .i64 e.f1] 33)).drew W → ∀ k, W.heap.size ≤ k → XSet.ok k ∧ k ≠ p from fun W hb k hk => (HFR.out k (Nat.le_trans hb.size hk)).1)
 have HBS := za (show ∀ W : World, Below ((w.alloc (.cells #[.int .u64 e.f0, .int .i64 e.f1] 33)).alloc (.cells #[.int .u64 e.f0, .int .i64 e.f1] 33)).drew.heap.size ((w.alloc (.cells #[.int .u64 e.f0, .int .i64 e.f1] 33)).alloc (.cells #[.int .u64 e.f0, .int .i64 e.f1] 33)).drew W → base ≤ W.heap.size from fun W hb => Nat.le_trans (Nat.le_trans hs.lo (Nat.le_of_lt (hs.below (below_drew (below_alloc (below_alloc (Below.refl _ _) (.cells #[.int .u64 e.f0, .int .i64 e.f1] 33)) (.cells #[.int .u64 e.f0, .int .i64 e.f1] 33)))).lt)) hb.size)
 clear hs hg hl hp0 hsz
 go_enter Tryz.func36, Tryz.ntmps36
 go_upto_region 1 with fail
 go_cut [1] (fun s1 wx => ∃ v1, Aside0 (LsmAt wx base p v1 (bs ++ [mkB [e]]) ∧ Turn w wx p v v1))
 case first =>
  have mixed : Tryz.prog.follows .mixedOrders = true := by kernel_rfl
  go_region_law_o (first
   | ((with_reducible refine a3s (.call { callee := .value (.func 68), args := #[.tmp 10], argTypes := #[35] }) rfl ?_); go_loud (refine b3h rfl rfl Tryz.func68 (by kernel_rfl) rfl #[.slice (some ⟨w.heap.size + 1, 0, none⟩) 1 1] (by simp [Act.eval, Act.put]) ?_; refine (block_Of.calls 100 _ _ [e] _ _ _ (HCO.out _) (Nat.le_refl _) (of_one e)).mono ?_; rintro x w5 ⟨v5, rfl, hv5, hb5⟩; obtain ⟨A5, c5, rfl⟩ := Kd.V_slice hv5; have HV5 := za hv5; have HB5 := za hb5; have HL5 := za ((HLA.out _ _).below hb5); have np := HL5.out.cell; have npa := fun o => pw_cell_below (below_alloc (Below.refl w5.heap.size w5) o) np; clear hv5 hb5; refine ⟨_, rfl, ?_⟩))
   | ((with_reducible refine a3s (.call { callee := .builtin .append, args := #[.tmp 8, .tmp 12], argTypes := #[96, 96] }) rfl ?_); go_loud (refine b1r k109 base rfl (.tmp 8) (.tmp 12) 96 109 (.agg #[.int .i64 0, .slice none 0 0]) 32 rfl Tryz.underlying96 a4g rfl (by decide) (by decide) v bs (mkB [e]) [.int .i64 (mkB [e]).f0, .slice A5 (mkB [e]).f1.length c5] (fun k => XSet.ok k ∧ k ≠ p) (fun k => (XSet.ok k ∧ k ≠ p) ∧ some k ≠ v.ownBlock) (by simp [Act.eval, Act.put]) (by simp [Act.eval, Act.put]) (a8g HV5.out HFR.out) (fun _ hk => hk) (fun k hk => HFS.out _ HB5.out k hk) HL5.out.row (HBS.out _ HB5.out) (by omega) ?_; intro v9 w9 hn9 hg9 hat9; obtain ⟨A9, c9, hv9⟩ := Kd.N_slice hn9; rw [HLEN.out] at hv9; subst hv9; have HN9 := za hn9; have HG9 := za hg9; have HAT9 := za hat9; have HP9 := za ((hg9.block p HL5.out.lt (fun e => (HL5.out.own p e.symm).2.2 rfl)).trans HL5.out.hd); have rp : w9.cell? ⟨p, 0, none⟩ = some v := (by simp [World.cell?, HP9.out]); have rf : w9.frozen? ⟨p, 0, none⟩ = false := (by simp [World.frozen?, HP9.out]); clear hn9 hg9 hat9)))
  all_goals (go_wp2_with fail)
  all_goals go_meet
  all_goals exact ⟨_, ⟨⟨a6b p w9 v _ _ HP9.out, Kd.N_far HN9.out (fun k hk => hk.2) _, HLO.out, Nat.le_trans HLX.out ((Turn.of_below (below_step (HBA.out _ _) HB5.out) p v).trans (b2o HG9.out HAT9.out)).size⟩, (Turn.of_below (below_step (HBA.out _ _) HB5.out) p v).trans (b2o HG9.out HAT9.out)⟩⟩
 case rest =>
  obtain ⟨v1, HCT⟩ := hcut
  have hm2 : Mrg (a0f (bs ++ [mkB [e]])) (putL e bs) := by rw [a6g HM.out.weak]; exact HM.out
  have HM2 := za hm2
  clear hm2
  go_wp2_with fail
  refine (a7m base p v1 (bs ++ [mkB [e]]) (putL e bs) _ HCT.out.1 HSD.out HM2.out HLB.out HLF.out).mono ?_
  rintro x w2 ⟨rfl, v2, hl2, ht2⟩
  have HR := za (show LsmAt w2 base p v2 (putL e bs) ∧ Turn w w2 p v v2 from ⟨hl2, HCT.out.2.trans ht2⟩)
  clear hl2 ht2
  go_wp2
  exact ⟨rfl, .tuple #[], by simp [results, Tryz.results36, go_sem], rfl, v2, HR.out.1, HR.out.2⟩
end Go.Proofs.YthghkglkifeagaaGreat.V
