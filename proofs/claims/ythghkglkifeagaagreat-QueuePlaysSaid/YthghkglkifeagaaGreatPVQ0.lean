-- a text of this work, without what this claim doesn't use (wip/shake.py)
import Derived.Test.YthghkglkifeagaaGreatPVLsm13
import Derived.Test.YthghkglkifeagaaGreatPVLsm6b
import Derived.Test.YthghkglkifeagaaGreatPVPblockb
import Derived.Test.YthghkglkifeagaaGreatPVTB
import Derived.Deep.DeepCutAuto
import Derived.Deep.CutBlock
import Derived.Test.YthghkglkifeagaaGreatPVPvergerref5
import Derived.Test.YthghkglkifeagaaGreatPVLsm12
set_option maxRecDepth 100000
set_option maxHeartbeats 8000000
set_option linter.unusedVariables false
set_option linter.unusedSimpArgs false
namespace Go.Proofs.YthghkglkifeagaaGreat.V
open Go.RowKit Go.Proofs.YthghkglkifeagaaGreatW.PrintWords Go.Proofs.YthghkglkifeagaaGreatW.PrintLast Go.Proofs.YthghkglkifeagaaGreatW.PrintMore
theorem a9u {fin : List Bk} : ∀ (d : Nat) (cur : List Bk), cur.length = d → Mrg cur fin → (allB cur).length < 1000000000 → Good fin := by
 intro d
 induction d with
 | zero =>
  intro cur hd hm _
  obtain rfl := List.length_eq_zero_iff.1 hd
  exact (hm.done (by simp)).1 ▸ (hm.done (by simp)).2
 | succ d ih =>
  intro cur hd hm hl
  by_cases hn : ∀ i a b, cur[i]? = some a → cur[i + 1]? = some b → a.f0 ≠ b.f0
  · have := hm.done hn
    rw [this.1]
    exact this.2
  · obtain ⟨i, hn⟩ := Classical.not_forall.1 hn
    obtain ⟨a, hn⟩ := Classical.not_forall.1 hn
    obtain ⟨b, hn⟩ := Classical.not_forall.1 hn
    have ha : cur[i]? = some a := Classical.byContradiction fun h => hn (fun h1 => absurd h1 h)
    have hb : cur[i + 1]? = some b := Classical.byContradiction fun h => hn (fun _ h1 => absurd h1 h)
    have he : a.f0 = b.f0 := Classical.byContradiction fun h => hn (fun _ _ => h)
    obtain ⟨h1, rfl⟩ := List.getElem?_eq_some_iff.1 ha
    obtain ⟨h2, rfl⟩ := List.getElem?_eq_some_iff.1 hb
    have e1 : cur = cur.take i ++ cur[i] :: cur[i + 1] :: cur.drop (i + 2) := by
     conv => lhs; rw [← List.take_append_drop i cur, List.drop_eq_getElem_cons h1, List.drop_eq_getElem_cons h2]
    have hall : (allB cur).length = (allB (cur.take i ++ a0c cur[i] cur[i + 1] :: cur.drop (i + 2))).length := by
     conv => lhs; rw [e1]
     simp only [a1g, a1l, List.length_append]
     rw [(a4u cur[i] cur[i + 1]).length_eq, List.length_append]
     omega
    have hab : cur[i].f1.length + cur[i + 1].f1.length < 1000000000 := by
     have : (allB cur).length = (allB (cur.take i)).length + (cur[i].f1.length + (cur[i + 1].f1.length + (allB (cur.drop (i + 2))).length)) := by
      conv => lhs; rw [e1]
      simp only [a1g, a1l, List.length_append]
     omega
    refine ih (cur.take i ++ a0c cur[i] cur[i + 1] :: cur.drop (i + 2)) ?_ (hm.step ha hb he hab) (by omega)
    simp only [List.length_append, List.length_take, List.length_cons, List.length_drop]
    omega
theorem c1r : ∀ {bs : List Bk} {m : Nat}, Desc bs → (∀ b ∈ bs, 0 ≤ b.f0) → (∀ b ∈ bs, b.f0 < (m : Int)) → bs.length ≤ m := by
 intro bs
 induction bs with
 | nil => intro m _ _ _; simp
 | cons b bs ih =>
  intro m hd h0 h1
  rw [Desc, List.pairwise_cons] at hd
  have b0 := h0 b (by simp)
  have b1 := h1 b (by simp)
  have := ih (m := b.f0.toNat) hd.2 (fun q hq => h0 q (by simp [hq])) (fun q hq => by have := hd.1 q hq; omega)
  rw [List.length_cons]
  omega
theorem a2p {bs : List Bk} (h : Good bs) (hl : (allB bs).length ≤ 1000) : bs.length ≤ 11 := by
 refine c1r h.desc (fun b hb => by rw [(h.snd b hb).lv]; omega) (fun b hb => ?_)
 rw [(h.snd b hb).lv]
 obtain ⟨i, hi, rfl⟩ := List.getElem_of_mem hb
 have h1 := a1z (List.getElem?_eq_getElem hi)
 have h2 := b0u (a := (bs[i].f1.length : Int)) (b := 1000) (by omega) (by omega)
 have h3 : lev 1000 = 10 := by decide
 omega
def Unlike (l : List E) : Prop := (l.map fun e => e.f1).Nodup
theorem Unlike.perm {l m : List E} (h : Unlike l) (hp : l.Perm m) : Unlike m := (hp.map _).nodup_iff.1 h
theorem Unlike.sub {l m : List E} (h : Unlike l) (hs : m.Sublist l) : Unlike m := List.Nodup.sublist (hs.map _) h
theorem a6y {l : List E} {id : Int} (h : ∀ e ∈ l, e.f1 ≠ id) : (l.filter fun e => decide (e.f1 ≠ id)) = l := List.filter_eq_self.2 (fun e he => by simpa using h e he)
namespace LOk
variable [XSet] {w0 wr w2 : World} {p : Nat} {v : Value} {bs : List Bk} {ls : List Int} {es : List E}
theorem few (h : LOk w0 wr p v bs ls es) (hl : es.length ≤ 1000) : bs.length ≤ 18 ∧ ls.length ≤ 18 := by
 have h1 := a2p h.good (by have := h.cnt; omega)
 have := h.len
 omega
theorem any (h : LOk w0 wr p v bs ls es) : LOk w0 wr p v bs (lvls bs) es := ⟨h.hat, h.good, rfl, h.all, h.bel⟩
theorem perm (h : LOk w0 wr p v bs ls es) {fs : List E} (hp : es.Perm fs) : LOk w0 wr p v bs ls fs := ⟨h.hat, h.good, h.lv, h.all.trans hp, h.bel⟩
end LOk
def a2i (x : Bk) (b : Bk) : Bool := decide (b.f0 = x.f0)
def a4i (x : Bk) (b : Bk) : Bool := decide (b.f0 < x.f0)
def a1x (x : Bk) (bs : List Bk) : Nat := match bs.findIdx? (a4i x) with | some i => i | none => bs.length
def a1b (x : Bk) (bs : List Bk) : List Bk := bs.take (a1x x bs) ++ x :: bs.drop (a1x x bs)
def addS : Nat → Bk → List Bk → List Bk
  | 0, x, bs => a1b x bs
  | n + 1, x, bs => match bs.findIdx? (a2i x) with
    | none => a1b x bs
    | some i => addS n (a0c (bs.getD i ⟨0, []⟩) x) (bs.eraseIdx i)
def addL (l : List E) (bs : List Bk) : List Bk := addS bs.length (mkB l) bs
theorem a7o (x : Bk) (bs : List Bk) : a1x x bs ≤ bs.length := by
 unfold a1x
 cases h : bs.findIdx? (a4i x) with
 | none => exact Nat.le_refl _
 | some i => rw [List.findIdx?_eq_some_iff_getElem] at h; exact Nat.le_of_lt h.1
theorem b6i {x : Bk} {bs : List Bk} (h : bs.findIdx? (a2i x) = none) : ∀ n, addS n x bs = a1b x bs
 | 0 => rfl
 | n + 1 => by rw [addS, h]
theorem b8u {x : Bk} {bs : List Bk} {i : Nat} {b : Bk} (h : bs.findIdx? (a2i x) = some i) (hb : bs[i]? = some b) : addS bs.length x bs = addS (bs.eraseIdx i).length (a0c b x) (bs.eraseIdx i) := by
 have hlt := (List.getElem?_eq_some_iff.1 hb).1
 obtain ⟨n, hn⟩ : ∃ n, bs.length = n + 1 := ⟨bs.length - 1, by omega⟩
 rw [List.length_eraseIdx, if_pos hlt, hn, addS, h]
 show addS n (a0c (bs.getD i ⟨0, []⟩) x) (bs.eraseIdx i) = addS n (a0c b x) (bs.eraseIdx i)
 rw [List.getD_eq_getElem?_getD, hb]
 rfl
theorem a8f (x : Bk) (bs : List Bk) : (allB (a1b x bs)).Perm (x.f1 ++ allB bs) := by
 unfold a1b
 rw [a1g, a1l]
 refine List.Perm.trans ?_ ((List.Perm.refl x.f1).append (List.Perm.of_eq (show allB (bs.take (a1x x bs)) ++ allB (bs.drop (a1x x bs)) = allB bs by rw [← a1g, List.take_append_drop])))
 rw [← List.append_assoc, ← List.append_assoc]
 exact List.perm_append_comm.append_right _
theorem a4q {bs : List Bk} {i : Nat} {b : Bk} (hb : bs[i]? = some b) : (allB bs).Perm (b.f1 ++ allB (bs.eraseIdx i)) := by
 obtain ⟨hlt, rfl⟩ := List.getElem?_eq_some_iff.1 hb
 have e1 : bs = bs.take i ++ bs[i] :: bs.drop (i + 1) := by
  conv => lhs; rw [← List.take_append_drop i bs, List.drop_eq_getElem_cons hlt]
 have e2 : allB bs = allB (bs.take i) ++ (bs[i].f1 ++ allB (bs.drop (i + 1))) := by
  conv => lhs; rw [e1, a1g, a1l]
 rw [e2, List.eraseIdx_eq_take_drop_succ, a1g, ← List.append_assoc, ← List.append_assoc]
 exact List.perm_append_comm.append_right _
theorem b1c : ∀ (n : Nat) (x : Bk) (bs : List Bk), (allB (addS n x bs)).Perm (x.f1 ++ allB bs)
 | 0, x, bs => a8f x bs
 | n + 1, x, bs => by
  rw [addS]
  cases h : bs.findIdx? (a2i x) with
  | none => exact a8f x bs
  | some i =>
   have hlt : i < bs.length := by rw [List.findIdx?_eq_some_iff_getElem] at h; exact h.1
   have hb := List.getElem?_eq_getElem hlt
   show (allB (addS n (a0c (bs.getD i ⟨0, []⟩) x) (bs.eraseIdx i))).Perm _
   rw [List.getD_eq_getElem?_getD, hb]
   refine (b1c n _ _).trans ?_
   show ((a0c bs[i] x).f1 ++ _).Perm _
   refine ((a4u bs[i] x).append_right _).trans ?_
   refine List.Perm.trans ?_ ((a4q hb).symm.append_left x.f1)
   rw [← List.append_assoc]
   exact List.perm_append_comm.append_right _
theorem b6h (l : List E) (bs : List Bk) : (allB (addL l bs)).Perm (l ++ allB bs) := (b1c _ _ _).trans ((a0n l).append_right _)
theorem a7c : ∀ (n : Nat) (x : Bk) (bs : List Bk), (addS n x bs).length ≤ bs.length + 1
 | 0, x, bs => by show (a1b x bs).length ≤ _; unfold a1b; have := a7o x bs; simp; omega
 | n + 1, x, bs => by
  rw [addS]
  cases h : bs.findIdx? (a2i x) with
  | none => show (a1b x bs).length ≤ _; unfold a1b; have := a7o x bs; simp; omega
  | some i =>
   have hlt : i < bs.length := by rw [List.findIdx?_eq_some_iff_getElem] at h; exact h.1
   have := a7c n (a0c (bs.getD i ⟨0, []⟩) x) (bs.eraseIdx i)
   rw [List.length_eraseIdx, if_pos hlt] at this
   show (addS n (a0c (bs.getD i ⟨0, []⟩) x) (bs.eraseIdx i)).length ≤ _
   omega
theorem a4m (l : List E) : okB (mkB l) = true := by
 unfold okB
 have h1 : (mkB l).f1.length = l.length := a0i l
 rw [Bool.and_eq_true]
 refine ⟨decide_eq_true ?_, b9i (a0y l)⟩
 rw [h1]
 rfl
theorem a7l {x b : Bk} {bs : List Bk} (h : b ∈ a1b x bs) : b = x ∨ b ∈ bs := by
 unfold a1b at h
 rcases List.mem_append.1 h with h | h
 · exact .inr (List.mem_of_mem_take h)
 · rcases List.mem_cons.1 h with h | h
   · exact .inl h
   · exact .inr (List.mem_of_mem_drop h)
theorem b0g : ∀ (n : Nat) (x : Bk) (bs : List Bk), okB x = true → (∀ b ∈ bs, okB b = true) → ∀ b ∈ addS n x bs, okB b = true
 | 0, x, bs, hx, hb, b, h => (a7l h).elim (fun e => e ▸ hx) (hb b)
 | n + 1, x, bs, hx, hb, b, h => by
  rw [addS] at h
  cases hf : bs.findIdx? (a2i x) with
  | none => rw [hf] at h; exact (a7l h).elim (fun e => e ▸ hx) (hb b)
  | some i => rw [hf] at h; exact b0g n _ _ (a4m _) (fun q hq => hb q (List.mem_of_mem_eraseIdx hq)) b h
theorem b6m {l : List E} {bs : List Bk} (hb : ∀ b ∈ bs, okB b = true) : ∀ b ∈ addL l bs, okB b = true := b0g _ _ _ (a4m l) hb
section
variable {P : Program} {ops : Array Oper} {Q : Exit → Act → World → Prop}
theorem b3n {α : Type} (d : Kd α) {o : Oper} {a : Act} {W : World} {K : Act → World → Prop} {X : Prop} (base : Nat) (hg : o.guard = none) (s x : Operand) (t e : TypeId) (ho : o.op = .call { callee := .builtin .append, args := #[s, x], argTypes := #[t, t] })
 (ht : P.underlying t = some (.slice e)) (hinfo : (P.info? e).map (·.size) = some d.sz) {g n c k m c2 : Nat} {A : Option Addr} {xs : List α} {ok : Nat → Prop}
 (hs : a.eval s = .slice (some ⟨g, 0, none⟩) k c) (hx : a.eval x = .slice A m c2) (hA : A = if c = k + 1 then some ⟨g, 0, none⟩ else (some (⟨g, 0, none⟩ : Addr)).map (·.add ((k + 1) * d.sz))) (hm : m = n - (k + 1))
 (HO : Kd.N d e W base ok (.slice (some ⟨g, 0, none⟩) n c) xs) (hk : k < n) (hbase : base ≤ W.heap.size)
 (h : ∀ w1, Kd.N d e w1 base ok (.slice (some ⟨g, 0, none⟩) (n - 1) c) (xs.eraseIdx k) → W.grownBy w1 (some g) → K (a.put o.dst (.slice (some ⟨g, 0, none⟩) (n - 1) c)) w1) :
 if Region.wanted o (yielded ops a.tmps) = true then Oper.wp P o a W K Q else X := by
 have hw : Region.wanted o (yielded ops a.tmps) = true := by simp [Region.wanted, hg]
 have := Kd.N_delete_step (Q := Q) (ops := ops) (Kc := K) (w0 := W) d base hw s x t e ho ht hinfo hs hx hA hm HO hk (Below.refl _ _) hbase (fun w1 h1 _ h3 => h w1 h1 h3)
 rw [if_pos hw] at this ⊢
 exact this
end
theorem a9s {W : World} {base g n cap : Nat} {ok : Nat → Prop} {bs : List Bk} (h : Kd.N k109 109 W base ok (.slice (some ⟨g, 0, none⟩) n cap) bs) (u v : Value) :
 Kd.N k109 109 (W.setCells g (n * 2) [u, v]) base ok (.slice (some ⟨g, 0, none⟩) n cap) bs := by
 have hnl := (Kd.N_reads' h).1
 obtain ⟨cur, rows, T, hg, hs, hnc, hcm, hb, hok, hl, hrow, ht, hf⟩ := a4b h
 have hfl : rows.flatten.length = n * 2 := by rw [a2t (fun c hc => (hrow c hc).1)]; omega
 obtain ⟨T', hT'⟩ := a8d rows.flatten T u v
 have hcur : cur = (rows.flatten ++ T).toArray := by rw [← ht]
 rw [hfl, ← hcur] at hT'
 exact a7f ((OnlyG.refl W g).set2 _ _ _) (a4h hg) (by simp [hs]) hnc hcm hb hok hl hnl hrow hT' hf
theorem bdel (base g n cap i : Nat) (ok : Nat → Prop) (bs : List Bk) (w : World) (hN : Kd.N k109 109 w base ok (.slice (some ⟨g, 0, none⟩) n cap) bs) (hi : i < n) (hn : n ≤ 1000) (hbase : base ≤ w.heap.size) :
 Calls Tryz.prog 74 #[.slice (some ⟨g, 0, none⟩) n cap, .int .i64 (i : Int), .int .i64 ((i : Int) + 1)] w fun e w' => e = .returned (.slice (some ⟨g, 0, none⟩) (n - 1) cap) ∧ Kd.N k109 109 w' base ok (.slice (some ⟨g, 0, none⟩) (n - 1) cap) (bs.eraseIdx i) ∧ w.grownBy w' (some g) := by
 have hnc := (Kd.N_reads' hN).2.1
 have HN := za (show Kd.N k109 109 w.drew base ok (.slice (some ⟨g, 0, none⟩) n cap) bs from Kd.N_drew hN)
 have HB := za (show base ≤ w.drew.heap.size from hbase)
 have mixed : Tryz.prog.follows .mixedOrders = true := by kernel_rfl
 have hszB : (Tryz.prog.info? 109).map (·.size) = some 2 := by kernel_rfl
 have HSZ := za hszB
 clear hN hszB hbase
 have d1 : ((i : Int) == (i : Int) + 1) = false := by rw [beq_eq_false_iff_ne]; omega
 have b1 : (0 : Int) ≤ (i : Int) := by omega
 have b2 : (i : Int) ≤ (i : Int) + 1 := by omega
 have b3 : (i : Int) + 1 ≤ (n : Int) := by omega
 have b4 : (n : Int) ≤ (cap : Int) := by omega
 have b5 : i ≤ cap := by omega
 have b6 : ((i : Int) + 1).toNat = i + 1 := by omega
 have b7 : (0 : Int) ≤ (i : Int) + 1 := by omega
 have b8 : ¬ (cap = n - 1) := by omega
 have b9 : n - 1 ≤ n := by omega
 have c1 : n - (n - 1) = 1 := by omega
 have c2 : ((n - 1 : Nat) : Int) ≤ (n : Int) := by omega
 have c3 : i + 1 ≤ n := by omega
 have c4 : ¬ (n = i) := by omega
 have HIN := za hi
 have HNC := za (show n - 1 + 1 ≤ cap by omega)
 by_cases hcap : cap = i + 1
 · obtain rfl : n = i + 1 := by omega
   subst hcap
   clear hi hn d1 b1 b2 b3 b4 b5 b6 b7 b8 b9 c1 c2 c3 c4 hnc
   have d1 : ((i : Int) == (i : Int) + 1) = false := by rw [beq_eq_false_iff_ne]; omega
   have b1 : (0 : Int) ≤ (i : Int) := by omega
   have b2 : (i : Int) ≤ (i : Int) + 1 := by omega
   have b6 : ((i : Int) + 1).toNat = i + 1 := by omega
   have b7 : (0 : Int) ≤ (i : Int) + 1 := by omega
   have b8 : ¬ (i + 1 = i) := by omega
   have c1 : i + 1 - i = 1 := by omega
   go_enter Tryz.func74, Tryz.ntmps74
   go_wp2_with fail
   go_region_law_o ((with_reducible refine a3s (.call { callee := .builtin .append, args := #[.tmp 22, .tmp 25], argTypes := #[96, 96] }) rfl ?_); go_loud (refine b3n k109 base rfl (.tmp 22) (.tmp 25) 96 109 rfl Tryz.underlying96 HSZ.out (k := i) (m := 0) (c2 := 0) (A := some ⟨g, 0, none⟩) (by simp [Act.eval, Act.put]) (by simp [Act.eval, Act.put]) (by rw [if_pos rfl]) (Nat.sub_self (i + 1)).symm HN.out HIN.out HB.out ?_; intro w1 hn1 hg1; have HN1 := za hn1; have HG1 := za hg1; clear hn1 hg1))
   have hclr : ∀ ty c, (Builtin.clear_ #[96] ty #[.slice (some ⟨g, i * 2, none⟩) 1 c]).run Tryz.prog w1 = .ok (.tuple #[]) (w1.setCells g (i * 2) [.int .i64 0, .slice none 0 0]) := fun ty c => by
    obtain ⟨cur, rows, T, hg, hs, _⟩ := a4b HN1.out
    exact a5m w1 g (i * 2) c ty cur hg (by omega)
   have HCLR := za hclr
   clear hclr
   go_wp2_with (first | ((with_reducible refine gate_builtin (b := .clear) (xs := #[.tmp 31]) rfl ?_); go_loud (refine a5w _ rfl (.tmp 31) 96 rfl (.slice (some ⟨g, i * 2, none⟩) 1 1) (by simp [Act.eval, Act.put, c1]) (HCLR.out _ _) ?_)))
   go_ret
   exact ⟨rfl, a9s HN1.out _ _, (OnlyG.refl w1 g).set2 (i * 2) (.int .i64 0) (.slice none 0 0) |>.grown |> fun h => ⟨h.os.trans HG1.out.os, h.tape.trans HG1.out.tape, h.output.trans HG1.out.output, Nat.le_trans HG1.out.size h.size, fun k hk hne => (h.block k (Nat.lt_of_lt_of_le hk HG1.out.size) hne).trans (HG1.out.block k hk hne)⟩⟩
 · have hcap2 : ¬ (cap = i) := by omega
   clear hi hn
   go_enter Tryz.func74, Tryz.ntmps74
   go_wp2_with fail
   go_region_law_o ((with_reducible refine a3s (.call { callee := .builtin .append, args := #[.tmp 22, .tmp 25], argTypes := #[96, 96] }) rfl ?_); go_loud (refine b3n k109 base rfl (.tmp 22) (.tmp 25) 96 109 rfl Tryz.underlying96 HSZ.out (k := i) (m := n - (i + 1)) (c2 := cap - (i + 1)) (A := some ⟨g, (i + 1) * 2, none⟩) (by simp [Act.eval, Act.put]) (by simp [Act.eval, Act.put]) (by rw [if_neg hcap]; simp [add_plain]; rfl) rfl HN.out HIN.out HB.out ?_; intro w1 hn1 hg1; have HN1 := za hn1; have HG1 := za hg1; clear hn1 hg1))
   have hclr : ∀ ty c, (Builtin.clear_ #[96] ty #[.slice (some ⟨g, (n - 1) * 2, none⟩) 1 c]).run Tryz.prog w1 = .ok (.tuple #[]) (w1.setCells g ((n - 1) * 2) [.int .i64 0, .slice none 0 0]) := fun ty c => by
    obtain ⟨cur, rows, T, hg, hs, _⟩ := a4b HN1.out
    exact a5m w1 g ((n - 1) * 2) c ty cur hg (by have := HNC.out; omega)
   have HCLR := za hclr
   clear hclr
   go_wp2_with (first | ((with_reducible refine gate_builtin (b := .clear) (xs := #[.tmp 31]) rfl ?_); go_loud (refine a5w _ rfl (.tmp 31) 96 rfl (.slice (some ⟨g, (n - 1) * 2, none⟩) 1 (cap - (n - 1))) (by simp [Act.eval, Act.put, c1]) (HCLR.out _ _) ?_)))
   go_ret
   exact ⟨rfl, a9s HN1.out _ _, (OnlyG.refl w1 g).set2 ((n - 1) * 2) (.int .i64 0) (.slice none 0 0) |>.grown |> fun h => ⟨h.os.trans HG1.out.os, h.tape.trans HG1.out.tape, h.output.trans HG1.out.output, Nat.le_trans HG1.out.size h.size, fun k hk hne => (h.block k (Nat.lt_of_lt_of_le hk HG1.out.size) hne).trans (HG1.out.block k hk hne)⟩⟩
def BoxB (W : World) (g : Nat) (x : Bk) (u : Value) : Prop := W.heap[g]? = some (.cells #[.int .i64 x.f0, u] 109 (0, 0))
theorem BoxB.below {W W1 : World} {g : Nat} {x : Bk} {u : Value} (h : BoxB W g x u) (hb : Below W.heap.size W W1) : BoxB W1 g x u := blk_below h hb
theorem BoxB.c0 {W : World} {g : Nat} {x : Bk} {u : Value} (h : BoxB W g x u) : W.cell? ⟨g, 0, none⟩ = some (.int .i64 x.f0) := (blk_cell h 0).trans rfl
theorem BoxB.c1 {W : World} {g : Nat} {x : Bk} {u : Value} (h : BoxB W g x u) : W.cell? ⟨g, 1, none⟩ = some u := (blk_cell h 1).trans rfl
theorem askA1 (g : Nat) (x : Bk) (u : Value) (bs : List Bk) : AskB 71 #[.pointer (some ⟨g, 0, none⟩)] (a2i x) bs (fun W => BoxB W g x u) := by
 refine ⟨⟨_, Tryz.func71, by kernel_rfl, rfl⟩, fun _ _ h hb => h.below hb, fun b A c W _ hi _ _ => ?_⟩
 have c0 := (hi.below (below_alloc (Below.refl W.heap.size W) (.cells #[.int .i64 b.f0, .slice A b.f1.length c] 109))).c0
 clear hi
 show Calls Tryz.prog 71 #[.agg #[.int .i64 b.f0, .slice A b.f1.length c], .pointer (some ⟨g, 0, none⟩)] W _
 unfold a2i
 go_enter Tryz.func71, Tryz.ntmps71
 go_wp2
 go_ret
 exact ⟨by first | rfl | simp, below_alloc (Below.refl _ _) _⟩
theorem askA2 (g : Nat) (x : Bk) (u : Value) (bs : List Bk) : AskB 75 #[.pointer (some ⟨g, 0, none⟩)] (a4i x) bs (fun W => BoxB W g x u) := by
 refine ⟨⟨_, Tryz.func75, by kernel_rfl, rfl⟩, fun _ _ h hb => h.below hb, fun b A c W _ hi _ _ => ?_⟩
 have c0 := (hi.below (below_alloc (Below.refl W.heap.size W) (.cells #[.int .i64 b.f0, .slice A b.f1.length c] 109))).c0
 clear hi
 show Calls Tryz.prog 75 #[.agg #[.int .i64 b.f0, .slice A b.f1.length c], .pointer (some ⟨g, 0, none⟩)] W _
 unfold a4i
 go_enter Tryz.func75, Tryz.ntmps75
 go_wp2
 go_ret
 exact ⟨by first | rfl | simp, below_alloc (Below.refl _ _) _⟩
def lenOf : Value → Nat
  | .slice _ n _ => n
  | _ => 0
structure AddSt [XSet] (w wr : World) (p g : Nat) (A : Option Addr) (c : Nat) (x : Bk) (u : Value) (cs fin : List Bk) : Prop where
  row : Kd.N k109 109 wr w.heap.size (fun k => (XSet.ok k ∧ k ≠ p) ∧ k ≠ g) (.slice A cs.length c) cs
  box : BoxB wr g x u
  val : Kd.FK k109 wr (fun k => ((XSet.ok k ∧ k ≠ p) ∧ k ≠ g) ∧ some k ≠ (Value.slice A cs.length c).ownBlock) x [.int .i64 x.f0, u]
  fin : addS cs.length x cs = fin
  ok : ∀ b ∈ cs, okB b = true
  xok : okB x = true
  tot : (allB cs).length + x.f1.length ≤ 1000000
  len : cs.length ≤ 900
  bel : Below w.heap.size w wr
  g4 : w.heap.size ≤ g ∧ g < wr.heap.size
namespace AddSt
variable [XSet] {w wr w1 : World} {p g c : Nat} {A : Option Addr} {x : Bk} {u : Value} {cs fin : List Bk}
theorem below (h : AddSt w wr p g A c x u cs fin) (hb : Below wr.heap.size wr w1) : AddSt w w1 p g A c x u cs fin :=
 ⟨Kd.N_below h.row hb, h.box.below hb, Kd.FK_below h.val hb, h.fin, h.ok, h.xok, h.tot, h.len, below_then h.bel h.bel.size hb, ⟨h.g4.1, Nat.lt_of_lt_of_le h.g4.2 hb.size⟩⟩
theorem all (h : AddSt w wr p g A c x u cs fin) : (allB cs).length ≤ 1000000 := by have := h.tot; omega
end AddSt
theorem a7p {w w1 w2 : World} {row : Option Nat} (hb : Below w.heap.size w w1) (hg : w1.grownBy w2 row) : w.grownBy w2 row :=
 ⟨hg.os.trans hb.os, hg.tape.trans hb.tape, hg.output.trans hb.output, Nat.le_trans hb.size hg.size, fun i hi hne => (hg.block i (Nat.lt_of_lt_of_le hi hb.size) hne).trans (hb.block i hi)⟩
theorem a7d {w w1 w2 : World} {row : Option Nat} (hb : Below w.heap.size w w1) (hg : w1.grownBy w2 row) (hr : ∀ k, row = some k → w.heap.size ≤ k) : Below w.heap.size w w2 :=
 ⟨hg.os.trans hb.os, hg.tape.trans hb.tape, hg.output.trans hb.output, Nat.le_trans hb.size hg.size, fun i hi => (hg.block i (Nat.lt_of_lt_of_le hi hb.size) (fun e => by have := hr i e.symm; omega)).trans (hb.block i hi)⟩
namespace AddSt
variable [XSet] {w wr w1 w2 : World} {p g c : Nat} {A : Option Addr} {x : Bk} {u : Value} {cs fin : List Bk}
theorem own (h : AddSt w wr p g A c x u cs fin) : ∀ k, (Value.slice A cs.length c).ownBlock = some k → w.heap.size ≤ k ∧ k < wr.heap.size ∧ k ≠ p ∧ k ≠ g := fun k hk => ⟨Kd.N_base h.row k hk, Kd.N_lt h.row k hk, (h.row.1 k hk).1.2, (h.row.1 k hk).2⟩
theorem inserted (h : AddSt w wr p g A c x u cs fin) (hz : Below wr.heap.size wr w1) (hg : w1.grownBy w2 (Value.slice A cs.length c).ownBlock) : Below w.heap.size w w2 := a7d (below_then h.bel h.bel.size hz) hg (fun k hk => (h.own k hk).1)
theorem boxed (h : AddSt w wr p g A c x u cs fin) (hz : Below wr.heap.size wr w1) (hg : w1.grownBy w2 (Value.slice A cs.length c).ownBlock) : BoxB w2 g x u :=
 (hg.block g (Nat.lt_of_lt_of_le h.g4.2 hz.size) (fun e => (h.own g e.symm).2.2.2 rfl)).trans (h.box.below hz)
theorem step {q i : Nat} {b : Bk} (h : AddSt w wr p g (some ⟨q, 0, none⟩) c x u cs fin) (hf : cs.findIdx? (a2i x) = some i) (hb : cs[i]? = some b) {w5 : World} (hb5 : Below wr.heap.size wr w5) {A5 : Option Addr} {c5 : Nat}
 (hV : Kd.V k33 33 w5 0 (fun k => ((XSet.ok k ∧ k ≠ p) ∧ k ≠ g) ∧ k ≠ q) (.slice A5 (a0c b x).f1.length c5) (a0c b x).f1) :
 Kd.N k109 109 ((w5.setCell ⟨g, 0, none⟩ (.int .i64 (a0c b x).f0)).setCell ⟨g, 1, none⟩ (.slice A5 (a0c b x).f1.length c5)) w.heap.size (fun k => (XSet.ok k ∧ k ≠ p) ∧ k ≠ g) (.slice (some ⟨q, 0, none⟩) cs.length c) cs ∧
 ∀ w7, Kd.N k109 109 w7 w.heap.size (fun k => (XSet.ok k ∧ k ≠ p) ∧ k ≠ g) (.slice (some ⟨q, 0, none⟩) (cs.length - 1) c) (cs.eraseIdx i) → ((w5.setCell ⟨g, 0, none⟩ (.int .i64 (a0c b x).f0)).setCell ⟨g, 1, none⟩ (.slice A5 (a0c b x).f1.length c5)).grownBy w7 (some q) →
  AddSt w w7 p g (some ⟨q, 0, none⟩) c (a0c b x) (.slice A5 (a0c b x).f1.length c5) (cs.eraseIdx i) fin := by
 have hlt := (List.getElem?_eq_some_iff.1 hb).1
 have hel : (cs.eraseIdx i).length = cs.length - 1 := by rw [List.length_eraseIdx, if_pos hlt]
 have hq := h.own q rfl
 have hg5 := Nat.lt_of_lt_of_le h.g4.2 hb5.size
 have hall := (a4q hb).length_eq
 rw [List.length_append] at hall
 have hj := (a4u b x).length_eq
 rw [List.length_append] at hj
 have hsz : ((w5.setCell ⟨g, 0, none⟩ (.int .i64 (a0c b x).f0)).setCell ⟨g, 1, none⟩ (.slice A5 (a0c b x).f1.length c5)).heap.size = w5.heap.size := by simp
 refine ⟨Kd.N_far (Kd.N_far (Kd.N_below h.row hb5) (p := ⟨g, 0, none⟩) (fun k hk => hk.2) _) (p := ⟨g, 1, none⟩) (fun k hk => hk.2) _, fun w7 hn hg => ?_⟩
 have hfk := Kd.FK_step (Kd.FK_step (a4r w5 _ (a0c b x) (Kd.V_at hV).2.1 (Kd.V_at hV).2.2) (W1 := w5.setCell ⟨g, 0, none⟩ (.int .i64 (a0c b x).f0)) (fun k hk _ => Below.heap_setCell w5 ⟨g, 0, none⟩ _ k hk.1.2)) (W1 := (w5.setCell ⟨g, 0, none⟩ (.int .i64 (a0c b x).f0)).setCell ⟨g, 1, none⟩ (.slice A5 (a0c b x).f1.length c5)) (fun k hk _ => Below.heap_setCell _ ⟨g, 1, none⟩ _ k hk.1.2)
 refine ⟨by rw [hel]; exact hn, ?_, ?_, ?_, fun q hq => h.ok q (List.mem_of_mem_eraseIdx hq), a4m _, ?_, by have := h.len; omega, ?_, ⟨h.g4.1, by have := hg.size; omega⟩⟩
 · have hb0 := (hb5.block g h.g4.2).trans h.box
   exact (hg.block g (by rw [hsz]; exact hg5) (fun e => hq.2.2.2 (by injection e with e; exact e.symm))).trans (blk_put (blk_put hb0 0 _ rfl) 1 _ rfl)
 · exact Kd.FK_mono (Kd.FK_grown hfk hg (fun k hk e => hk.2 (by injection e))) (fun k hk => ⟨hk.1, fun e => hk.2 (by injection e)⟩)
 · rw [← h.fin, b8u hf hb]
 · have := h.tot; omega
 · refine a7d (w1 := (w5.setCell ⟨g, 0, none⟩ (.int .i64 (a0c b x).f0)).setCell ⟨g, 1, none⟩ (.slice A5 (a0c b x).f1.length c5)) (vn (vn (below_then h.bel h.bel.size hb5) h.g4.1) h.g4.1) hg (fun k hk => by injection hk with hk; omega)
end AddSt
theorem sh_add [XSet] (base p : Nat) (ver : Int) (v : Value) (bs : List Bk) (A : Option Addr) (c : Nat) (l : List E) (w : World) (h : ShAt w base p ver v bs) (hv : 0 ≤ ver ∧ ver ≤ 1000000) (hr : k33.C w A l.length l) (hc : l.length ≤ c) (hne : l ≠ []) (hl : bs.length ≤ 900) (ha : (allB bs).length + l.length ≤ 1000000) (hok : ∀ b ∈ bs, okB b = true) :
 Calls Tryz.prog 38 #[.pointer (some ⟨p, 0, none⟩), .slice A l.length c] w fun x w' => x = .returned (.tuple #[]) ∧ ∃ v', ShAt w' base p (ver + 1) v' (addL l bs) ∧ w.grownBy w' (some p) := by
 have HS := za h
 have HR := za hr
 have HOK := za hok
 have HT := za (show block_Of.f 100 l = some ((mkB l).f0, (mkB l).f1) from a4n 100 l (by omega) (by omega))
 have q1 : ((l.length : Int) == 0) = false := by
  rw [beq_eq_false_iff_ne]
  intro e
  exact hne (List.length_eq_zero_iff.1 (by omega))
 have q2 : decide (l.length = 0) = false := decide_eq_false (fun e => hne (List.length_eq_zero_iff.1 e))
 have q3 : decide (l = []) = false := decide_eq_false hne
 have HA := za ha
 have HV := za hv
 have hml : (mkB l).f1.length = l.length := a0i l
 have HML := za hml
 obtain ⟨fin, hfin⟩ : ∃ fin, fin = addL l bs := ⟨_, rfl⟩
 have HFIN := za hfin
 rw [← hfin]
 clear h hr hok hml ha hfin
 go_enter Tryz.func38, Tryz.ntmps38
 go_wp2_with fail
 refine (block_Of.calls 100 A c l _ _ w HR.out hc HT.out).mono ?_
 rintro y w1 ⟨v1, rfl, hv1, hb1⟩
 obtain ⟨A1, c1, rfl⟩ := xd hv1
 have HV1 := za hv1
 have HB1 := za hb1
 have HZ := za (uv (Below.refl w1.heap.size w1) (.cells #[.int .i64 (mkB l).f0, .slice A1 (mkB l).f1.length c1] 109))
 have HS2 := za (HS.out.below (ur HB1.out HZ.out))
 obtain ⟨A0, c0, hv0, hc0, hf0⟩ := HS.out.reads
 subst hv0
 have HF2 := za (Kd.F_below (Kd.F_bound hf0) (ur HB1.out HZ.out))
 have hcell := HS2.out.cell1
 clear hv1 hb1 hf0 q1 q2 q3 hne
 go_wp2_with fail
 refine (a7g (fun k => (XSet.ok k ∧ k ≠ p) ∧ k < w.heap.size) A0 c0 bs _ HF2.out hc0 (by omega)).mono ?_
 rintro y w3 ⟨v3, rfl, hn3, hb3⟩
 obtain ⟨A3, c3, rfl⟩ := Kd.N_slice hn3
 obtain ⟨g, hg⟩ : ∃ g, g = w1.heap.size := ⟨_, rfl⟩
 have HST0 : Aside0 (AddSt w w3 p g A3 c3 (mkB l) (.slice A1 (mkB l).f1.length c1) bs fin) := ⟨by
  have hsz : (w1.alloc (.cells #[.int .i64 (mkB l).f0, .slice A1 (mkB l).f1.length c1] 109)).heap.size = w1.heap.size + 1 := by simp
  have hlt := HS.out.lt
  have h1s := HB1.out.size
  have hown := Kd.N_base hn3
  subst hg
  refine ⟨?_, vo (heap_alloc_new w1 _) hb3, ?_, ?_, HOK.out, a4m l, by rw [HML.out]; exact HA.out, hl, ur (ur HB1.out HZ.out) hb3, ⟨h1s, by have := hb3.size; omega⟩⟩
  · exact Kd.N_lower (Kd.N_mono hn3 (ok' := fun k => (XSet.ok k ∧ k ≠ p) ∧ k ≠ w1.heap.size) (fun k hk => by
     rcases hk with hk | hk
     · exact ⟨hk.1, by have := hk.2; omega⟩
     · exact ⟨⟨HS.out.fresh (by omega), by omega⟩, by omega⟩)) (by omega)
  · refine a4r _ _ (mkB l) (Kd.V_at HV1.out).2.1 (Kd.F_mono (Kd.F_below (Kd.F_bound (Kd.V_at HV1.out).2.2) (ur HZ.out hb3)) (fun k hk => ?_))
    have k1 : w.heap.size ≤ k := hk.1
    have k2 := hk.2
    exact ⟨⟨⟨HS.out.fresh k1, by omega⟩, by omega⟩, fun e => by have := hown k e.symm; omega⟩
  · rw [HFIN.out]; rfl⟩
 have HC3 := za (Kd.N_reads' hn3)
 clear hn3 hb3 HF2 HS2 hcell
 rw [← hg]
 clear hg HZ HV1
 go_wp2_with fail
 refine (a4v A3 c3 bs _ (askA1 g (mkB l) _ bs) HC3.out.2.2 HC3.out.2.1 (by omega) HST0.out.box).mono ?_
 rintro y w4 ⟨rfl, hb4⟩
 have HST1 := za (HST0.out.below hb4)
 clear hb4 HST0 HC3
 go_wp2_with fail
 go_loopw [5, 7] (fun s5 s7 wr => ∃ (x : Bk) (u : Value) (cs : List Bk) (A : Option Addr) (c : Nat), s5 = .slice A cs.length c ∧ s7 = .int .i64 (posB (cs.findIdx? (a2i x))) ∧ Aside0 (AddSt w wr p g A c x u cs fin)) (fun s5 _ _ => lenOf s5)
 case atStart => exact ⟨mkB l, _, bs, A3, c3, rfl, rfl, HST1⟩
 case round =>
  clear HST1
  obtain ⟨x, u, cs, A4, c4, rfl, rfl, HST⟩ := hrel
  obtain ⟨Au, cu, eu, hxl, hxf⟩ := a2v HST.out.val
  injection eu with _ eu
  injection eu with eu
  subst eu
  have HXF := za hxf
  have hcl := HST.out.len
  have hxt := HST.out.tot
  clear hxf
  cases hf : cs.findIdx? (a2i x) with
  | some i =>
   have hlt : i < cs.length := by rw [List.findIdx?_eq_some_iff_getElem] at hf; exact hf.1
   obtain ⟨b, hb⟩ : ∃ b, cs[i]? = some b := ⟨_, List.getElem?_eq_getElem hlt⟩
   have hble := a1z hb
   obtain ⟨q, cap, hform, _, hql, _⟩ := Kd.N_form HST.out.row (by omega)
   injection hform with e1 e2 e3
   subst e1; subst e3
   obtain ⟨A2, k2, x0, x1, hbl, hbk, hbf⟩ := a2g HST.out.row hb
   obtain ⟨_, _, e4, _, hbF⟩ := a2v hbk
   have eA := e4
   injection eA with _ eA
   injection eA with eA
   injection eA with h1 h2 h3
   subst h1; subst h3
   have HVE := za (show ∀ B, Kd.V k33 33 wr.drew B (fun k => ((XSet.ok k ∧ k ≠ p) ∧ k ≠ g) ∧ k ≠ q) (.slice A2 b.f1.length k2) b.f1 from fun B => Kd.V_mk hbl (Kd.F_drew hbF))
   have HVX := za (show ∀ B, Kd.V k33 33 wr.drew B (fun k => ((XSet.ok k ∧ k ≠ p) ∧ k ≠ g) ∧ k ≠ q) (.slice Au x.f1.length cu) x.f1 from fun B => Kd.V_mk hxl (Kd.F_mono (Kd.F_drew HXF.out) (fun k hk => ⟨hk.1, fun e => hk.2 (by rw [e]; rfl)⟩)))
   have HMG := za (show block_Merge.f 100 b.f0 b.f1 x.f0 x.f1 = some ((a0c b x).f0, (a0c b x).f1) by
    rw [b0y 100 b.f0 x.f0 b.f1 x.f1 (by omega) (by omega), ← List.length_append]
    rfl)
   have HLT := za (show p < wr.heap.size ∧ g < wr.heap.size ∧ q < wr.heap.size from ⟨Nat.lt_of_lt_of_le HS.out.lt HST.out.bel.size, HST.out.g4.2, (HST.out.own q rfl).2.1⟩)
   have HF := za hf
   have HBb := za hb
   have z0 := HST.out.box.c0
   have z1 := HST.out.box.c1
   have hin : (i : Int) < (cs.length : Int) := by omega
   have hin0 : (0 : Int) ≤ (i : Int) := by omega
   have hgq : ¬ (g = q) := fun e => (HST.out.own q rfl).2.2.2 e.symm
   have HCB := za (show cs.length ≤ 1000 ∧ w.heap.size ≤ wr.heap.size from ⟨by omega, HST.out.bel.size⟩)
   have mixed : Tryz.prog.follows .mixedOrders = true := by kernel_rfl
   clear hf hb hble hql e4 hbF hbk hbf
   rw [show posB (some i) = (i : Int) from rfl]
   go_upto_region 7 with fail
   go_cut [29] (fun _ wx => ∃ w5 A5 c5, Aside0 (wx = (w5.setCell ⟨g, 0, none⟩ (.int .i64 (a0c b x).f0)).setCell ⟨g, 1, none⟩ (.slice A5 (a0c b x).f1.length c5)) ∧ Aside0 (Below wr.heap.size wr w5 ∧ Kd.V k33 33 w5 0 (fun k => ((XSet.ok k ∧ k ≠ p) ∧ k ≠ g) ∧ k ≠ q) (.slice A5 (a0c b x).f1.length c5) (a0c b x).f1))
   case first =>
    refine start_ (n := 7) (S := fun w' => w'.cell? ⟨q, i * 2, none⟩ = some (.int .i64 b.f0) ∧ w'.cell? ⟨q, i * 2 + 1, none⟩ = some (.slice A2 b.f1.length k2) ∧ w'.cell? ⟨g, 0, none⟩ = some (.int .i64 x.f0) ∧ w'.cell? ⟨g, 1, none⟩ = some (.slice Au x.f1.length cu)) (ds := [6]) #[xX, xX, xX, xX, xX, xX, xX] (by kernel_rfl) rfl rfl ⟨x0, x1, z0, z1⟩ (fun hHeld => ?_)
    refine pU (i := 0) (N := (some 29)) (bA 7 1) (by kernel_rfl) rfl ?_
    refine pU (i := 1) (N := (some 30)) (bA 7 3) (by kernel_rfl) rfl ?_
    refine pU (i := 2) (N := (some 31)) (bA 7 7) (by kernel_rfl) rfl ?_
    refine tU (i := 3) (N := (some 32)) (bA 7 15) (by kernel_rfl) rfl hHeld (by (constructor; (rintro w' ⟨s0, s1, s2, s3⟩; go_simp; (with_reducible rfl)); (simp only [Act.put, ua, ub, uc, ue, uf]; rfl))) ?_
    refine tU (i := 4) (N := (some 33)) (bA 7 31) (by kernel_rfl) rfl hHeld (by (constructor; (rintro w' ⟨s0, s1, s2, s3⟩; go_simp; (with_reducible rfl)); (simp only [Act.put, ua, ub, uc, ue, uf]; rfl))) ?_
    refine one_ (i := 5) (N := (some 34)) (bA 7 63) rfl rfl (by kernel_rfl) (by decide) (fun K hK => ?_)
    refine goes_ Tryz.func73 (by kernel_rfl) rfl #[.agg #[.int .i64 b.f0, .slice A2 b.f1.length k2], .agg #[.int .i64 x.f0, .slice Au x.f1.length cu]] (by rfl) rfl rfl (by (try simp only [ug, ul, uo]); first | done | rfl) ?_
    refine (b1s 100 _ (fun k => ((XSet.ok k ∧ k ≠ p) ∧ k ≠ g) ∧ k ≠ q) _ _ _ _ (fun k => ((XSet.ok k ∧ k ≠ p) ∧ k ≠ g) ∧ k ≠ q) _ _ _ (a0c b x).f0 (a0c b x).f1 _ (HVE.out _) (HVX.out _) HMG.out).mono ?_
    rintro y w5 ⟨v5, rfl, hv5, hb5⟩
    obtain ⟨A5, c5, rfl⟩ := xd hv5
    have HB5 := za (ur (vu (Below.refl wr.heap.size wr)) hb5)
    have HV5 := za (show Kd.V k33 33 w5 0 (fun k => ((XSet.ok k ∧ k ≠ p) ∧ k ≠ g) ∧ k ≠ q) (.slice A5 (a0c b x).f1.length c5) (a0c b x).f1 from Kd.V_mono (Kd.V_lower hv5 (Nat.zero_le _)) (fun k hk => by
     have h1 := HLT.out
     rcases hk with (hk | hk) | hk
     · exact hk
     · exact hk
     · have hk : wr.heap.size ≤ k := hk
       exact ⟨⟨⟨HS.out.fresh (Nat.le_trans HST.out.bel.size hk), by omega⟩, by omega⟩, by omega⟩))
    clear hv5 hb5
    have hx0 := HB5.out.block g HLT.out.2.1
    have hx := hx0.trans HST.out.box
    clear hx0
    have g0 : w5.cell? ⟨g, 0, none⟩ = some (.int .i64 x.f0) := (uq hx 0).trans rfl
    have g1 : w5.cell? ⟨g, 1, none⟩ = some (.slice Au x.f1.length cu) := (uq hx 1).trans rfl
    have f0 : w5.frozen? ⟨g, 0, none⟩ = false := a1h hx 0
    have f1 : w5.frozen? ⟨g, 1, none⟩ = false := a1h hx 1
    clear hx
    have e0 := uy HB5.out x0
    have e1 := uy HB5.out x1
    refine ⟨_, rfl, ?_⟩
    refine hK.out _ _ ⟨e0, e1, g0, g1⟩ (fun hHeld => ?_)
    clear hK K
    refine vv (a' := ?_) ?_ ?_; rotate_left; (· (show Act.put _ (some 34) _ = _); (simp only [Act.put, ua, ub, uc, ue, uf]); rfl)
    refine last_ (i := 6) (N := none) (bA 7 127) rfl rfl (by kernel_rfl) (by decide) (fun K hK => ?_)
    go_simp
    refine hK.out _ _ ?_
    clear hK K
    (try simp only [Act.put, ua, ub, uc, ue, uf])
    refine done_ (by kernel_rfl) ?_
    go_wp2_with fail
    go_meet
    exact ⟨w5, A5, c5, ⟨rfl⟩, ⟨HB5.out, HV5.out⟩⟩
   case rest =>
    obtain ⟨w5, A5, c5, HWX, H5⟩ := hcut
    have hwx := HWX.out
    subst hwx
    have HSP := za (HST.out.step HF.out HBb.out H5.out.1 H5.out.2)
    have HBZ := za (show w.heap.size ≤ ((w5.setCell ⟨g, 0, none⟩ (.int .i64 (a0c b x).f0)).setCell ⟨g, 1, none⟩ (.slice A5 (a0c b x).f1.length c5)).heap.size by have h1 := H5.out.1.size; have h2 := HCB.out.2; simp; omega)
    clear HWX x0 x1 z0 z1
    go_wp2_with fail
    refine (bdel w.heap.size q cs.length c4 i _ cs _ HSP.out.1 hlt HCB.out.1 HBZ.out).mono ?_
    rintro y w7 ⟨rfl, hn7, hg7⟩
    have HST7 := za (HSP.out.2 w7 hn7 hg7)
    have hel : (cs.eraseIdx i).length = cs.length - 1 := by rw [List.length_eraseIdx, if_pos hlt]
    have HEL := za hel
    have HC7 := za (Kd.N_reads' HST7.out.row)
    rw [← hel]
    clear hn7 hg7 hel
    go_wp2_with fail
    refine (a4v (some ⟨q, 0, none⟩) c4 (cs.eraseIdx i) _ (askA1 g (a0c b x) _ (cs.eraseIdx i)) HC7.out.2.2 HC7.out.2.1 (by have := HEL.out; omega) HST7.out.box).mono ?_
    rintro y w8 ⟨rfl, hb8⟩
    have HST8 := za (HST7.out.below hb8)
    clear hb8 HST7 HC7
    go_wp2
    go_roundw
    case rel => exact ⟨a0c b x, _, cs.eraseIdx i, some ⟨q, 0, none⟩, c4, rfl, rfl, HST8⟩
    case measure => simp [lenOf]; have := HEL.out; omega
  | none =>
   have HFN := za hf
   have HC9 := za (Kd.N_reads' HST.out.row)
   clear hf
   rw [show posB none = -1 from rfl]
   go_wp2_with fail
   refine (a4v A4 c4 cs _ (askA2 g x _ cs) HC9.out.2.2 HC9.out.2.1 (by omega) HST.out.box).mono ?_
   rintro y w9 ⟨rfl, hb9⟩
   have ST9 := za (HST.out.below hb9)
   clear hb9
   go_upto_if 44 with fail
   go_cut [8] (fun s8 wx => s8 = .int .i64 (a1x x cs) ∧ Aside0 (wx = w9))
   case first =>
    cases hf2 : cs.findIdx? (a4i x) with
    | none =>
     have HPA := za (show a1x x cs = cs.length by unfold a1x; rw [hf2])
     clear hf2
     rw [show posB none = -1 from rfl]
     go_wp2_with fail
     go_meet
     exact ⟨by rw [HPA.out], ⟨rfl⟩⟩
    | some j =>
     have HPA := za (show a1x x cs = j by unfold a1x; rw [hf2])
     clear hf2
     have hj0 : (0 : Int) ≤ (j : Int) := by omega
     have hj1 : decide ((j : Int) < 0) = false := decide_eq_false (by omega)
     rw [show posB (some j) = (j : Int) from rfl]
     go_wp2_with fail
     go_meet
     exact ⟨by rw [HPA.out], ⟨rfl⟩⟩
   case rest =>
    obtain ⟨rfl, HWC⟩ := hcut
    have hwc := HWC.out.symm
    subst hwc
    have HS9 := za (HS.out.below ST9.out.bel)
    have hp0 := HS9.out.cell0
    have z0 := ST9.out.box.c0
    have z1 := ST9.out.box.c1
    have HPL := za (a7o x cs)
    have HLEN := za (show cs.length ≤ 1000 by omega)
    have HZZ := za (uv (vu (Below.refl w9.heap.size w9)) (.cells #[.int .i64 x.f0, .slice Au x.f1.length cu] 109))
    have HPF := za (show fin = a1b x cs by rw [← ST9.out.fin]; exact b6i HFN.out _)
    have HPO := za (show (∀ b ∈ a1b x cs, okB b = true) ∧ (a1b x cs).length ≤ 1000 ∧ (allB (a1b x cs)).length ≤ 1000000 from ⟨fun b hb => (a7l hb).elim (fun e => e ▸ ST9.out.xok) (ST9.out.ok b), by have := a7c 0 x cs; have h2 : addS 0 x cs = a1b x cs := rfl; rw [h2] at this; omega, by have h1 := (a8f x cs).length_eq; rw [List.length_append] at h1; omega⟩)
    have HIN := za (show Kd.N k109 109 (w9.drew.alloc (.cells #[.int .i64 x.f0, .slice Au x.f1.length cu] 109)) w.heap.size (fun k => (XSet.ok k ∧ k ≠ p) ∧ k ≠ g) (.slice A4 cs.length c4) cs ∧ (w9.drew.alloc (.cells #[.int .i64 x.f0, .slice Au x.f1.length cu] 109)).heap[w9.heap.size]? = some (.cells #[.int .i64 x.f0, .slice Au x.f1.length cu] 109 (0, 0)) ∧ some w9.heap.size ≠ (Value.slice A4 cs.length c4).ownBlock ∧ ((XSet.ok w9.heap.size ∧ w9.heap.size ≠ p) ∧ w9.heap.size ≠ g) ∧
     Kd.FK k109 (w9.drew.alloc (.cells #[.int .i64 x.f0, .slice Au x.f1.length cu] 109)) (fun k => ((XSet.ok k ∧ k ≠ p) ∧ k ≠ g) ∧ some k ≠ (Value.slice A4 cs.length c4).ownBlock) x [.int .i64 x.f0, .slice Au x.f1.length cu] ∧ (∀ k, (w9.drew.alloc (.cells #[.int .i64 x.f0, .slice Au x.f1.length cu] 109)).heap.size ≤ k → (XSet.ok k ∧ k ≠ p) ∧ k ≠ g) ∧ w.heap.size ≤ (w9.drew.alloc (.cells #[.int .i64 x.f0, .slice Au x.f1.length cu] 109)).heap.size by
     have h1 := HS9.out.lt
     have h2 := ST9.out.g4.2
     have h3 := HZZ.out.size
     have h4 := ST9.out.bel.size
     exact ⟨Kd.N_below ST9.out.row HZZ.out, heap_alloc_new w9.drew _, fun e => by have := (ST9.out.own _ e.symm).2.1; omega, ⟨⟨HS.out.fresh (by omega), by omega⟩, by omega⟩, Kd.FK_below ST9.out.val HZZ.out, fun k hk => ⟨⟨HS.out.fresh (by omega), by omega⟩, by omega⟩, by omega⟩)
    have mixed : Tryz.prog.follows .mixedOrders = true := by kernel_rfl
    clear HWC HST HC9 HFN hxl hcl hxt
    go_wp2_with fail
    refine start_ (n := 12) (S := fun w' => w'.cell? ⟨p, 0, none⟩ = some (.int .u64 ver) ∧ w'.cell? ⟨g, 0, none⟩ = some (.int .i64 x.f0) ∧ w'.cell? ⟨g, 1, none⟩ = some (.slice Au x.f1.length cu)) (ds := [11]) #[xX, xX, xX, xX, xX, xX, xX, xX, xX, xX, xX, xX] (by kernel_rfl) rfl rfl ⟨hp0, z0, z1⟩ (fun hHeld => ?_)
    refine pU (i := 0) (N := (some 47)) (bA 12 1) (by kernel_rfl) rfl ?_
    refine pU (i := 1) (N := (some 48)) (bA 12 3) (by kernel_rfl) rfl ?_
    refine pU (i := 2) (N := (some 49)) (bA 12 7) (by kernel_rfl) rfl ?_
    refine pU (i := 3) (N := (some 50)) (bA 12 15) (by kernel_rfl) rfl ?_
    refine pU (i := 4) (N := (some 51)) (bA 12 31) (by kernel_rfl) rfl ?_
    refine pU (i := 6) (N := (some 53)) (bA 12 95) (by kernel_rfl) rfl ?_
    refine pU (i := 7) (N := (some 54)) (bA 12 223) (by kernel_rfl) rfl ?_
    refine tU (i := 5) (N := (some 52)) (bA 12 255) (by kernel_rfl) rfl hHeld (by (constructor; (rintro w' ⟨s0, s1, s2⟩; go_simp; (with_reducible rfl)); (simp only [Act.put, ua, ub, uc, ue, uf]; rfl))) ?_
    refine tU (i := 8) (N := (some 55)) (bA 12 511) (by kernel_rfl) rfl hHeld (by (constructor; (rintro w' ⟨s0, s1, s2⟩; go_simp; (with_reducible rfl)); (simp only [Act.put, ua, ub, uc, ue, uf]; rfl))) ?_
    refine one_ (i := 9) (N := (some 56)) (bA 12 1023) rfl rfl (by kernel_rfl) (by decide) (fun K hK => ?_)
    go_simp
    refine hK.out _ _ ⟨uy HZZ.out hp0, uy HZZ.out z0, uy HZZ.out z1⟩ (fun hHeld => ?_)
    clear hK K
    (try simp only [Act.put, ua, ub, uc, ue, uf])
    refine one_ (i := 10) (N := (some 57)) (bA 12 2047) rfl rfl (by kernel_rfl) (by decide) (fun K hK => ?_)
    refine goes_ Tryz.func77 (by kernel_rfl) rfl #[.slice A4 cs.length c4, .int .i64 (a1x x cs), .slice (some ⟨w9.heap.size, 0, none⟩) 1 1] (by rfl) rfl rfl (by (try simp only [ug, ul, uo]); first | done | rfl) ?_
    refine (b3x _ w.heap.size (fun k => (XSet.ok k ∧ k ≠ p) ∧ k ≠ g) A4 c4 (a1x x cs) w9.heap.size cs x (.slice Au x.f1.length cu) HPL.out HLEN.out HIN.out.1 HIN.out.2.1 HIN.out.2.2.1 HIN.out.2.2.2.1 HIN.out.2.2.2.2.1 HIN.out.2.2.2.2.2.1 HIN.out.2.2.2.2.2.2).mono ?_
    rintro y w10 ⟨v10, rfl, hn10, hg10⟩
    obtain ⟨A10, c10, rfl⟩ := Kd.N_slice hn10
    have HN10 := za hn10
    have HB10 := za (ST9.out.inserted HZZ.out hg10)
    have HX10 := za (ST9.out.boxed HZZ.out hg10)
    clear hn10 hg10
    have HS10 := za (HS.out.below HB10.out)
    refine ⟨_, rfl, ?_⟩
    refine hK.out _ _ ⟨HS10.out.cell0, (uq HX10.out 0).trans rfl, (uq HX10.out 1).trans rfl⟩ (fun hHeld => ?_)
    clear hK K
    refine vv (a' := ?_) ?_ ?_; rotate_left; (· (show Act.put _ (some 57) _ = _); (simp only [Act.put, ua, ub, uc, ue, uf]); rfl)
    refine last_ (i := 11) (N := (some 58)) (bA 12 4095) rfl rfl (by kernel_rfl) (by decide) (fun K hK => ?_)
    refine goes_ Tryz.func76 (by kernel_rfl) rfl #[.pointer (some ⟨p, 0, none⟩), .int .u64 ver, .slice A10 (a1b x cs).length c10] (by rfl) rfl rfl (by (try simp only [ug, ul, uo]); first | done | rfl) ?_
    refine (a8s base p ver _ bs (a1b x cs) A10 c10 _ HS10.out HV.out (Kd.F_mono (Kd.N_F HN10.out) (fun k hk => hk.1)) (Kd.N_reads' HN10.out).2.1 HPO.out.1 HPO.out.2.1 HPO.out.2.2).mono ?_
    rintro y w11 ⟨rfl, v11, hs11, hg11⟩
    have HE := za (show ShAt w11 base p (ver + 1) v11 (a1b x cs) ∧ w.grownBy w11 (some p) from ⟨hs11, a7p HB10.out hg11⟩)
    clear hs11 hg11
    refine ⟨_, rfl, ?_⟩
    refine hK.out _ _ ?_
    clear hK K
    refine vv (a' := ?_) ?_ ?_; rotate_left; (· (show Act.put _ (some 58) _ = _); (simp only [Act.put, ua, ub, uc, ue, uf]); rfl)
    refine done_ (by kernel_rfl) ?_
    go_wp2
    exact ⟨rfl, .tuple #[], by simp [results, Tryz.results38, go_sem], rfl, v11, by rw [HPF.out]; exact HE.out.1, HE.out.2⟩
@[reducible] def XO (who : Nat → Nat) (t n : Nat) : XSet := ⟨fun k => who k = t ∨ n ≤ k, n, fun _ hk => .inr hk⟩
def upO (who : Nat → Nat) (t n : Nat) (k : Nat) : Nat := if k < n then who k else t
theorem a0r {who : Nat → Nat} {t n k : Nat} (h : k < n) : upO who t n k = who k := if_pos h
theorem a1r {who : Nat → Nat} {t n k : Nat} (h : n ≤ k) : upO who t n k = t := if_neg (by omega)
def LsmO (who : Nat → Nat) (t : Nat) (w : World) (base p : Nat) (v : Value) (bs : List Bk) : Prop := @LsmAt (XO who t w.heap.size) w base p v bs ∧ who p = t
def ShO (who : Nat → Nat) (t : Nat) (w : World) (base p : Nat) (ver : Int) (v : Value) (bs : List Bk) : Prop := @ShAt (XO who t w.heap.size) w base p ver v bs ∧ who p = t
theorem LsmO.ownO {who : Nat → Nat} {t : Nat} {w : World} {base p : Nat} {v : Value} {bs : List Bk} (h : LsmO who t w base p v bs) : ∀ k, v.ownBlock = some k → who k = t ∧ k < w.heap.size := by
 intro k hk
 have h1 := (@LsmAt.own (XO who t w.heap.size) _ _ _ _ _ h.1 k hk).2.1
 rcases @LsmAt.ownX (XO who t w.heap.size) _ _ _ _ _ h.1 k hk with h2 | h2
 · exact ⟨h2, h1⟩
 · have h2 : w.heap.size ≤ k := h2
   omega
theorem LsmO.other {who : Nat → Nat} {s t : Nat} {w w1 : World} {base p : Nat} {v : Value} {bs : List Bk} (h : LsmO who t w base p v bs) (hs : w.heap.size ≤ w1.heap.size) (hb : ∀ k, k < w.heap.size → who k ≠ s → w1.heap[k]? = w.heap[k]?) (hne : t ≠ s) :
 LsmO (upO who s w.heap.size) t w1 base p v bs := by
 have hlt := @LsmAt.lt (XO who t w.heap.size) _ _ _ _ _ h.1
 refine ⟨?_, by rw [a0r hlt]; exact h.2⟩
 refine @LsmAt.mk (XO (upO who s w.heap.size) t w1.heap.size) _ _ _ _ _ ?_ ?_ ?_ (Nat.le_refl _)
 · rw [hb p hlt (by rw [h.2]; exact hne)]
   exact @LsmAt.hd (XO who t w.heap.size) _ _ _ _ _ h.1
 · refine Kd.N_mono (Kd.N_step (Kd.N_bound (@LsmAt.row (XO who t w.heap.size) _ _ _ _ _ h.1)) (fun k hk hlt => hb k hlt ?_)) (fun k hk => ?_)
   · rcases hk.1.1 with h1 | h1
     · rw [h1]; exact hne
     · have h1 : w.heap.size ≤ k := h1
       omega
   · rcases hk.1.1 with h1 | h1
     · exact ⟨.inl (by rw [a0r hk.2]; exact h1), hk.1.2⟩
     · have h1 : w.heap.size ≤ k := h1
       have := hk.2
       omega
 · exact @LsmAt.lo (XO who t w.heap.size) _ _ _ _ _ h.1
theorem LsmO.turnO {who : Nat → Nat} {t : Nat} {w w1 : World} {base p : Nat} {v v' : Value} {bs : List Bk} (h : LsmO who t w base p v bs) (ht : Turn w w1 p v v') : ∀ k, k < w.heap.size → who k ≠ t → w1.heap[k]? = w.heap[k]? := by
 intro k hk hne
 refine ht.block k hk (fun e => hne (by rw [e]; exact h.2)) (fun e => hne ?_)
 exact (h.ownO k e.symm).1
theorem LsmO.same {who : Nat → Nat} {t : Nat} {w w1 : World} {base p : Nat} {v v' : Value} {bs bs' : List Bk} (h : LsmO who t w base p v bs) (h1 : @LsmAt (XO who t w.heap.size) w1 base p v' bs') (ht : w.heap.size ≤ w1.heap.size) : LsmO (upO who t w.heap.size) t w1 base p v' bs' := by
 have hlt := @LsmAt.lt (XO who t w.heap.size) _ _ _ _ _ h.1
 refine ⟨?_, by rw [a0r hlt]; exact h.2⟩
 refine @LsmAt.mk (XO (upO who t w.heap.size) t w1.heap.size) _ _ _ _ _ (@LsmAt.hd (XO who t w.heap.size) _ _ _ _ _ h1) ?_ (@LsmAt.lo (XO who t w.heap.size) _ _ _ _ _ h1) (Nat.le_refl _)
 refine Kd.N_mono (@LsmAt.row (XO who t w.heap.size) _ _ _ _ _ h1) (fun k hk => ⟨.inl ?_, hk.2⟩)
 rcases hk.1 with h2 | h2
 · by_cases h3 : k < w.heap.size
   · rw [a0r h3]; exact h2
   · rw [a1r (by omega)]
 · exact a1r h2
theorem ShO.other {who : Nat → Nat} {s t : Nat} {w w1 : World} {base p : Nat} {ver : Int} {v : Value} {bs : List Bk} (h : ShO who t w base p ver v bs) (hs : w.heap.size ≤ w1.heap.size) (hb : ∀ k, k < w.heap.size → who k ≠ s → w1.heap[k]? = w.heap[k]?) (hne : t ≠ s) :
 ShO (upO who s w.heap.size) t w1 base p ver v bs := by
 have hlt := @ShAt.lt (XO who t w.heap.size) _ _ _ _ _ _ h.1
 refine ⟨?_, by rw [a0r hlt]; exact h.2⟩
 refine @ShAt.mk (XO (upO who s w.heap.size) t w1.heap.size) _ _ _ _ _ _ ?_ ?_ ?_ (Nat.le_refl _)
 · rw [hb p hlt (by rw [h.2]; exact hne)]
   exact @ShAt.hd (XO who t w.heap.size) _ _ _ _ _ _ h.1
 · refine Kd.V_mono (Kd.V_step (Kd.V_bound (@ShAt.row (XO who t w.heap.size) _ _ _ _ _ _ h.1)) (fun k hk hlt => hb k hlt ?_)) (fun k hk => ?_)
   · rcases hk.1.1 with h1 | h1
     · rw [h1]; exact hne
     · have h1 : w.heap.size ≤ k := h1
       omega
   · rcases hk.1.1 with h1 | h1
     · exact ⟨.inl (by rw [a0r hk.2]; exact h1), hk.1.2⟩
     · have h1 : w.heap.size ≤ k := h1
       have := hk.2
       omega
 · exact @ShAt.lo (XO who t w.heap.size) _ _ _ _ _ _ h.1
theorem ShO.same {who : Nat → Nat} {t : Nat} {w w1 : World} {base p : Nat} {ver ver' : Int} {v v' : Value} {bs bs' : List Bk} (h : ShO who t w base p ver v bs) (h1 : @ShAt (XO who t w.heap.size) w1 base p ver' v' bs') (ht : w.heap.size ≤ w1.heap.size) : ShO (upO who t w.heap.size) t w1 base p ver' v' bs' := by
 have hlt := @ShAt.lt (XO who t w.heap.size) _ _ _ _ _ _ h.1
 refine ⟨?_, by rw [a0r hlt]; exact h.2⟩
 refine @ShAt.mk (XO (upO who t w.heap.size) t w1.heap.size) _ _ _ _ _ _ (@ShAt.hd (XO who t w.heap.size) _ _ _ _ _ _ h1) ?_ (@ShAt.lo (XO who t w.heap.size) _ _ _ _ _ _ h1) (Nat.le_refl _)
 refine Kd.V_mono (@ShAt.row (XO who t w.heap.size) _ _ _ _ _ _ h1) (fun k hk => ⟨.inl ?_, hk.2⟩)
 rcases hk.1 with h2 | h2
 · by_cases h3 : k < w.heap.size
   · rw [a0r h3]; exact h2
   · rw [a1r (by omega)]
 · exact a1r h2
end Go.Proofs.YthghkglkifeagaaGreat.V
