-- a text of this work, without what this claim doesn't use (wip/shake.py)
import Derived.Test.YthghkglkifeagaaGreatKVT6
import Derived.Test.YthghkglkifeagaaGreatKVPentry1
import Derived.Test.YthghkglkifeagaaGreatKVShK0
import Derived.Test.YthghkglkifeagaaGreatKVQ11
import Derived.Test.YthghkglkifeagaaGreatKVP5T
import Derived.Test.YthghkglkifeagaaGreatKVPvergerref5
import Derived.Test.YthghkglkifeagaaGreatKVL6
import Derived.Test.YthghkglkifeagaaGreatKVLsm6
import Derived.Deep.CutBlock
section
set_option linter.unusedVariables false
set_option linter.unusedSimpArgs false
namespace Go.Proofs.YthghkglkifeagaaGreat.V
open Go.RowKit Go.Proofs.YthghkglkifeagaaGreatW.PrintWords Go.Proofs.YthghkglkifeagaaGreatW.PrintLast Go.Proofs.YthghkglkifeagaaGreatW.PrintMore
def entsQ (a : Qa) : List E := slotsE a ++ a.sh ++ a.loc.flatten
theorem slots_set : ∀ (S : List (Option E)) (t : Nat) (o : Option E), t < S.length → ((S.set t o).filterMap id).Perm (o.toList ++ (S.set t none).filterMap id) := by
 intro S
 induction S with
 | nil => intro t o h; simp at h
 | cons x r ih =>
  intro t o h
  cases t with
  | zero => cases o <;> simp
  | succ t =>
   have := ih t o (by simpa using h)
   cases x with
   | none => simpa using this
   | some e =>
    simp only [List.set_cons_succ, List.filterMap_cons, id]
    refine (this.cons e).trans ?_
    exact (List.perm_middle (a := e) (l₁ := o.toList)).symm
theorem slots_at (S : List (Option E)) (t : Nat) (o : Option E) (h : S[t]? = some o) : (S.filterMap id).Perm (o.toList ++ (S.set t none).filterMap id) := by
 obtain ⟨hlt, rfl⟩ := List.getElem?_eq_some_iff.1 h
 have := slots_set S t S[t] hlt
 rwa [List.set_getElem_self] at this
theorem flat_set : ∀ (l : List (List E)) (t : Nat) (x : List E), t < l.length → ((l.set t x).flatten).Perm (x ++ (l.set t []).flatten) := by
 intro l
 induction l with
 | nil => intro t x h; simp at h
 | cons a r ih =>
  intro t x h
  cases t with
  | zero => simp
  | succ t =>
   have := ih t x (by simpa using h)
   simp only [List.set_cons_succ, List.flatten_cons]
   refine (this.append_left a).trans ?_
   rw [← List.append_assoc, ← List.append_assoc]
   exact List.perm_append_comm.append_right _
theorem flat_at (l : List (List E)) (t : Nat) (h : t < l.length) : (l.flatten).Perm (l.getD t [] ++ (l.set t []).flatten) := by
 have := flat_set l t (l.getD t []) h
 rwa [set_same] at this
theorem ents_settle {a : Qa} (hl : a.S.length = a.loc.length) (t : Nat) : (entsQ (settleQ a t)).Perm (entsQ a) := by
 unfold settleQ
 cases hs : slotQ a t with
 | none => exact List.Perm.refl _
 | some e =>
  have hS : a.S[t]? = some (some e) := by
   unfold slotQ at hs
   cases hh : a.S[t]? with
   | none => rw [hh] at hs; simp at hs
   | some o => rw [hh] at hs; exact congrArg some hs
  have ht : t < a.loc.length := by rw [← hl]; exact (List.getElem?_eq_some_iff.1 hS).1
  have p1 := slots_at a.S t _ hS
  have p2 := flat_at a.loc t ht
  show (entsQ (settleA a t e)).Perm (entsQ a)
  unfold settleA
  have goal0 : (entsQ a).Perm ((a.S.set t none).filterMap id ++ a.sh ++ (e :: (a.loc.getD t [] ++ (a.loc.set t []).flatten))) := by
   unfold entsQ slotsE
   refine ((p1.append_right a.sh).append p2).trans ?_
   show (e :: ((a.S.set t none).filterMap id ++ a.sh ++ (a.loc.getD t [] ++ (a.loc.set t []).flatten))).Perm _
   exact List.perm_middle.symm
  refine List.Perm.trans ?_ goal0.symm
  by_cases hk : (a.loc.getD t []).length + 1 ≤ a.k
  · rw [if_pos hk]
    show ((a.S.set t none).filterMap id ++ a.sh ++ (a.loc.set t (sortE (e :: a.loc.getD t []))).flatten).Perm _
    refine List.Perm.append_left _ ?_
    refine (flat_set a.loc t _ ht).trans ?_
    exact (sortE_perm _).append_right _
  · rw [if_neg hk]
    show ((a.S.set t none).filterMap id ++ sortE (sortE (e :: a.loc.getD t []) ++ a.sh) ++ (a.loc.set t []).flatten).Perm _
    have q1 : (sortE (sortE (e :: a.loc.getD t []) ++ a.sh)).Perm (a.sh ++ (e :: a.loc.getD t [])) := (sortE_perm _).trans (((sortE_perm _).append_right _).trans List.perm_append_comm)
    refine ((q1.append_left _).append_right _).trans ?_
    rw [← List.append_assoc, List.append_assoc _ (e :: a.loc.getD t [])]
    exact List.Perm.refl _
theorem settle_slot {a : Qa} (t : Nat) : slotQ (settleQ a t) t = none ∨ (slotQ a t = none ∧ settleQ a t = a) := by
 unfold settleQ
 cases hs : slotQ a t with
 | none => exact .inr ⟨rfl, rfl⟩
 | some e =>
  left
  show slotQ (settleA a t e) t = none
  unfold settleA slotQ
  split <;> (rw [List.getElem?_set]; simp; split <;> rfl)
theorem slot_none_set {S : List (Option E)} {t : Nat} (h : (S[t]?).getD none = none) : S.set t none = S := by
 refine List.ext_getElem? fun i => ?_
 rw [List.getElem?_set]
 by_cases hi : t = i
 · subst hi
   rw [if_pos rfl]
   by_cases hl : t < S.length
   · rw [if_pos hl, List.getElem?_eq_getElem hl] at *
     simp only [Option.getD_some] at h
     rw [h]
   · rw [if_neg hl, List.getElem?_eq_none (by omega)]
 · rw [if_neg hi]
theorem ents_put {a : Qa} (hl : a.S.length = a.loc.length) (t : Nat) (ht : t < a.loc.length) (e : E) : (entsQ (putQ a t e)).Perm (e :: entsQ a) := by
 obtain ⟨s1, s2, s3⟩ := settleQ_S a t
 have hn : slotQ (settleQ a t) t = none := by
  rcases settle_slot (a := a) t with h | ⟨h, h2⟩
  · exact h
  · rw [h2]; exact h
 have h1 : ((settleQ a t).S.set t (some e)).filterMap id |>.Perm (e :: (settleQ a t).S.filterMap id) := by
  have := slots_set (settleQ a t).S t (some e) (by omega)
  rw [slot_none_set hn] at this
  exact this
 show (((settleQ a t).S.set t (some e)).filterMap id ++ (settleQ a t).sh ++ (settleQ a t).loc.flatten).Perm _
 refine ((h1.append_right _).append_right _).trans ?_
 exact (ents_settle hl t).cons e
theorem put_len (a : Qa) (t : Nat) (e : E) : (putQ a t e).S.length = a.S.length ∧ (putQ a t e).loc.length = a.loc.length ∧ (putQ a t e).k = a.k := by
 obtain ⟨s1, s2, s3⟩ := settleQ_S a t
 exact ⟨by show ((settleQ a t).S.set t (some e)).length = _; rw [List.length_set]; exact s1, s2, s3⟩
def contQ (a : Qa) (p : Nat × Nat) : List E := if p.1 = 1 then (slotQ a p.2).toList else if p.1 = 2 then a.loc.getD p.2 [] else a.sh
theorem hit_cont (a : Qa) (id : Int) (p : Nat × Nat) : hitQ a id p = (contQ a p).any (isId id) := by
 unfold hitQ contQ
 by_cases h1 : p.1 = 1
 · rw [if_pos h1, if_pos h1]
   cases slotQ a p.2 <;> simp [hasO]
 · rw [if_neg h1, if_neg h1]
   by_cases h2 : p.1 = 2
   · rw [if_pos h2, if_pos h2]
   · rw [if_neg h2, if_neg h2]
theorem slots_flat (S : List (Option E)) : S.filterMap id = ((List.range S.length).map fun t => ((S[t]?).getD none).toList).flatten := by
 induction S with
 | nil => rfl
 | cons x r ih =>
  rw [List.length_cons, List.range_succ_eq_map, List.map_cons, List.map_map, List.flatten_cons]
  cases x with
  | none => rw [List.filterMap_cons_none rfl, ih]; rfl
  | some e =>
   show e :: r.filterMap id = e :: _
   rw [ih]; rfl
theorem locs_flat (l : List (List E)) : l.flatten = ((List.range l.length).map fun t => l.getD t []).flatten := by
 congr 1
 refine List.ext_getElem? fun i => ?_
 rw [List.getElem?_map]
 by_cases h : i < l.length
 · rw [List.getElem?_range h, List.getElem?_eq_getElem h]
   simp [List.getD_eq_getElem?_getD, List.getElem?_eq_getElem h]
 · rw [List.getElem?_eq_none (by omega), List.getElem?_eq_none (by rw [List.length_range]; omega)]; rfl
def entsP (a : Qa) (T : Nat) : List E := (placesQ T).flatMap (contQ a)
theorem ents_places {a : Qa} {T : Nat} (h1 : a.S.length = T) (h2 : a.loc.length = T) : (entsP a T).Perm (entsQ a) := by
 unfold entsP placesQ entsQ
 rw [List.flatMap_append, List.flatMap_append]
 have e1 : (plRow 1 T).flatMap (contQ a) = slotsE a := by
  unfold plRow slotsE
  rw [slots_flat a.S, h1, List.flatMap_map]
  rfl
 have e2 : (plRow 2 T).flatMap (contQ a) = a.loc.flatten := by
  unfold plRow
  rw [locs_flat a.loc, h2, List.flatMap_map]
  rfl
 have e3 : ([(3, 0)] : List (Nat × Nat)).flatMap (contQ a) = a.sh := by simp [contQ]
 rw [e1, e2, e3, List.append_assoc, List.append_assoc]
 exact List.Perm.append_left _ List.perm_append_comm
theorem out_cont {a : Qa} {id : Int} {p : Nat × Nat} {T : Nat} (h1 : a.S.length = T) (h2 : a.loc.length = T) (hp : p ∈ placesQ T) (hh : hitQ a id p = true) (q : Nat × Nat) (hq : q ∈ placesQ T) :
 contQ (outQ a id p) q = if q = p then others id (contQ a p) else contQ a q := by
 obtain ⟨pf1, pf2⟩ := place_few hp
 have cls : ∀ r ∈ placesQ T, r.1 = 1 ∨ r.1 = 2 ∨ r = (3, 0) := by
  intro r hr
  unfold placesQ at hr
  rcases List.mem_append.1 hr with hr | hr
  · rcases List.mem_append.1 hr with hr | hr
    · exact .inl (plRow_mem hr).1
    · exact .inr (.inl (plRow_mem hr).1)
  · exact .inr (.inr (List.mem_singleton.1 hr))
 obtain ⟨p0, p1⟩ := p
 obtain ⟨q0, q1⟩ := q
 rcases cls _ hp with e | e | e
 · have e : p0 = 1 := e
   subst e
   have hs : slotQ (outQ a id (1, p1)) q1 = if q1 = p1 then none else slotQ a q1 := by
    show ((a.S.set p1 none)[q1]?).getD none = _
    rw [List.getElem?_set]
    by_cases hqp : p1 = q1
    · subst hqp
      rw [if_pos rfl, if_pos rfl, if_pos (by have := pf1 rfl; omega)]; rfl
    · rw [if_neg hqp, if_neg (fun h => hqp h.symm)]; rfl
   have hx : others id (contQ a (1, p1)) = [] := by
    have h3 : hasO id (slotQ a p1) = true := hh
    show others id (slotQ a p1).toList = []
    cases hso : slotQ a p1 with
    | none => rfl
    | some x =>
     rw [hso] at h3
     show [x].filter (fun e => !isId id e) = []
     rw [List.filter_cons_of_neg (by rw [show isId id x = true from h3]; simp)]; rfl
   rcases cls _ hq with e | e | e
   · have e : q0 = 1 := e
     subst e
     show (slotQ (outQ a id (1, p1)) q1).toList = _
     rw [hs]
     by_cases hqp : q1 = p1
     · subst hqp
       rw [if_pos rfl, if_pos rfl, hx]; rfl
     · rw [if_neg hqp, if_neg (fun h => hqp (congrArg Prod.snd h))]; rfl
   · have e : q0 = 2 := e
     subst e
     rw [if_neg (fun h => by have := congrArg Prod.fst h; simp at this)]; rfl
   · rw [e, if_neg (fun h => by have := congrArg Prod.fst h; simp at this)]; rfl
 · have e : p0 = 2 := e
   subst e
   have hs : (outQ a id (2, p1)).loc.getD q1 [] = if q1 = p1 then others id (a.loc.getD p1 []) else a.loc.getD q1 [] := by
    show (a.loc.set p1 (others id (a.loc.getD p1 []))).getD q1 [] = _
    rw [List.getD_eq_getElem?_getD, List.getElem?_set]
    by_cases hqp : p1 = q1
    · subst hqp
      rw [if_pos rfl, if_pos rfl, if_pos (by have := pf2 rfl; omega)]; rfl
    · rw [if_neg hqp, if_neg (fun h => hqp h.symm), List.getD_eq_getElem?_getD]
   rcases cls _ hq with e | e | e
   · have e : q0 = 1 := e
     subst e
     rw [if_neg (fun h => by have := congrArg Prod.fst h; simp at this)]; rfl
   · have e : q0 = 2 := e
     subst e
     show (outQ a id (2, p1)).loc.getD q1 [] = _
     rw [hs]
     by_cases hqp : q1 = p1
     · subst hqp
       rw [if_pos rfl, if_pos rfl]; rfl
     · rw [if_neg hqp, if_neg (fun h => hqp (congrArg Prod.snd h))]; rfl
   · rw [e, if_neg (fun h => by have := congrArg Prod.fst h; simp at this)]; rfl
 · rw [e]
   rcases cls _ hq with e | e | e
   · have e : q0 = 1 := e
     subst e
     rw [if_neg (fun h => by have := congrArg Prod.fst h; simp at this)]; rfl
   · have e : q0 = 2 := e
     subst e
     rw [if_neg (fun h => by have := congrArg Prod.fst h; simp at this)]; rfl
   · rw [e, if_pos rfl]; rfl
theorem places_nodup (T : Nat) : (placesQ T).Nodup := by
 unfold placesQ plRow
 have h1 : ∀ c : Nat, ((List.range T).map fun t => (c, t)).Nodup := fun c => by
  exact List.pairwise_map.2 (List.nodup_range.imp (fun h e => h (congrArg Prod.snd e)))
 rw [List.nodup_append]
 refine ⟨?_, by simp, ?_⟩
 · rw [List.nodup_append]
   refine ⟨h1 1, h1 2, ?_⟩
   intro x hx y hy e
   obtain ⟨s, _, rfl⟩ := List.mem_map.1 hx
   obtain ⟨t, _, rfl⟩ := List.mem_map.1 hy
   have := congrArg Prod.fst e
   simp at this
 · intro x hx y hy e
   rw [List.mem_singleton.1 hy] at e
   rcases List.mem_append.1 hx with hx | hx <;> (obtain ⟨t, _, rfl⟩ := List.mem_map.1 hx; have := congrArg Prod.fst e; simp at this)
theorem flat_out {f f' : Nat × Nat → List E} {id : Int} {p : Nat × Nat} : ∀ {l : List (Nat × Nat)}, l.Nodup → p ∈ l → Unlike (l.flatMap f) → (f p).any (isId id) = true → (∀ q ∈ l, f' q = if q = p then others id (f p) else f q) → l.flatMap f' = others id (l.flatMap f) := by
 intro l hnd hp hu hh hf
 have h0 : ∀ q ∈ l, q ≠ p → others id (f q) = f q := by
  intro q hq hne
  refine others_none ?_
  rw [List.any_eq_false]
  intro x hx hid
  obtain ⟨y, hy, hyi⟩ := List.any_eq_true.1 hh
  obtain ⟨l1, l2, rfl⟩ := List.append_of_mem hp
  unfold Unlike at hu
  rw [List.flatMap_append, List.flatMap_cons, List.map_append, List.map_append] at hu
  rw [List.nodup_append] at hu
  obtain ⟨_, hu2, hu3⟩ := hu
  rw [List.nodup_append] at hu2
  have hxy : x.f1 = y.f1 := by rw [isId_true.1 (by simpa using hid), isId_true.1 hyi]
  have hyb : y.f1 ∈ (f p).map fun e => e.f1 := List.mem_map_of_mem hy
  rcases List.mem_append.1 hq with h | h
  · exact hu3 x.f1 (List.mem_map_of_mem (List.mem_flatMap.2 ⟨q, h, hx⟩)) y.f1 (List.mem_append_left _ hyb) hxy
  · rcases List.mem_cons.1 h with h | h
    · exact hne h
    · exact hu2.2.2 y.f1 hyb x.f1 (List.mem_map_of_mem (List.mem_flatMap.2 ⟨q, h, hx⟩)) hxy.symm
 have h2 : ∀ m : List (Nat × Nat), (∀ q ∈ m, f' q = others id (f q)) → m.flatMap f' = others id (m.flatMap f) := by
  intro m
  induction m with
  | nil => intro _; rfl
  | cons a r ih =>
   intro hm
   rw [List.flatMap_cons, List.flatMap_cons, hm a List.mem_cons_self, ih (fun q hq => hm q (List.mem_cons_of_mem _ hq))]
   unfold others
   rw [List.filter_append]
 refine h2 l fun q hq => ?_
 rw [hf q hq]
 by_cases h : q = p
 · rw [if_pos h, h]
 · rw [if_neg h, h0 q hq h]
theorem unlike_parts {a : Qa} (h : Unlike (entsQ a)) : Unlike a.sh ∧ ∀ t, Unlike (a.loc.getD t []) := by
 unfold entsQ at h
 refine ⟨h.sub ((List.sublist_append_right _ _).trans (List.sublist_append_left _ _)), fun t => ?_⟩
 by_cases ht : t < a.loc.length
 · refine Unlike.sub ((h.sub (List.sublist_append_right _ _)).perm (flat_at a.loc t ht)) (List.sublist_append_left _ _)
 · rw [List.getD_eq_getElem?_getD, List.getElem?_eq_none (by omega)]
   exact List.nodup_nil
theorem ents_take {a : Qa} (hl : a.S.length = a.loc.length) (hu : Unlike (entsQ a)) (id : Int) :
 (takeQ a id).1 = (entsQ a).any (isId id) ∧ (entsQ (takeQ a id).2).Perm (others id (entsQ a)) ∧ (takeQ a id).2.S.length = a.S.length ∧ (takeQ a id).2.loc.length = a.loc.length ∧ (takeQ a id).2.k = a.k := by
 have hpm := ents_places (T := a.loc.length) hl rfl
 unfold takeQ
 cases hf : (placesQ a.loc.length).find? (hitQ a id) with
 | none =>
  have hno : (entsQ a).any (isId id) = false := by
   rw [← any_perm hpm, List.any_eq_false]
   intro x hx
   obtain ⟨p, hp, hxp⟩ := List.mem_flatMap.1 hx
   have h1 := List.find?_eq_none.1 hf p hp
   rw [hit_cont] at h1
   intro h2
   exact h1 (List.any_eq_true.2 ⟨x, hxp, h2⟩)
  refine ⟨hno.symm, ?_, rfl, rfl, rfl⟩
  rw [others_none hno]
 | some p =>
  have hp := List.mem_of_find?_eq_some hf
  have hh := List.find?_some hf
  have hlen : (outQ a id p).S.length = a.S.length ∧ (outQ a id p).loc.length = a.loc.length ∧ (outQ a id p).k = a.k := by
   unfold outQ
   split
   · exact ⟨List.length_set, rfl, rfl⟩
   · split
     · exact ⟨rfl, List.length_set, rfl⟩
     · exact ⟨rfl, rfl, rfl⟩
  have hup : Unlike (entsP a a.loc.length) := hu.perm hpm.symm
  have he : entsP (outQ a id p) a.loc.length = others id (entsP a a.loc.length) :=
   flat_out (places_nodup _) hp hup (by rw [← hit_cont]; exact hh) (fun q hq => out_cont hl rfl hp hh q hq)
  refine ⟨?_, ?_, hlen⟩
  · show true = _
    symm
    rw [← any_perm hpm, List.any_eq_true]
    rw [hit_cont] at hh
    obtain ⟨x, hx, hxi⟩ := List.any_eq_true.1 hh
    exact ⟨x, List.mem_flatMap.2 ⟨p, hp, hx⟩, hxi⟩
  · have hp2 := ents_places (a := outQ a id p) (T := a.loc.length) (by rw [hlen.1]; exact hl) hlen.2.1
    refine hp2.symm.trans ?_
    rw [he]
    exact others_perm hpm
theorem others_unlike {id : Int} {l : List E} (h : Unlike l) : Unlike (others id l) := h.sub List.filter_sublist
end Go.Proofs.YthghkglkifeagaaGreat.V
end
section
set_option linter.unusedVariables false
set_option linter.unusedSimpArgs false
namespace Go.Proofs.YthghkglkifeagaaGreat.V
open Go.RowKit Go.Proofs.YthghkglkifeagaaGreatW.PrintWords Go.Proofs.YthghkglkifeagaaGreatW.PrintLast Go.Proofs.YthghkglkifeagaaGreatW.PrintMore
theorem mod_next (m c : Nat) (hc : 0 < c) : (m + 1) % c = if m % c + 1 = c then 0 else m % c + 1 := by
 have h1 := Nat.div_add_mod m c
 have h2 := Nat.mod_lt m hc
 have h3 : (m + 1) % c = (m % c + 1) % c := by
  conv => lhs; rw [← h1, Nat.add_assoc, Nat.mul_add_mod]
 rw [h3]
 by_cases h : m % c + 1 = c
 · rw [if_pos h, h, Nat.mod_self]
 · rw [if_neg h, Nat.mod_eq_of_lt (by omega)]
theorem put_empty {a : Qa} {sr : List (Option E)} (hS : a.S = none :: sr) (e : E) : putQ a 0 e = ⟨a.k, some e :: sr, a.loc, a.sh⟩ := by
 have : slotQ a 0 = none := by unfold slotQ; rw [hS]; rfl
 unfold putQ
 rw [settle_none this, hS]
 rfl
theorem settle_zero {a : Qa} {e : E} {l0 : List E} {rest : List (List E)} {sr : List (Option E)} (hS : a.S = some e :: sr) (hl : a.loc = l0 :: rest) :
 settleQ a 0 = if l0.length + 1 ≤ a.k then ⟨a.k, none :: sr, sortE (e :: l0) :: rest, a.sh⟩ else ⟨a.k, none :: sr, [] :: rest, sortE (sortE (e :: l0) ++ a.sh)⟩ := by
 have h1 : slotQ a 0 = some e := by unfold slotQ; rw [hS]; rfl
 unfold settleQ
 rw [h1]
 unfold settleA
 rw [hS, hl]
 rfl
structure Spill (a : Qa) (k m : Nat) (o : Option E) (sr : List (Option E)) (rest : List (List E)) : Prop where
  k_ : a.k = k
  S : a.S = o :: sr
  loc : ∃ l0, a.loc = l0 :: rest ∧ l0.length = m % (k + 1)
  sh : a.sh.length = m - m % (k + 1)
theorem Spill.settle {a : Qa} {k m : Nat} {e : E} {sr : List (Option E)} {rest : List (List E)} (h : Spill a k m (some e) sr rest) : Spill (settleQ a 0) k (m + 1) none sr rest := by
 obtain ⟨l0, hl, h0⟩ := h.loc
 have hs := h.sh
 have hk := h.k_
 have hm := mod_next m (k + 1) (by omega)
 have hle := Nat.mod_le m (k + 1)
 have hlt := Nat.mod_lt m (show 0 < k + 1 by omega)
 rw [settle_zero h.S hl]
 by_cases hc : l0.length + 1 ≤ a.k
 · rw [if_pos hc]
   rw [if_neg (by omega)] at hm
   exact ⟨hk, rfl, ⟨_, rfl, by rw [sortE_length, List.length_cons, hm, h0]⟩, by show a.sh.length = _; omega⟩
 · rw [if_neg hc]
   rw [if_pos (by omega)] at hm
   exact ⟨hk, rfl, ⟨_, rfl, by rw [hm]; rfl⟩, by show (sortE (sortE (e :: l0) ++ a.sh)).length = _; rw [sortE_length, List.length_append, sortE_length, List.length_cons]; omega⟩
theorem Spill.put {a : Qa} {k m : Nat} {sr : List (Option E)} {rest : List (List E)} (h : Spill a k m none sr rest) (e : E) : Spill (putQ a 0 e) k m (some e) sr rest := by
 rw [put_empty h.S]
 exact ⟨h.k_, rfl, h.loc, h.sh⟩
theorem Spill.new (n k : Nat) : Spill (newA (n + 1) k) k 0 none (List.replicate n none) (List.replicate n []) := ⟨rfl, rfl, ⟨[], rfl, by simp⟩, by simp [newA]⟩
end Go.Proofs.YthghkglkifeagaaGreat.V
end
section
set_option linter.unusedVariables false
set_option linter.unusedSimpArgs false
namespace Go.Proofs.YthghkglkifeagaaGreat.V
open Go.RowKit Go.Proofs.YthghkglkifeagaaGreatW.PrintWords Go.Proofs.YthghkglkifeagaaGreatW.PrintLast Go.Proofs.YthghkglkifeagaaGreatW.PrintMore
structure NearP (a : Qa) (T k i : Nat) : Prop where
  k_ : a.k = k
  S : a.S.length = T
  loc : a.loc.length = T
  un : Unlike (entsQ a)
  ids : ∀ x ∈ entsQ a, x.f1 ≤ (i : Int)
  few : ∀ t, (a.loc.getD t []).length ≤ k
theorem getD_set (l : List (List E)) (t j : Nat) (x : List E) : (l.set t x).getD j [] = if t = j ∧ t < l.length then x else l.getD j [] := by
 rw [List.getD_eq_getElem?_getD, List.getElem?_set]
 by_cases h : t = j
 · subst h
   rw [if_pos rfl]
   by_cases h2 : t < l.length
   · rw [if_pos h2, if_pos ⟨rfl, h2⟩]; rfl
   · rw [if_neg h2, if_neg (fun hh => h2 hh.2), List.getD_eq_getElem?_getD, List.getElem?_eq_none (by omega)]
 · rw [if_neg h, if_neg (fun hh => h hh.1), List.getD_eq_getElem?_getD]
theorem few_settle {a : Qa} {k : Nat} (hk : a.k = k) (h : ∀ t, (a.loc.getD t []).length ≤ k) (t j : Nat) : ((settleQ a t).loc.getD j []).length ≤ k := by
 unfold settleQ
 split
 · unfold settleA
   split
   · rename_i hc
     show ((a.loc.set t _).getD j []).length ≤ k
     rw [getD_set]
     split
     · rw [sortE_length, List.length_cons]; omega
     · exact h j
   · show ((a.loc.set t []).getD j []).length ≤ k
     rw [getD_set]
     split
     · simp
     · exact h j
 · exact h j
theorem ents_new (n k : Nat) : entsQ (newA n k) = [] := by
 have h0 : slotsE (newA n k) = [] := by
  unfold slotsE newA
  show (List.replicate n (none : Option E)).filterMap id = []
  induction n with
  | zero => rfl
  | succ z ih => rw [List.replicate_succ, List.filterMap_cons_none rfl, ih]
 have h1 : (newA n k).loc.flatten = [] := by
  show (List.replicate n ([] : List E)).flatten = []
  simp
 unfold entsQ
 rw [h0, h1]; rfl
namespace NearP
variable {a : Qa} {T k i : Nat}
theorem new (n k : Nat) : NearP (newA n k) n k 0 := by
 have he := ents_new n k
 refine ⟨rfl, List.length_replicate, List.length_replicate, by rw [he]; exact List.nodup_nil, by rw [he]; simp, fun t => ?_⟩
 show ((List.replicate n ([] : List E)).getD t []).length ≤ k
 rw [List.getD_eq_getElem?_getD, List.getElem?_replicate]
 split <;> simp
theorem hl (h : NearP a T k i) : a.S.length = a.loc.length := by rw [h.S, h.loc]
theorem mono (h : NearP a T k i) {j : Nat} (hj : i ≤ j) : NearP a T k j := ⟨h.k_, h.S, h.loc, h.un, fun x hx => by have := h.ids x hx; omega, h.few⟩
theorem settle (h : NearP a T k i) (t : Nat) : NearP (settleQ a t) T k i := by
 obtain ⟨s1, s2, s3⟩ := settleQ_S a t
 have hp := ents_settle h.hl t
 exact ⟨by rw [s3]; exact h.k_, by rw [s1]; exact h.S, by rw [s2]; exact h.loc, h.un.perm hp.symm, fun x hx => h.ids x (hp.mem_iff.1 hx), few_settle h.k_ h.few t⟩
theorem put (h : NearP a T k i) {t : Nat} (ht : t < T) {e : E} (he : e.f1 = (i : Int) + 1) : NearP (putQ a t e) T k (i + 1) := by
 obtain ⟨s1, s2, s3⟩ := put_len a t e
 have hp := ents_put h.hl t (by rw [h.loc]; exact ht) e
 have hs := h.settle t
 refine ⟨by rw [s3]; exact h.k_, by rw [s1]; exact h.S, by rw [s2]; exact h.loc, Unlike.perm ?_ hp.symm, fun x hx => ?_, hs.few⟩
 · unfold Unlike
   rw [List.map_cons, List.nodup_cons]
   refine ⟨fun hm => ?_, h.un⟩
   obtain ⟨y, hy, e1⟩ := List.mem_map.1 hm
   have := h.ids y hy
   omega
 · rcases List.mem_cons.1 (hp.mem_iff.1 hx) with rfl | h2
   · omega
   · have := h.ids x h2
     omega
theorem take (h : NearP a T k i) (id : Int) : NearP (takeQ a id).2 T k i := by
 obtain ⟨_, hp, s1, s2, s3⟩ := ents_take h.hl h.un id
 refine ⟨by rw [s3]; exact h.k_, by rw [s1]; exact h.S, by rw [s2]; exact h.loc, (others_unlike h.un).perm hp.symm, fun x hx => h.ids x (List.mem_filter.1 (hp.mem_iff.1 hx)).1, fun t => ?_⟩
 unfold takeQ
 split
 · rename_i p _
   show ((outQ a id p).loc.getD t []).length ≤ k
   unfold outQ
   split
   · exact h.few t
   · split
     · show ((a.loc.set p.2 (others id (a.loc.getD p.2 []))).getD t []).length ≤ k
       rw [getD_set]
       split
       · exact Nat.le_trans (others_le _ _) (h.few _)
       · exact h.few t
     · exact h.few t
 · exact h.few t
end NearP
end Go.Proofs.YthghkglkifeagaaGreat.V
end
section
set_option linter.unusedVariables false
set_option linter.unusedSimpArgs false
namespace Go.Proofs.YthghkglkifeagaaGreat.V
open Go.RowKit Go.Proofs.YthghkglkifeagaaGreatW.PrintWords Go.Proofs.YthghkglkifeagaaGreatW.PrintLast Go.Proofs.YthghkglkifeagaaGreatW.PrintMore
theorem and_maskL (x : Int) (m : Nat) (hm : m < 4611686018427387904) : 0 ≤ Go.bits .and .i64 x (m : Int) ∧ Go.bits .and .i64 x (m : Int) ≤ (m : Int) := by
 have h2 : (BitVec.ofInt 64 (m : Int)).toNat = m := by
  rw [BitVec.ofInt_natCast, BitVec.toNat_ofNat]; exact Nat.mod_eq_of_lt (by omega)
 have h3 : ((BitVec.ofInt 64 x) &&& (BitVec.ofInt 64 (m : Int))).toNat ≤ m := by
  rw [BitVec.toNat_and, h2]
  exact Nat.and_le_right
 show 0 ≤ IntKind.i64.wrap ((BitVec.ofInt 64 x &&& BitVec.ofInt 64 (m : Int)).toNat : Int) ∧ IntKind.i64.wrap ((BitVec.ofInt 64 x &&& BitVec.ofInt 64 (m : Int)).toNat : Int) ≤ _
 rw [i64_w]
 unfold wrap64
 omega
end Go.Proofs.YthghkglkifeagaaGreat.V
end
section
set_option linter.unusedVariables false
set_option linter.unusedSimpArgs false
namespace Go.Proofs.YthghkglkifeagaaGreat.V
open Go.RowKit Go.Proofs.YthghkglkifeagaaGreatW.PrintWords Go.Proofs.YthghkglkifeagaaGreatW.PrintLast Go.Proofs.YthghkglkifeagaaGreatW.PrintMore
theorem q_newY (z k : Nat) (w : World) (h1 : z ≤ 7) (hk : k ≤ 16) :
 Calls Tryz.prog 7 #[.int .i64 ((z : Int) + 1), .int .i64 k] w fun e w' => ∃ pq, e = .returned (.tuple #[.pointer (some ⟨pq, 0, none⟩), .int .i64 0]) ∧ QOk w w' pq (newA (z + 1) k) 0 [] := by
 have := q_new (z + 1) k w (by omega) (by omega) hk
 rwa [show ((z + 1 : Nat) : Int) = (z : Int) + 1 from by push_cast; rfl] at this
theorem op10_at {w wr : World} {A : Option Addr} {l : List S30} (h : k30.C w A l.length l) (hb : Below w.heap.size w wr) {i : Nat} {o : S30} (ho : l[i]? = some o) :
 ∃ ad, A = some ad ∧ wr.cell? (ad.add (i * 5)) = some (.int .i64 o.f0) ∧ wr.cell? ⟨(ad.add (i * 5)).block, (ad.add (i * 5)).off + 1, none⟩ = some (.int .i64 o.f1) ∧ wr.cell? ⟨(ad.add (i * 5)).block, (ad.add (i * 5)).off + 2, none⟩ = some (.int .i64 o.f2) ∧ wr.cell? ⟨(ad.add (i * 5)).block, (ad.add (i * 5)).off + 3, none⟩ = some (.int .u64 o.f3) ∧ wr.cell? ⟨(ad.add (i * 5)).block, (ad.add (i * 5)).off + 4, none⟩ = some (.int .u64 o.f4) := by
 have hlt := (List.getElem?_eq_some_iff.1 ho).1
 obtain ⟨ad, e1, h0, h1, h2, h3, h4⟩ := at_T30 h (i : Int) (by omega) (by omega)
 have hr : rd_T30 l (i : Int) = o := by unfold rd_T30; rw [Int.toNat_natCast, List.getD_eq_getElem?_getD, ho]; rfl
 rw [Int.toNat_natCast, hr] at h0 h1 h2 h3 h4
 exact ⟨ad, e1, pw_cell_below hb h0, pw_cell_below hb h1, pw_cell_below hb h2, pw_cell_below hb h3, pw_cell_below hb h4⟩
end Go.Proofs.YthghkglkifeagaaGreat.V
end
section
set_option linter.unusedVariables false
set_option linter.unusedSimpArgs false
namespace Go.Proofs.YthghkglkifeagaaGreat.V
open Go.RowKit Go.Proofs.YthghkglkifeagaaGreatW.PrintWords Go.Proofs.YthghkglkifeagaaGreatW.PrintLast Go.Proofs.YthghkglkifeagaaGreatW.PrintMore
structure KpQ (a : Qa) (T k i : Nat) (L : List Bool) (ns : Nat) : Prop where
  near : NearP a T k i
  len : L.length = 61
  th : ∀ j : Nat, L.getD j false = (entsQ a).any (isId (j : Int))
  pos : ∀ x ∈ entsQ a, 1 ≤ x.f1
  cnt : (entsQ a).length = ns
theorem getD_setB (L : List Bool) (t j : Nat) (b : Bool) : (L.set t b).getD j false = if t = j ∧ t < L.length then b else L.getD j false := by
 rw [List.getD_eq_getElem?_getD, List.getElem?_set]
 by_cases h : t = j
 · subst h
   rw [if_pos rfl]
   by_cases h2 : t < L.length
   · rw [if_pos h2, if_pos ⟨rfl, h2⟩]; rfl
   · rw [if_neg h2, if_neg (fun hh => h2 hh.2), List.getD_eq_getElem?_getD, List.getElem?_eq_none (by omega)]
 · rw [if_neg h, if_neg (fun hh => h hh.1), List.getD_eq_getElem?_getD]
namespace KpQ
variable {a : Qa} {T k i ns : Nat} {L : List Bool}
theorem new (n k : Nat) : KpQ (newA n k) n k 0 (List.replicate 61 false) 0 := by
 have he := ents_new n k
 refine ⟨NearP.new n k, by simp, fun j => ?_, by rw [he]; simp, by rw [he]; rfl⟩
 rw [he, List.getD_eq_getElem?_getD, List.getElem?_replicate]
 split <;> rfl
theorem put (h : KpQ a T k i L ns) {t : Nat} (ht : t < T) (hi : i < 60) {e : E} (he : e.f1 = (i : Int) + 1) : KpQ (putQ a t e) T k (i + 1) (L.set (i + 1) true) (ns + 1) := by
 have hp := ents_put h.near.hl t (by rw [h.near.loc]; exact ht) e
 refine ⟨h.near.put ht he, by rw [List.length_set]; exact h.len, fun j => ?_, fun x hx => ?_, by rw [hp.length_eq, List.length_cons, h.cnt]⟩
 · rw [any_perm hp, List.any_cons, getD_setB, h.len, h.th]
   by_cases hj : i + 1 = j
   · subst hj
     rw [if_pos ⟨rfl, by omega⟩, isId_true.2 (by rw [he]; push_cast; rfl)]
     rfl
   · rw [if_neg (fun hh => hj hh.1), isId_false.2 (by rw [he]; omega)]
     rfl
 · rcases List.mem_cons.1 (hp.mem_iff.1 hx) with rfl | h2
   · omega
   · exact h.pos x h2
theorem settle (h : KpQ a T k i L ns) (t : Nat) : KpQ (settleQ a t) T k (i + 1) L ns := by
 have hp := ents_settle h.near.hl t
 exact ⟨(h.near.settle t).mono (by omega), h.len, fun j => by rw [any_perm hp, h.th], fun x hx => h.pos x (hp.mem_iff.1 hx), by rw [hp.length_eq, h.cnt]⟩
theorem took (h : KpQ a T k i L ns) (v : Nat) (hv : L.getD v false = true) : (takeQ a (v : Int)).1 = true ∧ KpQ (takeQ a (v : Int)).2 T k (i + 1) (L.set v false) (ns - 1) ∧ 1 ≤ ns ∧ 1 ≤ v ∧ v ≤ i ∧ v < 61 := by
 obtain ⟨t1, hp, _⟩ := ents_take h.near.hl h.near.un (v : Int)
 have hany : (entsQ a).any (isId (v : Int)) = true := by rw [← h.th]; exact hv
 have hv61 : v < 61 := by
  rcases Nat.lt_or_ge v 61 with h1 | h1
  · exact h1
  · rw [List.getD_eq_getElem?_getD, List.getElem?_eq_none (by rw [h.len]; exact h1)] at hv
    simp at hv
 have hlen := others_len h.near.un true hany
 rw [if_pos rfl, h.cnt] at hlen
 obtain ⟨x, hx, hxi⟩ := List.any_eq_true.1 hany
 have hxv := isId_true.1 hxi
 have h1 := h.pos x hx
 have h2 := h.near.ids x hx
 refine ⟨by rw [t1]; exact hany, ⟨(h.near.take _).mono (by omega), by rw [List.length_set]; exact h.len, fun j => ?_, fun x hx => h.pos x (List.mem_filter.1 (hp.mem_iff.1 hx)).1, by rw [hp.length_eq]; omega⟩, by omega, by omega, by omega, hv61⟩
 rw [any_perm hp, others_any, getD_setB, h.len, ← h.th]
 by_cases hj : v = j
 · subst hj
   rw [if_pos ⟨rfl, hv61⟩]
   simp
 · rw [if_neg (fun hh => hj hh.1)]
   simp [show ¬ ((j : Int) = (v : Int)) by omega]
theorem stayed (h : KpQ a T k i L ns) (v : Int) (hv : (entsQ a).any (isId v) = false) : (takeQ a v).1 = false ∧ KpQ (takeQ a v).2 T k (i + 1) L ns := by
 obtain ⟨t1, hp, _⟩ := ents_take h.near.hl h.near.un v
 rw [others_none hv] at hp
 exact ⟨by rw [t1]; exact hv, ⟨(h.near.take _).mono (by omega), h.len, fun j => by rw [any_perm hp, h.th], fun x hx => h.pos x (hp.mem_iff.1 hx), by rw [hp.length_eq, h.cnt]⟩⟩
theorem out_of (h : KpQ a T k i L ns) (hi : i ≤ 60) {v : Int} (hv : v < 1 ∨ 60 < v) : (entsQ a).any (isId v) = false := by
 rw [List.any_eq_false]
 intro x hx hxi
 have := isId_true.1 hxi
 have h1 := h.pos x hx
 have h2 := h.near.ids x hx
 omega
end KpQ
def bxB (L : List Bool) : Obj := .cells (L.map Value.bool).toArray 27
theorem bxB_cell {w : World} {g j : Nat} {L : List Bool} (h : w.heap[g]? = some (bxB L)) (hj : j < L.length) : w.cell? ⟨g, j, none⟩ = some (.bool (L.getD j false)) := by
 have h : w.heap[g]? = some (.cells (L.map Value.bool).toArray 27 (0, 0)) := h
 rw [cell_row h]
 simp [List.getElem?_eq_getElem hj, List.getD_eq_getElem?_getD]
theorem bxB_frozen {w : World} {g : Nat} {L : List Bool} (h : w.heap[g]? = some (bxB L)) (j : Nat) : w.frozen? ⟨g, j, none⟩ = false := frozen_row (show w.heap[g]? = some (.cells (L.map Value.bool).toArray 27 (0, 0)) from h) j
theorem bxB_set {w : World} {g j : Nat} {L : List Bool} (h : w.heap[g]? = some (bxB L)) (b : Bool) : (w.setCell ⟨g, j, none⟩ (.bool b)).heap[g]? = some (bxB (L.set j b)) ∧ w.grownBy (w.setCell ⟨g, j, none⟩ (.bool b)) (some g) := by
 have h : w.heap[g]? = some (.cells (L.map Value.bool).toArray 27 (0, 0)) := h
 refine ⟨?_, ⟨rfl, rfl, rfl, by simp only [World.setCell, Array.size_modify]; exact Nat.le_refl _, fun k hk hne => setc_ne (fun e => hne (by rw [e]))⟩⟩
 rw [setc_at h]
 show some (Obj.cells _ _ _) = some (Obj.cells _ _ _)
 simp [List.map_set]
end Go.Proofs.YthghkglkifeagaaGreat.V
end
section
set_option linter.unusedVariables false
set_option linter.unusedSimpArgs false
namespace Go.Proofs.YthghkglkifeagaaGreat.V
open Go.RowKit Go.Proofs.YthghkglkifeagaaGreatW.PrintWords Go.Proofs.YthghkglkifeagaaGreatW.PrintLast Go.Proofs.YthghkglkifeagaaGreatW.PrintMore
structure KpSt (w wr : World) (pq g T k i : Nat) (L : List Bool) (ns : Nat) : Prop where
  ex : ∃ a, QOk w wr pq a i [(g, bxB L)] ∧ KpQ a T k i L ns
theorem KpSt.write {w wr : World} {pq g T k i : Nat} {L : List Bool} {a : Qa} (hq : QOk w wr pq a i [(g, bxB L)]) (j : Nat) (b : Bool) {ns' : Nat} (hk : KpQ a T k i (L.set j b) ns') : KpSt w (wr.setCell ⟨g, j, none⟩ (.bool b)) pq g T k i (L.set j b) ns' := by
 have hs := bxB_set (j := j) hq.top b
 exact ⟨⟨a, hq.write hs.2 hs.1 (fun x hx => by simp at hx), hk⟩⟩
set_option maxRecDepth 100000 in
set_option maxHeartbeats 8000000 in
theorem queueKeeps_walk (x y : Int) (A : Option Addr) (c : Nat) (l : List S30) (w : World) (hr : Kd.C k30 w A l.length l) (hc : l.length ≤ c) :
 Calls Tryz.prog 3 #[.int .i64 x, .int .i64 y, .slice A l.length c] w fun e w' => e = .returned (.bool true) ∧ Below w.heap.size w w' := by
 have HR := Aside0.mk hr
 have hl63 : l.length ≤ 9223372036854775807 := hr.2.1
 have hx := and_maskL x 7 (by omega)
 rw [show ((7 : Nat) : Int) = 7 from rfl] at hx
 obtain ⟨z, hz⟩ : ∃ z : Nat, bits BinOp.and IntKind.i64 x 7 = (z : Int) := ⟨(bits BinOp.and IntKind.i64 x 7).toNat, by omega⟩
 have hz7 : z ≤ 7 := by omega
 have hy := and_maskL y 15 (by omega)
 rw [show ((15 : Nat) : Int) = 15 from rfl] at hy
 obtain ⟨k, hk⟩ : ∃ k : Nat, bits BinOp.and IntKind.i64 y 15 = (k : Int) := ⟨(bits BinOp.and IntKind.i64 y 15).toNat, by omega⟩
 have hk15 : k ≤ 15 := by omega
 clear hx hy hr
 go_enter Tryz.func3, Tryz.ntmps3
 go_wp2_with fail
 refine (q_newY z k w hz7 (by omega)).mono ?_
 rintro q w1 ⟨pq, rfl, h1⟩
 have HS0 := Aside0.mk (show KpSt w (w1.alloc (bxB (List.replicate 61 false))) pq w1.heap.size (z + 1) k 0 (List.replicate 61 false) 0 from ⟨⟨_, h1.box (uf (Below.refl _ _) _) (vu _) (heap_alloc_new w1 (bxB (List.replicate 61 false))), KpQ.new (z + 1) k⟩⟩)
 clear h1 hk hz
 obtain ⟨g, hg⟩ : ∃ g, g = w1.heap.size := ⟨_, rfl⟩
 go_upto_region 6 with fail
 rw [← hg] at HS0 ⊢
 clear hg
 go_wp2_with fail
 go_loopw [10, 11] (fun n i wr => ∃ (m ns : Nat) (L : List Bool), m ≤ l.length ∧ m ≤ 60 ∧ n = .int .i64 ns ∧ ns ≤ m ∧ i = .int .i64 m ∧ Aside0 (KpSt w wr pq g (z + 1) k m L ns)) (fun _ i _ => 61 - (intOf i).toNat)
 case atStart => exact ⟨0, 0, _, Nat.zero_le _, by omega, rfl, vu _, rfl, HS0⟩
 case round =>
  clear HS0
  obtain ⟨m, ns, L, hml, hm60, rfl, hns, rfl, HS⟩ := hrel
  by_cases hlt : m < l.length ∧ m < 60
  · obtain ⟨hlt, hlt60⟩ := hlt
    have hlt2 : (m : Int) < (l.length : Int) := by omega
    have hlt3 : (m : Int) < 60 := by omega
    obtain ⟨a, hq, hn⟩ := HS.out.ex
    have HQ := Aside0.mk hq
    have HN := Aside0.mk hn
    obtain ⟨o, ho⟩ : ∃ o, l[m]? = some o := ⟨_, List.getElem?_eq_getElem hlt⟩
    obtain ⟨ad, rfl, y0, y1, y2, y3, y4⟩ := op10_at HR.out hq.bel ho
    clear ho hq hn
    obtain ⟨K, t0, id0, key, dr⟩ := o
    simp only at y0 y1 y2 y3 y4
    have ht := and_maskL t0 7 (by omega)
    rw [show ((7 : Nat) : Int) = 7 from rfl] at ht
    obtain ⟨c7, hc7⟩ : ∃ c7 : Nat, bits BinOp.and IntKind.i64 t0 7 = (c7 : Int) := ⟨(bits BinOp.and IntKind.i64 t0 7).toNat, by omega⟩
    have hc77 : c7 ≤ 7 := by omega
    obtain ⟨t, ht1⟩ : ∃ t, c7 % (z + 1) = t := ⟨_, rfl⟩
    have htz : t < z + 1 := by rw [← ht1]; exact Nat.mod_lt _ (by omega)
    have r1 : (c7 : Int).tmod ((z : Int) + 1) = (t : Int) := by rw [Int.tmod_eq_emod_of_nonneg (by omega), ← ht1]; rfl
    have r2 : (c7 : Int) % ((z : Int) + 1) = (t : Int) := by rw [← ht1]; rfl
    have r4 : ¬ ((z : Int) + 1 = 0) := by omega
    have r6 : ((z : Int) + 1 == 0) = false := by rw [beq_eq_false_iff_ne]; omega
    have hmw : IntKind.i64.wrap ((m : Int) + 1) = (m : Int) + 1 := IntWalk.i64_in _ (by omega)
    have HTL := Aside0.mk (show t < a.loc.length by rw [HN.out.near.loc]; exact htz)
    have HTZ := Aside0.mk htz
    have HBD := Aside0.mk (show m ≤ 60 ∧ m < 60 from ⟨hm60, hlt60⟩)
    have HQA := Aside0.mk (HQ.out.below (uf (Below.refl wr.heap.size wr) (.cells #[.int .i64 K, .int .i64 t0, .int .i64 id0, .int .u64 key, .int .u64 dr] 30)))
    have HLL := Aside0.mk HN.out.len
    clear ht ht1
    go_upto_block 2 with fail
    obtain ⟨wb, hwb⟩ : ∃ wb : World, wb = wr.alloc (.cells #[.int .i64 K, .int .i64 t0, .int .i64 id0, .int .u64 key, .int .u64 dr] 30) := ⟨_, rfl⟩
    have HX := Aside0.mk (show wb.heap[wr.heap.size]? = some (.cells #[.int .i64 K, .int .i64 t0, .int .i64 id0, .int .u64 key, .int .u64 dr] 30 (0, 0)) by rw [hwb]; exact heap_alloc_new wr _)
    rw [← hwb] at HQA ⊢
    clear hwb y0 y1 y2 y3 y4
    have x1 : wb.cell? ⟨wr.heap.size, 1, none⟩ = some (.int .i64 t0) := (vo HX.out 1).trans rfl
    have x2 : wb.cell? ⟨wr.heap.size, 2, none⟩ = some (.int .i64 id0) := (vo HX.out 2).trans rfl
    have x3 : wb.cell? ⟨wr.heap.size, 3, none⟩ = some (.int .u64 key) := (vo HX.out 3).trans rfl
    go_cut [10] (fun s10 wx => ∃ (ns' : Nat) (L' : List Bool), s10 = .int .i64 ns' ∧ ns' ≤ m + 1 ∧ Aside0 (KpSt w wx pq g (z + 1) k (m + 1) L' ns'))
    case first =>
     by_cases hk01 : K = 0 ∨ K = 1
     · have HQD := Aside0.mk (show QOk w wb.drew pq a m [(g, bxB L)] from HQA.out.below (below_drew (Below.refl _ _)))
       rcases hk01 with rfl | rfl
       · go_upto_region 21 with fail
         go_cut [89] (fun s89 wx => s89 = .bool false ∧ Aside0 (QOk w wx pq (putQ a t ⟨key, (m : Int) + 1⟩) (m + 1) [(g, bxB L)]))
         case first =>
          refine start_ (n := 13) (S := fun w' => w'.cell? ⟨wr.heap.size, 1, none⟩ = some (.int .i64 t0) ∧ w'.cell? ⟨wr.heap.size, 3, none⟩ = some (.int .u64 key)) (ds := [11]) #[xX, xX, xX, xX, xX, xX, xX, xX, xX, xX, xX, xX, xX] (by kernel_rfl) rfl rfl ⟨x1, x3⟩ (fun hHeld => ?_)
          refine pU (i := 0) (N := (some 77)) (bA 13 1) (by kernel_rfl) rfl ?_
          refine pU (i := 1) (N := (some 78)) (bA 13 3) (by kernel_rfl) rfl ?_
          refine pU (i := 4) (N := (some 81)) (bA 13 19) (by kernel_rfl) rfl ?_
          refine pU (i := 6) (N := (some 83)) (bA 13 83) (by kernel_rfl) rfl ?_
          refine pU (i := 8) (N := (some 85)) (bA 13 339) (by kernel_rfl) rfl ?_
          refine pU (i := 9) (N := (some 86)) (bA 13 851) (by kernel_rfl) rfl ?_
          refine tU (i := 2) (N := (some 79)) (bA 13 855) (by kernel_rfl) rfl hHeld (by (constructor; (rintro w' ⟨s0, s1⟩; go_simp; (with_reducible rfl)); (simp only [Act.put, ua, ub, uc, uh, ui]; rfl))) ?_
          refine pU (i := 3) (N := (some 80)) (bA 13 863) (by kernel_rfl) rfl ?_
          refine pU (i := 5) (N := (some 82)) (bA 13 895) (by kernel_rfl) rfl ?_
          refine tU (i := 7) (N := (some 84)) (bA 13 1023) (by kernel_rfl) rfl hHeld (by (constructor; (rintro w' ⟨s0, s1⟩; go_simp; (with_reducible rfl)); (simp only [Act.put, ua, ub, uc, uh, ui]; rfl))) ?_
          refine pU (i := 10) (N := (some 87)) (bA 13 2047) (by kernel_rfl) rfl ?_
          refine last_ (i := 11) (N := (some 88)) #[yY, yY, yY, yY, yY, yY, yY, yY, yY, yY, yY, yY, xX] rfl rfl (by kernel_rfl) (by decide) (fun K hK => ?_)
          refine goes_ Tryz.func8 (by kernel_rfl) rfl #[.pointer (some ⟨pq, 0, none⟩), .int .i64 t, .agg #[.int .u64 key, .int .i64 ((m : Int) + 1)]] (by rfl) rfl rfl (by (try simp only [ul, ur, us]); first | done | rfl) ?_
          refine (qk_put HQD.out (by have := HBD.out; omega) t HTL.out ⟨key, (m : Int) + 1⟩).mono ?_
          rintro q w2 ⟨rfl, h2⟩
          have HQ2 := Aside0.mk h2
          clear h2
          refine ⟨_, rfl, ?_⟩
          refine hK.out _ _ ?_
          clear hK K
          refine norm_ (a' := ?_) ?_ ?_; rotate_left; (· (show Act.put _ (some 88) _ = _); (simp only [Act.put, ua, ub, uc, uh, ui]); rfl)
          refine pU (i := 12) (N := (some 89)) (bA 13 8191) (by kernel_rfl) rfl ?_
          refine done_ (by kernel_rfl) ?_
          go_wp2_with fail
          go_meet
          exact ⟨rfl, HQ2⟩
         case rest =>
          obtain ⟨rfl, HQ2⟩ := hcut
          have z0 := bxB_cell HQ2.out.top (j := m + 1) (by rw [HLL.out]; omega)
          have f0 := bxB_frozen HQ2.out.top (m + 1)
          have HK3 := Aside0.mk (KpSt.write HQ2.out (m + 1) true (HN.out.put HTZ.out HBD.out.2 rfl))
          go_wp2_with fail
          go_meet
          exact ⟨ns + 1, _, by go_num, by omega, HK3⟩
       · go_upto_region 21 with fail
         go_cut [89] (fun s89 wx => s89 = .bool false ∧ Aside0 (QOk w wx pq (putQ a t ⟨key, (m : Int) + 1⟩) (m + 1) [(g, bxB L)]))
         case first =>
          refine start_ (n := 13) (S := fun w' => w'.cell? ⟨wr.heap.size, 1, none⟩ = some (.int .i64 t0) ∧ w'.cell? ⟨wr.heap.size, 3, none⟩ = some (.int .u64 key)) (ds := [11]) #[xX, xX, xX, xX, xX, xX, xX, xX, xX, xX, xX, xX, xX] (by kernel_rfl) rfl rfl ⟨x1, x3⟩ (fun hHeld => ?_)
          refine pU (i := 0) (N := (some 77)) (bA 13 1) (by kernel_rfl) rfl ?_
          refine pU (i := 1) (N := (some 78)) (bA 13 3) (by kernel_rfl) rfl ?_
          refine pU (i := 4) (N := (some 81)) (bA 13 19) (by kernel_rfl) rfl ?_
          refine pU (i := 6) (N := (some 83)) (bA 13 83) (by kernel_rfl) rfl ?_
          refine pU (i := 8) (N := (some 85)) (bA 13 339) (by kernel_rfl) rfl ?_
          refine pU (i := 9) (N := (some 86)) (bA 13 851) (by kernel_rfl) rfl ?_
          refine tU (i := 2) (N := (some 79)) (bA 13 855) (by kernel_rfl) rfl hHeld (by (constructor; (rintro w' ⟨s0, s1⟩; go_simp; (with_reducible rfl)); (simp only [Act.put, ua, ub, uc, uh, ui]; rfl))) ?_
          refine pU (i := 3) (N := (some 80)) (bA 13 863) (by kernel_rfl) rfl ?_
          refine pU (i := 5) (N := (some 82)) (bA 13 895) (by kernel_rfl) rfl ?_
          refine tU (i := 7) (N := (some 84)) (bA 13 1023) (by kernel_rfl) rfl hHeld (by (constructor; (rintro w' ⟨s0, s1⟩; go_simp; (with_reducible rfl)); (simp only [Act.put, ua, ub, uc, uh, ui]; rfl))) ?_
          refine pU (i := 10) (N := (some 87)) (bA 13 2047) (by kernel_rfl) rfl ?_
          refine last_ (i := 11) (N := (some 88)) #[yY, yY, yY, yY, yY, yY, yY, yY, yY, yY, yY, yY, xX] rfl rfl (by kernel_rfl) (by decide) (fun K hK => ?_)
          refine goes_ Tryz.func8 (by kernel_rfl) rfl #[.pointer (some ⟨pq, 0, none⟩), .int .i64 t, .agg #[.int .u64 key, .int .i64 ((m : Int) + 1)]] (by rfl) rfl rfl (by (try simp only [ul, ur, us]); first | done | rfl) ?_
          refine (qk_put HQD.out (by have := HBD.out; omega) t HTL.out ⟨key, (m : Int) + 1⟩).mono ?_
          rintro q w2 ⟨rfl, h2⟩
          have HQ2 := Aside0.mk h2
          clear h2
          refine ⟨_, rfl, ?_⟩
          refine hK.out _ _ ?_
          clear hK K
          refine norm_ (a' := ?_) ?_ ?_; rotate_left; (· (show Act.put _ (some 88) _ = _); (simp only [Act.put, ua, ub, uc, uh, ui]); rfl)
          refine pU (i := 12) (N := (some 89)) (bA 13 8191) (by kernel_rfl) rfl ?_
          refine done_ (by kernel_rfl) ?_
          go_wp2_with fail
          go_meet
          exact ⟨rfl, HQ2⟩
         case rest =>
          obtain ⟨rfl, HQ2⟩ := hcut
          have z0 := bxB_cell HQ2.out.top (j := m + 1) (by rw [HLL.out]; omega)
          have f0 := bxB_frozen HQ2.out.top (m + 1)
          have HK3 := Aside0.mk (KpSt.write HQ2.out (m + 1) true (HN.out.put HTZ.out HBD.out.2 rfl))
          go_wp2_with fail
          go_meet
          exact ⟨ns + 1, _, by go_num, by omega, HK3⟩
     · have n0 : (K == 0) = false := by rw [beq_eq_false_iff_ne]; omega
       have n1 : (K == 1) = false := by rw [beq_eq_false_iff_ne]; omega
       have n2 : ¬ K = 0 := by omega
       have n3 : ¬ K = 1 := by omega
       clear hk01
       by_cases hk2 : K = 2
       · subst hk2
         clear n0 n1 n2 n3
         go_wp2_with fail
         refine (qk_settle HQA.out (by have := HBD.out; omega) t HTL.out).mono ?_
         rintro q w2 ⟨rfl, h2⟩
         have HK3 := Aside0.mk (show KpSt w w2 pq g (z + 1) k (m + 1) L ns from ⟨⟨_, h2, HN.out.settle t⟩⟩)
         clear h2
         go_wp2_with fail
         go_meet
         exact ⟨ns, _, rfl, by omega, HK3⟩
       · have n4 : (K == 2) = false := by rw [beq_eq_false_iff_ne]; omega
         have hi := and_maskL id0 63 (by omega)
         rw [show ((63 : Nat) : Int) = 63 from rfl] at hi
         obtain ⟨v, hv⟩ : ∃ v : Nat, bits BinOp.and IntKind.i64 id0 63 = (v : Int) := ⟨(bits BinOp.and IntKind.i64 id0 63).toNat, by omega⟩
         have hv63 : v ≤ 63 := by omega
         clear hi
         by_cases hin : 1 ≤ v ∧ v ≤ 60
         · obtain ⟨hv1, hv60⟩ := hin
           have z0 := bxB_cell HQA.out.top (j := v) (by rw [HLL.out]; omega)
           have hv1' : (v : Int) ≥ 1 := by omega
           cases hb : L.getD v false with
           | true =>
            rw [hb] at z0
            obtain ⟨t1, t2, t3, _⟩ := HN.out.took v hb
            have HT1 := Aside0.mk t1
            have HT2 := Aside0.mk t2
            clear hb t1 t2
            go_wp2_with fail
            refine (qk_take HQA.out (by have := HBD.out; omega) (unlike_parts HN.out.near.un) (v : Int)).mono ?_
            rintro q w3 ⟨hq3, h3⟩
            rw [HT1.out] at hq3
            obtain rfl : q = .returned (.bool true) := hq3
            have HQ3 := Aside0.mk h3
            have z1 := bxB_cell h3.top (j := v) (by rw [HLL.out]; omega)
            have f1 := bxB_frozen h3.top v
            have HK3 := Aside0.mk (KpSt.write h3 v false HT2.out)
            clear h3 z0
            go_wp2_with fail
            go_meet
            exact ⟨ns - 1, _, by go_num, by omega, HK3⟩
           | false =>
            rw [hb] at z0
            have hnone : (entsQ a).any (isId (v : Int)) = false := by rw [← HN.out.th]; exact hb
            obtain ⟨t1, t2⟩ := HN.out.stayed _ hnone
            have HT1 := Aside0.mk t1
            have HT2 := Aside0.mk t2
            clear hb t1 t2 hnone
            go_wp2_with fail
            refine (qk_take HQA.out (by have := HBD.out; omega) (unlike_parts HN.out.near.un) (v : Int)).mono ?_
            rintro q w3 ⟨hq3, h3⟩
            rw [HT1.out] at hq3
            obtain rfl : q = .returned (.bool false) := hq3
            have HK3 := Aside0.mk (show KpSt w w3 pq g (z + 1) k (m + 1) L ns from ⟨⟨_, h3, HT2.out⟩⟩)
            clear h3 z0
            go_wp2_with fail
            go_meet
            exact ⟨ns, _, rfl, by omega, HK3⟩
         · have hnone := HN.out.out_of HBD.out.1 (v := (v : Int)) (by omega)
           obtain ⟨t1, t2⟩ := HN.out.stayed _ hnone
           have HT1 := Aside0.mk t1
           have HT2 := Aside0.mk t2
           clear t1 t2 hnone
           have hvv : ¬ ((v : Int) ≥ 1) ∨ ((v : Int) ≥ 1 ∧ ¬ (v : Int) ≤ 60) := by omega
           rcases hvv with hvv | ⟨hvw, hvv⟩
           · go_wp2_with fail
             refine (qk_take HQA.out (by have := HBD.out; omega) (unlike_parts HN.out.near.un) (v : Int)).mono ?_
             rintro q w3 ⟨hq3, h3⟩
             rw [HT1.out] at hq3
             obtain rfl : q = .returned (.bool false) := hq3
             have HK3 := Aside0.mk (show KpSt w w3 pq g (z + 1) k (m + 1) L ns from ⟨⟨_, h3, HT2.out⟩⟩)
             clear h3
             go_wp2_with fail
             go_meet
             exact ⟨ns, _, rfl, by omega, HK3⟩
           · go_wp2_with fail
             refine (qk_take HQA.out (by have := HBD.out; omega) (unlike_parts HN.out.near.un) (v : Int)).mono ?_
             rintro q w3 ⟨hq3, h3⟩
             rw [HT1.out] at hq3
             obtain rfl : q = .returned (.bool false) := hq3
             have HK3 := Aside0.mk (show KpSt w w3 pq g (z + 1) k (m + 1) L ns from ⟨⟨_, h3, HT2.out⟩⟩)
             clear h3
             go_wp2_with fail
             go_meet
             exact ⟨ns, _, rfl, by omega, HK3⟩
    case rest =>
     obtain ⟨ns', L', rfl, hns', HK⟩ := hcut
     clear x1 x2 x3 HX HQA HN HQ HTL HTZ HLL hc7 r1 r2 htz hns
     obtain ⟨a2, hq2, hk2⟩ := HK.out.ex
     obtain ⟨U, hU⟩ : ∃ U, allQ a2 = U := ⟨_, rfl⟩
     have HU := Aside0.mk hU
     have HUP := Aside0.mk (show U.Perm (entsQ a2) by rw [← hU]; exact sortE_perm _)
     have HUS := Aside0.mk (show SortedE U by rw [← hU]; exact sortE_sorted _)
     have HUL := Aside0.mk (show U.length = ns' by rw [HUP.out.length_eq]; exact hk2.cnt)
     have HQ2 := Aside0.mk hq2
     have HK2 := Aside0.mk hk2
     have HB6 := Aside0.mk (show m + 1 ≤ 61 ∧ ns' ≤ 61 by have := HBD.out; omega)
     clear hU hq2 hk2
     go_wp2_with fail
     refine (qk_all HQ2.out (by have := HB6.out; omega)).mono ?_
     rintro q w2 ⟨v2, rfl, hv2, hb2⟩
     rw [HU.out] at hv2
     obtain ⟨A2, c2, rfl⟩ := Kd.V_slice hv2
     have HV2 := Aside0.mk (Kd.V_reads' hv2)
     have HQ3 := Aside0.mk (HQ2.out.below hb2)
     rw [HUL.out]
     clear hv2 hb2
     go_wp2_with fail
     refine (qk_len HQ3.out (by have := HB6.out; omega)).mono ?_
     rintro q w3 ⟨hq3, hb3⟩
     rw [HU.out, HUL.out] at hq3
     obtain rfl := hq3
     have HC3 := Aside0.mk (Kd.C_below HV2.out.2.2 hb3)
     have HQ4 := Aside0.mk (HQ3.out.below hb3)
     have HSR := Aside0.mk (show Calls Tryz.prog 13 #[.slice A2 ns' c2] w3 fun e w' => e = .returned (.bool true) ∧ Below w3.heap.size w3 w' from by
      have hs : vergerref5_Sorted.f 1000 U = some true := by rw [refsorted_told 1000 U (by rw [HUL.out]; have := HB6.out; omega) (by rw [HUL.out]; have := HB6.out; omega), okTo_sorted HUS.out]
      rw [← HUL.out]
      exact vergerref5_Sorted.calls 1000 A2 c2 U true _ HC3.out HV2.out.2.1 hs)
     clear hb3
     go_wp2_with fail
     refine HSR.out.mono ?_
     rintro q w4 ⟨rfl, hb4⟩
     have HC4 := Aside0.mk (Kd.C_below HC3.out hb4)
     have HQ5 := Aside0.mk (HQ4.out.below hb4)
     clear hb4
     go_wp2_with fail
     go_loopw [16] (fun i wr => ∃ j : Nat, j ≤ ns' ∧ i = .int .i64 j ∧ Aside0 (Below w4.heap.size w4 wr)) (fun i _ => ns' - (intOf i).toNat)
     case atStart => exact ⟨0, Nat.zero_le _, rfl, ⟨Below.refl _ _⟩⟩
     case round =>
      obtain ⟨j, hj, rfl, HB⟩ := hrel
      by_cases hlt : j < ns'
      · obtain ⟨e, he⟩ : ∃ e, U[j]? = some e := ⟨_, List.getElem?_eq_getElem (by rw [HUL.out]; exact hlt)⟩
        have hmem := HUP.out.mem_iff.1 (List.mem_of_getElem? he)
        have hpos := HK2.out.pos e hmem
        have hids := HK2.out.near.ids e hmem
        obtain ⟨v, hv⟩ : ∃ v : Nat, e.f1 = (v : Int) := ⟨e.f1.toNat, by omega⟩
        obtain ⟨hv1, hv60⟩ : 1 ≤ v ∧ v ≤ 60 := by have := HBD.out; omega
        have hv61 : (v : Int) < 61 := by omega
        have hv00 : (0 : Int) ≤ (v : Int) := by omega
        have HTH := Aside0.mk (show L'.getD v false = true by rw [HK2.out.th, List.any_eq_true]; exact ⟨e, hmem, isId_true.2 hv⟩)
        have HCJ := Aside0.mk (Kd.C_below HC4.out HB.out)
        obtain ⟨ad, hA, y0, y1⟩ := at_T33 HCJ.out (j : Int) (by omega) (by rw [HUL.out]; omega)
        have hrd : rd_T33 U (j : Int) = e := by unfold rd_T33; rw [Int.toNat_natCast, List.getD_eq_getElem?_getD, he]; rfl
        rw [Int.toNat_natCast, hrd, hv] at y1
        have HQJ := Aside0.mk (HQ5.out.below HB.out)
        have z0 := bxB_cell HQJ.out.top (j := v) (by rw [HK2.out.len]; omega)
        rw [HTH.out] at z0
        have hjn : (j : Int) < (ns' : Int) := by omega
        have hA2 := hA
        subst hA2
        by_cases h0 : j = 0
        · have h00 : ¬ (0 : Int) < (j : Int) := by omega
          have h01 : ¬ 0 < j := by omega
          have h02 : decide ((0 : Int) < (j : Int)) = false := decide_eq_false h00
          have h03 : decide (0 < j) = false := decide_eq_false h01
          have hj1 := hlt
          clear he hmem hpos hids hrd y0 hv h0
          go_wp2
          go_quiet (fail)
          go_wp2
          go_roundw
          case rel => exact ⟨j + 1, by omega, by go_num, ⟨ud HB.out _⟩⟩
          case measure => simp [intOf]; omega
        · obtain ⟨i, rfl⟩ : ∃ i, j = i + 1 := ⟨j - 1, by omega⟩
          obtain ⟨e', he'⟩ : ∃ e', U[i]? = some e' := ⟨_, List.getElem?_eq_getElem (by rw [HUL.out]; omega)⟩
          obtain ⟨ad', hA', u0, u1⟩ := at_T33 HCJ.out (i : Int) (by omega) (by rw [HUL.out]; omega)
          injection hA' with hA'
          subst hA'
          have hrd' : rd_T33 U (i : Int) = e' := by unfold rd_T33; rw [Int.toNat_natCast, List.getD_eq_getElem?_getD, he']; rfl
          have hmem' := HUP.out.mem_iff.1 (List.mem_of_getElem? he')
          have hpos' := HK2.out.pos e' hmem'
          obtain ⟨v', hv'⟩ : ∃ v' : Nat, e'.f1 = (v' : Int) := ⟨e'.f1.toNat, by omega⟩
          have hne : v ≠ v' := by
           intro hh
           have hun : Unlike U := HK2.out.near.un.perm HUP.out.symm
           unfold Unlike at hun
           have h1 : (U.map fun e => e.f1)[i + 1]? = some (v : Int) := by rw [List.getElem?_map, he, ← hv]; rfl
           have h2 : (U.map fun e => e.f1)[i]? = some (v : Int) := by rw [List.getElem?_map, he', hh, ← hv']; rfl
           have := (List.getElem?_inj (by rw [List.length_map, HUL.out]; omega) hun).1 (h2.trans h1.symm)
           omega
          rw [Int.toNat_natCast, hrd', hv'] at u1
          have hne1 : ((v : Int) == (v' : Int)) = false := by rw [beq_eq_false_iff_ne]; omega
          have hne2 : ¬ (v : Int) = (v' : Int) := by omega
          have hne3 : ¬ v = v' := hne
          have hi1 : ((i : Int) + 1 - 1) = (i : Int) := by omega
          have hin : (i : Int) < (ns' : Int) := by omega
          clear he hmem hpos hids hrd y0 hv he' hmem' hpos' hrd' u0 hv' hne
          go_wp2
          go_quiet (fail)
          go_wp2
          go_roundw
          case rel => exact ⟨i + 1 + 1, by omega, by go_num, ⟨ud HB.out _⟩⟩
          case measure => simp [intOf]; omega
      · obtain rfl : j = ns' := by omega
        have HKN := Aside0.mk (show KpSt w wr pq g (z + 1) k (m + 1) L' j from ⟨⟨a2, HQ5.out.below HB.out, HK2.out⟩⟩)
        clear hlt
        go_wp2
        go_roundw
        case rel => exact ⟨m + 1, j, _, by omega, by omega, rfl, hns', by go_num, HKN⟩
        case measure => simp [intOf]; omega
  · have hout : (¬ (m : Int) < (l.length : Int)) ∨ ((m : Int) < (l.length : Int) ∧ ¬ (m : Int) < 60) := by omega
    obtain ⟨a, hq, hn⟩ := HS.out.ex
    have HB := Aside0.mk hq.bel
    clear hq hn
    rcases hout with hout | ⟨hout0, hout⟩
    · go_wp2_with fail
      refine (awake10 _).mono ?_
      rintro q w4 ⟨rfl, hb4⟩
      have HB4 := Aside0.mk (vp HB.out hb4)
      clear hb4
      go_wp2
      go_ret
      exact ⟨by first | rfl | simp, HB4.out⟩
    · go_wp2_with fail
      refine (awake10 _).mono ?_
      rintro q w4 ⟨rfl, hb4⟩
      have HB4 := Aside0.mk (vp HB.out hb4)
      clear hb4
      go_wp2
      go_ret
      exact ⟨by first | rfl | simp, HB4.out⟩
end Go.Proofs.YthghkglkifeagaaGreat.V
end
