-- a text of this work, without what this claim doesn't use (wip/shake.py)
import Derived.Test.YthcnpkkpjfigeaaMVXSort
import Derived.Test.YthcnpkkpjfigeaaMVP6
import Derived.Test.YthcnpkkpjfigeaaMVUEntryLeast
import Derived.Test.YthcnpkkpjfigeaaMVPEntryMergesLb
set_option linter.unusedVariables false
set_option linter.unusedSimpArgs false
namespace Go.Proofs.Ythcnpkkpjfigeaa.V
open Go.RowKit Go.Proofs.YthcnpkkpjfigeaaW.PrintWords Go.Proofs.YthcnpkkpjfigeaaW.PrintLast Go.Proofs.YthcnpkkpjfigeaaW.PrintMore
theorem sort_f {l : List E} (h : l.length < 1000000000) : entry_Sort.f l = some (sortE l) := if_pos h
theorem EntryMerges_pure (a b c : List E) (ha : a.length * 16 ≤ 140737488351232) {Q0 : Prop} (_ : Q0) (hb : b.length * 16 ≤ 140737488351232) {Q1 : Prop} (_ : Q1) (hc : c.length * 16 ≤ 140737488351232) {Q2 : Prop} (_ : Q2) :
 ∃ k, vergerlaw5_EntryMerges.f k a b c = some true := by
 refine ⟨1000, ?_⟩
 have hw : wrap64 (wrap64 ((a.length : Int) + (b.length : Int)) + (c.length : Int)) = ((a.length + b.length + c.length : Nat) : Int) := by rw [wadd (by omega), wadd (by omega)]
 unfold vergerlaw5_EntryMerges.f
 rw [hw]
 by_cases hbig : ((a.length + b.length + c.length : Nat) : Int) > 150
 · rw [if_pos hbig, awake5 1000 (by omega)]; rfl
 · rw [if_neg hbig]
   have la : a.length ≤ 150 := by omega
   have lb : b.length ≤ 150 := by omega
   have lc : c.length ≤ 150 := by omega
   have lab : (sortE (sortE a ++ sortE b)).length = a.length + b.length := by rw [sortE_length, List.length_append, sortE_length, sortE_length]
   have lbc : (sortE (sortE b ++ sortE c)).length = b.length + c.length := by rw [sortE_length, List.length_append, sortE_length, sortE_length]
   have lba : (sortE (sortE b ++ sortE a)).length = b.length + a.length := by rw [sortE_length, List.length_append, sortE_length, sortE_length]
   have pa := sortE_perm a
   have pb := sortE_perm b
   have pc := sortE_perm c
   have pab : (sortE (sortE a ++ sortE b)).Perm (a ++ b) := (sortE_perm _).trans (pa.append pb)
   have pbc : (sortE (sortE b ++ sortE c)).Perm (b ++ c) := (sortE_perm _).trans (pb.append pc)
   have pba : (sortE (sortE b ++ sortE a)).Perm (b ++ a) := (sortE_perm _).trans (pb.append pa)
   have e1 : sortE (sortE (sortE a ++ sortE b) ++ sortE c) = sortE (a ++ b ++ c) := sortE_of_perm (pab.append pc)
   have e2 : sortE (sortE a ++ sortE (sortE b ++ sortE c)) = sortE (a ++ b ++ c) := sortE_of_perm (by rw [List.append_assoc]; exact pa.append pbc)
   have e3 : sortE (sortE c ++ sortE (sortE b ++ sortE a)) = sortE (a ++ b ++ c) := sortE_of_perm ((pc.append pba).trans (List.perm_append_comm.trans (List.perm_append_comm.append_right c)))
   have len : (sortE (a ++ b ++ c)).length = a.length + b.length + c.length := by rw [sortE_length, List.length_append, List.length_append]
   rw [sort_f (by omega), sort_f (by omega), sort_f (by omega)]
   simp only [Option.bind_some]
   rw [merge_told 1000 _ _ (sortE_sorted a) (sortE_sorted b) (by simp only [sortE_length]; omega) (by simp only [sortE_length]; omega)]
   simp only [Option.bind_some]
   rw [merge_told 1000 _ _ (sortE_sorted _) (sortE_sorted c) (by simp only [lab, sortE_length]; omega) (by simp only [lab, sortE_length]; omega)]
   simp only [Option.bind_some]
   rw [merge_told 1000 _ _ (sortE_sorted b) (sortE_sorted c) (by simp only [sortE_length]; omega) (by simp only [sortE_length]; omega)]
   simp only [Option.bind_some]
   rw [merge_told 1000 _ _ (sortE_sorted a) (sortE_sorted _) (by simp only [lbc, sortE_length a]; omega) (by simp only [lbc, sortE_length a]; omega)]
   simp only [Option.bind_some]
   rw [merge_told 1000 _ _ (sortE_sorted b) (sortE_sorted a) (by simp only [sortE_length]; omega) (by simp only [sortE_length]; omega)]
   simp only [Option.bind_some]
   rw [merge_told 1000 _ _ (sortE_sorted c) (sortE_sorted _) (by simp only [lba, sortE_length c]; omega) (by simp only [lba, sortE_length c]; omega)]
   simp only [Option.bind_some]
   rw [e1, e2, e3, if_pos (by rw [len]), issorted_told 1000 _ (by rw [len]; omega) (by rw [len]; omega), okTo_sorted (sortE_sorted _)]
   simp only [Option.bind_some, if_true]
   rw [same_told 1000 _ (by rw [len]; omega) (by rw [len]; omega)]
   simp only [Option.bind_some, if_true]
   rw [awake5 1000 (by omega)]
   rfl
end Go.Proofs.Ythcnpkkpjfigeaa.V
