-- a text of this work, without what this claim doesn't use (wip/shake.py)
import Derived.Test.YtfhapffjnafkbaaRows
import Derived.Test.YtfhapffjnafkbaaTVPEntryTakesLb
import Derived.Test.YtfhapffjnafkbaaTVOpen
import Derived.WalkKit
import Derived.ProofKit
import Derived.OpenShut
import Derived.ShutString
import Derived.ChangeOld
import Derived.Below
import Derived.SizedLaws
import Derived.Lib.SmallJoins
namespace Go.Proofs.Ytfhapffjnafkbaa.entryTakes
open Go.ChangeShapes Go.WideShapes Go.ChangeAt Go.RowKit Go.Proofs.Ytfhapffjnafkbaa.VOpen Go.Proofs.Ytfhapffjnafkbaa.V Go.Proofs.YtfhapffjnafkbaaW.PrintWords Go.Joins
open Go.ChangeMaps (open_string shut_string)
set_option linter.unusedVariables false
theorem own : ownKnob Try.prog.godebug = none := by kernel_rfl
theorem laidOut : laidOutB Try.prog = true := by kernel_rfl
theorem fit27 : Fits Try.prog 27 (Kd.int .u64) (fun x => (Lit.int .u64 x).wf = true) := fits_int Try.underlying27 (by kernel_rfl)
theorem fit3 : Fits Try.prog 3 (Kd.int .i64) (fun x => (Lit.int .i64 x).wf = true) := fits_int Try.underlying3 (by kernel_rfl)
theorem fit33 : Fits Try.prog 33 k33 (fun x => (Lit.int .u64 x.f0).wf = true ∧ (Lit.int .i64 x.f1).wf = true) := fits_iso (fun x : S33 => (x.f0, x.f1)) (fun p => (⟨p.1, p.2⟩ : S33)) (fun _ => rfl) (fits_struct Try.underlying33 (by kernel_rfl) (fitsRow_cons rfl (fun i f' h => match i, h with | 0, h => by injection h with h; subst h; decide | k + 1, h => by cases h) fit27 (fitsRow_one rfl fit3)))
theorem fit44 : Fits Try.prog 44 (Kd.slice 33 k33) (fun x => ∀ x_ ∈ x, (Lit.int .u64 x_.f0).wf = true ∧ (Lit.int .i64 x_.f1).wf = true) := fits_slice Try.underlying44 (by kernel_rfl) fit33
set_option maxRecDepth 100000 in
theorem lifted (os : Os) (started : os.Started) (H : Type) (enc : TypeId × Value → H) :
 ReturnsInHanded {} Try.checked os 11 .any (Rows.entryTakesSpec.pre6 enc Try.prog Try.f11 Rows.entryTakesRow.domain false) (Rows.entryTakesSpec.post enc Try.prog Try.f11 false true false false) := by
 refine returnsInHanded_of_change_sized (C := Try.checked) own started (by kernel_rfl) Try.func11
  (ChangeSpec.witness6 (enc := enc) (C := Try.checked) false ⟨#[], #[.slice none 0 0, .agg #[.int .u64 0, .int .i64 0]], []⟩ 8 (by kernel_rfl) (by kernel_rfl) (by kernel_rfl) (by kernel_rfl)) ?_
 intro W base args ds gs before hval0 hW hcnd hsz0 _
 have hval : ∀ (j : Nat) t v, Try.f11.params[j]? = some t → args[j]? = some v → Value.okWide Try.prog W .any base t v := hval0
 have hW' := hW
 obtain ⟨p, q, hA0, hV, rfl, hfz, hnd⟩ := hW
 have hA : DataW.TrodAll enc Try.prog W 0 (fun _ => true) true Try.f11.params.toList args.toList ds p := hA0
 rw [Try.params11] at hA hval
 obtain ⟨v0, vs0, d0, ds0, p0, q0, hargs, rfl, rfl, h0, r0⟩ := trodAll_cons hA
 obtain ⟨v1, vs1, d1, ds1, p1, q1, rfl, rfl, rfl, h1, r1⟩ := trodAll_cons r0
 obtain ⟨rfl, rfl, rfl⟩ := trodAll_nil r1
 obtain rfl : args = #[v0, v1] := by cases args; simp_all
 obtain ⟨rfl, rfl⟩ := trodVars_none hV
 have k0 := h0
 have lt0 : ∀ x ∈ p0, x.block < W.heap.size := by obtain ⟨m, hm⟩ := k0; exact DataW.trod_lt m _ _ _ hm
 obtain ⟨a0, len0, cap0, rfl⟩ := okWide_slice Try.underlying44 (hval 0 44 v0 rfl rfl)
 obtain ⟨fu0, hf0⟩ := h0
 have hb0 := slice_bound Try.underlying44 hf0 hsz0 (j := 0) (by kernel_rfl) (by rfl) (b := 16) (by kernel_rfl)
 obtain ⟨l0, rfl, hc0, hr0, hg0⟩ := slice_arg fit44 rfl hf0
 have k1 := h1
 have lt1 : ∀ x ∈ p1, x.block < W.heap.size := by obtain ⟨m, hm⟩ := k1; exact DataW.trod_lt m _ _ _ hm
 obtain ⟨c1_0, c1_1, y1_0, y1_1, m1, rfl, rfl, rfl, hy1_0, hy1_1⟩ := open_agg2 Try.underlying33 (by kernel_rfl) (by kernel_rfl) (hval 1 33 v1 rfl rfl) h1
 obtain ⟨a1_0, e1_0, rfl, w1_0⟩ := DataW.trod_int Try.underlying27 hy1_0
 simp only [List.cons.injEq, and_true] at e1_0
 subst e1_0
 obtain ⟨a1_1, e1_1, rfl, w1_1⟩ := DataW.trod_int Try.underlying3 hy1_1
 simp only [List.cons.injEq, and_true] at e1_1
 subst e1_1
 clear hA0 hval0 hsz0
 obtain ⟨k, hk⟩ := EntryTakes_pure l0 a1_0 a1_1 hb0 hg0 w1_0 w1_1
 refine (vergerlaw5_EntryTakes.calls k _ _ l0 a1_0 a1_1 true W hr0 hc0 hk).mono ?_
 rintro e W' ⟨rfl, bel0⟩
 have bel : Below W.heap.size W W' := bel0
 exact ⟨_, rfl, _, _, _, [], _, [], hW', trodAll_mk1 (shut_bool Try.underlying4 _), (trodAll_cons_mk (Below.trod laidOut (by kernel_rfl) (of_decide_eq_true (by kernel_rfl)) k0 bel lt0) (trodAll_cons_mk (Below.trod laidOut (by kernel_rfl) (of_decide_eq_true (by kernel_rfl)) k1 bel lt1) trodAll_mk0)), rfl, bel.frame _, fun h => by cases h⟩
theorem over : Rows.entryTakesRow.holds Try.pinned (OpenSpec.ofChange Rows.entryTakesSpec) :=
 OpenClaim.holds_of_wide 11 Try.f11 rfl rfl rfl rfl rfl rfl rfl ⟨rfl, rfl, rfl, rfl, rfl⟩ rfl rfl rfl rfl rfl (by kernel_rfl) Try.func11 (by kernel_rfl)
  (of_decide_eq_true (by kernel_rfl)) (by unfold Func.isWrapper; first | (rw [if_pos (by decide +kernel)]; kernel_rfl) | (rw [if_neg (by decide +kernel)]; exact ⟨rfl, rfl⟩))
  (fun os started H enc _ => lifted os started H enc)
end Go.Proofs.Ytfhapffjnafkbaa.entryTakes
namespace Go.Proofs.Ytfhapffjnafkbaa
theorem entryTakes_holds : Rows.EntryTakesSaid := entryTakes.over
#print axioms entryTakes_holds
end Go.Proofs.Ytfhapffjnafkbaa
