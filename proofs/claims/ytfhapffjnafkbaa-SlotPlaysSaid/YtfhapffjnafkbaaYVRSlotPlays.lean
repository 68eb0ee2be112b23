-- a text of this work, without what this claim doesn't use (wip/shake.py)
import Derived.Test.YtfhapffjnafkbaaRows
import Derived.Test.YtfhapffjnafkbaaYVUSlotPlays
import Derived.WalkKit
import Derived.ProofKit
import Derived.OpenShut
import Derived.ShutString
import Derived.ChangeOld
import Derived.Below
import Derived.SizedLaws
import Derived.Lib.SmallJoins
namespace Go.Proofs.Ytfhapffjnafkbaa.slotPlays
open Go.ChangeShapes Go.WideShapes Go.ChangeAt Go.RowKit Go.Proofs.Ytfhapffjnafkbaa.VOpen Go.Proofs.Ytfhapffjnafkbaa.V Go.Proofs.YtfhapffjnafkbaaW.PrintWords Go.Joins
open Go.ChangeMaps (open_string shut_string)
set_option linter.unusedVariables false
theorem own : ownKnob Try.prog.godebug = none := by kernel_rfl
theorem laidOut : laidOutB Try.prog = true := by kernel_rfl
theorem fit3 : Fits Try.prog 3 (Kd.int .i64) (fun x => (Lit.int .i64 x).wf = true) := fits_int Try.underlying3 (by kernel_rfl)
theorem fit27 : Fits Try.prog 27 (Kd.int .u64) (fun x => (Lit.int .u64 x).wf = true) := fits_int Try.underlying27 (by kernel_rfl)
theorem fit33 : Fits Try.prog 33 k33 (fun x => (Lit.int .u64 x.f0).wf = true ∧ (Lit.int .i64 x.f1).wf = true) := fits_iso (fun x : S33 => (x.f0, x.f1)) (fun p => (⟨p.1, p.2⟩ : S33)) (fun _ => rfl) (fits_struct Try.underlying33 (by kernel_rfl) (fitsRow_cons rfl (fun i f' h => match i, h with | 0, h => by injection h with h; subst h; decide | k + 1, h => by cases h) fit27 (fitsRow_one rfl fit3)))
theorem fit57 : Fits Try.prog 57 k57 (fun x => (Lit.int .i64 x.f0).wf = true ∧ (Lit.int .i64 x.f1).wf = true ∧ (Lit.int .u64 x.f2).wf = true ∧ (Lit.int .u64 x.f3.f0).wf = true ∧ (Lit.int .i64 x.f3.f1).wf = true) := fits_iso (fun x : S57 => (x.f0, x.f1, x.f2, x.f3)) (fun p => (⟨p.1, p.2.1, p.2.2.1, p.2.2.2⟩ : S57)) (fun _ => rfl) (fits_struct Try.underlying57 (by kernel_rfl) (fitsRow_cons rfl (fun i f' h => match i, h with | 0, h => by injection h with h; subst h; decide | 1, h => by injection h with h; subst h; decide | 2, h => by injection h with h; subst h; decide | k + 3, h => by cases h) fit3 (fitsRow_cons rfl (fun i f' h => match i, h with | 0, h => by injection h with h; subst h; decide | 1, h => by injection h with h; subst h; decide | k + 2, h => by cases h) fit3 (fitsRow_cons rfl (fun i f' h => match i, h with | 0, h => by injection h with h; subst h; decide | k + 1, h => by cases h) fit27 (fitsRow_one rfl fit33)))))
theorem fit53 : Fits Try.prog 53 (Kd.slice 57 k57) (fun x => ∀ x_ ∈ x, (Lit.int .i64 x_.f0).wf = true ∧ (Lit.int .i64 x_.f1).wf = true ∧ (Lit.int .u64 x_.f2).wf = true ∧ (Lit.int .u64 x_.f3.f0).wf = true ∧ (Lit.int .i64 x_.f3.f1).wf = true) := fits_slice Try.underlying53 (by kernel_rfl) fit57
set_option maxRecDepth 100000 in
theorem lifted (os : Os) (started : os.Started) (H : Type) (enc : TypeId × Value → H) :
 ReturnsInHanded {} Try.checked os 7 .any (Rows.slotPlaysSpec.pre6 enc Try.prog Try.f7 Rows.slotPlaysRow.domain false) (Rows.slotPlaysSpec.post enc Try.prog Try.f7 false true false false) := by
 refine returnsInHanded_of_change_sized (C := Try.checked) own started (by kernel_rfl) Try.func7
  (ChangeSpec.witness6 (enc := enc) (C := Try.checked) false ⟨#[], #[.int .i64 0, .slice none 0 0], []⟩ 8 (by kernel_rfl) (by kernel_rfl) (by kernel_rfl) (by kernel_rfl)) ?_
 intro W base args ds gs before hval0 hW hcnd hsz0 _
 have hval : ∀ (j : Nat) t v, Try.f7.params[j]? = some t → args[j]? = some v → Value.okWide Try.prog W .any base t v := hval0
 have hW' := hW
 obtain ⟨p, q, hA0, hV, rfl, hfz, hnd⟩ := hW
 have hA : DataW.TrodAll enc Try.prog W 0 (fun _ => true) true Try.f7.params.toList args.toList ds p := hA0
 rw [Try.params7] at hA hval
 obtain ⟨v0, vs0, d0, ds0, p0, q0, hargs, rfl, rfl, h0, r0⟩ := trodAll_cons hA
 obtain ⟨v1, vs1, d1, ds1, p1, q1, rfl, rfl, rfl, h1, r1⟩ := trodAll_cons r0
 obtain ⟨rfl, rfl, rfl⟩ := trodAll_nil r1
 obtain rfl : args = #[v0, v1] := by cases args; simp_all
 obtain ⟨rfl, rfl⟩ := trodVars_none hV
 have k0 := h0
 have lt0 : ∀ x ∈ p0, x.block < W.heap.size := by obtain ⟨m, hm⟩ := k0; exact DataW.trod_lt m _ _ _ hm
 obtain ⟨a0, rfl, rfl, rfl, w0⟩ := open_int Try.underlying3 (hval 0 3 v0 rfl rfl) h0
 have k1 := h1
 have lt1 : ∀ x ∈ p1, x.block < W.heap.size := by obtain ⟨m, hm⟩ := k1; exact DataW.trod_lt m _ _ _ hm
 obtain ⟨a1, len1, cap1, rfl⟩ := okWide_slice Try.underlying53 (hval 1 53 v1 rfl rfl)
 obtain ⟨fu1, hf1⟩ := h1
 have hb1 := slice_bound Try.underlying53 hf1 hsz0 (j := 1) (by kernel_rfl) (by rfl) (b := 40) (by kernel_rfl)
 obtain ⟨l1, rfl, hc1, hr1, hg1⟩ := slice_arg fit53 rfl hf1
 clear hA0 hval0 hsz0
 have hk := SlotPlays_pure a0 l1 w0 hb1 hg1
 refine (vergerlaw9_SlotPlays.calls a0 _ _ l1 true W hr1 hc1 hk).mono ?_
 rintro e W' ⟨rfl, bel0⟩
 have bel : Below W.heap.size W W' := bel0
 exact ⟨_, rfl, _, _, _, [], _, [], hW', trodAll_mk1 (shut_bool Try.underlying4 _), (trodAll_cons_mk (Below.trod laidOut (by kernel_rfl) (of_decide_eq_true (by kernel_rfl)) k0 bel lt0) (trodAll_cons_mk (Below.trod laidOut (by kernel_rfl) (of_decide_eq_true (by kernel_rfl)) k1 bel lt1) trodAll_mk0)), rfl, bel.frame _, fun h => by cases h⟩
theorem over : Rows.slotPlaysRow.holds Try.pinned (OpenSpec.ofChange Rows.slotPlaysSpec) :=
 OpenClaim.holds_of_wide 7 Try.f7 rfl rfl rfl rfl rfl rfl rfl ⟨rfl, rfl, rfl, rfl, rfl⟩ rfl rfl rfl rfl rfl (by kernel_rfl) Try.func7 (by kernel_rfl)
  (of_decide_eq_true (by kernel_rfl)) (by unfold Func.isWrapper; first | (rw [if_pos (by decide +kernel)]; kernel_rfl) | (rw [if_neg (by decide +kernel)]; exact ⟨rfl, rfl⟩))
  (fun os started H enc _ => lifted os started H enc)
end Go.Proofs.Ytfhapffjnafkbaa.slotPlays
namespace Go.Proofs.Ytfhapffjnafkbaa
theorem slotPlays_holds : Rows.SlotPlaysSaid := slotPlays.over
#print axioms slotPlays_holds
end Go.Proofs.Ytfhapffjnafkbaa
