-- a text of this work, without what this claim doesn't use (wip/shake.py)
import Derived.Test.YtdfndglenbckhaaRows
import Derived.Test.YtdfndglenbckhaaYVUSharedPlays
import Derived.WalkKit
import Derived.ProofKit
import Derived.OpenShut
import Derived.ShutString
import Derived.ChangeOld
import Derived.Below
import Derived.SizedLaws
import Derived.Lib.SmallJoins
namespace Go.Proofs.Ytdfndglenbckhaa.sharedPlays
open Go.ChangeShapes Go.WideShapes Go.ChangeAt Go.RowKit Go.Proofs.Ytdfndglenbckhaa.VOpen Go.Proofs.Ytdfndglenbckhaa.V Go.Proofs.YtdfndglenbckhaaW.PrintWords Go.Joins
open Go.ChangeMaps (open_string shut_string)
set_option linter.unusedVariables false
theorem own : ownKnob Try.prog.godebug = none := by kernel_rfl
theorem laidOut : laidOutB Try.prog = true := by kernel_rfl
theorem fit3 : Fits Try.prog 3 (Kd.int .i64) (fun x => (Lit.int .i64 x).wf = true) := fits_int Try.underlying3 (by kernel_rfl)
theorem fit4 : Fits Try.prog 4 Kd.bool (fun x => True) := fits_bool Try.underlying4 (by kernel_rfl)
theorem fit23 : Fits Try.prog 23 (Kd.int .u64) (fun x => (Lit.int .u64 x).wf = true) := fits_int Try.underlying23 (by kernel_rfl)
theorem fit46 : Fits Try.prog 46 k46 (fun x => (Lit.int .u64 x.f0).wf = true ∧ (Lit.int .i64 x.f1).wf = true) := fits_iso (fun x : S46 => (x.f0, x.f1)) (fun p => (⟨p.1, p.2⟩ : S46)) (fun _ => rfl) (fits_struct Try.underlying46 (by kernel_rfl) (fitsRow_cons rfl (fun i f' h => match i, h with | 0, h => by injection h with h; subst h; decide | k + 1, h => by cases h) fit23 (fitsRow_one rfl fit3)))
theorem fit30 : Fits Try.prog 30 (Kd.slice 46 k46) (fun x => ∀ x_ ∈ x, (Lit.int .u64 x_.f0).wf = true ∧ (Lit.int .i64 x_.f1).wf = true) := fits_slice Try.underlying30 (by kernel_rfl) fit46
theorem fit32 : Fits Try.prog 32 k32 (fun x => (Lit.int .i64 x.f0).wf = true ∧ (Lit.int .i64 x.f1).wf = true ∧ (Lit.int .i64 x.f2).wf = true ∧ True ∧ (∀ x_f4_ ∈ x.f4, (Lit.int .u64 x_f4_.f0).wf = true ∧ (Lit.int .i64 x_f4_.f1).wf = true) ∧ (∀ x_f5_ ∈ x.f5, (Lit.int .u64 x_f5_.f0).wf = true ∧ (Lit.int .i64 x_f5_.f1).wf = true)) := fits_iso (fun x : S32 => (x.f0, x.f1, x.f2, x.f3, x.f4, x.f5)) (fun p => (⟨p.1, p.2.1, p.2.2.1, p.2.2.2.1, p.2.2.2.2.1, p.2.2.2.2.2⟩ : S32)) (fun _ => rfl) (fits_struct Try.underlying32 (by kernel_rfl) (fitsRow_cons rfl (fun i f' h => match i, h with | 0, h => by injection h with h; subst h; decide | 1, h => by injection h with h; subst h; decide | 2, h => by injection h with h; subst h; decide | 3, h => by injection h with h; subst h; decide | 4, h => by injection h with h; subst h; decide | k + 5, h => by cases h) fit3 (fitsRow_cons rfl (fun i f' h => match i, h with | 0, h => by injection h with h; subst h; decide | 1, h => by injection h with h; subst h; decide | 2, h => by injection h with h; subst h; decide | 3, h => by injection h with h; subst h; decide | k + 4, h => by cases h) fit3 (fitsRow_cons rfl (fun i f' h => match i, h with | 0, h => by injection h with h; subst h; decide | 1, h => by injection h with h; subst h; decide | 2, h => by injection h with h; subst h; decide | k + 3, h => by cases h) fit3 (fitsRow_cons rfl (fun i f' h => match i, h with | 0, h => by injection h with h; subst h; decide | 1, h => by injection h with h; subst h; decide | k + 2, h => by cases h) fit4 (fitsRow_cons rfl (fun i f' h => match i, h with | 0, h => by injection h with h; subst h; decide | k + 1, h => by cases h) fit30 (fitsRow_one rfl fit30)))))))
theorem fit22 : Fits Try.prog 22 (Kd.slice 32 k32) (fun x => ∀ x_ ∈ x, (Lit.int .i64 x_.f0).wf = true ∧ (Lit.int .i64 x_.f1).wf = true ∧ (Lit.int .i64 x_.f2).wf = true ∧ True ∧ (∀ x__f4_ ∈ x_.f4, (Lit.int .u64 x__f4_.f0).wf = true ∧ (Lit.int .i64 x__f4_.f1).wf = true) ∧ (∀ x__f5_ ∈ x_.f5, (Lit.int .u64 x__f5_.f0).wf = true ∧ (Lit.int .i64 x__f5_.f1).wf = true)) := fits_slice Try.underlying22 (by kernel_rfl) fit32
set_option maxRecDepth 100000 in
theorem lifted (os : Os) (started : os.Started) (H : Type) (enc : TypeId × Value → H) :
 ReturnsInHanded {} Try.checked os 3 .any (Rows.sharedPlaysSpec.pre6 enc Try.prog Try.f3 Rows.sharedPlaysRow.domain false) (Rows.sharedPlaysSpec.post enc Try.prog Try.f3 false true false false) := by
 refine returnsInHanded_of_change_sized (C := Try.checked) own started (by kernel_rfl) Try.func3
  (ChangeSpec.witness6 (enc := enc) (C := Try.checked) false ⟨#[], #[.slice none 0 0, .int .i64 0, .int .u64 0], []⟩ 8 (by kernel_rfl) (by kernel_rfl) (by kernel_rfl) (by kernel_rfl)) ?_
 intro W base args ds gs before hval0 hW hcnd hsz0 _
 have hval : ∀ (j : Nat) t v, Try.f3.params[j]? = some t → args[j]? = some v → Value.okWide Try.prog W .any base t v := hval0
 have hW' := hW
 obtain ⟨p, q, hA0, hV, rfl, hfz, hnd⟩ := hW
 have hA : DataW.TrodAll enc Try.prog W 0 (fun _ => true) true Try.f3.params.toList args.toList ds p := hA0
 rw [Try.params3] at hA hval
 obtain ⟨v0, vs0, d0, ds0, p0, q0, hargs, rfl, rfl, h0, r0⟩ := trodAll_cons hA
 obtain ⟨v1, vs1, d1, ds1, p1, q1, rfl, rfl, rfl, h1, r1⟩ := trodAll_cons r0
 obtain ⟨v2, vs2, d2, ds2, p2, q2, rfl, rfl, rfl, h2, r2⟩ := trodAll_cons r1
 obtain ⟨rfl, rfl, rfl⟩ := trodAll_nil r2
 obtain rfl : args = #[v0, v1, v2] := by cases args; simp_all
 obtain ⟨rfl, rfl⟩ := trodVars_none hV
 have k0 := h0
 have lt0 : ∀ x ∈ p0, x.block < W.heap.size := by obtain ⟨m, hm⟩ := k0; exact DataW.trod_lt m _ _ _ hm
 obtain ⟨a0, len0, cap0, rfl⟩ := okWide_slice Try.underlying22 (hval 0 22 v0 rfl rfl)
 obtain ⟨fu0, hf0⟩ := h0
 have hb0 := slice_bound Try.underlying22 hf0 hsz0 (j := 0) (by kernel_rfl) (by rfl) (b := 80) (by kernel_rfl)
 obtain ⟨l0, rfl, hc0, hr0, hg0⟩ := slice_arg fit22 rfl hf0
 have k1 := h1
 have lt1 : ∀ x ∈ p1, x.block < W.heap.size := by obtain ⟨m, hm⟩ := k1; exact DataW.trod_lt m _ _ _ hm
 obtain ⟨a1, rfl, rfl, rfl, w1⟩ := open_int Try.underlying3 (hval 1 3 v1 rfl rfl) h1
 have k2 := h2
 have lt2 : ∀ x ∈ p2, x.block < W.heap.size := by obtain ⟨m, hm⟩ := k2; exact DataW.trod_lt m _ _ _ hm
 obtain ⟨a2, rfl, rfl, rfl, w2⟩ := open_int Try.underlying23 (hval 2 23 v2 rfl rfl) h2
 clear hA0 hval0 hsz0
 have hk := SharedPlays_pure l0 a1 a2 hb0 hg0 w1 w2
 refine (vergerlaw8_SharedPlays.calls _ _ l0 a1 a2 true W hr0 hc0 hk).mono ?_
 rintro e W' ⟨rfl, bel0⟩
 have bel : Below W.heap.size W W' := bel0
 exact ⟨_, rfl, _, _, _, [], _, [], hW', trodAll_mk1 (shut_bool Try.underlying4 _), (trodAll_cons_mk (Below.trod laidOut (by kernel_rfl) (of_decide_eq_true (by kernel_rfl)) k0 bel lt0) (trodAll_cons_mk (Below.trod laidOut (by kernel_rfl) (of_decide_eq_true (by kernel_rfl)) k1 bel lt1) (trodAll_cons_mk (Below.trod laidOut (by kernel_rfl) (of_decide_eq_true (by kernel_rfl)) k2 bel lt2) trodAll_mk0))), rfl, bel.frame _, fun h => by cases h⟩
theorem over : Rows.sharedPlaysRow.holds Try.pinned (OpenSpec.ofChange Rows.sharedPlaysSpec) :=
 OpenClaim.holds_of_wide 3 Try.f3 rfl rfl rfl rfl rfl rfl rfl ⟨rfl, rfl, rfl, rfl, rfl⟩ rfl rfl rfl rfl rfl (by kernel_rfl) Try.func3 (by kernel_rfl)
  (of_decide_eq_true (by kernel_rfl)) (by unfold Func.isWrapper; first | (rw [if_pos (by decide +kernel)]; kernel_rfl) | (rw [if_neg (by decide +kernel)]; exact ⟨rfl, rfl⟩))
  (fun os started H enc _ => lifted os started H enc)
end Go.Proofs.Ytdfndglenbckhaa.sharedPlays
namespace Go.Proofs.Ytdfndglenbckhaa
theorem sharedPlays_holds : Rows.SharedPlaysSaid := sharedPlays.over
#print axioms sharedPlays_holds
end Go.Proofs.Ytdfndglenbckhaa
