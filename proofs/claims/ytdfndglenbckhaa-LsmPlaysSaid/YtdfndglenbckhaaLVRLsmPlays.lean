-- a text of this work, without what this claim doesn't use (wip/shake.py)
import Derived.Test.YtdfndglenbckhaaRows
import Derived.Test.YtdfndglenbckhaaLVULsmPlays
import Derived.WalkKit
import Derived.ProofKit
import Derived.OpenShut
import Derived.ShutString
import Derived.ChangeOld
import Derived.Below
import Derived.SizedLaws
import Derived.Lib.SmallJoins
namespace Go.Proofs.Ytdfndglenbckhaa.lsmPlays
open Go.ChangeShapes Go.WideShapes Go.ChangeAt Go.RowKit Go.Proofs.Ytdfndglenbckhaa.VOpen Go.Proofs.Ytdfndglenbckhaa.V Go.Proofs.YtdfndglenbckhaaW.PrintWords Go.Joins
open Go.ChangeMaps (open_string shut_string)
set_option linter.unusedVariables false
theorem own : ownKnob Try.prog.godebug = none := by kernel_rfl
theorem laidOut : laidOutB Try.prog = true := by kernel_rfl
theorem fit3 : Fits Try.prog 3 (Kd.int .i64) (fun x => (Lit.int .i64 x).wf = true) := fits_int Try.underlying3 (by kernel_rfl)
theorem fit23 : Fits Try.prog 23 (Kd.int .u64) (fun x => (Lit.int .u64 x).wf = true) := fits_int Try.underlying23 (by kernel_rfl)
theorem fit46 : Fits Try.prog 46 k46 (fun x => (Lit.int .u64 x.f0).wf = true ∧ (Lit.int .i64 x.f1).wf = true) := fits_iso (fun x : S46 => (x.f0, x.f1)) (fun p => (⟨p.1, p.2⟩ : S46)) (fun _ => rfl) (fits_struct Try.underlying46 (by kernel_rfl) (fitsRow_cons rfl (fun i f' h => match i, h with | 0, h => by injection h with h; subst h; decide | k + 1, h => by cases h) fit23 (fitsRow_one rfl fit3)))
theorem fit62 : Fits Try.prog 62 k62 (fun x => (Lit.int .i64 x.f0).wf = true ∧ (Lit.int .u64 x.f1.f0).wf = true ∧ (Lit.int .i64 x.f1.f1).wf = true) := fits_iso (fun x : S62 => (x.f0, x.f1)) (fun p => (⟨p.1, p.2⟩ : S62)) (fun _ => rfl) (fits_struct Try.underlying62 (by kernel_rfl) (fitsRow_cons rfl (fun i f' h => match i, h with | 0, h => by injection h with h; subst h; decide | k + 1, h => by cases h) fit3 (fitsRow_one rfl fit46)))
theorem fit55 : Fits Try.prog 55 (Kd.slice 62 k62) (fun x => ∀ x_ ∈ x, (Lit.int .i64 x_.f0).wf = true ∧ (Lit.int .u64 x_.f1.f0).wf = true ∧ (Lit.int .i64 x_.f1.f1).wf = true) := fits_slice Try.underlying55 (by kernel_rfl) fit62
set_option maxRecDepth 100000 in
theorem lifted (os : Os) (started : os.Started) (H : Type) (enc : TypeId × Value → H) :
 ReturnsInHanded {} Try.checked os 4 .any (Rows.lsmPlaysSpec.pre6 enc Try.prog Try.f4 Rows.lsmPlaysRow.domain false) (Rows.lsmPlaysSpec.post enc Try.prog Try.f4 false true false false) := by
 refine returnsInHanded_of_change_sized (C := Try.checked) own started (by kernel_rfl) Try.func4
  (ChangeSpec.witness6 (enc := enc) (C := Try.checked) false ⟨#[], #[.slice none 0 0], []⟩ 8 (by kernel_rfl) (by kernel_rfl) (by kernel_rfl) (by kernel_rfl)) ?_
 intro W base args ds gs before hval0 hW hcnd hsz0 _
 have hval : ∀ (j : Nat) t v, Try.f4.params[j]? = some t → args[j]? = some v → Value.okWide Try.prog W .any base t v := hval0
 have hW' := hW
 obtain ⟨p, q, hA0, hV, rfl, hfz, hnd⟩ := hW
 have hA : DataW.TrodAll enc Try.prog W 0 (fun _ => true) true Try.f4.params.toList args.toList ds p := hA0
 rw [Try.params4] at hA hval
 obtain ⟨v0, vs0, d0, ds0, p0, q0, hargs, rfl, rfl, h0, r0⟩ := trodAll_cons hA
 obtain ⟨rfl, rfl, rfl⟩ := trodAll_nil r0
 obtain rfl : args = #[v0] := by cases args; simp_all
 obtain ⟨rfl, rfl⟩ := trodVars_none hV
 have k0 := h0
 have lt0 : ∀ x ∈ p0, x.block < W.heap.size := by obtain ⟨m, hm⟩ := k0; exact DataW.trod_lt m _ _ _ hm
 obtain ⟨a0, len0, cap0, rfl⟩ := okWide_slice Try.underlying55 (hval 0 55 v0 rfl rfl)
 obtain ⟨fu0, hf0⟩ := h0
 have hb0 := slice_bound Try.underlying55 hf0 hsz0 (j := 0) (by kernel_rfl) (by rfl) (b := 24) (by kernel_rfl)
 obtain ⟨l0, rfl, hc0, hr0, hg0⟩ := slice_arg fit55 rfl hf0
 clear hA0 hval0 hsz0
 have hk := LsmPlays_pure l0 hb0 hg0
 refine (vergerlaw7_LsmPlays.calls _ _ l0 true W hr0 hc0 hk).mono ?_
 rintro e W' ⟨rfl, bel0⟩
 have bel : Below W.heap.size W W' := bel0
 exact ⟨_, rfl, _, _, _, [], _, [], hW', trodAll_mk1 (shut_bool Try.underlying4 _), (trodAll_cons_mk (Below.trod laidOut (by kernel_rfl) (of_decide_eq_true (by kernel_rfl)) k0 bel lt0) trodAll_mk0), rfl, bel.frame _, fun h => by cases h⟩
theorem over : Rows.lsmPlaysRow.holds Try.pinned (OpenSpec.ofChange Rows.lsmPlaysSpec) :=
 OpenClaim.holds_of_wide 4 Try.f4 rfl rfl rfl rfl rfl rfl rfl ⟨rfl, rfl, rfl, rfl, rfl⟩ rfl rfl rfl rfl rfl (by kernel_rfl) Try.func4 (by kernel_rfl)
  (of_decide_eq_true (by kernel_rfl)) (by unfold Func.isWrapper; first | (rw [if_pos (by decide +kernel)]; kernel_rfl) | (rw [if_neg (by decide +kernel)]; exact ⟨rfl, rfl⟩))
  (fun os started H enc _ => lifted os started H enc)
end Go.Proofs.Ytdfndglenbckhaa.lsmPlays
namespace Go.Proofs.Ytdfndglenbckhaa
theorem lsmPlays_holds : Rows.LsmPlaysSaid := lsmPlays.over
#print axioms lsmPlays_holds
end Go.Proofs.Ytdfndglenbckhaa
