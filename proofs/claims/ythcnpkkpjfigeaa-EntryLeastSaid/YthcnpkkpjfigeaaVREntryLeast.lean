/- EntryLeast: for every input the law returns true, and each argument reads afterwards as it read before. -/
import Derived.Test.YthcnpkkpjfigeaaRows
import Derived.Test.YthcnpkkpjfigeaaVPEntryLeastL
import Derived.Test.YthcnpkkpjfigeaaVUEntryLeast
import Derived.Test.YthcnpkkpjfigeaaVOpen
import Derived.WalkKit
import Derived.ProofKit
import Derived.OpenShut
import Derived.ShutString
import Derived.ChangeOld
import Derived.Below
import Derived.SizedLaws
import Derived.Lib.SmallJoins
namespace Go.Proofs.Ythcnpkkpjfigeaa.entryLeast
open Go.ChangeShapes Go.WideShapes Go.ChangeAt Go.RowKit Go.Proofs.Ythcnpkkpjfigeaa.VOpen Go.Proofs.Ythcnpkkpjfigeaa.V Go.Proofs.YthcnpkkpjfigeaaW.PrintWords Go.Joins
open Go.ChangeMaps (open_string shut_string)
set_option linter.unusedVariables false
theorem own : ownKnob Try.prog.godebug = none := by kernel_rfl
theorem laidOut : laidOutB Try.prog = true := by kernel_rfl
theorem fit27 : Fits Try.prog 27 (Kd.int .u64) (fun x => (Lit.int .u64 x).wf = true) := fits_int Try.underlying27 (by kernel_rfl)
theorem fit3 : Fits Try.prog 3 (Kd.int .i64) (fun x => (Lit.int .i64 x).wf = true) := fits_int Try.underlying3 (by kernel_rfl)
theorem fit33 : Fits Try.prog 33 k33 (fun x => (Lit.int .u64 x.f0).wf = true ∧ (Lit.int .i64 x.f1).wf = true) := fits_iso (fun x : S33 => (x.f0, x.f1)) (fun p => (⟨p.1, p.2⟩ : S33)) (fun _ => rfl) (fits_struct Try.underlying33 (by kernel_rfl) (fitsRow_cons rfl (fun i f' h => match i, h with | 0, h => by injection h with h; subst h; decide | k + 1, h => by cases h) fit27 (fitsRow_one rfl fit3)))
theorem fit43 : Fits Try.prog 43 (Kd.slice 33 k33) (fun x => ∀ x_ ∈ x, (Lit.int .u64 x_.f0).wf = true ∧ (Lit.int .i64 x_.f1).wf = true) := fits_slice Try.underlying43 (by kernel_rfl) fit33
theorem fit56 : Fits Try.prog 56 (Kd.slice 43 (Kd.slice 33 k33)) (fun x => ∀ x_ ∈ x, ∀ x__ ∈ x_, (Lit.int .u64 x__.f0).wf = true ∧ (Lit.int .i64 x__.f1).wf = true) := fits_slice Try.underlying56 (by kernel_rfl) fit43
set_option maxRecDepth 100000 in
theorem lifted (os : Os) (started : os.Started) (H : Type) (enc : TypeId × Value → H) :
    ReturnsInHanded {} Try.checked os 7 .any (Rows.entryLeastSpec.pre6 enc Try.prog Try.f7 Rows.entryLeastRow.domain false) (Rows.entryLeastSpec.post enc Try.prog Try.f7 false true false false) := by
  refine returnsInHanded_of_change_sized (C := Try.checked) own started (by kernel_rfl) Try.func7
    (ChangeSpec.witness6 (enc := enc) (C := Try.checked) false ⟨#[], #[.slice none 0 0], []⟩ 8 (by kernel_rfl) (by kernel_rfl) (by kernel_rfl) (by kernel_rfl)) ?_
  intro W base args ds gs before hval0 hW hcnd hsz0 _
  have hval : ∀ (j : Nat) t v, Try.f7.params[j]? = some t → args[j]? = some v → Value.okWide Try.prog W .any base t v := hval0
  have hW' := hW
  obtain ⟨p, q, hA0, hV, rfl, hfz, hnd⟩ := hW
  have hA : DataW.TrodAll enc Try.prog W 0 (fun _ => true) true Try.f7.params.toList args.toList ds p := hA0
  rw [Try.params7] at hA hval
  obtain ⟨v0, vs0, d0, ds0, p0, q0, hargs, rfl, rfl, h0, r0⟩ := trodAll_cons hA
  obtain ⟨rfl, rfl, rfl⟩ := trodAll_nil r0
  obtain rfl : args = #[v0] := by cases args; simp_all
  obtain ⟨rfl, rfl⟩ := trodVars_none hV
  have k0 := h0
  have lt0 : ∀ x ∈ p0, x.block < W.heap.size := by obtain ⟨m, hm⟩ := k0; exact DataW.trod_lt m _ _ _ hm
  obtain ⟨a0, len0, cap0, rfl⟩ := okWide_slice Try.underlying56 (hval 0 56 v0 rfl rfl)
  obtain ⟨fu0, hf0⟩ := h0
  obtain ⟨l0, rfl, hc0, hr0, hg0⟩ := slice_arg fit56 rfl hf0
  clear hA0 hval0 hsz0
  obtain ⟨k, hk⟩ := EntryLeast_pure l0 hr0.2.1 hg0
  refine (vergerlaw5_EntryLeast.calls k _ _ l0 true W hr0 hc0 hk).mono ?_
  rintro e W' ⟨rfl, bel0⟩
  have bel : Below W.heap.size W W' := bel0
  exact ⟨_, rfl, _, _, _, [], _, [], hW', trodAll_mk1 (shut_bool Try.underlying4 _), (trodAll_cons_mk (Below.trod laidOut (by kernel_rfl) (of_decide_eq_true (by kernel_rfl)) k0 bel lt0) trodAll_mk0), rfl, bel.frame _, fun h => by cases h⟩
theorem over : Rows.entryLeastRow.holds Try.pinned (OpenSpec.ofChange Rows.entryLeastSpec) :=
  OpenClaim.holds_of_wide 7 Try.f7 rfl rfl rfl rfl rfl rfl rfl ⟨rfl, rfl, rfl, rfl, rfl⟩ rfl rfl rfl rfl rfl (by kernel_rfl) Try.func7 (by kernel_rfl)
    (of_decide_eq_true (by kernel_rfl)) (by unfold Func.isWrapper; first | (rw [if_pos (by decide +kernel)]; kernel_rfl) | (rw [if_neg (by decide +kernel)]; exact ⟨rfl, rfl⟩))
    (fun os started H enc _ => lifted os started H enc)
end Go.Proofs.Ythcnpkkpjfigeaa.entryLeast
namespace Go.Proofs.Ythcnpkkpjfigeaa
/-- The row, under a short name, for the claim. -/
theorem entryLeast_holds : Rows.EntryLeastSaid := entryLeast.over
#print axioms entryLeast_holds
end Go.Proofs.Ythcnpkkpjfigeaa
