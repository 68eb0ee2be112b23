-- a text of this work, without what this claim doesn't use (wip/shake.py)
import Derived.Test.YthghkglkifeagaaGreatRows
import Derived.Test.YthghkglkifeagaaGreatPVUQueuePlays
import Derived.WalkKit
import Derived.ProofKit
import Derived.OpenShut
import Derived.ShutString
import Derived.ChangeOld
import Derived.Below
import Derived.SizedLaws
import Derived.Lib.SmallJoins
set_option maxRecDepth 100000
set_option maxHeartbeats 8000000
namespace Go.Proofs.YthghkglkifeagaaGreat.queuePlays
open Go.ChangeShapes Go.WideShapes Go.ChangeAt Go.RowKit Go.Proofs.YthghkglkifeagaaGreat.VOpen Go.Proofs.YthghkglkifeagaaGreat.V Go.Proofs.YthghkglkifeagaaGreatW.PrintWords Go.Joins
open Go.ChangeMaps (open_string shut_string)
set_option linter.unusedVariables false
theorem own : ownKnob Tryz.prog.godebug = none := by kernel_rfl
theorem laidOut : laidOutB Tryz.prog = true := by kernel_rfl
theorem fit3 : Fits Tryz.prog 3 (Kd.int .i64) (fun x => (Lit.int .i64 x).wf = true) := fits_int Tryz.underlying3 (by kernel_rfl)
theorem fit28 : Fits Tryz.prog 28 (Kd.int .u64) (fun x => (Lit.int .u64 x).wf = true) := fits_int Tryz.underlying28 (by kernel_rfl)
theorem fit30 : Fits Tryz.prog 30 k30 (fun x => (Lit.int .i64 x.f0).wf = true ∧ (Lit.int .i64 x.f1).wf = true ∧ (Lit.int .i64 x.f2).wf = true ∧ (Lit.int .u64 x.f3).wf = true ∧ (Lit.int .u64 x.f4).wf = true) := fits_iso (fun x : S30 => (x.f0, x.f1, x.f2, x.f3, x.f4)) (fun p => (⟨p.1, p.2.1, p.2.2.1, p.2.2.2.1, p.2.2.2.2⟩ : S30)) (fun _ => rfl) (fits_struct Tryz.underlying30 (by kernel_rfl) (fitsRow_cons rfl (fun i f' h => match i, h with | 0, h => by injection h with h; subst h; decide | 1, h => by injection h with h; subst h; decide | 2, h => by injection h with h; subst h; decide | 3, h => by injection h with h; subst h; decide | k + 4, h => by cases h) fit3 (fitsRow_cons rfl (fun i f' h => match i, h with | 0, h => by injection h with h; subst h; decide | 1, h => by injection h with h; subst h; decide | 2, h => by injection h with h; subst h; decide | k + 3, h => by cases h) fit3 (fitsRow_cons rfl (fun i f' h => match i, h with | 0, h => by injection h with h; subst h; decide | 1, h => by injection h with h; subst h; decide | k + 2, h => by cases h) fit3 (fitsRow_cons rfl (fun i f' h => match i, h with | 0, h => by injection h with h; subst h; decide | k + 1, h => by cases h) fit28 (fitsRow_one rfl fit28))))))
theorem fit22 : Fits Tryz.prog 22 (Kd.slice 30 k30) (fun x => ∀ x_ ∈ x, (Lit.int .i64 x_.f0).wf = true ∧ (Lit.int .i64 x_.f1).wf = true ∧ (Lit.int .i64 x_.f2).wf = true ∧ (Lit.int .u64 x_.f3).wf = true ∧ (Lit.int .u64 x_.f4).wf = true) := fits_slice Tryz.underlying22 (by kernel_rfl) fit30
theorem lifted (os : Os) (started : os.Started) (H : Type) (enc : TypeId × Value → H) :
 ReturnsInHanded {} Tryz.checked os 5 .any (Rows.queuePlaysSpec.pre6 enc Tryz.prog Tryz.f5 Rows.queuePlaysRow.domain false) (Rows.queuePlaysSpec.post enc Tryz.prog Tryz.f5 false true false false) := by
 refine returnsInHanded_of_change_sized (C := Tryz.checked) own started (by kernel_rfl) Tryz.func5
  (ChangeSpec.witness6 (enc := enc) (C := Tryz.checked) false ⟨#[], #[.int .i64 0, .int .i64 0, .slice none 0 0], []⟩ 8 (by kernel_rfl) (by kernel_rfl) (by kernel_rfl) (by kernel_rfl)) ?_
 intro W base args ds gs before hval0 hW hcnd hsz0 _
 have hval : ∀ (j : Nat) t v, Tryz.f5.params[j]? = some t → args[j]? = some v → Value.okWide Tryz.prog W .any base t v := hval0
 have hW' := hW
 obtain ⟨p, q, hA0, hV, rfl, hfz, hnd⟩ := hW
 have hA : DataW.TrodAll enc Tryz.prog W 0 (fun _ => true) true Tryz.f5.params.toList args.toList ds p := hA0
 rw [Tryz.params5] at hA hval
 obtain ⟨v0, vs0, d0, ds0, p0, q0, hargs, rfl, rfl, h0, r0⟩ := trodAll_cons hA
 obtain ⟨v1, vs1, d1, ds1, p1, q1, rfl, rfl, rfl, h1, r1⟩ := trodAll_cons r0
 obtain ⟨v2, vs2, d2, ds2, p2, q2, rfl, rfl, rfl, h2, r2⟩ := trodAll_cons r1
 obtain ⟨rfl, rfl, rfl⟩ := trodAll_nil r2
 obtain rfl : args = #[v0, v1, v2] := by cases args; simp_all
 obtain ⟨rfl, rfl⟩ := trodVars_none hV
 have k0 := h0
 have lt0 : ∀ x ∈ p0, x.block < W.heap.size := by obtain ⟨m, hm⟩ := k0; exact DataW.trod_lt m _ _ _ hm
 obtain ⟨a0, rfl, rfl, rfl, w0⟩ := open_int Tryz.underlying3 (hval 0 3 v0 rfl rfl) h0
 have k1 := h1
 have lt1 : ∀ x ∈ p1, x.block < W.heap.size := by obtain ⟨m, hm⟩ := k1; exact DataW.trod_lt m _ _ _ hm
 obtain ⟨a1, rfl, rfl, rfl, w1⟩ := open_int Tryz.underlying3 (hval 1 3 v1 rfl rfl) h1
 have k2 := h2
 have lt2 : ∀ x ∈ p2, x.block < W.heap.size := by obtain ⟨m, hm⟩ := k2; exact DataW.trod_lt m _ _ _ hm
 obtain ⟨a2, len2, cap2, rfl⟩ := okWide_slice Tryz.underlying22 (hval 2 22 v2 rfl rfl)
 obtain ⟨fu2, hf2⟩ := h2
 have hb2 := slice_bound Tryz.underlying22 hf2 hsz0 (j := 2) (by kernel_rfl) (by rfl) (b := 40) (by kernel_rfl)
 obtain ⟨l2, rfl, hc2, hr2, hg2⟩ := slice_arg fit22 rfl hf2
 clear hA0 hval0 hsz0
 have hk := c0j a0 a1 l2 w0 w1 hb2 hg2
 refine (vergerlaw10_QueuePlays.calls a0 a1 _ _ l2 true W hr2 hc2 hk).mono ?_
 rintro e W' ⟨rfl, bel0⟩
 have bel : Below W.heap.size W W' := bel0
 exact ⟨_, rfl, _, _, _, [], _, [], hW', trodAll_mk1 (shut_bool Tryz.underlying4 _), (trodAll_cons_mk (Below.trod laidOut (by kernel_rfl) (of_decide_eq_true (by kernel_rfl)) k0 bel lt0) (trodAll_cons_mk (Below.trod laidOut (by kernel_rfl) (of_decide_eq_true (by kernel_rfl)) k1 bel lt1) (trodAll_cons_mk (Below.trod laidOut (by kernel_rfl) (of_decide_eq_true (by kernel_rfl)) k2 bel lt2) trodAll_mk0))), rfl, bel.frame _, fun h => by cases h⟩
theorem over : Rows.queuePlaysRow.holds Tryz.pinned (OpenSpec.ofChange Rows.queuePlaysSpec) :=
 OpenClaim.holds_of_wide 5 Tryz.f5 rfl rfl rfl rfl rfl rfl rfl ⟨rfl, rfl, rfl, rfl, rfl⟩ rfl rfl rfl rfl rfl (by kernel_rfl) Tryz.func5 (by kernel_rfl)
  (of_decide_eq_true (by kernel_rfl)) (by unfold Func.isWrapper; first | (rw [if_pos (by decide +kernel)]; kernel_rfl) | (rw [if_neg (by decide +kernel)]; exact ⟨rfl, rfl⟩))
  (fun os started H enc _ => lifted os started H enc)
end Go.Proofs.YthghkglkifeagaaGreat.queuePlays
namespace Go.Proofs.YthghkglkifeagaaGreat
theorem queuePlays_holds : Rows.QueuePlaysSaid := queuePlays.over
#print axioms queuePlays_holds
end Go.Proofs.YthghkglkifeagaaGreat
