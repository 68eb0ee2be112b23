-- a text of this work, without what this claim doesn't use (wip/shake.py)
import Derived.Test.YthcnpkkpjfigeaaKVP5W
import Derived.Test.YthcnpkkpjfigeaaKVXClone
set_option linter.unusedVariables false
set_option linter.unusedSimpArgs false
namespace Go.Proofs.YthcnpkkpjfigeaaW.PrintWords
open Go.RowKit
namespace Kd
theorem RC_Vbase {α : Type} {d : Kd α} {e base b2 : Nat} {ok : Nat → Prop} {w : World} {v : Value} {xs : List α} (h : d.RC e w base ok v xs) : V d e w b2 (fun k => base ≤ k) v xs := by
 obtain ⟨_, A, n, c, c', rfl, h1, h2, h3⟩ := h
 obtain ⟨hn, hc, hF⟩ := V_at (R_V (base' := base) (R_mono (R_bound h3) (fun k hk => hk.2.1) : d.R e w base (fun k => base ≤ k) _ _))
 subst hn
 exact ⟨A, c, rfl, h1, hF⟩
end Kd
end Go.Proofs.YthcnpkkpjfigeaaW.PrintWords
namespace Go.Proofs.Ythcnpkkpjfigeaa.V
open Go.RowKit Go.Proofs.YthcnpkkpjfigeaaW.PrintWords Go.Proofs.YthcnpkkpjfigeaaW.PrintLast Go.Proofs.YthcnpkkpjfigeaaW.PrintMore
theorem clip_exact (A : Option Addr) (n c : Nat) (w : World) (hl : n ≤ c) (hm : n ≤ 9223372036854775807) :
 Calls Try.prog 43 #[.slice A n c] w fun e w' => e = .returned (.slice A n n) ∧ w = w' := by
 go_enter Try.func43, Try.ntmps43
 go_wp2
 go_ret
 exact ⟨rfl, rfl⟩
def entry_Sort.f (l0 : List E) : Option (List E) := if l0.length < 1000000000 then some (sortE l0) else none
set_option maxHeartbeats 400000 in
theorem entry_Sort.calls (A0 : Option Addr) (c0 : Nat) (l0 : List E) (r : List E) (w : World) (hr0 : Kd.C k33 w A0 l0.length l0) (hc0 : l0.length ≤ c0) (h : entry_Sort.f l0 = some r) :
 Calls Try.prog 27 #[.slice A0 l0.length c0] w fun e w' => ∃ v0_ : Value, e = .returned (v0_) ∧ Kd.V k33 33 w' w.heap.size (fun k_ => (w.heap.size ≤ k_)) v0_ r ∧ Below w.heap.size w w' := by
 unfold entry_Sort.f at h
 by_cases hlt : l0.length < 1000000000
 · rw [if_pos hlt] at h
   obtain rfl := Option.some.inj h
   clear h
   obtain ⟨K, hK⟩ := stable_told l0 hlt
   have HS := Aside0.mk (hK K (Nat.le_refl _))
   have HCl := Aside0.mk (show api_Entry_47.f l0 = some l0 from if_pos (by omega))
   have HM := Aside0.mk (show l0.length ≤ 9223372036854775807 by omega)
   clear hK hlt
   have HR0 := Aside0.mk hr0
   have HC0 := Aside0.mk hc0
   clear hr0 hc0
   go_enter Try.func27, Try.ntmps27
   go_wp2_with (first
    | ((with_reducible refine gate_callee (f := 47) rfl ?_); refine goesL_ (some 5) rfl rfl Try.func47 (by kernel_rfl) rfl #[.slice A0 l0.length c0] rfl (by (try simp only [List.map_toArray, List.map_cons, List.map_nil]); first | done | rfl) ?_; (with_reducible refine (api_Entry_47.calls _ _ l0 l0 _ HR0.out HC0.out HCl.out).mono ?_); rintro e w1 ⟨v1, rfl, ho, hb⟩; refine ⟨_, rfl, ?_⟩; obtain ⟨A1, c1, e1⟩ := Kd.R_slice ho; subst e1; have HO := Aside0.mk ho; have HB := Aside0.mk hb; have HL1 := Aside0.mk (Kd.R_reads' ho).2.1; clear ho hb)
    | ((with_reducible refine gate_callee (f := 43) rfl ?_); refine goesL_ (some 6) rfl rfl Try.func43 (by kernel_rfl) rfl #[.slice A1 l0.length c1] rfl (by (try simp only [List.map_toArray, List.map_cons, List.map_nil]); first | done | rfl) ?_; (with_reducible refine (clip_exact A1 l0.length c1 _ HL1.out HM.out).mono ?_); rintro e w2 ⟨rfl, rfl⟩; refine ⟨_, rfl, ?_⟩)
    | ((with_reducible refine gate_callee (f := 48) rfl ?_); refine goesL_ (some 8) rfl rfl Try.func48 (by kernel_rfl) rfl #[.slice A1 l0.length l0.length, .func (.func 49) #[] #[]] rfl (by (try simp only [List.map_toArray, List.map_cons, List.map_nil]); first | done | rfl) ?_; (with_reducible refine (api_Entry_48.calls K (fun _ => True) (.slice A1 l0.length l0.length) l0 (sortE l0) w _ HB.out (Kd.RC_cut HO.out (Nat.le_refl _) HL1.out) HS.out).mono ?_); rintro e w3 ⟨rfl, ho, hb, hk⟩; refine ⟨_, rfl, ?_⟩; have n0_ := Aside0.mk ho; have n1_ := Aside0.mk hb; clear HO HB; have HO := n0_; have HB := n1_; clear n0_ n1_ ho hb hk))
   go_ret
   exact ⟨_, rfl, Kd.RC_Vbase HO.out, HB.out⟩
 · rw [if_neg hlt] at h
   cases h
end Go.Proofs.Ythcnpkkpjfigeaa.V
