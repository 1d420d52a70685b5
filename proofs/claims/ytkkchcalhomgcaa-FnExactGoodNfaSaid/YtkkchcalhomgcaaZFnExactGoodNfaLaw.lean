/- The law FnExactGoodNfa holds of the program: for every input the call returns true and each argument reads as before. No condition. -/
import Derived.Test.YtkkchcalhomgcaaRows
import Derived.Test.YtkkchcalhomgcaaYFnExactGoodNfax4
import Derived.Test.YtkkchcalhomgcaaZFnExactGoodNfaPure
import Derived.Test.YtkkchcalhomgcaaZFnExactGoodNfaRead
import Derived.WalkKit
import Derived.ProofKit
import Derived.OpenShut
import Derived.ShutString
import Derived.ChangeOld
import Derived.Below
import Derived.SizedLaws
namespace Go.Proofs.Ytkkchcalhomgcaa.fnExactGoodNfa
open Go.ChangeShapes Go.WideShapes Go.ChangeAt Go.RowKit Go.Proofs.YtkkchcalhomgcaaW.PrintWords Go.Proofs.Ytkkchcalhomgcaa.Read Go.Proofs.Ytkkchcalhomgcaa.PFnExactGoodNfa
open Go.ChangeMaps (open_string shut_string)
set_option linter.unusedVariables false
theorem own : ownKnob Try.prog.godebug = none := by kernel_rfl
theorem laidOut : laidOutB Try.prog = true := by kernel_rfl
set_option maxRecDepth 100000 in
theorem reads0 : Opens Try.prog 55 (Kd.pair (Kd.int .i64) (Kd.pair (Kd.int .i64) (Kd.pair (Kd.int .i64) (Kd.slice 136 k136)))) (fun p => ((Lit.int .i64 p.1).wf = true ∧ ((Lit.int .i64 p.2.1).wf = true ∧ ((Lit.int .i64 p.2.2.1).wf = true ∧ (p.2.2.2.length ≤ maxLen ∧ ∀ a, a ∈ p.2.2.2 → ((Lit.int .i64 a.f0).wf = true ∧ ((Lit.int .i64 a.f1).wf = true ∧ (True ∧ (True ∧ (Lit.int .i64 a.f4).wf = true))))))))) := (opens_struct Try.underlying55 (by kernel_rfl) (from_cons rfl (by kernel_rfl) (opens_int Try.underlying3) (from_cons rfl (by kernel_rfl) (opens_int Try.underlying3) (from_cons rfl (by kernel_rfl) (opens_int Try.underlying3) (from_last rfl (by kernel_rfl) (opens_slice (by kernel_rfl) (Opens.iso (opens_struct Try.underlying136 (by kernel_rfl) (from_cons rfl (by kernel_rfl) (opens_int Try.underlying3) (from_cons rfl (by kernel_rfl) (opens_int Try.underlying3) (from_cons rfl (by kernel_rfl) (opens_bool Try.underlying4) (from_cons rfl (by kernel_rfl) (opens_bool Try.underlying4) (from_last rfl (by kernel_rfl) (opens_int Try.underlying3))))))) (fun x : S136 => (x.f0, x.f1, x.f2, x.f3, x.f4)) (fun p => ⟨p.1, p.2.1, p.2.2.1, p.2.2.2.1, p.2.2.2.2⟩) (fun _ => rfl)) Try.underlying53))))))
set_option maxRecDepth 100000 in
theorem lifted (os : Os) (started : os.Started) (H : Type) (enc : TypeId × Value → H) :
    ReturnsInHanded {} Try.checked os 9 .any (Rows.fnExactGoodNfaSpec.pre6 enc Try.prog Try.f9 Rows.fnExactGoodNfaRow.domain false) (Rows.fnExactGoodNfaSpec.post enc Try.prog Try.f9 false true false false) := by
  refine returnsInHanded_of_change_sized (C := Try.checked) own started (by kernel_rfl) Try.func9
    (ChangeSpec.witness6 (enc := enc) (C := Try.checked) false ⟨#[], #[.agg #[.int .i64 0, .int .i64 0, .int .i64 0, .slice none 0 0]], []⟩ 8 (by kernel_rfl) (by kernel_rfl) (by kernel_rfl) (by kernel_rfl)) ?_
  intro W base args ds gs before hval0 hW hcnd hsz0 _
  have hsz : (DataW.weightsEach Try.prog (Try.f9.params.toList ++ Rows.fnExactGoodNfaSpec.plain.varTypes Try.prog) (ds ++ gs)).all (· ≤ reachBytes) = true := hsz0
  have hval : ∀ (j : Nat) t v, Try.f9.params[j]? = some t → args[j]? = some v → Value.okWide Try.prog W .any base t v := hval0
  have hW' := hW
  obtain ⟨p, q, hA0, hV, rfl, hfz, hnd⟩ := hW
  have hA : DataW.TrodAll enc Try.prog W 0 (fun _ => true) true Try.f9.params.toList args.toList ds p := hA0
  rw [Try.params9] at hA hval hsz
  obtain ⟨v0, vs0, d0, ds0, p0, q0, hargs, rfl, rfl, h0, r0⟩ := trodAll_cons hA
  obtain ⟨rfl, rfl, rfl⟩ := trodAll_nil r0
  obtain rfl : args = #[v0] := by cases args; simp_all
  obtain ⟨rfl, rfl⟩ := trodVars_none hV
  have k0 := h0
  have lt0 : ∀ x ∈ p0, x.block < W.heap.size := by obtain ⟨m, hm⟩ := k0; exact DataW.trod_lt m _ _ _ hm
  obtain ⟨cs0, ⟨a0_0, a0_1, a0_2, l0_3⟩, rfl, hk0, ⟨w0_0, w0_1, w0_2, ⟨m0_3, w0_3⟩⟩⟩ := agg_of reads0 Try.underlying55 (hval 0 55 v0 rfl rfl) h0
  obtain ⟨_, _, rfl, rfl, ⟨_, _, rfl, rfl, ⟨_, _, rfl, rfl, ⟨A0_3, c0_3, rfl, hl0_3, hC0_3⟩⟩⟩⟩ := hk0
  clear hA0 hval0 hsz0 hsz
  have hr := Pure.FnExactGoodNfa a0_0 a0_1 a0_2 l0_3 w0_0 w0_1 w0_2 m0_3 w0_3
  obtain ⟨k, hr⟩ := hr
  refine (PFnExactGoodNfa.laws_FnExactGoodNfa.calls k a0_0 a0_1 a0_2 A0_3 c0_3 l0_3 true W hC0_3 hl0_3 rfl hr).mono fun e W' ⟨he, bel⟩ => ?_
  subst he
  exact ⟨_, rfl, _, _, _, [], _, [], hW', trodAll_mk1 (shut_bool Try.underlying4 _), (trodAll_cons_mk (Below.trod laidOut (by kernel_rfl) (of_decide_eq_true (by kernel_rfl)) k0 bel lt0) trodAll_mk0), rfl, bel.frame _, fun h => by cases h⟩
theorem over : Rows.fnExactGoodNfaRow.holds Try.pinned (OpenSpec.ofChange Rows.fnExactGoodNfaSpec) :=
  OpenClaim.holds_of_wide 9 Try.f9 rfl rfl rfl rfl rfl rfl rfl ⟨rfl, rfl, rfl, rfl, rfl⟩ rfl rfl rfl rfl rfl (by kernel_rfl) Try.func9 (by kernel_rfl)
    (of_decide_eq_true (by kernel_rfl)) (by unfold Func.isWrapper; first | (rw [if_pos (by decide +kernel)]; kernel_rfl) | (rw [if_neg (by decide +kernel)]; exact ⟨rfl, rfl⟩))
    (fun os started H enc _ => lifted os started H enc)
theorem proved : Rows.FnExactGoodNfaSaid := over
#print axioms proved
end Go.Proofs.Ytkkchcalhomgcaa.fnExactGoodNfa
namespace Go.Proofs.Ytkkchcalhomgcaa
/-- The row, under a short name, for the claim. -/
theorem fnExactGoodNfa_holds : Rows.FnExactGoodNfaSaid := fnExactGoodNfa.proved
end Go.Proofs.Ytkkchcalhomgcaa
