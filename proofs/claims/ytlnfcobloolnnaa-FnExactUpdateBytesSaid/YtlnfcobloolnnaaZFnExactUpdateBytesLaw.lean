/- The law FnExactUpdateBytes holds of the program: for every input the call returns true and each argument reads as before. No condition. -/
import Derived.Test.YtlnfcobloolnnaaRows
import Derived.Test.YtlnfcobloolnnaaYFnExactUpdateBytesx15
import Derived.Test.YtlnfcobloolnnaaZFnExactUpdateBytesPure
import Derived.Test.YtlnfcobloolnnaaZFnExactUpdateBytesRead
import Derived.WalkKit
import Derived.ProofKit
import Derived.OpenShut
import Derived.ShutString
import Derived.ChangeOld
import Derived.Below
import Derived.SizedLaws
namespace Go.Proofs.Ytlnfcobloolnnaa.fnExactUpdateBytes
open Go.ChangeShapes Go.WideShapes Go.ChangeAt Go.RowKit Go.Proofs.YtlnfcobloolnnaaW.PrintWords Go.Proofs.Ytlnfcobloolnnaa.Read Go.Proofs.Ytlnfcobloolnnaa.PFnExactUpdateBytes
open Go.ChangeMaps (open_string shut_string)
set_option linter.unusedVariables false
theorem own : ownKnob Try.prog.godebug = none := by kernel_rfl
theorem laidOut : laidOutB Try.prog = true := by kernel_rfl
set_option maxHeartbeats 8000000 in
set_option maxRecDepth 100000 in
theorem reads0 : Opens Try.prog 48 (Kd.pair (Kd.slice 32 k32) (Kd.pair (Kd.pair (Kd.int .i64) (Kd.pair (Kd.slice 3 (Kd.int .i64)) (Kd.pair (Kd.int .i64) (Kd.pair (Kd.int .i64) (Kd.pair (Kd.int .i64) (Kd.slice 3 (Kd.int .i64))))))) (Kd.slice 32 k32))) (fun p => ((p.1.length ≤ maxLen ∧ ∀ a, a ∈ p.1 → ((Lit.int .i64 a.f0).wf = true ∧ (Lit.int .i64 a.f1).wf = true)) ∧ (((Lit.int .i64 p.2.1.1).wf = true ∧ ((p.2.1.2.1.length ≤ maxLen ∧ ∀ a, a ∈ p.2.1.2.1 → (Lit.int .i64 a).wf = true) ∧ ((Lit.int .i64 p.2.1.2.2.1).wf = true ∧ ((Lit.int .i64 p.2.1.2.2.2.1).wf = true ∧ ((Lit.int .i64 p.2.1.2.2.2.2.1).wf = true ∧ (p.2.1.2.2.2.2.2.length ≤ maxLen ∧ ∀ a, a ∈ p.2.1.2.2.2.2.2 → (Lit.int .i64 a).wf = true)))))) ∧ (p.2.2.length ≤ maxLen ∧ ∀ a, a ∈ p.2.2 → ((Lit.int .i64 a.f0).wf = true ∧ (Lit.int .i64 a.f1).wf = true))))) := (opens_struct Try.underlying48 (by kernel_rfl) (from_cons rfl (by kernel_rfl) (opens_slice (by kernel_rfl) (Opens.iso (opens_struct Try.underlying32 (by kernel_rfl) (from_cons rfl (by kernel_rfl) (opens_int Try.underlying3) (from_last rfl (by kernel_rfl) (opens_int Try.underlying3)))) (fun x : S32 => (x.f0, x.f1)) (fun p => ⟨p.1, p.2⟩) (fun _ => rfl)) Try.underlying46) (from_cons rfl (by kernel_rfl) (opens_struct Try.underlying24 (by kernel_rfl) (from_cons rfl (by kernel_rfl) (opens_int Try.underlying3) (from_cons rfl (by kernel_rfl) (opens_slice (by kernel_rfl) (opens_int Try.underlying3) Try.underlying22) (from_cons rfl (by kernel_rfl) (opens_int Try.underlying3) (from_cons rfl (by kernel_rfl) (opens_int Try.underlying3) (from_cons rfl (by kernel_rfl) (opens_int Try.underlying3) (from_last rfl (by kernel_rfl) (opens_slice (by kernel_rfl) (opens_int Try.underlying3) Try.underlying22)))))))) (from_last rfl (by kernel_rfl) (opens_slice (by kernel_rfl) (Opens.iso (opens_struct Try.underlying32 (by kernel_rfl) (from_cons rfl (by kernel_rfl) (opens_int Try.underlying3) (from_last rfl (by kernel_rfl) (opens_int Try.underlying3)))) (fun x : S32 => (x.f0, x.f1)) (fun p => ⟨p.1, p.2⟩) (fun _ => rfl)) Try.underlying46)))))
set_option maxRecDepth 100000 in
theorem lifted (os : Os) (started : os.Started) (H : Type) (enc : TypeId × Value → H) :
    ReturnsInHanded {} Try.checked os 8 .any (Rows.fnExactUpdateBytesSpec.pre6 enc Try.prog Try.f8 Rows.fnExactUpdateBytesRow.domain false) (Rows.fnExactUpdateBytesSpec.post enc Try.prog Try.f8 false true false false) := by
  refine returnsInHanded_of_change_sized (C := Try.checked) own started (by kernel_rfl) Try.func8
    (ChangeSpec.witness6 (enc := enc) (C := Try.checked) false ⟨#[], #[.agg #[.slice none 0 0, .int .i64 0, .slice none 0 0, .int .i64 0, .int .i64 0, .int .i64 0, .slice none 0 0, .slice none 0 0]], []⟩ 8 (by kernel_rfl) (by kernel_rfl) (by kernel_rfl) (by kernel_rfl)) ?_
  intro W base args ds gs before hval0 hW hcnd hsz0 _
  have hsz : (DataW.weightsEach Try.prog (Try.f8.params.toList ++ Rows.fnExactUpdateBytesSpec.plain.varTypes Try.prog) (ds ++ gs)).all (· ≤ reachBytes) = true := hsz0
  have hval : ∀ (j : Nat) t v, Try.f8.params[j]? = some t → args[j]? = some v → Value.okWide Try.prog W .any base t v := hval0
  have hW' := hW
  obtain ⟨p, q, hA0, hV, rfl, hfz, hnd⟩ := hW
  have hA : DataW.TrodAll enc Try.prog W 0 (fun _ => true) true Try.f8.params.toList args.toList ds p := hA0
  rw [Try.params8] at hA hval hsz
  obtain ⟨v0, vs0, d0, ds0, p0, q0, hargs, rfl, rfl, h0, r0⟩ := trodAll_cons hA
  obtain ⟨rfl, rfl, rfl⟩ := trodAll_nil r0
  obtain rfl : args = #[v0] := by cases args; simp_all
  obtain ⟨rfl, rfl⟩ := trodVars_none hV
  have k0 := h0
  have lt0 : ∀ x ∈ p0, x.block < W.heap.size := by obtain ⟨m, hm⟩ := k0; exact DataW.trod_lt m _ _ _ hm
  obtain ⟨cs0, ⟨l0_0, ⟨a0_1_0, l0_1_1, a0_1_2, a0_1_3, a0_1_4, l0_1_5⟩, l0_2⟩, rfl, hk0, ⟨⟨m0_0, w0_0⟩, ⟨w0_1_0, ⟨m0_1_1, w0_1_1⟩, w0_1_2, w0_1_3, w0_1_4, ⟨m0_1_5, w0_1_5⟩⟩, ⟨m0_2, w0_2⟩⟩⟩ := agg_of reads0 Try.underlying48 (hval 0 48 v0 rfl rfl) h0
  obtain ⟨_, _, rfl, ⟨A0_0, c0_0, rfl, hl0_0, hC0_0⟩, ⟨_, _, rfl, ⟨_, _, rfl, rfl, ⟨_, _, rfl, ⟨A0_1_1, c0_1_1, rfl, hl0_1_1, hC0_1_1⟩, ⟨_, _, rfl, rfl, ⟨_, _, rfl, rfl, ⟨_, _, rfl, rfl, ⟨A0_1_5, c0_1_5, rfl, hl0_1_5, hC0_1_5⟩⟩⟩⟩⟩⟩, ⟨A0_2, c0_2, rfl, hl0_2, hC0_2⟩⟩⟩ := hk0
  clear hA0 hval0 hsz0 hsz
  have hr := Pure.FnExactUpdateBytes l0_0 a0_1_0 l0_1_1 a0_1_2 a0_1_3 a0_1_4 l0_1_5 l0_2 m0_0 w0_0 w0_1_0 m0_1_1 w0_1_1 w0_1_2 w0_1_3 w0_1_4 m0_1_5 w0_1_5 m0_2 w0_2
  obtain ⟨k, hr⟩ := hr
  refine (PFnExactUpdateBytes.laws_FnExactUpdateBytes.calls k A0_0 c0_0 l0_0 a0_1_0 A0_1_1 c0_1_1 l0_1_1 a0_1_2 a0_1_3 a0_1_4 A0_1_5 c0_1_5 l0_1_5 A0_2 c0_2 l0_2 true W hC0_0 hl0_0 hC0_1_1 hl0_1_1 hC0_1_5 hl0_1_5 hC0_2 hl0_2 rfl hr).mono fun e W' ⟨he, bel⟩ => ?_
  subst he
  exact ⟨_, rfl, _, _, _, [], _, [], hW', trodAll_mk1 (shut_bool Try.underlying4 _), (trodAll_cons_mk (Below.trod laidOut (by kernel_rfl) (of_decide_eq_true (by kernel_rfl)) k0 bel lt0) trodAll_mk0), rfl, bel.frame _, fun h => by cases h⟩
theorem over : Rows.fnExactUpdateBytesRow.holds Try.pinned (OpenSpec.ofChange Rows.fnExactUpdateBytesSpec) :=
  OpenClaim.holds_of_wide 8 Try.f8 rfl rfl rfl rfl rfl rfl rfl ⟨rfl, rfl, rfl, rfl, rfl⟩ rfl rfl rfl rfl rfl (by kernel_rfl) Try.func8 (by kernel_rfl)
    (of_decide_eq_true (by kernel_rfl)) (by unfold Func.isWrapper; first | (rw [if_pos (by decide +kernel)]; kernel_rfl) | (rw [if_neg (by decide +kernel)]; exact ⟨rfl, rfl⟩))
    (fun os started H enc _ => lifted os started H enc)
theorem proved : Rows.FnExactUpdateBytesSaid := over
#print axioms proved
end Go.Proofs.Ytlnfcobloolnnaa.fnExactUpdateBytes
namespace Go.Proofs.Ytlnfcobloolnnaa
/-- The row, under a short name, for the claim. -/
theorem fnExactUpdateBytes_holds : Rows.FnExactUpdateBytesSaid := fnExactUpdateBytes.proved
end Go.Proofs.Ytlnfcobloolnnaa
