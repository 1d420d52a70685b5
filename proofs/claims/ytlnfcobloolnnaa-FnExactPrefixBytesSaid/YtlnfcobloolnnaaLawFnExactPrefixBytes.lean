/- The law FnExactPrefixBytes holds of the program: for every input the call returns true and each argument reads as before. No condition. -/
import Derived.Test.YtlnfcobloolnnaaRows
import Derived.Test.YtlnfcobloolnnaaPFnExactPrefixBytesx2
import Derived.Test.YtlnfcobloolnnaaPureFnExactPrefixBytes
import Derived.Test.YtlnfcobloolnnaaRead
import Derived.WalkKit
import Derived.ProofKit
import Derived.OpenShut
import Derived.ShutString
import Derived.ChangeOld
import Derived.Below
import Derived.SizedLaws
namespace Go.Proofs.Ytlnfcobloolnnaa.fnExactPrefixBytes
open Go.ChangeShapes Go.WideShapes Go.ChangeAt Go.RowKit Go.Proofs.YtlnfcobloolnnaaW.PrintWords Go.Proofs.Ytlnfcobloolnnaa.Read Go.Proofs.Ytlnfcobloolnnaa.PFnExactPrefixBytes
open Go.ChangeMaps (open_string shut_string)
set_option linter.unusedVariables false
theorem own : ownKnob Try.prog.godebug = none := by kernel_rfl
theorem laidOut : laidOutB Try.prog = true := by kernel_rfl
set_option maxRecDepth 100000 in
theorem reads0 : Opens Try.prog 32 (Kd.pair (Kd.int .i64) (Kd.int .i64)) (fun p => ((Lit.int .i64 p.1).wf = true ∧ (Lit.int .i64 p.2).wf = true)) := (opens_struct Try.underlying32 (by kernel_rfl) (from_cons rfl (by kernel_rfl) (opens_int Try.underlying3) (from_last rfl (by kernel_rfl) (opens_int Try.underlying3))))
set_option maxRecDepth 100000 in
theorem lifted (os : Os) (started : os.Started) (H : Type) (enc : TypeId × Value → H) :
    ReturnsInHanded {} Try.checked os 4 .any (Rows.fnExactPrefixBytesSpec.pre6 enc Try.prog Try.f4 Rows.fnExactPrefixBytesRow.domain false) (Rows.fnExactPrefixBytesSpec.post enc Try.prog Try.f4 false true false false) := by
  refine returnsInHanded_of_change_sized (C := Try.checked) own started (by kernel_rfl) Try.func4
    (ChangeSpec.witness6 (enc := enc) (C := Try.checked) false ⟨#[], #[.agg #[.int .i64 0, .int .i64 0]], []⟩ 8 (by kernel_rfl) (by kernel_rfl) (by kernel_rfl) (by kernel_rfl)) ?_
  intro W base args ds gs before hval0 hW hcnd hsz0 _
  have hsz : (DataW.weightsEach Try.prog (Try.f4.params.toList ++ Rows.fnExactPrefixBytesSpec.plain.varTypes Try.prog) (ds ++ gs)).all (· ≤ reachBytes) = true := hsz0
  have hval : ∀ (j : Nat) t v, Try.f4.params[j]? = some t → args[j]? = some v → Value.okWide Try.prog W .any base t v := hval0
  have hW' := hW
  obtain ⟨p, q, hA0, hV, rfl, hfz, hnd⟩ := hW
  have hA : DataW.TrodAll enc Try.prog W 0 (fun _ => true) true Try.f4.params.toList args.toList ds p := hA0
  rw [Try.params4] at hA hval hsz
  obtain ⟨v0, vs0, d0, ds0, p0, q0, hargs, rfl, rfl, h0, r0⟩ := trodAll_cons hA
  obtain ⟨rfl, rfl, rfl⟩ := trodAll_nil r0
  obtain rfl : args = #[v0] := by cases args; simp_all
  obtain ⟨rfl, rfl⟩ := trodVars_none hV
  have k0 := h0
  have lt0 : ∀ x ∈ p0, x.block < W.heap.size := by obtain ⟨m, hm⟩ := k0; exact DataW.trod_lt m _ _ _ hm
  obtain ⟨cs0, ⟨a0_0, a0_1⟩, rfl, hk0, ⟨w0_0, w0_1⟩⟩ := agg_of reads0 Try.underlying32 (hval 0 32 v0 rfl rfl) h0
  obtain ⟨_, _, rfl, rfl, rfl⟩ := hk0
  clear hA0 hval0 hsz0 hsz
  have hr := Pure.FnExactPrefixBytes a0_0 a0_1 w0_0 w0_1
  obtain ⟨k, hr⟩ := hr
  refine (PFnExactPrefixBytes.laws_FnExactPrefixBytes.calls k a0_0 a0_1 true W rfl hr).mono fun e W' ⟨he, bel⟩ => ?_
  subst he
  exact ⟨_, rfl, _, _, _, [], _, [], hW', trodAll_mk1 (shut_bool Try.underlying4 _), (trodAll_cons_mk (Below.trod laidOut (by kernel_rfl) (of_decide_eq_true (by kernel_rfl)) k0 bel lt0) trodAll_mk0), rfl, bel.frame _, fun h => by cases h⟩
theorem over : Rows.fnExactPrefixBytesRow.holds Try.pinned (OpenSpec.ofChange Rows.fnExactPrefixBytesSpec) :=
  OpenClaim.holds_of_wide 4 Try.f4 rfl rfl rfl rfl rfl rfl rfl ⟨rfl, rfl, rfl, rfl, rfl⟩ rfl rfl rfl rfl rfl (by kernel_rfl) Try.func4 (by kernel_rfl)
    (of_decide_eq_true (by kernel_rfl)) (by unfold Func.isWrapper; first | (rw [if_pos (by decide +kernel)]; kernel_rfl) | (rw [if_neg (by decide +kernel)]; exact ⟨rfl, rfl⟩))
    (fun os started H enc _ => lifted os started H enc)
theorem proved : Rows.FnExactPrefixBytesSaid := over
#print axioms proved
end Go.Proofs.Ytlnfcobloolnnaa.fnExactPrefixBytes
namespace Go.Proofs.Ytlnfcobloolnnaa
/-- The row, under a short name, for the claim. -/
theorem fnExactPrefixBytes_holds : Rows.FnExactPrefixBytesSaid := fnExactPrefixBytes.proved
end Go.Proofs.Ytlnfcobloolnnaa
