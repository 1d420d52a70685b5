/- The law FnExactPrependPath holds of the program: for every input the call returns true and each argument reads as before. No condition. -/
import Derived.Test.YtlnfcobloolnnaaRows
import Derived.Test.YtlnfcobloolnnaaPFnExactPrependPathx7
import Derived.Test.YtlnfcobloolnnaaPureFnExactPrependPath
import Derived.Test.YtlnfcobloolnnaaRead
import Derived.WalkKit
import Derived.ProofKit
import Derived.OpenShut
import Derived.ShutString
import Derived.ChangeOld
import Derived.Below
import Derived.SizedLaws
namespace Go.Proofs.Ytlnfcobloolnnaa.fnExactPrependPath
open Go.ChangeShapes Go.WideShapes Go.ChangeAt Go.RowKit Go.Proofs.YtlnfcobloolnnaaW.PrintWords Go.Proofs.Ytlnfcobloolnnaa.Read Go.Proofs.Ytlnfcobloolnnaa.PFnExactPrependPath
open Go.ChangeMaps (open_string shut_string)
set_option linter.unusedVariables false
theorem own : ownKnob Try.prog.godebug = none := by kernel_rfl
theorem laidOut : laidOutB Try.prog = true := by kernel_rfl
set_option maxRecDepth 100000 in
theorem reads0 : Opens Try.prog 24 (Kd.pair (Kd.int .i64) (Kd.pair (Kd.slice 3 (Kd.int .i64)) (Kd.pair (Kd.int .i64) (Kd.pair (Kd.int .i64) (Kd.pair (Kd.int .i64) (Kd.slice 3 (Kd.int .i64))))))) (fun p => ((Lit.int .i64 p.1).wf = true ∧ ((p.2.1.length ≤ maxLen ∧ ∀ a, a ∈ p.2.1 → (Lit.int .i64 a).wf = true) ∧ ((Lit.int .i64 p.2.2.1).wf = true ∧ ((Lit.int .i64 p.2.2.2.1).wf = true ∧ ((Lit.int .i64 p.2.2.2.2.1).wf = true ∧ (p.2.2.2.2.2.length ≤ maxLen ∧ ∀ a, a ∈ p.2.2.2.2.2 → (Lit.int .i64 a).wf = true))))))) := (opens_struct Try.underlying24 (by kernel_rfl) (from_cons rfl (by kernel_rfl) (opens_int Try.underlying3) (from_cons rfl (by kernel_rfl) (opens_slice (by kernel_rfl) (opens_int Try.underlying3) Try.underlying22) (from_cons rfl (by kernel_rfl) (opens_int Try.underlying3) (from_cons rfl (by kernel_rfl) (opens_int Try.underlying3) (from_cons rfl (by kernel_rfl) (opens_int Try.underlying3) (from_last rfl (by kernel_rfl) (opens_slice (by kernel_rfl) (opens_int Try.underlying3) Try.underlying22))))))))
set_option maxRecDepth 100000 in
theorem lifted (os : Os) (started : os.Started) (H : Type) (enc : TypeId × Value → H) :
    ReturnsInHanded {} Try.checked os 6 .any (Rows.fnExactPrependPathSpec.pre6 enc Try.prog Try.f6 Rows.fnExactPrependPathRow.domain false) (Rows.fnExactPrependPathSpec.post enc Try.prog Try.f6 false true false false) := by
  refine returnsInHanded_of_change_sized (C := Try.checked) own started (by kernel_rfl) Try.func6
    (ChangeSpec.witness6 (enc := enc) (C := Try.checked) false ⟨#[], #[.agg #[.int .i64 0, .slice none 0 0, .int .i64 0, .int .i64 0, .int .i64 0, .slice none 0 0], .int .i64 0, .int .i64 0], []⟩ 8 (by kernel_rfl) (by kernel_rfl) (by kernel_rfl) (by kernel_rfl)) ?_
  intro W base args ds gs before hval0 hW hcnd hsz0 _
  have hsz : (DataW.weightsEach Try.prog (Try.f6.params.toList ++ Rows.fnExactPrependPathSpec.plain.varTypes Try.prog) (ds ++ gs)).all (· ≤ reachBytes) = true := hsz0
  have hval : ∀ (j : Nat) t v, Try.f6.params[j]? = some t → args[j]? = some v → Value.okWide Try.prog W .any base t v := hval0
  have hW' := hW
  obtain ⟨p, q, hA0, hV, rfl, hfz, hnd⟩ := hW
  have hA : DataW.TrodAll enc Try.prog W 0 (fun _ => true) true Try.f6.params.toList args.toList ds p := hA0
  rw [Try.params6] at hA hval hsz
  obtain ⟨v0, vs0, d0, ds0, p0, q0, hargs, rfl, rfl, h0, r0⟩ := trodAll_cons hA
  obtain ⟨v1, vs1, d1, ds1, p1, q1, rfl, rfl, rfl, h1, r1⟩ := trodAll_cons r0
  obtain ⟨v2, vs2, d2, ds2, p2, q2, rfl, rfl, rfl, h2, r2⟩ := trodAll_cons r1
  obtain ⟨rfl, rfl, rfl⟩ := trodAll_nil r2
  obtain rfl : args = #[v0, v1, v2] := by cases args; simp_all
  obtain ⟨rfl, rfl⟩ := trodVars_none hV
  have k0 := h0
  have lt0 : ∀ x ∈ p0, x.block < W.heap.size := by obtain ⟨m, hm⟩ := k0; exact DataW.trod_lt m _ _ _ hm
  obtain ⟨cs0, ⟨a0_0, l0_1, a0_2, a0_3, a0_4, l0_5⟩, rfl, hk0, ⟨w0_0, ⟨m0_1, w0_1⟩, w0_2, w0_3, w0_4, ⟨m0_5, w0_5⟩⟩⟩ := agg_of reads0 Try.underlying24 (hval 0 24 v0 rfl rfl) h0
  obtain ⟨_, _, rfl, rfl, ⟨_, _, rfl, ⟨A0_1, c0_1, rfl, hl0_1, hC0_1⟩, ⟨_, _, rfl, rfl, ⟨_, _, rfl, rfl, ⟨_, _, rfl, rfl, ⟨A0_5, c0_5, rfl, hl0_5, hC0_5⟩⟩⟩⟩⟩⟩ := hk0
  obtain ⟨a1, rfl, rfl, rfl, w1⟩ := open_int Try.underlying3 (hval 1 3 v1 rfl rfl) h1
  obtain ⟨a2, rfl, rfl, rfl, w2⟩ := open_int Try.underlying3 (hval 2 3 v2 rfl rfl) h2
  clear hA0 hval0 hsz0 hsz
  have hr := Pure.FnExactPrependPath a0_0 l0_1 a0_2 a0_3 a0_4 l0_5 a1 a2 w0_0 m0_1 w0_1 w0_2 w0_3 w0_4 m0_5 w0_5 w1 w2
  obtain ⟨k, hr⟩ := hr
  refine (PFnExactPrependPath.laws_FnExactPrependPath.calls k a0_0 A0_1 c0_1 l0_1 a0_2 a0_3 a0_4 A0_5 c0_5 l0_5 a1 a2 true W hC0_1 hl0_1 hC0_5 hl0_5 rfl hr).mono fun e W' ⟨he, bel⟩ => ?_
  subst he
  exact ⟨_, rfl, _, _, _, [], _, [], hW', trodAll_mk1 (shut_bool Try.underlying4 _), (trodAll_cons_mk (Below.trod laidOut (by kernel_rfl) (of_decide_eq_true (by kernel_rfl)) k0 bel lt0) (trodAll_cons_mk (shut_int Try.underlying3 w1) (trodAll_cons_mk (shut_int Try.underlying3 w2) trodAll_mk0))), rfl, bel.frame _, fun h => by cases h⟩
theorem over : Rows.fnExactPrependPathRow.holds Try.pinned (OpenSpec.ofChange Rows.fnExactPrependPathSpec) :=
  OpenClaim.holds_of_wide 6 Try.f6 rfl rfl rfl rfl rfl rfl rfl ⟨rfl, rfl, rfl, rfl, rfl⟩ rfl rfl rfl rfl rfl (by kernel_rfl) Try.func6 (by kernel_rfl)
    (of_decide_eq_true (by kernel_rfl)) (by unfold Func.isWrapper; first | (rw [if_pos (by decide +kernel)]; kernel_rfl) | (rw [if_neg (by decide +kernel)]; exact ⟨rfl, rfl⟩))
    (fun os started H enc _ => lifted os started H enc)
theorem proved : Rows.FnExactPrependPathSaid := over
#print axioms proved
end Go.Proofs.Ytlnfcobloolnnaa.fnExactPrependPath
namespace Go.Proofs.Ytlnfcobloolnnaa
/-- The row, under a short name, for the claim. -/
theorem fnExactPrependPath_holds : Rows.FnExactPrependPathSaid := fnExactPrependPath.proved
end Go.Proofs.Ytlnfcobloolnnaa
