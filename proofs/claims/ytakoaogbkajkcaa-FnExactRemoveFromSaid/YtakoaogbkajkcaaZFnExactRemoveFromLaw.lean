/- The law FnExactRemoveFrom holds of the program: for every input the call returns true and each argument reads as before. No condition. -/
import Derived.Test.YtakoaogbkajkcaaRows
import Derived.Test.YtakoaogbkajkcaaZFnExactRemoveFromPure
import Derived.Test.YtakoaogbkajkcaaZFnExactRemoveFromRead
import Derived.ProofKit
import Derived.OpenShut
import Derived.ShutString
import Derived.ChangeOld
import Derived.SizedLaws
namespace Go.Proofs.Ytakoaogbkajkcaa.fnExactRemoveFrom
open Go.ChangeShapes Go.WideShapes Go.ChangeAt Go.RowKit Go.Proofs.YtakoaogbkajkcaaW.PrintWords Go.Proofs.Ytakoaogbkajkcaa.Read Go.Proofs.Ytakoaogbkajkcaa.PFnExactRemoveFrom
open Go.ChangeMaps (open_string shut_string)
set_option linter.unusedVariables false
theorem own : ownKnob Try.prog.godebug = none := by kernel_rfl
theorem laidOut : laidOutB Try.prog = true := by kernel_rfl
set_option maxHeartbeats 8000000 in
set_option maxRecDepth 100000 in
theorem reads0 : Opens Try.prog 88 k88 (fun p => ((Lit.int .i64 p.f0).wf = true ∧ ((Lit.int .i64 p.f1).wf = true ∧ (True ∧ (Lit.int .i64 p.f3).wf = true)))) := (Opens.iso (opens_struct Try.underlying88 (by kernel_rfl) (from_cons rfl (by kernel_rfl) (opens_int Try.underlying3) (from_cons rfl (by kernel_rfl) (opens_int Try.underlying3) (from_cons rfl (by kernel_rfl) (opens_bool Try.underlying4) (from_last rfl (by kernel_rfl) (opens_int Try.underlying3)))))) (fun x : S88 => (x.f0, x.f1, x.f2, x.f3)) (fun p => ⟨p.1, p.2.1, p.2.2.1, p.2.2.2⟩) (fun _ => rfl))
set_option maxHeartbeats 8000000 in
set_option maxRecDepth 100000 in
theorem reads1 : Opens Try.prog 51 (Kd.pair (Kd.int .i64) (Kd.int .i64)) (fun p => ((Lit.int .i64 p.1).wf = true ∧ (Lit.int .i64 p.2).wf = true)) := (opens_struct Try.underlying51 (by kernel_rfl) (from_cons rfl (by kernel_rfl) (opens_int Try.underlying3) (from_last rfl (by kernel_rfl) (opens_int Try.underlying3))))
set_option maxRecDepth 100000 in
theorem lifted (os : Os) (started : os.Started) (H : Type) (enc : TypeId × Value → H) :
    ReturnsInHanded {} Try.checked os 10 .any (Rows.fnExactRemoveFromSpec.pre6 enc Try.prog Try.f10 Rows.fnExactRemoveFromRow.domain false) (Rows.fnExactRemoveFromSpec.post enc Try.prog Try.f10 false true false false) := by
  refine returnsInHanded_of_change_sized (C := Try.checked) own started (by kernel_rfl) Try.func10
    (ChangeSpec.witness6 (enc := enc) (C := Try.checked) false ⟨#[], #[.slice none 0 0, .agg #[.int .i64 0, .int .i64 0]], []⟩ 8 (by kernel_rfl) (by kernel_rfl) (by kernel_rfl) (by kernel_rfl)) ?_
  intro W base args ds gs before hval0 hW hcnd hsz0 _
  have hsz : (DataW.weightsEach Try.prog (Try.f10.params.toList ++ Rows.fnExactRemoveFromSpec.plain.varTypes Try.prog) (ds ++ gs)).all (· ≤ reachBytes) = true := hsz0
  have hval : ∀ (j : Nat) t v, Try.f10.params[j]? = some t → args[j]? = some v → Value.okWide Try.prog W .any base t v := hval0
  have hW' := hW
  obtain ⟨p, q, hA0, hV, rfl, hfz, hnd⟩ := hW
  have hA : DataW.TrodAll enc Try.prog W 0 (fun _ => true) true Try.f10.params.toList args.toList ds p := hA0
  rw [Try.params10] at hA hval hsz
  obtain ⟨v0, vs0, d0, ds0, p0, q0, hargs, rfl, rfl, h0, r0⟩ := trodAll_cons hA
  obtain ⟨v1, vs1, d1, ds1, p1, q1, rfl, rfl, rfl, h1, r1⟩ := trodAll_cons r0
  obtain ⟨rfl, rfl, rfl⟩ := trodAll_nil r1
  obtain rfl : args = #[v0, v1] := by cases args; simp_all
  obtain ⟨rfl, rfl⟩ := trodVars_none hV
  have k0 := h0
  have lt0 : ∀ x ∈ p0, x.block < W.heap.size := by obtain ⟨m, hm⟩ := k0; exact DataW.trod_lt m _ _ _ hm
  obtain ⟨l0, A0, c0, rfl, hl0, hC0, m0, w0⟩ := slice_of (by kernel_rfl) reads0 Try.underlying29 (hval 0 29 v0 rfl rfl) h0
  have k1 := h1
  have lt1 : ∀ x ∈ p1, x.block < W.heap.size := by obtain ⟨m, hm⟩ := k1; exact DataW.trod_lt m _ _ _ hm
  obtain ⟨cs1, ⟨a1_0, a1_1⟩, rfl, hk1, ⟨w1_0, w1_1⟩⟩ := agg_of reads1 Try.underlying51 (hval 1 51 v1 rfl rfl) h1
  obtain ⟨_, _, rfl, rfl, rfl⟩ := hk1
  clear hA0 hval0 hsz0 hsz
  have hr := Pure.FnExactRemoveFrom l0 a1_0 a1_1 m0 w0 w1_0 w1_1
  obtain ⟨k, hr⟩ := hr
  refine (PFnExactRemoveFrom.laws_FnExactRemoveFrom.calls k A0 c0 l0 a1_0 a1_1 true W hC0 hl0 rfl hr).mono fun e W' ⟨he, bel⟩ => ?_
  subst he
  exact ⟨_, rfl, _, _, _, [], _, [], hW', trodAll_mk1 (shut_bool Try.underlying4 _), (trodAll_cons_mk (Below.trod laidOut (by kernel_rfl) (of_decide_eq_true (by kernel_rfl)) k0 bel lt0) (trodAll_cons_mk (Below.trod laidOut (by kernel_rfl) (of_decide_eq_true (by kernel_rfl)) k1 bel lt1) trodAll_mk0)), rfl, bel.frame _, fun h => by cases h⟩
theorem over : Rows.fnExactRemoveFromRow.holds Try.pinned (OpenSpec.ofChange Rows.fnExactRemoveFromSpec) :=
  OpenClaim.holds_of_wide 10 Try.f10 rfl rfl rfl rfl rfl rfl rfl ⟨rfl, rfl, rfl, rfl, rfl⟩ rfl rfl rfl rfl rfl (by kernel_rfl) Try.func10 (by kernel_rfl)
    (of_decide_eq_true (by kernel_rfl)) (by unfold Func.isWrapper; first | (rw [if_pos (by decide +kernel)]; kernel_rfl) | (rw [if_neg (by decide +kernel)]; exact ⟨rfl, rfl⟩))
    (fun os started H enc _ => lifted os started H enc)
theorem proved : Rows.FnExactRemoveFromSaid := over
#print axioms proved
end Go.Proofs.Ytakoaogbkajkcaa.fnExactRemoveFrom
namespace Go.Proofs.Ytakoaogbkajkcaa
theorem fnExactRemoveFrom_holds : Rows.FnExactRemoveFromSaid := fnExactRemoveFrom.proved
end Go.Proofs.Ytakoaogbkajkcaa
