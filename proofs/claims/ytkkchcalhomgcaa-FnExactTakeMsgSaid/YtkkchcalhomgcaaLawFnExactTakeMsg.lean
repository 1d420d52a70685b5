/- The law FnExactTakeMsg holds of the program: for every input the call returns true and each argument reads as before. No condition. -/
import Derived.Test.YtkkchcalhomgcaaRows
import Derived.Test.YtkkchcalhomgcaaPFnExactTakeMsgx9
import Derived.Test.YtkkchcalhomgcaaPureFnExactTakeMsg
import Derived.Test.YtkkchcalhomgcaaRead
import Derived.WalkKit
import Derived.ProofKit
import Derived.OpenShut
import Derived.ShutString
import Derived.ChangeOld
import Derived.Below
import Derived.SizedLaws
namespace Go.Proofs.Ytkkchcalhomgcaa.fnExactTakeMsg
open Go.ChangeShapes Go.WideShapes Go.ChangeAt Go.RowKit Go.Proofs.YtkkchcalhomgcaaW.PrintWords Go.Proofs.Ytkkchcalhomgcaa.Read Go.Proofs.Ytkkchcalhomgcaa.PFnExactTakeMsg
open Go.ChangeMaps (open_string shut_string)
set_option linter.unusedVariables false
theorem own : ownKnob Try.prog.godebug = none := by kernel_rfl
theorem laidOut : laidOutB Try.prog = true := by kernel_rfl
set_option maxRecDepth 100000 in
theorem reads0 : Opens Try.prog 45 (Kd.pair Kd.string (Kd.pair (Kd.slice 23 k23) (Kd.int .i64))) (fun p => (p.1.size ≤ maxLen ∧ ((p.2.1.length ≤ maxLen ∧ ∀ a, a ∈ p.2.1 → ((Lit.int .i64 a.f0).wf = true ∧ a.f1.size ≤ maxLen)) ∧ (Lit.int .i64 p.2.2).wf = true))) := (opens_struct Try.underlying45 (by kernel_rfl) (from_cons rfl (by kernel_rfl) (opens_string Try.underlying9) (from_cons rfl (by kernel_rfl) (opens_slice (by kernel_rfl) (Opens.iso (opens_struct Try.underlying23 (by kernel_rfl) (from_cons rfl (by kernel_rfl) (opens_int Try.underlying3) (from_last rfl (by kernel_rfl) (opens_string Try.underlying9)))) (fun x : S23 => (x.f0, x.f1)) (fun p => ⟨p.1, p.2⟩) (fun _ => rfl)) Try.underlying43) (from_last rfl (by kernel_rfl) (opens_int Try.underlying3)))))
set_option maxRecDepth 100000 in
theorem lifted (os : Os) (started : os.Started) (H : Type) (enc : TypeId × Value → H) :
    ReturnsInHanded {} Try.checked os 8 .any (Rows.fnExactTakeMsgSpec.pre6 enc Try.prog Try.f8 Rows.fnExactTakeMsgRow.domain false) (Rows.fnExactTakeMsgSpec.post enc Try.prog Try.f8 false true false false) := by
  refine returnsInHanded_of_change_sized (C := Try.checked) own started (by kernel_rfl) Try.func8
    (ChangeSpec.witness6 (enc := enc) (C := Try.checked) false ⟨#[], #[.agg #[.string ByteArray.empty, .slice none 0 0, .int .i64 0]], []⟩ 8 (by kernel_rfl) (by kernel_rfl) (by kernel_rfl) (by kernel_rfl)) ?_
  intro W base args ds gs before hval0 hW hcnd hsz0 _
  have hsz : (DataW.weightsEach Try.prog (Try.f8.params.toList ++ Rows.fnExactTakeMsgSpec.plain.varTypes Try.prog) (ds ++ gs)).all (· ≤ reachBytes) = true := hsz0
  have hval : ∀ (j : Nat) t v, Try.f8.params[j]? = some t → args[j]? = some v → Value.okWide Try.prog W .any base t v := hval0
  have hW' := hW
  obtain ⟨p, q, hA0, hV, rfl, hfz, hnd⟩ := hW
  have hA : DataW.TrodAll enc Try.prog W 0 (fun _ => true) true Try.f8.params.toList args.toList ds p := hA0
  rw [Try.params8] at hA hval hsz
  obtain ⟨v0, vs0, d0, ds0, p0, q0, hargs, rfl, rfl, h0, r0⟩ := trodAll_cons hA
  obtain ⟨rfl, rfl, rfl⟩ := trodAll_nil r0
  obtain rfl : args = #[v0] := by cases args; simp_all
  obtain ⟨rfl, rfl⟩ := trodVars_none hV
  have k0 := h0
  have lt0 : ∀ x ∈ p0, x.block < W.heap.size := by obtain ⟨m, hm⟩ := k0; exact DataW.trod_lt m _ _ _ hm
  obtain ⟨cs0, ⟨a0_0, l0_1, a0_2⟩, rfl, hk0, ⟨w0_0, ⟨m0_1, w0_1⟩, w0_2⟩⟩ := agg_of reads0 Try.underlying45 (hval 0 45 v0 rfl rfl) h0
  obtain ⟨_, _, rfl, rfl, ⟨_, _, rfl, ⟨A0_1, c0_1, rfl, hl0_1, hC0_1⟩, rfl⟩⟩ := hk0
  clear hA0 hval0 hsz0 hsz
  have hr := Pure.FnExactTakeMsg a0_0 l0_1 a0_2 w0_0 m0_1 w0_1 w0_2
  obtain ⟨k, hr⟩ := hr
  refine (PFnExactTakeMsg.laws_FnExactTakeMsg.calls k a0_0 A0_1 c0_1 l0_1 a0_2 true W hC0_1 hl0_1 rfl hr).mono fun e W' ⟨he, bel⟩ => ?_
  subst he
  exact ⟨_, rfl, _, _, _, [], _, [], hW', trodAll_mk1 (shut_bool Try.underlying4 _), (trodAll_cons_mk (Below.trod laidOut (by kernel_rfl) (of_decide_eq_true (by kernel_rfl)) k0 bel lt0) trodAll_mk0), rfl, bel.frame _, fun h => by cases h⟩
theorem over : Rows.fnExactTakeMsgRow.holds Try.pinned (OpenSpec.ofChange Rows.fnExactTakeMsgSpec) :=
  OpenClaim.holds_of_wide 8 Try.f8 rfl rfl rfl rfl rfl rfl rfl ⟨rfl, rfl, rfl, rfl, rfl⟩ rfl rfl rfl rfl rfl (by kernel_rfl) Try.func8 (by kernel_rfl)
    (of_decide_eq_true (by kernel_rfl)) (by unfold Func.isWrapper; first | (rw [if_pos (by decide +kernel)]; kernel_rfl) | (rw [if_neg (by decide +kernel)]; exact ⟨rfl, rfl⟩))
    (fun os started H enc _ => lifted os started H enc)
theorem proved : Rows.FnExactTakeMsgSaid := over
#print axioms proved
end Go.Proofs.Ytkkchcalhomgcaa.fnExactTakeMsg
namespace Go.Proofs.Ytkkchcalhomgcaa
/-- The row, under a short name, for the claim. -/
theorem fnExactTakeMsg_holds : Rows.FnExactTakeMsgSaid := fnExactTakeMsg.proved
end Go.Proofs.Ytkkchcalhomgcaa
