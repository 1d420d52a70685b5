/- The law FnExactTidyRegex holds of the program: for every input the call returns true and each argument reads as before. No condition. -/
import Derived.Test.YtkkchcalhomgcaaRows
import Derived.Test.YtkkchcalhomgcaaZFnExactTidyRegexPure
import Derived.Test.YtkkchcalhomgcaaZFnExactTidyRegexRead
import Derived.ProofKit
import Derived.OpenShut
import Derived.ShutString
import Derived.ChangeOld
import Derived.SizedLaws
namespace Go.Proofs.Ytkkchcalhomgcaa.fnExactTidyRegex
open Go.ChangeShapes Go.WideShapes Go.ChangeAt Go.RowKit Go.Proofs.YtkkchcalhomgcaaW.PrintWords Go.Proofs.Ytkkchcalhomgcaa.Read Go.Proofs.Ytkkchcalhomgcaa.PFnExactTidyRegex
open Go.ChangeMaps (open_string shut_string)
set_option linter.unusedVariables false
theorem own : ownKnob Try.prog.godebug = none := by kernel_rfl
theorem laidOut : laidOutB Try.prog = true := by kernel_rfl
set_option maxHeartbeats 8000000 in
set_option maxRecDepth 100000 in
theorem reads0 : Opens Try.prog 111 k111 (fun p => ((Lit.int .i64 p.f0).wf = true ∧ (Lit.int .i64 p.f1).wf = true)) := (Opens.iso (opens_struct Try.underlying111 (by kernel_rfl) (from_cons rfl (by kernel_rfl) (opens_int Try.underlying3) (from_last rfl (by kernel_rfl) (opens_int Try.underlying3)))) (fun x : S111 => (x.f0, x.f1)) (fun p => ⟨p.1, p.2⟩) (fun _ => rfl))
set_option maxRecDepth 100000 in
theorem lifted (os : Os) (started : os.Started) (H : Type) (enc : TypeId × Value → H) :
    ReturnsInHanded {} Try.checked os 13 .any (Rows.fnExactTidyRegexSpec.pre6 enc Try.prog Try.f13 Rows.fnExactTidyRegexRow.domain false) (Rows.fnExactTidyRegexSpec.post enc Try.prog Try.f13 false true false false) := by
  refine returnsInHanded_of_change_sized (C := Try.checked) own started (by kernel_rfl) Try.func13
    (ChangeSpec.witness6 (enc := enc) (C := Try.checked) false ⟨#[], #[.slice none 0 0], []⟩ 8 (by kernel_rfl) (by kernel_rfl) (by kernel_rfl) (by kernel_rfl)) ?_
  intro W base args ds gs before hval0 hW hcnd hsz0 _
  have hsz : (DataW.weightsEach Try.prog (Try.f13.params.toList ++ Rows.fnExactTidyRegexSpec.plain.varTypes Try.prog) (ds ++ gs)).all (· ≤ reachBytes) = true := hsz0
  have hval : ∀ (j : Nat) t v, Try.f13.params[j]? = some t → args[j]? = some v → Value.okWide Try.prog W .any base t v := hval0
  have hW' := hW
  obtain ⟨p, q, hA0, hV, rfl, hfz, hnd⟩ := hW
  have hA : DataW.TrodAll enc Try.prog W 0 (fun _ => true) true Try.f13.params.toList args.toList ds p := hA0
  rw [Try.params13] at hA hval hsz
  obtain ⟨v0, vs0, d0, ds0, p0, q0, hargs, rfl, rfl, h0, r0⟩ := trodAll_cons hA
  obtain ⟨rfl, rfl, rfl⟩ := trodAll_nil r0
  obtain rfl : args = #[v0] := by cases args; simp_all
  obtain ⟨rfl, rfl⟩ := trodVars_none hV
  have k0 := h0
  have lt0 : ∀ x ∈ p0, x.block < W.heap.size := by obtain ⟨m, hm⟩ := k0; exact DataW.trod_lt m _ _ _ hm
  obtain ⟨l0, A0, c0, rfl, hl0, hC0, m0, w0⟩ := slice_of (by kernel_rfl) reads0 Try.underlying64 (hval 0 64 v0 rfl rfl) h0
  clear hA0 hval0 hsz0 hsz
  have hr := Pure.FnExactTidyRegex l0 m0 w0
  obtain ⟨k, hr⟩ := hr
  refine (PFnExactTidyRegex.laws_FnExactTidyRegex.calls k A0 c0 l0 true W hC0 hl0 rfl hr).mono fun e W' ⟨he, bel⟩ => ?_
  subst he
  exact ⟨_, rfl, _, _, _, [], _, [], hW', trodAll_mk1 (shut_bool Try.underlying4 _), (trodAll_cons_mk (Below.trod laidOut (by kernel_rfl) (of_decide_eq_true (by kernel_rfl)) k0 bel lt0) trodAll_mk0), rfl, bel.frame _, fun h => by cases h⟩
theorem over : Rows.fnExactTidyRegexRow.holds Try.pinned (OpenSpec.ofChange Rows.fnExactTidyRegexSpec) :=
  OpenClaim.holds_of_wide 13 Try.f13 rfl rfl rfl rfl rfl rfl rfl ⟨rfl, rfl, rfl, rfl, rfl⟩ rfl rfl rfl rfl rfl (by kernel_rfl) Try.func13 (by kernel_rfl)
    (of_decide_eq_true (by kernel_rfl)) (by unfold Func.isWrapper; first | (rw [if_pos (by decide +kernel)]; kernel_rfl) | (rw [if_neg (by decide +kernel)]; exact ⟨rfl, rfl⟩))
    (fun os started H enc _ => lifted os started H enc)
theorem proved : Rows.FnExactTidyRegexSaid := over
#print axioms proved
end Go.Proofs.Ytkkchcalhomgcaa.fnExactTidyRegex
namespace Go.Proofs.Ytkkchcalhomgcaa
theorem fnExactTidyRegex_holds : Rows.FnExactTidyRegexSaid := fnExactTidyRegex.proved
end Go.Proofs.Ytkkchcalhomgcaa
