/- The law FnUpdates holds of the program: for every input the call returns true and each argument reads as before. No condition. -/
import Derived.Test.YtlnfcobloolnnaaRows
import Derived.Test.YtlnfcobloolnnaaZFnUpdatesPure
import Derived.Test.YtlnfcobloolnnaaZFnUpdatesRead
import Derived.ProofKit
import Derived.OpenShut
import Derived.ShutString
import Derived.ChangeOld
import Derived.SizedLaws
namespace Go.Proofs.Ytlnfcobloolnnaa.fnUpdates
open Go.ChangeShapes Go.WideShapes Go.ChangeAt Go.RowKit Go.Proofs.YtlnfcobloolnnaaW.PrintWords Go.Proofs.Ytlnfcobloolnnaa.Read Go.Proofs.Ytlnfcobloolnnaa.PFnUpdates
open Go.ChangeMaps (open_string shut_string)
set_option linter.unusedVariables false
theorem own : ownKnob Try.prog.godebug = none := by kernel_rfl
theorem laidOut : laidOutB Try.prog = true := by kernel_rfl
set_option maxHeartbeats 8000000 in
set_option maxRecDepth 100000 in
theorem reads0 : Opens Try.prog 5 (Kd.int .u8) (fun p => (Lit.int .u8 p).wf = true) := (opens_int Try.underlying5)
set_option maxHeartbeats 8000000 in
set_option maxRecDepth 100000 in
theorem reads1 : Opens Try.prog 5 (Kd.int .u8) (fun p => (Lit.int .u8 p).wf = true) := (opens_int Try.underlying5)
set_option maxRecDepth 100000 in
theorem lifted (os : Os) (started : os.Started) (H : Type) (enc : TypeId × Value → H) :
    ReturnsInHanded {} Try.checked os 11 .any (Rows.fnUpdatesSpec.pre6 enc Try.prog Try.f11 Rows.fnUpdatesRow.domain false) (Rows.fnUpdatesSpec.post enc Try.prog Try.f11 false true false false) := by
  refine returnsInHanded_of_change_sized (C := Try.checked) own started (by kernel_rfl) Try.func11
    (ChangeSpec.witness6 (enc := enc) (C := Try.checked) false ⟨#[], #[.slice none 0 0, .slice none 0 0], []⟩ 8 (by kernel_rfl) (by kernel_rfl) (by kernel_rfl) (by kernel_rfl)) ?_
  intro W base args ds gs before hval0 hW hcnd hsz0 _
  have hsz : (DataW.weightsEach Try.prog (Try.f11.params.toList ++ Rows.fnUpdatesSpec.plain.varTypes Try.prog) (ds ++ gs)).all (· ≤ reachBytes) = true := hsz0
  have hval : ∀ (j : Nat) t v, Try.f11.params[j]? = some t → args[j]? = some v → Value.okWide Try.prog W .any base t v := hval0
  have hW' := hW
  obtain ⟨p, q, hA0, hV, rfl, hfz, hnd⟩ := hW
  have hA : DataW.TrodAll enc Try.prog W 0 (fun _ => true) true Try.f11.params.toList args.toList ds p := hA0
  rw [Try.params11] at hA hval hsz
  obtain ⟨v0, vs0, d0, ds0, p0, q0, hargs, rfl, rfl, h0, r0⟩ := trodAll_cons hA
  obtain ⟨v1, vs1, d1, ds1, p1, q1, rfl, rfl, rfl, h1, r1⟩ := trodAll_cons r0
  obtain ⟨rfl, rfl, rfl⟩ := trodAll_nil r1
  obtain rfl : args = #[v0, v1] := by cases args; simp_all
  obtain ⟨rfl, rfl⟩ := trodVars_none hV
  have k0 := h0
  have lt0 : ∀ x ∈ p0, x.block < W.heap.size := by obtain ⟨m, hm⟩ := k0; exact DataW.trod_lt m _ _ _ hm
  obtain ⟨l0, A0, c0, rfl, hl0, hC0, m0, w0⟩ := slice_of (by kernel_rfl) reads0 Try.underlying62 (hval 0 62 v0 rfl rfl) h0
  have q0 := slice_reach Try.underlying62 h0 hsz (j := 0) rfl rfl
  rw [show Try.prog.bytesOf 5 = 1 by kernel_rfl] at q0
  have k1 := h1
  have lt1 : ∀ x ∈ p1, x.block < W.heap.size := by obtain ⟨m, hm⟩ := k1; exact DataW.trod_lt m _ _ _ hm
  obtain ⟨l1, A1, c1, rfl, hl1, hC1, m1, w1⟩ := slice_of (by kernel_rfl) reads1 Try.underlying62 (hval 1 62 v1 rfl rfl) h1
  have q1 := slice_reach Try.underlying62 h1 hsz (j := 1) rfl rfl
  rw [show Try.prog.bytesOf 5 = 1 by kernel_rfl] at q1
  clear hA0 hval0 hsz0 hsz
  have hr := Pure.FnUpdates l0 l1 m0 q0 w0 m1 q1 w1
  obtain ⟨k, hr⟩ := hr
  refine (PFnUpdates.laws_FnUpdates.calls k A0 c0 l0 A1 c1 l1 true W hC0 hl0 hC1 hl1 rfl hr).mono fun e W' ⟨he, bel⟩ => ?_
  subst he
  exact ⟨_, rfl, _, _, _, [], _, [], hW', trodAll_mk1 (shut_bool Try.underlying4 _), (trodAll_cons_mk (Below.trod laidOut (by kernel_rfl) (of_decide_eq_true (by kernel_rfl)) k0 bel lt0) (trodAll_cons_mk (Below.trod laidOut (by kernel_rfl) (of_decide_eq_true (by kernel_rfl)) k1 bel lt1) trodAll_mk0)), rfl, bel.frame _, fun h => by cases h⟩
theorem over : Rows.fnUpdatesRow.holds Try.pinned (OpenSpec.ofChange Rows.fnUpdatesSpec) :=
  OpenClaim.holds_of_wide 11 Try.f11 rfl rfl rfl rfl rfl rfl rfl ⟨rfl, rfl, rfl, rfl, rfl⟩ rfl rfl rfl rfl rfl (by kernel_rfl) Try.func11 (by kernel_rfl)
    (of_decide_eq_true (by kernel_rfl)) (by unfold Func.isWrapper; first | (rw [if_pos (by decide +kernel)]; kernel_rfl) | (rw [if_neg (by decide +kernel)]; exact ⟨rfl, rfl⟩))
    (fun os started H enc _ => lifted os started H enc)
theorem proved : Rows.FnUpdatesSaid := over
#print axioms proved
end Go.Proofs.Ytlnfcobloolnnaa.fnUpdates
namespace Go.Proofs.Ytlnfcobloolnnaa
theorem fnUpdates_holds : Rows.FnUpdatesSaid := fnUpdates.proved
end Go.Proofs.Ytlnfcobloolnnaa
