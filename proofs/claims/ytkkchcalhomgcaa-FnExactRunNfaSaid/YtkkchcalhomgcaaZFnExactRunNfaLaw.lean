/- The law FnExactRunNfa holds of the program: for every input the call returns true and each argument reads as before. No condition. -/
import Derived.Test.YtkkchcalhomgcaaRows
import Derived.Test.YtkkchcalhomgcaaYFnExactRunNfax8
import Derived.Test.YtkkchcalhomgcaaZFnExactRunNfaPure
import Derived.Test.YtkkchcalhomgcaaZFnExactRunNfaRead
import Derived.WalkKit
import Derived.ProofKit
import Derived.OpenShut
import Derived.ShutString
import Derived.ChangeOld
import Derived.Below
import Derived.SizedLaws
namespace Go.Proofs.Ytkkchcalhomgcaa.fnExactRunNfa
open Go.ChangeShapes Go.WideShapes Go.ChangeAt Go.RowKit Go.Proofs.YtkkchcalhomgcaaW.PrintWords Go.Proofs.Ytkkchcalhomgcaa.Read Go.Proofs.Ytkkchcalhomgcaa.PFnExactRunNfa
open Go.ChangeMaps (open_string shut_string)
set_option linter.unusedVariables false
theorem own : ownKnob Try.prog.godebug = none := by kernel_rfl
theorem laidOut : laidOutB Try.prog = true := by kernel_rfl
set_option maxHeartbeats 8000000 in
set_option maxRecDepth 100000 in
theorem reads0 : Opens Try.prog 55 (Kd.pair (Kd.int .i64) (Kd.pair (Kd.int .i64) (Kd.pair (Kd.int .i64) (Kd.slice 136 k136)))) (fun p => ((Lit.int .i64 p.1).wf = true ∧ ((Lit.int .i64 p.2.1).wf = true ∧ ((Lit.int .i64 p.2.2.1).wf = true ∧ (p.2.2.2.length ≤ maxLen ∧ ∀ a, a ∈ p.2.2.2 → ((Lit.int .i64 a.f0).wf = true ∧ ((Lit.int .i64 a.f1).wf = true ∧ (True ∧ (True ∧ (Lit.int .i64 a.f4).wf = true))))))))) := (opens_struct Try.underlying55 (by kernel_rfl) (from_cons rfl (by kernel_rfl) (opens_int Try.underlying3) (from_cons rfl (by kernel_rfl) (opens_int Try.underlying3) (from_cons rfl (by kernel_rfl) (opens_int Try.underlying3) (from_last rfl (by kernel_rfl) (opens_slice (by kernel_rfl) (Opens.iso (opens_struct Try.underlying136 (by kernel_rfl) (from_cons rfl (by kernel_rfl) (opens_int Try.underlying3) (from_cons rfl (by kernel_rfl) (opens_int Try.underlying3) (from_cons rfl (by kernel_rfl) (opens_bool Try.underlying4) (from_cons rfl (by kernel_rfl) (opens_bool Try.underlying4) (from_last rfl (by kernel_rfl) (opens_int Try.underlying3))))))) (fun x : S136 => (x.f0, x.f1, x.f2, x.f3, x.f4)) (fun p => ⟨p.1, p.2.1, p.2.2.1, p.2.2.2.1, p.2.2.2.2⟩) (fun _ => rfl)) Try.underlying53))))))
set_option maxHeartbeats 8000000 in
set_option maxRecDepth 100000 in
theorem reads1 : Opens Try.prog 3 (Kd.int .i64) (fun p => (Lit.int .i64 p).wf = true) := (opens_int Try.underlying3)
set_option maxRecDepth 100000 in
theorem lifted (os : Os) (started : os.Started) (H : Type) (enc : TypeId × Value → H) :
    ReturnsInHanded {} Try.checked os 12 .any (Rows.fnExactRunNfaSpec.pre6 enc Try.prog Try.f12 Rows.fnExactRunNfaRow.domain false) (Rows.fnExactRunNfaSpec.post enc Try.prog Try.f12 false true false false) := by
  refine returnsInHanded_of_change_sized (C := Try.checked) own started (by kernel_rfl) Try.func12
    (ChangeSpec.witness6 (enc := enc) (C := Try.checked) false ⟨#[], #[.agg #[.int .i64 0, .int .i64 0, .int .i64 0, .slice none 0 0], .slice none 0 0], []⟩ 8 (by kernel_rfl) (by kernel_rfl) (by kernel_rfl) (by kernel_rfl)) ?_
  intro W base args ds gs before hval0 hW hcnd hsz0 _
  have hsz : (DataW.weightsEach Try.prog (Try.f12.params.toList ++ Rows.fnExactRunNfaSpec.plain.varTypes Try.prog) (ds ++ gs)).all (· ≤ reachBytes) = true := hsz0
  have hval : ∀ (j : Nat) t v, Try.f12.params[j]? = some t → args[j]? = some v → Value.okWide Try.prog W .any base t v := hval0
  have hW' := hW
  obtain ⟨p, q, hA0, hV, rfl, hfz, hnd⟩ := hW
  have hA : DataW.TrodAll enc Try.prog W 0 (fun _ => true) true Try.f12.params.toList args.toList ds p := hA0
  rw [Try.params12] at hA hval hsz
  obtain ⟨v0, vs0, d0, ds0, p0, q0, hargs, rfl, rfl, h0, r0⟩ := trodAll_cons hA
  obtain ⟨v1, vs1, d1, ds1, p1, q1, rfl, rfl, rfl, h1, r1⟩ := trodAll_cons r0
  obtain ⟨rfl, rfl, rfl⟩ := trodAll_nil r1
  obtain rfl : args = #[v0, v1] := by cases args; simp_all
  obtain ⟨rfl, rfl⟩ := trodVars_none hV
  have k0 := h0
  have lt0 : ∀ x ∈ p0, x.block < W.heap.size := by obtain ⟨m, hm⟩ := k0; exact DataW.trod_lt m _ _ _ hm
  obtain ⟨cs0, ⟨a0_0, a0_1, a0_2, l0_3⟩, rfl, hk0, ⟨w0_0, w0_1, w0_2, ⟨m0_3, w0_3⟩⟩⟩ := agg_of reads0 Try.underlying55 (hval 0 55 v0 rfl rfl) h0
  obtain ⟨_, _, rfl, rfl, ⟨_, _, rfl, rfl, ⟨_, _, rfl, rfl, ⟨A0_3, c0_3, rfl, hl0_3, hC0_3⟩⟩⟩⟩ := hk0
  have k1 := h1
  have lt1 : ∀ x ∈ p1, x.block < W.heap.size := by obtain ⟨m, hm⟩ := k1; exact DataW.trod_lt m _ _ _ hm
  obtain ⟨l1, A1, c1, rfl, hl1, hC1, m1, w1⟩ := slice_of (by kernel_rfl) reads1 Try.underlying73 (hval 1 73 v1 rfl rfl) h1
  clear hA0 hval0 hsz0 hsz
  have hr := Pure.FnExactRunNfa a0_0 a0_1 a0_2 l0_3 l1 w0_0 w0_1 w0_2 m0_3 w0_3 m1 w1
  obtain ⟨k, hr⟩ := hr
  refine (PFnExactRunNfa.laws_FnExactRunNfa.calls k a0_0 a0_1 a0_2 A0_3 c0_3 l0_3 A1 c1 l1 true W hC0_3 hl0_3 hC1 hl1 rfl hr).mono fun e W' ⟨he, bel⟩ => ?_
  subst he
  exact ⟨_, rfl, _, _, _, [], _, [], hW', trodAll_mk1 (shut_bool Try.underlying4 _), (trodAll_cons_mk (Below.trod laidOut (by kernel_rfl) (of_decide_eq_true (by kernel_rfl)) k0 bel lt0) (trodAll_cons_mk (Below.trod laidOut (by kernel_rfl) (of_decide_eq_true (by kernel_rfl)) k1 bel lt1) trodAll_mk0)), rfl, bel.frame _, fun h => by cases h⟩
theorem over : Rows.fnExactRunNfaRow.holds Try.pinned (OpenSpec.ofChange Rows.fnExactRunNfaSpec) :=
  OpenClaim.holds_of_wide 12 Try.f12 rfl rfl rfl rfl rfl rfl rfl ⟨rfl, rfl, rfl, rfl, rfl⟩ rfl rfl rfl rfl rfl (by kernel_rfl) Try.func12 (by kernel_rfl)
    (of_decide_eq_true (by kernel_rfl)) (by unfold Func.isWrapper; first | (rw [if_pos (by decide +kernel)]; kernel_rfl) | (rw [if_neg (by decide +kernel)]; exact ⟨rfl, rfl⟩))
    (fun os started H enc _ => lifted os started H enc)
theorem proved : Rows.FnExactRunNfaSaid := over
#print axioms proved
end Go.Proofs.Ytkkchcalhomgcaa.fnExactRunNfa
namespace Go.Proofs.Ytkkchcalhomgcaa
/-- The row, under a short name, for the claim. -/
theorem fnExactRunNfa_holds : Rows.FnExactRunNfaSaid := fnExactRunNfa.proved
end Go.Proofs.Ytkkchcalhomgcaa
