/- The law FnPrefixes holds of the program: for every input the call returns true and each argument reads as before. No condition. -/
import Derived.Test.YtkollihfejkklaaGreatDoorZFnPrefixesPure
import Derived.Test.YtkollihfejkklaaGreatDoorZFnPrefixesRead
import Derived.ProofKit
import Derived.OpenShut
import Derived.ShutString
import Derived.ChangeOld
import Derived.SizedLaws
import Derived.Test.YtkollihfejkklaaGreatDoorTie
import Derived.Test.YtkollihfejkklaaGreatDoorCards
import Derived.LaidMore
import Derived.Lib.LaidTab
import Derived.Stop.LaidErr
import Derived.Stop.Joined
import Derived.SevenTiedAt
import Derived.Lay
import Derived.HandedShaped
namespace Go.Proofs.YtkollihfejkklaaGreatDoor.fnPrefixes
open Go.ChangeShapes Go.WideShapes Go.ChangeAt Go.RowKit Go.Proofs.YtkollihfejkklaaGreatDoorW.PrintWords Go.Proofs.YtkollihfejkklaaGreatDoor.Read Go.Proofs.YtkollihfejkklaaGreatDoor.PFnPrefixes
open Go.ChangeMaps (open_string shut_string)
set_option linter.unusedVariables false
theorem own : ownKnob Tryz.prog.godebug = none := by kernel_rfl
theorem laidOut : laidOutB Tryz.prog = true := by kernel_rfl
set_option maxHeartbeats 8000000 in
set_option maxRecDepth 100000 in
theorem reads0 : Opens Tryz.prog 5 (Kd.int .u8) (fun p => (Lit.int .u8 p).wf = true) := (opens_int Tryz.underlying5)
set_option maxHeartbeats 8000000 in
set_option maxRecDepth 100000 in
theorem reads1 : Opens Tryz.prog 5 (Kd.int .u8) (fun p => (Lit.int .u8 p).wf = true) := (opens_int Tryz.underlying5)
theorem gTab : Tryz.prog.globalNamed Lays.tabName = some 3 := by kernel_rfl
theorem gType : (Tryz.prog.globals[3]?).map (·.type) = some 112 := by kernel_rfl
theorem u89 : Tryz.prog.underlying 112 = some (.array 20 43) := by kernel_rfl
theorem u71 : Tryz.prog.underlying 43 = some (.int .u64) := by kernel_rfl
theorem c71 : Tryz.prog.cellsOf 43 = 1 := by kernel_rfl
theorem c89 : Tryz.prog.cellsOf 112 = 20 := by kernel_rfl
def errName : String := ((Rows.fnPrefixesRow.laid)[5]?.map (·.1)).getD ""
theorem gErr : Tryz.prog.globalNamed errName = some 1 := by kernel_rfl
theorem gErrType : (Tryz.prog.globals[1]?).map (·.type) = some 60 := by kernel_rfl
theorem c98 : Tryz.prog.cellsOf 122 = 1 := by kernel_rfl
theorem c9 : Tryz.prog.cellsOf 9 = 1 := by kernel_rfl
theorem star : "*" ++ "errors.errorString" = "*errors.errorString" := by decide
theorem row96 (u : TypeId) (h : Tryz.prog.typeName? 3 u = some "*errors.errorString") : u = 120 :=
  typeName_ptr_named (nm := "errors.errorString") (by rw [star]; kernel_rfl) (by kernel_rfl) (by decide) u (by rw [star]; exact h)
theorem door_met (os : Os) (args : Array Value) : laidMetH Tryz.prog Rows.fnPrefixesRow.laid ((World.laidAll Tryz.prog os Rows.fnPrefixesRow.laid).forCall (fun _ _ => 0) ⟨#[], args, []⟩).memory := by
  rw [MakeChecks.laidMetH_plain _ _ _ (by kernel_rfl)]; exact laidMet_laidAll _ (by kernel_rfl) (by kernel_rfl)
theorem builder {H : Type} {enc : TypeId × Value → H} {a : Assume} {C : Checked} {os : Os} {f : FuncId} {fn : Func} {s : ChangeSpec} {conds : List PathCond} {apart fresh handsOn again : Bool} {X : World → Array Value → Prop}
    (hX : ∀ (w w' : World) (args : Array Value), w.heap = w'.heap → X w args → X w' args)
    (own : ownKnob C.prog.godebug = none) (started : os.Started) (noInit : C.prog.inits.idxOf? f = none) (hfn : C.prog.funcs[f]? = some fn)
    (witness : ∃ (w : World) (tape : Tape) (i : Input), w.os = os ∧ (w.forCall tape i).Shaped C.prog ∧ i.vars = [] ∧ Input.okWide C.prog (w.forCall tape i) .any w.heap.size f i ∧
      ((s.pre enc C.prog fn conds apart (w.forCall tape i).memory i.args ∧ X (w.forCall tape i).memory i.args) ∧ sizedMet enc C.prog fn (OpenSpec.ofChange s) apart (w.forCall tape i).memory i.args) ∧ a.holds C.prog (lone (Frame.enter C.prog f i.args .normal) [] (w.forCall tape i)))
    (contract : ∀ (W : World) (base : Nat) (args : Array Value) (ds gs : List (DataW H)) (before : List MemPlace),
      (∀ (j : Nat) t v, fn.params[j]? = some t → args[j]? = some v → Value.okWide C.prog W .any base t v) →
      DataW.Whole enc C.prog fn.params.toList s.vars apart W args.toList ds gs before →
      conds.all (PathCond.test C.prog ⟨fn.params.toList, ds, s.plain.varTypes C.prog, gs⟩) = true →
      (DataW.weightsEach C.prog (fn.params.toList ++ s.plain.varTypes C.prog) (ds ++ gs)).all (· ≤ reachBytes) = true → X W args → W.ShapedOpen C.prog →
      Calls C.prog f args W fun e W' => ∃ v, e = .returned v ∧ s.post enc C.prog fn apart fresh handsOn again W args v W') :
    ReturnsInHanded a C os f .any (fun w args => (s.pre enc C.prog fn conds apart w args ∧ X w args) ∧ sizedMet enc C.prog fn (OpenSpec.ofChange s) apart w args) (s.post enc C.prog fn apart fresh handsOn again) := by
  refine returnsInHanded_of_calls own started noInit witness ?_
  intro w tape i _ hsh _ hok hpre hholds
  obtain ⟨_, _, _, fn', hfn', _, _, _, _, hval⟩ := hok
  have e : fn' = fn := Option.some.inj (hfn'.symm.trans hfn)
  subst e
  obtain ⟨⟨⟨ds, gs, before, hw, hc⟩, hx⟩, hz⟩ := hpre
  have hw' := DataW.Whole.of_heap (w' := w.forCall tape i) (by rfl) hw
  refine (contract (w.forCall tape i) w.heap.size i.args ds gs before hval hw' hc (hz.weights hw) (hX _ _ _ (by rfl) hx) hsh).mono fun e W' ⟨v, he, hp⟩ => ?_
  subst he
  exact ChangeSpec.post_blind hp
theorem of_laid {W : World} (h : laidMetH Tryz.prog Rows.fnPrefixesRow.laid W) (hsh : W.ShapedOpen Tryz.prog) : LaysR.All W := by
  rw [MakeChecks.laidMetH_plain _ _ _ (by kernel_rfl)] at h
  obtain ⟨a1, s1, hv1, hc1, hs1, hz1⟩ := laid_sentinel h.tail.tail.tail.tail.tail gErr gErrType Tryz.underlying60 row96 Tryz.underlying120 Tryz.underlying122 rfl rfl Tryz.underlying9 c98 c9
  exact ⟨Lib.tabIs_of_head gTab gType u89 u71 c71 c89 h.tail.tail, LaysR.lays145.s1_3 W hsh, _, _, (World.var?_cell gErr hv1 0).trans rfl⟩
set_option maxRecDepth 100000 in
theorem lifted (os : Os) (started : os.Started) (H : Type) (enc : TypeId × Value → H) :
    ReturnsInHanded {} Tryz.checked os 3 .any (fun w args => (Rows.fnPrefixesSpec.pre enc Tryz.prog Tryz.f3 [] false w args ∧ laidMetH Tryz.prog Rows.fnPrefixesRow.laid w) ∧ sizedMet enc Tryz.prog Tryz.f3 (OpenSpec.ofChange Rows.fnPrefixesSpec) false w args)
      (Rows.fnPrefixesSpec.post enc Tryz.prog Tryz.f3 false true false false) := by
  refine builder (C := Tryz.checked) (X := fun w _ => laidMetH Tryz.prog Rows.fnPrefixesRow.laid w) (fun _ _ _ hh h => h.of_heap hh) own started (by kernel_rfl) Tryz.func3
    (ChangeSpec.witness_shaped (enc := enc) (C := Tryz.checked) (os := os) (X := fun w _ => laidMetH Tryz.prog Rows.fnPrefixesRow.laid w) false (World.laidAll Tryz.prog os Rows.fnPrefixesRow.laid) #[.slice none 0 0, .slice none 0 0] 8 (World.laidAll_os _ _ _) (World.shaped_of_ZipB (by kernel_rfl) (by kernel_rfl)) (by kernel_rfl) (by kernel_rfl) (by kernel_rfl) (door_met os _)) ?_
  intro W base args ds gs before hval0 hW hcnd hsz0 hL hsh
  have hsz : (DataW.weightsEach Tryz.prog (Tryz.f3.params.toList ++ Rows.fnPrefixesSpec.plain.varTypes Tryz.prog) (ds ++ gs)).all (· ≤ reachBytes) = true := hsz0
  have hval : ∀ (j : Nat) t v, Tryz.f3.params[j]? = some t → args[j]? = some v → Value.okWide Tryz.prog W .any base t v := hval0
  have hW' := hW
  obtain ⟨p, q, hA0, hV, rfl, hfz, hnd⟩ := hW
  have hA : DataW.TrodAll enc Tryz.prog W 0 (fun _ => true) true Tryz.f3.params.toList args.toList ds p := hA0
  rw [Tryz.params3] at hA hval hsz
  obtain ⟨v0, vs0, d0, ds0, p0, q0, hargs, rfl, rfl, h0, r0⟩ := trodAll_cons hA
  obtain ⟨v1, vs1, d1, ds1, p1, q1, rfl, rfl, rfl, h1, r1⟩ := trodAll_cons r0
  obtain ⟨rfl, rfl, rfl⟩ := trodAll_nil r1
  obtain rfl : args = #[v0, v1] := by cases args; simp_all
  obtain ⟨rfl, rfl⟩ := trodVars_none hV
  have k0 := h0
  have lt0 : ∀ x ∈ p0, x.block < W.heap.size := by obtain ⟨m, hm⟩ := k0; exact DataW.trod_lt m _ _ _ hm
  obtain ⟨l0, A0, c0, rfl, hl0, hC0, m0, w0⟩ := slice_of (by kernel_rfl) reads0 Tryz.underlying22 (hval 0 22 v0 rfl rfl) h0
  have q0 := slice_reach Tryz.underlying22 h0 hsz (j := 0) rfl rfl
  rw [show Tryz.prog.bytesOf 5 = 1 by kernel_rfl] at q0
  have k1 := h1
  have lt1 : ∀ x ∈ p1, x.block < W.heap.size := by obtain ⟨m, hm⟩ := k1; exact DataW.trod_lt m _ _ _ hm
  obtain ⟨l1, A1, c1, rfl, hl1, hC1, m1, w1⟩ := slice_of (by kernel_rfl) reads1 Tryz.underlying22 (hval 1 22 v1 rfl rfl) h1
  have q1 := slice_reach Tryz.underlying22 h1 hsz (j := 1) rfl rfl
  rw [show Tryz.prog.bytesOf 5 = 1 by kernel_rfl] at q1
  clear hA0 hval0 hsz0 hsz
  have hr := Pure.FnPrefixes l0 l1 m0 q0 w0 m1 q1 w1
  obtain ⟨k, hr⟩ := hr

  refine (PFnPrefixes.laws_FnPrefixes.calls k A0 c0 l0 A1 c1 l1 true W hC0 hl0 hC1 hl1 rfl (of_laid hL hsh) hr).mono fun e W' ⟨he, bel⟩ => ?_
  subst he
  exact ⟨_, rfl, _, _, _, [], _, [], hW', trodAll_mk1 (shut_bool Tryz.underlying4 _), (trodAll_cons_mk (Below.trod laidOut (by kernel_rfl) (of_decide_eq_true (by kernel_rfl)) k0 bel lt0) (trodAll_cons_mk (Below.trod laidOut (by kernel_rfl) (of_decide_eq_true (by kernel_rfl)) k1 bel lt1) trodAll_mk0)), rfl, bel.frame _, fun h => by cases h⟩
theorem over : Rows.fnPrefixesRow.holds Tryz.pinned (OpenSpec.ofChange Rows.fnPrefixesSpec) :=
  OpenClaim.holds_of_wide 3 Tryz.f3 rfl rfl rfl rfl rfl rfl rfl ⟨rfl, rfl, rfl, rfl, rfl⟩ rfl rfl rfl rfl rfl (by kernel_rfl) Tryz.func3 (by kernel_rfl)
    (of_decide_eq_true (by kernel_rfl)) (by unfold Func.isWrapper; first | (rw [if_pos (by decide +kernel)]; kernel_rfl) | (rw [if_neg (by decide +kernel)]; exact ⟨rfl, rfl⟩))
    (fun os started H enc _ => lifted os started H enc)
def name : String := Rows.fnPrefixesRow.func
theorem card : Rows.FnPrefixesCardSaid :=
  Claim7.holds_tied_plain_at .later [] [.data, .data, .data, .data, .sentinel, .sentinel, .pinned] true (true, "5f0d665d0c160a474bcf98a9d3cfc1845bda51af58fcf5b0b3c5dae7cf9c746d") true
    over (fun _ h => by cases h) (by kernel_rfl) (fun _ h => by cases h) fnPrefixes_row_tie rfl ⟨rfl, rfl⟩ (by kernel_rfl) rfl
    (fun f fn hf hfn => by
      obtain rfl : f = 3 := Option.some.inj ((show Tryz.prog.funcNamed name = some 3 by kernel_rfl).symm.trans hf) |>.symm
      obtain rfl : fn = Tryz.f3 := (Option.some.inj (Tryz.func3.symm.trans hfn)).symm
      exact ⟨by kernel_rfl, fun j t ht => by
        rw [Tryz.params3] at ht
        have hm : t ∈ [22] := by
          have := Array.mem_of_getElem? ht
          simpa using this
        have hall : ([22].all fun u => !Tryz.prog.wantsStandIn u) = true := by kernel_rfl
        exact (show Tryz.prog.wantsStandIn t = false by simpa using List.all_eq_true.1 hall t hm)⟩)
    (by kernel_rfl)
#print axioms card
end Go.Proofs.YtkollihfejkklaaGreatDoor.fnPrefixes
namespace Go.Proofs.YtkollihfejkklaaGreatDoor
theorem fnPrefixes_holds : Rows.FnPrefixesCardSaid := fnPrefixes.card
end Go.Proofs.YtkollihfejkklaaGreatDoor
