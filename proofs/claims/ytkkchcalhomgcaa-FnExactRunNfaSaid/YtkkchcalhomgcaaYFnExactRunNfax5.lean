/- Written by this session's own program over the kit's print: Lean functions that tell what Go functions answer, each with a proof that the call does so. No condition but what each statement says. -/
import Derived.Test.YtkkchcalhomgcaaYFnExactRunNfax0
import Derived.Test.YtkkchcalhomgcaaYFnExactRunNfax4
namespace Go.Proofs.Ytkkchcalhomgcaa.PFnExactRunNfa
open Go.RowKit Go.Proofs.YtkkchcalhomgcaaW.PrintWords Go.Proofs.YtkkchcalhomgcaaW.PrintLast Go.Proofs.YtkkchcalhomgcaaW.PrintMore
attribute [local go_sem] max2_int min2_int max_two min_two max_three min_three max_four min_four   -- for this text's walks alone
set_option linter.unusedVariables false
set_option linter.unusedSimpArgs false


/-! ### impl_GoodNfa_1: function 75, the automaton that it captured at block ng -/
def impl_GoodNfa_1.f (a0 st : Int) : Option Bool := impl_within.f a0 0 (wrap64 (st - 1))
set_option maxHeartbeats 8000000 in
set_option maxRecDepth 100000 in
theorem impl_GoodNfa_1.calls (a0 st : Int) (ng : Nat) (r : Bool) (w : World) (hc_0 : w.cell? ⟨ng, 0, none⟩ = some (.int .i64 st)) (h : impl_GoodNfa_1.f a0 st = some r) :
    Calls Try.prog 75 #[.int .i64 a0, .pointer (some ⟨ng, 0, none⟩)] w fun e w' => e = .returned (.bool r) ∧ Drawn0 w w' := by
  have hu60 := Try.underlying60
  have A2 := Aside0.mk (show impl_within.f a0 0 (wrap64 (st - 1)) = some r from h)
  clear h
  go_enter Try.func75, Try.ntmps75
  go_wp2_with (go_at_call 63; (with_reducible refine (impl_within.calls a0 0 (wrap64 (st - 1)) r _ A2.out).mono ?_); rintro e w' ⟨rfl, ⟨nd, rfl⟩⟩)
  go_ret
  exact ⟨by first | rfl | (simp; done) | (simp [*]; done), by repeat (first | exact Drawn0.refl _ | apply Drawn0.step)⟩
/-! ### impl_GoodNfa_2: function 77, the first one captured at block ig -/
def nfaRight (a2 a3 : Bool) (a4 : Int) (t : Bool) : Bool := if (a2 || a3) = true then ((a2 != a3) && (a4 == 0)) else t
def impl_GoodNfa_2.f (a0_0 a0_1 : Int) (a0_2 a0_3 : Bool) (a0_4 st : Int) : Option Bool := (impl_isAsn.f a0_4).bind fun t1 => ((impl_GoodNfa_1.f a0_0 st).bind fun t2 => (if t2 = true then ((impl_GoodNfa_1.f a0_1 st).bind fun t3 => (if t3 = true then (some (!(nfaRight a0_2 a0_3 a0_4 t1))) else (some true))) else (some true)))
set_option maxHeartbeats 8000000 in
set_option maxRecDepth 100000 in
theorem impl_GoodNfa_2.calls (a0_0 a0_1 : Int) (a0_2 a0_3 : Bool) (a0_4 st : Int) (ig ng : Nat) (r : Bool) (w : World) (hc_0 : w.cell? ⟨ig, 0, none⟩ = some (.func (.func 75) #[] #[.pointer (some ⟨ng, 0, none⟩)])) (hc_1 : w.cell? ⟨ng, 0, none⟩ = some (.int .i64 st)) (h : impl_GoodNfa_2.f a0_0 a0_1 a0_2 a0_3 a0_4 st = some r) :
    Calls Try.prog 77 #[.agg #[.int .i64 a0_0, .int .i64 a0_1, .bool a0_2, .bool a0_3, .int .i64 a0_4], .pointer (some ⟨ig, 0, none⟩)] w fun e w' => e = .returned (.bool r) ∧ Below w.heap.size w w' := by
  have hu97 := Try.underlying97
  have HB := Aside0.mk (Below.refl w.heap.size w)
  have H : ((impl_isAsn.f a0_4).bind fun t1 => ((impl_GoodNfa_1.f a0_0 st).bind fun t2 => (if t2 = true then ((impl_GoodNfa_1.f a0_1 st).bind fun t3 => (if t3 = true then (some (!(nfaRight a0_2 a0_3 a0_4 t1))) else (some true))) else (some true)))) = some r := h
  clear h
  replace H := Option.bind_eq_some_iff.mp H
  obtain ⟨t1, A10, H⟩ := H
  replace H := Option.bind_eq_some_iff.mp H
  obtain ⟨t2, A20, H⟩ := H
  replace H : (if t2 = true then ((impl_GoodNfa_1.f a0_1 st).bind fun t3 => (if t3 = true then (some (!(nfaRight a0_2 a0_3 a0_4 t1))) else (some true))) else (some true)) = some r := H
  have A1 := Aside0.mk A10
  have A2 := Aside0.mk A20
  clear A10 A20
  by_cases c2 : t2 = true
  · subst c2
    rw [if_pos rfl] at H
    replace H := Option.bind_eq_some_iff.mp H
    obtain ⟨t3, A30, H⟩ := H
    replace H : (if t3 = true then (some (!(nfaRight a0_2 a0_3 a0_4 t1))) else (some true)) = some r := H
    have A3 := Aside0.mk A30
    clear A30
    by_cases c3 : t3 = true
    · subst c3
      rw [if_pos rfl] at H
      have HF := Aside0.mk (Option.some.inj H)
      clear H
      cases a0_2 <;> cases a0_3
      · obtain rfl := HF.out
        clear HF
        go_enter Try.func77, Try.ntmps77
        go_wp2_with (first | ((with_reducible refine gate_dst (N := 2) rfl ?_); refine box_event ?hg (N := 2) ?hd (cs := #[.int .i64 a0_0, .int .i64 a0_1, .bool false, .bool false, .int .i64 a0_4]) (t := 97) ?hr ?_; (case hd => rfl); (case hg => rfl); (case hr => first | (go_simp; done) | (go_simp; rfl)); intro gb hg w3 hbox hb; have hci : w3.cell? ⟨ig, 0, none⟩ = some (.func (.func 75) #[] #[.pointer (some ⟨ng, 0, none⟩)]) := (hb.cell (World.block_lt_of_cell? w _ hc_0)).trans hc_0; have hcn : w3.cell? ⟨ng, 0, none⟩ = some (.int .i64 st) := (hb.cell (World.block_lt_of_cell? w _ hc_1)).trans hc_1; have n0_ := Aside0.mk (below_step HB.out hb); clear HB; have HB := n0_; clear n0_; have BK := Aside0.mk hbox; clear hb hbox hg; have hcz_0 : w3.cell? ⟨gb, 0, none⟩ = some (.int .i64 a0_0) := (blk_cell BK.out 0).trans rfl; have hcz_1 : w3.cell? ⟨gb, 1, none⟩ = some (.int .i64 a0_1) := (blk_cell BK.out 1).trans rfl; have hcz_2 : w3.cell? ⟨gb, 2, none⟩ = some (.bool false) := (blk_cell BK.out 2).trans rfl; have hcz_3 : w3.cell? ⟨gb, 3, none⟩ = some (.bool false) := (blk_cell BK.out 3).trans rfl; have hcz_4 : w3.cell? ⟨gb, 4, none⟩ = some (.int .i64 a0_4) := (blk_cell BK.out 4).trans rfl) | (go_at_call 78; (with_reducible refine (impl_isAsn.calls a0_4 t1 _ A1.out).mono ?_); rintro e w' ⟨rfl, ⟨nd, rfl⟩⟩) | (go_at_call 75; (first | ((with_reducible refine (impl_GoodNfa_1.calls a0_0 st ng true _ ?q A2.out).mono ?_); (case q => first | exact hcn | (go_simp; done) | (simp [hcn]; done))) | ((with_reducible refine (impl_GoodNfa_1.calls a0_1 st ng true _ ?q A3.out).mono ?_); (case q => first | exact hcn | (go_simp; done) | (simp [hcn]; done)))); rintro e w' ⟨rfl, ⟨nd, rfl⟩⟩))
        go_ret
        exact ⟨by first | rfl | (simp [nfaRight]; done) | (simp [*, nfaRight]; done) | (cases t1 <;> simp [nfaRight]), by repeat (first | (with_reducible first | exact HB.out | apply below_alloc | apply pw_below_drewN | apply below_drew1) | exact HB.out)⟩
      · obtain rfl := HF.out
        clear HF
        go_enter Try.func77, Try.ntmps77
        go_wp2_with (first | ((with_reducible refine gate_dst (N := 2) rfl ?_); refine box_event ?hg (N := 2) ?hd (cs := #[.int .i64 a0_0, .int .i64 a0_1, .bool false, .bool true, .int .i64 a0_4]) (t := 97) ?hr ?_; (case hd => rfl); (case hg => rfl); (case hr => first | (go_simp; done) | (go_simp; rfl)); intro gb hg w3 hbox hb; have hci : w3.cell? ⟨ig, 0, none⟩ = some (.func (.func 75) #[] #[.pointer (some ⟨ng, 0, none⟩)]) := (hb.cell (World.block_lt_of_cell? w _ hc_0)).trans hc_0; have hcn : w3.cell? ⟨ng, 0, none⟩ = some (.int .i64 st) := (hb.cell (World.block_lt_of_cell? w _ hc_1)).trans hc_1; have n0_ := Aside0.mk (below_step HB.out hb); clear HB; have HB := n0_; clear n0_; have BK := Aside0.mk hbox; clear hb hbox hg; have hcz_0 : w3.cell? ⟨gb, 0, none⟩ = some (.int .i64 a0_0) := (blk_cell BK.out 0).trans rfl; have hcz_1 : w3.cell? ⟨gb, 1, none⟩ = some (.int .i64 a0_1) := (blk_cell BK.out 1).trans rfl; have hcz_2 : w3.cell? ⟨gb, 2, none⟩ = some (.bool false) := (blk_cell BK.out 2).trans rfl; have hcz_3 : w3.cell? ⟨gb, 3, none⟩ = some (.bool true) := (blk_cell BK.out 3).trans rfl; have hcz_4 : w3.cell? ⟨gb, 4, none⟩ = some (.int .i64 a0_4) := (blk_cell BK.out 4).trans rfl) | (go_at_call 78; (with_reducible refine (impl_isAsn.calls a0_4 t1 _ A1.out).mono ?_); rintro e w' ⟨rfl, ⟨nd, rfl⟩⟩) | (go_at_call 75; (first | ((with_reducible refine (impl_GoodNfa_1.calls a0_0 st ng true _ ?q A2.out).mono ?_); (case q => first | exact hcn | (go_simp; done) | (simp [hcn]; done))) | ((with_reducible refine (impl_GoodNfa_1.calls a0_1 st ng true _ ?q A3.out).mono ?_); (case q => first | exact hcn | (go_simp; done) | (simp [hcn]; done)))); rintro e w' ⟨rfl, ⟨nd, rfl⟩⟩))
        go_ret
        exact ⟨by first | rfl | (simp [nfaRight]; done) | (simp [*, nfaRight]; done) | (cases t1 <;> simp [nfaRight]), by repeat (first | (with_reducible first | exact HB.out | apply below_alloc | apply pw_below_drewN | apply below_drew1) | exact HB.out)⟩
      · obtain rfl := HF.out
        clear HF
        go_enter Try.func77, Try.ntmps77
        go_wp2_with (first | ((with_reducible refine gate_dst (N := 2) rfl ?_); refine box_event ?hg (N := 2) ?hd (cs := #[.int .i64 a0_0, .int .i64 a0_1, .bool true, .bool false, .int .i64 a0_4]) (t := 97) ?hr ?_; (case hd => rfl); (case hg => rfl); (case hr => first | (go_simp; done) | (go_simp; rfl)); intro gb hg w3 hbox hb; have hci : w3.cell? ⟨ig, 0, none⟩ = some (.func (.func 75) #[] #[.pointer (some ⟨ng, 0, none⟩)]) := (hb.cell (World.block_lt_of_cell? w _ hc_0)).trans hc_0; have hcn : w3.cell? ⟨ng, 0, none⟩ = some (.int .i64 st) := (hb.cell (World.block_lt_of_cell? w _ hc_1)).trans hc_1; have n0_ := Aside0.mk (below_step HB.out hb); clear HB; have HB := n0_; clear n0_; have BK := Aside0.mk hbox; clear hb hbox hg; have hcz_0 : w3.cell? ⟨gb, 0, none⟩ = some (.int .i64 a0_0) := (blk_cell BK.out 0).trans rfl; have hcz_1 : w3.cell? ⟨gb, 1, none⟩ = some (.int .i64 a0_1) := (blk_cell BK.out 1).trans rfl; have hcz_2 : w3.cell? ⟨gb, 2, none⟩ = some (.bool true) := (blk_cell BK.out 2).trans rfl; have hcz_3 : w3.cell? ⟨gb, 3, none⟩ = some (.bool false) := (blk_cell BK.out 3).trans rfl; have hcz_4 : w3.cell? ⟨gb, 4, none⟩ = some (.int .i64 a0_4) := (blk_cell BK.out 4).trans rfl) | (go_at_call 78; (with_reducible refine (impl_isAsn.calls a0_4 t1 _ A1.out).mono ?_); rintro e w' ⟨rfl, ⟨nd, rfl⟩⟩) | (go_at_call 75; (first | ((with_reducible refine (impl_GoodNfa_1.calls a0_0 st ng true _ ?q A2.out).mono ?_); (case q => first | exact hcn | (go_simp; done) | (simp [hcn]; done))) | ((with_reducible refine (impl_GoodNfa_1.calls a0_1 st ng true _ ?q A3.out).mono ?_); (case q => first | exact hcn | (go_simp; done) | (simp [hcn]; done)))); rintro e w' ⟨rfl, ⟨nd, rfl⟩⟩))
        go_ret
        exact ⟨by first | rfl | (simp [nfaRight]; done) | (simp [*, nfaRight]; done) | (cases t1 <;> simp [nfaRight]), by repeat (first | (with_reducible first | exact HB.out | apply below_alloc | apply pw_below_drewN | apply below_drew1) | exact HB.out)⟩
      · obtain rfl := HF.out
        clear HF
        go_enter Try.func77, Try.ntmps77
        go_wp2_with (first | ((with_reducible refine gate_dst (N := 2) rfl ?_); refine box_event ?hg (N := 2) ?hd (cs := #[.int .i64 a0_0, .int .i64 a0_1, .bool true, .bool true, .int .i64 a0_4]) (t := 97) ?hr ?_; (case hd => rfl); (case hg => rfl); (case hr => first | (go_simp; done) | (go_simp; rfl)); intro gb hg w3 hbox hb; have hci : w3.cell? ⟨ig, 0, none⟩ = some (.func (.func 75) #[] #[.pointer (some ⟨ng, 0, none⟩)]) := (hb.cell (World.block_lt_of_cell? w _ hc_0)).trans hc_0; have hcn : w3.cell? ⟨ng, 0, none⟩ = some (.int .i64 st) := (hb.cell (World.block_lt_of_cell? w _ hc_1)).trans hc_1; have n0_ := Aside0.mk (below_step HB.out hb); clear HB; have HB := n0_; clear n0_; have BK := Aside0.mk hbox; clear hb hbox hg; have hcz_0 : w3.cell? ⟨gb, 0, none⟩ = some (.int .i64 a0_0) := (blk_cell BK.out 0).trans rfl; have hcz_1 : w3.cell? ⟨gb, 1, none⟩ = some (.int .i64 a0_1) := (blk_cell BK.out 1).trans rfl; have hcz_2 : w3.cell? ⟨gb, 2, none⟩ = some (.bool true) := (blk_cell BK.out 2).trans rfl; have hcz_3 : w3.cell? ⟨gb, 3, none⟩ = some (.bool true) := (blk_cell BK.out 3).trans rfl; have hcz_4 : w3.cell? ⟨gb, 4, none⟩ = some (.int .i64 a0_4) := (blk_cell BK.out 4).trans rfl) | (go_at_call 78; (with_reducible refine (impl_isAsn.calls a0_4 t1 _ A1.out).mono ?_); rintro e w' ⟨rfl, ⟨nd, rfl⟩⟩) | (go_at_call 75; (first | ((with_reducible refine (impl_GoodNfa_1.calls a0_0 st ng true _ ?q A2.out).mono ?_); (case q => first | exact hcn | (go_simp; done) | (simp [hcn]; done))) | ((with_reducible refine (impl_GoodNfa_1.calls a0_1 st ng true _ ?q A3.out).mono ?_); (case q => first | exact hcn | (go_simp; done) | (simp [hcn]; done)))); rintro e w' ⟨rfl, ⟨nd, rfl⟩⟩))
        go_ret
        exact ⟨by first | rfl | (simp [nfaRight]; done) | (simp [*, nfaRight]; done) | (cases t1 <;> simp [nfaRight]), by repeat (first | (with_reducible first | exact HB.out | apply below_alloc | apply pw_below_drewN | apply below_drew1) | exact HB.out)⟩
    · replace c3 := Bool.eq_false_iff.mpr c3
      subst c3
      rw [if_neg (show ¬ (false = true) by decide)] at H
      obtain rfl := Option.some.inj H
      clear H
      cases a0_2 <;> cases a0_3
      · go_enter Try.func77, Try.ntmps77
        go_wp2_with (first | ((with_reducible refine gate_dst (N := 2) rfl ?_); refine box_event ?hg (N := 2) ?hd (cs := #[.int .i64 a0_0, .int .i64 a0_1, .bool false, .bool false, .int .i64 a0_4]) (t := 97) ?hr ?_; (case hd => rfl); (case hg => rfl); (case hr => first | (go_simp; done) | (go_simp; rfl)); intro gb hg w3 hbox hb; have hci : w3.cell? ⟨ig, 0, none⟩ = some (.func (.func 75) #[] #[.pointer (some ⟨ng, 0, none⟩)]) := (hb.cell (World.block_lt_of_cell? w _ hc_0)).trans hc_0; have hcn : w3.cell? ⟨ng, 0, none⟩ = some (.int .i64 st) := (hb.cell (World.block_lt_of_cell? w _ hc_1)).trans hc_1; have n0_ := Aside0.mk (below_step HB.out hb); clear HB; have HB := n0_; clear n0_; have BK := Aside0.mk hbox; clear hb hbox hg; have hcz_0 : w3.cell? ⟨gb, 0, none⟩ = some (.int .i64 a0_0) := (blk_cell BK.out 0).trans rfl; have hcz_1 : w3.cell? ⟨gb, 1, none⟩ = some (.int .i64 a0_1) := (blk_cell BK.out 1).trans rfl; have hcz_2 : w3.cell? ⟨gb, 2, none⟩ = some (.bool false) := (blk_cell BK.out 2).trans rfl; have hcz_3 : w3.cell? ⟨gb, 3, none⟩ = some (.bool false) := (blk_cell BK.out 3).trans rfl; have hcz_4 : w3.cell? ⟨gb, 4, none⟩ = some (.int .i64 a0_4) := (blk_cell BK.out 4).trans rfl) | (go_at_call 78; (with_reducible refine (impl_isAsn.calls a0_4 t1 _ A1.out).mono ?_); rintro e w' ⟨rfl, ⟨nd, rfl⟩⟩) | (go_at_call 75; (first | ((with_reducible refine (impl_GoodNfa_1.calls a0_0 st ng true _ ?q A2.out).mono ?_); (case q => first | exact hcn | (go_simp; done) | (simp [hcn]; done))) | ((with_reducible refine (impl_GoodNfa_1.calls a0_1 st ng false _ ?q A3.out).mono ?_); (case q => first | exact hcn | (go_simp; done) | (simp [hcn]; done)))); rintro e w' ⟨rfl, ⟨nd, rfl⟩⟩))
        go_ret
        exact ⟨by first | rfl | (simp; done) | (simp [*]; done), by repeat (first | (with_reducible first | exact HB.out | apply below_alloc | apply pw_below_drewN | apply below_drew1) | exact HB.out)⟩
      · go_enter Try.func77, Try.ntmps77
        go_wp2_with (first | ((with_reducible refine gate_dst (N := 2) rfl ?_); refine box_event ?hg (N := 2) ?hd (cs := #[.int .i64 a0_0, .int .i64 a0_1, .bool false, .bool true, .int .i64 a0_4]) (t := 97) ?hr ?_; (case hd => rfl); (case hg => rfl); (case hr => first | (go_simp; done) | (go_simp; rfl)); intro gb hg w3 hbox hb; have hci : w3.cell? ⟨ig, 0, none⟩ = some (.func (.func 75) #[] #[.pointer (some ⟨ng, 0, none⟩)]) := (hb.cell (World.block_lt_of_cell? w _ hc_0)).trans hc_0; have hcn : w3.cell? ⟨ng, 0, none⟩ = some (.int .i64 st) := (hb.cell (World.block_lt_of_cell? w _ hc_1)).trans hc_1; have n0_ := Aside0.mk (below_step HB.out hb); clear HB; have HB := n0_; clear n0_; have BK := Aside0.mk hbox; clear hb hbox hg; have hcz_0 : w3.cell? ⟨gb, 0, none⟩ = some (.int .i64 a0_0) := (blk_cell BK.out 0).trans rfl; have hcz_1 : w3.cell? ⟨gb, 1, none⟩ = some (.int .i64 a0_1) := (blk_cell BK.out 1).trans rfl; have hcz_2 : w3.cell? ⟨gb, 2, none⟩ = some (.bool false) := (blk_cell BK.out 2).trans rfl; have hcz_3 : w3.cell? ⟨gb, 3, none⟩ = some (.bool true) := (blk_cell BK.out 3).trans rfl; have hcz_4 : w3.cell? ⟨gb, 4, none⟩ = some (.int .i64 a0_4) := (blk_cell BK.out 4).trans rfl) | (go_at_call 78; (with_reducible refine (impl_isAsn.calls a0_4 t1 _ A1.out).mono ?_); rintro e w' ⟨rfl, ⟨nd, rfl⟩⟩) | (go_at_call 75; (first | ((with_reducible refine (impl_GoodNfa_1.calls a0_0 st ng true _ ?q A2.out).mono ?_); (case q => first | exact hcn | (go_simp; done) | (simp [hcn]; done))) | ((with_reducible refine (impl_GoodNfa_1.calls a0_1 st ng false _ ?q A3.out).mono ?_); (case q => first | exact hcn | (go_simp; done) | (simp [hcn]; done)))); rintro e w' ⟨rfl, ⟨nd, rfl⟩⟩))
        go_ret
        exact ⟨by first | rfl | (simp; done) | (simp [*]; done), by repeat (first | (with_reducible first | exact HB.out | apply below_alloc | apply pw_below_drewN | apply below_drew1) | exact HB.out)⟩
      · go_enter Try.func77, Try.ntmps77
        go_wp2_with (first | ((with_reducible refine gate_dst (N := 2) rfl ?_); refine box_event ?hg (N := 2) ?hd (cs := #[.int .i64 a0_0, .int .i64 a0_1, .bool true, .bool false, .int .i64 a0_4]) (t := 97) ?hr ?_; (case hd => rfl); (case hg => rfl); (case hr => first | (go_simp; done) | (go_simp; rfl)); intro gb hg w3 hbox hb; have hci : w3.cell? ⟨ig, 0, none⟩ = some (.func (.func 75) #[] #[.pointer (some ⟨ng, 0, none⟩)]) := (hb.cell (World.block_lt_of_cell? w _ hc_0)).trans hc_0; have hcn : w3.cell? ⟨ng, 0, none⟩ = some (.int .i64 st) := (hb.cell (World.block_lt_of_cell? w _ hc_1)).trans hc_1; have n0_ := Aside0.mk (below_step HB.out hb); clear HB; have HB := n0_; clear n0_; have BK := Aside0.mk hbox; clear hb hbox hg; have hcz_0 : w3.cell? ⟨gb, 0, none⟩ = some (.int .i64 a0_0) := (blk_cell BK.out 0).trans rfl; have hcz_1 : w3.cell? ⟨gb, 1, none⟩ = some (.int .i64 a0_1) := (blk_cell BK.out 1).trans rfl; have hcz_2 : w3.cell? ⟨gb, 2, none⟩ = some (.bool true) := (blk_cell BK.out 2).trans rfl; have hcz_3 : w3.cell? ⟨gb, 3, none⟩ = some (.bool false) := (blk_cell BK.out 3).trans rfl; have hcz_4 : w3.cell? ⟨gb, 4, none⟩ = some (.int .i64 a0_4) := (blk_cell BK.out 4).trans rfl) | (go_at_call 78; (with_reducible refine (impl_isAsn.calls a0_4 t1 _ A1.out).mono ?_); rintro e w' ⟨rfl, ⟨nd, rfl⟩⟩) | (go_at_call 75; (first | ((with_reducible refine (impl_GoodNfa_1.calls a0_0 st ng true _ ?q A2.out).mono ?_); (case q => first | exact hcn | (go_simp; done) | (simp [hcn]; done))) | ((with_reducible refine (impl_GoodNfa_1.calls a0_1 st ng false _ ?q A3.out).mono ?_); (case q => first | exact hcn | (go_simp; done) | (simp [hcn]; done)))); rintro e w' ⟨rfl, ⟨nd, rfl⟩⟩))
        go_ret
        exact ⟨by first | rfl | (simp; done) | (simp [*]; done), by repeat (first | (with_reducible first | exact HB.out | apply below_alloc | apply pw_below_drewN | apply below_drew1) | exact HB.out)⟩
      · go_enter Try.func77, Try.ntmps77
        go_wp2_with (first | ((with_reducible refine gate_dst (N := 2) rfl ?_); refine box_event ?hg (N := 2) ?hd (cs := #[.int .i64 a0_0, .int .i64 a0_1, .bool true, .bool true, .int .i64 a0_4]) (t := 97) ?hr ?_; (case hd => rfl); (case hg => rfl); (case hr => first | (go_simp; done) | (go_simp; rfl)); intro gb hg w3 hbox hb; have hci : w3.cell? ⟨ig, 0, none⟩ = some (.func (.func 75) #[] #[.pointer (some ⟨ng, 0, none⟩)]) := (hb.cell (World.block_lt_of_cell? w _ hc_0)).trans hc_0; have hcn : w3.cell? ⟨ng, 0, none⟩ = some (.int .i64 st) := (hb.cell (World.block_lt_of_cell? w _ hc_1)).trans hc_1; have n0_ := Aside0.mk (below_step HB.out hb); clear HB; have HB := n0_; clear n0_; have BK := Aside0.mk hbox; clear hb hbox hg; have hcz_0 : w3.cell? ⟨gb, 0, none⟩ = some (.int .i64 a0_0) := (blk_cell BK.out 0).trans rfl; have hcz_1 : w3.cell? ⟨gb, 1, none⟩ = some (.int .i64 a0_1) := (blk_cell BK.out 1).trans rfl; have hcz_2 : w3.cell? ⟨gb, 2, none⟩ = some (.bool true) := (blk_cell BK.out 2).trans rfl; have hcz_3 : w3.cell? ⟨gb, 3, none⟩ = some (.bool true) := (blk_cell BK.out 3).trans rfl; have hcz_4 : w3.cell? ⟨gb, 4, none⟩ = some (.int .i64 a0_4) := (blk_cell BK.out 4).trans rfl) | (go_at_call 78; (with_reducible refine (impl_isAsn.calls a0_4 t1 _ A1.out).mono ?_); rintro e w' ⟨rfl, ⟨nd, rfl⟩⟩) | (go_at_call 75; (first | ((with_reducible refine (impl_GoodNfa_1.calls a0_0 st ng true _ ?q A2.out).mono ?_); (case q => first | exact hcn | (go_simp; done) | (simp [hcn]; done))) | ((with_reducible refine (impl_GoodNfa_1.calls a0_1 st ng false _ ?q A3.out).mono ?_); (case q => first | exact hcn | (go_simp; done) | (simp [hcn]; done)))); rintro e w' ⟨rfl, ⟨nd, rfl⟩⟩))
        go_ret
        exact ⟨by first | rfl | (simp; done) | (simp [*]; done), by repeat (first | (with_reducible first | exact HB.out | apply below_alloc | apply pw_below_drewN | apply below_drew1) | exact HB.out)⟩
  · replace c2 := Bool.eq_false_iff.mpr c2
    subst c2
    rw [if_neg (show ¬ (false = true) by decide)] at H
    obtain rfl := Option.some.inj H
    clear H
    cases a0_2 <;> cases a0_3
    · go_enter Try.func77, Try.ntmps77
      go_wp2_with (first | ((with_reducible refine gate_dst (N := 2) rfl ?_); refine box_event ?hg (N := 2) ?hd (cs := #[.int .i64 a0_0, .int .i64 a0_1, .bool false, .bool false, .int .i64 a0_4]) (t := 97) ?hr ?_; (case hd => rfl); (case hg => rfl); (case hr => first | (go_simp; done) | (go_simp; rfl)); intro gb hg w3 hbox hb; have hci : w3.cell? ⟨ig, 0, none⟩ = some (.func (.func 75) #[] #[.pointer (some ⟨ng, 0, none⟩)]) := (hb.cell (World.block_lt_of_cell? w _ hc_0)).trans hc_0; have hcn : w3.cell? ⟨ng, 0, none⟩ = some (.int .i64 st) := (hb.cell (World.block_lt_of_cell? w _ hc_1)).trans hc_1; have n0_ := Aside0.mk (below_step HB.out hb); clear HB; have HB := n0_; clear n0_; have BK := Aside0.mk hbox; clear hb hbox hg; have hcz_0 : w3.cell? ⟨gb, 0, none⟩ = some (.int .i64 a0_0) := (blk_cell BK.out 0).trans rfl; have hcz_1 : w3.cell? ⟨gb, 1, none⟩ = some (.int .i64 a0_1) := (blk_cell BK.out 1).trans rfl; have hcz_2 : w3.cell? ⟨gb, 2, none⟩ = some (.bool false) := (blk_cell BK.out 2).trans rfl; have hcz_3 : w3.cell? ⟨gb, 3, none⟩ = some (.bool false) := (blk_cell BK.out 3).trans rfl; have hcz_4 : w3.cell? ⟨gb, 4, none⟩ = some (.int .i64 a0_4) := (blk_cell BK.out 4).trans rfl) | (go_at_call 78; (with_reducible refine (impl_isAsn.calls a0_4 t1 _ A1.out).mono ?_); rintro e w' ⟨rfl, ⟨nd, rfl⟩⟩) | (go_at_call 75; ((with_reducible refine (impl_GoodNfa_1.calls a0_0 st ng false _ ?q A2.out).mono ?_); (case q => first | exact hcn | (go_simp; done) | (simp [hcn]; done))); rintro e w' ⟨rfl, ⟨nd, rfl⟩⟩))
      go_ret
      exact ⟨by first | rfl | (simp; done) | (simp [*]; done), by repeat (first | (with_reducible first | exact HB.out | apply below_alloc | apply pw_below_drewN | apply below_drew1) | exact HB.out)⟩
    · go_enter Try.func77, Try.ntmps77
      go_wp2_with (first | ((with_reducible refine gate_dst (N := 2) rfl ?_); refine box_event ?hg (N := 2) ?hd (cs := #[.int .i64 a0_0, .int .i64 a0_1, .bool false, .bool true, .int .i64 a0_4]) (t := 97) ?hr ?_; (case hd => rfl); (case hg => rfl); (case hr => first | (go_simp; done) | (go_simp; rfl)); intro gb hg w3 hbox hb; have hci : w3.cell? ⟨ig, 0, none⟩ = some (.func (.func 75) #[] #[.pointer (some ⟨ng, 0, none⟩)]) := (hb.cell (World.block_lt_of_cell? w _ hc_0)).trans hc_0; have hcn : w3.cell? ⟨ng, 0, none⟩ = some (.int .i64 st) := (hb.cell (World.block_lt_of_cell? w _ hc_1)).trans hc_1; have n0_ := Aside0.mk (below_step HB.out hb); clear HB; have HB := n0_; clear n0_; have BK := Aside0.mk hbox; clear hb hbox hg; have hcz_0 : w3.cell? ⟨gb, 0, none⟩ = some (.int .i64 a0_0) := (blk_cell BK.out 0).trans rfl; have hcz_1 : w3.cell? ⟨gb, 1, none⟩ = some (.int .i64 a0_1) := (blk_cell BK.out 1).trans rfl; have hcz_2 : w3.cell? ⟨gb, 2, none⟩ = some (.bool false) := (blk_cell BK.out 2).trans rfl; have hcz_3 : w3.cell? ⟨gb, 3, none⟩ = some (.bool true) := (blk_cell BK.out 3).trans rfl; have hcz_4 : w3.cell? ⟨gb, 4, none⟩ = some (.int .i64 a0_4) := (blk_cell BK.out 4).trans rfl) | (go_at_call 78; (with_reducible refine (impl_isAsn.calls a0_4 t1 _ A1.out).mono ?_); rintro e w' ⟨rfl, ⟨nd, rfl⟩⟩) | (go_at_call 75; ((with_reducible refine (impl_GoodNfa_1.calls a0_0 st ng false _ ?q A2.out).mono ?_); (case q => first | exact hcn | (go_simp; done) | (simp [hcn]; done))); rintro e w' ⟨rfl, ⟨nd, rfl⟩⟩))
      go_ret
      exact ⟨by first | rfl | (simp; done) | (simp [*]; done), by repeat (first | (with_reducible first | exact HB.out | apply below_alloc | apply pw_below_drewN | apply below_drew1) | exact HB.out)⟩
    · go_enter Try.func77, Try.ntmps77
      go_wp2_with (first | ((with_reducible refine gate_dst (N := 2) rfl ?_); refine box_event ?hg (N := 2) ?hd (cs := #[.int .i64 a0_0, .int .i64 a0_1, .bool true, .bool false, .int .i64 a0_4]) (t := 97) ?hr ?_; (case hd => rfl); (case hg => rfl); (case hr => first | (go_simp; done) | (go_simp; rfl)); intro gb hg w3 hbox hb; have hci : w3.cell? ⟨ig, 0, none⟩ = some (.func (.func 75) #[] #[.pointer (some ⟨ng, 0, none⟩)]) := (hb.cell (World.block_lt_of_cell? w _ hc_0)).trans hc_0; have hcn : w3.cell? ⟨ng, 0, none⟩ = some (.int .i64 st) := (hb.cell (World.block_lt_of_cell? w _ hc_1)).trans hc_1; have n0_ := Aside0.mk (below_step HB.out hb); clear HB; have HB := n0_; clear n0_; have BK := Aside0.mk hbox; clear hb hbox hg; have hcz_0 : w3.cell? ⟨gb, 0, none⟩ = some (.int .i64 a0_0) := (blk_cell BK.out 0).trans rfl; have hcz_1 : w3.cell? ⟨gb, 1, none⟩ = some (.int .i64 a0_1) := (blk_cell BK.out 1).trans rfl; have hcz_2 : w3.cell? ⟨gb, 2, none⟩ = some (.bool true) := (blk_cell BK.out 2).trans rfl; have hcz_3 : w3.cell? ⟨gb, 3, none⟩ = some (.bool false) := (blk_cell BK.out 3).trans rfl; have hcz_4 : w3.cell? ⟨gb, 4, none⟩ = some (.int .i64 a0_4) := (blk_cell BK.out 4).trans rfl) | (go_at_call 78; (with_reducible refine (impl_isAsn.calls a0_4 t1 _ A1.out).mono ?_); rintro e w' ⟨rfl, ⟨nd, rfl⟩⟩) | (go_at_call 75; ((with_reducible refine (impl_GoodNfa_1.calls a0_0 st ng false _ ?q A2.out).mono ?_); (case q => first | exact hcn | (go_simp; done) | (simp [hcn]; done))); rintro e w' ⟨rfl, ⟨nd, rfl⟩⟩))
      go_ret
      exact ⟨by first | rfl | (simp; done) | (simp [*]; done), by repeat (first | (with_reducible first | exact HB.out | apply below_alloc | apply pw_below_drewN | apply below_drew1) | exact HB.out)⟩
    · go_enter Try.func77, Try.ntmps77
      go_wp2_with (first | ((with_reducible refine gate_dst (N := 2) rfl ?_); refine box_event ?hg (N := 2) ?hd (cs := #[.int .i64 a0_0, .int .i64 a0_1, .bool true, .bool true, .int .i64 a0_4]) (t := 97) ?hr ?_; (case hd => rfl); (case hg => rfl); (case hr => first | (go_simp; done) | (go_simp; rfl)); intro gb hg w3 hbox hb; have hci : w3.cell? ⟨ig, 0, none⟩ = some (.func (.func 75) #[] #[.pointer (some ⟨ng, 0, none⟩)]) := (hb.cell (World.block_lt_of_cell? w _ hc_0)).trans hc_0; have hcn : w3.cell? ⟨ng, 0, none⟩ = some (.int .i64 st) := (hb.cell (World.block_lt_of_cell? w _ hc_1)).trans hc_1; have n0_ := Aside0.mk (below_step HB.out hb); clear HB; have HB := n0_; clear n0_; have BK := Aside0.mk hbox; clear hb hbox hg; have hcz_0 : w3.cell? ⟨gb, 0, none⟩ = some (.int .i64 a0_0) := (blk_cell BK.out 0).trans rfl; have hcz_1 : w3.cell? ⟨gb, 1, none⟩ = some (.int .i64 a0_1) := (blk_cell BK.out 1).trans rfl; have hcz_2 : w3.cell? ⟨gb, 2, none⟩ = some (.bool true) := (blk_cell BK.out 2).trans rfl; have hcz_3 : w3.cell? ⟨gb, 3, none⟩ = some (.bool true) := (blk_cell BK.out 3).trans rfl; have hcz_4 : w3.cell? ⟨gb, 4, none⟩ = some (.int .i64 a0_4) := (blk_cell BK.out 4).trans rfl) | (go_at_call 78; (with_reducible refine (impl_isAsn.calls a0_4 t1 _ A1.out).mono ?_); rintro e w' ⟨rfl, ⟨nd, rfl⟩⟩) | (go_at_call 75; ((with_reducible refine (impl_GoodNfa_1.calls a0_0 st ng false _ ?q A2.out).mono ?_); (case q => first | exact hcn | (go_simp; done) | (simp [hcn]; done))); rintro e w' ⟨rfl, ⟨nd, rfl⟩⟩))
      go_ret
      exact ⟨by first | rfl | (simp; done) | (simp [*]; done), by repeat (first | (with_reducible first | exact HB.out | apply below_alloc | apply pw_below_drewN | apply below_drew1) | exact HB.out)⟩

/-! ### impl_GoodNfa_ix -/
def impl_GoodNfa_ix.l0 (st : Int) : Nat → List (S97) → Int → Int → Option (Int)
  | 0, _, _, _ => none
  | k + 1, x0, x7, x8 => if x8 < x7 then (if 0 ≤ x8 then (if x8 < (x0.length : Int) then ((impl_GoodNfa_2.f ((rd_T97 x0 x8).f0) ((rd_T97 x0 x8).f1) ((rd_T97 x0 x8).f2) ((rd_T97 x0 x8).f3) ((rd_T97 x0 x8).f4) st).bind fun t165 => (if t165 = true then (some x8) else (impl_GoodNfa_ix.l0 st k x0 x7 (wrap64 (x8 + 1))))) else (none)) else (none)) else (some (-1))
def impl_GoodNfa_ix.f (k : Nat) (l0 : List (S97)) (st : Int) : Option (Int) := impl_GoodNfa_ix.l0 st k l0 (l0.length : Int) 0
theorem impl_GoodNfa_ix.mono_l (st : Int) : ∀ k, (∀ y0 y1 y2, LeO (impl_GoodNfa_ix.l0 st k y0 y1 y2) (impl_GoodNfa_ix.l0 st (k + 1) y0 y1 y2))
  | 0 => fun _ _ _ r h => by simp [impl_GoodNfa_ix.l0] at h
  | k + 1 => by
    have ih0 := impl_GoodNfa_ix.mono_l st k
    · intro y0 y1 y2
      unfold impl_GoodNfa_ix.l0
      repeat' first
      | (with_reducible exact ih0 _ _ _)
      | (with_reducible exact LeO.refl _)
      | (with_reducible exact LeO.none _)
      | (with_reducible refine LeO.ite ?_ ?_)
      | (with_reducible refine LeO.bind ?_ (fun _ => ?_))
theorem impl_GoodNfa_ix.mono (st : Int) : ∀ a0 k, LeO (impl_GoodNfa_ix.f k a0 st) (impl_GoodNfa_ix.f (k + 1) a0 st) := fun a0 k => impl_GoodNfa_ix.mono_l st k _ _ _
set_option maxHeartbeats 8000000 in
set_option maxRecDepth 100000 in
theorem impl_GoodNfa_ix.calls (k : Nat) (A0 : Option Addr) (c0 : Nat) (l0 : List (S97)) (st : Int) (ig ng : Nat) (r : Int) (w : World) (hr0 : Kd.C k97 w A0 l0.length l0) (hc0 : l0.length ≤ c0) (hc_0 : w.cell? ⟨ig, 0, none⟩ = some (.func (.func 75) #[] #[.pointer (some ⟨ng, 0, none⟩)])) (hc_1 : w.cell? ⟨ng, 0, none⟩ = some (.int .i64 st)) (h : impl_GoodNfa_ix.f k l0 st = some r) :
    Calls Try.prog 107 #[.slice A0 l0.length c0, .func (.func 77) #[] #[.pointer (some ⟨ig, 0, none⟩)]] w fun e w' => e = .returned (.int .i64 r) ∧ Below w.heap.size w w' := by
  have HR0 := Aside0.mk hr0
  have HC0 := Aside0.mk hc0
  clear hr0 hc0
  have HB := Aside0.mk (Below.refl w.heap.size w)
  have H : (impl_GoodNfa_ix.l0 st k l0 (l0.length : Int) 0) = some r := h
  clear h
  have H' := Aside0.mk H
  clear H
  go_enter Try.func107, Try.ntmps107
  go_wp2
  go_loopg [8] k (fun kq v8 w' => ∃ (x8_1 : Int), v8 = .int .i64 x8_1 ∧ Aside0 (impl_GoodNfa_ix.l0 st kq l0 (l0.length : Int) x8_1 = some r) ∧ Aside0 (kq ≤ k) ∧ Aside0 (Below w.heap.size w w'))
  case atStart => exact ⟨(0), (by first | rfl | (simp; done) | (simp [*]; done)), H', ⟨Nat.le_refl _⟩, ⟨by repeat (first | (with_reducible first | exact HB.out | apply below_alloc | apply pw_below_drewN | apply below_drew1) | exact HB.out)⟩⟩
  case round =>
    clear H'
    try clear p2
    obtain ⟨x8_1, rfl, HA, HK1, HB⟩ := hrel
    cases gk with
    | zero => exact absurd HA.out (by simp [impl_GoodNfa_ix.l0])
    | succ k1 =>
      have H := HA.out
      clear HA
      simp only [impl_GoodNfa_ix.l0] at H
      by_cases c3 : x8_1 < (l0.length : Int)
      · rw [if_pos c3] at H
        have c3b0 : decide (x8_1 < (l0.length : Int)) = true := decide_eq_true c3
        clear c3
        by_cases c4 : 0 ≤ x8_1
        · rw [if_pos c4] at H
          have c4b0 : decide (0 ≤ x8_1) = true := decide_eq_true c4
          clear c4
          by_cases c5 : x8_1 < (l0.length : Int)
          · rw [if_pos c5] at H
            have c5b0 : decide (x8_1 < (l0.length : Int)) = true := decide_eq_true c5
            clear c5
            replace H := Option.bind_eq_some_iff.mp H
            obtain ⟨t165, A60, H⟩ := H
            replace H : (if t165 = true then (some x8_1) else (impl_GoodNfa_ix.l0 st k1 l0 (l0.length : Int) (wrap64 (x8_1 + 1)))) = some r := H
            have A6 := Aside0.mk A60
            clear A60
            by_cases c7 : t165 = true
            · subst c7
              have H1 : (some x8_1) = some r := by rw [if_pos rfl] at H; exact H
              clear H
              have H := H1
              clear H1
              obtain rfl := Option.some.inj H
              have p164 : 0 ≤ (x8_1 : Int) := of_decide_eq_true (by first | (with_reducible assumption) | assumption)
              have q164 : x8_1 < (l0.length : Int) := of_decide_eq_true (by first | (with_reducible assumption) | assumption)
              obtain ⟨ad164, e164, hx_0, hx_1, hx_2, hx_3, hx_4⟩ := at_T97 HR0.out x8_1 p164 q164
              cases e164
              replace hx_0 := (HB.out.cell (World.block_lt_of_cell? w _ hx_0)).trans hx_0
              replace hx_1 := (HB.out.cell (World.block_lt_of_cell? w _ hx_1)).trans hx_1
              replace hx_2 := (HB.out.cell (World.block_lt_of_cell? w _ hx_2)).trans hx_2
              replace hx_3 := (HB.out.cell (World.block_lt_of_cell? w _ hx_3)).trans hx_3
              replace hx_4 := (HB.out.cell (World.block_lt_of_cell? w _ hx_4)).trans hx_4
              replace p164 := eq_true p164
              replace q164 := eq_true q164
              go_wp2_with (first | (go_at_call 77; have hcap_0 := (HB.out.cell (World.block_lt_of_cell? w _ hc_0)).trans hc_0; have hcap_1 := (HB.out.cell (World.block_lt_of_cell? w _ hc_1)).trans hc_1; (with_reducible refine (impl_GoodNfa_2.calls ((rd_T97 l0 x8_1).f0) ((rd_T97 l0 x8_1).f1) ((rd_T97 l0 x8_1).f2) ((rd_T97 l0 x8_1).f3) ((rd_T97 l0 x8_1).f4) st ig ng true _ hcap_0 hcap_1 A6.out).mono ?_); rintro e w8 ⟨rfl, hb⟩; have n0_ := Aside0.mk (below_step (by repeat (first | (with_reducible first | exact HB.out | apply below_alloc | apply pw_below_drewN | apply below_drew1) | exact HB.out)) hb); clear HB; have HB := n0_; clear n0_; (try clear hb)))
              go_ret
              exact ⟨by first | rfl | (simp [errW_none, errW_some] <;> rfl) | (simp [*, errW_none, errW_some] <;> rfl), by repeat (first | (with_reducible first | exact HB.out | apply below_alloc | apply pw_below_drewN | apply below_drew1) | exact HB.out)⟩
            · replace c7 := Bool.eq_false_iff.mpr c7
              subst c7
              have H1 : (impl_GoodNfa_ix.l0 st k1 l0 (l0.length : Int) (wrap64 (x8_1 + 1))) = some r := by rw [if_neg (show ¬ (false = true) by decide)] at H; exact H
              clear H
              have H := H1
              clear H1
              have H' := Aside0.mk H
              clear H
              have p164 : 0 ≤ (x8_1 : Int) := of_decide_eq_true (by first | (with_reducible assumption) | assumption)
              have q164 : x8_1 < (l0.length : Int) := of_decide_eq_true (by first | (with_reducible assumption) | assumption)
              obtain ⟨ad164, e164, hx_0, hx_1, hx_2, hx_3, hx_4⟩ := at_T97 HR0.out x8_1 p164 q164
              cases e164
              replace hx_0 := (HB.out.cell (World.block_lt_of_cell? w _ hx_0)).trans hx_0
              replace hx_1 := (HB.out.cell (World.block_lt_of_cell? w _ hx_1)).trans hx_1
              replace hx_2 := (HB.out.cell (World.block_lt_of_cell? w _ hx_2)).trans hx_2
              replace hx_3 := (HB.out.cell (World.block_lt_of_cell? w _ hx_3)).trans hx_3
              replace hx_4 := (HB.out.cell (World.block_lt_of_cell? w _ hx_4)).trans hx_4
              replace p164 := eq_true p164
              replace q164 := eq_true q164
              go_wp2_with (first | (go_at_call 77; have hcap_0 := (HB.out.cell (World.block_lt_of_cell? w _ hc_0)).trans hc_0; have hcap_1 := (HB.out.cell (World.block_lt_of_cell? w _ hc_1)).trans hc_1; (with_reducible refine (impl_GoodNfa_2.calls ((rd_T97 l0 x8_1).f0) ((rd_T97 l0 x8_1).f1) ((rd_T97 l0 x8_1).f2) ((rd_T97 l0 x8_1).f3) ((rd_T97 l0 x8_1).f4) st ig ng false _ hcap_0 hcap_1 A6.out).mono ?_); rintro e w9 ⟨rfl, hb⟩; have n0_ := Aside0.mk (below_step (by repeat (first | (with_reducible first | exact HB.out | apply below_alloc | apply pw_below_drewN | apply below_drew1) | exact HB.out)) hb); clear HB; have HB := n0_; clear n0_; (try clear hb)))
              go_roundg k1
              case measure => have := HK1.out; omega
              case rel => exact ⟨(wrap64 (x8_1 + 1)), (by first | rfl | (simp; done) | (simp [*]; done)), H', ⟨by have := HK1.out; omega⟩, ⟨by repeat (first | (with_reducible first | exact HB.out | apply below_alloc | apply pw_below_drewN | apply below_drew1) | exact HB.out)⟩⟩
          · rw [if_neg c5] at H
            exact absurd H (by simp)
        · rw [if_neg c4] at H
          exact absurd H (by simp)
      · rw [if_neg c3] at H
        have c3b0 : decide (x8_1 < (l0.length : Int)) = false := decide_eq_false c3
        clear c3
        obtain rfl := Option.some.inj H
        go_wp2
        go_ret
        exact ⟨by first | rfl | (simp [errW_none, errW_some] <;> rfl) | (simp [*, errW_none, errW_some] <;> rfl), by repeat (first | (with_reducible first | exact HB.out | apply below_alloc | apply pw_below_drewN | apply below_drew1) | exact HB.out)⟩

/-! ### impl_GoodNfa_ct -/
def impl_GoodNfa_ct.f (k : Nat) (l0 : List (S97)) (st : Int) : Option (Bool) := (impl_GoodNfa_ix.f k l0 st).bind fun t166 => (some (decide (t166 ≥ 0)))
theorem impl_GoodNfa_ct.mono (st : Int) : ∀ a0 k, LeO (impl_GoodNfa_ct.f k a0 st) (impl_GoodNfa_ct.f (k + 1) a0 st) := fun a0 k => LeO.bind (impl_GoodNfa_ix.mono st _ _) (fun _ => LeO.refl _)
set_option maxHeartbeats 8000000 in
set_option maxRecDepth 100000 in
theorem impl_GoodNfa_ct.calls (k : Nat) (A0 : Option Addr) (c0 : Nat) (l0 : List (S97)) (st : Int) (ig ng : Nat) (r : Bool) (w : World) (hr0 : Kd.C k97 w A0 l0.length l0) (hc0 : l0.length ≤ c0) (hc_0 : w.cell? ⟨ig, 0, none⟩ = some (.func (.func 75) #[] #[.pointer (some ⟨ng, 0, none⟩)])) (hc_1 : w.cell? ⟨ng, 0, none⟩ = some (.int .i64 st)) (h : impl_GoodNfa_ct.f k l0 st = some r) :
    Calls Try.prog 76 #[.slice A0 l0.length c0, .func (.func 77) #[] #[.pointer (some ⟨ig, 0, none⟩)]] w fun e w' => e = .returned (.bool r) ∧ Below w.heap.size w w' := by
  have HR0 := Aside0.mk hr0
  have HC0 := Aside0.mk hc0
  clear hr0 hc0
  have H : ((impl_GoodNfa_ix.f k l0 st).bind fun t166 => (some (decide (t166 ≥ 0)))) = some r := h
  clear h
  replace H := Option.bind_eq_some_iff.mp H
  obtain ⟨t166, A30, H⟩ := H
  replace H : (some (decide (t166 ≥ 0))) = some r := H
  have A3 := Aside0.mk A30
  clear A30
  obtain rfl := Option.some.inj H
  go_enter Try.func76, Try.ntmps76
  go_wp2_with (first | (go_at_call 107; (with_reducible refine (impl_GoodNfa_ix.calls k _ _ l0 st ig ng t166 _ HR0.out HC0.out hc_0 hc_1 A3.out).mono ?_); rintro e w4 ⟨rfl, hb⟩; have HB := Aside0.mk hb; clear hb))
  go_ret
  exact ⟨by first | rfl | (simp; done) | (simp [*]; done), by repeat (first | (with_reducible first | exact HB.out | apply below_alloc | apply pw_below_drewN | apply below_drew1) | exact HB.out)⟩
/-! ### impl_GoodNfa: function 41 -/
def impl_GoodNfa.f (k : Nat) (a0_0 : Int) (a0_1 : Int) (a0_2 : Int) (l0_3 : List S97) : Option Bool := (impl_within.f a0_0 1 80).bind fun t1 => (if t1 = true then (if (l0_3.length : Int) > 200 then (some false) else ((impl_GoodNfa_1.f a0_1 a0_0).bind fun t2 => (if t2 = true then ((impl_GoodNfa_1.f a0_2 a0_0).bind fun t3 => (if t3 = true then ((impl_GoodNfa_ct.f k l0_3 a0_0).bind fun t4 => (some (!t4))) else (some false))) else (some false)))) else (some false))
theorem impl_GoodNfa.mono : ∀ a0 a1 a2 a3 k, LeO (impl_GoodNfa.f k a0 a1 a2 a3) (impl_GoodNfa.f (k + 1) a0 a1 a2 a3) := by
  intro a0 a1 a2 a3 k
  unfold impl_GoodNfa.f
  repeat' first
      | (with_reducible exact impl_GoodNfa_ct.mono _ _ _)
      | (with_reducible exact LeO.refl _)
      | (with_reducible exact LeO.none _)
      | (with_reducible refine LeO.ite ?_ ?_)
      | (with_reducible refine LeO.bind ?_ (fun _ => ?_))
set_option maxHeartbeats 8000000 in
set_option maxRecDepth 100000 in
theorem impl_GoodNfa.calls (k : Nat) (a0_0 : Int) (a0_1 : Int) (a0_2 : Int) (A0_3 : Option Addr) (c0_3 : Nat) (l0_3 : List S97) (r : Bool) (w : World) (hr0_3 : Kd.C k97 w A0_3 l0_3.length l0_3) (hc0_3 : l0_3.length ≤ c0_3) (h : impl_GoodNfa.f k a0_0 a0_1 a0_2 l0_3 = some r) :
    Calls Try.prog 41 #[.agg #[.int .i64 a0_0, .int .i64 a0_1, .int .i64 a0_2, .slice A0_3 l0_3.length c0_3]] w fun e w' => e = .returned (.bool r) ∧ Below w.heap.size w w' := by
  have hu60 := Try.underlying60
  have hu97 := Try.underlying97
  have HR0_3 := Aside0.mk hr0_3
  have HC0_3 := Aside0.mk hc0_3
  clear hr0_3 hc0_3
  have HB := Aside0.mk (Below.refl w.heap.size w)
  have hmf : ∀ (fn : Fn) (first cap : Array Value) (w : World), (Instr.makeFunc fn first cap).run Try.prog w = .ok (.func fn first cap) w := fun _ _ _ _ => rfl
  have H : ((impl_within.f a0_0 1 80).bind fun t1 => (if t1 = true then (if (l0_3.length : Int) > 200 then (some false) else ((impl_GoodNfa_1.f a0_1 a0_0).bind fun t2 => (if t2 = true then ((impl_GoodNfa_1.f a0_2 a0_0).bind fun t3 => (if t3 = true then ((impl_GoodNfa_ct.f k l0_3 a0_0).bind fun t4 => (some (!t4))) else (some false))) else (some false)))) else (some false))) = some r := h
  clear h
  replace H := Option.bind_eq_some_iff.mp H
  obtain ⟨t1, A10, H⟩ := H
  replace H : (if t1 = true then (if (l0_3.length : Int) > 200 then (some false) else ((impl_GoodNfa_1.f a0_1 a0_0).bind fun t2 => (if t2 = true then ((impl_GoodNfa_1.f a0_2 a0_0).bind fun t3 => (if t3 = true then ((impl_GoodNfa_ct.f k l0_3 a0_0).bind fun t4 => (some (!t4))) else (some false))) else (some false)))) else (some false)) = some r := H
  have A1 := Aside0.mk A10
  clear A10
  by_cases c1 : t1 = true
  · subst c1
    rw [if_pos rfl] at H
    by_cases c7 : (l0_3.length : Int) > 200
    · rw [if_pos c7] at H
      have c7b0 : decide ((200 : Int) < (l0_3.length : Int)) = true := decide_eq_true c7
      have c7b1 : decide (200 < l0_3.length) = true := decide_eq_true (by omega)
      clear c7
      obtain rfl := Option.some.inj H
      clear H
      go_enter Try.func41, Try.ntmps41
      go_wp2_with (first | ((with_reducible refine gate_dst (N := 1) rfl ?_); refine box_event ?hg (N := 1) ?hd (cs := #[.int .i64 a0_0, .int .i64 a0_1, .int .i64 a0_2, .slice A0_3 l0_3.length c0_3]) (t := 60) ?hr ?_; (case hd => rfl); (case hg => rfl); (case hr => first | (go_simp; done) | (go_simp; rfl)); intro gb hg w3 hbox hb; have n0_ := Aside0.mk (below_step HB.out hb); have GW := Aside0.mk ((by rw [hg]; exact below_size HB.out) : w.heap.size ≤ gb); clear HB; have HB := n0_; clear n0_; have BK := Aside0.mk hbox; clear hb hbox hg; have hcz_0 : w3.cell? ⟨gb, 0, none⟩ = some (.int .i64 a0_0) := (blk_cell BK.out 0).trans rfl; have hcz_1 : w3.cell? ⟨gb, 1, none⟩ = some (.int .i64 a0_1) := (blk_cell BK.out 1).trans rfl; have hcz_2 : w3.cell? ⟨gb, 2, none⟩ = some (.int .i64 a0_2) := (blk_cell BK.out 2).trans rfl; have hcz_3 : w3.cell? ⟨gb, 3, none⟩ = some (.slice A0_3 l0_3.length c0_3) := (blk_cell BK.out 3).trans rfl) | (go_at_call 63; (with_reducible refine (impl_within.calls a0_0 1 80 true _ A1.out).mono ?_); rintro e w' ⟨rfl, ⟨nd, rfl⟩⟩))
      go_ret
      exact ⟨by first | rfl | (simp; done) | (simp [*]; done), by repeat (first | (with_reducible first | exact HB.out | apply below_alloc | apply pw_below_drewN | apply below_drew1) | exact HB.out)⟩
    · rw [if_neg c7] at H
      have c7b0 : decide ((200 : Int) < (l0_3.length : Int)) = false := decide_eq_false c7
      have c7b1 : decide (200 < l0_3.length) = false := decide_eq_false (by omega)
      clear c7
      replace H := Option.bind_eq_some_iff.mp H
      obtain ⟨t2, A20, H⟩ := H
      replace H : (if t2 = true then ((impl_GoodNfa_1.f a0_2 a0_0).bind fun t3 => (if t3 = true then ((impl_GoodNfa_ct.f k l0_3 a0_0).bind fun t4 => (some (!t4))) else (some false))) else (some false)) = some r := H
      have A2 := Aside0.mk A20
      clear A20
      by_cases c2 : t2 = true
      · subst c2
        rw [if_pos rfl] at H
        replace H := Option.bind_eq_some_iff.mp H
        obtain ⟨t3, A30, H⟩ := H
        replace H : (if t3 = true then ((impl_GoodNfa_ct.f k l0_3 a0_0).bind fun t4 => (some (!t4))) else (some false)) = some r := H
        have A3 := Aside0.mk A30
        clear A30
        by_cases c3 : t3 = true
        · subst c3
          rw [if_pos rfl] at H
          replace H := Option.bind_eq_some_iff.mp H
          obtain ⟨t4, A40, H⟩ := H
          replace H : (some (!t4)) = some r := H
          have A4 := Aside0.mk A40
          clear A40
          obtain rfl := Option.some.inj H
          clear H
          go_enter Try.func41, Try.ntmps41
          go_wp2_with (first | ((with_reducible refine gate_dst (N := 1) rfl ?_); refine box_event ?hg (N := 1) ?hd (cs := #[.int .i64 a0_0, .int .i64 a0_1, .int .i64 a0_2, .slice A0_3 l0_3.length c0_3]) (t := 60) ?hr ?_; (case hd => rfl); (case hg => rfl); (case hr => first | (go_simp; done) | (go_simp; rfl)); intro gb hg w3 hbox hb; have n0_ := Aside0.mk (below_step HB.out hb); have GW := Aside0.mk ((by rw [hg]; exact below_size HB.out) : w.heap.size ≤ gb); clear HB; have HB := n0_; clear n0_; have BK := Aside0.mk hbox; clear hb hbox hg; have hcz_0 : w3.cell? ⟨gb, 0, none⟩ = some (.int .i64 a0_0) := (blk_cell BK.out 0).trans rfl; have hcz_1 : w3.cell? ⟨gb, 1, none⟩ = some (.int .i64 a0_1) := (blk_cell BK.out 1).trans rfl; have hcz_2 : w3.cell? ⟨gb, 2, none⟩ = some (.int .i64 a0_2) := (blk_cell BK.out 2).trans rfl; have hcz_3 : w3.cell? ⟨gb, 3, none⟩ = some (.slice A0_3 l0_3.length c0_3) := (blk_cell BK.out 3).trans rfl) | (go_at_call 63; (with_reducible refine (impl_within.calls a0_0 1 80 true _ A1.out).mono ?_); rintro e w' ⟨rfl, ⟨nd, rfl⟩⟩) | ((with_reducible refine gate_dst (N := 3) rfl ?_); refine box_event ?hg (N := 3) ?hd (cs := #[.nilFunc]) (t := 99) ?hr ?_; (case hd => rfl); (case hg => rfl); (case hr => first | (go_simp; done) | (go_simp; rfl)); intro ib hg w4 hbox hb; have GI := Aside0.mk ((by rw [hg]; exact below_size (by repeat (first | (with_reducible first | exact HB.out | apply below_alloc | apply pw_below_drewN | apply below_drew1) | exact HB.out))) : w.heap.size ≤ ib); have BK4 := Aside0.mk ((hb.block gb (by have := blk_lt BK.out; simpa using this)).trans (show _ from by (with_reducible repeat (first | refine blk_drewN ?_ _ | refine blk_drew ?_ | refine blk_alloc ?_ _)); exact BK.out)); have NE := Aside0.mk (show gb ≠ ib from by have := blk_lt BK.out; simp at hg; omega); have n0_ := Aside0.mk (below_step (by repeat (first | (with_reducible first | exact HB.out | apply below_alloc | apply pw_below_drewN | apply below_drew1) | exact HB.out)) hb); clear HB; have HB := n0_; clear n0_; have hiz : w4.cell? ⟨ib, 0, none⟩ = some .nilFunc := (blk_cell hbox 0).trans rfl; have hfz := blk_frozen hbox 0; have hcy_0 : (w4.setCell ⟨ib, 0, none⟩ (.func (.func 75) #[] #[.pointer (some ⟨gb, 0, none⟩)])).cell? ⟨gb, 0, none⟩ = some (.int .i64 a0_0) := (cell_far (p := ⟨ib, 0, none⟩) NE.out (.func (.func 75) #[] #[.pointer (some ⟨gb, 0, none⟩)])).trans ((blk_cell BK4.out 0).trans rfl); have hcy_1 : (w4.setCell ⟨ib, 0, none⟩ (.func (.func 75) #[] #[.pointer (some ⟨gb, 0, none⟩)])).cell? ⟨gb, 1, none⟩ = some (.int .i64 a0_1) := (cell_far (p := ⟨ib, 0, none⟩) NE.out (.func (.func 75) #[] #[.pointer (some ⟨gb, 0, none⟩)])).trans ((blk_cell BK4.out 1).trans rfl); have hcy_2 : (w4.setCell ⟨ib, 0, none⟩ (.func (.func 75) #[] #[.pointer (some ⟨gb, 0, none⟩)])).cell? ⟨gb, 2, none⟩ = some (.int .i64 a0_2) := (cell_far (p := ⟨ib, 0, none⟩) NE.out (.func (.func 75) #[] #[.pointer (some ⟨gb, 0, none⟩)])).trans ((blk_cell BK4.out 2).trans rfl); have hcy_3 : (w4.setCell ⟨ib, 0, none⟩ (.func (.func 75) #[] #[.pointer (some ⟨gb, 0, none⟩)])).cell? ⟨gb, 3, none⟩ = some (.slice A0_3 l0_3.length c0_3) := (cell_far (p := ⟨ib, 0, none⟩) NE.out (.func (.func 75) #[] #[.pointer (some ⟨gb, 0, none⟩)])).trans ((blk_cell BK4.out 3).trans rfl); clear hb hbox hg) | (go_at_call 75; (first | ((with_reducible refine (impl_GoodNfa_1.calls a0_1 a0_0 gb true _ ?q A2.out).mono ?_); (case q => first | exact hcy_0 | (go_simp; done) | (simp [hcy_0]; done))) | ((with_reducible refine (impl_GoodNfa_1.calls a0_2 a0_0 gb true _ ?q A3.out).mono ?_); (case q => first | exact hcy_0 | (go_simp; done) | (simp [hcy_0]; done)))); rintro e w' ⟨rfl, ⟨nd, rfl⟩⟩) | (go_at_call 76; (with_reducible refine (impl_GoodNfa_ct.calls k _ _ l0_3 a0_0 ib gb t4 _ (Kd.C_below HR0_3.out (by repeat (first | (with_reducible first | exact HB.out | apply below_alloc | apply pw_below_drewN | apply below_drew1 | refine below_set ?_ GI.out) | exact HB.out))) HC0_3.out ?q1 ?q2 A4.out).mono ?_); (case q1 => first | (go_simp; done) | (simp; done)); (case q2 => first | exact hcy_0 | (go_simp; done) | (simp [hcy_0]; done)); rintro e w5 ⟨rfl, hb⟩; have n0_ := Aside0.mk (below_step (by repeat (first | (with_reducible first | exact HB.out | apply below_alloc | apply pw_below_drewN | apply below_drew1 | refine below_set ?_ GI.out) | exact HB.out)) hb); clear HB; have HB := n0_; clear n0_ hb))
          go_ret
          exact ⟨by first | rfl | (simp; done) | (simp [*]; done), by repeat (first | (with_reducible first | exact HB.out | apply below_alloc | apply pw_below_drewN | apply below_drew1 | refine below_set ?_ GI.out) | exact HB.out)⟩
        · replace c3 := Bool.eq_false_iff.mpr c3
          subst c3
          rw [if_neg (show ¬ (false = true) by decide)] at H
          obtain rfl := Option.some.inj H
          clear H
          go_enter Try.func41, Try.ntmps41
          go_wp2_with (first | ((with_reducible refine gate_dst (N := 1) rfl ?_); refine box_event ?hg (N := 1) ?hd (cs := #[.int .i64 a0_0, .int .i64 a0_1, .int .i64 a0_2, .slice A0_3 l0_3.length c0_3]) (t := 60) ?hr ?_; (case hd => rfl); (case hg => rfl); (case hr => first | (go_simp; done) | (go_simp; rfl)); intro gb hg w3 hbox hb; have n0_ := Aside0.mk (below_step HB.out hb); have GW := Aside0.mk ((by rw [hg]; exact below_size HB.out) : w.heap.size ≤ gb); clear HB; have HB := n0_; clear n0_; have BK := Aside0.mk hbox; clear hb hbox hg; have hcz_0 : w3.cell? ⟨gb, 0, none⟩ = some (.int .i64 a0_0) := (blk_cell BK.out 0).trans rfl; have hcz_1 : w3.cell? ⟨gb, 1, none⟩ = some (.int .i64 a0_1) := (blk_cell BK.out 1).trans rfl; have hcz_2 : w3.cell? ⟨gb, 2, none⟩ = some (.int .i64 a0_2) := (blk_cell BK.out 2).trans rfl; have hcz_3 : w3.cell? ⟨gb, 3, none⟩ = some (.slice A0_3 l0_3.length c0_3) := (blk_cell BK.out 3).trans rfl) | (go_at_call 63; (with_reducible refine (impl_within.calls a0_0 1 80 true _ A1.out).mono ?_); rintro e w' ⟨rfl, ⟨nd, rfl⟩⟩) | ((with_reducible refine gate_dst (N := 3) rfl ?_); refine box_event ?hg (N := 3) ?hd (cs := #[.nilFunc]) (t := 99) ?hr ?_; (case hd => rfl); (case hg => rfl); (case hr => first | (go_simp; done) | (go_simp; rfl)); intro ib hg w4 hbox hb; have GI := Aside0.mk ((by rw [hg]; exact below_size (by repeat (first | (with_reducible first | exact HB.out | apply below_alloc | apply pw_below_drewN | apply below_drew1) | exact HB.out))) : w.heap.size ≤ ib); have BK4 := Aside0.mk ((hb.block gb (by have := blk_lt BK.out; simpa using this)).trans (show _ from by (with_reducible repeat (first | refine blk_drewN ?_ _ | refine blk_drew ?_ | refine blk_alloc ?_ _)); exact BK.out)); have NE := Aside0.mk (show gb ≠ ib from by have := blk_lt BK.out; simp at hg; omega); have n0_ := Aside0.mk (below_step (by repeat (first | (with_reducible first | exact HB.out | apply below_alloc | apply pw_below_drewN | apply below_drew1) | exact HB.out)) hb); clear HB; have HB := n0_; clear n0_; have hiz : w4.cell? ⟨ib, 0, none⟩ = some .nilFunc := (blk_cell hbox 0).trans rfl; have hfz := blk_frozen hbox 0; have hcy_0 : (w4.setCell ⟨ib, 0, none⟩ (.func (.func 75) #[] #[.pointer (some ⟨gb, 0, none⟩)])).cell? ⟨gb, 0, none⟩ = some (.int .i64 a0_0) := (cell_far (p := ⟨ib, 0, none⟩) NE.out (.func (.func 75) #[] #[.pointer (some ⟨gb, 0, none⟩)])).trans ((blk_cell BK4.out 0).trans rfl); have hcy_1 : (w4.setCell ⟨ib, 0, none⟩ (.func (.func 75) #[] #[.pointer (some ⟨gb, 0, none⟩)])).cell? ⟨gb, 1, none⟩ = some (.int .i64 a0_1) := (cell_far (p := ⟨ib, 0, none⟩) NE.out (.func (.func 75) #[] #[.pointer (some ⟨gb, 0, none⟩)])).trans ((blk_cell BK4.out 1).trans rfl); have hcy_2 : (w4.setCell ⟨ib, 0, none⟩ (.func (.func 75) #[] #[.pointer (some ⟨gb, 0, none⟩)])).cell? ⟨gb, 2, none⟩ = some (.int .i64 a0_2) := (cell_far (p := ⟨ib, 0, none⟩) NE.out (.func (.func 75) #[] #[.pointer (some ⟨gb, 0, none⟩)])).trans ((blk_cell BK4.out 2).trans rfl); have hcy_3 : (w4.setCell ⟨ib, 0, none⟩ (.func (.func 75) #[] #[.pointer (some ⟨gb, 0, none⟩)])).cell? ⟨gb, 3, none⟩ = some (.slice A0_3 l0_3.length c0_3) := (cell_far (p := ⟨ib, 0, none⟩) NE.out (.func (.func 75) #[] #[.pointer (some ⟨gb, 0, none⟩)])).trans ((blk_cell BK4.out 3).trans rfl); clear hb hbox hg) | (go_at_call 75; (first | ((with_reducible refine (impl_GoodNfa_1.calls a0_1 a0_0 gb true _ ?q A2.out).mono ?_); (case q => first | exact hcy_0 | (go_simp; done) | (simp [hcy_0]; done))) | ((with_reducible refine (impl_GoodNfa_1.calls a0_2 a0_0 gb false _ ?q A3.out).mono ?_); (case q => first | exact hcy_0 | (go_simp; done) | (simp [hcy_0]; done)))); rintro e w' ⟨rfl, ⟨nd, rfl⟩⟩))
          go_ret
          exact ⟨by first | rfl | (simp; done) | (simp [*]; done), by repeat (first | (with_reducible first | exact HB.out | apply below_alloc | apply pw_below_drewN | apply below_drew1 | refine below_set ?_ GI.out) | exact HB.out)⟩
      · replace c2 := Bool.eq_false_iff.mpr c2
        subst c2
        rw [if_neg (show ¬ (false = true) by decide)] at H
        obtain rfl := Option.some.inj H
        clear H
        go_enter Try.func41, Try.ntmps41
        go_wp2_with (first | ((with_reducible refine gate_dst (N := 1) rfl ?_); refine box_event ?hg (N := 1) ?hd (cs := #[.int .i64 a0_0, .int .i64 a0_1, .int .i64 a0_2, .slice A0_3 l0_3.length c0_3]) (t := 60) ?hr ?_; (case hd => rfl); (case hg => rfl); (case hr => first | (go_simp; done) | (go_simp; rfl)); intro gb hg w3 hbox hb; have n0_ := Aside0.mk (below_step HB.out hb); have GW := Aside0.mk ((by rw [hg]; exact below_size HB.out) : w.heap.size ≤ gb); clear HB; have HB := n0_; clear n0_; have BK := Aside0.mk hbox; clear hb hbox hg; have hcz_0 : w3.cell? ⟨gb, 0, none⟩ = some (.int .i64 a0_0) := (blk_cell BK.out 0).trans rfl; have hcz_1 : w3.cell? ⟨gb, 1, none⟩ = some (.int .i64 a0_1) := (blk_cell BK.out 1).trans rfl; have hcz_2 : w3.cell? ⟨gb, 2, none⟩ = some (.int .i64 a0_2) := (blk_cell BK.out 2).trans rfl; have hcz_3 : w3.cell? ⟨gb, 3, none⟩ = some (.slice A0_3 l0_3.length c0_3) := (blk_cell BK.out 3).trans rfl) | (go_at_call 63; (with_reducible refine (impl_within.calls a0_0 1 80 true _ A1.out).mono ?_); rintro e w' ⟨rfl, ⟨nd, rfl⟩⟩) | ((with_reducible refine gate_dst (N := 3) rfl ?_); refine box_event ?hg (N := 3) ?hd (cs := #[.nilFunc]) (t := 99) ?hr ?_; (case hd => rfl); (case hg => rfl); (case hr => first | (go_simp; done) | (go_simp; rfl)); intro ib hg w4 hbox hb; have GI := Aside0.mk ((by rw [hg]; exact below_size (by repeat (first | (with_reducible first | exact HB.out | apply below_alloc | apply pw_below_drewN | apply below_drew1) | exact HB.out))) : w.heap.size ≤ ib); have BK4 := Aside0.mk ((hb.block gb (by have := blk_lt BK.out; simpa using this)).trans (show _ from by (with_reducible repeat (first | refine blk_drewN ?_ _ | refine blk_drew ?_ | refine blk_alloc ?_ _)); exact BK.out)); have NE := Aside0.mk (show gb ≠ ib from by have := blk_lt BK.out; simp at hg; omega); have n0_ := Aside0.mk (below_step (by repeat (first | (with_reducible first | exact HB.out | apply below_alloc | apply pw_below_drewN | apply below_drew1) | exact HB.out)) hb); clear HB; have HB := n0_; clear n0_; have hiz : w4.cell? ⟨ib, 0, none⟩ = some .nilFunc := (blk_cell hbox 0).trans rfl; have hfz := blk_frozen hbox 0; have hcy_0 : (w4.setCell ⟨ib, 0, none⟩ (.func (.func 75) #[] #[.pointer (some ⟨gb, 0, none⟩)])).cell? ⟨gb, 0, none⟩ = some (.int .i64 a0_0) := (cell_far (p := ⟨ib, 0, none⟩) NE.out (.func (.func 75) #[] #[.pointer (some ⟨gb, 0, none⟩)])).trans ((blk_cell BK4.out 0).trans rfl); have hcy_1 : (w4.setCell ⟨ib, 0, none⟩ (.func (.func 75) #[] #[.pointer (some ⟨gb, 0, none⟩)])).cell? ⟨gb, 1, none⟩ = some (.int .i64 a0_1) := (cell_far (p := ⟨ib, 0, none⟩) NE.out (.func (.func 75) #[] #[.pointer (some ⟨gb, 0, none⟩)])).trans ((blk_cell BK4.out 1).trans rfl); have hcy_2 : (w4.setCell ⟨ib, 0, none⟩ (.func (.func 75) #[] #[.pointer (some ⟨gb, 0, none⟩)])).cell? ⟨gb, 2, none⟩ = some (.int .i64 a0_2) := (cell_far (p := ⟨ib, 0, none⟩) NE.out (.func (.func 75) #[] #[.pointer (some ⟨gb, 0, none⟩)])).trans ((blk_cell BK4.out 2).trans rfl); have hcy_3 : (w4.setCell ⟨ib, 0, none⟩ (.func (.func 75) #[] #[.pointer (some ⟨gb, 0, none⟩)])).cell? ⟨gb, 3, none⟩ = some (.slice A0_3 l0_3.length c0_3) := (cell_far (p := ⟨ib, 0, none⟩) NE.out (.func (.func 75) #[] #[.pointer (some ⟨gb, 0, none⟩)])).trans ((blk_cell BK4.out 3).trans rfl); clear hb hbox hg) | (go_at_call 75; (first | ((with_reducible refine (impl_GoodNfa_1.calls a0_1 a0_0 gb false _ ?q A2.out).mono ?_); (case q => first | exact hcy_0 | (go_simp; done) | (simp [hcy_0]; done)))); rintro e w' ⟨rfl, ⟨nd, rfl⟩⟩))
        go_ret
        exact ⟨by first | rfl | (simp; done) | (simp [*]; done), by repeat (first | (with_reducible first | exact HB.out | apply below_alloc | apply pw_below_drewN | apply below_drew1 | refine below_set ?_ GI.out) | exact HB.out)⟩
  · replace c1 := Bool.eq_false_iff.mpr c1
    subst c1
    rw [if_neg (show ¬ (false = true) by decide)] at H
    obtain rfl := Option.some.inj H
    clear H
    go_enter Try.func41, Try.ntmps41
    go_wp2_with (first | ((with_reducible refine gate_dst (N := 1) rfl ?_); refine box_event ?hg (N := 1) ?hd (cs := #[.int .i64 a0_0, .int .i64 a0_1, .int .i64 a0_2, .slice A0_3 l0_3.length c0_3]) (t := 60) ?hr ?_; (case hd => rfl); (case hg => rfl); (case hr => first | (go_simp; done) | (go_simp; rfl)); intro gb hg w3 hbox hb; have n0_ := Aside0.mk (below_step HB.out hb); have GW := Aside0.mk ((by rw [hg]; exact below_size HB.out) : w.heap.size ≤ gb); clear HB; have HB := n0_; clear n0_; have BK := Aside0.mk hbox; clear hb hbox hg; have hcz_0 : w3.cell? ⟨gb, 0, none⟩ = some (.int .i64 a0_0) := (blk_cell BK.out 0).trans rfl; have hcz_1 : w3.cell? ⟨gb, 1, none⟩ = some (.int .i64 a0_1) := (blk_cell BK.out 1).trans rfl; have hcz_2 : w3.cell? ⟨gb, 2, none⟩ = some (.int .i64 a0_2) := (blk_cell BK.out 2).trans rfl; have hcz_3 : w3.cell? ⟨gb, 3, none⟩ = some (.slice A0_3 l0_3.length c0_3) := (blk_cell BK.out 3).trans rfl) | (go_at_call 63; (with_reducible refine (impl_within.calls a0_0 1 80 false _ A1.out).mono ?_); rintro e w' ⟨rfl, ⟨nd, rfl⟩⟩))
    go_ret
    exact ⟨by first | rfl | (simp; done) | (simp [*]; done), by repeat (first | (with_reducible first | exact HB.out | apply below_alloc | apply pw_below_drewN | apply below_drew1) | exact HB.out)⟩

/-- A state of type 97 at block g of W; what its slices lead to came in by w0. -/
def IsS97 (w0 W : World) (g : Nat) (f0 : Int) (f1 : Int) (f2 : Bool) (f3 : Bool) (f4 : Int) : Prop := W.heap[g]? = some (.cells #[.int .i64 f0, .int .i64 f1, .bool f2, .bool f3, .int .i64 f4] 97 (0, 0)) ∧ w0.heap.size ≤ g
theorem IsS97.grown {w0 W : World} {g : Nat} {f0 : Int} {f1 : Int} {f2 : Bool} {f3 : Bool} {f4 : Int} {W1 : World} {row : Option Nat} (h : IsS97 w0 W g f0 f1 f2 f3 f4) (hw : W.grownBy W1 row) (hne : some g ≠ row) : IsS97 w0 W1 g f0 f1 f2 f3 f4 := by
  obtain ⟨hb, hg⟩ := h
  exact ⟨blk_grown hb hw hne, hg⟩
theorem IsS97.own_neN {w0 W : World} {g : Nat} {f0 : Int} {f1 : Int} {f2 : Bool} {f3 : Bool} {f4 : Int} {α : Type} {d : Kd α} {e : Nat} {base : Nat} {ok : Nat → Prop} {v : Value} {xs : List α} (h : IsS97 w0 W g f0 f1 f2 f3 f4) (ho : Kd.N d e W base ok v xs) (ht : e ≠ 97) : some g ≠ v.ownBlock := by
  obtain ⟨hb, hg⟩ := h
  exact Kd.N_ne ho hb ht
theorem IsS97.fresh {w0 W : World} {g : Nat} {f0 : Int} {f1 : Int} {f2 : Bool} {f3 : Bool} {f4 : Int} (h : IsS97 w0 W g f0 f1 f2 f3 f4) : ∀ k, W.heap.size ≤ k → k ≠ g := by
  obtain ⟨hb, hg⟩ := h
  exact Kd.freshB hb
theorem IsS97.kept {w0 W : World} {g : Nat} {f0 : Int} {f1 : Int} {f2 : Bool} {f3 : Bool} {f4 : Int} {W1 : World} {S : Nat → Prop} (h : IsS97 w0 W g f0 f1 f2 f3 f4) (hk : Kept W W1 S) (hne : ¬ S g) : IsS97 w0 W1 g f0 f1 f2 f3 f4 := by
  obtain ⟨hb, hg⟩ := h
  exact ⟨blk_kept hb hk hne, hg⟩
theorem IsS97.below {w0 W : World} {g : Nat} {f0 : Int} {f1 : Int} {f2 : Bool} {f3 : Bool} {f4 : Int} {W1 : World} (h : IsS97 w0 W g f0 f1 f2 f3 f4) (hw : Below W.heap.size W W1) : IsS97 w0 W1 g f0 f1 f2 f3 f4 := h.grown (grown_of_below hw none) (by simp)
theorem IsS97.alloc {w0 W : World} {g : Nat} {f0 : Int} {f1 : Int} {f2 : Bool} {f3 : Bool} {f4 : Int} (h : IsS97 w0 W g f0 f1 f2 f3 f4) (o : Obj) : IsS97 w0 (W.alloc o) g f0 f1 f2 f3 f4 := h.below (below_alloc (Below.refl _ _) o)
theorem IsS97.drewN {w0 W : World} {g : Nat} {f0 : Int} {f1 : Int} {f2 : Bool} {f3 : Bool} {f4 : Int} (h : IsS97 w0 W g f0 f1 f2 f3 f4) (m : Nat) : IsS97 w0 (W.drewN m) g f0 f1 f2 f3 f4 := h
theorem IsS97.drew {w0 W : World} {g : Nat} {f0 : Int} {f1 : Int} {f2 : Bool} {f3 : Bool} {f4 : Int} (h : IsS97 w0 W g f0 f1 f2 f3 f4) : IsS97 w0 W.drew g f0 f1 f2 f3 f4 := h
theorem IsS97.at_ {w0 W : World} {g : Nat} {f0 : Int} {f1 : Int} {f2 : Bool} {f3 : Bool} {f4 : Int} {w' : World} {m : Nat} (hq : W.drewN m = w') (h : IsS97 w0 W g f0 f1 f2 f3 f4) : IsS97 w0 w' g f0 f1 f2 f3 f4 := by subst hq; exact IsS97.drewN h m
theorem IsS97.apart {w0 W : World} {g : Nat} {f0 : Int} {f1 : Int} {f2 : Bool} {f3 : Bool} {f4 : Int} {α : Type} {d : Kd α} {e : Nat} {base : Nat} {ok : Nat → Prop} {v : Value} {xs : List α} (h : IsS97 w0 W g f0 f1 f2 f3 f4) (ho : d.R e W base ok v xs) (ht : ∀ q, q ∈ e :: d.E → q ≠ 97) : d.R e W base (fun k => ok k ∧ k ≠ g) v xs := by
  obtain ⟨hb, hg⟩ := h
  exact Kd.R_types ho hb ht
theorem IsS97.own_ne {w0 W : World} {g : Nat} {f0 : Int} {f1 : Int} {f2 : Bool} {f3 : Bool} {f4 : Int} {α : Type} {d : Kd α} {e : Nat} {base : Nat} {ok : Nat → Prop} {v : Value} {xs : List α} (h : IsS97 w0 W g f0 f1 f2 f3 f4) (ho : d.R e W base ok v xs) (ht : e ≠ 97) : some g ≠ v.ownBlock := by
  obtain ⟨hb, hg⟩ := h
  exact Kd.R_ne ho hb ht
theorem IsS97.apartQ {w0 W : World} {g : Nat} {f0 : Int} {f1 : Int} {f2 : Bool} {f3 : Bool} {f4 : Int} {α : Type} {d : Kd α} {e : Nat} {base : Nat} {ok : Nat → Prop} {v : Value} {xs : List α} (h : IsS97 w0 W g f0 f1 f2 f3 f4) (ho : d.Q e W base ok v xs) (ht : ∀ q, q ∈ e :: d.E → q ≠ 97) : d.Q e W base (fun k => ok k ∧ k ≠ g) v xs := by
  obtain ⟨hb, hg⟩ := h
  exact Kd.Q_types ho hb ht
theorem IsS97.own_neQ {w0 W : World} {g : Nat} {f0 : Int} {f1 : Int} {f2 : Bool} {f3 : Bool} {f4 : Int} {α : Type} {d : Kd α} {e : Nat} {base : Nat} {ok : Nat → Prop} {v : Value} {xs : List α} (h : IsS97 w0 W g f0 f1 f2 f3 f4) (ho : d.Q e W base ok v xs) (ht : e ≠ 97) : some g ≠ v.ownBlock := by
  obtain ⟨hb, hg⟩ := h
  exact Kd.Q_ne ho hb ht
theorem IsS97.apartS {w0 W : World} {g : Nat} {f0 : Int} {f1 : Int} {f2 : Bool} {f3 : Bool} {f4 : Int} {α : Type} {d : Kd α} {e : Nat} {base : Nat} {ok : Nat → Prop} {v : Value} {xs : List α} (h : IsS97 w0 W g f0 f1 f2 f3 f4) (ho : d.S e W base ok v xs) (ht : ∀ q, q ∈ e :: d.E → q ≠ 97) : d.S e W base (fun k => ok k ∧ k ≠ g) v xs := by
  obtain ⟨hb, hg⟩ := h
  exact Kd.S_types ho hb ht
theorem IsS97.own_neS {w0 W : World} {g : Nat} {f0 : Int} {f1 : Int} {f2 : Bool} {f3 : Bool} {f4 : Int} {α : Type} {d : Kd α} {e : Nat} {base : Nat} {ok : Nat → Prop} {v : Value} {xs : List α} (h : IsS97 w0 W g f0 f1 f2 f3 f4) (ho : d.S e W base ok v xs) (ht : e ≠ 97) : some g ≠ v.ownBlock := by
  obtain ⟨hb, hg⟩ := h
  exact Kd.S_ne ho hb ht
theorem IsS97.lt {w0 W : World} {g : Nat} {f0 : Int} {f1 : Int} {f2 : Bool} {f3 : Bool} {f4 : Int} (h : IsS97 w0 W g f0 f1 f2 f3 f4) : g < W.heap.size := by
  obtain ⟨hb, hg⟩ := h
  exact blk_lt hb
theorem IsS97.ge {w0 W : World} {g : Nat} {f0 : Int} {f1 : Int} {f2 : Bool} {f3 : Bool} {f4 : Int} (h : IsS97 w0 W g f0 f1 f2 f3 f4) : w0.heap.size ≤ g := by
  obtain ⟨hb, hg⟩ := h
  exact hg
theorem IsS97.ne_blk {w0 W : World} {g : Nat} {f0 : Int} {f1 : Int} {f2 : Bool} {f3 : Bool} {f4 : Int} {a : Nat} {cs : Array Value} {t : TypeId} {fr : Nat × Nat} (h : IsS97 w0 W g f0 f1 f2 f3 f4) (hb2 : W.heap[a]? = some (.cells cs t fr)) (ht : t ≠ 97) : g ≠ a := by
  obtain ⟨hb, hg⟩ := h
  rintro rfl
  rw [hb] at hb2
  injection hb2 with hb2
  injection hb2 with _ ht2
  exact ht ht2.symm
theorem IsS97.far {w0 W : World} {g : Nat} {f0 : Int} {f1 : Int} {f2 : Bool} {f3 : Bool} {f4 : Int} {p : Addr} (h : IsS97 w0 W g f0 f1 f2 f3 f4) (hne : g ≠ p.block) (u : Value) : IsS97 w0 (W.setCell p u) g f0 f1 f2 f3 f4 := by
  obtain ⟨hb, hg⟩ := h
  exact ⟨blk_far hb hne u, hg⟩
theorem cellS97_0 {W : World} {g : Nat} {f0 : Int} {f1 : Int} {f2 : Bool} {f3 : Bool} {f4 : Int} (h : W.heap[g]? = some (.cells #[.int .i64 f0, .int .i64 f1, .bool f2, .bool f3, .int .i64 f4] 97 (0, 0))) : W.cell? ⟨g, 0, none⟩ = some (.int .i64 f0) := (blk_cell h 0).trans rfl
theorem IsS97.set_0 {w0 W : World} {g : Nat} {f0 : Int} {f1 : Int} {f2 : Bool} {f3 : Bool} {f4 : Int} (h : IsS97 w0 W g f0 f1 f2 f3 f4) (x : Int) : IsS97 w0 (W.setCell ⟨g, 0, none⟩ (.int .i64 x)) g x f1 f2 f3 f4 := by
  obtain ⟨hb, hg⟩ := h
  exact ⟨by simpa using blk_set hb 0 (.int .i64 x), hg⟩
theorem cellS97_1 {W : World} {g : Nat} {f0 : Int} {f1 : Int} {f2 : Bool} {f3 : Bool} {f4 : Int} (h : W.heap[g]? = some (.cells #[.int .i64 f0, .int .i64 f1, .bool f2, .bool f3, .int .i64 f4] 97 (0, 0))) : W.cell? ⟨g, 1, none⟩ = some (.int .i64 f1) := (blk_cell h 1).trans rfl
theorem IsS97.set_1 {w0 W : World} {g : Nat} {f0 : Int} {f1 : Int} {f2 : Bool} {f3 : Bool} {f4 : Int} (h : IsS97 w0 W g f0 f1 f2 f3 f4) (x : Int) : IsS97 w0 (W.setCell ⟨g, 1, none⟩ (.int .i64 x)) g f0 x f2 f3 f4 := by
  obtain ⟨hb, hg⟩ := h
  exact ⟨by simpa using blk_set hb 1 (.int .i64 x), hg⟩
theorem cellS97_2 {W : World} {g : Nat} {f0 : Int} {f1 : Int} {f2 : Bool} {f3 : Bool} {f4 : Int} (h : W.heap[g]? = some (.cells #[.int .i64 f0, .int .i64 f1, .bool f2, .bool f3, .int .i64 f4] 97 (0, 0))) : W.cell? ⟨g, 2, none⟩ = some (.bool f2) := (blk_cell h 2).trans rfl
theorem IsS97.set_2 {w0 W : World} {g : Nat} {f0 : Int} {f1 : Int} {f2 : Bool} {f3 : Bool} {f4 : Int} (h : IsS97 w0 W g f0 f1 f2 f3 f4) (x : Bool) : IsS97 w0 (W.setCell ⟨g, 2, none⟩ (.bool x)) g f0 f1 x f3 f4 := by
  obtain ⟨hb, hg⟩ := h
  exact ⟨by simpa using blk_set hb 2 (.bool x), hg⟩
theorem cellS97_3 {W : World} {g : Nat} {f0 : Int} {f1 : Int} {f2 : Bool} {f3 : Bool} {f4 : Int} (h : W.heap[g]? = some (.cells #[.int .i64 f0, .int .i64 f1, .bool f2, .bool f3, .int .i64 f4] 97 (0, 0))) : W.cell? ⟨g, 3, none⟩ = some (.bool f3) := (blk_cell h 3).trans rfl
theorem IsS97.set_3 {w0 W : World} {g : Nat} {f0 : Int} {f1 : Int} {f2 : Bool} {f3 : Bool} {f4 : Int} (h : IsS97 w0 W g f0 f1 f2 f3 f4) (x : Bool) : IsS97 w0 (W.setCell ⟨g, 3, none⟩ (.bool x)) g f0 f1 f2 x f4 := by
  obtain ⟨hb, hg⟩ := h
  exact ⟨by simpa using blk_set hb 3 (.bool x), hg⟩
theorem cellS97_4 {W : World} {g : Nat} {f0 : Int} {f1 : Int} {f2 : Bool} {f3 : Bool} {f4 : Int} (h : W.heap[g]? = some (.cells #[.int .i64 f0, .int .i64 f1, .bool f2, .bool f3, .int .i64 f4] 97 (0, 0))) : W.cell? ⟨g, 4, none⟩ = some (.int .i64 f4) := (blk_cell h 4).trans rfl
theorem IsS97.set_4 {w0 W : World} {g : Nat} {f0 : Int} {f1 : Int} {f2 : Bool} {f3 : Bool} {f4 : Int} (h : IsS97 w0 W g f0 f1 f2 f3 f4) (x : Int) : IsS97 w0 (W.setCell ⟨g, 4, none⟩ (.int .i64 x)) g f0 f1 f2 f3 x := by
  obtain ⟨hb, hg⟩ := h
  exact ⟨by simpa using blk_set hb 4 (.int .i64 x), hg⟩
theorem IsS97.new (w0 W : World) (f0 : Int) (f1 : Int) (f2 : Bool) (f3 : Bool) (f4 : Int) (hB : Below w0.heap.size w0 W) : IsS97 w0 (W.alloc (.cells #[.int .i64 f0, .int .i64 f1, .bool f2, .bool f3, .int .i64 f4] 97)) W.heap.size f0 f1 f2 f3 f4 := ⟨by simpa using heap_alloc_new W _, hB.size⟩

/-! ### impl_isPath_1: function 113 -/
def impl_isPath_1.f (a0 : Int) : Option (Bool) := (impl_isAsn.f a0).bind fun t212 => (some (!t212))
set_option maxHeartbeats 8000000 in
set_option maxRecDepth 100000 in
theorem impl_isPath_1.calls (a0 : Int) (r : Bool) (w : World) (h : impl_isPath_1.f a0 = some r) :
    Calls Try.prog 113 #[.int .i64 a0] w fun e w' => e = .returned (.bool r) ∧ Drawn0 w w' := by
  have H : ((impl_isAsn.f a0).bind fun t212 => (some (!t212))) = some r := h
  clear h
  replace H := Option.bind_eq_some_iff.mp H
  obtain ⟨t212, A20, H⟩ := H
  replace H : (some (!t212)) = some r := H
  have A2 := Aside0.mk A20
  clear A20
  obtain rfl := Option.some.inj H
  go_enter Try.func113, Try.ntmps113
  go_wp2_with (first | ((with_reducible refine gate_callee (f := 78) rfl ?_); refine goesL_ (some 4) rfl rfl Try.func78 (by kernel_rfl) rfl #[.int .i64 a0] rfl (by (try simp only [List.map_toArray, List.map_cons, List.map_nil]); first | done | rfl | (simp only [List.length_drop, List.length_take]; rfl)) ?_; (with_reducible refine (impl_isAsn.calls a0 t212 _ A2.out).mono ?_); rintro e w' ⟨rfl, ⟨nd, rfl⟩⟩; refine ⟨_, rfl, ?_⟩))
  go_ret
  exact ⟨by first | rfl | (simp; done) | (simp [*]; done), by repeat (first | exact Drawn0.refl _ | apply Drawn0.step)⟩

/-! ### slices_IndexFunc_int_int: function 120 -/
def slices_IndexFunc_int_int.l0 : Nat → List Int → Int → Int → Option (Int)
  | 0, _, _, _ => none
  | k + 1, x0, x7, x8 => if x8 < x7 then (if 0 ≤ x8 then (if x8 < (x0.length : Int) then ((impl_isPath_1.f (rd x0 x8)).bind fun t214 => (if t214 = true then (some x8) else (slices_IndexFunc_int_int.l0 k x0 x7 (wrap64 (x8 + 1))))) else (none)) else (none)) else (some (-1))
def slices_IndexFunc_int_int.f (k : Nat) (l0 : List Int)  : Option (Int) := slices_IndexFunc_int_int.l0 k l0 (l0.length : Int) 0
theorem slices_IndexFunc_int_int.mono_l : ∀ k, (∀ y0 y1 y2, LeO (slices_IndexFunc_int_int.l0 k y0 y1 y2) (slices_IndexFunc_int_int.l0 (k + 1) y0 y1 y2))
  | 0 => fun _ _ _ r h => by simp [slices_IndexFunc_int_int.l0] at h
  | k + 1 => by
    have ih0 := slices_IndexFunc_int_int.mono_l k
    · intro y0 y1 y2
      unfold slices_IndexFunc_int_int.l0
      repeat' first
      | (with_reducible exact ih0 _ _ _)
      | (with_reducible exact LeO.refl _)
      | (with_reducible exact LeO.none _)
      | (with_reducible refine LeO.ite ?_ ?_)
      | (with_reducible refine LeO.bind ?_ (fun _ => ?_))
      | exact ih0 _ _ _
      | exact LeO.none _
      | refine LeO.ite ?_ ?_
      | refine LeO.bind ?_ (fun _ => ?_)
theorem slices_IndexFunc_int_int.mono : ∀ a0 k, LeO (slices_IndexFunc_int_int.f k a0) (slices_IndexFunc_int_int.f (k + 1) a0) := by
  intro a0 k
  have ih0 := slices_IndexFunc_int_int.mono_l k
  unfold slices_IndexFunc_int_int.f
  repeat' first
      | (with_reducible exact ih0 _ _ _)
      | (with_reducible exact LeO.refl _)
      | (with_reducible exact LeO.none _)
      | (with_reducible refine LeO.ite ?_ ?_)
      | (with_reducible refine LeO.bind ?_ (fun _ => ?_))
      | exact ih0 _ _ _
      | exact LeO.none _
      | refine LeO.ite ?_ ?_
      | refine LeO.bind ?_ (fun _ => ?_)
set_option maxHeartbeats 8000000 in
set_option maxRecDepth 100000 in
theorem slices_IndexFunc_int_int.calls (k : Nat) (A0 : Option Addr) (c0 : Nat) (l0 : List Int)  (r : Int) (w : World) (hr0 : Kd.C (Kd.int .i64) w A0 l0.length l0) (hc0 : l0.length ≤ c0) (h : slices_IndexFunc_int_int.f k l0 = some r) :
    Calls Try.prog 120 #[.slice A0 l0.length c0, .func (.func 113) #[] #[]] w fun e w' => e = .returned (.int .i64 r) ∧ Below w.heap.size w w' := by
  have HR0 := Aside0.mk hr0
  have HC0 := Aside0.mk hc0
  clear hr0 hc0
  have HB := Aside0.mk (Below.refl w.heap.size w)
  have H : (slices_IndexFunc_int_int.l0 k l0 (l0.length : Int) 0) = some r := h
  clear h
  have H' := Aside0.mk H
  clear H
  go_enter Try.func120, Try.ntmps120
  go_wp2
  go_loopg [8] k (fun kq v8 w' => ∃ (x8_1 : Int), v8 = .int .i64 x8_1 ∧ Aside0 (slices_IndexFunc_int_int.l0 kq l0 (l0.length : Int) x8_1 = some r) ∧ Aside0 (kq ≤ k) ∧ Aside0 (Below w.heap.size w w'))
  case atStart => exact ⟨(0), (by first | rfl | (simp; done) | (simp [*]; done)), H', ⟨Nat.le_refl _⟩, ⟨by repeat (first | (with_reducible first | exact HB.out | apply below_alloc | apply pw_below_drewN | apply below_drew1) | exact HB.out)⟩⟩
  case round =>
    clear H'
    try clear c1
    try clear p2
    obtain ⟨x8_1, rfl, HA, HK1, HB⟩ := hrel
    cases gk with
    | zero => exact absurd HA.out (by simp [slices_IndexFunc_int_int.l0])
    | succ k1 =>
      have H := HA.out
      clear HA
      simp only [slices_IndexFunc_int_int.l0] at H
      by_cases c3 : x8_1 < (l0.length : Int)
      · rw [if_pos c3] at H
        have c3b0 : decide (x8_1 < (l0.length : Int)) = true := decide_eq_true c3
        clear c3
        by_cases c4 : 0 ≤ x8_1
        · rw [if_pos c4] at H
          have c4b0 : decide (0 ≤ x8_1) = true := decide_eq_true c4
          clear c4
          by_cases c5 : x8_1 < (l0.length : Int)
          · rw [if_pos c5] at H
            have c5b0 : decide (x8_1 < (l0.length : Int)) = true := decide_eq_true c5
            clear c5
            replace H := Option.bind_eq_some_iff.mp H
            obtain ⟨t214, A60, H⟩ := H
            replace H : (if t214 = true then (some x8_1) else (slices_IndexFunc_int_int.l0 k1 l0 (l0.length : Int) (wrap64 (x8_1 + 1)))) = some r := H
            have A6 := Aside0.mk A60
            clear A60
            by_cases c7 : t214 = true
            · subst c7
              have H1 : (some x8_1) = some r := by rw [if_pos rfl] at H; exact H
              clear H
              have H := H1
              clear H1
              obtain rfl := Option.some.inj H
              have p213 : 0 ≤ (x8_1 : Int) := of_decide_eq_true (by first | (with_reducible assumption) | assumption)
              have q213 : x8_1 < (l0.length : Int) := of_decide_eq_true (by first | (with_reducible assumption) | assumption)
              obtain ⟨ad213, e213, hx213_0⟩ := Kd.at_int HR0.out x8_1 p213 q213
              cases e213
              replace hx213_0 := (HB.out.cell (World.block_lt_of_cell? w _ hx213_0)).trans hx213_0
              replace p213 := eq_true p213
              replace q213 := eq_true q213
              go_wp2_with (first | (go_at_call 113; (with_reducible refine (impl_isPath_1.calls (rd l0 x8_1) true _ A6.out).mono ?_); rintro e w' ⟨rfl, ⟨nd, rfl⟩⟩))
              go_ret
              exact ⟨by first | rfl | (simp [errW_none, errW_some] <;> rfl) | (simp [*, errW_none, errW_some] <;> rfl), by repeat (first | (with_reducible first | exact HB.out | apply below_alloc | apply pw_below_drewN | apply below_drew1) | exact HB.out)⟩
            · replace c7 := Bool.eq_false_iff.mpr c7
              subst c7
              have H1 : (slices_IndexFunc_int_int.l0 k1 l0 (l0.length : Int) (wrap64 (x8_1 + 1))) = some r := by rw [if_neg (show ¬ (false = true) by decide)] at H; exact H
              clear H
              have H := H1
              clear H1
              have H' := Aside0.mk H
              clear H
              have p213 : 0 ≤ (x8_1 : Int) := of_decide_eq_true (by first | (with_reducible assumption) | assumption)
              have q213 : x8_1 < (l0.length : Int) := of_decide_eq_true (by first | (with_reducible assumption) | assumption)
              obtain ⟨ad213, e213, hx213_0⟩ := Kd.at_int HR0.out x8_1 p213 q213
              cases e213
              replace hx213_0 := (HB.out.cell (World.block_lt_of_cell? w _ hx213_0)).trans hx213_0
              replace p213 := eq_true p213
              replace q213 := eq_true q213
              go_wp2_with (first | (go_at_call 113; (with_reducible refine (impl_isPath_1.calls (rd l0 x8_1) false _ A6.out).mono ?_); rintro e w' ⟨rfl, ⟨nd, rfl⟩⟩))
              go_roundg k1
              case measure => have := HK1.out; omega
              case rel => exact ⟨(wrap64 (x8_1 + 1)), (by first | rfl | (simp; done) | (simp [*]; done)), H', ⟨by have := HK1.out; omega⟩, ⟨by repeat (first | (with_reducible first | exact HB.out | apply below_alloc | apply pw_below_drewN | apply below_drew1) | exact HB.out)⟩⟩
          · rw [if_neg c5] at H
            exact absurd H (by simp)
        · rw [if_neg c4] at H
          exact absurd H (by simp)
      · rw [if_neg c3] at H
        have c3b0 : decide (x8_1 < (l0.length : Int)) = false := decide_eq_false c3
        clear c3
        obtain rfl := Option.some.inj H
        go_wp2
        go_ret
        exact ⟨by first | rfl | (simp [errW_none, errW_some] <;> rfl) | (simp [*, errW_none, errW_some] <;> rfl), by repeat (first | (with_reducible first | exact HB.out | apply below_alloc | apply pw_below_drewN | apply below_drew1) | exact HB.out)⟩

/-! ### slices_ContainsFunc_int_int: function 112 -/
def slices_ContainsFunc_int_int.f (k : Nat) (l0 : List Int)  : Option (Bool) := (slices_IndexFunc_int_int.f k l0).bind fun t215 => (some (decide (t215 ≥ 0)))
theorem slices_ContainsFunc_int_int.mono : ∀ a0 k, LeO (slices_ContainsFunc_int_int.f k a0) (slices_ContainsFunc_int_int.f (k + 1) a0) := by
  intro a0 k
  unfold slices_ContainsFunc_int_int.f
  repeat' first
      | (with_reducible exact slices_IndexFunc_int_int.mono _ _)
      | (with_reducible exact LeO.refl _)
      | (with_reducible exact LeO.none _)
      | (with_reducible refine LeO.ite ?_ ?_)
      | (with_reducible refine LeO.bind ?_ (fun _ => ?_))
      | exact slices_IndexFunc_int_int.mono _ _
      | exact LeO.none _
      | refine LeO.ite ?_ ?_
      | refine LeO.bind ?_ (fun _ => ?_)
set_option maxHeartbeats 8000000 in
set_option maxRecDepth 100000 in
theorem slices_ContainsFunc_int_int.calls (k : Nat) (A0 : Option Addr) (c0 : Nat) (l0 : List Int)  (r : Bool) (w : World) (hr0 : Kd.C (Kd.int .i64) w A0 l0.length l0) (hc0 : l0.length ≤ c0) (h : slices_ContainsFunc_int_int.f k l0 = some r) :
    Calls Try.prog 112 #[.slice A0 l0.length c0, .func (.func 113) #[] #[]] w fun e w' => e = .returned (.bool r) ∧ Below w.heap.size w w' := by
  have HR0 := Aside0.mk hr0
  have HC0 := Aside0.mk hc0
  clear hr0 hc0
  have HB := Aside0.mk (Below.refl w.heap.size w)
  have H : ((slices_IndexFunc_int_int.f k l0).bind fun t215 => (some (decide (t215 ≥ 0)))) = some r := h
  clear h
  replace H := Option.bind_eq_some_iff.mp H
  obtain ⟨t215, A30, H⟩ := H
  replace H : (some (decide (t215 ≥ 0))) = some r := H
  have A3 := Aside0.mk A30
  clear A30
  obtain rfl := Option.some.inj H
  go_enter Try.func112, Try.ntmps112
  go_wp2_with (first | ((with_reducible refine gate_callee (f := 120) rfl ?_); refine goesL_ (some 7) rfl rfl Try.func120 (by kernel_rfl) rfl #[.slice A0 l0.length c0, .func (.func 113) #[] #[]] rfl (by (try simp only [List.map_toArray, List.map_cons, List.map_nil]); first | done | rfl | (simp only [List.length_drop, List.length_take]; rfl)) ?_; (with_reducible refine (slices_IndexFunc_int_int.calls k _ _ l0  t215 _ ?side1 ?side2 A3.out).mono ?_); (case side1 => repeat (first | exact HR0.out | (with_reducible refine Kd.C_alloc ?_ _) | (with_reducible refine Kd.C_drewN ?_ _) | (with_reducible refine Kd.C_drew ?_))); (case side2 => exact HC0.out); rintro e w4 ⟨rfl, hb⟩; refine ⟨_, rfl, ?_⟩; have n0_ := Aside0.mk (below_step (by repeat (first | (with_reducible first | exact HB.out | apply below_alloc | apply pw_below_drewN | apply below_drew1) | exact HB.out)) hb); clear HB; have HB := n0_; clear n0_; (try clear hb); (try clear hb2); (try clear hk); (try clear hi)))
  go_ret
  exact ⟨by first | rfl | (simp [errW_none, errW_some] <;> rfl) | (simp [*, errW_none, errW_some] <;> rfl), by repeat (first | (with_reducible first | exact HB.out | apply below_alloc | apply pw_below_drewN | apply below_drew1) | exact HB.out)⟩

/-! ### impl_isPath: function 93 -/
def impl_isPath.f (k : Nat) (l0 : List Int) : Option (Bool) := if (l0.length : Int) ≤ 10 then ((slices_ContainsFunc_int_int.f k l0).bind fun t216 => (some (!t216))) else (some false)
theorem impl_isPath.mono : ∀ a0 k, LeO (impl_isPath.f k a0) (impl_isPath.f (k + 1) a0) := by
  intro a0 k
  unfold impl_isPath.f
  repeat' first
      | (with_reducible exact slices_ContainsFunc_int_int.mono _ _)
      | (with_reducible exact LeO.refl _)
      | (with_reducible exact LeO.none _)
      | (with_reducible refine LeO.ite ?_ ?_)
      | (with_reducible refine LeO.bind ?_ (fun _ => ?_))
      | exact slices_ContainsFunc_int_int.mono _ _
      | exact LeO.none _
      | refine LeO.ite ?_ ?_
      | refine LeO.bind ?_ (fun _ => ?_)
set_option maxHeartbeats 8000000 in
set_option maxRecDepth 100000 in
theorem impl_isPath.calls (k : Nat) (A0 : Option Addr) (c0 : Nat) (l0 : List Int) (r : Bool) (w : World) (hr0 : Kd.C (Kd.int .i64) w A0 l0.length l0) (hc0 : l0.length ≤ c0) (h : impl_isPath.f k l0 = some r) :
    Calls Try.prog 93 #[.slice A0 l0.length c0] w fun e w' => e = .returned (.bool r) ∧ Below w.heap.size w w' := by
  have HR0 := Aside0.mk hr0
  have HC0 := Aside0.mk hc0
  clear hr0 hc0
  have HB := Aside0.mk (Below.refl w.heap.size w)
  have H : (if (l0.length : Int) ≤ 10 then ((slices_ContainsFunc_int_int.f k l0).bind fun t216 => (some (!t216))) else (some false)) = some r := h
  clear h
  by_cases c2 : (l0.length : Int) ≤ 10
  · rw [if_pos c2] at H
    have c2b0 : decide ((l0.length : Int) ≤ 10) = true := decide_eq_true c2
    have c2b1 : decide (l0.length ≤ 10) = true := decide_eq_true (by omega)
    clear c2
    replace H := Option.bind_eq_some_iff.mp H
    obtain ⟨t216, A30, H⟩ := H
    replace H : (some (!t216)) = some r := H
    have A3 := Aside0.mk A30
    clear A30
    obtain rfl := Option.some.inj H
    go_enter Try.func93, Try.ntmps93
    go_wp2_with (first | (go_at_call 112; (with_reducible refine (slices_ContainsFunc_int_int.calls k _ _ l0  t216 _ ?side1 ?side2 A3.out).mono ?_); (case side1 => repeat (first | exact HR0.out | (with_reducible refine Kd.C_alloc ?_ _) | (with_reducible refine Kd.C_drewN ?_ _) | (with_reducible refine Kd.C_drew ?_))); (case side2 => exact HC0.out); rintro e w4 ⟨rfl, hb⟩; have n0_ := Aside0.mk (below_step (by repeat (first | (with_reducible first | exact HB.out | apply below_alloc | apply pw_below_drewN | apply below_drew1) | exact HB.out)) hb); clear HB; have HB := n0_; clear n0_; (try clear hb); (try clear hb2); (try clear hk); (try clear hi)))
    go_ret
    exact ⟨by first | rfl | (simp [errW_none, errW_some] <;> rfl) | (simp [*, errW_none, errW_some] <;> rfl), by repeat (first | (with_reducible first | exact HB.out | apply below_alloc | apply pw_below_drewN | apply below_drew1) | exact HB.out)⟩
  · rw [if_neg c2] at H
    have c2b0 : decide ((l0.length : Int) ≤ 10) = false := decide_eq_false c2
    have c2b1 : decide (l0.length ≤ 10) = false := decide_eq_false (by omega)
    clear c2
    obtain rfl := Option.some.inj H
    go_enter Try.func93, Try.ntmps93
    go_wp2
    go_ret
    exact ⟨by first | rfl | (simp [errW_none, errW_some] <;> rfl) | (simp [*, errW_none, errW_some] <;> rfl), by repeat (first | (with_reducible first | exact HB.out | apply below_alloc | apply pw_below_drewN | apply below_drew1) | exact HB.out)⟩

end Go.Proofs.Ytkkchcalhomgcaa.PFnExactRunNfa
