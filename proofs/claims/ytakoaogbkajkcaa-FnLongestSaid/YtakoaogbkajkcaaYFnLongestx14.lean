/- Go functions told by Lean functions, printed by a program. No condition but what each statement says. -/
import Derived.Test.YtakoaogbkajkcaaYFnLongestx11
import Derived.Test.YtakoaogbkajkcaaYFnLongestx13
namespace Go.Proofs.Ytakoaogbkajkcaa.PFnLongest
open Go.RowKit Go.Proofs.YtakoaogbkajkcaaW.PrintWords Go.Proofs.YtakoaogbkajkcaaW.PrintLast Go.Proofs.YtakoaogbkajkcaaW.PrintMore
open Aside0 renaming mk → kz
open List renaming setIfInBounds_toArray → kq, set_cons_zero → kj, set_cons_succ → kk, map_toArray → kv, map_cons → kh, map_nil → kg
open Option renaming bind_eq_some_iff → ky
open Try renaming underlying39 → kf
open Act renaming put → ke
open Bool renaming true → kb, false → kd
set_option maxHeartbeats 8000000
set_option maxRecDepth 100000
open Go.Proofs.YtakoaogbkajkcaaW.PrintLast renaming i64_w → zo, i32_w → zp
open Go.Proofs.YtakoaogbkajkcaaW.PrintWords renaming pw_below_drewN → za, below_drew1 → zb, blk_drewN → zd, blk_cell → zf, blk_frozen → zg, blk_drew → zh, below_size → zi, below_step → zj, below_set → zk, box_event → zl, blk_put → zm, gate_dst → zn
attribute [local go_sem] max2_int min2_int max_two min_two max_three min_three max_four min_four
set_option linter.unusedVariables false
set_option linter.unusedSimpArgs false
/-! ### spec_LongestIn: function 23 -/
def spec_LongestIn.f (k : Nat) (l0 : List (S39)) (a1 : Int) : Option (Int × Int × Int × Bool) := (spec_GoodTable.f k l0).bind fun t210 => (if t210 = true then ((spec_l1Addr.f a1).bind fun t211 => (if t211 = true then ((spec_l2Longest.f k l0 a1).bind fun bt212 => (some (bt212.1, bt212.2.1, bt212.2.2.1, bt212.2.2.2))) else (some (0, 0, 0, false)))) else (some (0, 0, 0, false)))
theorem spec_LongestIn.calls (k : Nat) (A0 : Option Addr) (c0 : Nat) (l0 : List (S39)) (a1 : Int) (r1 : Int) (r2 : Int) (r3 : Int) (r4 : Bool) (w : World) (hr0 : Kd.C k39 w A0 l0.length l0) (hc0 : l0.length ≤ c0) (h : spec_LongestIn.f k l0 a1 = some (r1, r2, r3, r4)) :
  Calls Try.prog 23 #[.slice A0 l0.length c0, .int .i64 a1] w fun e w' => e = .returned (.tuple #[.agg #[.int .i64 r1, .int .i64 r2, .int .i64 r3], .bool r4]) ∧ Below w.heap.size w w' := by
 have hu39 := kf
 have HR0 := kz hr0
 have HC0 := kz hc0
 clear hr0 hc0
 have HB := kz (Below.refl w.heap.size w)
 have H : ((spec_GoodTable.f k l0).bind fun t210 => (if t210 = true then ((spec_l1Addr.f a1).bind fun t211 => (if t211 = true then ((spec_l2Longest.f k l0 a1).bind fun bt212 => (some (bt212.1, bt212.2.1, bt212.2.2.1, bt212.2.2.2))) else (some (0, 0, 0, false)))) else (some (0, 0, 0, false)))) = some (r1, r2, r3, r4) := h
 clear h
 replace H := ky.mp H
 obtain ⟨t210, A30, H⟩ := H
 replace H : (if t210 = true then ((spec_l1Addr.f a1).bind fun t211 => (if t211 = true then ((spec_l2Longest.f k l0 a1).bind fun bt212 => (some (bt212.1, bt212.2.1, bt212.2.2.1, bt212.2.2.2))) else (some (0, 0, 0, false)))) else (some (0, 0, 0, false))) = some (r1, r2, r3, r4) := H
 have A3 := kz A30
 clear A30
 by_cases c4 : t210 = true
 ·
  subst c4
  have H1 : ((spec_l1Addr.f a1).bind fun t211 => (if t211 = true then ((spec_l2Longest.f k l0 a1).bind fun bt212 => (some (bt212.1, bt212.2.1, bt212.2.2.1, bt212.2.2.2))) else (some (0, 0, 0, false)))) = some (r1, r2, r3, r4) := by rw [if_pos rfl] at H; exact H
  clear H
  have H := H1
  clear H1
  replace H := ky.mp H
  obtain ⟨t211, A50, H⟩ := H
  replace H : (if t211 = true then ((spec_l2Longest.f k l0 a1).bind fun bt212 => (some (bt212.1, bt212.2.1, bt212.2.2.1, bt212.2.2.2))) else (some (0, 0, 0, false))) = some (r1, r2, r3, r4) := H
  have A5 := kz A50
  clear A50
  by_cases c6 : t211 = true
  ·
   subst c6
   have H1 : ((spec_l2Longest.f k l0 a1).bind fun bt212 => (some (bt212.1, bt212.2.1, bt212.2.2.1, bt212.2.2.2))) = some (r1, r2, r3, r4) := by rw [if_pos rfl] at H; exact H
   clear H
   have H := H1
   clear H1
   replace H := ky.mp H
   obtain ⟨⟨t212, t213, t214, t215⟩, A70, H⟩ := H
   replace H : (some (t212, t213, t214, t215)) = some (r1, r2, r3, r4) := H
   have A7 := kz A70
   clear A70
   simp only [Option.some.injEq, Prod.mk.injEq] at H
   obtain ⟨rfl, rfl, rfl, rfl⟩ := H
   go_enter Try.func23, Try.ntmps23
   go_wp2_with (first | ((with_reducible refine zn (N := 4) rfl ?_); refine zl rfl (N := 4) rfl (cs := #[.int .i64 0, .int .i64 0, .int .i64 0]) (t := 39) ?hr ?_; (case hr => go_simp; done); intro gb209 hg w8 hbox hb; have zq := kz hbox; have zt := kz (by rw [hg]; exact (zi HB.1) : w.heap.size ≤ gb209); replace HB := kz (zj HB.1 hb); clear hb hbox hg) | ((with_reducible refine gate_callee (f := 14) rfl ?_); refine goesL_ (some 7) rfl rfl Try.func14 (by kernel_rfl) rfl #[.slice A0 l0.length c0] rfl (by (try simp only [kv, kh, kg]); rfl) ?_; (with_reducible refine (spec_GoodTable.calls k _ _ l0 true _ ?side1 ?side2 A3.1).mono ?_); (case side1 => repeat (exact (Kd.C_below HR0.1 HB.1))); (case side2 => exact HC0.1); rintro e w9 ⟨rfl, hb⟩; refine ⟨_, rfl, ?_⟩; replace zq := kz (blk_below zq.1 hb); replace HB := kz (zj HB.1 hb)) | (go_at_call 63; (with_reducible refine (spec_l1Addr.calls a1 true _ A5.1).mono ?_); rintro e w' ⟨rfl, ⟨nd, rfl⟩⟩; (try (rw [drewN_self w9]; generalize hq_ : World.drewN w9 _ = w9; have n0_ : Aside0 (w9.heap[gb209]? = some (.cells #[.int .i64 0, .int .i64 0, .int .i64 0] 39 (0, 0))) := ⟨by rw [← hq_]; exact (by (with_reducible repeat (refine zd ?_ _)); exact zq.1)⟩; have n1_ : Aside0 (Below w.heap.size w w9) := ⟨by rw [← hq_]; exact (by repeat ((with_reducible first | exact HB.1 | apply za)))⟩; clear zq HB hq_; have zq := n0_; have HB := n1_; clear n0_ n1_))) | ((with_reducible refine gate_callee (f := 64) rfl ?_); refine goesL_ (some 17) rfl rfl Try.func64 (by kernel_rfl) rfl #[.slice A0 l0.length c0, .int .i64 a1] rfl (by (try simp only [kv, kh, kg]); rfl) ?_; (with_reducible refine (spec_l2Longest.calls k _ _ l0 a1 t212 t213 t214 t215 _ ?side1 ?side2 A7.1).mono ?_); (case side1 => repeat (exact (Kd.C_below HR0.1 HB.1))); (case side2 => exact HC0.1); rintro e w10 ⟨rfl, hb⟩; refine ⟨_, rfl, ?_⟩; replace zq := kz (blk_below zq.1 hb); replace HB := kz (zj HB.1 hb); have hcz11_0 : w10.cell? ⟨gb209, 0, none⟩ = some (.int .i64 0) := (zf zq.1 0).trans rfl; have hcz11_1 : w10.cell? ⟨gb209, 1, none⟩ = some (.int .i64 0) := (zf zq.1 1).trans rfl; have hcz11_2 : w10.cell? ⟨gb209, 2, none⟩ = some (.int .i64 0) := (zf zq.1 2).trans rfl; have hfz11_0 := zg zq.1 0; have hfz11_1 := zg zq.1 1; have hfz11_2 := zg zq.1 2))
   refine bodyPost_ret (results_ct rfl _ _ gb209 39 #[.int .i64 t212, .int .i64 t213, .int .i64 t214] (0, 0) _ rfl (by refine zm (cs := #[.int .i64 t212, .int .i64 t213, .int .i64 0]) ?_ 2 _ rfl; refine zm (cs := #[.int .i64 t212, .int .i64 0, .int .i64 0]) ?_ 1 _ rfl; refine zm (cs := #[.int .i64 0, .int .i64 0, .int .i64 0]) ?_ 0 _ rfl; exact zq.1) kf rfl (by kernel_rfl)) rfl ?_
   exact ⟨by rfl, by repeat ((with_reducible first | exact HB.1 | refine zk ?_ zt.1))⟩
  ·
   replace c6 := Bool.eq_false_iff.mpr c6
   subst c6
   have H1 : (some (0, 0, 0, false)) = some (r1, r2, r3, r4) := by rw [if_neg (show ¬ (false = true) by decide)] at H; exact H
   clear H
   have H := H1
   clear H1
   simp only [Option.some.injEq, Prod.mk.injEq] at H
   obtain ⟨rfl, rfl, rfl, rfl⟩ := H
   go_enter Try.func23, Try.ntmps23
   go_wp2_with (first | ((with_reducible refine zn (N := 4) rfl ?_); refine zl rfl (N := 4) rfl (cs := #[.int .i64 0, .int .i64 0, .int .i64 0]) (t := 39) ?hr ?_; (case hr => go_simp; done); intro gb209 hg w12 hbox hb; have zq := kz hbox; have zt := kz (by rw [hg]; exact (zi HB.1) : w.heap.size ≤ gb209); replace HB := kz (zj HB.1 hb); clear hb hbox hg) | ((with_reducible refine gate_callee (f := 14) rfl ?_); refine goesL_ (some 7) rfl rfl Try.func14 (by kernel_rfl) rfl #[.slice A0 l0.length c0] rfl (by (try simp only [kv, kh, kg]); rfl) ?_; (with_reducible refine (spec_GoodTable.calls k _ _ l0 true _ ?side1 ?side2 A3.1).mono ?_); (case side1 => repeat (exact (Kd.C_below HR0.1 HB.1))); (case side2 => exact HC0.1); rintro e w13 ⟨rfl, hb⟩; refine ⟨_, rfl, ?_⟩; replace zq := kz (blk_below zq.1 hb); replace HB := kz (zj HB.1 hb)) | (go_at_call 63; (with_reducible refine (spec_l1Addr.calls a1 false _ A5.1).mono ?_); rintro e w' ⟨rfl, ⟨nd, rfl⟩⟩; (try (rw [drewN_self w13]; generalize hq_ : World.drewN w13 _ = w13; have n0_ : Aside0 (w13.heap[gb209]? = some (.cells #[.int .i64 0, .int .i64 0, .int .i64 0] 39 (0, 0))) := ⟨by rw [← hq_]; exact (by (with_reducible repeat (refine zd ?_ _)); exact zq.1)⟩; have n1_ : Aside0 (Below w.heap.size w w13) := ⟨by rw [← hq_]; exact (by repeat ((with_reducible first | exact HB.1 | apply za)))⟩; clear zq HB hq_; have zq := n0_; have HB := n1_; clear n0_ n1_)); have hcz14_0 : w13.cell? ⟨gb209, 0, none⟩ = some (.int .i64 0) := (zf zq.1 0).trans rfl; have hcz14_1 : w13.cell? ⟨gb209, 1, none⟩ = some (.int .i64 0) := (zf zq.1 1).trans rfl; have hcz14_2 : w13.cell? ⟨gb209, 2, none⟩ = some (.int .i64 0) := (zf zq.1 2).trans rfl; have hfz14_0 := zg zq.1 0; have hfz14_1 := zg zq.1 1; have hfz14_2 := zg zq.1 2))
   refine bodyPost_ret (results_ct rfl _ _ gb209 39 #[.int .i64 0, .int .i64 0, .int .i64 0] (0, 0) _ rfl (by refine zm (cs := #[.int .i64 0, .int .i64 0, .int .i64 0]) ?_ 2 _ rfl; refine zm (cs := #[.int .i64 0, .int .i64 0, .int .i64 0]) ?_ 1 _ rfl; refine zm (cs := #[.int .i64 0, .int .i64 0, .int .i64 0]) ?_ 0 _ rfl; exact zq.1) kf rfl (by kernel_rfl)) rfl ?_
   exact ⟨by rfl, by repeat ((with_reducible first | exact HB.1 | refine zk ?_ zt.1))⟩
 ·
  replace c4 := Bool.eq_false_iff.mpr c4
  subst c4
  have H1 : (some (0, 0, 0, false)) = some (r1, r2, r3, r4) := by rw [if_neg (show ¬ (false = true) by decide)] at H; exact H
  clear H
  have H := H1
  clear H1
  simp only [Option.some.injEq, Prod.mk.injEq] at H
  obtain ⟨rfl, rfl, rfl, rfl⟩ := H
  go_enter Try.func23, Try.ntmps23
  go_wp2_with (first | ((with_reducible refine zn (N := 4) rfl ?_); refine zl rfl (N := 4) rfl (cs := #[.int .i64 0, .int .i64 0, .int .i64 0]) (t := 39) ?hr ?_; (case hr => go_simp; done); intro gb209 hg w15 hbox hb; have zq := kz hbox; have zt := kz (by rw [hg]; exact (zi HB.1) : w.heap.size ≤ gb209); replace HB := kz (zj HB.1 hb); clear hb hbox hg) | ((with_reducible refine gate_callee (f := 14) rfl ?_); refine goesL_ (some 7) rfl rfl Try.func14 (by kernel_rfl) rfl #[.slice A0 l0.length c0] rfl (by (try simp only [kv, kh, kg]); rfl) ?_; (with_reducible refine (spec_GoodTable.calls k _ _ l0 false _ ?side1 ?side2 A3.1).mono ?_); (case side1 => repeat (exact (Kd.C_below HR0.1 HB.1))); (case side2 => exact HC0.1); rintro e w16 ⟨rfl, hb⟩; refine ⟨_, rfl, ?_⟩; replace zq := kz (blk_below zq.1 hb); replace HB := kz (zj HB.1 hb); have hcz17_0 : w16.cell? ⟨gb209, 0, none⟩ = some (.int .i64 0) := (zf zq.1 0).trans rfl; have hcz17_1 : w16.cell? ⟨gb209, 1, none⟩ = some (.int .i64 0) := (zf zq.1 1).trans rfl; have hcz17_2 : w16.cell? ⟨gb209, 2, none⟩ = some (.int .i64 0) := (zf zq.1 2).trans rfl; have hfz17_0 := zg zq.1 0; have hfz17_1 := zg zq.1 1; have hfz17_2 := zg zq.1 2))
  refine bodyPost_ret (results_ct rfl _ _ gb209 39 #[.int .i64 0, .int .i64 0, .int .i64 0] (0, 0) _ rfl (by refine zm (cs := #[.int .i64 0, .int .i64 0, .int .i64 0]) ?_ 2 _ rfl; refine zm (cs := #[.int .i64 0, .int .i64 0, .int .i64 0]) ?_ 1 _ rfl; refine zm (cs := #[.int .i64 0, .int .i64 0, .int .i64 0]) ?_ 0 _ rfl; exact zq.1) kf rfl (by kernel_rfl)) rfl ?_
  exact ⟨by rfl, by repeat ((with_reducible first | exact HB.1 | refine zk ?_ zt.1))⟩
/-! ### impl_Prefix_end: function 93 -/
def impl_Prefix_end.f (a0_0 : Int) (a0_1 : Int) : Option (Int) := (impl_sizeOf.f a0_1).bind fun t217 => (some (wrap64 ((wrap64 (a0_0 + t217)) - 1)))
theorem impl_Prefix_end.calls (a0_0 : Int) (a0_1 : Int) (r : Int) (w : World) (h : impl_Prefix_end.f a0_0 a0_1 = some r) :
  Calls Try.prog 93 #[.agg #[.int .i64 a0_0, .int .i64 a0_1]] w fun e w' => e = .returned (.int .i64 r) ∧ Below w.heap.size w w' := by
 have hu37 := Try.underlying37
 have HB := kz (Below.refl w.heap.size w)
 have H : ((impl_sizeOf.f a0_1).bind fun t217 => (some (wrap64 ((wrap64 (a0_0 + t217)) - 1)))) = some r := h
 clear h
 replace H := ky.mp H
 obtain ⟨t217, A20, H⟩ := H
 replace H : (some (wrap64 ((wrap64 (a0_0 + t217)) - 1))) = some r := H
 have A2 := kz A20
 clear A20
 obtain rfl := Option.some.inj H
 go_enter Try.func93, Try.ntmps93
 go_wp2_with (((with_reducible refine zn (N := 1) rfl ?_); refine zl rfl (N := 1) rfl (cs := #[.int .i64 a0_0, .int .i64 a0_1]) (t := 37) ?hr ?_; (case hr => go_simp; done); intro gb216 hg w3 hbox hb; replace HB := kz (zj HB.1 hb); have zr := kz hbox; clear hb hbox hg; have hcz4_0 : w3.cell? ⟨gb216, 0, none⟩ = some (.int .i64 a0_0) := (zf zr.1 0).trans rfl; have hcz4_1 : w3.cell? ⟨gb216, 1, none⟩ = some (.int .i64 a0_1) := (zf zr.1 1).trans rfl; have hfz4_0 := zg zr.1 0; have hfz4_1 := zg zr.1 1))
 repeat (go_quiet ((go_at_call 96; (with_reducible refine (impl_sizeOf.calls a0_1 t217 _ A2.1).mono ?_); rintro e w' ⟨rfl, ⟨nd, rfl⟩⟩; (try exact ⟨rfl, _, World.drewN_drewN _ _ _⟩))); try go_wp2_with (fail))
 go_ret
 exact ⟨by rfl, by repeat ((with_reducible first | exact HB.1 | apply za))⟩
/-! ### impl_Prefix_has: function 66 -/
def impl_Prefix_has.f (a0_0 : Int) (a0_1 : Int) (a1 : Int) : Option (Bool) := (impl_Prefix_end.f a0_0 a0_1).bind fun t219 => ((impl_within.f a1 a0_0 t219).bind fun t220 => (some t220))
theorem impl_Prefix_has.calls (a0_0 : Int) (a0_1 : Int) (a1 : Int) (r : Bool) (w : World) (h : impl_Prefix_has.f a0_0 a0_1 a1 = some r) :
  Calls Try.prog 66 #[.agg #[.int .i64 a0_0, .int .i64 a0_1], .int .i64 a1] w fun e w' => e = .returned (.bool r) ∧ Below w.heap.size w w' := by
 have hu37 := Try.underlying37
 have HB := kz (Below.refl w.heap.size w)
 have H : ((impl_Prefix_end.f a0_0 a0_1).bind fun t219 => ((impl_within.f a1 a0_0 t219).bind fun t220 => (some t220))) = some r := h
 clear h
 replace H := ky.mp H
 obtain ⟨t219, A30, H⟩ := H
 replace H : ((impl_within.f a1 a0_0 t219).bind fun t220 => (some t220)) = some r := H
 have A3 := kz A30
 clear A30
 replace H := ky.mp H
 obtain ⟨t220, A40, H⟩ := H
 replace H : (some t220) = some r := H
 have A4 := kz A40
 clear A40
 obtain rfl := Option.some.inj H
 go_enter Try.func66, Try.ntmps66
 try go_wp2_with (((with_reducible refine zn (N := 2) rfl ?_); refine zl rfl (N := 2) rfl (cs := #[.int .i64 a0_0, .int .i64 a0_1]) (t := 37) ?hr ?_; (case hr => go_simp; done); intro gb218 hg w5 hbox hb; replace HB := kz (zj HB.1 hb); have zs := kz hbox; clear hb hbox hg))
 replace zs := kz (zh zs.1)
 replace HB := kz (zb HB.1)
 refine start_ (n := 7) (S := fun w' => w'.cell? ⟨gb218, 0, none⟩ = some (.int .i64 a0_0) ∧ w'.cell? ⟨gb218, 1, none⟩ = some (.int .i64 a0_1)) (ds := []) #[kd,kd,kd,kd,kd,kd,kd] (by kernel_rfl) rfl rfl ⟨(zf zs.1 0).trans rfl, (zf zs.1 1).trans rfl⟩ (fun hHeld => ?_)
 generalize w5.drew = w6 at zs HB hHeld ⊢
 refine pure_ (i := 0) (N := some 5) (v := ?_) (a' := ?_) #[kb,kd,kd,kd,kd,kd,kd] rfl rfl (by kernel_rfl) (fun _ _ _ h => h) (Or.inl ⟨by rfl, ?_⟩) ?_ ?_
 rotate_left
 ·
  intro w'
  go_simp
  with_reducible rfl
 rotate_left
 ·
  simp only [ke, kq, kj, kk, zo, zp]
  rfl
 refine pure_ (i := 1) (N := some 6) (v := ?_) (a' := ?_) #[kb,kb,kd,kd,kd,kd,kd] rfl rfl (by kernel_rfl) (fun _ _ _ h => h) (Or.inl ⟨by rfl, ?_⟩) ?_ ?_
 rotate_left
 ·
  intro w'
  go_simp
  with_reducible rfl
 rotate_left
 ·
  simp only [ke, kq, kj, kk, zo, zp]
  rfl
 refine take_ (i := 2) (N := some 7) (v := ?_) (a' := ?_) #[kb,kb,kb,kd,kd,kd,kd] rfl rfl (by kernel_rfl) (fun _ _ _ h => h) (Or.inl ⟨by rfl, ?_⟩) hHeld ?_ ?_
 rotate_left
 ·
  rintro w' ⟨s0, s1⟩
  go_simp
  with_reducible rfl
 rotate_left
 ·
  simp only [ke, kq, kj, kk, zo, zp]
  rfl
 refine take_ (i := 3) (N := some 8) (v := ?_) (a' := ?_) #[kb,kb,kb,kb,kd,kd,kd] rfl rfl (by kernel_rfl) (fun _ _ _ h => h) (Or.inl ⟨by rfl, ?_⟩) hHeld ?_ ?_
 rotate_left
 ·
  rintro w' ⟨s0, s1⟩
  go_simp
  with_reducible rfl
 rotate_left
 ·
  simp only [ke, kq, kj, kk, zo, zp]
  rfl
 refine one_ (i := 4) (N := some 9) #[kb,kb,kb,kb,kb,kd,kd] rfl rfl (by kernel_rfl) (by decide) (fun K hK => ?_)
 refine goes_ Try.func93 (by kernel_rfl) rfl #[.agg #[.int .i64 a0_0, .int .i64 a0_1]] (by rfl) rfl rfl (by (try simp only [kv, kh, kg]); rfl) ?_
 with_reducible refine (impl_Prefix_end.calls a0_0 a0_1 t219 _ A3.1).mono ?_
 rintro e w7 ⟨rfl, hb⟩
 refine ⟨_, rfl, ?_⟩
 replace zs := kz (blk_below zs.1 hb)
 replace HB := kz (zj HB.1 hb)
 refine hK.out _ _ ⟨(zf zs.1 0).trans rfl, (zf zs.1 1).trans rfl⟩ (fun hHeld => ?_)
 clear hK K
 refine norm_ (a' := ?_) ?_ ?_
 rotate_left
 ·
  show ke _ (some 9) _ = _
  simp only [ke, kq, kj, kk, zo, zp]
  rfl
 refine one_ (i := 5) (N := some 10) #[kb,kb,kb,kb,kb,kb,kd] rfl rfl (by kernel_rfl) (by decide) (fun K hK => ?_)
 refine goes_ Try.func60 (by kernel_rfl) rfl #[.int .i64 a1, .int .i64 a0_0, .int .i64 t219] (by rfl) rfl rfl (by (try simp only [kv, kh, kg]); rfl) ?_
 with_reducible refine (impl_within.calls a1 a0_0 t219 t220 _ A4.1).mono ?_
 rintro e w' ⟨rfl, ⟨nd, rfl⟩⟩
 refine ⟨_, rfl, ?_⟩
 refine hK.out _ _ ⟨(zf zs.1 0).trans rfl, (zf zs.1 1).trans rfl⟩ (fun hHeld => ?_)
 clear hK K
 refine norm_ (a' := ?_) ?_ ?_
 rotate_left
 ·
  show ke _ (some 10) _ = _
  simp only [ke, kq, kj, kk, zo, zp]
  rfl
 refine pure_ (i := 6) (N := some 4) (v := ?_) (a' := ?_) #[kb,kb,kb,kb,kb,kb,kb] rfl rfl (by kernel_rfl) (fun _ _ _ h => h) (Or.inl ⟨by rfl, ?_⟩) ?_ ?_
 rotate_left
 ·
  intro w'
  go_simp
  with_reducible rfl
 rotate_left
 ·
  simp only [ke, kq, kj, kk, zo, zp]
  rfl
 refine done_ (by kernel_rfl) ?_
 try go_wp2
 go_ret
 exact ⟨by rfl, by repeat ((with_reducible first | exact HB.1 | apply za))⟩
end Go.Proofs.Ytakoaogbkajkcaa.PFnLongest
