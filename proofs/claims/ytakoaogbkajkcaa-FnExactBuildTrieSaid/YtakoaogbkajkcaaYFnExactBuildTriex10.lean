/- Written by this session's own program over the kit's print: Lean functions that tell what Go functions answer, each with a proof that the call does so. No condition but what each statement says. -/
import Derived.Test.YtakoaogbkajkcaaYFnExactBuildTriex0
import Derived.Test.YtakoaogbkajkcaaYFnExactBuildTriex6
import Derived.Test.YtakoaogbkajkcaaYFnExactBuildTriex9
namespace Go.Proofs.Ytakoaogbkajkcaa.PFnExactBuildTrie
open Go.RowKit Go.Proofs.YtakoaogbkajkcaaW.PrintWords Go.Proofs.YtakoaogbkajkcaaW.PrintLast Go.Proofs.YtakoaogbkajkcaaW.PrintMore
attribute [local go_sem] max2_int min2_int max_two min_two max_three min_three max_four min_four   -- for this text's walks alone
set_option linter.unusedVariables false
set_option linter.unusedSimpArgs false

/-! ### impl_GoodTrie: function 21 -/
mutual
def impl_GoodTrie.l0 : Nat → List (S86) → List Int → Int → List (S86) → Int → Int → Option (Bool)
  | 0, _, _, _, _, _, _ => none
  | k + 1, x0, x3, x4, x19, x20, x21 => if x21 < x20 then (if 0 ≤ x21 then (if x21 < (x19.length : Int) then (if x21 < (x3.length : Int) then (if (rd x3 x21) < 0 then (impl_GoodTrie.j1 k x0 x3 x4 x21 x19 x20 x21 true ((rd_T86 x19 x21).f0) ((rd_T86 x19 x21).f1) ((rd_T86 x19 x21).f2) ((rd_T86 x19 x21).f3)) else (if (rd x3 x21) > 32 then (impl_GoodTrie.j1 k x0 x3 x4 x21 x19 x20 x21 true ((rd_T86 x19 x21).f0) ((rd_T86 x19 x21).f1) ((rd_T86 x19 x21).f2) ((rd_T86 x19 x21).f3)) else ((impl_isValue.f ((rd_T86 x19 x21).f3)).bind fun t234 => (if t234 = true then (if ((rd_T86 x19 x21).f2 = true) then (if x21 > 0 then (impl_GoodTrie.j1 k x0 x3 x4 x21 x19 x20 x21 false ((rd_T86 x19 x21).f0) ((rd_T86 x19 x21).f1) ((rd_T86 x19 x21).f2) ((rd_T86 x19 x21).f3)) else (impl_GoodTrie.j1 k x0 x3 x4 x21 x19 x20 x21 false ((rd_T86 x19 x21).f0) ((rd_T86 x19 x21).f1) ((rd_T86 x19 x21).f2) ((rd_T86 x19 x21).f3))) else (if ((rd_T86 x19 x21).f3) = 0 then (if x21 > 0 then (if ((rd_T86 x19 x21).f0) = 0 then (impl_GoodTrie.j1 k x0 x3 x4 x21 x19 x20 x21 (((rd_T86 x19 x21).f1) == 0) ((rd_T86 x19 x21).f0) ((rd_T86 x19 x21).f1) ((rd_T86 x19 x21).f2) ((rd_T86 x19 x21).f3)) else (impl_GoodTrie.j1 k x0 x3 x4 x21 x19 x20 x21 false ((rd_T86 x19 x21).f0) ((rd_T86 x19 x21).f1) ((rd_T86 x19 x21).f2) ((rd_T86 x19 x21).f3))) else (impl_GoodTrie.j1 k x0 x3 x4 x21 x19 x20 x21 false ((rd_T86 x19 x21).f0) ((rd_T86 x19 x21).f1) ((rd_T86 x19 x21).f2) ((rd_T86 x19 x21).f3))) else (impl_GoodTrie.j1 k x0 x3 x4 x21 x19 x20 x21 true ((rd_T86 x19 x21).f0) ((rd_T86 x19 x21).f1) ((rd_T86 x19 x21).f2) ((rd_T86 x19 x21).f3)))) else (impl_GoodTrie.j1 k x0 x3 x4 x21 x19 x20 x21 true ((rd_T86 x19 x21).f0) ((rd_T86 x19 x21).f1) ((rd_T86 x19 x21).f2) ((rd_T86 x19 x21).f3)))))) else (none)) else (none)) else (none)) else (some (decide (x4 ≤ 30)))
def impl_GoodTrie.j1 : Nat → List (S86) → List Int → Int → Int → List (S86) → Int → Int → Bool → Int → Int → Bool → Int → Option (Bool)
  | 0, _, _, _, _, _, _, _, _, _, _, _, _ => none
  | k + 1, x0, x3, x4, x5, x19, x20, x21, x72, x232000, x232001, x232002, x232003 => if x72 = true then (some false) else (if x232002 = true then (impl_GoodTrie.j2 k x0 x3 (wrap64 (x4 + 1)) x5 x19 x20 x21 x232000 x232001 x232002 x232003) else (impl_GoodTrie.j2 k x0 x3 x4 x5 x19 x20 x21 x232000 x232001 x232002 x232003))
def impl_GoodTrie.j2 : Nat → List (S86) → List Int → Int → Int → List (S86) → Int → Int → Int → Int → Bool → Int → Option (Bool)
  | 0, _, _, _, _, _, _, _, _, _, _, _ => none
  | k + 1, x0, x3, x4, x5, x19, x20, x21, x232000, x232001, x232002, x232003 => (some (([x232000, x232001] : List Int) : List Int)).bind fun y235 => (impl_GoodTrie.l1 k x0 x3 x4 x5 x19 x20 x21 y235 (y235.length : Int) 0)
def impl_GoodTrie.l1 : Nat → List (S86) → List Int → Int → Int → List (S86) → Int → Int → List Int → Int → Int → Option (Bool)
  | 0, _, _, _, _, _, _, _, _, _, _ => none
  | k + 1, x0, x3, x4, x5, x19, x20, x21, x81, x82, x83 => if x83 < x82 then (if 0 ≤ x83 then (if x83 < (x81.length : Int) then (if (rd x81 x83) = 0 then (impl_GoodTrie.l1 k x0 x3 x4 x5 x19 x20 x21 x81 x82 (wrap64 (x83 + 1))) else ((impl_within.f (rd x81 x83) (wrap64 (x5 + 1)) (wrap64 ((x0.length : Int) - 1))).bind fun t239 => (if t239 = true then (if 0 ≤ (rd x81 x83) then (if (rd x81 x83) < (x3.length : Int) then (if (rd x3 (rd x81 x83)) ≥ 0 then (some false) else (if 0 ≤ x5 then (if x5 < (x3.length : Int) then (impl_GoodTrie.l1 k x0 (x3.set ((rd x81 x83) : Int).toNat (wrap64 ((rd x3 x5) + 1))) x4 x5 x19 x20 x21 x81 x82 (wrap64 (x83 + 1))) else (none)) else (none))) else (none)) else (none)) else (some false)))) else (none)) else (none)) else (impl_GoodTrie.l0 k x0 x3 x4 x19 x20 (wrap64 (x21 + 1)))
end
def impl_GoodTrie.f (k : Nat) (l0 : List (S86)) : Option (Bool) := (impl_within.f (l0.length : Int) 1 2000).bind fun t222 => (if t222 = true then ((slices_Repeat_int_int.f (([(-1)] : List Int)) (l0.length : Int)).bind fun t226 => (if 0 < (t226.length : Int) then (impl_GoodTrie.l0 k l0 (t226.set (0 : Int).toNat 0) 0 l0 (l0.length : Int) 0) else (none))) else (some false))
theorem impl_GoodTrie.mono_l : ∀ k, (∀ y0 y1 y2 y3 y4 y5, LeO (impl_GoodTrie.l0 k y0 y1 y2 y3 y4 y5) (impl_GoodTrie.l0 (k + 1) y0 y1 y2 y3 y4 y5)) ∧ (∀ y0 y1 y2 y3 y4 y5 y6 y7 y8 y9 y10 y11, LeO (impl_GoodTrie.j1 k y0 y1 y2 y3 y4 y5 y6 y7 y8 y9 y10 y11) (impl_GoodTrie.j1 (k + 1) y0 y1 y2 y3 y4 y5 y6 y7 y8 y9 y10 y11)) ∧ (∀ y0 y1 y2 y3 y4 y5 y6 y7 y8 y9 y10, LeO (impl_GoodTrie.j2 k y0 y1 y2 y3 y4 y5 y6 y7 y8 y9 y10) (impl_GoodTrie.j2 (k + 1) y0 y1 y2 y3 y4 y5 y6 y7 y8 y9 y10)) ∧ (∀ y0 y1 y2 y3 y4 y5 y6 y7 y8 y9, LeO (impl_GoodTrie.l1 k y0 y1 y2 y3 y4 y5 y6 y7 y8 y9) (impl_GoodTrie.l1 (k + 1) y0 y1 y2 y3 y4 y5 y6 y7 y8 y9))
  | 0 => ⟨fun _ _ _ _ _ _ r h => by simp [impl_GoodTrie.l0] at h, fun _ _ _ _ _ _ _ _ _ _ _ _ r h => by simp [impl_GoodTrie.j1] at h, fun _ _ _ _ _ _ _ _ _ _ _ r h => by simp [impl_GoodTrie.j2] at h, fun _ _ _ _ _ _ _ _ _ _ r h => by simp [impl_GoodTrie.l1] at h⟩
  | k + 1 => by
    obtain ⟨ih0, ih1, ih2, ih3⟩ := impl_GoodTrie.mono_l k
    refine ⟨?_, ?_, ?_, ?_⟩
    · intro y0 y1 y2 y3 y4 y5
      unfold impl_GoodTrie.l0
      repeat' first
      | (with_reducible exact ih0 _ _ _ _ _ _)
      | (with_reducible exact ih1 _ _ _ _ _ _ _ _ _ _ _ _)
      | (with_reducible exact ih2 _ _ _ _ _ _ _ _ _ _ _)
      | (with_reducible exact ih3 _ _ _ _ _ _ _ _ _ _)
      | (with_reducible exact LeO.refl _)
      | (with_reducible exact LeO.none _)
      | (with_reducible refine LeO.ite ?_ ?_)
      | (with_reducible refine LeO.bind ?_ (fun _ => ?_))
      | exact ih0 _ _ _ _ _ _
      | exact ih1 _ _ _ _ _ _ _ _ _ _ _ _
      | exact ih2 _ _ _ _ _ _ _ _ _ _ _
      | exact ih3 _ _ _ _ _ _ _ _ _ _
      | exact LeO.none _
      | refine LeO.ite ?_ ?_
      | refine LeO.bind ?_ (fun _ => ?_)
    · intro y0 y1 y2 y3 y4 y5 y6 y7 y8 y9 y10 y11
      unfold impl_GoodTrie.j1
      repeat' first
      | (with_reducible exact ih0 _ _ _ _ _ _)
      | (with_reducible exact ih1 _ _ _ _ _ _ _ _ _ _ _ _)
      | (with_reducible exact ih2 _ _ _ _ _ _ _ _ _ _ _)
      | (with_reducible exact ih3 _ _ _ _ _ _ _ _ _ _)
      | (with_reducible exact LeO.refl _)
      | (with_reducible exact LeO.none _)
      | (with_reducible refine LeO.ite ?_ ?_)
      | (with_reducible refine LeO.bind ?_ (fun _ => ?_))
      | exact ih0 _ _ _ _ _ _
      | exact ih1 _ _ _ _ _ _ _ _ _ _ _ _
      | exact ih2 _ _ _ _ _ _ _ _ _ _ _
      | exact ih3 _ _ _ _ _ _ _ _ _ _
      | exact LeO.none _
      | refine LeO.ite ?_ ?_
      | refine LeO.bind ?_ (fun _ => ?_)
    · intro y0 y1 y2 y3 y4 y5 y6 y7 y8 y9 y10
      unfold impl_GoodTrie.j2
      repeat' first
      | (with_reducible exact ih0 _ _ _ _ _ _)
      | (with_reducible exact ih1 _ _ _ _ _ _ _ _ _ _ _ _)
      | (with_reducible exact ih2 _ _ _ _ _ _ _ _ _ _ _)
      | (with_reducible exact ih3 _ _ _ _ _ _ _ _ _ _)
      | (with_reducible exact LeO.refl _)
      | (with_reducible exact LeO.none _)
      | (with_reducible refine LeO.ite ?_ ?_)
      | (with_reducible refine LeO.bind ?_ (fun _ => ?_))
      | exact ih0 _ _ _ _ _ _
      | exact ih1 _ _ _ _ _ _ _ _ _ _ _ _
      | exact ih2 _ _ _ _ _ _ _ _ _ _ _
      | exact ih3 _ _ _ _ _ _ _ _ _ _
      | exact LeO.none _
      | refine LeO.ite ?_ ?_
      | refine LeO.bind ?_ (fun _ => ?_)
    · intro y0 y1 y2 y3 y4 y5 y6 y7 y8 y9
      unfold impl_GoodTrie.l1
      repeat' first
      | (with_reducible exact ih0 _ _ _ _ _ _)
      | (with_reducible exact ih1 _ _ _ _ _ _ _ _ _ _ _ _)
      | (with_reducible exact ih2 _ _ _ _ _ _ _ _ _ _ _)
      | (with_reducible exact ih3 _ _ _ _ _ _ _ _ _ _)
      | (with_reducible exact LeO.refl _)
      | (with_reducible exact LeO.none _)
      | (with_reducible refine LeO.ite ?_ ?_)
      | (with_reducible refine LeO.bind ?_ (fun _ => ?_))
      | exact ih0 _ _ _ _ _ _
      | exact ih1 _ _ _ _ _ _ _ _ _ _ _ _
      | exact ih2 _ _ _ _ _ _ _ _ _ _ _
      | exact ih3 _ _ _ _ _ _ _ _ _ _
      | exact LeO.none _
      | refine LeO.ite ?_ ?_
      | refine LeO.bind ?_ (fun _ => ?_)
theorem impl_GoodTrie.mono : ∀ a0 k, LeO (impl_GoodTrie.f k a0) (impl_GoodTrie.f (k + 1) a0) := by
  intro a0 k
  obtain ⟨ih0, ih1, ih2, ih3⟩ := impl_GoodTrie.mono_l k
  unfold impl_GoodTrie.f
  repeat' first
      | (with_reducible exact ih0 _ _ _ _ _ _)
      | (with_reducible exact ih1 _ _ _ _ _ _ _ _ _ _ _ _)
      | (with_reducible exact ih2 _ _ _ _ _ _ _ _ _ _ _)
      | (with_reducible exact ih3 _ _ _ _ _ _ _ _ _ _)
      | (with_reducible exact LeO.refl _)
      | (with_reducible exact LeO.none _)
      | (with_reducible refine LeO.ite ?_ ?_)
      | (with_reducible refine LeO.bind ?_ (fun _ => ?_))
      | exact ih0 _ _ _ _ _ _
      | exact ih1 _ _ _ _ _ _ _ _ _ _ _ _
      | exact ih2 _ _ _ _ _ _ _ _ _ _ _
      | exact ih3 _ _ _ _ _ _ _ _ _ _
      | exact LeO.none _
      | refine LeO.ite ?_ ?_
      | refine LeO.bind ?_ (fun _ => ?_)
set_option maxHeartbeats 8000000 in
set_option maxRecDepth 100000 in
theorem impl_GoodTrie.calls (k : Nat) (A0 : Option Addr) (c0 : Nat) (l0 : List (S86)) (r : Bool) (w : World) (hr0 : Kd.C k86 w A0 l0.length l0) (hc0 : l0.length ≤ c0) (h : impl_GoodTrie.f k l0 = some r) :
    Calls Try.prog 21 #[.slice A0 l0.length c0] w fun e w' => e = .returned (.bool r) ∧ Below w.heap.size w w' := by
  have hu86 := Try.underlying86
  have HR0 := Aside0.mk hr0
  have HC0 := Aside0.mk hc0
  clear hr0 hc0
  have HB := Aside0.mk (Below.refl w.heap.size w)
  have H : ((impl_within.f (l0.length : Int) 1 2000).bind fun t222 => (if t222 = true then ((slices_Repeat_int_int.f (([(-1)] : List Int)) (l0.length : Int)).bind fun t226 => (if 0 < (t226.length : Int) then (impl_GoodTrie.l0 k l0 (t226.set (0 : Int).toNat 0) 0 l0 (l0.length : Int) 0) else (none))) else (some false))) = some r := h
  clear h
  replace H := Option.bind_eq_some_iff.mp H
  obtain ⟨t222, A20, H⟩ := H
  replace H : (if t222 = true then ((slices_Repeat_int_int.f (([(-1)] : List Int)) (l0.length : Int)).bind fun t226 => (if 0 < (t226.length : Int) then (impl_GoodTrie.l0 k l0 (t226.set (0 : Int).toNat 0) 0 l0 (l0.length : Int) 0) else (none))) else (some false)) = some r := H
  have A2 := Aside0.mk A20
  clear A20
  by_cases c3 : t222 = true
  · subst c3
    have H1 : ((slices_Repeat_int_int.f (([(-1)] : List Int)) (l0.length : Int)).bind fun t226 => (if 0 < (t226.length : Int) then (impl_GoodTrie.l0 k l0 (t226.set (0 : Int).toNat 0) 0 l0 (l0.length : Int) 0) else (none))) = some r := by rw [if_pos rfl] at H; exact H
    clear H
    have H := H1
    clear H1
    obtain ⟨y223, hy223⟩ : ∃ y_ : List Int, y_ = (([(-1)] : List Int)) := ⟨_, rfl⟩
    replace H : ((slices_Repeat_int_int.f y223 (l0.length : Int)).bind fun t226 => (if 0 < (t226.length : Int) then (impl_GoodTrie.l0 k l0 (t226.set (0 : Int).toNat 0) 0 l0 (l0.length : Int) 0) else (none))) = some r := by first | (rw [hy223]; with_reducible exact H) | (have H2_ := (Option.bind_some _ _).symm.trans H; rw [hy223]; with_reducible exact H2_) | (have H2_ := (Option.bind_some _ _).symm.trans H; with_reducible exact H2_) | with_reducible exact H | (rw [hy223]; exact H) | exact H
    have Ny223 := Aside0.mk hy223
    clear hy223
    replace H := Option.bind_eq_some_iff.mp H
    obtain ⟨t226, A40, H⟩ := H
    replace H : (if 0 < (t226.length : Int) then (impl_GoodTrie.l0 k l0 (t226.set (0 : Int).toNat 0) 0 l0 (l0.length : Int) 0) else (none)) = some r := H
    have A4 := Aside0.mk A40
    clear A40
    by_cases c5 : 0 < (t226.length : Int)
    · rw [if_pos c5] at H
      have c5b0 : decide (0 < (t226.length : Int)) = true := decide_eq_true c5
      have c5b1 : decide (0 < t226.length) = true := decide_eq_true (by omega)
      clear c5
      obtain ⟨y229, hy229⟩ : ∃ y_ : List Int, y_ = (t226.set (0 : Int).toNat 0) := ⟨_, rfl⟩
      replace H : (impl_GoodTrie.l0 k l0 y229 0 l0 (l0.length : Int) 0) = some r := by first | (rw [hy229]; with_reducible exact H) | (have H2_ := (Option.bind_some _ _).symm.trans H; rw [hy229]; with_reducible exact H2_) | (have H2_ := (Option.bind_some _ _).symm.trans H; with_reducible exact H2_) | with_reducible exact H | (rw [hy229]; exact H) | exact H
      have Ny229 := Aside0.mk hy229
      clear hy229
      have H' := Aside0.mk H
      clear H
      go_enter Try.func21, Try.ntmps21
      go_wp2_with (first | ((with_reducible refine gate_callee (f := 60) rfl ?_); refine goesL_ (some 11) rfl rfl Try.func60 (by kernel_rfl) rfl #[.int .i64 (l0.length : Int), .int .i64 1, .int .i64 2000] rfl (by (try simp only [List.map_toArray, List.map_cons, List.map_nil]); first | done | rfl | (simp only [List.length_drop, List.length_take]; rfl)) ?_; (with_reducible refine (impl_within.calls (l0.length : Int) 1 2000 true _ A2.out).mono ?_); rintro e w' ⟨rfl, ⟨nd, rfl⟩⟩; refine ⟨_, rfl, ?_⟩) | ((with_reducible refine gate_dst (N := 13) rfl ?_); refine Kd.R_lit (Kd.int .i64) _ 3 ?hg (N := 13) ?hd (xs := ([(-1)] : List Int)) (inner := [.int .i64 (-1)]) (ok := fun _ => True) (okp := fun _ => True) ?hr ?hp (fun _ hk => hk) trivial (Below.refl _ _) (Nat.le_refl _) (by simp) ?_; (case hd => rfl); (case hg => rfl); (case hr => first | (go_simp; done) | (go_simp; rfl)); (case hp => exact (Reps.one (show Kd.M (Kd.int .i64) _ _ _ (-1) [.int .i64 (-1)] from rfl) (Reps.none _ _))); intro v224 w7 ho8 hb hg_ hnew_; clear hg_ hnew_; (first | rw [← Ny223.out] at ho8 | (simp only [Int.reduceToNat] at ho8; rw [← Ny223.out] at ho8)); have n0_ := Aside0.mk (Kd.R_lower ho8 (below_size (by repeat (first | (with_reducible first | exact HB.out | apply below_alloc | apply pw_below_drewN | apply below_drew1) | exact HB.out)))); have n1_ := Aside0.mk (below_step (by repeat (first | (with_reducible first | exact HB.out | apply below_alloc | apply pw_below_drewN | apply below_drew1) | exact HB.out)) hb); clear HB; have HO225 := n0_; have HB := n1_; clear n0_ n1_; clear hb ho8; obtain ⟨Ao9, co9, eo9⟩ := Kd.R_slice HO225.out; subst eo9) | ((with_reducible refine gate_callee (f := 61) rfl ?_); refine goesL_ (some 16) rfl rfl Try.func61 (by kernel_rfl) rfl #[.slice Ao9 y223.length co9, .int .i64 (l0.length : Int)] rfl (by (try simp only [List.map_toArray, List.map_cons, List.map_nil]); first | done | rfl | (simp only [List.length_drop, List.length_take]; rfl)) ?_; (with_reducible refine (slices_Repeat_int_int.calls _ _ y223 (l0.length : Int) t226 _ ?side1 ?side2 A4.out).mono ?_); (case side1 => repeat (first | exact (Kd.R_reads' HO225.out).2.2 | (with_reducible refine Kd.C_alloc ?_ _) | (with_reducible refine Kd.C_drewN ?_ _) | (with_reducible refine Kd.C_drew ?_))); (case side2 => exact (Kd.R_reads' HO225.out).2.1); rintro e w10 ⟨v227, rfl, ho0, hb⟩; refine ⟨_, rfl, ?_⟩; have n0_ := Aside0.mk (Kd.R_elder' (by (with_reducible repeat (first | apply Kd.R_alloc | apply Kd.R_drewN | apply Kd.R_drew)); exact HO225.out) (Kd.R_base ho0) hb); have n1_ := Aside0.mk (Kd.R_lower (Kd.R_new' ho0 (Kd.R_lt (by (with_reducible repeat (first | apply Kd.R_alloc | apply Kd.R_drewN | apply Kd.R_drew)); exact HO225.out))) (below_size (by repeat (first | (with_reducible first | exact HB.out | apply below_alloc | apply pw_below_drewN | apply below_drew1) | exact HB.out)))); have n2_ := Aside0.mk (below_step (by repeat (first | (with_reducible first | exact HB.out | apply below_alloc | apply pw_below_drewN | apply below_drew1) | exact HB.out)) hb); clear HO225; clear HB; have HO225 := n0_; have HO228 := n1_; have HB := n2_; clear n0_ n1_ n2_; (try clear hb); (try clear hb2); (try clear hk); (try clear hi); (try clear ho0); have p6 : 0 ≤ (0 : Int) := (by omega); have q6 : (0 : Int) < ((t226.length : Int) : Int) := of_decide_eq_true (by first | (with_reducible assumption) | assumption); have qi6 : (0 < t226.length) = True := eq_true (by omega); obtain ⟨go6, co6, eo6, gb6, gl6, cl6, HG6⟩ := Kd.R_form HO228.out (by omega); (first | cases eo6 | (injection eo6 with ea_ en_ ec_; (first | subst ea_ | (injection ea_ with ea_; subst ea_)); subst ec_; clear en_)); have GB6 := Aside0.mk gb6; have GG6 := Aside0.mk HG6; clear gb6 gl6 HG6; obtain ⟨hx6_0, hf6_0⟩ := Kd.R_celln 0 HO228.out (0 : Int) p6 q6; (try rw [show ((0 : Int)).toNat = 0 from rfl] at hx6_0); (try simp only [Nat.reduceMul, Nat.zero_mul, Nat.zero_add, Nat.reduceAdd] at hx6_0); (try rw [show ((0 : Int)).toNat = 0 from rfl] at hf6_0); (try simp only [Nat.reduceMul, Nat.zero_mul, Nat.zero_add, Nat.reduceAdd] at hf6_0); replace p6 := eq_true p6; replace q6 := eq_true q6; have n_ := Aside0.mk (Kd.R_mono (ok' := (fun k_ => some k_ ≠ (.slice Ao9 y223.length co9 : Value).ownBlock)) HO228.out (fun k_ hk => hk.2)); clear HO228; have HO228 := n_; clear n_; obtain ⟨hy11_, hz11_⟩ := Kd.R_celln 0 HO228.out (0 : Int) (by omega) (of_decide_eq_true (by first | (with_reducible assumption) | assumption)); (try simp only [Int.reduceToNat, Int.toNat_zero, Int.toNat_ofNat, Nat.reduceMul, Nat.zero_mul, Nat.zero_add] at hy11_ hz11_); (try rw [show ((0 : Int)).toNat = 0 from rfl] at hy11_); (try rw [show ((0 : Int)).toNat = 0 from rfl] at hz11_); have HP11 := Kd.R_putg HO228.out (0 : Int) 0) | ((with_reducible refine gate_store (t := 3) (p := 18) rfl ?_); refine store_event (t := 3) (p := 18) (v := ?vo_w12) (w1 := (w10.setCell ⟨go6, (0 : Int).toNat, none⟩ (.int .i64 0))) ?hg ?ho ?hn ?hr ?_; (case ho => rfl); (case hg => rfl); (case hn => rfl); (case hr => first | (go_simp; done) | (go_simp; rfl)); intro w12 hw; have hg : w10.grownBy w12 (some go6) := (by rw [hw]; exact HP11.2); have hp_ : Kd.R (Kd.int .i64) 3 w12 w.heap.size (fun k_ => some k_ ≠ (.slice Ao9 y223.length co9 : Value).ownBlock) (.slice (some ⟨go6, 0, none⟩) t226.length co6) y229 := (by rw [hw, Ny229.out]; exact HP11.1); clear HP11; have n0_ := Aside0.mk (Kd.R_after (v := (.slice (some ⟨go6, 0, none⟩) t226.length co6)) (v1 := (.slice (some ⟨go6, 0, none⟩) t226.length co6)) (ok := (fun _ => True)) (by (with_reducible repeat (first | apply Kd.R_alloc | apply Kd.R_drewN | apply Kd.R_drew)); exact HO225.out) hg (.inl rfl)); have n1_ := Aside0.mk (hp_); have n2_ := Aside0.mk ((by rw [hw]; exact below_set (HB.out) GB6.out : Below w.heap.size w w12)); clear HO225; clear HO228; clear HB; have HO225 := n0_; have HO228 := n1_; have HB := n2_; clear n0_ n1_ n2_; clear hg hw hp_))
      go_loopg [4, 21] k (fun kq v4 v21 w' => ∃ (x3_1 : List Int) (x4_1 : Int) (x21_1 : Int), v4 = .int .i64 x4_1 ∧ v21 = .int .i64 x21_1 ∧ Aside0 (impl_GoodTrie.l0 kq l0 x3_1 x4_1 l0 (l0.length : Int) x21_1 = some r) ∧ Aside0 (kq ≤ k) ∧ Aside0 (Kd.R (Kd.int .i64) 3 w' w.heap.size (fun _ => True) (.slice (some ⟨go6, 0, none⟩) t226.length co6) x3_1) ∧ Aside0 (Below w.heap.size w w'))
      case atStart => exact ⟨(y229), (0), (0), (by first | rfl | (simp; done) | (simp [*]; done)), (by first | rfl | (simp; done) | (simp [*]; done)), H', ⟨Nat.le_refl _⟩, ⟨by (with_reducible repeat (first | apply Kd.R_alloc | apply Kd.R_drewN | apply Kd.R_drew)); exact Kd.R_mono HO228.out (fun _ hk => trivial)⟩, ⟨by repeat (first | (with_reducible first | exact HB.out | apply below_alloc | apply pw_below_drewN | apply below_drew1) | exact HB.out)⟩⟩
      case round =>
        clear H'
        try clear c2
        try clear p2
        try clear c3
        try clear c5
        try clear c5b0
        try clear c5b1
        try clear c6
        try clear p6
        try clear q6
        try clear hx6
        try clear qi6
        try clear hf6
        try clear hx6_0
        try clear p6
        try clear q6
        obtain ⟨x3_1, x4_1, x21_1, rfl, rfl, HA, HK1, HO_3, HB⟩ := hrel
        have hl3_1 := (Kd.R_reads' HO_3.out).1
        rw [hl3_1] at HO_3
        (try simp only [hl3_1])
        cases gk with
        | zero => exact absurd HA.out (by simp [impl_GoodTrie.l0])
        | succ k1 =>
          have H := HA.out
          clear HA
          simp only [impl_GoodTrie.l0] at H
          by_cases c13 : x21_1 < (l0.length : Int)
          · rw [if_pos c13] at H
            have c13b0 : decide (x21_1 < (l0.length : Int)) = true := decide_eq_true c13
            clear c13
            by_cases c14 : 0 ≤ x21_1
            · rw [if_pos c14] at H
              have c14b0 : decide (0 ≤ x21_1) = true := decide_eq_true c14
              clear c14
              by_cases c15 : x21_1 < (l0.length : Int)
              · rw [if_pos c15] at H
                have c15b0 : decide (x21_1 < (l0.length : Int)) = true := decide_eq_true c15
                clear c15
                have HC16 := Aside0.mk H
                clear H
                have p230 : 0 ≤ (x21_1 : Int) := of_decide_eq_true (by first | (with_reducible assumption) | assumption)
                have q230 : x21_1 < (l0.length : Int) := of_decide_eq_true (by first | (with_reducible assumption) | assumption)
                obtain ⟨ad230, e230, hx230_0, hx230_1, hx230_2, hx230_3⟩ := at_T86 HR0.out x21_1 p230 q230
                cases e230
                replace hx230_0 := (HB.out.cell (World.block_lt_of_cell? w _ hx230_0)).trans hx230_0
                replace hx230_1 := (HB.out.cell (World.block_lt_of_cell? w _ hx230_1)).trans hx230_1
                replace hx230_2 := (HB.out.cell (World.block_lt_of_cell? w _ hx230_2)).trans hx230_2
                replace hx230_3 := (HB.out.cell (World.block_lt_of_cell? w _ hx230_3)).trans hx230_3
                replace p230 := eq_true p230
                replace q230 := eq_true q230
                go_upto_region 9 with (first | ((with_reducible refine gate_dst (N := 6) rfl ?_); refine box_event ?hg (N := 6) ?hd (cs := #[.int .i64 0, .int .i64 0, .bool false, .int .i64 0]) (t := 86) ?hr ?_; (case hd => rfl); (case hg => rfl); (case hr => first | (go_simp; done) | (go_simp; rfl)); intro gb231 hg w17 hbox hb; have n0_ := Aside0.mk (Kd.R_below (by (with_reducible repeat (first | apply Kd.R_alloc | apply Kd.R_drewN | apply Kd.R_drew)); exact HO_3.out) hb); have n1_ := Aside0.mk (below_step (by repeat (first | (with_reducible first | exact HB.out | apply below_alloc | apply pw_below_drewN | apply below_drew1) | exact HB.out)) hb); have n2_ := Aside0.mk (hbox); have n3_ := Aside0.mk ((by rw [hg]; exact (below_size (by repeat (first | (with_reducible first | exact HB.out | apply below_alloc | apply pw_below_drewN | apply below_drew1) | exact HB.out))) : w.heap.size ≤ gb231)); have n4_ := Aside0.mk ((by rw [hg]; exact (below_size (by repeat (first | (with_reducible first | exact HB.out | apply below_alloc | apply pw_below_drewN | apply below_drew1) | exact HB.out))) : w.heap.size ≤ gb231)); clear HO_3; clear HB; have HO_3 := n0_; have HB := n1_; have BK231 := n2_; have GW231 := n3_; have GE231 := n4_; clear n0_ n1_ n2_ n3_ n4_; clear hb hbox hg; have hcz18_0 : w17.cell? ⟨gb231, 0, none⟩ = some (.int .i64 0) := (blk_cell BK231.out 0).trans rfl; have hcz18_1 : w17.cell? ⟨gb231, 1, none⟩ = some (.int .i64 0) := (blk_cell BK231.out 1).trans rfl; have hcz18_2 : w17.cell? ⟨gb231, 2, none⟩ = some (.bool false) := (blk_cell BK231.out 2).trans rfl; have hcz18_3 : w17.cell? ⟨gb231, 3, none⟩ = some (.int .i64 0) := (blk_cell BK231.out 3).trans rfl; have hfz18_0 := blk_frozen BK231.out 0; have hfz18_1 := blk_frozen BK231.out 1; have hfz18_2 := blk_frozen BK231.out 2; have hfz18_3 := blk_frozen BK231.out 3))
                (try simp only [Act.put, List.setIfInBounds_toArray, List.set_cons_zero, List.set_cons_succ])
                go_cut [72] (fun v72 wc => ∃ (kq : Nat) (x72_15 : Bool), v72 = .bool x72_15 ∧ Aside0 (impl_GoodTrie.j1 kq l0 x3_1 x4_1 x21_1 l0 (l0.length : Int) x21_1 x72_15 ((rd_T86 l0 x21_1).f0) ((rd_T86 l0 x21_1).f1) ((rd_T86 l0 x21_1).f2) ((rd_T86 l0 x21_1).f3) = some r) ∧ Aside0 (kq ≤ k1) ∧ Aside0 (Kd.R (Kd.int .i64) 3 wc w.heap.size (fun _ => True) (.slice (some ⟨go6, 0, none⟩) x3_1.length co6) x3_1) ∧ Aside0 (wc.heap[gb231]? = some (.cells #[.int .i64 ((rd_T86 l0 x21_1).f0), .int .i64 ((rd_T86 l0 x21_1).f1), .bool ((rd_T86 l0 x21_1).f2), .int .i64 ((rd_T86 l0 x21_1).f3)] 86 (0, 0))) ∧ Aside0 (Below w.heap.size w wc))
                case first =>
                  have H := HC16.out
                  clear HC16
                  by_cases c19 : x21_1 < (x3_1.length : Int)
                  · rw [if_pos c19] at H
                    have c19b0 : decide (x21_1 < (x3_1.length : Int)) = true := decide_eq_true c19
                    clear c19
                    (first | rw [c19b0] | (simp only [i64_w, i32_w]; rw [c19b0]) | skip)
                    by_cases c20 : (rd x3_1 x21_1) < 0
                    · rw [if_pos c20] at H
                      have c20b0 : decide ((rd x3_1 x21_1) < 0) = true := decide_eq_true c20
                      clear c20
                      have H' := Aside0.mk H
                      clear H
                      have p232 : 0 ≤ (x21_1 : Int) := of_decide_eq_true (by first | (with_reducible assumption) | assumption)
                      have q232 : x21_1 < (x3_1.length : Int) := of_decide_eq_true (by first | (with_reducible assumption) | assumption)
                      obtain ⟨ad232, e232, hx232_0⟩ := Kd.at_int (Kd.R_reads' HO_3.out).2.2 x21_1 p232 q232
                      obtain rfl : (⟨go6, 0, none⟩ : Addr) = ad232 := (by injection e232)
                      (first | simp only [add_plain] at hx232_0 | simp only [add_at] at hx232_0 | simp only [Addr.add, Nat.zero_add] at hx232_0 | skip)
                      have hn232_0 : (⟨go6, 0, none⟩ : Addr).block ≠ gb231 := Kd.own_blk (Kd.R_ne HO_3.out BK231.out (by decide))
                      have hn232_1 : (⟨go6, 0, none⟩ : Addr).block ≠ gb231 := Kd.own_blk (Kd.R_ne HO_3.out BK231.out (by decide))
                      have hn232_2 : (⟨go6, 0, none⟩ : Addr).block ≠ gb231 := Kd.own_blk (Kd.R_ne HO_3.out BK231.out (by decide))
                      have hn232_3 : (⟨go6, 0, none⟩ : Addr).block ≠ gb231 := Kd.own_blk (Kd.R_ne HO_3.out BK231.out (by decide))
                      replace hx232_0 := (cell_far (p := ⟨gb231, 0, none⟩) (by first | (rw [add_block]; exact hn232_0) | (show (Addr.add _ _).block ≠ _; rw [add_block]; exact hn232_0) | exact hn232_0) (.int .i64 ((rd_T86 l0 x21_1).f0))).trans hx232_0
                      replace hx232_0 := (cell_far (p := ⟨gb231, 1, none⟩) (by first | (rw [add_block]; exact hn232_1) | (show (Addr.add _ _).block ≠ _; rw [add_block]; exact hn232_1) | exact hn232_1) (.int .i64 ((rd_T86 l0 x21_1).f1))).trans hx232_0
                      replace hx232_0 := (cell_far (p := ⟨gb231, 2, none⟩) (by first | (rw [add_block]; exact hn232_2) | (show (Addr.add _ _).block ≠ _; rw [add_block]; exact hn232_2) | exact hn232_2) (.bool ((rd_T86 l0 x21_1).f2))).trans hx232_0
                      replace hx232_0 := (cell_far (p := ⟨gb231, 3, none⟩) (by first | (rw [add_block]; exact hn232_3) | (show (Addr.add _ _).block ≠ _; rw [add_block]; exact hn232_3) | exact hn232_3) (.int .i64 ((rd_T86 l0 x21_1).f3))).trans hx232_0
                      clear hn232_0
                      clear hn232_1
                      clear hn232_2
                      clear hn232_3
                      replace p232 := eq_true p232
                      replace q232 := eq_true q232
                      go_wp2
                      go_meet
                      case rel => exact ⟨_, (true), (by first | rfl | (simp; done) | (simp [*]; done)), H', ⟨by have := HK1.out; first | omega | exact Nat.le_refl _⟩, ⟨by (try simp only [hl3_1]); (with_reducible repeat (first | apply Kd.R_alloc | apply Kd.R_drewN | apply Kd.R_drew)); exact Kd.R_mono (Kd.R_far (p := ⟨gb231, 3, none⟩) (Kd.R_far (p := ⟨gb231, 2, none⟩) (Kd.R_far (p := ⟨gb231, 1, none⟩) (Kd.R_far (p := ⟨gb231, 0, none⟩) (Kd.R_types HO_3.out BK231.out (by decide)) (fun _ hk => hk.2) (.int .i64 ((rd_T86 l0 x21_1).f0))) (fun _ hk => hk.2) (.int .i64 ((rd_T86 l0 x21_1).f1))) (fun _ hk => hk.2) (.bool ((rd_T86 l0 x21_1).f2))) (fun _ hk => hk.2) (.int .i64 ((rd_T86 l0 x21_1).f3))) (fun _ hk => trivial)⟩, ⟨by (try simp only [hl3_1]); (with_reducible repeat (first | refine blk_drewN ?_ _ | refine blk_drew ?_ | refine blk_alloc ?_ _)); refine blk_put (cs := #[.int .i64 ((rd_T86 l0 x21_1).f0), .int .i64 ((rd_T86 l0 x21_1).f1), .bool ((rd_T86 l0 x21_1).f2), .int .i64 0]) ?_ 3 _ rfl; (with_reducible repeat (first | refine blk_drewN ?_ _ | refine blk_drew ?_ | refine blk_alloc ?_ _)); refine blk_put (cs := #[.int .i64 ((rd_T86 l0 x21_1).f0), .int .i64 ((rd_T86 l0 x21_1).f1), .bool false, .int .i64 0]) ?_ 2 _ rfl; (with_reducible repeat (first | refine blk_drewN ?_ _ | refine blk_drew ?_ | refine blk_alloc ?_ _)); refine blk_put (cs := #[.int .i64 ((rd_T86 l0 x21_1).f0), .int .i64 0, .bool false, .int .i64 0]) ?_ 1 _ rfl; (with_reducible repeat (first | refine blk_drewN ?_ _ | refine blk_drew ?_ | refine blk_alloc ?_ _)); refine blk_put (cs := #[.int .i64 0, .int .i64 0, .bool false, .int .i64 0]) ?_ 0 _ rfl; (with_reducible repeat (first | refine blk_drewN ?_ _ | refine blk_drew ?_ | refine blk_alloc ?_ _)); exact BK231.out⟩, ⟨by repeat (first | (with_reducible first | exact HB.out | apply below_alloc | apply pw_below_drewN | apply below_drew1 | refine below_set ?_ GE231.out) | exact HB.out)⟩⟩
                    · rw [if_neg c20] at H
                      have c20b0 : decide ((rd x3_1 x21_1) < 0) = false := decide_eq_false c20
                      clear c20
                      by_cases c21 : (rd x3_1 x21_1) > 32
                      · rw [if_pos c21] at H
                        have c21b0 : decide (32 < (rd x3_1 x21_1)) = true := decide_eq_true c21
                        clear c21
                        have H' := Aside0.mk H
                        clear H
                        have p232 : 0 ≤ (x21_1 : Int) := of_decide_eq_true (by first | (with_reducible assumption) | assumption)
                        have q232 : x21_1 < (x3_1.length : Int) := of_decide_eq_true (by first | (with_reducible assumption) | assumption)
                        obtain ⟨ad232, e232, hx232_0⟩ := Kd.at_int (Kd.R_reads' HO_3.out).2.2 x21_1 p232 q232
                        obtain rfl : (⟨go6, 0, none⟩ : Addr) = ad232 := (by injection e232)
                        (first | simp only [add_plain] at hx232_0 | simp only [add_at] at hx232_0 | simp only [Addr.add, Nat.zero_add] at hx232_0 | skip)
                        have hn232_0 : (⟨go6, 0, none⟩ : Addr).block ≠ gb231 := Kd.own_blk (Kd.R_ne HO_3.out BK231.out (by decide))
                        have hn232_1 : (⟨go6, 0, none⟩ : Addr).block ≠ gb231 := Kd.own_blk (Kd.R_ne HO_3.out BK231.out (by decide))
                        have hn232_2 : (⟨go6, 0, none⟩ : Addr).block ≠ gb231 := Kd.own_blk (Kd.R_ne HO_3.out BK231.out (by decide))
                        have hn232_3 : (⟨go6, 0, none⟩ : Addr).block ≠ gb231 := Kd.own_blk (Kd.R_ne HO_3.out BK231.out (by decide))
                        replace hx232_0 := (cell_far (p := ⟨gb231, 0, none⟩) (by first | (rw [add_block]; exact hn232_0) | (show (Addr.add _ _).block ≠ _; rw [add_block]; exact hn232_0) | exact hn232_0) (.int .i64 ((rd_T86 l0 x21_1).f0))).trans hx232_0
                        replace hx232_0 := (cell_far (p := ⟨gb231, 1, none⟩) (by first | (rw [add_block]; exact hn232_1) | (show (Addr.add _ _).block ≠ _; rw [add_block]; exact hn232_1) | exact hn232_1) (.int .i64 ((rd_T86 l0 x21_1).f1))).trans hx232_0
                        replace hx232_0 := (cell_far (p := ⟨gb231, 2, none⟩) (by first | (rw [add_block]; exact hn232_2) | (show (Addr.add _ _).block ≠ _; rw [add_block]; exact hn232_2) | exact hn232_2) (.bool ((rd_T86 l0 x21_1).f2))).trans hx232_0
                        replace hx232_0 := (cell_far (p := ⟨gb231, 3, none⟩) (by first | (rw [add_block]; exact hn232_3) | (show (Addr.add _ _).block ≠ _; rw [add_block]; exact hn232_3) | exact hn232_3) (.int .i64 ((rd_T86 l0 x21_1).f3))).trans hx232_0
                        clear hn232_0
                        clear hn232_1
                        clear hn232_2
                        clear hn232_3
                        replace p232 := eq_true p232
                        replace q232 := eq_true q232
                        have p233 : 0 ≤ (x21_1 : Int) := of_decide_eq_true (by first | (with_reducible assumption) | assumption)
                        have q233 : x21_1 < (x3_1.length : Int) := of_decide_eq_true (by first | (with_reducible assumption) | assumption)
                        obtain ⟨ad233, e233, hx233_0⟩ := Kd.at_int (Kd.R_reads' HO_3.out).2.2 x21_1 p233 q233
                        obtain rfl : (⟨go6, 0, none⟩ : Addr) = ad233 := (by injection e233)
                        (first | simp only [add_plain] at hx233_0 | simp only [add_at] at hx233_0 | simp only [Addr.add, Nat.zero_add] at hx233_0 | skip)
                        have hn233_0 : (⟨go6, 0, none⟩ : Addr).block ≠ gb231 := Kd.own_blk (Kd.R_ne HO_3.out BK231.out (by decide))
                        have hn233_1 : (⟨go6, 0, none⟩ : Addr).block ≠ gb231 := Kd.own_blk (Kd.R_ne HO_3.out BK231.out (by decide))
                        have hn233_2 : (⟨go6, 0, none⟩ : Addr).block ≠ gb231 := Kd.own_blk (Kd.R_ne HO_3.out BK231.out (by decide))
                        have hn233_3 : (⟨go6, 0, none⟩ : Addr).block ≠ gb231 := Kd.own_blk (Kd.R_ne HO_3.out BK231.out (by decide))
                        replace hx233_0 := (cell_far (p := ⟨gb231, 0, none⟩) (by first | (rw [add_block]; exact hn233_0) | (show (Addr.add _ _).block ≠ _; rw [add_block]; exact hn233_0) | exact hn233_0) (.int .i64 ((rd_T86 l0 x21_1).f0))).trans hx233_0
                        replace hx233_0 := (cell_far (p := ⟨gb231, 1, none⟩) (by first | (rw [add_block]; exact hn233_1) | (show (Addr.add _ _).block ≠ _; rw [add_block]; exact hn233_1) | exact hn233_1) (.int .i64 ((rd_T86 l0 x21_1).f1))).trans hx233_0
                        replace hx233_0 := (cell_far (p := ⟨gb231, 2, none⟩) (by first | (rw [add_block]; exact hn233_2) | (show (Addr.add _ _).block ≠ _; rw [add_block]; exact hn233_2) | exact hn233_2) (.bool ((rd_T86 l0 x21_1).f2))).trans hx233_0
                        replace hx233_0 := (cell_far (p := ⟨gb231, 3, none⟩) (by first | (rw [add_block]; exact hn233_3) | (show (Addr.add _ _).block ≠ _; rw [add_block]; exact hn233_3) | exact hn233_3) (.int .i64 ((rd_T86 l0 x21_1).f3))).trans hx233_0
                        clear hn233_0
                        clear hn233_1
                        clear hn233_2
                        clear hn233_3
                        replace p233 := eq_true p233
                        replace q233 := eq_true q233
                        go_wp2
                        go_meet
                        case rel => exact ⟨_, (true), (by first | rfl | (simp; done) | (simp [*]; done)), H', ⟨by have := HK1.out; first | omega | exact Nat.le_refl _⟩, ⟨by (try simp only [hl3_1]); (with_reducible repeat (first | apply Kd.R_alloc | apply Kd.R_drewN | apply Kd.R_drew)); exact Kd.R_mono (Kd.R_far (p := ⟨gb231, 3, none⟩) (Kd.R_far (p := ⟨gb231, 2, none⟩) (Kd.R_far (p := ⟨gb231, 1, none⟩) (Kd.R_far (p := ⟨gb231, 0, none⟩) (Kd.R_types HO_3.out BK231.out (by decide)) (fun _ hk => hk.2) (.int .i64 ((rd_T86 l0 x21_1).f0))) (fun _ hk => hk.2) (.int .i64 ((rd_T86 l0 x21_1).f1))) (fun _ hk => hk.2) (.bool ((rd_T86 l0 x21_1).f2))) (fun _ hk => hk.2) (.int .i64 ((rd_T86 l0 x21_1).f3))) (fun _ hk => trivial)⟩, ⟨by (try simp only [hl3_1]); (with_reducible repeat (first | refine blk_drewN ?_ _ | refine blk_drew ?_ | refine blk_alloc ?_ _)); refine blk_put (cs := #[.int .i64 ((rd_T86 l0 x21_1).f0), .int .i64 ((rd_T86 l0 x21_1).f1), .bool ((rd_T86 l0 x21_1).f2), .int .i64 0]) ?_ 3 _ rfl; (with_reducible repeat (first | refine blk_drewN ?_ _ | refine blk_drew ?_ | refine blk_alloc ?_ _)); refine blk_put (cs := #[.int .i64 ((rd_T86 l0 x21_1).f0), .int .i64 ((rd_T86 l0 x21_1).f1), .bool false, .int .i64 0]) ?_ 2 _ rfl; (with_reducible repeat (first | refine blk_drewN ?_ _ | refine blk_drew ?_ | refine blk_alloc ?_ _)); refine blk_put (cs := #[.int .i64 ((rd_T86 l0 x21_1).f0), .int .i64 0, .bool false, .int .i64 0]) ?_ 1 _ rfl; (with_reducible repeat (first | refine blk_drewN ?_ _ | refine blk_drew ?_ | refine blk_alloc ?_ _)); refine blk_put (cs := #[.int .i64 0, .int .i64 0, .bool false, .int .i64 0]) ?_ 0 _ rfl; (with_reducible repeat (first | refine blk_drewN ?_ _ | refine blk_drew ?_ | refine blk_alloc ?_ _)); exact BK231.out⟩, ⟨by repeat (first | (with_reducible first | exact HB.out | apply below_alloc | apply pw_below_drewN | apply below_drew1 | refine below_set ?_ GE231.out) | exact HB.out)⟩⟩
                      · rw [if_neg c21] at H
                        have c21b0 : decide (32 < (rd x3_1 x21_1)) = false := decide_eq_false c21
                        clear c21
                        replace H := Option.bind_eq_some_iff.mp H
                        obtain ⟨t234, A220, H⟩ := H
                        replace H : (if t234 = true then (if ((rd_T86 l0 x21_1).f2 = true) then (if x21_1 > 0 then (impl_GoodTrie.j1 k1 l0 x3_1 x4_1 x21_1 l0 (l0.length : Int) x21_1 false ((rd_T86 l0 x21_1).f0) ((rd_T86 l0 x21_1).f1) ((rd_T86 l0 x21_1).f2) ((rd_T86 l0 x21_1).f3)) else (impl_GoodTrie.j1 k1 l0 x3_1 x4_1 x21_1 l0 (l0.length : Int) x21_1 false ((rd_T86 l0 x21_1).f0) ((rd_T86 l0 x21_1).f1) ((rd_T86 l0 x21_1).f2) ((rd_T86 l0 x21_1).f3))) else (if ((rd_T86 l0 x21_1).f3) = 0 then (if x21_1 > 0 then (if ((rd_T86 l0 x21_1).f0) = 0 then (impl_GoodTrie.j1 k1 l0 x3_1 x4_1 x21_1 l0 (l0.length : Int) x21_1 (((rd_T86 l0 x21_1).f1) == 0) ((rd_T86 l0 x21_1).f0) ((rd_T86 l0 x21_1).f1) ((rd_T86 l0 x21_1).f2) ((rd_T86 l0 x21_1).f3)) else (impl_GoodTrie.j1 k1 l0 x3_1 x4_1 x21_1 l0 (l0.length : Int) x21_1 false ((rd_T86 l0 x21_1).f0) ((rd_T86 l0 x21_1).f1) ((rd_T86 l0 x21_1).f2) ((rd_T86 l0 x21_1).f3))) else (impl_GoodTrie.j1 k1 l0 x3_1 x4_1 x21_1 l0 (l0.length : Int) x21_1 false ((rd_T86 l0 x21_1).f0) ((rd_T86 l0 x21_1).f1) ((rd_T86 l0 x21_1).f2) ((rd_T86 l0 x21_1).f3))) else (impl_GoodTrie.j1 k1 l0 x3_1 x4_1 x21_1 l0 (l0.length : Int) x21_1 true ((rd_T86 l0 x21_1).f0) ((rd_T86 l0 x21_1).f1) ((rd_T86 l0 x21_1).f2) ((rd_T86 l0 x21_1).f3)))) else (impl_GoodTrie.j1 k1 l0 x3_1 x4_1 x21_1 l0 (l0.length : Int) x21_1 true ((rd_T86 l0 x21_1).f0) ((rd_T86 l0 x21_1).f1) ((rd_T86 l0 x21_1).f2) ((rd_T86 l0 x21_1).f3))) = some r := H
                        have A22 := Aside0.mk A220
                        clear A220
                        by_cases c23 : t234 = true
                        · subst c23
                          have H1 : (if ((rd_T86 l0 x21_1).f2 = true) then (if x21_1 > 0 then (impl_GoodTrie.j1 k1 l0 x3_1 x4_1 x21_1 l0 (l0.length : Int) x21_1 false ((rd_T86 l0 x21_1).f0) ((rd_T86 l0 x21_1).f1) ((rd_T86 l0 x21_1).f2) ((rd_T86 l0 x21_1).f3)) else (impl_GoodTrie.j1 k1 l0 x3_1 x4_1 x21_1 l0 (l0.length : Int) x21_1 false ((rd_T86 l0 x21_1).f0) ((rd_T86 l0 x21_1).f1) ((rd_T86 l0 x21_1).f2) ((rd_T86 l0 x21_1).f3))) else (if ((rd_T86 l0 x21_1).f3) = 0 then (if x21_1 > 0 then (if ((rd_T86 l0 x21_1).f0) = 0 then (impl_GoodTrie.j1 k1 l0 x3_1 x4_1 x21_1 l0 (l0.length : Int) x21_1 (((rd_T86 l0 x21_1).f1) == 0) ((rd_T86 l0 x21_1).f0) ((rd_T86 l0 x21_1).f1) ((rd_T86 l0 x21_1).f2) ((rd_T86 l0 x21_1).f3)) else (impl_GoodTrie.j1 k1 l0 x3_1 x4_1 x21_1 l0 (l0.length : Int) x21_1 false ((rd_T86 l0 x21_1).f0) ((rd_T86 l0 x21_1).f1) ((rd_T86 l0 x21_1).f2) ((rd_T86 l0 x21_1).f3))) else (impl_GoodTrie.j1 k1 l0 x3_1 x4_1 x21_1 l0 (l0.length : Int) x21_1 false ((rd_T86 l0 x21_1).f0) ((rd_T86 l0 x21_1).f1) ((rd_T86 l0 x21_1).f2) ((rd_T86 l0 x21_1).f3))) else (impl_GoodTrie.j1 k1 l0 x3_1 x4_1 x21_1 l0 (l0.length : Int) x21_1 true ((rd_T86 l0 x21_1).f0) ((rd_T86 l0 x21_1).f1) ((rd_T86 l0 x21_1).f2) ((rd_T86 l0 x21_1).f3)))) = some r := by rw [if_pos rfl] at H; exact H
                          clear H
                          have H := H1
                          clear H1
                          obtain ⟨bq24, hbq24⟩ : ∃ b_ : Bool, b_ = ((rd_T86 l0 x21_1).f2) := ⟨_, rfl⟩
                          replace H : (if (bq24 = true) then (if x21_1 > 0 then (impl_GoodTrie.j1 k1 l0 x3_1 x4_1 x21_1 l0 (l0.length : Int) x21_1 false ((rd_T86 l0 x21_1).f0) ((rd_T86 l0 x21_1).f1) bq24 ((rd_T86 l0 x21_1).f3)) else (impl_GoodTrie.j1 k1 l0 x3_1 x4_1 x21_1 l0 (l0.length : Int) x21_1 false ((rd_T86 l0 x21_1).f0) ((rd_T86 l0 x21_1).f1) bq24 ((rd_T86 l0 x21_1).f3))) else (if ((rd_T86 l0 x21_1).f3) = 0 then (if x21_1 > 0 then (if ((rd_T86 l0 x21_1).f0) = 0 then (impl_GoodTrie.j1 k1 l0 x3_1 x4_1 x21_1 l0 (l0.length : Int) x21_1 (((rd_T86 l0 x21_1).f1) == 0) ((rd_T86 l0 x21_1).f0) ((rd_T86 l0 x21_1).f1) bq24 ((rd_T86 l0 x21_1).f3)) else (impl_GoodTrie.j1 k1 l0 x3_1 x4_1 x21_1 l0 (l0.length : Int) x21_1 false ((rd_T86 l0 x21_1).f0) ((rd_T86 l0 x21_1).f1) bq24 ((rd_T86 l0 x21_1).f3))) else (impl_GoodTrie.j1 k1 l0 x3_1 x4_1 x21_1 l0 (l0.length : Int) x21_1 false ((rd_T86 l0 x21_1).f0) ((rd_T86 l0 x21_1).f1) bq24 ((rd_T86 l0 x21_1).f3))) else (impl_GoodTrie.j1 k1 l0 x3_1 x4_1 x21_1 l0 (l0.length : Int) x21_1 true ((rd_T86 l0 x21_1).f0) ((rd_T86 l0 x21_1).f1) bq24 ((rd_T86 l0 x21_1).f3)))) = some r := by rw [← hbq24] at H; exact H
                          have Nbq24 := Aside0.mk hbq24
                          clear hbq24
                          (try rw [← Nbq24.out])
                          by_cases c25 : (bq24 = true)
                          · subst c25
                            have H1 : (if x21_1 > 0 then (impl_GoodTrie.j1 k1 l0 x3_1 x4_1 x21_1 l0 (l0.length : Int) x21_1 false ((rd_T86 l0 x21_1).f0) ((rd_T86 l0 x21_1).f1) true ((rd_T86 l0 x21_1).f3)) else (impl_GoodTrie.j1 k1 l0 x3_1 x4_1 x21_1 l0 (l0.length : Int) x21_1 false ((rd_T86 l0 x21_1).f0) ((rd_T86 l0 x21_1).f1) true ((rd_T86 l0 x21_1).f3))) = some r := by rw [if_pos rfl] at H; exact H
                            clear H
                            have H := H1
                            clear H1
                            by_cases c26 : x21_1 > 0
                            · rw [if_pos c26] at H
                              have c26b0 : decide (0 < x21_1) = true := decide_eq_true c26
                              clear c26
                              have H' := Aside0.mk H
                              clear H
                              have p232 : 0 ≤ (x21_1 : Int) := of_decide_eq_true (by first | (with_reducible assumption) | assumption)
                              have q232 : x21_1 < (x3_1.length : Int) := of_decide_eq_true (by first | (with_reducible assumption) | assumption)
                              obtain ⟨ad232, e232, hx232_0⟩ := Kd.at_int (Kd.R_reads' HO_3.out).2.2 x21_1 p232 q232
                              obtain rfl : (⟨go6, 0, none⟩ : Addr) = ad232 := (by injection e232)
                              (first | simp only [add_plain] at hx232_0 | simp only [add_at] at hx232_0 | simp only [Addr.add, Nat.zero_add] at hx232_0 | skip)
                              have hn232_0 : (⟨go6, 0, none⟩ : Addr).block ≠ gb231 := Kd.own_blk (Kd.R_ne HO_3.out BK231.out (by decide))
                              have hn232_1 : (⟨go6, 0, none⟩ : Addr).block ≠ gb231 := Kd.own_blk (Kd.R_ne HO_3.out BK231.out (by decide))
                              have hn232_2 : (⟨go6, 0, none⟩ : Addr).block ≠ gb231 := Kd.own_blk (Kd.R_ne HO_3.out BK231.out (by decide))
                              have hn232_3 : (⟨go6, 0, none⟩ : Addr).block ≠ gb231 := Kd.own_blk (Kd.R_ne HO_3.out BK231.out (by decide))
                              replace hx232_0 := (cell_far (p := ⟨gb231, 0, none⟩) (by first | (rw [add_block]; exact hn232_0) | (show (Addr.add _ _).block ≠ _; rw [add_block]; exact hn232_0) | exact hn232_0) (.int .i64 ((rd_T86 l0 x21_1).f0))).trans hx232_0
                              replace hx232_0 := (cell_far (p := ⟨gb231, 1, none⟩) (by first | (rw [add_block]; exact hn232_1) | (show (Addr.add _ _).block ≠ _; rw [add_block]; exact hn232_1) | exact hn232_1) (.int .i64 ((rd_T86 l0 x21_1).f1))).trans hx232_0
                              replace hx232_0 := (cell_far (p := ⟨gb231, 2, none⟩) (by first | (rw [add_block]; exact hn232_2) | (show (Addr.add _ _).block ≠ _; rw [add_block]; exact hn232_2) | exact hn232_2) (.bool (true))).trans hx232_0
                              replace hx232_0 := (cell_far (p := ⟨gb231, 3, none⟩) (by first | (rw [add_block]; exact hn232_3) | (show (Addr.add _ _).block ≠ _; rw [add_block]; exact hn232_3) | exact hn232_3) (.int .i64 ((rd_T86 l0 x21_1).f3))).trans hx232_0
                              clear hn232_0
                              clear hn232_1
                              clear hn232_2
                              clear hn232_3
                              replace p232 := eq_true p232
                              replace q232 := eq_true q232
                              have p233 : 0 ≤ (x21_1 : Int) := of_decide_eq_true (by first | (with_reducible assumption) | assumption)
                              have q233 : x21_1 < (x3_1.length : Int) := of_decide_eq_true (by first | (with_reducible assumption) | assumption)
                              obtain ⟨ad233, e233, hx233_0⟩ := Kd.at_int (Kd.R_reads' HO_3.out).2.2 x21_1 p233 q233
                              obtain rfl : (⟨go6, 0, none⟩ : Addr) = ad233 := (by injection e233)
                              (first | simp only [add_plain] at hx233_0 | simp only [add_at] at hx233_0 | simp only [Addr.add, Nat.zero_add] at hx233_0 | skip)
                              have hn233_0 : (⟨go6, 0, none⟩ : Addr).block ≠ gb231 := Kd.own_blk (Kd.R_ne HO_3.out BK231.out (by decide))
                              have hn233_1 : (⟨go6, 0, none⟩ : Addr).block ≠ gb231 := Kd.own_blk (Kd.R_ne HO_3.out BK231.out (by decide))
                              have hn233_2 : (⟨go6, 0, none⟩ : Addr).block ≠ gb231 := Kd.own_blk (Kd.R_ne HO_3.out BK231.out (by decide))
                              have hn233_3 : (⟨go6, 0, none⟩ : Addr).block ≠ gb231 := Kd.own_blk (Kd.R_ne HO_3.out BK231.out (by decide))
                              replace hx233_0 := (cell_far (p := ⟨gb231, 0, none⟩) (by first | (rw [add_block]; exact hn233_0) | (show (Addr.add _ _).block ≠ _; rw [add_block]; exact hn233_0) | exact hn233_0) (.int .i64 ((rd_T86 l0 x21_1).f0))).trans hx233_0
                              replace hx233_0 := (cell_far (p := ⟨gb231, 1, none⟩) (by first | (rw [add_block]; exact hn233_1) | (show (Addr.add _ _).block ≠ _; rw [add_block]; exact hn233_1) | exact hn233_1) (.int .i64 ((rd_T86 l0 x21_1).f1))).trans hx233_0
                              replace hx233_0 := (cell_far (p := ⟨gb231, 2, none⟩) (by first | (rw [add_block]; exact hn233_2) | (show (Addr.add _ _).block ≠ _; rw [add_block]; exact hn233_2) | exact hn233_2) (.bool (true))).trans hx233_0
                              replace hx233_0 := (cell_far (p := ⟨gb231, 3, none⟩) (by first | (rw [add_block]; exact hn233_3) | (show (Addr.add _ _).block ≠ _; rw [add_block]; exact hn233_3) | exact hn233_3) (.int .i64 ((rd_T86 l0 x21_1).f3))).trans hx233_0
                              clear hn233_0
                              clear hn233_1
                              clear hn233_2
                              clear hn233_3
                              replace p233 := eq_true p233
                              replace q233 := eq_true q233
                              have hcz27_0 : w17.cell? ⟨gb231, 0, none⟩ = some (.int .i64 0) := (blk_cell BK231.out 0).trans rfl
                              have hcz27_1 : w17.cell? ⟨gb231, 1, none⟩ = some (.int .i64 0) := (blk_cell BK231.out 1).trans rfl
                              have hcz27_2 : w17.cell? ⟨gb231, 2, none⟩ = some (.bool false) := (blk_cell BK231.out 2).trans rfl
                              have hcz27_3 : w17.cell? ⟨gb231, 3, none⟩ = some (.int .i64 0) := (blk_cell BK231.out 3).trans rfl
                              have hfz27_0 := blk_frozen BK231.out 0
                              have hfz27_1 := blk_frozen BK231.out 1
                              have hfz27_2 := blk_frozen BK231.out 2
                              have hfz27_3 := blk_frozen BK231.out 3
                              go_wp2_with (first | (go_at_call 57; (with_reducible refine (impl_isValue.calls ((rd_T86 l0 x21_1).f3) true _ A22.out).mono ?_); rintro e w' ⟨rfl, ⟨nd, rfl⟩⟩))
                              go_meet
                              case rel => (try rw [← Nbq24.out]); exact ⟨_, (false), (by first | rfl | (simp; done) | (simp [*]; done)), H', ⟨by have := HK1.out; first | omega | exact Nat.le_refl _⟩, ⟨by (try rw [← Nbq24.out]); (try simp only [hl3_1]); (with_reducible repeat (first | apply Kd.R_alloc | apply Kd.R_drewN | apply Kd.R_drew)); exact Kd.R_mono (Kd.R_far (p := ⟨gb231, 3, none⟩) (Kd.R_far (p := ⟨gb231, 2, none⟩) (Kd.R_far (p := ⟨gb231, 1, none⟩) (Kd.R_far (p := ⟨gb231, 0, none⟩) (Kd.R_types HO_3.out BK231.out (by decide)) (fun _ hk => hk.2) (.int .i64 ((rd_T86 l0 x21_1).f0))) (fun _ hk => hk.2) (.int .i64 ((rd_T86 l0 x21_1).f1))) (fun _ hk => hk.2) (.bool (true))) (fun _ hk => hk.2) (.int .i64 ((rd_T86 l0 x21_1).f3))) (fun _ hk => trivial)⟩, ⟨by (try rw [← Nbq24.out]); (try simp only [hl3_1]); (with_reducible repeat (first | refine blk_drewN ?_ _ | refine blk_drew ?_ | refine blk_alloc ?_ _)); refine blk_put (cs := #[.int .i64 ((rd_T86 l0 x21_1).f0), .int .i64 ((rd_T86 l0 x21_1).f1), .bool (true), .int .i64 0]) ?_ 3 _ rfl; (with_reducible repeat (first | refine blk_drewN ?_ _ | refine blk_drew ?_ | refine blk_alloc ?_ _)); refine blk_put (cs := #[.int .i64 ((rd_T86 l0 x21_1).f0), .int .i64 ((rd_T86 l0 x21_1).f1), .bool false, .int .i64 0]) ?_ 2 _ rfl; (with_reducible repeat (first | refine blk_drewN ?_ _ | refine blk_drew ?_ | refine blk_alloc ?_ _)); refine blk_put (cs := #[.int .i64 ((rd_T86 l0 x21_1).f0), .int .i64 0, .bool false, .int .i64 0]) ?_ 1 _ rfl; (with_reducible repeat (first | refine blk_drewN ?_ _ | refine blk_drew ?_ | refine blk_alloc ?_ _)); refine blk_put (cs := #[.int .i64 0, .int .i64 0, .bool false, .int .i64 0]) ?_ 0 _ rfl; (with_reducible repeat (first | refine blk_drewN ?_ _ | refine blk_drew ?_ | refine blk_alloc ?_ _)); exact BK231.out⟩, ⟨by repeat (first | (with_reducible first | exact HB.out | apply below_alloc | apply pw_below_drewN | apply below_drew1 | refine below_set ?_ GE231.out) | exact HB.out)⟩⟩
                            · rw [if_neg c26] at H
                              have c26b0 : decide (0 < x21_1) = false := decide_eq_false c26
                              clear c26
                              have H' := Aside0.mk H
                              clear H
                              have p232 : 0 ≤ (x21_1 : Int) := of_decide_eq_true (by first | (with_reducible assumption) | assumption)
                              have q232 : x21_1 < (x3_1.length : Int) := of_decide_eq_true (by first | (with_reducible assumption) | assumption)
                              obtain ⟨ad232, e232, hx232_0⟩ := Kd.at_int (Kd.R_reads' HO_3.out).2.2 x21_1 p232 q232
                              obtain rfl : (⟨go6, 0, none⟩ : Addr) = ad232 := (by injection e232)
                              (first | simp only [add_plain] at hx232_0 | simp only [add_at] at hx232_0 | simp only [Addr.add, Nat.zero_add] at hx232_0 | skip)
                              have hn232_0 : (⟨go6, 0, none⟩ : Addr).block ≠ gb231 := Kd.own_blk (Kd.R_ne HO_3.out BK231.out (by decide))
                              have hn232_1 : (⟨go6, 0, none⟩ : Addr).block ≠ gb231 := Kd.own_blk (Kd.R_ne HO_3.out BK231.out (by decide))
                              have hn232_2 : (⟨go6, 0, none⟩ : Addr).block ≠ gb231 := Kd.own_blk (Kd.R_ne HO_3.out BK231.out (by decide))
                              have hn232_3 : (⟨go6, 0, none⟩ : Addr).block ≠ gb231 := Kd.own_blk (Kd.R_ne HO_3.out BK231.out (by decide))
                              replace hx232_0 := (cell_far (p := ⟨gb231, 0, none⟩) (by first | (rw [add_block]; exact hn232_0) | (show (Addr.add _ _).block ≠ _; rw [add_block]; exact hn232_0) | exact hn232_0) (.int .i64 ((rd_T86 l0 x21_1).f0))).trans hx232_0
                              replace hx232_0 := (cell_far (p := ⟨gb231, 1, none⟩) (by first | (rw [add_block]; exact hn232_1) | (show (Addr.add _ _).block ≠ _; rw [add_block]; exact hn232_1) | exact hn232_1) (.int .i64 ((rd_T86 l0 x21_1).f1))).trans hx232_0
                              replace hx232_0 := (cell_far (p := ⟨gb231, 2, none⟩) (by first | (rw [add_block]; exact hn232_2) | (show (Addr.add _ _).block ≠ _; rw [add_block]; exact hn232_2) | exact hn232_2) (.bool (true))).trans hx232_0
                              replace hx232_0 := (cell_far (p := ⟨gb231, 3, none⟩) (by first | (rw [add_block]; exact hn232_3) | (show (Addr.add _ _).block ≠ _; rw [add_block]; exact hn232_3) | exact hn232_3) (.int .i64 ((rd_T86 l0 x21_1).f3))).trans hx232_0
                              clear hn232_0
                              clear hn232_1
                              clear hn232_2
                              clear hn232_3
                              replace p232 := eq_true p232
                              replace q232 := eq_true q232
                              have p233 : 0 ≤ (x21_1 : Int) := of_decide_eq_true (by first | (with_reducible assumption) | assumption)
                              have q233 : x21_1 < (x3_1.length : Int) := of_decide_eq_true (by first | (with_reducible assumption) | assumption)
                              obtain ⟨ad233, e233, hx233_0⟩ := Kd.at_int (Kd.R_reads' HO_3.out).2.2 x21_1 p233 q233
                              obtain rfl : (⟨go6, 0, none⟩ : Addr) = ad233 := (by injection e233)
                              (first | simp only [add_plain] at hx233_0 | simp only [add_at] at hx233_0 | simp only [Addr.add, Nat.zero_add] at hx233_0 | skip)
                              have hn233_0 : (⟨go6, 0, none⟩ : Addr).block ≠ gb231 := Kd.own_blk (Kd.R_ne HO_3.out BK231.out (by decide))
                              have hn233_1 : (⟨go6, 0, none⟩ : Addr).block ≠ gb231 := Kd.own_blk (Kd.R_ne HO_3.out BK231.out (by decide))
                              have hn233_2 : (⟨go6, 0, none⟩ : Addr).block ≠ gb231 := Kd.own_blk (Kd.R_ne HO_3.out BK231.out (by decide))
                              have hn233_3 : (⟨go6, 0, none⟩ : Addr).block ≠ gb231 := Kd.own_blk (Kd.R_ne HO_3.out BK231.out (by decide))
                              replace hx233_0 := (cell_far (p := ⟨gb231, 0, none⟩) (by first | (rw [add_block]; exact hn233_0) | (show (Addr.add _ _).block ≠ _; rw [add_block]; exact hn233_0) | exact hn233_0) (.int .i64 ((rd_T86 l0 x21_1).f0))).trans hx233_0
                              replace hx233_0 := (cell_far (p := ⟨gb231, 1, none⟩) (by first | (rw [add_block]; exact hn233_1) | (show (Addr.add _ _).block ≠ _; rw [add_block]; exact hn233_1) | exact hn233_1) (.int .i64 ((rd_T86 l0 x21_1).f1))).trans hx233_0
                              replace hx233_0 := (cell_far (p := ⟨gb231, 2, none⟩) (by first | (rw [add_block]; exact hn233_2) | (show (Addr.add _ _).block ≠ _; rw [add_block]; exact hn233_2) | exact hn233_2) (.bool (true))).trans hx233_0
                              replace hx233_0 := (cell_far (p := ⟨gb231, 3, none⟩) (by first | (rw [add_block]; exact hn233_3) | (show (Addr.add _ _).block ≠ _; rw [add_block]; exact hn233_3) | exact hn233_3) (.int .i64 ((rd_T86 l0 x21_1).f3))).trans hx233_0
                              clear hn233_0
                              clear hn233_1
                              clear hn233_2
                              clear hn233_3
                              replace p233 := eq_true p233
                              replace q233 := eq_true q233
                              have hcz28_0 : w17.cell? ⟨gb231, 0, none⟩ = some (.int .i64 0) := (blk_cell BK231.out 0).trans rfl
                              have hcz28_1 : w17.cell? ⟨gb231, 1, none⟩ = some (.int .i64 0) := (blk_cell BK231.out 1).trans rfl
                              have hcz28_2 : w17.cell? ⟨gb231, 2, none⟩ = some (.bool false) := (blk_cell BK231.out 2).trans rfl
                              have hcz28_3 : w17.cell? ⟨gb231, 3, none⟩ = some (.int .i64 0) := (blk_cell BK231.out 3).trans rfl
                              have hfz28_0 := blk_frozen BK231.out 0
                              have hfz28_1 := blk_frozen BK231.out 1
                              have hfz28_2 := blk_frozen BK231.out 2
                              have hfz28_3 := blk_frozen BK231.out 3
                              go_wp2_with (first | (go_at_call 57; (with_reducible refine (impl_isValue.calls ((rd_T86 l0 x21_1).f3) true _ A22.out).mono ?_); rintro e w' ⟨rfl, ⟨nd, rfl⟩⟩))
                              go_meet
                              case rel => (try rw [← Nbq24.out]); exact ⟨_, (false), (by first | rfl | (simp; done) | (simp [*]; done)), H', ⟨by have := HK1.out; first | omega | exact Nat.le_refl _⟩, ⟨by (try rw [← Nbq24.out]); (try simp only [hl3_1]); (with_reducible repeat (first | apply Kd.R_alloc | apply Kd.R_drewN | apply Kd.R_drew)); exact Kd.R_mono (Kd.R_far (p := ⟨gb231, 3, none⟩) (Kd.R_far (p := ⟨gb231, 2, none⟩) (Kd.R_far (p := ⟨gb231, 1, none⟩) (Kd.R_far (p := ⟨gb231, 0, none⟩) (Kd.R_types HO_3.out BK231.out (by decide)) (fun _ hk => hk.2) (.int .i64 ((rd_T86 l0 x21_1).f0))) (fun _ hk => hk.2) (.int .i64 ((rd_T86 l0 x21_1).f1))) (fun _ hk => hk.2) (.bool (true))) (fun _ hk => hk.2) (.int .i64 ((rd_T86 l0 x21_1).f3))) (fun _ hk => trivial)⟩, ⟨by (try rw [← Nbq24.out]); (try simp only [hl3_1]); (with_reducible repeat (first | refine blk_drewN ?_ _ | refine blk_drew ?_ | refine blk_alloc ?_ _)); refine blk_put (cs := #[.int .i64 ((rd_T86 l0 x21_1).f0), .int .i64 ((rd_T86 l0 x21_1).f1), .bool (true), .int .i64 0]) ?_ 3 _ rfl; (with_reducible repeat (first | refine blk_drewN ?_ _ | refine blk_drew ?_ | refine blk_alloc ?_ _)); refine blk_put (cs := #[.int .i64 ((rd_T86 l0 x21_1).f0), .int .i64 ((rd_T86 l0 x21_1).f1), .bool false, .int .i64 0]) ?_ 2 _ rfl; (with_reducible repeat (first | refine blk_drewN ?_ _ | refine blk_drew ?_ | refine blk_alloc ?_ _)); refine blk_put (cs := #[.int .i64 ((rd_T86 l0 x21_1).f0), .int .i64 0, .bool false, .int .i64 0]) ?_ 1 _ rfl; (with_reducible repeat (first | refine blk_drewN ?_ _ | refine blk_drew ?_ | refine blk_alloc ?_ _)); refine blk_put (cs := #[.int .i64 0, .int .i64 0, .bool false, .int .i64 0]) ?_ 0 _ rfl; (with_reducible repeat (first | refine blk_drewN ?_ _ | refine blk_drew ?_ | refine blk_alloc ?_ _)); exact BK231.out⟩, ⟨by repeat (first | (with_reducible first | exact HB.out | apply below_alloc | apply pw_below_drewN | apply below_drew1 | refine below_set ?_ GE231.out) | exact HB.out)⟩⟩
                          · replace c25 := Bool.eq_false_iff.mpr c25
                            subst c25
                            have H1 : (if ((rd_T86 l0 x21_1).f3) = 0 then (if x21_1 > 0 then (if ((rd_T86 l0 x21_1).f0) = 0 then (impl_GoodTrie.j1 k1 l0 x3_1 x4_1 x21_1 l0 (l0.length : Int) x21_1 (((rd_T86 l0 x21_1).f1) == 0) ((rd_T86 l0 x21_1).f0) ((rd_T86 l0 x21_1).f1) false ((rd_T86 l0 x21_1).f3)) else (impl_GoodTrie.j1 k1 l0 x3_1 x4_1 x21_1 l0 (l0.length : Int) x21_1 false ((rd_T86 l0 x21_1).f0) ((rd_T86 l0 x21_1).f1) false ((rd_T86 l0 x21_1).f3))) else (impl_GoodTrie.j1 k1 l0 x3_1 x4_1 x21_1 l0 (l0.length : Int) x21_1 false ((rd_T86 l0 x21_1).f0) ((rd_T86 l0 x21_1).f1) false ((rd_T86 l0 x21_1).f3))) else (impl_GoodTrie.j1 k1 l0 x3_1 x4_1 x21_1 l0 (l0.length : Int) x21_1 true ((rd_T86 l0 x21_1).f0) ((rd_T86 l0 x21_1).f1) false ((rd_T86 l0 x21_1).f3))) = some r := by rw [if_neg (show ¬ (false = true) by decide)] at H; exact H
                            clear H
                            have H := H1
                            clear H1
                            by_cases c29 : ((rd_T86 l0 x21_1).f3) = 0
                            · rw [if_pos c29] at H
                              have c29b0 : (((rd_T86 l0 x21_1).f3) == 0) = true := beq_iff_eq.mpr c29
                              have c29b1 : (((rd_T86 l0 x21_1).f3) != 0) = false := bne_eq_false_iff_eq.mpr c29
                              clear c29
                              by_cases c30 : x21_1 > 0
                              · rw [if_pos c30] at H
                                have c30b0 : decide (0 < x21_1) = true := decide_eq_true c30
                                clear c30
                                by_cases c31 : ((rd_T86 l0 x21_1).f0) = 0
                                · rw [if_pos c31] at H
                                  have c31b0 : (((rd_T86 l0 x21_1).f0) == 0) = true := beq_iff_eq.mpr c31
                                  have c31b1 : (((rd_T86 l0 x21_1).f0) != 0) = false := bne_eq_false_iff_eq.mpr c31
                                  clear c31
                                  have H' := Aside0.mk H
                                  clear H
                                  have p232 : 0 ≤ (x21_1 : Int) := of_decide_eq_true (by first | (with_reducible assumption) | assumption)
                                  have q232 : x21_1 < (x3_1.length : Int) := of_decide_eq_true (by first | (with_reducible assumption) | assumption)
                                  obtain ⟨ad232, e232, hx232_0⟩ := Kd.at_int (Kd.R_reads' HO_3.out).2.2 x21_1 p232 q232
                                  obtain rfl : (⟨go6, 0, none⟩ : Addr) = ad232 := (by injection e232)
                                  (first | simp only [add_plain] at hx232_0 | simp only [add_at] at hx232_0 | simp only [Addr.add, Nat.zero_add] at hx232_0 | skip)
                                  have hn232_0 : (⟨go6, 0, none⟩ : Addr).block ≠ gb231 := Kd.own_blk (Kd.R_ne HO_3.out BK231.out (by decide))
                                  have hn232_1 : (⟨go6, 0, none⟩ : Addr).block ≠ gb231 := Kd.own_blk (Kd.R_ne HO_3.out BK231.out (by decide))
                                  have hn232_2 : (⟨go6, 0, none⟩ : Addr).block ≠ gb231 := Kd.own_blk (Kd.R_ne HO_3.out BK231.out (by decide))
                                  have hn232_3 : (⟨go6, 0, none⟩ : Addr).block ≠ gb231 := Kd.own_blk (Kd.R_ne HO_3.out BK231.out (by decide))
                                  replace hx232_0 := (cell_far (p := ⟨gb231, 0, none⟩) (by first | (rw [add_block]; exact hn232_0) | (show (Addr.add _ _).block ≠ _; rw [add_block]; exact hn232_0) | exact hn232_0) (.int .i64 ((rd_T86 l0 x21_1).f0))).trans hx232_0
                                  replace hx232_0 := (cell_far (p := ⟨gb231, 1, none⟩) (by first | (rw [add_block]; exact hn232_1) | (show (Addr.add _ _).block ≠ _; rw [add_block]; exact hn232_1) | exact hn232_1) (.int .i64 ((rd_T86 l0 x21_1).f1))).trans hx232_0
                                  replace hx232_0 := (cell_far (p := ⟨gb231, 2, none⟩) (by first | (rw [add_block]; exact hn232_2) | (show (Addr.add _ _).block ≠ _; rw [add_block]; exact hn232_2) | exact hn232_2) (.bool (false))).trans hx232_0
                                  replace hx232_0 := (cell_far (p := ⟨gb231, 3, none⟩) (by first | (rw [add_block]; exact hn232_3) | (show (Addr.add _ _).block ≠ _; rw [add_block]; exact hn232_3) | exact hn232_3) (.int .i64 ((rd_T86 l0 x21_1).f3))).trans hx232_0
                                  clear hn232_0
                                  clear hn232_1
                                  clear hn232_2
                                  clear hn232_3
                                  replace p232 := eq_true p232
                                  replace q232 := eq_true q232
                                  have p233 : 0 ≤ (x21_1 : Int) := of_decide_eq_true (by first | (with_reducible assumption) | assumption)
                                  have q233 : x21_1 < (x3_1.length : Int) := of_decide_eq_true (by first | (with_reducible assumption) | assumption)
                                  obtain ⟨ad233, e233, hx233_0⟩ := Kd.at_int (Kd.R_reads' HO_3.out).2.2 x21_1 p233 q233
                                  obtain rfl : (⟨go6, 0, none⟩ : Addr) = ad233 := (by injection e233)
                                  (first | simp only [add_plain] at hx233_0 | simp only [add_at] at hx233_0 | simp only [Addr.add, Nat.zero_add] at hx233_0 | skip)
                                  have hn233_0 : (⟨go6, 0, none⟩ : Addr).block ≠ gb231 := Kd.own_blk (Kd.R_ne HO_3.out BK231.out (by decide))
                                  have hn233_1 : (⟨go6, 0, none⟩ : Addr).block ≠ gb231 := Kd.own_blk (Kd.R_ne HO_3.out BK231.out (by decide))
                                  have hn233_2 : (⟨go6, 0, none⟩ : Addr).block ≠ gb231 := Kd.own_blk (Kd.R_ne HO_3.out BK231.out (by decide))
                                  have hn233_3 : (⟨go6, 0, none⟩ : Addr).block ≠ gb231 := Kd.own_blk (Kd.R_ne HO_3.out BK231.out (by decide))
                                  replace hx233_0 := (cell_far (p := ⟨gb231, 0, none⟩) (by first | (rw [add_block]; exact hn233_0) | (show (Addr.add _ _).block ≠ _; rw [add_block]; exact hn233_0) | exact hn233_0) (.int .i64 ((rd_T86 l0 x21_1).f0))).trans hx233_0
                                  replace hx233_0 := (cell_far (p := ⟨gb231, 1, none⟩) (by first | (rw [add_block]; exact hn233_1) | (show (Addr.add _ _).block ≠ _; rw [add_block]; exact hn233_1) | exact hn233_1) (.int .i64 ((rd_T86 l0 x21_1).f1))).trans hx233_0
                                  replace hx233_0 := (cell_far (p := ⟨gb231, 2, none⟩) (by first | (rw [add_block]; exact hn233_2) | (show (Addr.add _ _).block ≠ _; rw [add_block]; exact hn233_2) | exact hn233_2) (.bool (false))).trans hx233_0
                                  replace hx233_0 := (cell_far (p := ⟨gb231, 3, none⟩) (by first | (rw [add_block]; exact hn233_3) | (show (Addr.add _ _).block ≠ _; rw [add_block]; exact hn233_3) | exact hn233_3) (.int .i64 ((rd_T86 l0 x21_1).f3))).trans hx233_0
                                  clear hn233_0
                                  clear hn233_1
                                  clear hn233_2
                                  clear hn233_3
                                  replace p233 := eq_true p233
                                  replace q233 := eq_true q233
                                  have hcz32_0 : w17.cell? ⟨gb231, 0, none⟩ = some (.int .i64 0) := (blk_cell BK231.out 0).trans rfl
                                  have hcz32_1 : w17.cell? ⟨gb231, 1, none⟩ = some (.int .i64 0) := (blk_cell BK231.out 1).trans rfl
                                  have hcz32_2 : w17.cell? ⟨gb231, 2, none⟩ = some (.bool false) := (blk_cell BK231.out 2).trans rfl
                                  have hcz32_3 : w17.cell? ⟨gb231, 3, none⟩ = some (.int .i64 0) := (blk_cell BK231.out 3).trans rfl
                                  have hfz32_0 := blk_frozen BK231.out 0
                                  have hfz32_1 := blk_frozen BK231.out 1
                                  have hfz32_2 := blk_frozen BK231.out 2
                                  have hfz32_3 := blk_frozen BK231.out 3
                                  go_wp2_with (first | (go_at_call 57; (with_reducible refine (impl_isValue.calls ((rd_T86 l0 x21_1).f3) true _ A22.out).mono ?_); rintro e w' ⟨rfl, ⟨nd, rfl⟩⟩))
                                  go_meet
                                  case rel => (try rw [← Nbq24.out]); exact ⟨_, ((((rd_T86 l0 x21_1).f1) == 0)), (by first | rfl | (simp; done) | (simp [*]; done)), H', ⟨by have := HK1.out; first | omega | exact Nat.le_refl _⟩, ⟨by (try rw [← Nbq24.out]); (try simp only [hl3_1]); (with_reducible repeat (first | apply Kd.R_alloc | apply Kd.R_drewN | apply Kd.R_drew)); exact Kd.R_mono (Kd.R_far (p := ⟨gb231, 3, none⟩) (Kd.R_far (p := ⟨gb231, 2, none⟩) (Kd.R_far (p := ⟨gb231, 1, none⟩) (Kd.R_far (p := ⟨gb231, 0, none⟩) (Kd.R_types HO_3.out BK231.out (by decide)) (fun _ hk => hk.2) (.int .i64 ((rd_T86 l0 x21_1).f0))) (fun _ hk => hk.2) (.int .i64 ((rd_T86 l0 x21_1).f1))) (fun _ hk => hk.2) (.bool (false))) (fun _ hk => hk.2) (.int .i64 ((rd_T86 l0 x21_1).f3))) (fun _ hk => trivial)⟩, ⟨by (try rw [← Nbq24.out]); (try simp only [hl3_1]); (with_reducible repeat (first | refine blk_drewN ?_ _ | refine blk_drew ?_ | refine blk_alloc ?_ _)); refine blk_put (cs := #[.int .i64 ((rd_T86 l0 x21_1).f0), .int .i64 ((rd_T86 l0 x21_1).f1), .bool (false), .int .i64 0]) ?_ 3 _ rfl; (with_reducible repeat (first | refine blk_drewN ?_ _ | refine blk_drew ?_ | refine blk_alloc ?_ _)); refine blk_put (cs := #[.int .i64 ((rd_T86 l0 x21_1).f0), .int .i64 ((rd_T86 l0 x21_1).f1), .bool false, .int .i64 0]) ?_ 2 _ rfl; (with_reducible repeat (first | refine blk_drewN ?_ _ | refine blk_drew ?_ | refine blk_alloc ?_ _)); refine blk_put (cs := #[.int .i64 ((rd_T86 l0 x21_1).f0), .int .i64 0, .bool false, .int .i64 0]) ?_ 1 _ rfl; (with_reducible repeat (first | refine blk_drewN ?_ _ | refine blk_drew ?_ | refine blk_alloc ?_ _)); refine blk_put (cs := #[.int .i64 0, .int .i64 0, .bool false, .int .i64 0]) ?_ 0 _ rfl; (with_reducible repeat (first | refine blk_drewN ?_ _ | refine blk_drew ?_ | refine blk_alloc ?_ _)); exact BK231.out⟩, ⟨by repeat (first | (with_reducible first | exact HB.out | apply below_alloc | apply pw_below_drewN | apply below_drew1 | refine below_set ?_ GE231.out) | exact HB.out)⟩⟩
                                · rw [if_neg c31] at H
                                  have c31b0 : (((rd_T86 l0 x21_1).f0) == 0) = false := beq_eq_false_iff_ne.mpr c31
                                  have c31b1 : (((rd_T86 l0 x21_1).f0) != 0) = true := bne_iff_ne.mpr c31
                                  have H' := Aside0.mk H
                                  clear H
                                  have p232 : 0 ≤ (x21_1 : Int) := of_decide_eq_true (by first | (with_reducible assumption) | assumption)
                                  have q232 : x21_1 < (x3_1.length : Int) := of_decide_eq_true (by first | (with_reducible assumption) | assumption)
                                  obtain ⟨ad232, e232, hx232_0⟩ := Kd.at_int (Kd.R_reads' HO_3.out).2.2 x21_1 p232 q232
                                  obtain rfl : (⟨go6, 0, none⟩ : Addr) = ad232 := (by injection e232)
                                  (first | simp only [add_plain] at hx232_0 | simp only [add_at] at hx232_0 | simp only [Addr.add, Nat.zero_add] at hx232_0 | skip)
                                  have hn232_0 : (⟨go6, 0, none⟩ : Addr).block ≠ gb231 := Kd.own_blk (Kd.R_ne HO_3.out BK231.out (by decide))
                                  have hn232_1 : (⟨go6, 0, none⟩ : Addr).block ≠ gb231 := Kd.own_blk (Kd.R_ne HO_3.out BK231.out (by decide))
                                  have hn232_2 : (⟨go6, 0, none⟩ : Addr).block ≠ gb231 := Kd.own_blk (Kd.R_ne HO_3.out BK231.out (by decide))
                                  have hn232_3 : (⟨go6, 0, none⟩ : Addr).block ≠ gb231 := Kd.own_blk (Kd.R_ne HO_3.out BK231.out (by decide))
                                  replace hx232_0 := (cell_far (p := ⟨gb231, 0, none⟩) (by first | (rw [add_block]; exact hn232_0) | (show (Addr.add _ _).block ≠ _; rw [add_block]; exact hn232_0) | exact hn232_0) (.int .i64 ((rd_T86 l0 x21_1).f0))).trans hx232_0
                                  replace hx232_0 := (cell_far (p := ⟨gb231, 1, none⟩) (by first | (rw [add_block]; exact hn232_1) | (show (Addr.add _ _).block ≠ _; rw [add_block]; exact hn232_1) | exact hn232_1) (.int .i64 ((rd_T86 l0 x21_1).f1))).trans hx232_0
                                  replace hx232_0 := (cell_far (p := ⟨gb231, 2, none⟩) (by first | (rw [add_block]; exact hn232_2) | (show (Addr.add _ _).block ≠ _; rw [add_block]; exact hn232_2) | exact hn232_2) (.bool (false))).trans hx232_0
                                  replace hx232_0 := (cell_far (p := ⟨gb231, 3, none⟩) (by first | (rw [add_block]; exact hn232_3) | (show (Addr.add _ _).block ≠ _; rw [add_block]; exact hn232_3) | exact hn232_3) (.int .i64 ((rd_T86 l0 x21_1).f3))).trans hx232_0
                                  clear hn232_0
                                  clear hn232_1
                                  clear hn232_2
                                  clear hn232_3
                                  replace p232 := eq_true p232
                                  replace q232 := eq_true q232
                                  have p233 : 0 ≤ (x21_1 : Int) := of_decide_eq_true (by first | (with_reducible assumption) | assumption)
                                  have q233 : x21_1 < (x3_1.length : Int) := of_decide_eq_true (by first | (with_reducible assumption) | assumption)
                                  obtain ⟨ad233, e233, hx233_0⟩ := Kd.at_int (Kd.R_reads' HO_3.out).2.2 x21_1 p233 q233
                                  obtain rfl : (⟨go6, 0, none⟩ : Addr) = ad233 := (by injection e233)
                                  (first | simp only [add_plain] at hx233_0 | simp only [add_at] at hx233_0 | simp only [Addr.add, Nat.zero_add] at hx233_0 | skip)
                                  have hn233_0 : (⟨go6, 0, none⟩ : Addr).block ≠ gb231 := Kd.own_blk (Kd.R_ne HO_3.out BK231.out (by decide))
                                  have hn233_1 : (⟨go6, 0, none⟩ : Addr).block ≠ gb231 := Kd.own_blk (Kd.R_ne HO_3.out BK231.out (by decide))
                                  have hn233_2 : (⟨go6, 0, none⟩ : Addr).block ≠ gb231 := Kd.own_blk (Kd.R_ne HO_3.out BK231.out (by decide))
                                  have hn233_3 : (⟨go6, 0, none⟩ : Addr).block ≠ gb231 := Kd.own_blk (Kd.R_ne HO_3.out BK231.out (by decide))
                                  replace hx233_0 := (cell_far (p := ⟨gb231, 0, none⟩) (by first | (rw [add_block]; exact hn233_0) | (show (Addr.add _ _).block ≠ _; rw [add_block]; exact hn233_0) | exact hn233_0) (.int .i64 ((rd_T86 l0 x21_1).f0))).trans hx233_0
                                  replace hx233_0 := (cell_far (p := ⟨gb231, 1, none⟩) (by first | (rw [add_block]; exact hn233_1) | (show (Addr.add _ _).block ≠ _; rw [add_block]; exact hn233_1) | exact hn233_1) (.int .i64 ((rd_T86 l0 x21_1).f1))).trans hx233_0
                                  replace hx233_0 := (cell_far (p := ⟨gb231, 2, none⟩) (by first | (rw [add_block]; exact hn233_2) | (show (Addr.add _ _).block ≠ _; rw [add_block]; exact hn233_2) | exact hn233_2) (.bool (false))).trans hx233_0
                                  replace hx233_0 := (cell_far (p := ⟨gb231, 3, none⟩) (by first | (rw [add_block]; exact hn233_3) | (show (Addr.add _ _).block ≠ _; rw [add_block]; exact hn233_3) | exact hn233_3) (.int .i64 ((rd_T86 l0 x21_1).f3))).trans hx233_0
                                  clear hn233_0
                                  clear hn233_1
                                  clear hn233_2
                                  clear hn233_3
                                  replace p233 := eq_true p233
                                  replace q233 := eq_true q233
                                  have hcz33_0 : w17.cell? ⟨gb231, 0, none⟩ = some (.int .i64 0) := (blk_cell BK231.out 0).trans rfl
                                  have hcz33_1 : w17.cell? ⟨gb231, 1, none⟩ = some (.int .i64 0) := (blk_cell BK231.out 1).trans rfl
                                  have hcz33_2 : w17.cell? ⟨gb231, 2, none⟩ = some (.bool false) := (blk_cell BK231.out 2).trans rfl
                                  have hcz33_3 : w17.cell? ⟨gb231, 3, none⟩ = some (.int .i64 0) := (blk_cell BK231.out 3).trans rfl
                                  have hfz33_0 := blk_frozen BK231.out 0
                                  have hfz33_1 := blk_frozen BK231.out 1
                                  have hfz33_2 := blk_frozen BK231.out 2
                                  have hfz33_3 := blk_frozen BK231.out 3
                                  go_wp2_with (first | (go_at_call 57; (with_reducible refine (impl_isValue.calls ((rd_T86 l0 x21_1).f3) true _ A22.out).mono ?_); rintro e w' ⟨rfl, ⟨nd, rfl⟩⟩))
                                  go_meet
                                  case rel => (try rw [← Nbq24.out]); exact ⟨_, (false), (by first | rfl | (simp; done) | (simp [*]; done)), H', ⟨by have := HK1.out; first | omega | exact Nat.le_refl _⟩, ⟨by (try rw [← Nbq24.out]); (try simp only [hl3_1]); (with_reducible repeat (first | apply Kd.R_alloc | apply Kd.R_drewN | apply Kd.R_drew)); exact Kd.R_mono (Kd.R_far (p := ⟨gb231, 3, none⟩) (Kd.R_far (p := ⟨gb231, 2, none⟩) (Kd.R_far (p := ⟨gb231, 1, none⟩) (Kd.R_far (p := ⟨gb231, 0, none⟩) (Kd.R_types HO_3.out BK231.out (by decide)) (fun _ hk => hk.2) (.int .i64 ((rd_T86 l0 x21_1).f0))) (fun _ hk => hk.2) (.int .i64 ((rd_T86 l0 x21_1).f1))) (fun _ hk => hk.2) (.bool (false))) (fun _ hk => hk.2) (.int .i64 ((rd_T86 l0 x21_1).f3))) (fun _ hk => trivial)⟩, ⟨by (try rw [← Nbq24.out]); (try simp only [hl3_1]); (with_reducible repeat (first | refine blk_drewN ?_ _ | refine blk_drew ?_ | refine blk_alloc ?_ _)); refine blk_put (cs := #[.int .i64 ((rd_T86 l0 x21_1).f0), .int .i64 ((rd_T86 l0 x21_1).f1), .bool (false), .int .i64 0]) ?_ 3 _ rfl; (with_reducible repeat (first | refine blk_drewN ?_ _ | refine blk_drew ?_ | refine blk_alloc ?_ _)); refine blk_put (cs := #[.int .i64 ((rd_T86 l0 x21_1).f0), .int .i64 ((rd_T86 l0 x21_1).f1), .bool false, .int .i64 0]) ?_ 2 _ rfl; (with_reducible repeat (first | refine blk_drewN ?_ _ | refine blk_drew ?_ | refine blk_alloc ?_ _)); refine blk_put (cs := #[.int .i64 ((rd_T86 l0 x21_1).f0), .int .i64 0, .bool false, .int .i64 0]) ?_ 1 _ rfl; (with_reducible repeat (first | refine blk_drewN ?_ _ | refine blk_drew ?_ | refine blk_alloc ?_ _)); refine blk_put (cs := #[.int .i64 0, .int .i64 0, .bool false, .int .i64 0]) ?_ 0 _ rfl; (with_reducible repeat (first | refine blk_drewN ?_ _ | refine blk_drew ?_ | refine blk_alloc ?_ _)); exact BK231.out⟩, ⟨by repeat (first | (with_reducible first | exact HB.out | apply below_alloc | apply pw_below_drewN | apply below_drew1 | refine below_set ?_ GE231.out) | exact HB.out)⟩⟩
                              · rw [if_neg c30] at H
                                have c30b0 : decide (0 < x21_1) = false := decide_eq_false c30
                                clear c30
                                have H' := Aside0.mk H
                                clear H
                                have p232 : 0 ≤ (x21_1 : Int) := of_decide_eq_true (by first | (with_reducible assumption) | assumption)
                                have q232 : x21_1 < (x3_1.length : Int) := of_decide_eq_true (by first | (with_reducible assumption) | assumption)
                                obtain ⟨ad232, e232, hx232_0⟩ := Kd.at_int (Kd.R_reads' HO_3.out).2.2 x21_1 p232 q232
                                obtain rfl : (⟨go6, 0, none⟩ : Addr) = ad232 := (by injection e232)
                                (first | simp only [add_plain] at hx232_0 | simp only [add_at] at hx232_0 | simp only [Addr.add, Nat.zero_add] at hx232_0 | skip)
                                have hn232_0 : (⟨go6, 0, none⟩ : Addr).block ≠ gb231 := Kd.own_blk (Kd.R_ne HO_3.out BK231.out (by decide))
                                have hn232_1 : (⟨go6, 0, none⟩ : Addr).block ≠ gb231 := Kd.own_blk (Kd.R_ne HO_3.out BK231.out (by decide))
                                have hn232_2 : (⟨go6, 0, none⟩ : Addr).block ≠ gb231 := Kd.own_blk (Kd.R_ne HO_3.out BK231.out (by decide))
                                have hn232_3 : (⟨go6, 0, none⟩ : Addr).block ≠ gb231 := Kd.own_blk (Kd.R_ne HO_3.out BK231.out (by decide))
                                replace hx232_0 := (cell_far (p := ⟨gb231, 0, none⟩) (by first | (rw [add_block]; exact hn232_0) | (show (Addr.add _ _).block ≠ _; rw [add_block]; exact hn232_0) | exact hn232_0) (.int .i64 ((rd_T86 l0 x21_1).f0))).trans hx232_0
                                replace hx232_0 := (cell_far (p := ⟨gb231, 1, none⟩) (by first | (rw [add_block]; exact hn232_1) | (show (Addr.add _ _).block ≠ _; rw [add_block]; exact hn232_1) | exact hn232_1) (.int .i64 ((rd_T86 l0 x21_1).f1))).trans hx232_0
                                replace hx232_0 := (cell_far (p := ⟨gb231, 2, none⟩) (by first | (rw [add_block]; exact hn232_2) | (show (Addr.add _ _).block ≠ _; rw [add_block]; exact hn232_2) | exact hn232_2) (.bool (false))).trans hx232_0
                                replace hx232_0 := (cell_far (p := ⟨gb231, 3, none⟩) (by first | (rw [add_block]; exact hn232_3) | (show (Addr.add _ _).block ≠ _; rw [add_block]; exact hn232_3) | exact hn232_3) (.int .i64 ((rd_T86 l0 x21_1).f3))).trans hx232_0
                                clear hn232_0
                                clear hn232_1
                                clear hn232_2
                                clear hn232_3
                                replace p232 := eq_true p232
                                replace q232 := eq_true q232
                                have p233 : 0 ≤ (x21_1 : Int) := of_decide_eq_true (by first | (with_reducible assumption) | assumption)
                                have q233 : x21_1 < (x3_1.length : Int) := of_decide_eq_true (by first | (with_reducible assumption) | assumption)
                                obtain ⟨ad233, e233, hx233_0⟩ := Kd.at_int (Kd.R_reads' HO_3.out).2.2 x21_1 p233 q233
                                obtain rfl : (⟨go6, 0, none⟩ : Addr) = ad233 := (by injection e233)
                                (first | simp only [add_plain] at hx233_0 | simp only [add_at] at hx233_0 | simp only [Addr.add, Nat.zero_add] at hx233_0 | skip)
                                have hn233_0 : (⟨go6, 0, none⟩ : Addr).block ≠ gb231 := Kd.own_blk (Kd.R_ne HO_3.out BK231.out (by decide))
                                have hn233_1 : (⟨go6, 0, none⟩ : Addr).block ≠ gb231 := Kd.own_blk (Kd.R_ne HO_3.out BK231.out (by decide))
                                have hn233_2 : (⟨go6, 0, none⟩ : Addr).block ≠ gb231 := Kd.own_blk (Kd.R_ne HO_3.out BK231.out (by decide))
                                have hn233_3 : (⟨go6, 0, none⟩ : Addr).block ≠ gb231 := Kd.own_blk (Kd.R_ne HO_3.out BK231.out (by decide))
                                replace hx233_0 := (cell_far (p := ⟨gb231, 0, none⟩) (by first | (rw [add_block]; exact hn233_0) | (show (Addr.add _ _).block ≠ _; rw [add_block]; exact hn233_0) | exact hn233_0) (.int .i64 ((rd_T86 l0 x21_1).f0))).trans hx233_0
                                replace hx233_0 := (cell_far (p := ⟨gb231, 1, none⟩) (by first | (rw [add_block]; exact hn233_1) | (show (Addr.add _ _).block ≠ _; rw [add_block]; exact hn233_1) | exact hn233_1) (.int .i64 ((rd_T86 l0 x21_1).f1))).trans hx233_0
                                replace hx233_0 := (cell_far (p := ⟨gb231, 2, none⟩) (by first | (rw [add_block]; exact hn233_2) | (show (Addr.add _ _).block ≠ _; rw [add_block]; exact hn233_2) | exact hn233_2) (.bool (false))).trans hx233_0
                                replace hx233_0 := (cell_far (p := ⟨gb231, 3, none⟩) (by first | (rw [add_block]; exact hn233_3) | (show (Addr.add _ _).block ≠ _; rw [add_block]; exact hn233_3) | exact hn233_3) (.int .i64 ((rd_T86 l0 x21_1).f3))).trans hx233_0
                                clear hn233_0
                                clear hn233_1
                                clear hn233_2
                                clear hn233_3
                                replace p233 := eq_true p233
                                replace q233 := eq_true q233
                                have hcz34_0 : w17.cell? ⟨gb231, 0, none⟩ = some (.int .i64 0) := (blk_cell BK231.out 0).trans rfl
                                have hcz34_1 : w17.cell? ⟨gb231, 1, none⟩ = some (.int .i64 0) := (blk_cell BK231.out 1).trans rfl
                                have hcz34_2 : w17.cell? ⟨gb231, 2, none⟩ = some (.bool false) := (blk_cell BK231.out 2).trans rfl
                                have hcz34_3 : w17.cell? ⟨gb231, 3, none⟩ = some (.int .i64 0) := (blk_cell BK231.out 3).trans rfl
                                have hfz34_0 := blk_frozen BK231.out 0
                                have hfz34_1 := blk_frozen BK231.out 1
                                have hfz34_2 := blk_frozen BK231.out 2
                                have hfz34_3 := blk_frozen BK231.out 3
                                go_wp2_with (first | (go_at_call 57; (with_reducible refine (impl_isValue.calls ((rd_T86 l0 x21_1).f3) true _ A22.out).mono ?_); rintro e w' ⟨rfl, ⟨nd, rfl⟩⟩))
                                go_meet
                                case rel => (try rw [← Nbq24.out]); exact ⟨_, (false), (by first | rfl | (simp; done) | (simp [*]; done)), H', ⟨by have := HK1.out; first | omega | exact Nat.le_refl _⟩, ⟨by (try rw [← Nbq24.out]); (try simp only [hl3_1]); (with_reducible repeat (first | apply Kd.R_alloc | apply Kd.R_drewN | apply Kd.R_drew)); exact Kd.R_mono (Kd.R_far (p := ⟨gb231, 3, none⟩) (Kd.R_far (p := ⟨gb231, 2, none⟩) (Kd.R_far (p := ⟨gb231, 1, none⟩) (Kd.R_far (p := ⟨gb231, 0, none⟩) (Kd.R_types HO_3.out BK231.out (by decide)) (fun _ hk => hk.2) (.int .i64 ((rd_T86 l0 x21_1).f0))) (fun _ hk => hk.2) (.int .i64 ((rd_T86 l0 x21_1).f1))) (fun _ hk => hk.2) (.bool (false))) (fun _ hk => hk.2) (.int .i64 ((rd_T86 l0 x21_1).f3))) (fun _ hk => trivial)⟩, ⟨by (try rw [← Nbq24.out]); (try simp only [hl3_1]); (with_reducible repeat (first | refine blk_drewN ?_ _ | refine blk_drew ?_ | refine blk_alloc ?_ _)); refine blk_put (cs := #[.int .i64 ((rd_T86 l0 x21_1).f0), .int .i64 ((rd_T86 l0 x21_1).f1), .bool (false), .int .i64 0]) ?_ 3 _ rfl; (with_reducible repeat (first | refine blk_drewN ?_ _ | refine blk_drew ?_ | refine blk_alloc ?_ _)); refine blk_put (cs := #[.int .i64 ((rd_T86 l0 x21_1).f0), .int .i64 ((rd_T86 l0 x21_1).f1), .bool false, .int .i64 0]) ?_ 2 _ rfl; (with_reducible repeat (first | refine blk_drewN ?_ _ | refine blk_drew ?_ | refine blk_alloc ?_ _)); refine blk_put (cs := #[.int .i64 ((rd_T86 l0 x21_1).f0), .int .i64 0, .bool false, .int .i64 0]) ?_ 1 _ rfl; (with_reducible repeat (first | refine blk_drewN ?_ _ | refine blk_drew ?_ | refine blk_alloc ?_ _)); refine blk_put (cs := #[.int .i64 0, .int .i64 0, .bool false, .int .i64 0]) ?_ 0 _ rfl; (with_reducible repeat (first | refine blk_drewN ?_ _ | refine blk_drew ?_ | refine blk_alloc ?_ _)); exact BK231.out⟩, ⟨by repeat (first | (with_reducible first | exact HB.out | apply below_alloc | apply pw_below_drewN | apply below_drew1 | refine below_set ?_ GE231.out) | exact HB.out)⟩⟩
                            · rw [if_neg c29] at H
                              have c29b0 : (((rd_T86 l0 x21_1).f3) == 0) = false := beq_eq_false_iff_ne.mpr c29
                              have c29b1 : (((rd_T86 l0 x21_1).f3) != 0) = true := bne_iff_ne.mpr c29
                              have H' := Aside0.mk H
                              clear H
                              have p232 : 0 ≤ (x21_1 : Int) := of_decide_eq_true (by first | (with_reducible assumption) | assumption)
                              have q232 : x21_1 < (x3_1.length : Int) := of_decide_eq_true (by first | (with_reducible assumption) | assumption)
                              obtain ⟨ad232, e232, hx232_0⟩ := Kd.at_int (Kd.R_reads' HO_3.out).2.2 x21_1 p232 q232
                              obtain rfl : (⟨go6, 0, none⟩ : Addr) = ad232 := (by injection e232)
                              (first | simp only [add_plain] at hx232_0 | simp only [add_at] at hx232_0 | simp only [Addr.add, Nat.zero_add] at hx232_0 | skip)
                              have hn232_0 : (⟨go6, 0, none⟩ : Addr).block ≠ gb231 := Kd.own_blk (Kd.R_ne HO_3.out BK231.out (by decide))
                              have hn232_1 : (⟨go6, 0, none⟩ : Addr).block ≠ gb231 := Kd.own_blk (Kd.R_ne HO_3.out BK231.out (by decide))
                              have hn232_2 : (⟨go6, 0, none⟩ : Addr).block ≠ gb231 := Kd.own_blk (Kd.R_ne HO_3.out BK231.out (by decide))
                              have hn232_3 : (⟨go6, 0, none⟩ : Addr).block ≠ gb231 := Kd.own_blk (Kd.R_ne HO_3.out BK231.out (by decide))
                              replace hx232_0 := (cell_far (p := ⟨gb231, 0, none⟩) (by first | (rw [add_block]; exact hn232_0) | (show (Addr.add _ _).block ≠ _; rw [add_block]; exact hn232_0) | exact hn232_0) (.int .i64 ((rd_T86 l0 x21_1).f0))).trans hx232_0
                              replace hx232_0 := (cell_far (p := ⟨gb231, 1, none⟩) (by first | (rw [add_block]; exact hn232_1) | (show (Addr.add _ _).block ≠ _; rw [add_block]; exact hn232_1) | exact hn232_1) (.int .i64 ((rd_T86 l0 x21_1).f1))).trans hx232_0
                              replace hx232_0 := (cell_far (p := ⟨gb231, 2, none⟩) (by first | (rw [add_block]; exact hn232_2) | (show (Addr.add _ _).block ≠ _; rw [add_block]; exact hn232_2) | exact hn232_2) (.bool (false))).trans hx232_0
                              replace hx232_0 := (cell_far (p := ⟨gb231, 3, none⟩) (by first | (rw [add_block]; exact hn232_3) | (show (Addr.add _ _).block ≠ _; rw [add_block]; exact hn232_3) | exact hn232_3) (.int .i64 ((rd_T86 l0 x21_1).f3))).trans hx232_0
                              clear hn232_0
                              clear hn232_1
                              clear hn232_2
                              clear hn232_3
                              replace p232 := eq_true p232
                              replace q232 := eq_true q232
                              have p233 : 0 ≤ (x21_1 : Int) := of_decide_eq_true (by first | (with_reducible assumption) | assumption)
                              have q233 : x21_1 < (x3_1.length : Int) := of_decide_eq_true (by first | (with_reducible assumption) | assumption)
                              obtain ⟨ad233, e233, hx233_0⟩ := Kd.at_int (Kd.R_reads' HO_3.out).2.2 x21_1 p233 q233
                              obtain rfl : (⟨go6, 0, none⟩ : Addr) = ad233 := (by injection e233)
                              (first | simp only [add_plain] at hx233_0 | simp only [add_at] at hx233_0 | simp only [Addr.add, Nat.zero_add] at hx233_0 | skip)
                              have hn233_0 : (⟨go6, 0, none⟩ : Addr).block ≠ gb231 := Kd.own_blk (Kd.R_ne HO_3.out BK231.out (by decide))
                              have hn233_1 : (⟨go6, 0, none⟩ : Addr).block ≠ gb231 := Kd.own_blk (Kd.R_ne HO_3.out BK231.out (by decide))
                              have hn233_2 : (⟨go6, 0, none⟩ : Addr).block ≠ gb231 := Kd.own_blk (Kd.R_ne HO_3.out BK231.out (by decide))
                              have hn233_3 : (⟨go6, 0, none⟩ : Addr).block ≠ gb231 := Kd.own_blk (Kd.R_ne HO_3.out BK231.out (by decide))
                              replace hx233_0 := (cell_far (p := ⟨gb231, 0, none⟩) (by first | (rw [add_block]; exact hn233_0) | (show (Addr.add _ _).block ≠ _; rw [add_block]; exact hn233_0) | exact hn233_0) (.int .i64 ((rd_T86 l0 x21_1).f0))).trans hx233_0
                              replace hx233_0 := (cell_far (p := ⟨gb231, 1, none⟩) (by first | (rw [add_block]; exact hn233_1) | (show (Addr.add _ _).block ≠ _; rw [add_block]; exact hn233_1) | exact hn233_1) (.int .i64 ((rd_T86 l0 x21_1).f1))).trans hx233_0
                              replace hx233_0 := (cell_far (p := ⟨gb231, 2, none⟩) (by first | (rw [add_block]; exact hn233_2) | (show (Addr.add _ _).block ≠ _; rw [add_block]; exact hn233_2) | exact hn233_2) (.bool (false))).trans hx233_0
                              replace hx233_0 := (cell_far (p := ⟨gb231, 3, none⟩) (by first | (rw [add_block]; exact hn233_3) | (show (Addr.add _ _).block ≠ _; rw [add_block]; exact hn233_3) | exact hn233_3) (.int .i64 ((rd_T86 l0 x21_1).f3))).trans hx233_0
                              clear hn233_0
                              clear hn233_1
                              clear hn233_2
                              clear hn233_3
                              replace p233 := eq_true p233
                              replace q233 := eq_true q233
                              have hcz35_0 : w17.cell? ⟨gb231, 0, none⟩ = some (.int .i64 0) := (blk_cell BK231.out 0).trans rfl
                              have hcz35_1 : w17.cell? ⟨gb231, 1, none⟩ = some (.int .i64 0) := (blk_cell BK231.out 1).trans rfl
                              have hcz35_2 : w17.cell? ⟨gb231, 2, none⟩ = some (.bool false) := (blk_cell BK231.out 2).trans rfl
                              have hcz35_3 : w17.cell? ⟨gb231, 3, none⟩ = some (.int .i64 0) := (blk_cell BK231.out 3).trans rfl
                              have hfz35_0 := blk_frozen BK231.out 0
                              have hfz35_1 := blk_frozen BK231.out 1
                              have hfz35_2 := blk_frozen BK231.out 2
                              have hfz35_3 := blk_frozen BK231.out 3
                              go_wp2_with (first | (go_at_call 57; (with_reducible refine (impl_isValue.calls ((rd_T86 l0 x21_1).f3) true _ A22.out).mono ?_); rintro e w' ⟨rfl, ⟨nd, rfl⟩⟩))
                              go_meet
                              case rel => (try rw [← Nbq24.out]); exact ⟨_, (true), (by first | rfl | (simp; done) | (simp [*]; done)), H', ⟨by have := HK1.out; first | omega | exact Nat.le_refl _⟩, ⟨by (try rw [← Nbq24.out]); (try simp only [hl3_1]); (with_reducible repeat (first | apply Kd.R_alloc | apply Kd.R_drewN | apply Kd.R_drew)); exact Kd.R_mono (Kd.R_far (p := ⟨gb231, 3, none⟩) (Kd.R_far (p := ⟨gb231, 2, none⟩) (Kd.R_far (p := ⟨gb231, 1, none⟩) (Kd.R_far (p := ⟨gb231, 0, none⟩) (Kd.R_types HO_3.out BK231.out (by decide)) (fun _ hk => hk.2) (.int .i64 ((rd_T86 l0 x21_1).f0))) (fun _ hk => hk.2) (.int .i64 ((rd_T86 l0 x21_1).f1))) (fun _ hk => hk.2) (.bool (false))) (fun _ hk => hk.2) (.int .i64 ((rd_T86 l0 x21_1).f3))) (fun _ hk => trivial)⟩, ⟨by (try rw [← Nbq24.out]); (try simp only [hl3_1]); (with_reducible repeat (first | refine blk_drewN ?_ _ | refine blk_drew ?_ | refine blk_alloc ?_ _)); refine blk_put (cs := #[.int .i64 ((rd_T86 l0 x21_1).f0), .int .i64 ((rd_T86 l0 x21_1).f1), .bool (false), .int .i64 0]) ?_ 3 _ rfl; (with_reducible repeat (first | refine blk_drewN ?_ _ | refine blk_drew ?_ | refine blk_alloc ?_ _)); refine blk_put (cs := #[.int .i64 ((rd_T86 l0 x21_1).f0), .int .i64 ((rd_T86 l0 x21_1).f1), .bool false, .int .i64 0]) ?_ 2 _ rfl; (with_reducible repeat (first | refine blk_drewN ?_ _ | refine blk_drew ?_ | refine blk_alloc ?_ _)); refine blk_put (cs := #[.int .i64 ((rd_T86 l0 x21_1).f0), .int .i64 0, .bool false, .int .i64 0]) ?_ 1 _ rfl; (with_reducible repeat (first | refine blk_drewN ?_ _ | refine blk_drew ?_ | refine blk_alloc ?_ _)); refine blk_put (cs := #[.int .i64 0, .int .i64 0, .bool false, .int .i64 0]) ?_ 0 _ rfl; (with_reducible repeat (first | refine blk_drewN ?_ _ | refine blk_drew ?_ | refine blk_alloc ?_ _)); exact BK231.out⟩, ⟨by repeat (first | (with_reducible first | exact HB.out | apply below_alloc | apply pw_below_drewN | apply below_drew1 | refine below_set ?_ GE231.out) | exact HB.out)⟩⟩
                        · replace c23 := Bool.eq_false_iff.mpr c23
                          subst c23
                          have H1 : (impl_GoodTrie.j1 k1 l0 x3_1 x4_1 x21_1 l0 (l0.length : Int) x21_1 true ((rd_T86 l0 x21_1).f0) ((rd_T86 l0 x21_1).f1) ((rd_T86 l0 x21_1).f2) ((rd_T86 l0 x21_1).f3)) = some r := by rw [if_neg (show ¬ (false = true) by decide)] at H; exact H
                          clear H
                          have H := H1
                          clear H1
                          have H' := Aside0.mk H
                          clear H
                          have p232 : 0 ≤ (x21_1 : Int) := of_decide_eq_true (by first | (with_reducible assumption) | assumption)
                          have q232 : x21_1 < (x3_1.length : Int) := of_decide_eq_true (by first | (with_reducible assumption) | assumption)
                          obtain ⟨ad232, e232, hx232_0⟩ := Kd.at_int (Kd.R_reads' HO_3.out).2.2 x21_1 p232 q232
                          obtain rfl : (⟨go6, 0, none⟩ : Addr) = ad232 := (by injection e232)
                          (first | simp only [add_plain] at hx232_0 | simp only [add_at] at hx232_0 | simp only [Addr.add, Nat.zero_add] at hx232_0 | skip)
                          have hn232_0 : (⟨go6, 0, none⟩ : Addr).block ≠ gb231 := Kd.own_blk (Kd.R_ne HO_3.out BK231.out (by decide))
                          have hn232_1 : (⟨go6, 0, none⟩ : Addr).block ≠ gb231 := Kd.own_blk (Kd.R_ne HO_3.out BK231.out (by decide))
                          have hn232_2 : (⟨go6, 0, none⟩ : Addr).block ≠ gb231 := Kd.own_blk (Kd.R_ne HO_3.out BK231.out (by decide))
                          have hn232_3 : (⟨go6, 0, none⟩ : Addr).block ≠ gb231 := Kd.own_blk (Kd.R_ne HO_3.out BK231.out (by decide))
                          replace hx232_0 := (cell_far (p := ⟨gb231, 0, none⟩) (by first | (rw [add_block]; exact hn232_0) | (show (Addr.add _ _).block ≠ _; rw [add_block]; exact hn232_0) | exact hn232_0) (.int .i64 ((rd_T86 l0 x21_1).f0))).trans hx232_0
                          replace hx232_0 := (cell_far (p := ⟨gb231, 1, none⟩) (by first | (rw [add_block]; exact hn232_1) | (show (Addr.add _ _).block ≠ _; rw [add_block]; exact hn232_1) | exact hn232_1) (.int .i64 ((rd_T86 l0 x21_1).f1))).trans hx232_0
                          replace hx232_0 := (cell_far (p := ⟨gb231, 2, none⟩) (by first | (rw [add_block]; exact hn232_2) | (show (Addr.add _ _).block ≠ _; rw [add_block]; exact hn232_2) | exact hn232_2) (.bool ((rd_T86 l0 x21_1).f2))).trans hx232_0
                          replace hx232_0 := (cell_far (p := ⟨gb231, 3, none⟩) (by first | (rw [add_block]; exact hn232_3) | (show (Addr.add _ _).block ≠ _; rw [add_block]; exact hn232_3) | exact hn232_3) (.int .i64 ((rd_T86 l0 x21_1).f3))).trans hx232_0
                          clear hn232_0
                          clear hn232_1
                          clear hn232_2
                          clear hn232_3
                          replace p232 := eq_true p232
                          replace q232 := eq_true q232
                          have p233 : 0 ≤ (x21_1 : Int) := of_decide_eq_true (by first | (with_reducible assumption) | assumption)
                          have q233 : x21_1 < (x3_1.length : Int) := of_decide_eq_true (by first | (with_reducible assumption) | assumption)
                          obtain ⟨ad233, e233, hx233_0⟩ := Kd.at_int (Kd.R_reads' HO_3.out).2.2 x21_1 p233 q233
                          obtain rfl : (⟨go6, 0, none⟩ : Addr) = ad233 := (by injection e233)
                          (first | simp only [add_plain] at hx233_0 | simp only [add_at] at hx233_0 | simp only [Addr.add, Nat.zero_add] at hx233_0 | skip)
                          have hn233_0 : (⟨go6, 0, none⟩ : Addr).block ≠ gb231 := Kd.own_blk (Kd.R_ne HO_3.out BK231.out (by decide))
                          have hn233_1 : (⟨go6, 0, none⟩ : Addr).block ≠ gb231 := Kd.own_blk (Kd.R_ne HO_3.out BK231.out (by decide))
                          have hn233_2 : (⟨go6, 0, none⟩ : Addr).block ≠ gb231 := Kd.own_blk (Kd.R_ne HO_3.out BK231.out (by decide))
                          have hn233_3 : (⟨go6, 0, none⟩ : Addr).block ≠ gb231 := Kd.own_blk (Kd.R_ne HO_3.out BK231.out (by decide))
                          replace hx233_0 := (cell_far (p := ⟨gb231, 0, none⟩) (by first | (rw [add_block]; exact hn233_0) | (show (Addr.add _ _).block ≠ _; rw [add_block]; exact hn233_0) | exact hn233_0) (.int .i64 ((rd_T86 l0 x21_1).f0))).trans hx233_0
                          replace hx233_0 := (cell_far (p := ⟨gb231, 1, none⟩) (by first | (rw [add_block]; exact hn233_1) | (show (Addr.add _ _).block ≠ _; rw [add_block]; exact hn233_1) | exact hn233_1) (.int .i64 ((rd_T86 l0 x21_1).f1))).trans hx233_0
                          replace hx233_0 := (cell_far (p := ⟨gb231, 2, none⟩) (by first | (rw [add_block]; exact hn233_2) | (show (Addr.add _ _).block ≠ _; rw [add_block]; exact hn233_2) | exact hn233_2) (.bool ((rd_T86 l0 x21_1).f2))).trans hx233_0
                          replace hx233_0 := (cell_far (p := ⟨gb231, 3, none⟩) (by first | (rw [add_block]; exact hn233_3) | (show (Addr.add _ _).block ≠ _; rw [add_block]; exact hn233_3) | exact hn233_3) (.int .i64 ((rd_T86 l0 x21_1).f3))).trans hx233_0
                          clear hn233_0
                          clear hn233_1
                          clear hn233_2
                          clear hn233_3
                          replace p233 := eq_true p233
                          replace q233 := eq_true q233
                          have hcz36_0 : w17.cell? ⟨gb231, 0, none⟩ = some (.int .i64 0) := (blk_cell BK231.out 0).trans rfl
                          have hcz36_1 : w17.cell? ⟨gb231, 1, none⟩ = some (.int .i64 0) := (blk_cell BK231.out 1).trans rfl
                          have hcz36_2 : w17.cell? ⟨gb231, 2, none⟩ = some (.bool false) := (blk_cell BK231.out 2).trans rfl
                          have hcz36_3 : w17.cell? ⟨gb231, 3, none⟩ = some (.int .i64 0) := (blk_cell BK231.out 3).trans rfl
                          have hfz36_0 := blk_frozen BK231.out 0
                          have hfz36_1 := blk_frozen BK231.out 1
                          have hfz36_2 := blk_frozen BK231.out 2
                          have hfz36_3 := blk_frozen BK231.out 3
                          go_wp2_with (first | (go_at_call 57; (with_reducible refine (impl_isValue.calls ((rd_T86 l0 x21_1).f3) false _ A22.out).mono ?_); rintro e w' ⟨rfl, ⟨nd, rfl⟩⟩))
                          go_meet
                          case rel => exact ⟨_, (true), (by first | rfl | (simp; done) | (simp [*]; done)), H', ⟨by have := HK1.out; first | omega | exact Nat.le_refl _⟩, ⟨by (try simp only [hl3_1]); (with_reducible repeat (first | apply Kd.R_alloc | apply Kd.R_drewN | apply Kd.R_drew)); exact Kd.R_mono (Kd.R_far (p := ⟨gb231, 3, none⟩) (Kd.R_far (p := ⟨gb231, 2, none⟩) (Kd.R_far (p := ⟨gb231, 1, none⟩) (Kd.R_far (p := ⟨gb231, 0, none⟩) (Kd.R_types HO_3.out BK231.out (by decide)) (fun _ hk => hk.2) (.int .i64 ((rd_T86 l0 x21_1).f0))) (fun _ hk => hk.2) (.int .i64 ((rd_T86 l0 x21_1).f1))) (fun _ hk => hk.2) (.bool ((rd_T86 l0 x21_1).f2))) (fun _ hk => hk.2) (.int .i64 ((rd_T86 l0 x21_1).f3))) (fun _ hk => trivial)⟩, ⟨by (try simp only [hl3_1]); (with_reducible repeat (first | refine blk_drewN ?_ _ | refine blk_drew ?_ | refine blk_alloc ?_ _)); refine blk_put (cs := #[.int .i64 ((rd_T86 l0 x21_1).f0), .int .i64 ((rd_T86 l0 x21_1).f1), .bool ((rd_T86 l0 x21_1).f2), .int .i64 0]) ?_ 3 _ rfl; (with_reducible repeat (first | refine blk_drewN ?_ _ | refine blk_drew ?_ | refine blk_alloc ?_ _)); refine blk_put (cs := #[.int .i64 ((rd_T86 l0 x21_1).f0), .int .i64 ((rd_T86 l0 x21_1).f1), .bool false, .int .i64 0]) ?_ 2 _ rfl; (with_reducible repeat (first | refine blk_drewN ?_ _ | refine blk_drew ?_ | refine blk_alloc ?_ _)); refine blk_put (cs := #[.int .i64 ((rd_T86 l0 x21_1).f0), .int .i64 0, .bool false, .int .i64 0]) ?_ 1 _ rfl; (with_reducible repeat (first | refine blk_drewN ?_ _ | refine blk_drew ?_ | refine blk_alloc ?_ _)); refine blk_put (cs := #[.int .i64 0, .int .i64 0, .bool false, .int .i64 0]) ?_ 0 _ rfl; (with_reducible repeat (first | refine blk_drewN ?_ _ | refine blk_drew ?_ | refine blk_alloc ?_ _)); exact BK231.out⟩, ⟨by repeat (first | (with_reducible first | exact HB.out | apply below_alloc | apply pw_below_drewN | apply below_drew1 | refine below_set ?_ GE231.out) | exact HB.out)⟩⟩
                  · rw [if_neg c19] at H
                    exact absurd H (by simp)
                case rest =>
                  clear HC16
                  try clear c1
                  try clear c2
                  try clear p2
                  try clear q2
                  try clear hx2
                  try clear c3
                  try clear c5
                  try clear c5b0
                  try clear c5b1
                  try clear c6
                  try clear p6
                  try clear q6
                  try clear hx6
                  try clear qi6
                  try clear hf6
                  try clear c13
                  try clear c13b0
                  try clear c14
                  try clear c14b0
                  try clear c15
                  try clear c15b0
                  try clear c19
                  try clear c19b0
                  try clear c20
                  try clear c20b0
                  try clear c21
                  try clear c21b0
                  try clear c23
                  try clear p23
                  try clear q23
                  try clear hx23
                  try clear q24
                  try clear c25
                  try clear c26
                  try clear c26b0
                  try clear c29
                  try clear c29b0
                  try clear c29b1
                  try clear c30
                  try clear c30b0
                  try clear c31
                  try clear c31b0
                  try clear c31b1
                  try clear hcz18_0
                  try clear hcz18_1
                  try clear hcz18_2
                  try clear hcz18_3
                  try clear hcz27_0
                  try clear hcz27_1
                  try clear hcz27_2
                  try clear hcz27_3
                  try clear hcz28_0
                  try clear hcz28_1
                  try clear hcz28_2
                  try clear hcz28_3
                  try clear hcz32_0
                  try clear hcz32_1
                  try clear hcz32_2
                  try clear hcz32_3
                  try clear hcz33_0
                  try clear hcz33_1
                  try clear hcz33_2
                  try clear hcz33_3
                  try clear hcz34_0
                  try clear hcz34_1
                  try clear hcz34_2
                  try clear hcz34_3
                  try clear hcz35_0
                  try clear hcz35_1
                  try clear hcz35_2
                  try clear hcz35_3
                  try clear hcz36_0
                  try clear hcz36_1
                  try clear hcz36_2
                  try clear hcz36_3
                  try clear hfz18_0
                  try clear hfz18_1
                  try clear hfz18_2
                  try clear hfz18_3
                  try clear hfz27_0
                  try clear hfz27_1
                  try clear hfz27_2
                  try clear hfz27_3
                  try clear hfz28_0
                  try clear hfz28_1
                  try clear hfz28_2
                  try clear hfz28_3
                  try clear hfz32_0
                  try clear hfz32_1
                  try clear hfz32_2
                  try clear hfz32_3
                  try clear hfz33_0
                  try clear hfz33_1
                  try clear hfz33_2
                  try clear hfz33_3
                  try clear hfz34_0
                  try clear hfz34_1
                  try clear hfz34_2
                  try clear hfz34_3
                  try clear hfz35_0
                  try clear hfz35_1
                  try clear hfz35_2
                  try clear hfz35_3
                  try clear hfz36_0
                  try clear hfz36_1
                  try clear hfz36_2
                  try clear hfz36_3
                  try clear hx230_0
                  try clear hx230_1
                  try clear hx230_2
                  try clear hx230_3
                  try clear hx232_0
                  try clear hx233_0
                  try clear hx6_0
                  try clear p2
                  try clear p230
                  try clear p232
                  try clear p233
                  try clear p6
                  try clear q230
                  try clear q232
                  try clear q233
                  try clear q6
                  obtain ⟨kq, x72_15, rfl, HA, HJ15, HO_3, BK231, HB⟩ := hcut
                  cases kq with
                  | zero => exact absurd HA.out (by simp [impl_GoodTrie.j1])
                  | succ kj15 =>
                    have H := HA.out
                    clear HA
                    simp only [impl_GoodTrie.j1] at H
                    by_cases c37 : x72_15 = true
                    · subst c37
                      have H1 : (some false) = some r := by rw [if_pos rfl] at H; exact H
                      clear H
                      have H := H1
                      clear H1
                      obtain rfl := Option.some.inj H
                      go_wp2
                      go_ret
                      exact ⟨by first | rfl | (simp [errW_none, errW_some] <;> rfl) | (simp [*, errW_none, errW_some] <;> rfl), by repeat (first | (with_reducible first | exact HB.out | apply below_alloc | apply pw_below_drewN | apply below_drew1 | refine below_set ?_ GE231.out) | exact HB.out)⟩
                    · replace c37 := Bool.eq_false_iff.mpr c37
                      subst c37
                      have H1 : (if ((rd_T86 l0 x21_1).f2) = true then (impl_GoodTrie.j2 kj15 l0 x3_1 (wrap64 (x4_1 + 1)) x21_1 l0 (l0.length : Int) x21_1 ((rd_T86 l0 x21_1).f0) ((rd_T86 l0 x21_1).f1) ((rd_T86 l0 x21_1).f2) ((rd_T86 l0 x21_1).f3)) else (impl_GoodTrie.j2 kj15 l0 x3_1 x4_1 x21_1 l0 (l0.length : Int) x21_1 ((rd_T86 l0 x21_1).f0) ((rd_T86 l0 x21_1).f1) ((rd_T86 l0 x21_1).f2) ((rd_T86 l0 x21_1).f3))) = some r := by rw [if_neg (show ¬ (false = true) by decide)] at H; exact H
                      clear H
                      have H := H1
                      clear H1
                      have HC38 := Aside0.mk H
                      clear H
                      have hcz39_0 : wc.cell? ⟨gb231, 0, none⟩ = some (.int .i64 ((rd_T86 l0 x21_1).f0)) := (blk_cell BK231.out 0).trans rfl
                      have hcz39_1 : wc.cell? ⟨gb231, 1, none⟩ = some (.int .i64 ((rd_T86 l0 x21_1).f1)) := (blk_cell BK231.out 1).trans rfl
                      have hcz39_2 : wc.cell? ⟨gb231, 2, none⟩ = some (.bool ((rd_T86 l0 x21_1).f2)) := (blk_cell BK231.out 2).trans rfl
                      have hcz39_3 : wc.cell? ⟨gb231, 3, none⟩ = some (.int .i64 ((rd_T86 l0 x21_1).f3)) := (blk_cell BK231.out 3).trans rfl
                      have hfz39_0 := blk_frozen BK231.out 0
                      have hfz39_1 := blk_frozen BK231.out 1
                      have hfz39_2 := blk_frozen BK231.out 2
                      have hfz39_3 := blk_frozen BK231.out 3
                      go_upto_if 74 with (fail)
                      go_cut [4] (fun v4 wc => ∃ (kq : Nat) (x4_37 : Int), v4 = .int .i64 x4_37 ∧ Aside0 (impl_GoodTrie.j2 kq l0 x3_1 x4_37 x21_1 l0 (l0.length : Int) x21_1 ((rd_T86 l0 x21_1).f0) ((rd_T86 l0 x21_1).f1) ((rd_T86 l0 x21_1).f2) ((rd_T86 l0 x21_1).f3) = some r) ∧ Aside0 (kq ≤ kj15) ∧ Aside0 (Kd.R (Kd.int .i64) 3 wc w.heap.size (fun _ => True) (.slice (some ⟨go6, 0, none⟩) x3_1.length co6) x3_1) ∧ Aside0 (wc.heap[gb231]? = some (.cells #[.int .i64 ((rd_T86 l0 x21_1).f0), .int .i64 ((rd_T86 l0 x21_1).f1), .bool ((rd_T86 l0 x21_1).f2), .int .i64 ((rd_T86 l0 x21_1).f3)] 86 (0, 0))) ∧ Aside0 (Below w.heap.size w wc))
                      case first =>
                        have H := HC38.out
                        clear HC38
                        by_cases c40 : ((rd_T86 l0 x21_1).f2) = true
                        · rw [if_pos c40] at H
                          have c40b0 : ((rd_T86 l0 x21_1).f2) = true := c40
                          clear c40
                          (first | rw [c40b0] | (simp only [i64_w, i32_w]; rw [c40b0]) | skip)
                          have H' := Aside0.mk H
                          clear H
                          go_wp2
                          go_meet
                          case rel => exact ⟨_, (wrap64 (x4_1 + 1)), (by first | rfl | (simp; done) | (simp [*]; done)), H', ⟨by have := HK1.out; have := HJ15.out; first | omega | exact Nat.le_refl _⟩, ⟨by (try simp only [hl3_1]); (with_reducible repeat (first | apply Kd.R_alloc | apply Kd.R_drewN | apply Kd.R_drew)); exact HO_3.out⟩, ⟨by (try simp only [hl3_1]); (with_reducible repeat (first | refine blk_drewN ?_ _ | refine blk_drew ?_ | refine blk_alloc ?_ _)); exact BK231.out⟩, ⟨by repeat (first | (with_reducible first | exact HB.out | apply below_alloc | apply pw_below_drewN | apply below_drew1 | refine below_set ?_ GE231.out) | exact HB.out)⟩⟩
                        · rw [if_neg c40] at H
                          have c40b0 : ((rd_T86 l0 x21_1).f2) = false := by simpa using c40
                          clear c40
                          (first | rw [c40b0] | (simp only [i64_w, i32_w]; rw [c40b0]) | skip)
                          have H' := Aside0.mk H
                          clear H
                          go_wp2
                          go_meet
                          case rel => exact ⟨_, (x4_1), (by first | rfl | (simp; done) | (simp [*]; done)), H', ⟨by have := HK1.out; have := HJ15.out; first | omega | exact Nat.le_refl _⟩, ⟨by (try simp only [hl3_1]); (with_reducible repeat (first | apply Kd.R_alloc | apply Kd.R_drewN | apply Kd.R_drew)); exact HO_3.out⟩, ⟨by (try simp only [hl3_1]); (with_reducible repeat (first | refine blk_drewN ?_ _ | refine blk_drew ?_ | refine blk_alloc ?_ _)); exact BK231.out⟩, ⟨by repeat (first | (with_reducible first | exact HB.out | apply below_alloc | apply pw_below_drewN | apply below_drew1 | refine below_set ?_ GE231.out) | exact HB.out)⟩⟩
                      case rest =>
                        clear HC38
                        try clear c1
                        try clear c2
                        try clear p2
                        try clear q2
                        try clear hx2
                        try clear c3
                        try clear c4
                        try clear c5
                        try clear c5b0
                        try clear c5b1
                        try clear c6
                        try clear p6
                        try clear q6
                        try clear hx6
                        try clear qi6
                        try clear hf6
                        try clear c13
                        try clear c13b0
                        try clear c14
                        try clear c14b0
                        try clear c15
                        try clear c15b0
                        try clear c19
                        try clear c19b0
                        try clear c20
                        try clear c20b0
                        try clear c21
                        try clear c21b0
                        try clear c23
                        try clear p23
                        try clear q23
                        try clear hx23
                        try clear q24
                        try clear c25
                        try clear c26
                        try clear c26b0
                        try clear c29
                        try clear c29b0
                        try clear c29b1
                        try clear c30
                        try clear c30b0
                        try clear c31
                        try clear c31b0
                        try clear c31b1
                        try clear c37
                        try clear c40
                        try clear c40b0
                        try clear hcz18_0
                        try clear hcz18_1
                        try clear hcz18_2
                        try clear hcz18_3
                        try clear hcz27_0
                        try clear hcz27_1
                        try clear hcz27_2
                        try clear hcz27_3
                        try clear hcz28_0
                        try clear hcz28_1
                        try clear hcz28_2
                        try clear hcz28_3
                        try clear hcz32_0
                        try clear hcz32_1
                        try clear hcz32_2
                        try clear hcz32_3
                        try clear hcz33_0
                        try clear hcz33_1
                        try clear hcz33_2
                        try clear hcz33_3
                        try clear hcz34_0
                        try clear hcz34_1
                        try clear hcz34_2
                        try clear hcz34_3
                        try clear hcz35_0
                        try clear hcz35_1
                        try clear hcz35_2
                        try clear hcz35_3
                        try clear hcz36_0
                        try clear hcz36_1
                        try clear hcz36_2
                        try clear hcz36_3
                        try clear hcz39_0
                        try clear hcz39_1
                        try clear hcz39_2
                        try clear hcz39_3
                        try clear hfz18_0
                        try clear hfz18_1
                        try clear hfz18_2
                        try clear hfz18_3
                        try clear hfz27_0
                        try clear hfz27_1
                        try clear hfz27_2
                        try clear hfz27_3
                        try clear hfz28_0
                        try clear hfz28_1
                        try clear hfz28_2
                        try clear hfz28_3
                        try clear hfz32_0
                        try clear hfz32_1
                        try clear hfz32_2
                        try clear hfz32_3
                        try clear hfz33_0
                        try clear hfz33_1
                        try clear hfz33_2
                        try clear hfz33_3
                        try clear hfz34_0
                        try clear hfz34_1
                        try clear hfz34_2
                        try clear hfz34_3
                        try clear hfz35_0
                        try clear hfz35_1
                        try clear hfz35_2
                        try clear hfz35_3
                        try clear hfz36_0
                        try clear hfz36_1
                        try clear hfz36_2
                        try clear hfz36_3
                        try clear hfz39_0
                        try clear hfz39_1
                        try clear hfz39_2
                        try clear hfz39_3
                        try clear hx230_0
                        try clear hx230_1
                        try clear hx230_2
                        try clear hx230_3
                        try clear hx232_0
                        try clear hx233_0
                        try clear hx6_0
                        try clear p2
                        try clear p23
                        try clear p230
                        try clear p232
                        try clear p233
                        try clear p6
                        try clear q2
                        try clear q23
                        try clear q230
                        try clear q232
                        try clear q233
                        try clear q24
                        try clear q6
                        obtain ⟨kq, x4_37, rfl, HA, HJ37, HO_3, BK231, HB⟩ := hcut
                        cases kq with
                        | zero => exact absurd HA.out (by simp [impl_GoodTrie.j2])
                        | succ kj37 =>
                          have H := HA.out
                          clear HA
                          simp only [impl_GoodTrie.j2] at H
                          obtain ⟨y235, hy235⟩ : ∃ y_ : List Int, y_ = (([((rd_T86 l0 x21_1).f0), ((rd_T86 l0 x21_1).f1)] : List Int)) := ⟨_, rfl⟩
                          replace H : (impl_GoodTrie.l1 kj37 l0 x3_1 x4_37 x21_1 l0 (l0.length : Int) x21_1 y235 (y235.length : Int) 0) = some r := by first | (rw [hy235]; with_reducible exact H) | (have H2_ := (Option.bind_some _ _).symm.trans H; rw [hy235]; with_reducible exact H2_) | (have H2_ := (Option.bind_some _ _).symm.trans H; with_reducible exact H2_) | with_reducible exact H | (rw [hy235]; exact H) | exact H
                          have Ny235 := Aside0.mk hy235
                          clear hy235
                          have H' := Aside0.mk H
                          clear H
                          have hcz41_0 : wc.cell? ⟨gb231, 0, none⟩ = some (.int .i64 ((rd_T86 l0 x21_1).f0)) := (blk_cell BK231.out 0).trans rfl
                          have hcz41_1 : wc.cell? ⟨gb231, 1, none⟩ = some (.int .i64 ((rd_T86 l0 x21_1).f1)) := (blk_cell BK231.out 1).trans rfl
                          have hcz41_2 : wc.cell? ⟨gb231, 2, none⟩ = some (.bool ((rd_T86 l0 x21_1).f2)) := (blk_cell BK231.out 2).trans rfl
                          have hcz41_3 : wc.cell? ⟨gb231, 3, none⟩ = some (.int .i64 ((rd_T86 l0 x21_1).f3)) := (blk_cell BK231.out 3).trans rfl
                          have hfz41_0 := blk_frozen BK231.out 0
                          have hfz41_1 := blk_frozen BK231.out 1
                          have hfz41_2 := blk_frozen BK231.out 2
                          have hfz41_3 := blk_frozen BK231.out 3
                          go_wp2_with (first | ((with_reducible refine gate_dst (N := 81) rfl ?_); refine Kd.R_lit (Kd.int .i64) _ 3 ?hg (N := 81) ?hd (xs := ([((rd_T86 l0 x21_1).f0), ((rd_T86 l0 x21_1).f1)] : List Int)) (inner := [.int .i64 ((rd_T86 l0 x21_1).f0), .int .i64 ((rd_T86 l0 x21_1).f1)]) (ok := fun _ => True) (okp := fun _ => True) ?hr ?hp (fun _ hk => hk) trivial (Below.refl _ _) (Nat.le_refl _) (by simp) ?_; (case hd => rfl); (case hg => rfl); (case hr => first | (go_simp; done) | (go_simp; rfl)); (case hp => exact (Reps.one (show Kd.M (Kd.int .i64) _ _ _ ((rd_T86 l0 x21_1).f0) [.int .i64 ((rd_T86 l0 x21_1).f0)] from rfl) (Reps.one (show Kd.M (Kd.int .i64) _ _ _ ((rd_T86 l0 x21_1).f1) [.int .i64 ((rd_T86 l0 x21_1).f1)] from rfl) (Reps.none _ _)))); intro v236 w42 ho43 hb hg_ hnew_; clear hg_ hnew_; (first | rw [← Ny235.out] at ho43 | (simp only [Int.reduceToNat] at ho43; rw [← Ny235.out] at ho43)); have n0_ := Aside0.mk (Kd.R_elder' (by (with_reducible repeat (first | apply Kd.R_alloc | apply Kd.R_drewN | apply Kd.R_drew)); exact HO_3.out) (Kd.R_base ho43) hb); have n1_ := Aside0.mk (Kd.R_lower (Kd.R_new' ho43 (Kd.R_lt (by (with_reducible repeat (first | apply Kd.R_alloc | apply Kd.R_drewN | apply Kd.R_drew)); exact HO_3.out))) (below_size (by repeat (first | (with_reducible first | exact HB.out | apply below_alloc | apply pw_below_drewN | apply below_drew1 | refine below_set ?_ GE231.out) | exact HB.out)))); have n2_ := Aside0.mk (blk_below (g := gb231) (o := .cells #[.int .i64 ((rd_T86 l0 x21_1).f0), .int .i64 ((rd_T86 l0 x21_1).f1), .bool ((rd_T86 l0 x21_1).f2), .int .i64 ((rd_T86 l0 x21_1).f3)] 86 (0, 0)) (by (with_reducible repeat (first | refine blk_drewN ?_ _ | refine blk_drew ?_ | refine blk_alloc ?_ _)); exact BK231.out) hb); have n3_ := Aside0.mk (below_step (by repeat (first | (with_reducible first | exact HB.out | apply below_alloc | apply pw_below_drewN | apply below_drew1 | refine below_set ?_ GE231.out) | exact HB.out)) hb); clear HO_3; clear BK231; clear HB; have HO_3 := n0_; have HO237 := n1_; have BK231 := n2_; have HB := n3_; clear n0_ n1_ n2_ n3_; clear hb ho43; obtain ⟨Ao44, co44, eo44⟩ := Kd.R_slice HO237.out; subst eo44))
                          go_loopg [83] kj37 (fun kq v83 w' => ∃ (x3_4 : List Int) (x83_4 : Int), v83 = .int .i64 x83_4 ∧ Aside0 (impl_GoodTrie.l1 kq l0 x3_4 x4_37 x21_1 l0 (l0.length : Int) x21_1 y235 (y235.length : Int) x83_4 = some r) ∧ Aside0 (kq ≤ kj37) ∧ Aside0 (Kd.R (Kd.int .i64) 3 w' w.heap.size (fun k_ => some k_ ≠ ((.slice Ao44 y235.length co44) : Value).ownBlock) (.slice (some ⟨go6, 0, none⟩) x3_1.length co6) x3_4) ∧ Aside0 (Kd.R (Kd.int .i64) 3 w' w.heap.size (fun k_ => some k_ ≠ ((.slice (some ⟨go6, 0, none⟩) x3_1.length co6) : Value).ownBlock) (.slice Ao44 y235.length co44) y235) ∧ Aside0 (w'.heap[gb231]? = some (.cells #[.int .i64 ((rd_T86 l0 x21_1).f0), .int .i64 ((rd_T86 l0 x21_1).f1), .bool ((rd_T86 l0 x21_1).f2), .int .i64 ((rd_T86 l0 x21_1).f3)] 86 (0, 0))) ∧ Aside0 (Below w.heap.size w w'))
                          case atStart => exact ⟨(x3_1), (0), (by first | rfl | (simp; done) | (simp [*]; done)), H', ⟨Nat.le_refl _⟩, ⟨by (try simp only [hl3_1]); (with_reducible repeat (first | apply Kd.R_alloc | apply Kd.R_drewN | apply Kd.R_drew)); exact Kd.R_mono HO_3.out (fun _ hk => hk.2)⟩, ⟨by (try simp only [hl3_1]); (with_reducible repeat (first | apply Kd.R_alloc | apply Kd.R_drewN | apply Kd.R_drew)); exact Kd.R_mono HO237.out (fun _ hk => hk.2)⟩, ⟨by (try simp only [hl3_1]); (with_reducible repeat (first | refine blk_drewN ?_ _ | refine blk_drew ?_ | refine blk_alloc ?_ _)); exact BK231.out⟩, ⟨by repeat (first | (with_reducible first | exact HB.out | apply below_alloc | apply pw_below_drewN | apply below_drew1 | refine below_set ?_ GE231.out) | exact HB.out)⟩⟩
                          case round =>
                            clear H'
                            try clear c1
                            try clear c2
                            try clear p2
                            try clear q2
                            try clear hx2
                            try clear c3
                            try clear c4
                            try clear c5
                            try clear c5b0
                            try clear c5b1
                            try clear c6
                            try clear p6
                            try clear q6
                            try clear hx6
                            try clear qi6
                            try clear hf6
                            try clear c13
                            try clear c13b0
                            try clear c14
                            try clear c14b0
                            try clear c15
                            try clear c15b0
                            try clear c19
                            try clear c19b0
                            try clear c20
                            try clear c20b0
                            try clear c21
                            try clear c21b0
                            try clear c23
                            try clear p23
                            try clear q23
                            try clear hx23
                            try clear q24
                            try clear c25
                            try clear c26
                            try clear c26b0
                            try clear c29
                            try clear c29b0
                            try clear c29b1
                            try clear c30
                            try clear c30b0
                            try clear c31
                            try clear c31b0
                            try clear c31b1
                            try clear c37
                            try clear c40
                            try clear c40b0
                            try clear hcz18_0
                            try clear hcz18_1
                            try clear hcz18_2
                            try clear hcz18_3
                            try clear hcz27_0
                            try clear hcz27_1
                            try clear hcz27_2
                            try clear hcz27_3
                            try clear hcz28_0
                            try clear hcz28_1
                            try clear hcz28_2
                            try clear hcz28_3
                            try clear hcz32_0
                            try clear hcz32_1
                            try clear hcz32_2
                            try clear hcz32_3
                            try clear hcz33_0
                            try clear hcz33_1
                            try clear hcz33_2
                            try clear hcz33_3
                            try clear hcz34_0
                            try clear hcz34_1
                            try clear hcz34_2
                            try clear hcz34_3
                            try clear hcz35_0
                            try clear hcz35_1
                            try clear hcz35_2
                            try clear hcz35_3
                            try clear hcz36_0
                            try clear hcz36_1
                            try clear hcz36_2
                            try clear hcz36_3
                            try clear hcz39_0
                            try clear hcz39_1
                            try clear hcz39_2
                            try clear hcz39_3
                            try clear hcz41_0
                            try clear hcz41_1
                            try clear hcz41_2
                            try clear hcz41_3
                            try clear hfz18_0
                            try clear hfz18_1
                            try clear hfz18_2
                            try clear hfz18_3
                            try clear hfz27_0
                            try clear hfz27_1
                            try clear hfz27_2
                            try clear hfz27_3
                            try clear hfz28_0
                            try clear hfz28_1
                            try clear hfz28_2
                            try clear hfz28_3
                            try clear hfz32_0
                            try clear hfz32_1
                            try clear hfz32_2
                            try clear hfz32_3
                            try clear hfz33_0
                            try clear hfz33_1
                            try clear hfz33_2
                            try clear hfz33_3
                            try clear hfz34_0
                            try clear hfz34_1
                            try clear hfz34_2
                            try clear hfz34_3
                            try clear hfz35_0
                            try clear hfz35_1
                            try clear hfz35_2
                            try clear hfz35_3
                            try clear hfz36_0
                            try clear hfz36_1
                            try clear hfz36_2
                            try clear hfz36_3
                            try clear hfz39_0
                            try clear hfz39_1
                            try clear hfz39_2
                            try clear hfz39_3
                            try clear hfz41_0
                            try clear hfz41_1
                            try clear hfz41_2
                            try clear hfz41_3
                            try clear hx230_0
                            try clear hx230_1
                            try clear hx230_2
                            try clear hx230_3
                            try clear hx232_0
                            try clear hx233_0
                            try clear hx6_0
                            try clear p2
                            try clear p23
                            try clear p230
                            try clear p232
                            try clear p233
                            try clear p6
                            try clear q2
                            try clear q23
                            try clear q230
                            try clear q232
                            try clear q233
                            try clear q24
                            try clear q6
                            obtain ⟨x3_4, x83_4, rfl, HA, HK4, HO_3, HO_81, BK231, HB⟩ := hrel
                            have hl3_4 := (Kd.R_reads' HO_3.out).1
                            rw [hl3_4] at HO_3
                            (try simp only [hl3_4])
                            (try simp only [hl3_4] at BK231)
                            (try simp only [hl3_4] at HO_81)
                            cases gk with
                            | zero => exact absurd HA.out (by simp [impl_GoodTrie.l1])
                            | succ k4 =>
                              have H := HA.out
                              clear HA
                              simp only [impl_GoodTrie.l1] at H
                              by_cases c45 : x83_4 < (y235.length : Int)
                              · rw [if_pos c45] at H
                                have c45b0 : decide (x83_4 < (y235.length : Int)) = true := decide_eq_true c45
                                clear c45
                                by_cases c46 : 0 ≤ x83_4
                                · rw [if_pos c46] at H
                                  have c46b0 : decide (0 ≤ x83_4) = true := decide_eq_true c46
                                  clear c46
                                  by_cases c47 : x83_4 < (y235.length : Int)
                                  · rw [if_pos c47] at H
                                    have c47b0 : decide (x83_4 < (y235.length : Int)) = true := decide_eq_true c47
                                    clear c47
                                    by_cases c48 : (rd y235 x83_4) = 0
                                    · rw [if_pos c48] at H
                                      have c48b0 : ((rd y235 x83_4) == 0) = true := beq_iff_eq.mpr c48
                                      have c48b1 : ((rd y235 x83_4) != 0) = false := bne_eq_false_iff_eq.mpr c48
                                      clear c48
                                      have H' := Aside0.mk H
                                      clear H
                                      have p238 : 0 ≤ (x83_4 : Int) := of_decide_eq_true (by first | (with_reducible assumption) | assumption)
                                      have q238 : x83_4 < (y235.length : Int) := of_decide_eq_true (by first | (with_reducible assumption) | assumption)
                                      obtain ⟨ad238, e238, hx238_0⟩ := Kd.at_int (Kd.R_reads' HO_81.out).2.2 x83_4 p238 q238
                                      cases e238
                                      replace p238 := eq_true p238
                                      replace q238 := eq_true q238
                                      go_wp2
                                      (try simp only [← hl3_4])
                                      go_roundg k4
                                      case measure => have := HK1.out; have := HJ15.out; have := HJ37.out; have := HK4.out; omega
                                      case rel => exact ⟨(x3_4), (wrap64 (x83_4 + 1)), (by first | rfl | (simp; done) | (simp [*]; done)), H', ⟨by have := HK1.out; have := HJ15.out; have := HJ37.out; have := HK4.out; omega⟩, ⟨by (try simp only [hl3_1]); (try simp only [hl3_4]); (with_reducible repeat (first | apply Kd.R_alloc | apply Kd.R_drewN | apply Kd.R_drew)); exact HO_3.out⟩, ⟨by (try simp only [hl3_1]); (try simp only [hl3_4]); (with_reducible repeat (first | apply Kd.R_alloc | apply Kd.R_drewN | apply Kd.R_drew)); exact HO_81.out⟩, ⟨by (try simp only [hl3_1]); (try simp only [hl3_4]); (with_reducible repeat (first | refine blk_drewN ?_ _ | refine blk_drew ?_ | refine blk_alloc ?_ _)); exact BK231.out⟩, ⟨by repeat (first | (with_reducible first | exact HB.out | apply below_alloc | apply pw_below_drewN | apply below_drew1 | refine below_set ?_ GE231.out) | exact HB.out)⟩⟩
                                    · rw [if_neg c48] at H
                                      have c48b0 : ((rd y235 x83_4) == 0) = false := beq_eq_false_iff_ne.mpr c48
                                      have c48b1 : ((rd y235 x83_4) != 0) = true := bne_iff_ne.mpr c48
                                      replace H := Option.bind_eq_some_iff.mp H
                                      obtain ⟨t239, A490, H⟩ := H
                                      replace H : (if t239 = true then (if 0 ≤ (rd y235 x83_4) then (if (rd y235 x83_4) < (x3_4.length : Int) then (if (rd x3_4 (rd y235 x83_4)) ≥ 0 then (some false) else (if 0 ≤ x21_1 then (if x21_1 < (x3_4.length : Int) then (impl_GoodTrie.l1 k4 l0 (x3_4.set ((rd y235 x83_4) : Int).toNat (wrap64 ((rd x3_4 x21_1) + 1))) x4_37 x21_1 l0 (l0.length : Int) x21_1 y235 (y235.length : Int) (wrap64 (x83_4 + 1))) else (none)) else (none))) else (none)) else (none)) else (some false)) = some r := H
                                      have A49 := Aside0.mk A490
                                      clear A490
                                      by_cases c50 : t239 = true
                                      · subst c50
                                        have H1 : (if 0 ≤ (rd y235 x83_4) then (if (rd y235 x83_4) < (x3_4.length : Int) then (if (rd x3_4 (rd y235 x83_4)) ≥ 0 then (some false) else (if 0 ≤ x21_1 then (if x21_1 < (x3_4.length : Int) then (impl_GoodTrie.l1 k4 l0 (x3_4.set ((rd y235 x83_4) : Int).toNat (wrap64 ((rd x3_4 x21_1) + 1))) x4_37 x21_1 l0 (l0.length : Int) x21_1 y235 (y235.length : Int) (wrap64 (x83_4 + 1))) else (none)) else (none))) else (none)) else (none)) = some r := by rw [if_pos rfl] at H; exact H
                                        clear H
                                        have H := H1
                                        clear H1
                                        by_cases c51 : 0 ≤ (rd y235 x83_4)
                                        · rw [if_pos c51] at H
                                          have c51b0 : decide (0 ≤ (rd y235 x83_4)) = true := decide_eq_true c51
                                          clear c51
                                          by_cases c52 : (rd y235 x83_4) < (x3_4.length : Int)
                                          · rw [if_pos c52] at H
                                            have c52b0 : decide ((rd y235 x83_4) < (x3_4.length : Int)) = true := decide_eq_true c52
                                            clear c52
                                            by_cases c53 : (rd x3_4 (rd y235 x83_4)) ≥ 0
                                            · rw [if_pos c53] at H
                                              have c53b0 : decide (0 ≤ (rd x3_4 (rd y235 x83_4))) = true := decide_eq_true c53
                                              clear c53
                                              obtain rfl := Option.some.inj H
                                              have p238 : 0 ≤ (x83_4 : Int) := of_decide_eq_true (by first | (with_reducible assumption) | assumption)
                                              have q238 : x83_4 < (y235.length : Int) := of_decide_eq_true (by first | (with_reducible assumption) | assumption)
                                              obtain ⟨ad238, e238, hx238_0⟩ := Kd.at_int (Kd.R_reads' HO_81.out).2.2 x83_4 p238 q238
                                              cases e238
                                              replace p238 := eq_true p238
                                              replace q238 := eq_true q238
                                              go_wp2_with (first | ((with_reducible refine gate_callee (f := 60) rfl ?_); refine goesL_ (some 95) rfl rfl Try.func60 (by kernel_rfl) rfl #[.int .i64 (rd y235 x83_4), .int .i64 (wrap64 (x21_1 + 1)), .int .i64 (wrap64 ((l0.length : Int) - 1))] rfl (by (try simp only [List.map_toArray, List.map_cons, List.map_nil]); first | done | rfl | (simp only [List.length_drop, List.length_take]; rfl)) ?_; (with_reducible refine (impl_within.calls (rd y235 x83_4) (wrap64 (x21_1 + 1)) (wrap64 ((l0.length : Int) - 1)) true _ A49.out).mono ?_); rintro e w' ⟨rfl, ⟨nd, rfl⟩⟩; refine ⟨_, rfl, ?_⟩; have p240 : 0 ≤ ((rd y235 x83_4) : Int) := of_decide_eq_true (by first | (with_reducible assumption) | assumption); have q240 : (rd y235 x83_4) < (x3_4.length : Int) := of_decide_eq_true (by first | (with_reducible assumption) | assumption); obtain ⟨ad240, e240, hx240_0⟩ := Kd.at_int (Kd.R_reads' HO_3.out).2.2 (rd y235 x83_4) p240 q240; obtain rfl : (⟨go6, 0, none⟩ : Addr) = ad240 := (by injection e240); (first | simp only [add_plain] at hx240_0 | simp only [add_at] at hx240_0 | simp only [Addr.add, Nat.zero_add] at hx240_0 | skip); replace p240 := eq_true p240; replace q240 := eq_true q240))
                                              go_ret
                                              exact ⟨by first | rfl | (simp [errW_none, errW_some] <;> rfl) | (simp [*, errW_none, errW_some] <;> rfl), by repeat (first | (with_reducible first | exact HB.out | apply below_alloc | apply pw_below_drewN | apply below_drew1 | refine below_set ?_ GE231.out) | exact HB.out)⟩
                                            · rw [if_neg c53] at H
                                              have c53b0 : decide (0 ≤ (rd x3_4 (rd y235 x83_4))) = false := decide_eq_false c53
                                              clear c53
                                              by_cases c54 : 0 ≤ x21_1
                                              · rw [if_pos c54] at H
                                                have c54b0 : decide (0 ≤ x21_1) = true := decide_eq_true c54
                                                clear c54
                                                by_cases c55 : x21_1 < (x3_4.length : Int)
                                                · rw [if_pos c55] at H
                                                  have c55b0 : decide (x21_1 < (x3_4.length : Int)) = true := decide_eq_true c55
                                                  clear c55
                                                  obtain ⟨y242, hy242⟩ : ∃ y_ : List Int, y_ = (x3_4.set ((rd y235 x83_4) : Int).toNat (wrap64 ((rd x3_4 x21_1) + 1))) := ⟨_, rfl⟩
                                                  replace H : (impl_GoodTrie.l1 k4 l0 y242 x4_37 x21_1 l0 (l0.length : Int) x21_1 y235 (y235.length : Int) (wrap64 (x83_4 + 1))) = some r := by first | (rw [hy242]; with_reducible exact H) | (have H2_ := (Option.bind_some _ _).symm.trans H; rw [hy242]; with_reducible exact H2_) | (have H2_ := (Option.bind_some _ _).symm.trans H; with_reducible exact H2_) | with_reducible exact H | (rw [hy242]; exact H) | exact H
                                                  have Ny242 := Aside0.mk hy242
                                                  clear hy242
                                                  have H' := Aside0.mk H
                                                  clear H
                                                  have p238 : 0 ≤ (x83_4 : Int) := of_decide_eq_true (by first | (with_reducible assumption) | assumption)
                                                  have q238 : x83_4 < (y235.length : Int) := of_decide_eq_true (by first | (with_reducible assumption) | assumption)
                                                  obtain ⟨ad238, e238, hx238_0⟩ := Kd.at_int (Kd.R_reads' HO_81.out).2.2 x83_4 p238 q238
                                                  cases e238
                                                  replace p238 := eq_true p238
                                                  replace q238 := eq_true q238
                                                  go_wp2_with (first | ((with_reducible refine gate_callee (f := 60) rfl ?_); refine goesL_ (some 95) rfl rfl Try.func60 (by kernel_rfl) rfl #[.int .i64 (rd y235 x83_4), .int .i64 (wrap64 (x21_1 + 1)), .int .i64 (wrap64 ((l0.length : Int) - 1))] rfl (by (try simp only [List.map_toArray, List.map_cons, List.map_nil]); first | done | rfl | (simp only [List.length_drop, List.length_take]; rfl)) ?_; (with_reducible refine (impl_within.calls (rd y235 x83_4) (wrap64 (x21_1 + 1)) (wrap64 ((l0.length : Int) - 1)) true _ A49.out).mono ?_); rintro e w' ⟨rfl, ⟨nd, rfl⟩⟩; refine ⟨_, rfl, ?_⟩; (try (rw [drewN_self wr]; generalize hq_ : World.drewN wr _ = wr; have n0_ : Aside0 (Kd.R (Kd.int .i64) 3 wr w.heap.size (fun k_ => some k_ ≠ (.slice (some ad238) y235.length co44 : Value).ownBlock) (.slice (some ⟨go6, 0, none⟩) x3_4.length co6) x3_4) := ⟨by rw [← hq_]; exact (by (with_reducible repeat (first | apply Kd.R_alloc | apply Kd.R_drewN | apply Kd.R_drew)); exact HO_3.out)⟩; have n1_ : Aside0 (Kd.R (Kd.int .i64) 3 wr w.heap.size (fun k_ => some k_ ≠ (.slice (some ⟨go6, 0, none⟩) x3_4.length co6 : Value).ownBlock) (.slice (some ad238) y235.length co44) y235) := ⟨by rw [← hq_]; exact (by (with_reducible repeat (first | apply Kd.R_alloc | apply Kd.R_drewN | apply Kd.R_drew)); exact HO_81.out)⟩; have n2_ : Aside0 (wr.heap[gb231]? = some (.cells #[.int .i64 ((rd_T86 l0 x21_1).f0), .int .i64 ((rd_T86 l0 x21_1).f1), .bool ((rd_T86 l0 x21_1).f2), .int .i64 ((rd_T86 l0 x21_1).f3)] 86 (0, 0))) := ⟨by rw [← hq_]; exact (by (with_reducible repeat (first | refine blk_drewN ?_ _ | refine blk_drew ?_ | refine blk_alloc ?_ _)); exact BK231.out)⟩; have n3_ : Aside0 (Below w.heap.size w wr) := ⟨by rw [← hq_]; exact (by repeat (first | (with_reducible first | exact HB.out | apply below_alloc | apply pw_below_drewN | apply below_drew1 | refine below_set ?_ GE231.out) | exact HB.out))⟩; clear HO_3 HO_81 BK231 HB hq_; have HO_3 := n0_; have HO_81 := n1_; have BK231 := n2_; have HB := n3_; clear n0_ n1_ n2_ n3_)); have p240 : 0 ≤ ((rd y235 x83_4) : Int) := of_decide_eq_true (by first | (with_reducible assumption) | assumption); have q240 : (rd y235 x83_4) < (x3_4.length : Int) := of_decide_eq_true (by first | (with_reducible assumption) | assumption); obtain ⟨ad240, e240, hx240_0⟩ := Kd.at_int (Kd.R_reads' HO_3.out).2.2 (rd y235 x83_4) p240 q240; obtain rfl : (⟨go6, 0, none⟩ : Addr) = ad240 := (by injection e240); (first | simp only [add_plain] at hx240_0 | simp only [add_at] at hx240_0 | simp only [Addr.add, Nat.zero_add] at hx240_0 | skip); replace p240 := eq_true p240; replace q240 := eq_true q240; have p241 : 0 ≤ (x21_1 : Int) := of_decide_eq_true (by first | (with_reducible assumption) | assumption); have q241 : x21_1 < (x3_4.length : Int) := of_decide_eq_true (by first | (with_reducible assumption) | assumption); obtain ⟨ad241, e241, hx241_0⟩ := Kd.at_int (Kd.R_reads' HO_3.out).2.2 x21_1 p241 q241; obtain rfl : (⟨go6, 0, none⟩ : Addr) = ad241 := (by injection e241); (first | simp only [add_plain] at hx241_0 | simp only [add_at] at hx241_0 | simp only [Addr.add, Nat.zero_add] at hx241_0 | skip); replace p241 := eq_true p241; replace q241 := eq_true q241; have p56 : 0 ≤ ((rd y235 x83_4) : Int) := of_decide_eq_true (by first | (with_reducible assumption) | assumption); have q56 : ((rd y235 x83_4) : Int) < ((x3_4.length : Int) : Int) := of_decide_eq_true (by first | (with_reducible assumption) | assumption); obtain ⟨hx56_0, hf56_0⟩ := Kd.R_celln 0 HO_3.out ((rd y235 x83_4) : Int) p56 q56; replace p56 := eq_true p56; replace q56 := eq_true q56; obtain ⟨hy57_, hz57_⟩ := Kd.R_celln 0 HO_3.out ((rd y235 x83_4) : Int) (of_decide_eq_true (by first | (with_reducible assumption) | assumption)) (of_decide_eq_true (by first | (with_reducible assumption) | assumption)); have HP57 := Kd.R_putg HO_3.out ((rd y235 x83_4) : Int) (wrap64 ((rd x3_4 x21_1) + 1))) | ((with_reducible refine gate_store (t := 3) (p := 111) rfl ?_); refine store_event (t := 3) (p := 111) (v := ?vo_w58) (w1 := (wr.setCell ⟨go6, ((rd y235 x83_4) : Int).toNat, none⟩ (.int .i64 (wrap64 ((rd x3_4 x21_1) + 1))))) ?hg ?ho ?hn ?hr ?_; (case ho => rfl); (case hg => rfl); (case hn => rfl); (case hr => first | (go_simp; done) | (go_simp; rfl)); intro w58 hw; have hg : wr.grownBy w58 (some go6) := (by rw [hw]; exact HP57.2); have hp_ : Kd.R (Kd.int .i64) 3 w58 w.heap.size (fun k_ => some k_ ≠ (.slice (some ad238) y235.length co44 : Value).ownBlock) (.slice (some ⟨go6, 0, none⟩) x3_4.length co6) y242 := (by rw [hw, Ny242.out]; exact HP57.1); clear HP57; have n0_ := Aside0.mk (hp_); have n1_ := Aside0.mk (Kd.R_after (v := (.slice (some ⟨go6, 0, none⟩) x3_4.length co6)) (v1 := (.slice (some ⟨go6, 0, none⟩) x3_4.length co6)) (ok := (fun _ => True)) (by (with_reducible repeat (first | apply Kd.R_alloc | apply Kd.R_drewN | apply Kd.R_drew)); exact Kd.R_mono HO_81.out (fun _ hk => ⟨trivial, hk⟩)) hg (.inl rfl)); have n2_ := Aside0.mk (blk_grown (g := gb231) (o := .cells #[.int .i64 ((rd_T86 l0 x21_1).f0), .int .i64 ((rd_T86 l0 x21_1).f1), .bool ((rd_T86 l0 x21_1).f2), .int .i64 ((rd_T86 l0 x21_1).f3)] 86 (0, 0)) (by (with_reducible repeat (first | refine blk_drewN ?_ _ | refine blk_drew ?_ | refine blk_alloc ?_ _)); exact BK231.out) hg (Kd.R_ne HO_3.out BK231.out (by decide))); have n3_ := Aside0.mk ((by rw [hw]; exact below_set (HB.out) GB6.out : Below w.heap.size w w58)); clear HO_3; clear HO_81; clear BK231; clear HB; have HO_3 := n0_; have HO_81 := n1_; have BK231 := n2_; have HB := n3_; clear n0_ n1_ n2_ n3_; clear hg hw hp_))
                                                  (try simp only [← hl3_4])
                                                  go_roundg k4
                                                  case measure => have := HK1.out; have := HJ15.out; have := HJ37.out; have := HK4.out; omega
                                                  case rel => exact ⟨(y242), (wrap64 (x83_4 + 1)), (by first | rfl | (simp; done) | (simp [*]; done)), H', ⟨by have := HK1.out; have := HJ15.out; have := HJ37.out; have := HK4.out; omega⟩, ⟨by (try simp only [hl3_1]); (try simp only [hl3_4]); (with_reducible repeat (first | apply Kd.R_alloc | apply Kd.R_drewN | apply Kd.R_drew)); exact HO_3.out⟩, ⟨by (try simp only [hl3_1]); (try simp only [hl3_4]); (with_reducible repeat (first | apply Kd.R_alloc | apply Kd.R_drewN | apply Kd.R_drew)); exact Kd.R_mono HO_81.out (fun _ hk => hk.2)⟩, ⟨by (try simp only [hl3_1]); (try simp only [hl3_4]); (with_reducible repeat (first | refine blk_drewN ?_ _ | refine blk_drew ?_ | refine blk_alloc ?_ _)); exact BK231.out⟩, ⟨by repeat (first | (with_reducible first | exact HB.out | apply below_alloc | apply pw_below_drewN | apply below_drew1 | refine below_set ?_ GE231.out) | exact HB.out)⟩⟩
                                                · rw [if_neg c55] at H
                                                  exact absurd H (by simp)
                                              · rw [if_neg c54] at H
                                                exact absurd H (by simp)
                                          · rw [if_neg c52] at H
                                            exact absurd H (by simp)
                                        · rw [if_neg c51] at H
                                          exact absurd H (by simp)
                                      · replace c50 := Bool.eq_false_iff.mpr c50
                                        subst c50
                                        have H1 : (some false) = some r := by rw [if_neg (show ¬ (false = true) by decide)] at H; exact H
                                        clear H
                                        have H := H1
                                        clear H1
                                        obtain rfl := Option.some.inj H
                                        have p238 : 0 ≤ (x83_4 : Int) := of_decide_eq_true (by first | (with_reducible assumption) | assumption)
                                        have q238 : x83_4 < (y235.length : Int) := of_decide_eq_true (by first | (with_reducible assumption) | assumption)
                                        obtain ⟨ad238, e238, hx238_0⟩ := Kd.at_int (Kd.R_reads' HO_81.out).2.2 x83_4 p238 q238
                                        cases e238
                                        replace p238 := eq_true p238
                                        replace q238 := eq_true q238
                                        go_wp2_with (first | ((with_reducible refine gate_callee (f := 60) rfl ?_); refine goesL_ (some 95) rfl rfl Try.func60 (by kernel_rfl) rfl #[.int .i64 (rd y235 x83_4), .int .i64 (wrap64 (x21_1 + 1)), .int .i64 (wrap64 ((l0.length : Int) - 1))] rfl (by (try simp only [List.map_toArray, List.map_cons, List.map_nil]); first | done | rfl | (simp only [List.length_drop, List.length_take]; rfl)) ?_; (with_reducible refine (impl_within.calls (rd y235 x83_4) (wrap64 (x21_1 + 1)) (wrap64 ((l0.length : Int) - 1)) false _ A49.out).mono ?_); rintro e w' ⟨rfl, ⟨nd, rfl⟩⟩; refine ⟨_, rfl, ?_⟩))
                                        go_ret
                                        exact ⟨by first | rfl | (simp [errW_none, errW_some] <;> rfl) | (simp [*, errW_none, errW_some] <;> rfl), by repeat (first | (with_reducible first | exact HB.out | apply below_alloc | apply pw_below_drewN | apply below_drew1 | refine below_set ?_ GE231.out) | exact HB.out)⟩
                                  · rw [if_neg c47] at H
                                    exact absurd H (by simp)
                                · rw [if_neg c46] at H
                                  exact absurd H (by simp)
                              · rw [if_neg c45] at H
                                have c45b0 : decide (x83_4 < (y235.length : Int)) = false := decide_eq_false c45
                                clear c45
                                have H' := Aside0.mk H
                                clear H
                                go_wp2
                                (try simp only [← hl3_1, ← hl3_4])
                                go_roundg k4
                                case measure => have := HK1.out; have := HJ15.out; have := HJ37.out; have := HK4.out; omega
                                case rel => exact ⟨(x3_4), (x4_37), (wrap64 (x21_1 + 1)), (by first | rfl | (simp; done) | (simp [*]; done)), (by first | rfl | (simp; done) | (simp [*]; done)), H', ⟨by have := HK1.out; have := HJ15.out; have := HJ37.out; have := HK4.out; omega⟩, ⟨by (try simp only [hl3_1]); (try simp only [hl3_4]); (with_reducible repeat (first | apply Kd.R_alloc | apply Kd.R_drewN | apply Kd.R_drew)); exact Kd.R_mono HO_3.out (fun _ hk => trivial)⟩, ⟨by repeat (first | (with_reducible first | exact HB.out | apply below_alloc | apply pw_below_drewN | apply below_drew1 | refine below_set ?_ GE231.out) | exact HB.out)⟩⟩
              · rw [if_neg c15] at H
                exact absurd H (by simp)
            · rw [if_neg c14] at H
              exact absurd H (by simp)
          · rw [if_neg c13] at H
            have c13b0 : decide (x21_1 < (l0.length : Int)) = false := decide_eq_false c13
            clear c13
            obtain rfl := Option.some.inj H
            go_wp2
            go_ret
            exact ⟨by first | rfl | (simp [errW_none, errW_some] <;> rfl) | (simp [*, errW_none, errW_some] <;> rfl), by repeat (first | (with_reducible first | exact HB.out | apply below_alloc | apply pw_below_drewN | apply below_drew1) | exact HB.out)⟩
    · rw [if_neg c5] at H
      exact absurd H (by simp)
  · replace c3 := Bool.eq_false_iff.mpr c3
    subst c3
    have H1 : (some false) = some r := by rw [if_neg (show ¬ (false = true) by decide)] at H; exact H
    clear H
    have H := H1
    clear H1
    obtain rfl := Option.some.inj H
    go_enter Try.func21, Try.ntmps21
    go_wp2_with (first | ((with_reducible refine gate_callee (f := 60) rfl ?_); refine goesL_ (some 11) rfl rfl Try.func60 (by kernel_rfl) rfl #[.int .i64 (l0.length : Int), .int .i64 1, .int .i64 2000] rfl (by (try simp only [List.map_toArray, List.map_cons, List.map_nil]); first | done | rfl | (simp only [List.length_drop, List.length_take]; rfl)) ?_; (with_reducible refine (impl_within.calls (l0.length : Int) 1 2000 false _ A2.out).mono ?_); rintro e w' ⟨rfl, ⟨nd, rfl⟩⟩; refine ⟨_, rfl, ?_⟩))
    go_ret
    exact ⟨by first | rfl | (simp [errW_none, errW_some] <;> rfl) | (simp [*, errW_none, errW_some] <;> rfl), by repeat (first | (with_reducible first | exact HB.out | apply below_alloc | apply pw_below_drewN | apply below_drew1) | exact HB.out)⟩

end Go.Proofs.Ytakoaogbkajkcaa.PFnExactBuildTrie
