/- Go functions told by Lean functions, printed by a program. No condition but what each statement says. -/
import Derived.Test.YtakoaogbkajkcaaYFnExactRemoveFromx13
namespace Go.Proofs.Ytakoaogbkajkcaa.PFnExactRemoveFrom
open Go.RowKit Go.Proofs.YtakoaogbkajkcaaW.PrintWords Go.Proofs.YtakoaogbkajkcaaW.PrintLast Go.Proofs.YtakoaogbkajkcaaW.PrintMore
open Aside0 renaming mk → kz
open List renaming length_take → ky, length_append → kj, length_drop → kv, take_append_of_le_length → kh, map_toArray → kg, map_cons → ke, map_nil → kb
open Nat renaming mul_le_mul_right → kk
open Option renaming bind_eq_some_iff → kf
set_option maxHeartbeats 8000000
set_option maxRecDepth 100000
open Go.Proofs.YtakoaogbkajkcaaW.PrintWords renaming pw_below_drewN → za, below_step → zd, below_size → ze, blk_frozen → zi, below_set → zk, blk_cell → zn, Aside0 → zp
open Go.Proofs.YtakoaogbkajkcaaW.PrintWords.Kd renaming R_far → zj
attribute [local go_sem] max2_int min2_int max_two min_two max_three min_three max_four min_four
set_option linter.unusedVariables false
set_option linter.unusedSimpArgs false
attribute [local go_sem high] eqA37
/-! ### impl_BuildTrie: function 38 -/
def impl_BuildTrie.l0 : Nat → List (S86) → List (S39) → Int → Int → Option ((List (S86)) × Bool)
 | 0, _, _, _, _ => none
 | k + 1, x4, x12, x13, x14 => if x14 < x13 then (if 0 ≤ x14 then (if x14 < (x12.length : Int) then ((impl_inserted.f k x4 ((rd_T39 x12 x14).f0.f0) ((rd_T39 x12 x14).f0.f1) ((rd_T39 x12 x14).f1)).bind fun t337 => (impl_BuildTrie.l0 k t337 x12 x13 (wrap64 (x14 + 1)))) else (none)) else (none)) else ((impl_GoodTrie.f k x4).bind fun t340 => (if t340 = true then (some (x4, true)) else (some (([] : List (S86)), false))))
def impl_BuildTrie.f (k : Nat) (l0 : List (S39)) : Option ((List (S86)) × Bool) := (impl_GoodTable.f k l0).bind fun t331 => (if t331 = true then (impl_BuildTrie.l0 k (([(⟨0, 0, false, 0⟩ : S86)] : List (S86))) l0 (l0.length : Int) 0) else (some (([] : List (S86)), false)))
theorem impl_BuildTrie.calls (k : Nat) (A0 : Option Addr) (c0 : Nat) (l0 : List (S39)) (r1 : List (S86)) (r2 : Bool) (w : World) (hr0 : Kd.C k39 w A0 l0.length l0) (hc0 : l0.length ≤ c0) (h : impl_BuildTrie.f k l0 = some (r1, r2)) :
  Calls Try.prog 38 #[.slice A0 l0.length c0] w fun e w' => ∃ v0_ : Value, e = .returned (.tuple #[v0_, .bool r2]) ∧ Kd.R k86 86 w' w.heap.size (fun _ => True) v0_ r1 ∧ Below w.heap.size w w' := by
 have hu86 := Try.underlying86
 have hu39 := Try.underlying39
 have hu37 := Try.underlying37
 have HR0 := kz hr0
 have HC0 := kz hc0
 clear hr0 hc0
 have HB := kz (Below.refl w.heap.size w)
 have H : ((impl_GoodTable.f k l0).bind fun t331 => (if t331 = true then (impl_BuildTrie.l0 k (([(⟨0, 0, false, 0⟩ : S86)] : List (S86))) l0 (l0.length : Int) 0) else (some (([] : List (S86)), false)))) = some (r1, r2) := h
 clear h
 replace H := kf.mp H
 obtain ⟨t331, A20, H⟩ := H
 replace H : (if t331 = true then (impl_BuildTrie.l0 k (([(⟨0, 0, false, 0⟩ : S86)] : List (S86))) l0 (l0.length : Int) 0) else (some (([] : List (S86)), false))) = some (r1, r2) := H
 have A2 := kz A20
 clear A20
 by_cases c3 : t331 = true
 ·
  subst c3
  have H1 : (impl_BuildTrie.l0 k (([(⟨0, 0, false, 0⟩ : S86)] : List (S86))) l0 (l0.length : Int) 0) = some (r1, r2) := by rw [if_pos rfl] at H; exact H
  clear H
  have H := H1
  clear H1
  obtain ⟨y332, hy332⟩ : ∃ y_ : List (S86), y_ = (([(⟨0, 0, false, 0⟩ : S86)] : List (S86))) := ⟨_, rfl⟩
  replace H : (impl_BuildTrie.l0 k y332 l0 (l0.length : Int) 0) = some (r1, r2) := by (rw [hy332]; with_reducible exact H)
  have Ny332 := kz hy332
  clear hy332
  have H' := kz H
  clear H
  go_enter Try.func38, Try.ntmps38
  go_wp2_with (first | ((with_reducible refine gate_callee (f := 16) rfl ?_); refine goesL_ (some 8) rfl rfl Try.func16 (by kernel_rfl) rfl #[.slice A0 l0.length c0] rfl (by (try simp only [kg, ke, kb]); rfl) ?_; (with_reducible refine (impl_GoodTable.calls k _ _ l0 true _ ?side1 ?side2 A2.1).mono ?_); (case side1 => repeat (exact HR0.1)); (case side2 => exact HC0.1); rintro e w4 ⟨rfl, hb⟩; refine ⟨_, rfl, ?_⟩; replace HB := kz (zd HB.1 hb); (try clear hb); (try clear hb2); (try clear hk); (try clear hi)) | ((with_reducible refine gate_dst (N := 11) rfl ?_); refine Kd.R_lit k86 _ 86 ?hg (N := 11) ?hd (xs := ([(⟨0, 0, false, 0⟩ : S86)] : List (S86))) (inner := [.int .i64 0, .int .i64 0, .bool false, .int .i64 0]) (ok := fun _ => True) (okp := fun _ => True) ?hr ?hp (fun _ hk => hk) trivial (Below.refl _ _) (Nat.le_refl _) (by simp) ?_; (case hd => rfl); (case hg => rfl); (case hr => (go_simp; done)); (case hp => exact (Reps.c4 (show Kd.M k86 _ _ _ (⟨0, 0, false, 0⟩ : S86) [.int .i64 0, .int .i64 0, .bool false, .int .i64 0] from (k86_mkM _ _ _ (⟨0, 0, false, 0⟩ : S86) )) (Reps.none _ _))); intro v333 w5 ho6 hb hg_ hnew_; clear hg_ hnew_; (rw [← Ny332.1] at ho6); have HO334 := kz (Kd.R_lower ho6 (ze HB.1)); replace HB := kz (zd HB.1 hb); clear hb ho6))
  go_loopg [4, 14] k (fun kq v4 v14 w' => ∃ (x4_1 : List (S86)) (zq : Int), v14 = .int .i64 zq ∧ zp (impl_BuildTrie.l0 kq x4_1 l0 (l0.length : Int) zq = some (r1, r2)) ∧ zp (kq ≤ k) ∧ zp (Kd.R k86 86 w' w.heap.size (fun _ => True) v4 x4_1) ∧ zp (Below w.heap.size w w'))
  case atStart => exact ⟨(y332), (0), (by rfl), H', ⟨Nat.le_refl _⟩, ⟨by exact HO334.1⟩, ⟨by exact HB.1⟩⟩
  case round =>
   clear H'
   (try clear c1); (try clear p2); (try clear c3); (try clear c4)
   obtain ⟨x4_1, zq, rfl, HA, HK1, HO_4, HB⟩ := hrel
   cases gk with
   | zero => exact absurd HA.1 (by simp [impl_BuildTrie.l0])
   | succ k1 =>
    have H := HA.1
    clear HA
    simp only [impl_BuildTrie.l0] at H
    by_cases c7 : zq < (l0.length : Int)
    ·
     rw [if_pos c7] at H
     have c7b0 : decide (zq < (l0.length : Int)) = true := decide_eq_true c7
     clear c7
     by_cases c8 : 0 ≤ zq
     ·
      rw [if_pos c8] at H
      have c8b0 : decide (0 ≤ zq) = true := decide_eq_true c8
      clear c8
      by_cases c9 : zq < (l0.length : Int)
      ·
       rw [if_pos c9] at H
       have c9b0 : decide (zq < (l0.length : Int)) = true := decide_eq_true c9
       clear c9
       replace H := kf.mp H
       obtain ⟨t337, A100, H⟩ := H
       replace H : (impl_BuildTrie.l0 k1 t337 l0 (l0.length : Int) (wrap64 (zq + 1))) = some (r1, r2) := H
       have A10 := kz A100
       clear A100
       have H' := kz H
       clear H
       have p335 : 0 ≤ (zq : Int) := of_decide_eq_true (by (with_reducible assumption))
       have q335 : zq < (l0.length : Int) := of_decide_eq_true (by (with_reducible assumption))
       obtain ⟨ad335, e335, hx335_0, hx335_1, hx335_2⟩ := at_T39 HR0.1 zq p335 q335
       cases e335
       try replace hx335_0 := (HB.1.cell (World.block_lt_of_cell? w _ hx335_0)).trans hx335_0
       try replace hx335_1 := (HB.1.cell (World.block_lt_of_cell? w _ hx335_1)).trans hx335_1
       try replace hx335_2 := (HB.1.cell (World.block_lt_of_cell? w _ hx335_2)).trans hx335_2
       replace p335 := eq_true p335
       replace q335 := eq_true q335
       go_wp2_with (first | ((with_reducible refine gate_dst (N := 6) rfl ?_); refine box_event ?hg (N := 6) ?hd (cs := #[.int .i64 0, .int .i64 0, .int .i64 0]) (t := 39) ?hr ?_; (case hd => rfl); (case hg => rfl); (case hr => (go_simp; done)); intro gb336 hg w11 hbox hb; replace HO_4 := kz (Kd.R_below HO_4.1 hb); have zs := kz hbox; have GE336 := kz ((by rw [hg]; exact (ze HB.1) : w.heap.size ≤ gb336)); replace HB := kz (zd HB.1 hb); clear hb hbox hg; have hcz12_0 : w11.cell? ⟨gb336, 0, none⟩ = some (.int .i64 0) := (zn zs.1 0).trans rfl; have hcz12_1 : w11.cell? ⟨gb336, 1, none⟩ = some (.int .i64 0) := (zn zs.1 1).trans rfl; have hcz12_2 : w11.cell? ⟨gb336, 2, none⟩ = some (.int .i64 0) := (zn zs.1 2).trans rfl; have hfz12_0 := zi zs.1 0; have hfz12_1 := zi zs.1 1; have hfz12_2 := zi zs.1 2; obtain ⟨Ao13, co13, eo13⟩ := Kd.R_slice HO_4.1; subst eo13) | ((with_reducible refine gate_callee (f := 76) rfl ?_); refine goesL_ (some 23) rfl rfl Try.func76 (by kernel_rfl) rfl #[.slice Ao13 x4_1.length co13, .agg #[.int .i64 ((rd_T39 l0 zq).f0.f0), .int .i64 ((rd_T39 l0 zq).f0.f1)], .int .i64 ((rd_T39 l0 zq).f1)] rfl (by (try simp only [kg, ke, kb]); rfl) ?_; (with_reducible refine (impl_inserted.calls k1 _ _ x4_1 ((rd_T39 l0 zq).f0.f0) ((rd_T39 l0 zq).f0.f1) ((rd_T39 l0 zq).f1) t337 _ ?side1 ?side2 A10.1).mono ?_); (case side1 => refine (Kd.R_reads' (e := 86) (base := w.heap.size) (ok := fun k_ => True) (n := x4_1.length) (c := co13) ?_).2.2; exact (by exact (Kd.R_mono (zj (p := ⟨gb336, 2, none⟩) (zj (p := ⟨gb336, 1, none⟩) (zj (p := ⟨gb336, 0, none⟩) (Kd.R_types HO_4.1 zs.1 (by decide)) (fun _ hk => hk.2) (.int .i64 ((rd_T39 l0 zq).f0.f0))) (fun _ hk => hk.2) (.int .i64 ((rd_T39 l0 zq).f0.f1))) (fun _ hk => hk.2) (.int .i64 ((rd_T39 l0 zq).f1))) (fun _ h_ => h_.1)))); (case side2 => exact (Kd.R_reads' HO_4.1).2.1); rintro e w14 ⟨v338, rfl, ho0, hb⟩; refine ⟨_, rfl, ?_⟩; have HO339 := kz (Kd.R_lower (Kd.R_new' ho0 (Kd.R_lt (by exact (Kd.R_mono (zj (p := ⟨gb336, 2, none⟩) (zj (p := ⟨gb336, 1, none⟩) (zj (p := ⟨gb336, 0, none⟩) (Kd.R_types HO_4.1 zs.1 (by decide)) (fun _ hk => hk.2) (.int .i64 ((rd_T39 l0 zq).f0.f0))) (fun _ hk => hk.2) (.int .i64 ((rd_T39 l0 zq).f0.f1))) (fun _ hk => hk.2) (.int .i64 ((rd_T39 l0 zq).f1))) (fun _ h_ => h_.1))))) (ze (by repeat ((with_reducible first | exact HB.1 | refine zk ?_ GE336.1))))); replace HO_4 := kz (Kd.R_elder' (by exact (Kd.R_mono (zj (p := ⟨gb336, 2, none⟩) (zj (p := ⟨gb336, 1, none⟩) (zj (p := ⟨gb336, 0, none⟩) (Kd.R_types HO_4.1 zs.1 (by decide)) (fun _ hk => hk.2) (.int .i64 ((rd_T39 l0 zq).f0.f0))) (fun _ hk => hk.2) (.int .i64 ((rd_T39 l0 zq).f0.f1))) (fun _ hk => hk.2) (.int .i64 ((rd_T39 l0 zq).f1))) (fun _ h_ => h_.1))) (Kd.R_base ho0) hb); replace HB := kz (zd (by repeat ((with_reducible first | exact HB.1 | refine zk ?_ GE336.1))) hb); (try clear hb); (try clear hb2); (try clear hk); (try clear hi); (try clear ho0)))
       go_roundg k1
       case measure => have := HK1.1; omega
       case rel => exact ⟨(t337), (wrap64 (zq + 1)), (by rfl), H', ⟨by have := HK1.1; omega⟩, ⟨by exact Kd.R_mono HO339.1 (fun _ hk => trivial)⟩, ⟨by exact HB.1⟩⟩
      ·
       rw [if_neg c9] at H
       exact absurd H (by simp)
     ·
      rw [if_neg c8] at H
      exact absurd H (by simp)
    ·
     rw [if_neg c7] at H
     have c7b0 : decide (zq < (l0.length : Int)) = false := decide_eq_false c7
     clear c7
     replace H := kf.mp H
     obtain ⟨t340, A150, H⟩ := H
     replace H : (if t340 = true then (some (x4_1, true)) else (some (([] : List (S86)), false))) = some (r1, r2) := H
     have A15 := kz A150
     clear A150
     by_cases c16 : t340 = true
     ·
      subst c16
      have H1 : (some (x4_1, true)) = some (r1, r2) := by rw [if_pos rfl] at H; exact H
      clear H
      have H := H1
      clear H1
      simp only [Option.some.injEq, Prod.mk.injEq] at H
      obtain ⟨rfl, rfl⟩ := H
      obtain ⟨Ao17, co17, eo17⟩ := Kd.R_slice HO_4.1
      subst eo17
      go_wp2_with (((with_reducible refine gate_callee (f := 21) rfl ?_); refine goesL_ (some 26) rfl rfl Try.func21 (by kernel_rfl) rfl #[.slice Ao17 x4_1.length co17] rfl (by (try simp only [kg, ke, kb]); rfl) ?_; (with_reducible refine (impl_GoodTrie.calls k1 _ _ x4_1 true _ ?side1 ?side2 A15.1).mono ?_); (case side1 => repeat (exact (Kd.R_reads' HO_4.1).2.2)); (case side2 => exact (Kd.R_reads' HO_4.1).2.1); rintro e w18 ⟨rfl, hb⟩; refine ⟨_, rfl, ?_⟩; replace HO_4 := kz (Kd.R_below HO_4.1 hb); replace HB := kz (zd HB.1 hb); (try clear hb); (try clear hb2); (try clear hk); (try clear hi)))
      go_ret2
      exact ⟨_, by rfl, by exact HO_4.1, by exact HB.1⟩
     ·
      replace c16 := Bool.eq_false_iff.mpr c16
      subst c16
      have H1 : (some (([] : List (S86)), false)) = some (r1, r2) := by rw [if_neg (show ¬ (false = true) by decide)] at H; exact H
      clear H
      have H := H1
      clear H1
      simp only [Option.some.injEq, Prod.mk.injEq] at H
      obtain ⟨rfl, rfl⟩ := H
      obtain ⟨Ao19, co19, eo19⟩ := Kd.R_slice HO_4.1
      subst eo19
      go_wp2_with (((with_reducible refine gate_callee (f := 21) rfl ?_); refine goesL_ (some 26) rfl rfl Try.func21 (by kernel_rfl) rfl #[.slice Ao19 x4_1.length co19] rfl (by (try simp only [kg, ke, kb]); rfl) ?_; (with_reducible refine (impl_GoodTrie.calls k1 _ _ x4_1 false _ ?side1 ?side2 A15.1).mono ?_); (case side1 => repeat (exact (Kd.R_reads' HO_4.1).2.2)); (case side2 => exact (Kd.R_reads' HO_4.1).2.1); rintro e w20 ⟨rfl, hb⟩; refine ⟨_, rfl, ?_⟩; replace HB := kz (zd HB.1 hb); (try clear hb); (try clear hb2); (try clear hk); (try clear hi)))
      go_ret2
      exact ⟨_, by rfl, by exact Kd.R_nil _ _ _ _ _, by exact HB.1⟩
 ·
  replace c3 := Bool.eq_false_iff.mpr c3
  subst c3
  have H1 : (some (([] : List (S86)), false)) = some (r1, r2) := by rw [if_neg (show ¬ (false = true) by decide)] at H; exact H
  clear H
  have H := H1
  clear H1
  simp only [Option.some.injEq, Prod.mk.injEq] at H
  obtain ⟨rfl, rfl⟩ := H
  go_enter Try.func38, Try.ntmps38
  go_wp2_with (((with_reducible refine gate_callee (f := 16) rfl ?_); refine goesL_ (some 8) rfl rfl Try.func16 (by kernel_rfl) rfl #[.slice A0 l0.length c0] rfl (by (try simp only [kg, ke, kb]); rfl) ?_; (with_reducible refine (impl_GoodTable.calls k _ _ l0 false _ ?side1 ?side2 A2.1).mono ?_); (case side1 => repeat (exact HR0.1)); (case side2 => exact HC0.1); rintro e w21 ⟨rfl, hb⟩; refine ⟨_, rfl, ?_⟩; replace HB := kz (zd HB.1 hb); (try clear hb); (try clear hb2); (try clear hk); (try clear hi)))
  go_ret2
  exact ⟨_, by rfl, by exact Kd.R_nil _ _ _ _ _, by exact HB.1⟩
/-! ### slices_Index_impl_Prefix_impl_Prefix: function 78 -/
def slices_Index_impl_Prefix_impl_Prefix.l0 : Nat → List (S37) → Int → Int → Int → Int → Option (Int)
 | 0, _, _, _, _, _ => none
 | k + 1, x0, x7, x8, x342000, x342001 => if x8 < x7 then (if 0 ≤ x8 then (if x8 < (x0.length : Int) then (if (x342000 == ((rd_T37 x0 x8).f0) && (x342001 == ((rd_T37 x0 x8).f1))) = true then (some x8) else (slices_Index_impl_Prefix_impl_Prefix.l0 k x0 x7 (wrap64 (x8 + 1)) x342000 x342001)) else (none)) else (none)) else (some (-1))
def slices_Index_impl_Prefix_impl_Prefix.f (k : Nat) (l0 : List (S37)) (a1_0 : Int) (a1_1 : Int) : Option (Int) := slices_Index_impl_Prefix_impl_Prefix.l0 k l0 (l0.length : Int) 0 a1_0 a1_1
theorem slices_Index_impl_Prefix_impl_Prefix.calls (k : Nat) (A0 : Option Addr) (c0 : Nat) (l0 : List (S37)) (a1_0 : Int) (a1_1 : Int) (r : Int) (w : World) (hr0 : Kd.C k37 w A0 l0.length l0) (hc0 : l0.length ≤ c0) (h : slices_Index_impl_Prefix_impl_Prefix.f k l0 a1_0 a1_1 = some r) :
  Calls Try.prog 78 #[.slice A0 l0.length c0, .agg #[.int .i64 a1_0, .int .i64 a1_1]] w fun e w' => e = .returned (.int .i64 r) ∧ Below w.heap.size w w' := by
 have hu37 := Try.underlying37
 have HR0 := kz hr0
 have HC0 := kz hc0
 clear hr0 hc0
 have HB := kz (Below.refl w.heap.size w)
 have H : (slices_Index_impl_Prefix_impl_Prefix.l0 k l0 (l0.length : Int) 0 a1_0 a1_1) = some r := h
 clear h
 have H' := kz H
 clear H
 go_enter Try.func78, Try.ntmps78
 go_wp2_with (((with_reducible refine gate_dst (N := 3) rfl ?_); refine box_event ?hg (N := 3) ?hd (cs := #[.int .i64 a1_0, .int .i64 a1_1]) (t := 37) ?hr ?_; (case hd => rfl); (case hg => rfl); (case hr => (go_simp; done)); intro gb341 hg w3 hbox hb; replace HB := kz (zd HB.1 hb); have zr := kz hbox; clear hb hbox hg))
 repeat (go_quiet (fail); try go_wp2_with (fail))
 go_loopg [8] k (fun kq v8 w' => ∃ (x8_1 : Int), v8 = .int .i64 x8_1 ∧ zp (slices_Index_impl_Prefix_impl_Prefix.l0 kq l0 (l0.length : Int) x8_1 a1_0 a1_1 = some r) ∧ zp (kq ≤ k) ∧ zp (w'.heap[gb341]? = some (.cells #[.int .i64 a1_0, .int .i64 a1_1] 37 (0, 0))) ∧ zp (Below w.heap.size w w'))
 case atStart => exact ⟨(0), (by rfl), H', ⟨Nat.le_refl _⟩, ⟨by exact zr.1⟩, ⟨by exact HB.1⟩⟩
 case round =>
  clear H'
  (try clear p2)
  obtain ⟨x8_1, rfl, HA, HK1, zr, HB⟩ := hrel
  cases gk with
  | zero => exact absurd HA.1 (by simp [slices_Index_impl_Prefix_impl_Prefix.l0])
  | succ k1 =>
   have H := HA.1
   clear HA
   simp only [slices_Index_impl_Prefix_impl_Prefix.l0] at H
   by_cases c4 : x8_1 < (l0.length : Int)
   ·
    rw [if_pos c4] at H
    have c4b0 : decide (x8_1 < (l0.length : Int)) = true := decide_eq_true c4
    clear c4
    by_cases c5 : 0 ≤ x8_1
    ·
     rw [if_pos c5] at H
     have c5b0 : decide (0 ≤ x8_1) = true := decide_eq_true c5
     clear c5
     by_cases c6 : x8_1 < (l0.length : Int)
     ·
      rw [if_pos c6] at H
      have c6b0 : decide (x8_1 < (l0.length : Int)) = true := decide_eq_true c6
      clear c6
      by_cases c7 : (a1_0 == ((rd_T37 l0 x8_1).f0) && (a1_1 == ((rd_T37 l0 x8_1).f1))) = true
      ·
       rw [if_pos c7] at H
       have c7b0 : (a1_0 == ((rd_T37 l0 x8_1).f0) && (a1_1 == ((rd_T37 l0 x8_1).f1))) = true := c7
       (try (have c7b1 : decide (a1_0 = ((rd_T37 l0 x8_1).f0) && (a1_1 == ((rd_T37 l0 x8_1).f1))) = true := by simpa using c7))
       (try (have c7b2 : (a1_0 == ((rd_T37 l0 x8_1).f0) && (a1_1 == ((rd_T37 l0 x8_1).f1))) = true := by simpa using c7))
       clear c7
       obtain rfl := Option.some.inj H
       have hcz8_0 : wr.cell? ⟨gb341, 0, none⟩ = some (.int .i64 a1_0) := (zn zr.1 0).trans rfl
       have hcz8_1 : wr.cell? ⟨gb341, 1, none⟩ = some (.int .i64 a1_1) := (zn zr.1 1).trans rfl
       have hfz8_0 := zi zr.1 0
       have hfz8_1 := zi zr.1 1
       have p342 : 0 ≤ (x8_1 : Int) := of_decide_eq_true (by (with_reducible assumption))
       have q342 : x8_1 < (l0.length : Int) := of_decide_eq_true (by (with_reducible assumption))
       obtain ⟨ad342, e342, hx342_0, hx342_1⟩ := at_T37 HR0.1 x8_1 p342 q342
       cases e342
       try replace hx342_0 := (HB.1.cell (World.block_lt_of_cell? w _ hx342_0)).trans hx342_0
       try replace hx342_1 := (HB.1.cell (World.block_lt_of_cell? w _ hx342_1)).trans hx342_1
       replace p342 := eq_true p342
       replace q342 := eq_true q342
       go_wp2
       repeat (go_quiet (fail); try go_wp2)
       go_ret
       exact ⟨by rfl, by repeat ((with_reducible first | exact HB.1 | apply za))⟩
      ·
       rw [if_neg c7] at H
       have c7b0 : (a1_0 == ((rd_T37 l0 x8_1).f0) && (a1_1 == ((rd_T37 l0 x8_1).f1))) = false := by simpa using c7
       (try (have c7b1 : decide (a1_0 = ((rd_T37 l0 x8_1).f0) && (a1_1 == ((rd_T37 l0 x8_1).f1))) = false := by simpa using c7))
       (try (have c7b2 : (a1_0 == ((rd_T37 l0 x8_1).f0) && (a1_1 == ((rd_T37 l0 x8_1).f1))) = false := by simpa using c7))
       (try (have c7b3 : ¬ (a1_0 = ((rd_T37 l0 x8_1).f0) && (a1_1 == ((rd_T37 l0 x8_1).f1))) := by simpa using c7))
       clear c7
       have H' := kz H
       clear H
       have hcz9_0 : wr.cell? ⟨gb341, 0, none⟩ = some (.int .i64 a1_0) := (zn zr.1 0).trans rfl
       have hcz9_1 : wr.cell? ⟨gb341, 1, none⟩ = some (.int .i64 a1_1) := (zn zr.1 1).trans rfl
       have hfz9_0 := zi zr.1 0
       have hfz9_1 := zi zr.1 1
       have p342 : 0 ≤ (x8_1 : Int) := of_decide_eq_true (by (with_reducible assumption))
       have q342 : x8_1 < (l0.length : Int) := of_decide_eq_true (by (with_reducible assumption))
       obtain ⟨ad342, e342, hx342_0, hx342_1⟩ := at_T37 HR0.1 x8_1 p342 q342
       cases e342
       try replace hx342_0 := (HB.1.cell (World.block_lt_of_cell? w _ hx342_0)).trans hx342_0
       try replace hx342_1 := (HB.1.cell (World.block_lt_of_cell? w _ hx342_1)).trans hx342_1
       replace p342 := eq_true p342
       replace q342 := eq_true q342
       go_wp2
       repeat (go_quiet (fail); try go_wp2)
       go_roundg k1
       case measure => have := HK1.1; omega
       case rel => exact ⟨(wrap64 (x8_1 + 1)), (by rfl), H', ⟨by have := HK1.1; omega⟩, ⟨by (with_reducible repeat (refine blk_drewN ?_ _)); exact zr.1⟩, ⟨by repeat ((with_reducible first | exact HB.1 | apply za))⟩⟩
     ·
      rw [if_neg c6] at H
      exact absurd H (by simp)
    ·
     rw [if_neg c5] at H
     exact absurd H (by simp)
   ·
    rw [if_neg c4] at H
    have c4b0 : decide (x8_1 < (l0.length : Int)) = false := decide_eq_false c4
    clear c4
    obtain rfl := Option.some.inj H
    go_wp2
    repeat (go_quiet (fail); try go_wp2)
    go_ret
    exact ⟨by rfl, by exact HB.1⟩
/-- 'clear(s)', s one element of some cells. -/
theorem run_clear_one {P : Program} (w : World) (t e ty : TypeId) (z : Value) (cs : List Value) (ht : P.underlying t = some (.slice e)) (hv : ∀ w, (zeroValue e).run P w = .ok z w) (hz : z.cells.toList = cs) (h1 : ∀ u ∈ cs, u.oneCell' = true) (b o c : Nat)
  (hc : ∀ j, j < cs.length → (w.cell? ⟨b, o + j, none⟩).isSome = true) (hf : ∀ j, j < cs.length → w.frozen? ⟨b, o + j, none⟩ = false) :
  (Builtin.clear_ #[t] ty #[.slice (some ⟨b, o, none⟩) 1 c]).run P w = .ok (.tuple #[]) (w.setCells b o cs) := by
 have hzc : (Builtin.zeroCells z.cells 1).toList = cs := by
  rw [← hz]
  simp [Builtin.zeroCells]
  apply List.ext_getElem
  ·
   simp
  ·
   intro i h1 h2
   simp at h1 h2
   simp [Nat.mod_eq_of_lt h2, getElem!_pos, h2]
 have hst := run_storeCells_cells (P := P) b o cs 0 w (by simpa using hc) (by simpa using hf) h1
 simp only [Nat.add_zero] at hst
 simp [Builtin.clear_, run_underlying ht, hv, hzc, hst]
theorem zero39 : ∀ w, (zeroValue 39).run Try.prog w = .ok (.agg #[(.int .i64 0), (.int .i64 0), (.int .i64 0)]) w := fun w => by
 have := info39
 cases h : Try.prog.info? 39 with
 | none => rw [h] at this; cases this
 | some i0 =>
  rw [h] at this
  have hz : i0.zero = some (.agg #[(.int .i64 0), (.int .i64 0), (.int .i64 0)]) := congrArg (fun o => (o.map (fun x => x.1)).getD none) this
  simp [zeroValue, typeInfo, h, hz]
theorem slices_Delete_impl_Entry_impl_Entry_row (w : World) (g n c i j : Nat) (cur : Array Value) (hg : w.heap[g]? = some (.cells cur 39 (0, 0))) (hnc : n ≤ c) (hc : c ≤ maxLen) (hcur : cur.size = c * 3) (hij : i < j) (hj : j ≤ n) (hone : j = i + 1) (h1 : ∀ u ∈ cur.toList.take (n * 3), u.oneCell' = true) :
  Calls Try.prog 79 #[.slice (some ⟨g, 0, none⟩) n c, .int .i64 (i : Nat), .int .i64 (j : Nat)] w fun e w' => e = .returned (.slice (some ⟨g, 0, none⟩) (n - 1) c) ∧ w' = (w.drew.setCells g (0 + i * 3) ((cur.toList.take (n * 3)).drop (j * 3))).setCells g ((n - 1) * 3) [.int .i64 0, .int .i64 0, .int .i64 0] := by
 have hu25 := Try.underlying25
 obtain ⟨i0, hi0, hz1⟩ : ∃ i0, Try.prog.info? 39 = some i0 ∧ i0.size = 3 := by
  have := info39
  cases h : Try.prog.info? 39 with
  | none => rw [h] at this; cases this
  | some i0 =>
   rw [h] at this
   exact ⟨i0, rfl, by simpa using congrArg (fun o => (o.map (fun x => x.2.1)).getD 0) this⟩
 obtain ⟨news, hnews⟩ : ∃ news, news = (cur.toList.take (n * 3)).drop (j * 3) := ⟨_, rfl⟩
 have hcl : cur.toList.length = c * 3 := by rw [Array.length_toList]; exact hcur
 have hn3 : n * 3 ≤ c * 3 := kk 3 hnc
 have hlen : news.length = (n - j) * 3 := by rw [hnews, kv, ky]; omega
 obtain ⟨A, hA, hsrc⟩ : ∃ A : Addr, (if c = j then some (⟨g, 0, none⟩ : Addr) else some ⟨g, j * 3, none⟩) = some A ∧ Hid (∀ t u, news[t]? = some u → w.drew.cell? (A.add t) = some u) := by
  by_cases h : c = j
  ·
   refine ⟨⟨g, 0, none⟩, by simp [h], fun t u hu => ?_⟩
   have h0 : news.length = 0 := by rw [hlen]; omega
   rw [List.length_eq_zero_iff.1 h0] at hu
   simp at hu
  ·
   refine ⟨⟨g, j * 3, none⟩, by simp [h], fun t u hu => ?_⟩
   rw [hnews, List.getElem?_drop, List.getElem?_take] at hu
   split at hu
   ·
    rw [Addr.add_lit]
    show w.cell? _ = some u
    rw [cell_of_row w g _ cur 39 (0, 0) hg, ← hu, Array.getElem?_toList]
   ·
    cases hu
 have s1 : Hid (news.length = (n - j) * 3) := hlen
 have s2 : Hid (∀ u ∈ news, u.oneCell' = true) := fun u hu => h1 u (List.mem_of_mem_drop (by rw [← hnews]; exact hu))
 have s3 : Hid (∀ t, t < news.length → (w.drew.cell? ⟨g, 0 + i * 3 + t, none⟩).isSome = true ∧ w.drew.frozen? ⟨g, 0 + i * 3 + t, none⟩ = false) := by
  intro t ht
  rw [hlen] at ht
  refine ⟨?_, ?_⟩
  ·
   show (w.cell? _).isSome = true
   rw [cell_of_row w g _ cur 39 (0, 0) hg, Array.getElem?_eq_getElem (by omega)]
   rfl
  ·
   show w.frozen? _ = false
   exact frozen_of_row w g _ cur 39 hg
 obtain ⟨W1, hW1⟩ : ∃ W1, W1 = w.drew.setCells g (0 + i * 3) news := ⟨_, rfl⟩
 obtain ⟨cur1, q1, q2, q3⟩ := setCells_row (g := g) (e := 39) news (0 + i * 3) w.drew cur hg (by rw [hlen]; omega)
 rw [← hW1] at q1
 have hclr : ∀ ty, (Builtin.clear_ #[25] ty #[.slice (some ⟨g, (i + (n - j)) * 3, none⟩) (n - (i + (n - j))) (c - (i + (n - j)))]).run Try.prog W1 = .ok (.tuple #[]) (W1.setCells g ((n - 1) * 3) [.int .i64 0, .int .i64 0, .int .i64 0]) := fun ty => by
  rw [show n - (i + (n - j)) = 1 by omega, show (i + (n - j)) * 3 = (n - 1) * 3 by omega]
  exact run_clear_one W1 25 39 ty _ [.int .i64 0, .int .i64 0, .int .i64 0] Try.underlying25 zero39 rfl (by simp [Value.oneCell']) g _ _ (fun j hj => by
   rw [cell_of_row W1 g _ cur1 39 (0, 0) q1, Array.getElem?_eq_getElem (by simp at hj; omega)]; rfl) (fun j hj => frozen_of_row W1 g _ cur1 39 q1)
 have hW : Hid (W1 = w.drew.setCells g (0 + i * 3) news) := hW1
 have hic : i ≤ c := by omega
 have hjc : j ≤ c := by omega
 have hcm : c ≤ 9223372036854775807 := by simp only [maxLen] at hc; omega
 have hX : Hid (news = (cur.toList.take (n * 3)).drop (j * 3)) := hnews
 clear hnews hg hcur h1 hcl hlen hW1 q1 q2 q3
 have hone' : Hid (j = i + 1) := hone
 clear hone
 have hsz : Try.prog.info? 39 = some i0 := hi0
 go_enter Try.func79, Try.ntmps79
 go_wp2_with fail
 go_region_law (refine step_append_room rfl (.tmp 22) (.tmp 25) 25 rfl 39 i0 3 Try.underlying25 hi0 hz1 g 0 i c (by simp [Act.eval, Act.put]) A (n - j) (c - j) news (by simp [Act.eval, Act.put, hA]) s1.out hsrc.out s2.out (by omega) s3.out ?_; rw [← hW.out])
 go_wp2
 go_ret
 refine ⟨by rw [show n - 1 = i + (n - j) by have := hone'.out; omega]; rfl, ?_⟩
 rw [hW.out, hX.out]
/-- slices.Delete of one element: elsewhere its answer isn't told. -/
def slices_Delete_impl_Entry_impl_Entry.f (l0 : List S39) (a1 a2 : Int) : Option (List S39) := if 0 ≤ a1 ∧ a1 < (l0.length : Int) ∧ a2 = a1 + 1 then some (l0.take a1.toNat ++ l0.drop a2.toNat) else none
theorem reps_cut {α : Type} {R : α → List Value → Prop} {size : Nat} {ps : List α} {cs : List Value} (h : Reps R size ps cs) (i : Nat) (hi : i < ps.length) : Reps R size (ps.take i ++ ps.drop (i + 1)) (cs.take (i * size) ++ cs.drop ((i + 1) * size)) := by
 obtain ⟨h1, h2⟩ := h
 have hs : (i + 1) * size = i * size + size := Nat.succ_mul i size
 have hle : (i + 1) * size ≤ cs.length := by rw [h1]; exact kk _ hi
 have hl : (cs.take (i * size)).length = i * size := by rw [ky]; omega
 refine ⟨?_, fun j p hj => ?_⟩
 ·
  have hA : (i + (ps.length - (i + 1))) * size = i * size + (ps.length * size - (i + 1) * size) := by rw [Nat.add_mul, Nat.sub_mul]
  rw [kj, hl, kv, h1, kj, ky, kv, show min i ps.length = i by omega, hA]
 ·
  by_cases hji : j < i
  ·
   rw [List.getElem?_append_left (by rw [ky]; omega), List.getElem?_take, if_pos hji] at hj
   have hm : (j + 1) * size ≤ i * size := kk _ hji
   rw [Nat.succ_mul] at hm
   rw [List.drop_append_of_le_length (by omega), kh (by rw [kv]; omega), List.drop_take, List.take_take, show min size (i * size - j * size) = size by omega]
   exact h2 j p hj
  ·
   rw [List.getElem?_append_right (by rw [ky]; omega), ky, show min i ps.length = i by omega, List.getElem?_drop] at hj
   have hm : i * size ≤ j * size := kk _ (by omega)
   have e : (cs.take (i * size) ++ cs.drop ((i + 1) * size)).drop (j * size) = cs.drop ((j + 1) * size) := by
    rw [List.drop_append, hl, List.drop_of_length_le (by omega), List.nil_append, List.drop_drop]
    congr 1
    rw [Nat.succ_mul j size]
    omega
   rw [e]
   exact h2 (j + 1) p (by rw [← hj]; congr 1; omega)
theorem slices_Delete_impl_Entry_impl_Entry.calls (v0 : Value) (l0 : List S39) (a1 a2 : Int) (base : Nat) (r : List S39) (w : World) (hr0 : Kd.R k39 39 w base (fun _ => True) v0 l0) (h : slices_Delete_impl_Entry_impl_Entry.f l0 a1 a2 = some r) :
  Calls Try.prog 79 #[v0, .int .i64 a1, .int .i64 a2] w fun e w' => ∃ v0_ : Value, e = .returned (v0_) ∧ Kd.R k39 39 w' base (fun _ => True) v0_ r ∧ w.grownBy w' v0.ownBlock := by
 unfold slices_Delete_impl_Entry_impl_Entry.f at h
 by_cases hc : 0 ≤ a1 ∧ a1 < (l0.length : Int) ∧ a2 = a1 + 1
 case neg => rw [if_neg hc] at h; cases h
 rw [if_pos hc] at h
 obtain rfl := Option.some.inj h
 obtain ⟨i0, i1, rfl⟩ := hc
 obtain ⟨i, rfl⟩ := Int.eq_ofNat_of_zero_le i0
 have hi : i < l0.length := by omega
 obtain ⟨_, inner, hown, hreps⟩ := hr0
 rcases hown.2 with ⟨rfl, hn⟩ | ⟨g, cap, cur, rfl, hb, hg, hnc, hcm, hcur, htake⟩
 ·
  omega
 have hin : ∀ u ∈ inner, u.oneCell' = true := fun u hu => by
  obtain ⟨q, hq, rfl⟩ := List.mem_iff_getElem.1 hu
  have hsz : k39.sz = 3 := rfl
  have hlen : inner.length = l0.length * 3 := hown.1
  have hql : q / 3 < l0.length := by omega
  have hM := hreps.2 (q / 3) _ (List.getElem?_eq_getElem hql)
  refine k39.K_one (k39.K_of_M hM) _ ?_
  rw [hsz]
  refine List.mem_iff_getElem?.2 ⟨q % 3, ?_⟩
  rw [List.getElem?_take, if_pos (Nat.mod_lt _ (by omega)), List.getElem?_drop, show q / 3 * 3 + q % 3 = q by omega, List.getElem?_eq_getElem hq]
 have hcur' : cur.size = cap * 3 := hcur
 have htake' : cur.toList.take (l0.length * 3) = inner := htake
 refine ((slices_Delete_impl_Entry_impl_Entry_row w g l0.length cap i (i + 1) cur hg hnc hcm hcur' (by omega) (by omega) rfl (by rw [htake']; exact hin))).mono ?_
 rintro e w' ⟨rfl, rfl⟩
 have hcl : cur.toList.length = cap * 3 := by rw [Array.length_toList]; exact hcur'
 have hn3 : l0.length * 3 ≤ cap * 3 := kk 3 hnc
 have hil : inner.length = l0.length * 3 := hown.1
 rw [htake']
 have hnl : (inner.drop ((i + 1) * 3)).length = (l0.length - (i + 1)) * 3 := by rw [kv]; omega
 obtain ⟨cur1, q1, q2, q3⟩ := setCells_row (g := g) (e := 39) (inner.drop ((i + 1) * 3)) (0 + i * 3) w.drew cur hg (by rw [hnl]; omega)
 obtain ⟨cur2, p1, p2, p3⟩ := setCells_row (g := g) (e := 39) [.int .i64 0, .int .i64 0, .int .i64 0] ((l0.length - 1) * 3) (w.drew.setCells g (0 + i * 3) (inner.drop ((i + 1) * 3))) cur1 q1 (by simp; omega)
 obtain ⟨s1, s2, s3, s4⟩ := setCells_same g (inner.drop ((i + 1) * 3)) (0 + i * 3) w.drew
 obtain ⟨t1, t2, t3, t4⟩ := setCells_same g [.int .i64 0, .int .i64 0, .int .i64 0] ((l0.length - 1) * 3) (w.drew.setCells g (0 + i * 3) (inner.drop ((i + 1) * 3)))
 have hfar : ∀ k, k ≠ g → ((w.drew.setCells g (0 + i * 3) (inner.drop ((i + 1) * 3))).setCells g ((l0.length - 1) * 3) [.int .i64 0, .int .i64 0, .int .i64 0]).heap[k]? = w.heap[k]? := fun k hk => by
  rw [setCells_far _ _ k hk, setCells_far _ _ k hk]
  rfl
 have hgrown : w.grownBy ((w.drew.setCells g (0 + i * 3) (inner.drop ((i + 1) * 3))).setCells g ((l0.length - 1) * 3) [.int .i64 0, .int .i64 0, .int .i64 0]) (some g) :=
  ⟨t1.trans s1, t2.trans s2, t3.trans s3, by rw [t4, s4]; exact Nat.le_refl _, fun k _ hk => hfar k (fun e => hk (by rw [e]))⟩
 have hlen' : (l0.take ((i : Nat) : Int).toNat ++ l0.drop (((i : Nat) : Int) + 1).toNat).length = l0.length - 1 := by
  rw [kj, ky, kv]; omega
 have hcut := reps_cut hreps i hi
 have e1 : (((i : Nat) : Int)).toNat = i := by omega
 have e2 : (((i : Nat) : Int) + 1).toNat = i + 1 := by omega
 rw [e1, e2] at hlen' ⊢
 refine ⟨.slice (some ⟨g, 0, none⟩) (l0.length - 1) cap, rfl, ⟨fun _ _ => trivial, inner.take (i * 3) ++ inner.drop ((i + 1) * 3), ?_, ?_⟩, hgrown⟩
 ·
  rw [hlen']
  refine ⟨by rw [kj, ky, hnl]; show _ = (l0.length - 1) * 3; omega, .inr ⟨g, cap, cur2, rfl, hb, p1, by omega, hcm, by rw [p2, q2]; exact hcur, ?_⟩⟩
  show cur2.toList.take ((l0.length - 1) * 3) = _
  have h1 : (cur1.toList).take ((l0.length - 1) * 3) = inner.take (i * 3) ++ inner.drop ((i + 1) * 3) := by
   have e3 : cur.toList.take (0 + i * 3) = inner.take (i * 3) := by rw [← htake', List.take_take, Nat.zero_add, show min (i * 3) (l0.length * 3) = i * 3 by omega]
   rw [q3, e3, kh (by rw [kj, ky, hnl]; omega), List.take_of_length_le (by rw [kj, ky, hnl]; omega)]
  have hc1 : cur1.toList.length = cap * 3 := by rw [Array.length_toList, q2]; exact hcur'
  rw [p3, List.append_assoc, kh (by rw [ky]; omega), List.take_take, Nat.min_self, h1]
 ·
  exact hcut.imp_ (fun x cs hM => k39.M_mono (ok := fun k => True ∧ some k ≠ (Value.slice (some (⟨g, 0, none⟩ : Addr)) l0.length cap).ownBlock) (fun k hk => hk) (k39.M_move (fun k hk => hfar k (fun e => hk.2 (by rw [e]; rfl))) hM))
end Go.Proofs.Ytakoaogbkajkcaa.PFnExactRemoveFrom
