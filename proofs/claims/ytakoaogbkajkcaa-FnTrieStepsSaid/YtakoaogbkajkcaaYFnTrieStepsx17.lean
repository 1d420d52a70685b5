/- Go functions told by Lean functions, printed by a program. No condition but what each statement says. -/
import Derived.Test.YtakoaogbkajkcaaYFnTrieStepsx2
import Derived.Test.YtakoaogbkajkcaaYFnTrieStepsx3
import Derived.Test.YtakoaogbkajkcaaYFnTrieStepsx16
namespace Go.Proofs.Ytakoaogbkajkcaa.PFnTrieSteps
open Go.RowKit Go.Proofs.YtakoaogbkajkcaaW.PrintWords Go.Proofs.YtakoaogbkajkcaaW.PrintLast Go.Proofs.YtakoaogbkajkcaaW.PrintMore
open Aside0 renaming mk → kz
open List renaming setIfInBounds_toArray → ky, set_cons_zero → kj, set_cons_succ → kk, map_toArray → kh, map_cons → kf, map_nil → kb
open Option renaming bind_eq_some_iff → kv
open Option.some renaming inj → kg
open Act renaming put → ke
open Bool renaming true → kd, false → kc
set_option maxHeartbeats 8000000
set_option maxRecDepth 100000
open Go.Proofs.YtakoaogbkajkcaaW.PrintLast renaming i64_w → zv, i32_w → zw
open Go.Proofs.YtakoaogbkajkcaaW.PrintWords renaming below_drew1 → zb, blk_cell → ze, blk_drew → zl, below_step → zq, below_size → zs, Aside0 → zu
open Go.Proofs.YtakoaogbkajkcaaW.PrintWords.Drawn0 renaming step → zh, refl → zi
open Go.Proofs.YtakoaogbkajkcaaW.PrintWords.Kd renaming R_drew → zf, R_reads' → zg, R_below → zt
attribute [local go_sem] max2_int min2_int max_two min_two max_three min_three max_four min_four
set_option linter.unusedVariables false
set_option linter.unusedSimpArgs false
attribute [local go_sem high] eqA39 eqA86
/-- A state of type 39 at block g of W; what its slices lead to came in by w0. -/
def IsS39 (w0 W : World) (g : Nat) (f0 : Int) (f1 : Int) (f2 : Int) : Prop := W.heap[g]? = some (.cells #[.int .i64 f0, .int .i64 f1, .int .i64 f2] 39 (0, 0)) ∧ w0.heap.size ≤ g
/-! ### impl_RemoveFrom: function 40 -/
def impl_RemoveFrom.j0 : Nat → List (S39) → Bool → Int → Int → Option ((List (S86)) × Bool)
 | 0, _, _, _, _ => none
 | k + 1, x6, x20, x341000, x341001 => if x20 = true then (some (([] : List (S86)), false)) else ((impl_prefixesOf.f k x6).bind fun t346 => ((slices_Index_impl_Prefix_impl_Prefix.f k t346 x341000 x341001).bind fun t349 => (if t349 < 0 then (some (([] : List (S86)), false)) else ((slices_Delete_impl_Entry_impl_Entry.f x6 t349 (wrap64 (t349 + 1))).bind fun t350 => ((impl_BuildTrie.f k t350).bind fun bt353 => (some (bt353.1, bt353.2)))))))
def impl_RemoveFrom.f (k : Nat) (l0 : List (S86)) (a1_0 : Int) (a1_1 : Int) : Option ((List (S86)) × Bool) := (impl_TrieEntries.f k l0).bind fun bt341 => (if bt341.2 = true then ((impl_GoodPrefix.f a1_0 a1_1).bind fun t345 => (impl_RemoveFrom.j0 k bt341.1 (!t345) a1_0 a1_1)) else (impl_RemoveFrom.j0 k bt341.1 true a1_0 a1_1))
theorem impl_RemoveFrom.calls (k : Nat) (A0 : Option Addr) (c0 : Nat) (l0 : List (S86)) (a1_0 : Int) (a1_1 : Int) (r1 : List (S86)) (r2 : Bool) (w : World) (hr0 : Kd.C k86 w A0 l0.length l0) (hc0 : l0.length ≤ c0) (h : impl_RemoveFrom.f k l0 a1_0 a1_1 = some (r1, r2)) :
  Calls Try.prog 40 #[.slice A0 l0.length c0, .agg #[.int .i64 a1_0, .int .i64 a1_1]] w fun e w' => ∃ v0_ : Value, e = .returned (.tuple #[v0_, .bool r2]) ∧ Kd.R k86 86 w' w.heap.size (fun _ => True) v0_ r1 ∧ Below w.heap.size w w' := by
 have hu37 := Try.underlying37; have HR0 := kz hr0; have HC0 := kz hc0; clear hr0 hc0; have HB := kz (Below.refl w.heap.size w); have H : ((impl_TrieEntries.f k l0).bind fun bt341 => (if bt341.2 = true then ((impl_GoodPrefix.f a1_0 a1_1).bind fun t345 => (impl_RemoveFrom.j0 k bt341.1 (!t345) a1_0 a1_1)) else (impl_RemoveFrom.j0 k bt341.1 true a1_0 a1_1))) = some (r1, r2) := h; clear h; replace H := kv.mp H; obtain ⟨⟨t341, t342⟩, A30, H⟩ := H; replace H : (if t342 = true then ((impl_GoodPrefix.f a1_0 a1_1).bind fun t345 => (impl_RemoveFrom.j0 k t341 (!t345) a1_0 a1_1)) else (impl_RemoveFrom.j0 k t341 true a1_0 a1_1)) = some (r1, r2) := H; have A3 := kz A30; clear A30; have HC4 := kz H; clear H; go_enter Try.func40, Try.ntmps40; go_upto_region 2 with (first | ((with_reducible refine gate_dst (N := 3) rfl ?_); refine box_event rfl (N := 3) rfl (cs := #[.int .i64 a1_0, .int .i64 a1_1]) (t := 37) ?hr ?_; (case hr => go_simp; done); intro gb340 hg w5 hbox hb; replace HB := kz (zq HB.1 hb); have zy := kz hbox; clear hb hbox hg) | ((with_reducible refine gate_callee (f := 29) rfl ?_); refine goesL_ (some 11) rfl rfl Try.func29 (by kernel_rfl) rfl #[.slice A0 l0.length c0] rfl (by (try simp only [kh, kf, kb]); rfl) ?_; (with_reducible refine (impl_TrieEntries.calls k _ _ l0 t341 t342 _ ?side1 ?side2 A3.1).mono ?_); (case side1 => repeat (exact (Kd.C_below HR0.1 HB.1))); (case side2 => exact HC0.1); rintro e w6 ⟨v343, rfl, ho0, hb⟩; refine ⟨_, rfl, ?_⟩; have zB := kz (Kd.R_lower ho0 (zs HB.1)); replace zy := kz (blk_below zy.1 hb); replace HB := kz (zq HB.1 hb)))
 (try simp only [ke, ky, kj, kk]); go_cut [20] (fun v20 wc => ∃ (kq : Nat) (x20_3 : Bool), v20 = .bool x20_3 ∧ zu (impl_RemoveFrom.j0 kq t341 x20_3 a1_0 a1_1 = some (r1, r2)) ∧ zu (kq ≤ k) ∧ zu (Kd.R k39 39 wc w.heap.size (fun _ => True) v343 t341) ∧ zu (wc.heap[gb340]? = some (.cells #[.int .i64 a1_0, .int .i64 a1_1] 37 (0, 0))) ∧ zu (Below w.heap.size w wc))
 case first =>
  have H := HC4.1; clear HC4; by_cases c7 : t342 = true
  ·
   subst c7; have H1 : ((impl_GoodPrefix.f a1_0 a1_1).bind fun t345 => (impl_RemoveFrom.j0 k t341 (!t345) a1_0 a1_1)) = some (r1, r2) := by rw [if_pos rfl] at H; exact H
   clear H; have H := H1; clear H1; replace H := kv.mp H; obtain ⟨t345, A80, H⟩ := H; replace H : (impl_RemoveFrom.j0 k t341 (!t345) a1_0 a1_1) = some (r1, r2) := H; have A8 := kz A80; clear A80; have H' := kz H; clear H; have hcz9_0 : w6.cell? ⟨gb340, 0, none⟩ = some (.int .i64 a1_0) := (ze zy.1 0).trans rfl; have hcz9_1 : w6.cell? ⟨gb340, 1, none⟩ = some (.int .i64 a1_1) := (ze zy.1 1).trans rfl; have hfz9_0 := blk_frozen zy.1 0; have hfz9_1 := blk_frozen zy.1 1; go_wp2_with ((go_at_call 75; (with_reducible refine (impl_GoodPrefix.calls a1_0 a1_1 t345 _ A8.1).mono ?_); rintro e w10 ⟨rfl, hb⟩; replace zB := kz (zt zB.1 hb); replace zy := kz (blk_below zy.1 hb); replace HB := kz (zq HB.1 hb))); go_meet; case rel => exact ⟨_, (!t345), (by rfl), H', ⟨by omega⟩, ⟨by exact zB.1⟩, ⟨by exact zy.1⟩, ⟨by exact HB.1⟩⟩
  ·
   replace c7 := Bool.eq_false_iff.mpr c7; subst c7; have H1 : (impl_RemoveFrom.j0 k t341 true a1_0 a1_1) = some (r1, r2) := by rw [if_neg (show ¬ (false = true) by decide)] at H; exact H
   clear H; have H := H1; clear H1; have H' := kz H; clear H; go_wp2; go_meet; case rel => exact ⟨_, (true), (by rfl), H', ⟨by omega⟩, ⟨by exact zB.1⟩, ⟨by exact zy.1⟩, ⟨by exact HB.1⟩⟩
 case rest =>
  clear HC4; obtain ⟨kq, x20_3, rfl, HA, HJ3, HO_6, zy, HB⟩ := hcut; cases kq with
  | zero => exact absurd HA.1 (by simp [impl_RemoveFrom.j0])
  | succ kj3 =>
   have H := HA.1; clear HA; simp only [impl_RemoveFrom.j0] at H; by_cases c11 : x20_3 = true
   ·
    subst c11; have H1 : (some (([] : List (S86)), false)) = some (r1, r2) := by rw [if_pos rfl] at H; exact H
    clear H; have H := H1; clear H1; simp only [Option.some.injEq, Prod.mk.injEq] at H; obtain ⟨rfl, rfl⟩ := H; go_wp2; go_ret2; exact ⟨_, by rfl, by exact Kd.R_nil _ _ _ _ _, by exact HB.1⟩
   ·
    replace c11 := Bool.eq_false_iff.mpr c11; subst c11; have H1 : ((impl_prefixesOf.f kj3 t341).bind fun t346 => ((slices_Index_impl_Prefix_impl_Prefix.f kj3 t346 a1_0 a1_1).bind fun t349 => (if t349 < 0 then (some (([] : List (S86)), false)) else ((slices_Delete_impl_Entry_impl_Entry.f t341 t349 (wrap64 (t349 + 1))).bind fun t350 => ((impl_BuildTrie.f kj3 t350).bind fun bt353 => (some (bt353.1, bt353.2))))))) = some (r1, r2) := by rw [if_neg (show ¬ (false = true) by decide)] at H; exact H
    clear H; have H := H1; clear H1; replace H := kv.mp H; obtain ⟨t346, A120, H⟩ := H; replace H : ((slices_Index_impl_Prefix_impl_Prefix.f kj3 t346 a1_0 a1_1).bind fun t349 => (if t349 < 0 then (some (([] : List (S86)), false)) else ((slices_Delete_impl_Entry_impl_Entry.f t341 t349 (wrap64 (t349 + 1))).bind fun t350 => ((impl_BuildTrie.f kj3 t350).bind fun bt353 => (some (bt353.1, bt353.2)))))) = some (r1, r2) := H; have A12 := kz A120; clear A120; replace H := kv.mp H; obtain ⟨t349, A130, H⟩ := H; replace H : (if t349 < 0 then (some (([] : List (S86)), false)) else ((slices_Delete_impl_Entry_impl_Entry.f t341 t349 (wrap64 (t349 + 1))).bind fun t350 => ((impl_BuildTrie.f kj3 t350).bind fun bt353 => (some (bt353.1, bt353.2))))) = some (r1, r2) := H; have A13 := kz A130; clear A130; by_cases c14 : t349 < 0
    ·
     rw [if_pos c14] at H; have c14b0 : decide (t349 < 0) = true := decide_eq_true c14; clear c14; simp only [Option.some.injEq, Prod.mk.injEq] at H; obtain ⟨rfl, rfl⟩ := H; try go_wp2
     replace HO_6 := kz (zf HO_6.1); replace zy := kz (zl zy.1); replace HB := kz (zb HB.1); obtain ⟨Ao16, co16, eo16⟩ := Kd.R_slice HO_6.1; (subst eo16); refine start_ (n := 5) (S := fun w' => w'.cell? ⟨gb340, 0, none⟩ = some (.int .i64 a1_0) ∧ w'.cell? ⟨gb340, 1, none⟩ = some (.int .i64 a1_1)) (ds := []) #[kc,kc,kc,kc,kc] (by kernel_rfl) rfl rfl ⟨(ze zy.1 0).trans rfl, (ze zy.1 1).trans rfl⟩ (fun hHeld => ?_); generalize wc.drew = w15 at HO_6 zy HB hHeld ⊢; refine pure_ (i := 0) (N := some 21) (v := ?_) (a' := ?_) #[kd,kc,kc,kc,kc] rfl rfl (by kernel_rfl) (fun _ _ _ h => h) (Or.inl ⟨by rfl, ?_⟩) ?_ ?_; rotate_left; · intro w'; go_simp; with_reducible rfl
     rotate_left; · simp only [ke, ky, kj, kk, zv, zw]; rfl
     refine take_ (i := 2) (N := some 23) (v := ?_) (a' := ?_) #[kd,kc,kd,kc,kc] rfl rfl (by kernel_rfl) (fun _ _ _ h => h) (Or.inl ⟨by rfl, ?_⟩) hHeld ?_ ?_; rotate_left; · rintro w' ⟨s0, s1⟩; go_simp; with_reducible rfl
     rotate_left; · simp only [ke, ky, kj, kk, zv, zw]; rfl
     refine one_ (i := 1) (N := some 22) #[kd,kd,kd,kc,kc] rfl rfl (by kernel_rfl) (by decide) (fun K hK => ?_); refine goes_ Try.func54 (by kernel_rfl) rfl #[.slice Ao16 t341.length co16] (by rfl) rfl rfl (by (try simp only [kh, kf, kb]); rfl) ?_; with_reducible refine (impl_prefixesOf.calls kj3 _ _ t341 t346 _ ?side1 ?side2 A12.1).mono ?_; (case side1 => repeat (exact (zg HO_6.1).2.2)); (case side2 => exact (zg HO_6.1).2.1); rintro e w17 ⟨v347, rfl, ho0, hb⟩; refine ⟨_, rfl, ?_⟩; replace HO_6 := kz (zt HO_6.1 hb); have zA := kz (Kd.R_lower (Kd.R_newB ho0 zy.1) (zs HB.1)); replace zy := kz (blk_below zy.1 hb); replace HB := kz (zq HB.1 hb); obtain ⟨Ao18, co18, eo18⟩ := Kd.R_slice zA.1; (subst eo18); refine hK.out _ _ ⟨(ze zy.1 0).trans rfl, (ze zy.1 1).trans rfl⟩ (fun hHeld => ?_); clear hK K; refine norm_ (a' := ?_) ?_ ?_; rotate_left
     ·
      show ke _ (some 22) _ = _
      simp only [ke, ky, kj, kk, zv, zw]; rfl
     refine one_ (i := 3) (N := some 24) #[kd,kd,kd,kd,kc] rfl rfl (by kernel_rfl) (by decide) (fun K hK => ?_); refine goes_ Try.func78 (by kernel_rfl) rfl #[.slice Ao18 t346.length co18, .agg #[.int .i64 a1_0, .int .i64 a1_1]] (by rfl) rfl rfl (by (try simp only [kh, kf, kb]); rfl) ?_; with_reducible refine (slices_Index_impl_Prefix_impl_Prefix.calls kj3 _ _ t346 a1_0 a1_1 t349 _ ?side1 ?side2 A13.1).mono ?_; (case side1 => repeat (exact (zg zA.1).2.2)); (case side2 => exact (zg zA.1).2.1); rintro e w19 ⟨rfl, hb⟩; refine ⟨_, rfl, ?_⟩; replace HO_6 := kz (zt HO_6.1 hb); replace zA := kz (zt zA.1 hb); replace zy := kz (blk_below zy.1 hb); replace HB := kz (zq HB.1 hb); refine hK.out _ _ ⟨(ze zy.1 0).trans rfl, (ze zy.1 1).trans rfl⟩ (fun hHeld => ?_); clear hK K; refine norm_ (a' := ?_) ?_ ?_; rotate_left
     ·
      show ke _ (some 24) _ = _
      simp only [ke, ky, kj, kk, zv, zw]; rfl
     refine pure_ (i := 4) (N := some 8) (v := ?_) (a' := ?_) #[kd,kd,kd,kd,kd] rfl rfl (by kernel_rfl) (fun _ _ _ h => h) (Or.inl ⟨by rfl, ?_⟩) ?_ ?_; rotate_left; · intro w'; go_simp; with_reducible rfl
     rotate_left; · simp only [ke, ky, kj, kk, zv, zw]; rfl
     refine done_ (by kernel_rfl) ?_; try go_wp2
     go_ret2; exact ⟨_, by rfl, by exact Kd.R_nil _ _ _ _ _, by exact HB.1⟩
    ·
     rw [if_neg c14] at H; have c14b0 : decide (t349 < 0) = false := decide_eq_false c14; clear c14; replace H := kv.mp H; obtain ⟨t350, A200, H⟩ := H; replace H : ((impl_BuildTrie.f kj3 t350).bind fun bt353 => (some (bt353.1, bt353.2))) = some (r1, r2) := H; have A20 := kz A200; clear A200; replace H := kv.mp H; obtain ⟨⟨t353, t354⟩, A210, H⟩ := H; replace H : (some (t353, t354)) = some (r1, r2) := H; have A21 := kz A210; clear A210; simp only [Option.some.injEq, Prod.mk.injEq] at H; obtain ⟨rfl, rfl⟩ := H; try go_wp2
     replace HO_6 := kz (zf HO_6.1); replace zy := kz (zl zy.1); replace HB := kz (zb HB.1); obtain ⟨Ao23, co23, eo23⟩ := Kd.R_slice HO_6.1; (subst eo23); refine start_ (n := 5) (S := fun w' => w'.cell? ⟨gb340, 0, none⟩ = some (.int .i64 a1_0) ∧ w'.cell? ⟨gb340, 1, none⟩ = some (.int .i64 a1_1)) (ds := []) #[kc,kc,kc,kc,kc] (by kernel_rfl) rfl rfl ⟨(ze zy.1 0).trans rfl, (ze zy.1 1).trans rfl⟩ (fun hHeld => ?_); generalize wc.drew = w22 at HO_6 zy HB hHeld ⊢; refine pure_ (i := 0) (N := some 21) (v := ?_) (a' := ?_) #[kd,kc,kc,kc,kc] rfl rfl (by kernel_rfl) (fun _ _ _ h => h) (Or.inl ⟨by rfl, ?_⟩) ?_ ?_; rotate_left; · intro w'; go_simp; with_reducible rfl
     rotate_left; · simp only [ke, ky, kj, kk, zv, zw]; rfl
     refine take_ (i := 2) (N := some 23) (v := ?_) (a' := ?_) #[kd,kc,kd,kc,kc] rfl rfl (by kernel_rfl) (fun _ _ _ h => h) (Or.inl ⟨by rfl, ?_⟩) hHeld ?_ ?_; rotate_left; · rintro w' ⟨s0, s1⟩; go_simp; with_reducible rfl
     rotate_left; · simp only [ke, ky, kj, kk, zv, zw]; rfl
     refine one_ (i := 1) (N := some 22) #[kd,kd,kd,kc,kc] rfl rfl (by kernel_rfl) (by decide) (fun K hK => ?_); refine goes_ Try.func54 (by kernel_rfl) rfl #[.slice Ao23 t341.length co23] (by rfl) rfl rfl (by (try simp only [kh, kf, kb]); rfl) ?_; with_reducible refine (impl_prefixesOf.calls kj3 _ _ t341 t346 _ ?side1 ?side2 A12.1).mono ?_; (case side1 => repeat (exact (zg HO_6.1).2.2)); (case side2 => exact (zg HO_6.1).2.1); rintro e w24 ⟨v347, rfl, ho0, hb⟩; refine ⟨_, rfl, ?_⟩; replace HO_6 := kz (zt HO_6.1 hb); have zA := kz (Kd.R_lower (Kd.R_newB ho0 zy.1) (zs HB.1)); replace zy := kz (blk_below zy.1 hb); replace HB := kz (zq HB.1 hb); obtain ⟨Ao25, co25, eo25⟩ := Kd.R_slice zA.1; (subst eo25); refine hK.out _ _ ⟨(ze zy.1 0).trans rfl, (ze zy.1 1).trans rfl⟩ (fun hHeld => ?_); clear hK K; refine norm_ (a' := ?_) ?_ ?_; rotate_left
     ·
      show ke _ (some 22) _ = _
      simp only [ke, ky, kj, kk, zv, zw]; rfl
     refine one_ (i := 3) (N := some 24) #[kd,kd,kd,kd,kc] rfl rfl (by kernel_rfl) (by decide) (fun K hK => ?_); refine goes_ Try.func78 (by kernel_rfl) rfl #[.slice Ao25 t346.length co25, .agg #[.int .i64 a1_0, .int .i64 a1_1]] (by rfl) rfl rfl (by (try simp only [kh, kf, kb]); rfl) ?_; with_reducible refine (slices_Index_impl_Prefix_impl_Prefix.calls kj3 _ _ t346 a1_0 a1_1 t349 _ ?side1 ?side2 A13.1).mono ?_; (case side1 => repeat (exact (zg zA.1).2.2)); (case side2 => exact (zg zA.1).2.1); rintro e w26 ⟨rfl, hb⟩; refine ⟨_, rfl, ?_⟩; replace HO_6 := kz (zt HO_6.1 hb); replace zA := kz (zt zA.1 hb); replace zy := kz (blk_below zy.1 hb); replace HB := kz (zq HB.1 hb); refine hK.out _ _ ⟨(ze zy.1 0).trans rfl, (ze zy.1 1).trans rfl⟩ (fun hHeld => ?_); clear hK K; refine norm_ (a' := ?_) ?_ ?_; rotate_left
     ·
      show ke _ (some 24) _ = _
      simp only [ke, ky, kj, kk, zv, zw]; rfl
     refine pure_ (i := 4) (N := some 8) (v := ?_) (a' := ?_) #[kd,kd,kd,kd,kd] rfl rfl (by kernel_rfl) (fun _ _ _ h => h) (Or.inl ⟨by rfl, ?_⟩) ?_ ?_; rotate_left; · intro w'; go_simp; with_reducible rfl
     rotate_left; · simp only [ke, ky, kj, kk, zv, zw]; rfl
     refine done_ (by kernel_rfl) ?_; try go_wp2_with (first | ((with_reducible refine gate_callee (f := 79) rfl ?_); refine goesL_ (some 31) rfl rfl Try.func79 (by kernel_rfl) rfl #[.slice Ao23 t341.length co23, .int .i64 t349, .int .i64 (wrap64 (t349 + 1))] rfl (by (try simp only [kh, kf, kb]); rfl) ?_; (with_reducible refine (slices_Delete_impl_Entry_impl_Entry.calls (.slice Ao23 t341.length co23) t341 t349 (wrap64 (t349 + 1)) w.heap.size t350 _ ?side1 A20.1).mono ?_); (case side1 => exact HO_6.1); rintro e w27 ⟨v351, rfl, ho0, hgr⟩; refine ⟨_, rfl, ?_⟩; have n0_ := kz (Below.grown HB.1 hgr (zs HB.1) (Kd.R_base HO_6.1)); clear HO_6 zA zy HB; have HO352 := kz ho0; have HB := n0_; clear n0_ hgr ho0; obtain ⟨Ao28, co28, eo28⟩ := Kd.R_slice HO352.1; subst eo28) | ((with_reducible refine gate_callee (f := 38) rfl ?_); refine goesL_ (some 32) rfl rfl Try.func38 (by kernel_rfl) rfl #[.slice Ao28 t350.length co28] rfl (by (try simp only [kh, kf, kb]); rfl) ?_; (with_reducible refine (impl_BuildTrie.calls kj3 _ _ t350 t353 t354 _ ?side1 ?side2 A21.1).mono ?_); (case side1 => repeat (exact (zg HO352.1).2.2)); (case side2 => exact (zg HO352.1).2.1); rintro e w29 ⟨v355, rfl, ho0, hb⟩; refine ⟨_, rfl, ?_⟩; have HO356 := kz (Kd.R_lower ho0 (zs HB.1)); replace HB := kz (zq HB.1 hb)))
     go_ret2; exact ⟨_, by rfl, by exact HO356.1, by exact HB.1⟩
/-! ### laws_sameTries: function 42 -/
def laws_sameTries.l0 : Nat → List (S86) → List (S86) → Int → Int → Option (Bool)
 | 0, _, _, _, _ => none
 | k + 1, x0, x1, x12, x13 => if x13 < x12 then (if 0 ≤ x13 then (if x13 < (x0.length : Int) then (if x13 < (x1.length : Int) then (if (!(((rd_T86 x0 x13).f0) == ((rd_T86 x1 x13).f0)) || (!(((rd_T86 x0 x13).f1) == ((rd_T86 x1 x13).f1)) || (!(((rd_T86 x0 x13).f2) == ((rd_T86 x1 x13).f2)) || (!(((rd_T86 x0 x13).f3) == ((rd_T86 x1 x13).f3)))))) = true then (some false) else (laws_sameTries.l0 k x0 x1 x12 (wrap64 (x13 + 1)))) else (none)) else (none)) else (none)) else (some true)
def laws_sameTries.f (k : Nat) (l0 : List (S86)) (l1 : List (S86)) : Option (Bool) := if (l0.length : Int) = (l1.length : Int) then (laws_sameTries.l0 k l0 l1 (l0.length : Int) 0) else (some false)
theorem laws_sameTries.calls (k : Nat) (A0 : Option Addr) (c0 : Nat) (l0 : List (S86)) (A1 : Option Addr) (c1 : Nat) (l1 : List (S86)) (r : Bool) (w : World) (hr0 : Kd.C k86 w A0 l0.length l0) (hc0 : l0.length ≤ c0) (hr1 : Kd.C k86 w A1 l1.length l1) (hc1 : l1.length ≤ c1) (h : laws_sameTries.f k l0 l1 = some r) :
  Calls Try.prog 42 #[.slice A0 l0.length c0, .slice A1 l1.length c1] w fun e w' => e = .returned (.bool r) ∧ Drawn0 w w' := by
 have hu86 := Try.underlying86; have HR0 := kz hr0; have HC0 := kz hc0; clear hr0 hc0; have HR1 := kz hr1; have HC1 := kz hc1; clear hr1 hc1; have H : (if (l0.length : Int) = (l1.length : Int) then (laws_sameTries.l0 k l0 l1 (l0.length : Int) 0) else (some false)) = some r := h; clear h; by_cases c3 : (l0.length : Int) = (l1.length : Int)
 ·
  rw [if_pos c3] at H; have c3b0 : ((l0.length : Int) == (l1.length : Int)) = true := beq_iff_eq.mpr c3; have c3b1 : ((l0.length : Int) != (l1.length : Int)) = false := bne_eq_false_iff_eq.mpr c3; have c3b2 : (l0.length == l1.length) = true := by (simp at c3 ⊢; omega)
  clear c3; have H' := kz H; clear H; go_enter Try.func42, Try.ntmps42; go_wp2; repeat (go_quiet (fail); try go_wp2)
  go_loopg [13] k (fun kq v13 w' => ∃ (zx : Int), v13 = .int .i64 zx ∧ zu (laws_sameTries.l0 kq l0 l1 (l0.length : Int) zx = some r) ∧ zu (kq ≤ k) ∧ Drawn0 w w'); case atStart => exact ⟨(0), (by rfl), H', ⟨Nat.le_refl _⟩, by repeat (exact zi _)⟩
  case round =>
   clear H'; obtain ⟨zx, rfl, HA, HK1, ⟨m1, rfl⟩⟩ := hrel; cases gk with
   | zero => exact absurd HA.1 (by simp [laws_sameTries.l0])
   | succ k1 =>
    have H := HA.1; clear HA; simp only [laws_sameTries.l0] at H; by_cases c4 : zx < (l0.length : Int)
    ·
     rw [if_pos c4] at H; have c4b0 : decide (zx < (l0.length : Int)) = true := decide_eq_true c4; clear c4; by_cases c5 : 0 ≤ zx
     ·
      rw [if_pos c5] at H; have c5b0 : decide (0 ≤ zx) = true := decide_eq_true c5; clear c5; by_cases c6 : zx < (l0.length : Int)
      ·
       rw [if_pos c6] at H; have c6b0 : decide (zx < (l0.length : Int)) = true := decide_eq_true c6; clear c6; by_cases c7 : zx < (l1.length : Int)
       ·
        rw [if_pos c7] at H; have c7b0 : decide (zx < (l1.length : Int)) = true := decide_eq_true c7; clear c7; by_cases c8 : (!(((rd_T86 l0 zx).f0) == ((rd_T86 l1 zx).f0)) || (!(((rd_T86 l0 zx).f1) == ((rd_T86 l1 zx).f1)) || (!(((rd_T86 l0 zx).f2) == ((rd_T86 l1 zx).f2)) || (!(((rd_T86 l0 zx).f3) == ((rd_T86 l1 zx).f3)))))) = true
        ·
         rw [if_pos c8] at H; have c8b0 : (!(((rd_T86 l0 zx).f0) == ((rd_T86 l1 zx).f0)) || (!(((rd_T86 l0 zx).f1) == ((rd_T86 l1 zx).f1)) || (!(((rd_T86 l0 zx).f2) == ((rd_T86 l1 zx).f2)) || (!(((rd_T86 l0 zx).f3) == ((rd_T86 l1 zx).f3)))))) = true := c8; clear c8; obtain rfl := kg H; have p357 : 0 ≤ (zx : Int) := of_decide_eq_true (by (with_reducible assumption)); have q357 : zx < (l0.length : Int) := of_decide_eq_true (by (with_reducible assumption)); obtain ⟨ad357, e357, hx357_0, hx357_1, hx357_2, hx357_3⟩ := at_T86 HR0.1 zx p357 q357; cases e357; replace p357 := eq_true p357; replace q357 := eq_true q357; have p358 : 0 ≤ (zx : Int) := of_decide_eq_true (by (with_reducible assumption)); have q358 : zx < (l1.length : Int) := of_decide_eq_true (by (with_reducible assumption)); obtain ⟨ad358, e358, hx358_0, hx358_1, hx358_2, hx358_3⟩ := at_T86 HR1.1 zx p358 q358; cases e358; replace p358 := eq_true p358; replace q358 := eq_true q358; go_wp2; repeat (go_quiet (fail); try go_wp2)
         go_ret; exact ⟨by rfl, by repeat (first | exact zi _ | apply zh)⟩
        ·
         rw [if_neg c8] at H; have c8b0 : (!(((rd_T86 l0 zx).f0) == ((rd_T86 l1 zx).f0)) || (!(((rd_T86 l0 zx).f1) == ((rd_T86 l1 zx).f1)) || (!(((rd_T86 l0 zx).f2) == ((rd_T86 l1 zx).f2)) || (!(((rd_T86 l0 zx).f3) == ((rd_T86 l1 zx).f3)))))) = false := by simpa using c8
         clear c8; have H' := kz H; clear H; have p357 : 0 ≤ (zx : Int) := of_decide_eq_true (by (with_reducible assumption)); have q357 : zx < (l0.length : Int) := of_decide_eq_true (by (with_reducible assumption)); obtain ⟨ad357, e357, hx357_0, hx357_1, hx357_2, hx357_3⟩ := at_T86 HR0.1 zx p357 q357; cases e357; replace p357 := eq_true p357; replace q357 := eq_true q357; have p358 : 0 ≤ (zx : Int) := of_decide_eq_true (by (with_reducible assumption)); have q358 : zx < (l1.length : Int) := of_decide_eq_true (by (with_reducible assumption)); obtain ⟨ad358, e358, hx358_0, hx358_1, hx358_2, hx358_3⟩ := at_T86 HR1.1 zx p358 q358; cases e358; replace p358 := eq_true p358; replace q358 := eq_true q358; go_wp2; repeat (go_quiet (fail); try go_wp2)
         go_roundg k1; case measure => have := HK1.1; omega
         case rel => exact ⟨(wrap64 (zx + 1)), (by rfl), H', ⟨by have := HK1.1; omega⟩, by repeat (first | exact zi _ | apply zh)⟩
       · rw [if_neg c7] at H; exact absurd H (by simp)
      · rw [if_neg c6] at H; exact absurd H (by simp)
     · rw [if_neg c5] at H; exact absurd H (by simp)
    ·
     rw [if_neg c4] at H; have c4b0 : decide (zx < (l0.length : Int)) = false := decide_eq_false c4; clear c4; obtain rfl := kg H; go_wp2; repeat (go_quiet (fail); try go_wp2)
     go_ret; exact ⟨by rfl, by repeat (first | exact zi _ | apply zh)⟩
 ·
  rw [if_neg c3] at H; have c3b0 : ((l0.length : Int) == (l1.length : Int)) = false := beq_eq_false_iff_ne.mpr c3; have c3b1 : ((l0.length : Int) != (l1.length : Int)) = true := bne_iff_ne.mpr c3; have c3b2 : (l0.length == l1.length) = false := by (simp at c3 ⊢; omega)
  obtain rfl := kg H; go_enter Try.func42, Try.ntmps42; go_wp2; repeat (go_quiet (fail); try go_wp2)
  go_ret; exact ⟨by rfl, by repeat (exact zi _)⟩
/-! ### laws_sameEntries: function 43 -/
def laws_sameEntries.l0 : Nat → List (S39) → List (S39) → Int → Int → Option (Bool)
 | 0, _, _, _, _ => none
 | k + 1, x0, x1, x12, x13 => if x13 < x12 then (if 0 ≤ x13 then (if x13 < (x0.length : Int) then (if x13 < (x1.length : Int) then (if ((!(((rd_T39 x0 x13).f0.f0) == ((rd_T39 x1 x13).f0.f0)) || (!(((rd_T39 x0 x13).f0.f1) == ((rd_T39 x1 x13).f0.f1)))) || (!(((rd_T39 x0 x13).f1) == ((rd_T39 x1 x13).f1)))) = true then (some false) else (laws_sameEntries.l0 k x0 x1 x12 (wrap64 (x13 + 1)))) else (none)) else (none)) else (none)) else (some true)
def laws_sameEntries.f (k : Nat) (l0 : List (S39)) (l1 : List (S39)) : Option (Bool) := if (l0.length : Int) = (l1.length : Int) then (laws_sameEntries.l0 k l0 l1 (l0.length : Int) 0) else (some false)
theorem laws_sameEntries.calls (k : Nat) (A0 : Option Addr) (c0 : Nat) (l0 : List (S39)) (A1 : Option Addr) (c1 : Nat) (l1 : List (S39)) (r : Bool) (w : World) (hr0 : Kd.C k39 w A0 l0.length l0) (hc0 : l0.length ≤ c0) (hr1 : Kd.C k39 w A1 l1.length l1) (hc1 : l1.length ≤ c1) (h : laws_sameEntries.f k l0 l1 = some r) :
  Calls Try.prog 43 #[.slice A0 l0.length c0, .slice A1 l1.length c1] w fun e w' => e = .returned (.bool r) ∧ Drawn0 w w' := by
 have hu39 := Try.underlying39; have HR0 := kz hr0; have HC0 := kz hc0; clear hr0 hc0; have HR1 := kz hr1; have HC1 := kz hc1; clear hr1 hc1; have H : (if (l0.length : Int) = (l1.length : Int) then (laws_sameEntries.l0 k l0 l1 (l0.length : Int) 0) else (some false)) = some r := h; clear h; by_cases c3 : (l0.length : Int) = (l1.length : Int)
 ·
  rw [if_pos c3] at H; have c3b0 : ((l0.length : Int) == (l1.length : Int)) = true := beq_iff_eq.mpr c3; have c3b1 : ((l0.length : Int) != (l1.length : Int)) = false := bne_eq_false_iff_eq.mpr c3; have c3b2 : (l0.length == l1.length) = true := by (simp at c3 ⊢; omega)
  clear c3; have H' := kz H; clear H; go_enter Try.func43, Try.ntmps43; go_wp2; repeat (go_quiet (fail); try go_wp2)
  go_loopg [13] k (fun kq v13 w' => ∃ (zx : Int), v13 = .int .i64 zx ∧ zu (laws_sameEntries.l0 kq l0 l1 (l0.length : Int) zx = some r) ∧ zu (kq ≤ k) ∧ Drawn0 w w'); case atStart => exact ⟨(0), (by rfl), H', ⟨Nat.le_refl _⟩, by repeat (exact zi _)⟩
  case round =>
   clear H'; obtain ⟨zx, rfl, HA, HK1, ⟨m1, rfl⟩⟩ := hrel; cases gk with
   | zero => exact absurd HA.1 (by simp [laws_sameEntries.l0])
   | succ k1 =>
    have H := HA.1; clear HA; simp only [laws_sameEntries.l0] at H; by_cases c4 : zx < (l0.length : Int)
    ·
     rw [if_pos c4] at H; have c4b0 : decide (zx < (l0.length : Int)) = true := decide_eq_true c4; clear c4; by_cases c5 : 0 ≤ zx
     ·
      rw [if_pos c5] at H; have c5b0 : decide (0 ≤ zx) = true := decide_eq_true c5; clear c5; by_cases c6 : zx < (l0.length : Int)
      ·
       rw [if_pos c6] at H; have c6b0 : decide (zx < (l0.length : Int)) = true := decide_eq_true c6; clear c6; by_cases c7 : zx < (l1.length : Int)
       ·
        rw [if_pos c7] at H; have c7b0 : decide (zx < (l1.length : Int)) = true := decide_eq_true c7; clear c7; by_cases c8 : ((!(((rd_T39 l0 zx).f0.f0) == ((rd_T39 l1 zx).f0.f0)) || (!(((rd_T39 l0 zx).f0.f1) == ((rd_T39 l1 zx).f0.f1)))) || (!(((rd_T39 l0 zx).f1) == ((rd_T39 l1 zx).f1)))) = true
        ·
         rw [if_pos c8] at H; have c8b0 : ((!(((rd_T39 l0 zx).f0.f0) == ((rd_T39 l1 zx).f0.f0)) || (!(((rd_T39 l0 zx).f0.f1) == ((rd_T39 l1 zx).f0.f1)))) || (!(((rd_T39 l0 zx).f1) == ((rd_T39 l1 zx).f1)))) = true := c8; clear c8; obtain rfl := kg H; have p359 : 0 ≤ (zx : Int) := of_decide_eq_true (by (with_reducible assumption)); have q359 : zx < (l0.length : Int) := of_decide_eq_true (by (with_reducible assumption)); obtain ⟨ad359, e359, hx359_0, hx359_1, hx359_2⟩ := at_T39 HR0.1 zx p359 q359; cases e359; replace p359 := eq_true p359; replace q359 := eq_true q359; have p360 : 0 ≤ (zx : Int) := of_decide_eq_true (by (with_reducible assumption)); have q360 : zx < (l1.length : Int) := of_decide_eq_true (by (with_reducible assumption)); obtain ⟨ad360, e360, hx360_0, hx360_1, hx360_2⟩ := at_T39 HR1.1 zx p360 q360; cases e360; replace p360 := eq_true p360; replace q360 := eq_true q360; go_wp2; repeat (go_quiet (fail); try go_wp2)
         go_ret; exact ⟨by rfl, by repeat (first | exact zi _ | apply zh)⟩
        ·
         rw [if_neg c8] at H; have c8b0 : ((!(((rd_T39 l0 zx).f0.f0) == ((rd_T39 l1 zx).f0.f0)) || (!(((rd_T39 l0 zx).f0.f1) == ((rd_T39 l1 zx).f0.f1)))) || (!(((rd_T39 l0 zx).f1) == ((rd_T39 l1 zx).f1)))) = false := by simpa using c8
         clear c8; have H' := kz H; clear H; have p359 : 0 ≤ (zx : Int) := of_decide_eq_true (by (with_reducible assumption)); have q359 : zx < (l0.length : Int) := of_decide_eq_true (by (with_reducible assumption)); obtain ⟨ad359, e359, hx359_0, hx359_1, hx359_2⟩ := at_T39 HR0.1 zx p359 q359; cases e359; replace p359 := eq_true p359; replace q359 := eq_true q359; have p360 : 0 ≤ (zx : Int) := of_decide_eq_true (by (with_reducible assumption)); have q360 : zx < (l1.length : Int) := of_decide_eq_true (by (with_reducible assumption)); obtain ⟨ad360, e360, hx360_0, hx360_1, hx360_2⟩ := at_T39 HR1.1 zx p360 q360; cases e360; replace p360 := eq_true p360; replace q360 := eq_true q360; go_wp2; repeat (go_quiet (fail); try go_wp2)
         go_roundg k1; case measure => have := HK1.1; omega
         case rel => exact ⟨(wrap64 (zx + 1)), (by rfl), H', ⟨by have := HK1.1; omega⟩, by repeat (first | exact zi _ | apply zh)⟩
       · rw [if_neg c7] at H; exact absurd H (by simp)
      · rw [if_neg c6] at H; exact absurd H (by simp)
     · rw [if_neg c5] at H; exact absurd H (by simp)
    ·
     rw [if_neg c4] at H; have c4b0 : decide (zx < (l0.length : Int)) = false := decide_eq_false c4; clear c4; obtain rfl := kg H; go_wp2; repeat (go_quiet (fail); try go_wp2)
     go_ret; exact ⟨by rfl, by repeat (first | exact zi _ | apply zh)⟩
 ·
  rw [if_neg c3] at H; have c3b0 : ((l0.length : Int) == (l1.length : Int)) = false := beq_eq_false_iff_ne.mpr c3; have c3b1 : ((l0.length : Int) != (l1.length : Int)) = true := bne_iff_ne.mpr c3; have c3b2 : (l0.length == l1.length) = false := by (simp at c3 ⊢; omega)
  obtain rfl := kg H; go_enter Try.func43, Try.ntmps43; go_wp2; repeat (go_quiet (fail); try go_wp2)
  go_ret; exact ⟨by rfl, by repeat (exact zi _)⟩
end Go.Proofs.Ytakoaogbkajkcaa.PFnTrieSteps
