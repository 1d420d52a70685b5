/- Go functions told by Lean functions, printed by a program. No condition but what each statement says. -/
import Derived.Test.YtakoaogbkajkcaaYFnTrieStepsx1
import Derived.Test.YtakoaogbkajkcaaYFnTrieStepsx13
namespace Go.Proofs.Ytakoaogbkajkcaa.PFnTrieSteps
open Go.RowKit Go.Proofs.YtakoaogbkajkcaaW.PrintWords Go.Proofs.YtakoaogbkajkcaaW.PrintLast Go.Proofs.YtakoaogbkajkcaaW.PrintMore
open Aside0 renaming mk → kz
open List renaming setIfInBounds_toArray → ky, map_toArray → kj, set_cons_zero → kk, set_cons_succ → kv, map_cons → kh, map_nil → kg
open Option renaming bind_eq_some_iff → kf
open Option.some renaming inj → ke
open Try renaming func105 → kb, func102 → ko, ntmps102 → kx
open Act renaming put → kd
open Bool renaming eq_false_iff → kc, true → km, false → ku
set_option maxHeartbeats 8000000
set_option maxRecDepth 100000
open Go.Proofs.YtakoaogbkajkcaaW.PrintLast renaming goesL_ → zv, i64_w → zz, i32_w → zA
open Go.Proofs.YtakoaogbkajkcaaW.PrintWords renaming pw_below_drewN → za, below_drew1 → zb, blk_drewN → zd, below_set → zf, blk_drew → zg, blk_cell → zh, gate_callee → zi, below_size → zm, blk_frozen → zq, below_step → zs, blk_below → zw, Aside0 → zy
open Go.Proofs.YtakoaogbkajkcaaW.PrintWords.Drawn0 renaming step → zn, refl → zo
open Go.Proofs.YtakoaogbkajkcaaW.PrintWords.Kd renaming R_mono → zp, R_far → zr
attribute [local go_sem] max2_int min2_int max_two min_two max_three min_three max_four min_four
set_option linter.unusedVariables false
set_option linter.unusedSimpArgs false
attribute [local go_sem high] eqA37
/-! ### spec_RemoveFrom: function 39 -/
mutual
def spec_RemoveFrom.j0 : Nat → List (S86) → Bool → Int → Int → Option ((List (S86)) × Bool)
 | 0, _, _, _, _ => none
 | k + 1, x0, x17, zJ, zK => if x17 = true then (some (([] : List (S86)), false)) else ((spec_l2Walk.f k x0 0 0 0 ([] : List (S39))).bind fun t283 => (spec_RemoveFrom.l0 k ([] : List (S39)) false t283 (t283.length : Int) 0 zJ zK))
def spec_RemoveFrom.l0 : Nat → List (S39) → Bool → List (S39) → Int → Int → Int → Int → Option ((List (S86)) × Bool)
 | 0, _, _, _, _, _, _, _ => none
 | k + 1, x6, x7, x20, x21, x22, zJ, zK => if x22 < x21 then (if 0 ≤ x22 then (if x22 < (x20.length : Int) then (if (((rd_T39 x20 x22).f0.f0) == zJ && (((rd_T39 x20 x22).f0.f1) == zK)) = true then (spec_RemoveFrom.l0 k x6 true x20 x21 (wrap64 (x22 + 1)) zJ zK) else (if x6.length < 5864062014805 then (spec_RemoveFrom.l0 k (x6 ++ [(⟨(⟨(rd_T39 x20 x22).f0.f0, (rd_T39 x20 x22).f0.f1⟩ : S37), (rd_T39 x20 x22).f1⟩ : S39)]) x7 x20 x21 (wrap64 (x22 + 1)) zJ zK) else (none))) else (none)) else (none)) else (if x7 = true then ((spec_l2Build.f k x6).bind fun t291 => (some (t291, true))) else (some (([] : List (S86)), false)))
end
def spec_RemoveFrom.f (k : Nat) (l0 : List (S86)) (a1_0 : Int) (a1_1 : Int) : Option ((List (S86)) × Bool) := (spec_GoodTrie.f k l0).bind fun t281 => (if t281 = true then ((spec_GoodPrefix.f a1_0 a1_1).bind fun t282 => (spec_RemoveFrom.j0 k l0 (!t282) a1_0 a1_1)) else (spec_RemoveFrom.j0 k l0 true a1_0 a1_1))
theorem spec_RemoveFrom.calls (k : Nat) (A0 : Option Addr) (c0 : Nat) (l0 : List (S86)) (a1_0 : Int) (a1_1 : Int) (r1 : List (S86)) (r2 : Bool) (w : World) (hr0 : Kd.C k86 w A0 l0.length l0) (hc0 : l0.length ≤ c0) (h : spec_RemoveFrom.f k l0 a1_0 a1_1 = some (r1, r2)) :
  Calls Try.prog 39 #[.slice A0 l0.length c0, .agg #[.int .i64 a1_0, .int .i64 a1_1]] w fun e w' => ∃ v0_ : Value, e = .returned (.tuple #[v0_, .bool r2]) ∧ Kd.R k86 86 w' w.heap.size (fun _ => True) v0_ r1 ∧ Below w.heap.size w w' := by
 have hu37 := Try.underlying37
 have hu39 := Try.underlying39
 have HR0 := kz hr0
 have HC0 := kz hc0
 clear hr0 hc0
 have HB := kz (Below.refl w.heap.size w)
 have H : ((spec_GoodTrie.f k l0).bind fun t281 => (if t281 = true then ((spec_GoodPrefix.f a1_0 a1_1).bind fun t282 => (spec_RemoveFrom.j0 k l0 (!t282) a1_0 a1_1)) else (spec_RemoveFrom.j0 k l0 true a1_0 a1_1))) = some (r1, r2) := h
 clear h
 have HC3 := kz H
 clear H
 go_enter Try.func39, Try.ntmps39
 go_upto_region 1 with (((with_reducible refine gate_dst (N := 3) rfl ?_); refine box_event rfl (N := 3) rfl (cs := #[.int .i64 a1_0, .int .i64 a1_1]) (t := 37) ?hr ?_; (case hr => go_simp; done); intro gb280 hg w4 hbox hb; replace HB := kz (zs HB.1 hb); have zC := kz hbox; clear hb hbox hg))
 (try simp only [kd, ky, kk, kv])
 go_cut [17] (fun v17 wc => ∃ (kq : Nat) (x17_2 : Bool), v17 = .bool x17_2 ∧ zy (spec_RemoveFrom.j0 kq l0 x17_2 a1_0 a1_1 = some (r1, r2)) ∧ zy (kq ≤ k) ∧ zy (wc.heap[gb280]? = some (.cells #[.int .i64 a1_0, .int .i64 a1_1] 37 (0, 0))) ∧ zy (Below w.heap.size w wc))
 case first =>
  have H := HC3.1
  clear HC3
  replace H := kf.mp H
  obtain ⟨t281, A50, H⟩ := H
  replace H : (if t281 = true then ((spec_GoodPrefix.f a1_0 a1_1).bind fun t282 => (spec_RemoveFrom.j0 k l0 (!t282) a1_0 a1_1)) else (spec_RemoveFrom.j0 k l0 true a1_0 a1_1)) = some (r1, r2) := H
  have A5 := kz A50
  clear A50
  by_cases c6 : t281 = true
  ·
   subst c6
   have H1 : ((spec_GoodPrefix.f a1_0 a1_1).bind fun t282 => (spec_RemoveFrom.j0 k l0 (!t282) a1_0 a1_1)) = some (r1, r2) := by rw [if_pos rfl] at H; exact H
   clear H
   have H := H1
   clear H1
   replace H := kf.mp H
   obtain ⟨t282, A70, H⟩ := H
   replace H : (spec_RemoveFrom.j0 k l0 (!t282) a1_0 a1_1) = some (r1, r2) := H
   have A7 := kz A70
   clear A70
   have H' := kz H
   clear H
   go_wp2_with (first | ((with_reducible refine zi (f := 19) rfl ?_); refine zv (some 11) rfl rfl Try.func19 (by kernel_rfl) rfl #[.slice A0 l0.length c0] rfl (by (try simp only [kj, kh, kg]); rfl) ?_; (with_reducible refine (spec_GoodTrie.calls k _ _ l0 true _ ?side1 ?side2 A5.1).mono ?_); (case side1 => repeat (exact (Kd.C_below HR0.1 HB.1))); (case side2 => exact HC0.1); rintro e w8 ⟨rfl, hb⟩; refine ⟨_, rfl, ?_⟩; replace zC := kz (zw zC.1 hb); replace HB := kz (zs HB.1 hb); have hcz9_0 : w8.cell? ⟨gb280, 0, none⟩ = some (.int .i64 a1_0) := (zh zC.1 0).trans rfl; have hcz9_1 : w8.cell? ⟨gb280, 1, none⟩ = some (.int .i64 a1_1) := (zh zC.1 1).trans rfl; have hfz9_0 := zq zC.1 0; have hfz9_1 := zq zC.1 1) | (go_at_call 49; (with_reducible refine (spec_GoodPrefix.calls a1_0 a1_1 t282 _ A7.1).mono ?_); rintro e w10 ⟨rfl, hb⟩; replace zC := kz (zw zC.1 hb); replace HB := kz (zs HB.1 hb)))
   go_meet
   case rel => exact ⟨_, (!t282), (by rfl), H', ⟨by omega⟩, ⟨by exact zC.1⟩, ⟨by exact HB.1⟩⟩
  ·
   replace c6 := kc.mpr c6
   subst c6
   have H1 : (spec_RemoveFrom.j0 k l0 true a1_0 a1_1) = some (r1, r2) := by rw [if_neg (show ¬ (false = true) by decide)] at H; exact H
   clear H
   have H := H1
   clear H1
   have H' := kz H
   clear H
   go_wp2_with (((with_reducible refine zi (f := 19) rfl ?_); refine zv (some 11) rfl rfl Try.func19 (by kernel_rfl) rfl #[.slice A0 l0.length c0] rfl (by (try simp only [kj, kh, kg]); rfl) ?_; (with_reducible refine (spec_GoodTrie.calls k _ _ l0 false _ ?side1 ?side2 A5.1).mono ?_); (case side1 => repeat (exact (Kd.C_below HR0.1 HB.1))); (case side2 => exact HC0.1); rintro e w11 ⟨rfl, hb⟩; refine ⟨_, rfl, ?_⟩; replace zC := kz (zw zC.1 hb); replace HB := kz (zs HB.1 hb)))
   go_meet
   case rel => exact ⟨_, (true), (by rfl), H', ⟨by omega⟩, ⟨by exact zC.1⟩, ⟨by exact HB.1⟩⟩
 case rest =>
  clear HC3
  obtain ⟨kq, x17_2, rfl, HA, HJ2, zC, HB⟩ := hcut
  cases kq with
  | zero => exact absurd HA.1 (by simp [spec_RemoveFrom.j0])
  | succ kj2 =>
   have H := HA.1
   clear HA
   simp only [spec_RemoveFrom.j0] at H
   by_cases c12 : x17_2 = true
   ·
    subst c12
    have H1 : (some (([] : List (S86)), false)) = some (r1, r2) := by rw [if_pos rfl] at H; exact H
    clear H
    have H := H1
    clear H1
    simp only [Option.some.injEq, Prod.mk.injEq] at H
    obtain ⟨rfl, rfl⟩ := H
    go_wp2
    go_ret2
    exact ⟨_, by rfl, by exact Kd.R_nil _ _ _ _ _, by exact HB.1⟩
   ·
    replace c12 := kc.mpr c12
    subst c12
    have H1 : ((spec_l2Walk.f kj2 l0 0 0 0 ([] : List (S39))).bind fun t283 => (spec_RemoveFrom.l0 kj2 ([] : List (S39)) false t283 (t283.length : Int) 0 a1_0 a1_1)) = some (r1, r2) := by rw [if_neg (show ¬ (false = true) by decide)] at H; exact H
    clear H
    have H := H1
    clear H1
    replace H := kf.mp H
    obtain ⟨t283, A130, H⟩ := H
    replace H : (spec_RemoveFrom.l0 kj2 ([] : List (S39)) false t283 (t283.length : Int) 0 a1_0 a1_1) = some (r1, r2) := H
    have A13 := kz A130
    clear A130
    have H' := kz H
    clear H
    go_wp2_with (((with_reducible refine zi (f := 72) rfl ?_); refine zv (some 20) rfl rfl Try.func72 (by kernel_rfl) rfl #[.slice A0 l0.length c0, .int .i64 0, .agg #[.int .i64 0, .int .i64 0], .slice none 0 0] rfl (by (try simp only [kj, kh, kg]); rfl) ?_; (refine (spec_l2Walk.calls kj2 _ _ l0 0 0 0 (fun k_ => some k_ = (.slice none 0 0 : Value).ownBlock) (.slice none 0 0) ([] : List (S39)) t283 w _ ?side1 ?side2 ?side3 ?side4 A13.1).mono ?_); (case side1 => repeat (with_reducible exact HB.1)); (case side2 => exact Kd.C_kept_came k86_heap HR0.1 HB.1 (fun k_ hs_ => (fun e_ => by simp [Value.ownBlock] at e_) hs_)); (case side3 => exact HC0.1); (case side4 => exact Kd.R_nil _ _ _ _ _); rintro e w14 ⟨v284, rfl, ho0, hb, hkp⟩; refine ⟨_, rfl, ?_⟩; replace zC := kz (blk_kept zC.1 hkp (fun hs_ => (fun e_ => by simp [Value.ownBlock] at e_) hs_)); have HO285 := kz (zp (ok' := fun k_ => True) ho0 (fun k_ hk_ => trivial)); replace HB := kz hb; obtain ⟨Ao15, co15, eo15⟩ := Kd.R_slice HO285.1; subst eo15))
    go_loopg [6, 7, 22] kj2 (fun kq v6 v7 v22 w' => ∃ (x6_2 : List (S39)) (x7_2 : Bool) (zB : Int), v7 = .bool x7_2 ∧ v22 = .int .i64 zB ∧ zy (spec_RemoveFrom.l0 kq x6_2 x7_2 t283 (t283.length : Int) zB a1_0 a1_1 = some (r1, r2)) ∧ zy (kq ≤ kj2) ∧ zy (Kd.R k39 39 w' w.heap.size (fun k_ => some k_ ≠ ((.slice Ao15 t283.length co15) : Value).ownBlock) v6 x6_2) ∧ zy (Kd.R k39 39 w' w.heap.size (fun k_ => some k_ ≠ (v6 : Value).ownBlock) (.slice Ao15 t283.length co15) t283) ∧ zy (w'.heap[gb280]? = some (.cells #[.int .i64 a1_0, .int .i64 a1_1] 37 (0, 0))) ∧ zy (Below w.heap.size w w'))
    case atStart => exact ⟨(([] : List (S39))), (false), (0), (by rfl), (by rfl), H', ⟨Nat.le_refl _⟩, ⟨by exact Kd.R_nil _ _ _ _ _⟩, ⟨by exact zp HO285.1 (fun _ hk => (by simp [Value.ownBlock]))⟩, ⟨by exact zC.1⟩, ⟨by exact HB.1⟩⟩
    case round =>
     clear H'
     obtain ⟨x6_2, x7_2, zB, rfl, rfl, HA, HK2, HO_6, zG, zC, HB⟩ := hrel
     cases gk with
     | zero => exact absurd HA.1 (by simp [spec_RemoveFrom.l0])
     | succ k2 =>
      have H := HA.1
      clear HA
      simp only [spec_RemoveFrom.l0] at H
      by_cases c16 : zB < (t283.length : Int)
      ·
       rw [if_pos c16] at H
       have c16b0 : decide (zB < (t283.length : Int)) = true := decide_eq_true c16
       clear c16
       by_cases c17 : 0 ≤ zB
       ·
        rw [if_pos c17] at H
        have c17b0 : decide (0 ≤ zB) = true := decide_eq_true c17
        clear c17
        by_cases c18 : zB < (t283.length : Int)
        ·
         rw [if_pos c18] at H
         have c18b0 : decide (zB < (t283.length : Int)) = true := decide_eq_true c18
         clear c18
         by_cases c19 : (((rd_T39 t283 zB).f0.f0) == a1_0 && (((rd_T39 t283 zB).f0.f1) == a1_1)) = true
         ·
          rw [if_pos c19] at H
          have c19b0 : (((rd_T39 t283 zB).f0.f0) == a1_0 && (((rd_T39 t283 zB).f0.f1) == a1_1)) = true := c19
          (try (have c19b1 : decide (((rd_T39 t283 zB).f0.f0) = a1_0 && (((rd_T39 t283 zB).f0.f1) == a1_1)) = true := by simpa using c19))
          (try (have c19b2 : (((rd_T39 t283 zB).f0.f0) == a1_0 && (((rd_T39 t283 zB).f0.f1) == a1_1)) = true := by simpa using c19))
          clear c19
          have H' := kz H
          clear H
          have p286 : 0 ≤ (zB : Int) := of_decide_eq_true (by (with_reducible assumption))
          have q286 : zB < (t283.length : Int) := of_decide_eq_true (by (with_reducible assumption))
          obtain ⟨ad286, e286, hx286_0, hx286_1, hx286_2⟩ := at_T39 (Kd.R_reads' zG.1).2.2 zB p286 q286
          cases e286
          replace p286 := eq_true p286
          replace q286 := eq_true q286
          go_wp2_with (((with_reducible refine gate_dst (N := 9) rfl ?_); refine box_event rfl (N := 9) rfl (cs := #[.int .i64 0, .int .i64 0, .int .i64 0]) (t := 39) ?hr ?_; (case hr => go_simp; done); intro gb287 hg w20 hbox hb; replace HO_6 := kz (Kd.R_below (Kd.R_elderB HO_6.1 gb287 (Nat.le_of_eq hg.symm)) hb); replace zG := kz (Kd.R_below (Kd.R_elderB zG.1 gb287 (Nat.le_of_eq hg.symm)) hb); have zH := kz hbox; have zM := kz (by rw [hg]; exact (zm HB.1) : w.heap.size ≤ gb287); replace HB := kz (zs HB.1 hb); have zE := kz (by rw [hg]; exact Nat.ne_of_lt (blk_lt zC.1) : gb280 ≠ gb287); have NB287_280 := kz (by rw [hg]; exact Nat.ne_of_gt (blk_lt zC.1) : gb287 ≠ gb280); replace zC := kz (zw zC.1 hb); clear hb hbox hg; have hnb21 := NB287_280.1; have hnc21 := zE.1; have hcz22_0 : w20.cell? ⟨gb287, 0, none⟩ = some (.int .i64 0) := (zh zH.1 0).trans rfl; have hcz22_1 : w20.cell? ⟨gb287, 1, none⟩ = some (.int .i64 0) := (zh zH.1 1).trans rfl; have hcz22_2 : w20.cell? ⟨gb287, 2, none⟩ = some (.int .i64 0) := (zh zH.1 2).trans rfl; have hfz22_0 := zq zH.1 0; have hfz22_1 := zq zH.1 1; have hfz22_2 := zq zH.1 2; have hcz23_0 : w20.cell? ⟨gb280, 0, none⟩ = some (.int .i64 a1_0) := (zh zC.1 0).trans rfl; have hcz23_1 : w20.cell? ⟨gb280, 1, none⟩ = some (.int .i64 a1_1) := (zh zC.1 1).trans rfl; have hfz23_0 := zq zC.1 0; have hfz23_1 := zq zC.1 1))
          go_roundg k2
          case measure => have := HJ2.1; have := HK2.1; omega
          case rel => exact ⟨(x6_2), (true), (wrap64 (zB + 1)), (by rfl), (by rfl), H', ⟨by have := HJ2.1; have := HK2.1; omega⟩, ⟨by exact zp (zr (p := ⟨gb287, 2, none⟩) (zr (p := ⟨gb287, 1, none⟩) (zr (p := ⟨gb287, 0, none⟩) (zp HO_6.1 (fun k_ hk => (⟨hk, hk.2⟩ : _ ∧ k_ ≠ gb287))) (fun _ hk => hk.2) _) (fun _ hk => hk.2) _) (fun _ hk => hk.2) _) (fun _ hk => hk.1.1)⟩, ⟨by exact zp (zr (p := ⟨gb287, 2, none⟩) (zr (p := ⟨gb287, 1, none⟩) (zr (p := ⟨gb287, 0, none⟩) (zp zG.1 (fun k_ hk => (⟨hk, hk.2⟩ : _ ∧ k_ ≠ gb287))) (fun _ hk => hk.2) _) (fun _ hk => hk.2) _) (fun _ hk => hk.2) _) (fun _ hk => hk.1.1)⟩, ⟨by refine blk_far ?_ zE.1 _; refine blk_far ?_ zE.1 _; refine blk_far ?_ zE.1 _; exact zC.1⟩, ⟨by repeat ((with_reducible first | exact HB.1 | refine zf ?_ zM.1))⟩⟩
         ·
          rw [if_neg c19] at H
          have c19b0 : (((rd_T39 t283 zB).f0.f0) == a1_0 && (((rd_T39 t283 zB).f0.f1) == a1_1)) = false := by simpa using c19
          (try (have c19b1 : decide (((rd_T39 t283 zB).f0.f0) = a1_0 && (((rd_T39 t283 zB).f0.f1) == a1_1)) = false := by simpa using c19))
          (try (have c19b2 : (((rd_T39 t283 zB).f0.f0) == a1_0 && (((rd_T39 t283 zB).f0.f1) == a1_1)) = false := by simpa using c19))
          (try (have c19b3 : ¬ (((rd_T39 t283 zB).f0.f0) = a1_0 && (((rd_T39 t283 zB).f0.f1) == a1_1)) := by simpa using c19))
          clear c19
          by_cases c24 : x6_2.length < 5864062014805
          ·
           rw [if_pos c24] at H
           have LMc24 := kz c24
           clear c24
           obtain ⟨y288, hy288⟩ : ∃ y_ : List (S39), y_ = (x6_2 ++ [(⟨(⟨(rd_T39 t283 zB).f0.f0, (rd_T39 t283 zB).f0.f1⟩ : S37), (rd_T39 t283 zB).f1⟩ : S39)]) := ⟨_, rfl⟩
           replace H : (spec_RemoveFrom.l0 k2 y288 x7_2 t283 (t283.length : Int) (wrap64 (zB + 1)) a1_0 a1_1) = some (r1, r2) := by (rw [hy288]; with_reducible exact H)
           have Ny288 := kz hy288
           clear hy288
           have H' := kz H
           clear H
           have p286 : 0 ≤ (zB : Int) := of_decide_eq_true (by (with_reducible assumption))
           have q286 : zB < (t283.length : Int) := of_decide_eq_true (by (with_reducible assumption))
           obtain ⟨ad286, e286, hx286_0, hx286_1, hx286_2⟩ := at_T39 (Kd.R_reads' zG.1).2.2 zB p286 q286
           cases e286
           replace p286 := eq_true p286
           replace q286 := eq_true q286
           go_wp2_with (first | ((with_reducible refine gate_dst (N := 9) rfl ?_); refine box_event rfl (N := 9) rfl (cs := #[.int .i64 0, .int .i64 0, .int .i64 0]) (t := 39) ?hr ?_; (case hr => go_simp; done); intro gb287 hg w25 hbox hb; replace HO_6 := kz (Kd.R_below (Kd.R_elderB HO_6.1 gb287 (Nat.le_of_eq hg.symm)) hb); replace zG := kz (Kd.R_below (Kd.R_elderB zG.1 gb287 (Nat.le_of_eq hg.symm)) hb); have zH := kz hbox; have zM := kz (by rw [hg]; exact (zm HB.1) : w.heap.size ≤ gb287); replace HB := kz (zs HB.1 hb); have zE := kz (by rw [hg]; exact Nat.ne_of_lt (blk_lt zC.1) : gb280 ≠ gb287); have NB287_280 := kz (by rw [hg]; exact Nat.ne_of_gt (blk_lt zC.1) : gb287 ≠ gb280); replace zC := kz (zw zC.1 hb); clear hb hbox hg; have hnb26 := NB287_280.1; have hnc26 := zE.1; have hcz27_0 : w25.cell? ⟨gb287, 0, none⟩ = some (.int .i64 0) := (zh zH.1 0).trans rfl; have hcz27_1 : w25.cell? ⟨gb287, 1, none⟩ = some (.int .i64 0) := (zh zH.1 1).trans rfl; have hcz27_2 : w25.cell? ⟨gb287, 2, none⟩ = some (.int .i64 0) := (zh zH.1 2).trans rfl; have hfz27_0 := zq zH.1 0; have hfz27_1 := zq zH.1 1; have hfz27_2 := zq zH.1 2; have hcz28_0 : w25.cell? ⟨gb280, 0, none⟩ = some (.int .i64 a1_0) := (zh zC.1 0).trans rfl; have hcz28_1 : w25.cell? ⟨gb280, 1, none⟩ = some (.int .i64 a1_1) := (zh zC.1 1).trans rfl; have hfz28_0 := zq zC.1 0; have hfz28_1 := zq zC.1 1) | ((with_reducible refine gate_builtin (b := .append) (xs := #[.tmp 30, .tmp 32]) rfl ?_); at_builtin; refine Kd.R_append k39 (w0 := w) w.heap.size rfl (.tmp 30) (.tmp 32) 25 39 (.agg #[(.int .i64 0), (.int .i64 0), (.int .i64 0)]) 24 rfl Try.underlying25 info39 rfl (by decide) (by omega) u6 x6_2 (⟨(⟨(rd_T39 t283 zB).f0.f0, (rd_T39 t283 zB).f0.f1⟩ : S37), (rd_T39 t283 zB).f1⟩ : S39) [.int .i64 ((rd_T39 t283 zB).f0.f0), .int .i64 ((rd_T39 t283 zB).f0.f1), .int .i64 ((rd_T39 t283 zB).f1)] (fun k_ => some k_ ≠ (.slice (some ad286) t283.length co15 : Value).ownBlock ∧ k_ ≠ gb287) (fun _ => False) rfl (by (go_simp; done)) ?aP (fun _ hk => hk.elim) ?aF ?aO ?aB ?aS ?aL ?_; (case aP => exact k39_mkM _ _ _ (⟨(⟨(rd_T39 t283 zB).f0.f0, (rd_T39 t283 zB).f0.f1⟩ : S37), (rd_T39 t283 zB).f1⟩ : S39)); (case aB => exact (by repeat ((with_reducible first | exact HB.1 | refine zf ?_ zM.1)))); (case aF => exact (fun k_ hk => ⟨Kd.fresh' (Kd.R_lt (zp (zr (p := ⟨gb287, 2, none⟩) (zr (p := ⟨gb287, 1, none⟩) (zr (p := ⟨gb287, 0, none⟩) (zp zG.1 (fun k_ hk => (⟨hk, hk.2⟩ : _ ∧ k_ ≠ gb287))) (fun _ hk => hk.2) _) (fun _ hk => hk.2) _) (fun _ hk => hk.2) _) (fun _ h_ => h_.1))) k_ hk, Kd.freshB (g := gb287) (o := .cells #[.int .i64 ((rd_T39 t283 zB).f0.f0), .int .i64 ((rd_T39 t283 zB).f0.f1), .int .i64 ((rd_T39 t283 zB).f1)] 39 (0, 0)) (by refine blk_put (cs := #[.int .i64 ((rd_T39 t283 zB).f0.f0), .int .i64 ((rd_T39 t283 zB).f0.f1), .int .i64 0]) ?_ 2 _ rfl; refine blk_put (cs := #[.int .i64 ((rd_T39 t283 zB).f0.f0), .int .i64 0, .int .i64 0]) ?_ 1 _ rfl; refine blk_put (cs := #[.int .i64 0, .int .i64 0, .int .i64 0]) ?_ 0 _ rfl; exact zH.1) k_ hk⟩)); (case aO => exact (by exact zp (zr (p := ⟨gb287, 2, none⟩) (zr (p := ⟨gb287, 1, none⟩) (zr (p := ⟨gb287, 0, none⟩) (zp HO_6.1 (fun k_ hk => (⟨hk, hk.2⟩ : _ ∧ k_ ≠ gb287))) (fun _ hk => hk.2) _) (fun _ hk => hk.2) _) (fun _ hk => hk.2) _) (fun _ hk => ⟨hk.1.1, hk.1.2⟩))); (case aS => exact (zm (by repeat ((with_reducible first | exact HB.1 | refine zf ?_ zM.1))))); (case aL => have := LMc24.1; omega); intro v289 w29 ho hb hg hat; rw [← Ny288.1] at ho; replace zG := kz (Kd.R_after (ok := (fun k_ => k_ ≠ gb287)) (by exact zp (zr (p := ⟨gb287, 2, none⟩) (zr (p := ⟨gb287, 1, none⟩) (zr (p := ⟨gb287, 0, none⟩) (zp zG.1 (fun k_ hk => (⟨hk, hk.2⟩ : _ ∧ k_ ≠ gb287))) (fun _ hk => hk.2) _) (fun _ hk => hk.2) _) (fun _ hk => hk.2) _) (fun _ hk => ⟨hk.1.2, hk.1.1⟩)) hg hat); replace zC := kz (blk_grown (g := gb280) (o := .cells #[.int .i64 a1_0, .int .i64 a1_1] 37 (0, 0)) (by refine blk_far ?_ zE.1 _; refine blk_far ?_ zE.1 _; refine blk_far ?_ zE.1 _; exact zC.1) hg (Kd.R_ne HO_6.1 zC.1 (by decide))); replace HB := kz hb; have HO290 := kz ho; clear ho hb hg hat))
           go_roundg k2
           case measure => have := HJ2.1; have := HK2.1; omega
           case rel => exact ⟨(y288), (x7_2), (wrap64 (zB + 1)), (by rfl), (by rfl), H', ⟨by have := HJ2.1; have := HK2.1; omega⟩, ⟨by exact zp HO290.1 (fun _ hk => hk.1)⟩, ⟨by exact zp zG.1 (fun _ hk => hk.2)⟩, ⟨by exact zC.1⟩, ⟨by exact HB.1⟩⟩
          ·
           rw [if_neg c24] at H
           exact absurd H (by simp)
        ·
         rw [if_neg c18] at H
         exact absurd H (by simp)
       ·
        rw [if_neg c17] at H
        exact absurd H (by simp)
      ·
       rw [if_neg c16] at H
       have c16b0 : decide (zB < (t283.length : Int)) = false := decide_eq_false c16
       clear c16
       by_cases c30 : x7_2 = true
       ·
        subst c30
        have H1 : ((spec_l2Build.f k2 x6_2).bind fun t291 => (some (t291, true))) = some (r1, r2) := by rw [if_pos rfl] at H; exact H
        clear H
        have H := H1
        clear H1
        replace H := kf.mp H
        obtain ⟨t291, A310, H⟩ := H
        replace H : (some (t291, true)) = some (r1, r2) := H
        have A31 := kz A310
        clear A310
        simp only [Option.some.injEq, Prod.mk.injEq] at H
        obtain ⟨rfl, rfl⟩ := H
        obtain ⟨Ao32, co32, eo32⟩ := Kd.R_slice HO_6.1
        subst eo32
        go_wp2_with (((with_reducible refine zi (f := 77) rfl ?_); refine zv (some 38) rfl rfl Try.func77 (by kernel_rfl) rfl #[.slice Ao32 x6_2.length co32] rfl (by (try simp only [kj, kh, kg]); rfl) ?_; (with_reducible refine (spec_l2Build.calls k2 _ _ x6_2 t291 _ ?side1 ?side2 A31.1).mono ?_); (case side1 => repeat (exact (Kd.R_reads' HO_6.1).2.2)); (case side2 => exact (Kd.R_reads' HO_6.1).2.1); rintro e w33 ⟨v292, rfl, ho0, hb⟩; refine ⟨_, rfl, ?_⟩; have HO293 := kz (Kd.R_lower ho0 (zm HB.1)); replace HB := kz (zs HB.1 hb)))
        go_ret2
        exact ⟨_, by rfl, by exact HO293.1, by exact HB.1⟩
       ·
        replace c30 := kc.mpr c30
        subst c30
        have H1 : (some (([] : List (S86)), false)) = some (r1, r2) := by rw [if_neg (show ¬ (false = true) by decide)] at H; exact H
        clear H
        have H := H1
        clear H1
        simp only [Option.some.injEq, Prod.mk.injEq] at H
        obtain ⟨rfl, rfl⟩ := H
        go_wp2
        go_ret2
        exact ⟨_, by rfl, by exact Kd.R_nil _ _ _ _ _, by exact HB.1⟩
/-! ### cmp_Or_int: function 101 -/
def cmp_Or_int.l0 : Nat → Int → List Int → Int → Int → Option (Int)
 | 0, _, _, _, _ => none
 | k + 1, x3, x6, x7, x8 => if x8 < x7 then (if 0 ≤ x8 then (if x8 < (x6.length : Int) then (if (rd x6 x8) = x3 then (cmp_Or_int.l0 k x3 x6 x7 (wrap64 (x8 + 1))) else (some (rd x6 x8))) else (none)) else (none)) else (some x3)
def cmp_Or_int.f (k : Nat) (l0 : List Int) : Option (Int) := cmp_Or_int.l0 k 0 l0 (l0.length : Int) 0
theorem cmp_Or_int.calls (k : Nat) (A0 : Option Addr) (c0 : Nat) (l0 : List Int) (r : Int) (w : World) (hr0 : Kd.C (Kd.int .i64) w A0 l0.length l0) (hc0 : l0.length ≤ c0) (h : cmp_Or_int.f k l0 = some r) :
  Calls Try.prog 101 #[.slice A0 l0.length c0] w fun e w' => e = .returned (.int .i64 r) ∧ Drawn0 w w' := by
 have HR0 := kz hr0
 have HC0 := kz hc0
 clear hr0 hc0
 have H : (cmp_Or_int.l0 k 0 l0 (l0.length : Int) 0) = some r := h
 clear h
 have H' := kz H
 clear H
 go_enter Try.func101, Try.ntmps101
 go_wp2
 go_loopg [8] k (fun kq v8 w' => ∃ (x8_1 : Int), v8 = .int .i64 x8_1 ∧ zy (cmp_Or_int.l0 kq 0 l0 (l0.length : Int) x8_1 = some r) ∧ zy (kq ≤ k) ∧ Drawn0 w w')
 case atStart => exact ⟨(0), (by rfl), H', ⟨Nat.le_refl _⟩, by repeat (exact zo _)⟩
 case round =>
  clear H'
  obtain ⟨x8_1, rfl, HA, HK1, ⟨m1, rfl⟩⟩ := hrel
  cases gk with
  | zero => exact absurd HA.1 (by simp [cmp_Or_int.l0])
  | succ k1 =>
   have H := HA.1
   clear HA
   simp only [cmp_Or_int.l0] at H
   by_cases c2 : x8_1 < (l0.length : Int)
   ·
    rw [if_pos c2] at H
    have c2b0 : decide (x8_1 < (l0.length : Int)) = true := decide_eq_true c2
    clear c2
    by_cases c3 : 0 ≤ x8_1
    ·
     rw [if_pos c3] at H
     have c3b0 : decide (0 ≤ x8_1) = true := decide_eq_true c3
     clear c3
     by_cases c4 : x8_1 < (l0.length : Int)
     ·
      rw [if_pos c4] at H
      have c4b0 : decide (x8_1 < (l0.length : Int)) = true := decide_eq_true c4
      clear c4
      by_cases c5 : (rd l0 x8_1) = 0
      ·
       rw [if_pos c5] at H
       have c5b0 : ((rd l0 x8_1) == 0) = true := beq_iff_eq.mpr c5
       have c5b1 : ((rd l0 x8_1) != 0) = false := bne_eq_false_iff_eq.mpr c5
       clear c5
       have H' := kz H
       clear H
       have p294 : 0 ≤ (x8_1 : Int) := of_decide_eq_true (by (with_reducible assumption))
       have q294 : x8_1 < (l0.length : Int) := of_decide_eq_true (by (with_reducible assumption))
       obtain ⟨ad294, e294, hx294_0⟩ := Kd.at_int HR0.1 x8_1 p294 q294
       cases e294
       replace p294 := eq_true p294
       replace q294 := eq_true q294
       go_wp2
       go_roundg k1
       case measure => have := HK1.1; omega
       case rel => exact ⟨(wrap64 (x8_1 + 1)), (by rfl), H', ⟨by have := HK1.1; omega⟩, by repeat (first | exact zo _ | apply zn)⟩
      ·
       rw [if_neg c5] at H
       have c5b0 : ((rd l0 x8_1) == 0) = false := beq_eq_false_iff_ne.mpr c5
       have c5b1 : ((rd l0 x8_1) != 0) = true := bne_iff_ne.mpr c5
       obtain rfl := ke H
       have p294 : 0 ≤ (x8_1 : Int) := of_decide_eq_true (by (with_reducible assumption))
       have q294 : x8_1 < (l0.length : Int) := of_decide_eq_true (by (with_reducible assumption))
       obtain ⟨ad294, e294, hx294_0⟩ := Kd.at_int HR0.1 x8_1 p294 q294
       cases e294
       replace p294 := eq_true p294
       replace q294 := eq_true q294
       go_wp2
       go_ret
       exact ⟨by rfl, by repeat (first | exact zo _ | apply zn)⟩
     ·
      rw [if_neg c4] at H
      exact absurd H (by simp)
    ·
     rw [if_neg c3] at H
     exact absurd H (by simp)
   ·
    rw [if_neg c2] at H
    have c2b0 : decide (x8_1 < (l0.length : Int)) = false := decide_eq_false c2
    clear c2
    obtain rfl := ke H
    go_wp2
    go_ret
    exact ⟨by rfl, by repeat (first | exact zo _ | apply zn)⟩
/-! ### cmp_isNaN_int: function 105 -/
def cmp_isNaN_int.f (a0 : Int) : Option (Bool) := some (a0 != a0)
theorem cmp_isNaN_int.calls (a0 : Int) (r : Bool) (w : World) (h : cmp_isNaN_int.f a0 = some r) :
  Calls Try.prog 105 #[.int .i64 a0] w fun e w' => e = .returned (.bool r) ∧ Drawn0 w w' := by
 have H : (some (a0 != a0)) = some r := h
 clear h
 obtain rfl := ke H
 go_enter kb, Try.ntmps105
 go_wp2
 go_ret
 exact ⟨by rfl, by repeat (exact zo _)⟩
/-! ### cmp_Compare_int: function 102 -/
def cmp_Compare_int.f (a0 : Int) (a1 : Int) : Option (Int) := (cmp_isNaN_int.f a0).bind fun t295 => ((cmp_isNaN_int.f a1).bind fun t296 => (if t295 = true then (if t296 = true then (some 0) else (some (-1))) else (if t296 = true then (some 1) else (if a0 < a1 then (some (-1)) else (if a0 > a1 then (some 1) else (some 0))))))
theorem cmp_Compare_int.calls (a0 : Int) (a1 : Int) (r : Int) (w : World) (h : cmp_Compare_int.f a0 a1 = some r) :
  Calls Try.prog 102 #[.int .i64 a0, .int .i64 a1] w fun e w' => e = .returned (.int .i64 r) ∧ Drawn0 w w' := by
 have H : ((cmp_isNaN_int.f a0).bind fun t295 => ((cmp_isNaN_int.f a1).bind fun t296 => (if t295 = true then (if t296 = true then (some 0) else (some (-1))) else (if t296 = true then (some 1) else (if a0 < a1 then (some (-1)) else (if a0 > a1 then (some 1) else (some 0))))))) = some r := h
 clear h
 replace H := kf.mp H
 obtain ⟨t295, A30, H⟩ := H
 replace H : ((cmp_isNaN_int.f a1).bind fun t296 => (if t295 = true then (if t296 = true then (some 0) else (some (-1))) else (if t296 = true then (some 1) else (if a0 < a1 then (some (-1)) else (if a0 > a1 then (some 1) else (some 0)))))) = some r := H
 have A3 := kz A30
 clear A30
 replace H := kf.mp H
 obtain ⟨t296, A40, H⟩ := H
 replace H : (if t295 = true then (if t296 = true then (some 0) else (some (-1))) else (if t296 = true then (some 1) else (if a0 < a1 then (some (-1)) else (if a0 > a1 then (some 1) else (some 0))))) = some r := H
 have A4 := kz A40
 clear A40
 by_cases c5 : t295 = true
 ·
  subst c5
  have H1 : (if t296 = true then (some 0) else (some (-1))) = some r := by rw [if_pos rfl] at H; exact H
  clear H
  have H := H1
  clear H1
  by_cases c6 : t296 = true
  ·
   subst c6
   have H1 : (some 0) = some r := by rw [if_pos rfl] at H; exact H
   clear H
   have H := H1
   clear H1
   obtain rfl := ke H
   go_enter ko, kx
   go_wp2_with (first | ((with_reducible refine zi (f := 105) rfl ?_); refine zv (some 8) rfl rfl kb (by kernel_rfl) rfl #[.int .i64 a0] rfl (by (try simp only [kj, kh, kg]); rfl) ?_; (with_reducible refine (cmp_isNaN_int.calls a0 true _ A3.1).mono ?_); rintro e w' ⟨rfl, ⟨nd, rfl⟩⟩; refine ⟨_, rfl, ?_⟩) | ((with_reducible refine zi (f := 105) rfl ?_); refine zv (some 10) rfl rfl kb (by kernel_rfl) rfl #[.int .i64 a1] rfl (by (try simp only [kj, kh, kg]); rfl) ?_; (with_reducible refine (cmp_isNaN_int.calls a1 true _ A4.1).mono ?_); rintro e w' ⟨rfl, ⟨nd, rfl⟩⟩; refine ⟨_, rfl, ?_⟩))
   go_ret
   exact ⟨by rfl, by repeat (first | exact zo _ | apply zn)⟩
  ·
   replace c6 := kc.mpr c6
   subst c6
   have H1 : (some (-1)) = some r := by rw [if_neg (show ¬ (false = true) by decide)] at H; exact H
   clear H
   have H := H1
   clear H1
   obtain rfl := ke H
   go_enter ko, kx
   go_wp2_with (first | ((with_reducible refine zi (f := 105) rfl ?_); refine zv (some 8) rfl rfl kb (by kernel_rfl) rfl #[.int .i64 a0] rfl (by (try simp only [kj, kh, kg]); rfl) ?_; (with_reducible refine (cmp_isNaN_int.calls a0 true _ A3.1).mono ?_); rintro e w' ⟨rfl, ⟨nd, rfl⟩⟩; refine ⟨_, rfl, ?_⟩) | ((with_reducible refine zi (f := 105) rfl ?_); refine zv (some 10) rfl rfl kb (by kernel_rfl) rfl #[.int .i64 a1] rfl (by (try simp only [kj, kh, kg]); rfl) ?_; (with_reducible refine (cmp_isNaN_int.calls a1 false _ A4.1).mono ?_); rintro e w' ⟨rfl, ⟨nd, rfl⟩⟩; refine ⟨_, rfl, ?_⟩))
   go_ret
   exact ⟨by rfl, by repeat (first | exact zo _ | apply zn)⟩
 ·
  replace c5 := kc.mpr c5
  subst c5
  have H1 : (if t296 = true then (some 1) else (if a0 < a1 then (some (-1)) else (if a0 > a1 then (some 1) else (some 0)))) = some r := by rw [if_neg (show ¬ (false = true) by decide)] at H; exact H
  clear H
  have H := H1
  clear H1
  by_cases c7 : t296 = true
  ·
   subst c7
   have H1 : (some 1) = some r := by rw [if_pos rfl] at H; exact H
   clear H
   have H := H1
   clear H1
   obtain rfl := ke H
   go_enter ko, kx
   go_wp2_with (first | ((with_reducible refine zi (f := 105) rfl ?_); refine zv (some 8) rfl rfl kb (by kernel_rfl) rfl #[.int .i64 a0] rfl (by (try simp only [kj, kh, kg]); rfl) ?_; (with_reducible refine (cmp_isNaN_int.calls a0 false _ A3.1).mono ?_); rintro e w' ⟨rfl, ⟨nd, rfl⟩⟩; refine ⟨_, rfl, ?_⟩) | ((with_reducible refine zi (f := 105) rfl ?_); refine zv (some 10) rfl rfl kb (by kernel_rfl) rfl #[.int .i64 a1] rfl (by (try simp only [kj, kh, kg]); rfl) ?_; (with_reducible refine (cmp_isNaN_int.calls a1 true _ A4.1).mono ?_); rintro e w' ⟨rfl, ⟨nd, rfl⟩⟩; refine ⟨_, rfl, ?_⟩))
   go_ret
   exact ⟨by rfl, by repeat (first | exact zo _ | apply zn)⟩
  ·
   replace c7 := kc.mpr c7
   subst c7
   have H1 : (if a0 < a1 then (some (-1)) else (if a0 > a1 then (some 1) else (some 0))) = some r := by rw [if_neg (show ¬ (false = true) by decide)] at H; exact H
   clear H
   have H := H1
   clear H1
   by_cases c8 : a0 < a1
   ·
    rw [if_pos c8] at H
    have c8b0 : decide (a0 < a1) = true := decide_eq_true c8
    clear c8
    obtain rfl := ke H
    go_enter ko, kx
    go_wp2_with (first | ((with_reducible refine zi (f := 105) rfl ?_); refine zv (some 8) rfl rfl kb (by kernel_rfl) rfl #[.int .i64 a0] rfl (by (try simp only [kj, kh, kg]); rfl) ?_; (with_reducible refine (cmp_isNaN_int.calls a0 false _ A3.1).mono ?_); rintro e w' ⟨rfl, ⟨nd, rfl⟩⟩; refine ⟨_, rfl, ?_⟩) | ((with_reducible refine zi (f := 105) rfl ?_); refine zv (some 10) rfl rfl kb (by kernel_rfl) rfl #[.int .i64 a1] rfl (by (try simp only [kj, kh, kg]); rfl) ?_; (with_reducible refine (cmp_isNaN_int.calls a1 false _ A4.1).mono ?_); rintro e w' ⟨rfl, ⟨nd, rfl⟩⟩; refine ⟨_, rfl, ?_⟩))
    go_ret
    exact ⟨by rfl, by repeat (first | exact zo _ | apply zn)⟩
   ·
    rw [if_neg c8] at H
    have c8b0 : decide (a0 < a1) = false := decide_eq_false c8
    clear c8
    by_cases c9 : a0 > a1
    ·
     rw [if_pos c9] at H
     have c9b0 : decide (a1 < a0) = true := decide_eq_true c9
     clear c9
     obtain rfl := ke H
     go_enter ko, kx
     go_wp2_with (first | ((with_reducible refine zi (f := 105) rfl ?_); refine zv (some 8) rfl rfl kb (by kernel_rfl) rfl #[.int .i64 a0] rfl (by (try simp only [kj, kh, kg]); rfl) ?_; (with_reducible refine (cmp_isNaN_int.calls a0 false _ A3.1).mono ?_); rintro e w' ⟨rfl, ⟨nd, rfl⟩⟩; refine ⟨_, rfl, ?_⟩) | ((with_reducible refine zi (f := 105) rfl ?_); refine zv (some 10) rfl rfl kb (by kernel_rfl) rfl #[.int .i64 a1] rfl (by (try simp only [kj, kh, kg]); rfl) ?_; (with_reducible refine (cmp_isNaN_int.calls a1 false _ A4.1).mono ?_); rintro e w' ⟨rfl, ⟨nd, rfl⟩⟩; refine ⟨_, rfl, ?_⟩))
     go_ret
     exact ⟨by rfl, by repeat (first | exact zo _ | apply zn)⟩
    ·
     rw [if_neg c9] at H
     have c9b0 : decide (a1 < a0) = false := decide_eq_false c9
     clear c9
     obtain rfl := ke H
     go_enter ko, kx
     go_wp2_with (first | ((with_reducible refine zi (f := 105) rfl ?_); refine zv (some 8) rfl rfl kb (by kernel_rfl) rfl #[.int .i64 a0] rfl (by (try simp only [kj, kh, kg]); rfl) ?_; (with_reducible refine (cmp_isNaN_int.calls a0 false _ A3.1).mono ?_); rintro e w' ⟨rfl, ⟨nd, rfl⟩⟩; refine ⟨_, rfl, ?_⟩) | ((with_reducible refine zi (f := 105) rfl ?_); refine zv (some 10) rfl rfl kb (by kernel_rfl) rfl #[.int .i64 a1] rfl (by (try simp only [kj, kh, kg]); rfl) ?_; (with_reducible refine (cmp_isNaN_int.calls a1 false _ A4.1).mono ?_); rintro e w' ⟨rfl, ⟨nd, rfl⟩⟩; refine ⟨_, rfl, ?_⟩))
     go_ret
     exact ⟨by rfl, by repeat (first | exact zo _ | apply zn)⟩
/-! ### impl_compare: function 89 -/
def impl_compare.f (k : Nat) (a0_0 : Int) (a0_1 : Int) (a1_0 : Int) (a1_1 : Int) : Option (Int) := (cmp_Compare_int.f a0_0 a1_0).bind fun t299 => ((cmp_Compare_int.f a0_1 a1_1).bind fun t300 => ((cmp_Or_int.f k (([t299, t300] : List Int))).bind fun t304 => (some t304)))
def impl_compare.T1 : Bool × List (List Nat × List Nat) := (true, [([], []), ([0], [0]), ([], []), ([2], [2]), ([1, 3], [1, 3]), ([], []), ([5], [5]), ([], []), ([7], [7]), ([6, 8, 4], [6, 8]), ([4, 9], [4, 9]), ([10, 9], [10]), ([11, 11, 0, 1, 2, 3, 4, 5, 6, 7, 8, 9, 10, 11], [11])])
def impl_compare.B1 : List Nat := [0, 1, 0, 4, 15, 0, 32, 0, 128, 511, 1023, 2047, 4095]
theorem impl_compare.tab1 : rtab .any (opsOf Try.f89 1) = impl_compare.T1 := by kernel_rfl
theorem impl_compare.bits1 : waitsOk impl_compare.T1.2 impl_compare.B1 = true := by kernel_rfl
theorem impl_compare.calls (k : Nat) (a0_0 : Int) (a0_1 : Int) (a1_0 : Int) (a1_1 : Int) (r : Int) (w : World) (h : impl_compare.f k a0_0 a0_1 a1_0 a1_1 = some r) :
  Calls Try.prog 89 #[.agg #[.int .i64 a0_0, .int .i64 a0_1], .agg #[.int .i64 a1_0, .int .i64 a1_1]] w fun e w' => e = .returned (.int .i64 r) ∧ Below w.heap.size w w' := by
 have hu37 := Try.underlying37
 have HB := kz (Below.refl w.heap.size w)
 have H : ((cmp_Compare_int.f a0_0 a1_0).bind fun t299 => ((cmp_Compare_int.f a0_1 a1_1).bind fun t300 => ((cmp_Or_int.f k (([t299, t300] : List Int))).bind fun t304 => (some t304)))) = some r := h
 clear h
 replace H := kf.mp H
 obtain ⟨t299, A30, H⟩ := H
 replace H : ((cmp_Compare_int.f a0_1 a1_1).bind fun t300 => ((cmp_Or_int.f k (([t299, t300] : List Int))).bind fun t304 => (some t304))) = some r := H
 have A3 := kz A30
 clear A30
 replace H := kf.mp H
 obtain ⟨t300, A40, H⟩ := H
 replace H : ((cmp_Or_int.f k (([t299, t300] : List Int))).bind fun t304 => (some t304)) = some r := H
 have A4 := kz A40
 clear A40
 obtain ⟨y301, hy301⟩ : ∃ y_ : List Int, y_ = (([t299, t300] : List Int)) := ⟨_, rfl⟩
 replace H : ((cmp_Or_int.f k y301).bind fun t304 => (some t304)) = some r := by (rw [hy301]; with_reducible exact H)
 have Ny301 := kz hy301
 clear hy301
 replace H := kf.mp H
 obtain ⟨t304, A50, H⟩ := H
 replace H : (some t304) = some r := H
 have A5 := kz A50
 clear A50
 obtain rfl := ke H
 go_enter Try.func89, Try.ntmps89
 try go_wp2_with (first | ((with_reducible refine gate_dst (N := 2) rfl ?_); refine box_event rfl (N := 2) rfl (cs := #[.int .i64 a0_0, .int .i64 a0_1]) (t := 37) ?hr ?_; (case hr => go_simp; done); intro gb297 hg w6 hbox hb; replace HB := kz (zs HB.1 hb); have zF := kz hbox; clear hb hbox hg) | ((with_reducible refine gate_dst (N := 3) rfl ?_); refine box_event rfl (N := 3) rfl (cs := #[.int .i64 a1_0, .int .i64 a1_1]) (t := 37) ?hr ?_; (case hr => go_simp; done); intro gb298 hg w7 hbox hb; replace zF := kz (zw zF.1 hb); replace HB := kz (zs HB.1 hb); have zI := kz hbox; clear hb hbox hg))
 replace zF := kz (zg zF.1)
 replace zI := kz (zg zI.1)
 replace HB := kz (zb HB.1)
 refine start_ (n := 13) (S := fun w' => w'.cell? ⟨gb297, 0, none⟩ = some (.int .i64 a0_0) ∧ w'.cell? ⟨gb297, 1, none⟩ = some (.int .i64 a0_1) ∧ w'.cell? ⟨gb298, 0, none⟩ = some (.int .i64 a1_0) ∧ w'.cell? ⟨gb298, 1, none⟩ = some (.int .i64 a1_1)) (ds := []) #[ku,ku,ku,ku,ku,ku,ku,ku,ku,ku,ku,ku,ku] (by kernel_rfl) rfl rfl ⟨(zh zF.1 0).trans rfl, (zh zF.1 1).trans rfl, (zh zI.1 0).trans rfl, (zh zI.1 1).trans rfl⟩ (fun hHeld => ?_); refine with_tabW impl_compare.tab1 impl_compare.bits1 (fun HT_ HW_ => ?_)
 generalize w7.drew = w8 at zF zI HB hHeld ⊢
 refine pure_ (i := 0) (N := some 5) (v := ?_) (a' := ?_) #[km,ku,ku,ku,ku,ku,ku,ku,ku,ku,ku,ku,ku] rfl rfl (any_of HT_.1 (by kernel_rfl)) (fun _ _ _ h => h) (Or.inl ⟨by rfl, ?_⟩) ?_ ?_
 rotate_left
 ·
  intro w'
  go_simp
  with_reducible rfl
 rotate_left
 ·
  simp only [kd, ky, kk, kv, zz, zA]
  rfl
 refine pure_ (i := 2) (N := some 7) (v := ?_) (a' := ?_) #[km,ku,km,ku,ku,ku,ku,ku,ku,ku,ku,ku,ku] rfl rfl (any_of HT_.1 (by kernel_rfl)) (fun _ _ _ h => h) (Or.inl ⟨by rfl, ?_⟩) ?_ ?_
 rotate_left
 ·
  intro w'
  go_simp
  with_reducible rfl
 rotate_left
 ·
  simp only [kd, ky, kk, kv, zz, zA]
  rfl
 refine pure_ (i := 5) (N := some 10) (v := ?_) (a' := ?_) #[km,ku,km,ku,ku,km,ku,ku,ku,ku,ku,ku,ku] rfl rfl (any_of HT_.1 (by kernel_rfl)) (fun _ _ _ h => h) (Or.inl ⟨by rfl, ?_⟩) ?_ ?_
 rotate_left
 ·
  intro w'
  go_simp
  with_reducible rfl
 rotate_left
 ·
  simp only [kd, ky, kk, kv, zz, zA]
  rfl
 refine pure_ (i := 7) (N := some 12) (v := ?_) (a' := ?_) #[km,ku,km,ku,ku,km,ku,km,ku,ku,ku,ku,ku] rfl rfl (any_of HT_.1 (by kernel_rfl)) (fun _ _ _ h => h) (Or.inl ⟨by rfl, ?_⟩) ?_ ?_
 rotate_left
 ·
  intro w'
  go_simp
  with_reducible rfl
 rotate_left
 ·
  simp only [kd, ky, kk, kv, zz, zA]
  rfl
 refine take_ (i := 1) (N := some 6) (v := ?_) (a' := ?_) #[km,km,km,ku,ku,km,ku,km,ku,ku,ku,ku,ku] rfl rfl (take_ofW HT_.1 HW_.1 (by kernel_rfl)) (fun _ _ _ h => h) (Or.inl ⟨by rfl, ?_⟩) hHeld ?_ ?_
 rotate_left
 ·
  rintro w' ⟨s0, s1, s2, s3⟩
  go_simp
  with_reducible rfl
 rotate_left
 ·
  simp only [kd, ky, kk, kv, zz, zA]
  rfl
 refine take_ (i := 3) (N := some 8) (v := ?_) (a' := ?_) #[km,km,km,km,ku,km,ku,km,ku,ku,ku,ku,ku] rfl rfl (take_ofW HT_.1 HW_.1 (by kernel_rfl)) (fun _ _ _ h => h) (Or.inl ⟨by rfl, ?_⟩) hHeld ?_ ?_
 rotate_left
 ·
  rintro w' ⟨s0, s1, s2, s3⟩
  go_simp
  with_reducible rfl
 rotate_left
 ·
  simp only [kd, ky, kk, kv, zz, zA]
  rfl
 refine take_ (i := 6) (N := some 11) (v := ?_) (a' := ?_) #[km,km,km,km,ku,km,km,km,ku,ku,ku,ku,ku] rfl rfl (take_ofW HT_.1 HW_.1 (by kernel_rfl)) (fun _ _ _ h => h) (Or.inl ⟨by rfl, ?_⟩) hHeld ?_ ?_
 rotate_left
 ·
  rintro w' ⟨s0, s1, s2, s3⟩
  go_simp
  with_reducible rfl
 rotate_left
 ·
  simp only [kd, ky, kk, kv, zz, zA]
  rfl
 refine take_ (i := 8) (N := some 13) (v := ?_) (a' := ?_) #[km,km,km,km,ku,km,km,km,km,ku,ku,ku,ku] rfl rfl (take_ofW HT_.1 HW_.1 (by kernel_rfl)) (fun _ _ _ h => h) (Or.inl ⟨by rfl, ?_⟩) hHeld ?_ ?_
 rotate_left
 ·
  rintro w' ⟨s0, s1, s2, s3⟩
  go_simp
  with_reducible rfl
 rotate_left
 ·
  simp only [kd, ky, kk, kv, zz, zA]
  rfl
 refine one_ (i := 4) (N := some 9) #[km,km,km,km,km,km,km,km,km,ku,ku,ku,ku] rfl rfl (one_of HT_.1 (by kernel_rfl)) (by decide) (fun K hK => ?_)
 refine goes_ ko (by kernel_rfl) rfl #[.int .i64 a0_0, .int .i64 a1_0] (by rfl) rfl rfl (by (try simp only [kj, kh, kg]); rfl) ?_
 with_reducible refine (cmp_Compare_int.calls a0_0 a1_0 t299 _ A3.1).mono ?_
 rintro e w' ⟨rfl, ⟨nd, rfl⟩⟩
 refine ⟨_, rfl, ?_⟩
 refine hK.out _ _ ⟨(zh zF.1 0).trans rfl, (zh zF.1 1).trans rfl, (zh zI.1 0).trans rfl, (zh zI.1 1).trans rfl⟩ (fun hHeld => ?_)
 clear hK K
 refine norm_ (a' := ?_) ?_ ?_
 rotate_left
 ·
  show kd _ (some 9) _ = _
  simp only [kd, ky, kk, kv, zz, zA]
  rfl
 refine one_ (i := 9) (N := some 14) #[km,km,km,km,km,km,km,km,km,km,ku,ku,ku] rfl rfl (one_of HT_.1 (by kernel_rfl)) (by decide) (fun K hK => ?_)
 refine goes_ ko (by kernel_rfl) rfl #[.int .i64 a0_1, .int .i64 a1_1] (by rfl) rfl rfl (by (try simp only [kj, kh, kg]); rfl) ?_
 with_reducible refine (cmp_Compare_int.calls a0_1 a1_1 t300 _ A4.1).mono ?_
 rintro e w' ⟨rfl, ⟨nd, rfl⟩⟩
 refine ⟨_, rfl, ?_⟩
 refine hK.out _ _ ⟨(zh zF.1 0).trans rfl, (zh zF.1 1).trans rfl, (zh zI.1 0).trans rfl, (zh zI.1 1).trans rfl⟩ (fun hHeld => ?_)
 clear hK K
 refine norm_ (a' := ?_) ?_ ?_
 rotate_left
 ·
  show kd _ (some 14) _ = _
  simp only [kd, ky, kk, kv, zz, zA]
  rfl
 refine one_ (i := 10) (N := some 15) #[km,km,km,km,km,km,km,km,km,km,km,ku,ku] rfl rfl (one_of HT_.1 (by kernel_rfl)) (by decide) (fun K hK => ?_)
 refine Kd.R_lit_step (Kd.int .i64) _ 3 rfl (N := 15) rfl (xs := ([t299, t300] : List Int)) (inner := [.int .i64 t299, .int .i64 t300]) (ok := fun _ => True) (okp := fun _ => True) ?hr ?hp (fun _ hk => hk) trivial (Below.refl _ _) (Nat.le_refl _) (by simp) ?_; (case hr => go_simp; done); (case hp => exact (Reps.one (show Kd.M (Kd.int .i64) _ _ _ t299 [.int .i64 t299] from rfl) (Reps.one (show Kd.M (Kd.int .i64) _ _ _ t300 [.int .i64 t300] from rfl) (Reps.none _ _))))
 intro v302 w9 ho10 hb hg_ hnew_
 clear hg_ hnew_
 (rw [← Ny301.1] at ho10)
 have HO303 := kz (Kd.R_lower ho10 (zm (by repeat ((with_reducible first | exact HB.1 | apply za)))))
 replace zF := kz (zw (g := gb297) (o := .cells #[.int .i64 a0_0, .int .i64 a0_1] 37 (0, 0)) (by (with_reducible repeat (refine zd ?_ _)); exact zF.1) hb)
 replace zI := kz (zw (g := gb298) (o := .cells #[.int .i64 a1_0, .int .i64 a1_1] 37 (0, 0)) (by (with_reducible repeat (refine zd ?_ _)); exact zI.1) hb)
 replace HB := kz (zs (by repeat ((with_reducible first | exact HB.1 | apply za))) hb)
 clear hb ho10
 obtain ⟨Ao11, co11, eo11⟩ := Kd.R_slice HO303.1
 (subst eo11)
 refine hK.out _ _ ⟨(zh zF.1 0).trans rfl, (zh zF.1 1).trans rfl, (zh zI.1 0).trans rfl, (zh zI.1 1).trans rfl⟩ (fun hHeld => ?_)
 clear hK K
 refine norm_ (a' := ?_) ?_ ?_
 rotate_left
 ·
  show kd _ (some 15) _ = _
  simp only [kd, ky, kk, kv, zz, zA]
  rfl
 refine one_ (i := 11) (N := some 16) #[km,km,km,km,km,km,km,km,km,km,km,km,ku] rfl rfl (one_of HT_.1 (by kernel_rfl)) (by decide) (fun K hK => ?_)
 refine goes_ Try.func101 (by kernel_rfl) rfl #[.slice Ao11 y301.length co11] (by rfl) rfl rfl (by (try simp only [kj, kh, kg]); rfl) ?_
 with_reducible refine (cmp_Or_int.calls k _ _ y301 t304 _ ?side1 ?side2 A5.1).mono ?_
 (case side1 => repeat (exact (Kd.R_reads' HO303.1).2.2))
 (case side2 => exact (Kd.R_reads' HO303.1).2.1)
 rintro e w' ⟨rfl, ⟨nd, rfl⟩⟩
 refine ⟨_, rfl, ?_⟩
 refine hK.out _ _ ⟨(zh zF.1 0).trans rfl, (zh zF.1 1).trans rfl, (zh zI.1 0).trans rfl, (zh zI.1 1).trans rfl⟩ (fun hHeld => ?_)
 clear hK K
 refine norm_ (a' := ?_) ?_ ?_
 rotate_left
 ·
  show kd _ (some 16) _ = _
  simp only [kd, ky, kk, kv, zz, zA]
  rfl
 refine pure_ (i := 12) (N := some 4) (v := ?_) (a' := ?_) #[km,km,km,km,km,km,km,km,km,km,km,km,km] rfl rfl (any_of HT_.1 (by kernel_rfl)) (fun _ _ _ h => h) (Or.inl ⟨by rfl, ?_⟩) ?_ ?_
 rotate_left
 ·
  intro w'
  go_simp
  with_reducible rfl
 rotate_left
 ·
  simp only [kd, ky, kk, kv, zz, zA]
  rfl
 refine done_ (done_of HT_.1 (by kernel_rfl)) ?_
 try go_wp2
 go_ret
 exact ⟨by rfl, by repeat ((with_reducible first | exact HB.1 | apply za))⟩
end Go.Proofs.Ytakoaogbkajkcaa.PFnTrieSteps
