/- Go functions told by Lean functions, printed by a program. No condition but what each statement says. -/
import Derived.Test.YtlnfcobloolnnaaYFnPrependx2
namespace Go.Proofs.Ytlnfcobloolnnaa.PFnPrepend
open Go.RowKit Go.Proofs.YtlnfcobloolnnaaW.PrintWords Go.Proofs.YtlnfcobloolnnaaW.PrintLast Go.Proofs.YtlnfcobloolnnaaW.PrintMore
open List renaming setIfInBounds_toArray → kz, set_cons_zero → ky, set_cons_succ → kj, map_toArray → kh, map_cons → kf, map_nil → kb
open Aside0 renaming mk → kk
open Act renaming put → kv
open Option renaming bind_eq_some_iff → kg
open Option.some renaming inj → ke
open Or renaming inl → kd, inr → ko
open Bool renaming eq_false_iff → kc, true → kt, false → kr
open Try renaming ntmps15 → kx, func15 → km, func50 → ku
open Int renaming tmod → ks
set_option maxHeartbeats 8000000
set_option maxRecDepth 100000
open Go.Proofs.YtlnfcobloolnnaaW.PrintLast renaming i64_w → zf, i32_w → zi, any_of → zj, pure_ → zl, take_ofW → zq, goesL_ → zr, take_ → zs
open Go.Proofs.YtlnfcobloolnnaaW.PrintWords renaming pw_below_drewN → za, blk_frozen → zb, below_drew1 → zc, blk_cell → zd, below_alloc → ze, below_size → zg, below_set → zh, below_step → zk, gate_callee → zm, box_event → zn, gate_dst → zo, blk_drew → zp
attribute [local go_sem] max2_int min2_int max_two min_two max_three min_three max_four min_four
set_option linter.unusedVariables false
set_option linter.unusedSimpArgs false

/-! ### impl_areComms: function 54 -/
def impl_areComms.l0 : Nat → List Int → List Int → Int → Int → Option (Bool)
 | 0, _, _, _, _ => none
 | k + 1, x0, x5, x6, x7 => if x7 < x6 then (if 0 ≤ x7 then (if x7 < (x5.length : Int) then ((impl_isValue.f (rd x5 x7)).bind fun t121 => (if t121 = true then (if x7 > 0 then (if 0 ≤ (wrap64 (x7 - 1)) then (if (wrap64 (x7 - 1)) < (x0.length : Int) then (if (rd x5 x7) ≤ (rd x0 (wrap64 (x7 - 1))) then (some false) else (impl_areComms.l0 k x0 x5 x6 (wrap64 (x7 + 1)))) else (none)) else (none)) else (impl_areComms.l0 k x0 x5 x6 (wrap64 (x7 + 1)))) else (some false))) else (none)) else (none)) else (some (decide ((x0.length : Int) ≤ 6)))
def impl_areComms.f (k : Nat) (l0 : List Int) : Option (Bool) := impl_areComms.l0 k l0 l0 (l0.length : Int) 0
theorem impl_areComms.mono_l : ∀ k, (∀ y0 y1 y2 y3, LeO (impl_areComms.l0 k y0 y1 y2 y3) (impl_areComms.l0 (k + 1) y0 y1 y2 y3))
 | 0 => fun _ _ _ _ r h => by simp [impl_areComms.l0] at h
 | k + 1 => by
  have ih0 := impl_areComms.mono_l k
  ·
   intro y0 y1 y2 y3
   unfold impl_areComms.l0
   repeat' first
   | (with_reducible exact ih0 _ _ _ _)
   | (with_reducible exact LeO.refl _)
   | (with_reducible refine LeO.ite ?_ ?_)
   | (with_reducible refine LeO.bind ?_ (fun _ => ?_))
theorem impl_areComms.mono : ∀ a0 k, LeO (impl_areComms.f k a0) (impl_areComms.f (k + 1) a0) := by
 intro a0 k
 have ih0 := impl_areComms.mono_l k
 unfold impl_areComms.f
 repeat' first
   | (with_reducible exact ih0 _ _ _ _)
theorem impl_areComms.calls (k : Nat) (A0 : Option Addr) (c0 : Nat) (l0 : List Int) (r : Bool) (w : World) (hr0 : Kd.C (Kd.int .i64) w A0 l0.length l0) (hc0 : l0.length ≤ c0) (h : impl_areComms.f k l0 = some r) :
  Calls Try.prog 54 #[.slice A0 l0.length c0] w fun e w' => e = .returned (.bool r) ∧ Drawn0 w w' := by
 have HR0 := kk hr0
 have HC0 := kk hc0
 clear hr0 hc0
 have H : (impl_areComms.l0 k l0 l0 (l0.length : Int) 0) = some r := h
 clear h
 have H' := kk H
 clear H
 go_enter Try.func54, Try.ntmps54
 go_wp2
 go_loopg [7] k (fun kq v7 w' => ∃ (x7_1 : Int), v7 = .int .i64 x7_1 ∧ Aside0 (impl_areComms.l0 kq l0 l0 (l0.length : Int) x7_1 = some r) ∧ Aside0 (kq ≤ k) ∧ Drawn0 w w')
 case atStart => exact ⟨(0), (by rfl), H', ⟨Nat.le_refl _⟩, by repeat (exact Drawn0.refl _)⟩
 case round =>
  clear H'
  obtain ⟨x7_1, rfl, HA, HK1, ⟨m1, rfl⟩⟩ := hrel
  cases gk with
  | zero => exact absurd HA.1 (by simp [impl_areComms.l0])
  | succ k1 =>
   have H := HA.1
   clear HA
   simp only [impl_areComms.l0] at H
   by_cases c2 : x7_1 < (l0.length : Int)
   ·
    rw [if_pos c2] at H
    have c2b0 : decide (x7_1 < (l0.length : Int)) = true := decide_eq_true c2
    clear c2
    by_cases c3 : 0 ≤ x7_1
    ·
     rw [if_pos c3] at H
     have c3b0 : decide (0 ≤ x7_1) = true := decide_eq_true c3
     clear c3
     by_cases c4 : x7_1 < (l0.length : Int)
     ·
      rw [if_pos c4] at H
      have c4b0 : decide (x7_1 < (l0.length : Int)) = true := decide_eq_true c4
      clear c4
      replace H := kg.mp H
      obtain ⟨t121, A50, H⟩ := H
      replace H : (if t121 = true then (if x7_1 > 0 then (if 0 ≤ (wrap64 (x7_1 - 1)) then (if (wrap64 (x7_1 - 1)) < (l0.length : Int) then (if (rd l0 x7_1) ≤ (rd l0 (wrap64 (x7_1 - 1))) then (some false) else (impl_areComms.l0 k1 l0 l0 (l0.length : Int) (wrap64 (x7_1 + 1)))) else (none)) else (none)) else (impl_areComms.l0 k1 l0 l0 (l0.length : Int) (wrap64 (x7_1 + 1)))) else (some false)) = some r := H
      have A5 := kk A50
      clear A50
      by_cases c6 : t121 = true
      ·
       subst c6
       have H1 : (if x7_1 > 0 then (if 0 ≤ (wrap64 (x7_1 - 1)) then (if (wrap64 (x7_1 - 1)) < (l0.length : Int) then (if (rd l0 x7_1) ≤ (rd l0 (wrap64 (x7_1 - 1))) then (some false) else (impl_areComms.l0 k1 l0 l0 (l0.length : Int) (wrap64 (x7_1 + 1)))) else (none)) else (none)) else (impl_areComms.l0 k1 l0 l0 (l0.length : Int) (wrap64 (x7_1 + 1)))) = some r := by rw [if_pos rfl] at H; exact H
       clear H
       have H := H1
       clear H1
       by_cases c7 : x7_1 > 0
       ·
        rw [if_pos c7] at H
        have c7b0 : decide (0 < x7_1) = true := decide_eq_true c7
        clear c7
        obtain ⟨ji8, hji8⟩ : ∃ j_ : Int, (wrap64 (x7_1 - 1)) = j_ := ⟨_, rfl⟩
        replace H : (if 0 ≤ (ji8) then (if (ji8) < (l0.length : Int) then (if (rd l0 x7_1) ≤ (rd l0 (ji8)) then (some false) else (impl_areComms.l0 k1 l0 l0 (l0.length : Int) (wrap64 (x7_1 + 1)))) else (none)) else (none)) = some r := by (rw [hji8] at H; exact H)
        (try rw [hji8] at A5)
        have hji8w : (IntKind.i64.wrap (x7_1 - 1)) = ji8 := (zf _).trans hji8
        by_cases c9 : 0 ≤ (ji8)
        ·
         rw [if_pos c9] at H
         have c9b0 : decide (0 ≤ (ji8)) = true := decide_eq_true c9
         clear c9
         by_cases c10 : (ji8) < (l0.length : Int)
         ·
          rw [if_pos c10] at H
          have c10b0 : decide ((ji8) < (l0.length : Int)) = true := decide_eq_true c10
          clear c10
          by_cases c11 : (rd l0 x7_1) ≤ (rd l0 (ji8))
          ·
           rw [if_pos c11] at H
           have c11b0 : decide ((rd l0 x7_1) ≤ (rd l0 (ji8))) = true := decide_eq_true c11
           clear c11
           obtain rfl := ke H
           have p120 : 0 ≤ (x7_1 : Int) := of_decide_eq_true (by (with_reducible assumption))
           have q120 : x7_1 < (l0.length : Int) := of_decide_eq_true (by (with_reducible assumption))
           obtain ⟨ad120, e120, hx120_0⟩ := Kd.at_int HR0.1 x7_1 p120 q120
           cases e120
           replace p120 := eq_true p120
           replace q120 := eq_true q120
           go_wp2_with (((with_reducible refine zm (f := 53) rfl ?_); refine zr (some 13) rfl rfl Try.func53 (by kernel_rfl) rfl #[.int .i64 (rd l0 x7_1)] rfl (by (try simp only [kh, kf, kb]); rfl) ?_; (with_reducible refine (impl_isValue.calls (rd l0 x7_1) true _ A5.1).mono ?_); rintro e w' ⟨rfl, ⟨nd, rfl⟩⟩; refine ⟨_, rfl, ?_⟩; have p122 : 0 ≤ ((ji8) : Int) := of_decide_eq_true (by (with_reducible assumption)); have q122 : (ji8) < (l0.length : Int) := of_decide_eq_true (by (with_reducible assumption)); obtain ⟨ad122, e122, hx122_0⟩ := Kd.at_int HR0.1 (ji8) p122 q122; obtain rfl : ad120 = ad122 := (by injection e122); replace p122 := eq_true p122; replace q122 := eq_true q122))
           go_ret
           exact ⟨by rfl, by repeat (first | exact Drawn0.refl _ | apply Drawn0.step)⟩
          ·
           rw [if_neg c11] at H
           have c11b0 : decide ((rd l0 x7_1) ≤ (rd l0 (ji8))) = false := decide_eq_false c11
           clear c11
           have H' := kk H
           clear H
           have p120 : 0 ≤ (x7_1 : Int) := of_decide_eq_true (by (with_reducible assumption))
           have q120 : x7_1 < (l0.length : Int) := of_decide_eq_true (by (with_reducible assumption))
           obtain ⟨ad120, e120, hx120_0⟩ := Kd.at_int HR0.1 x7_1 p120 q120
           cases e120
           replace p120 := eq_true p120
           replace q120 := eq_true q120
           go_wp2_with (((with_reducible refine zm (f := 53) rfl ?_); refine zr (some 13) rfl rfl Try.func53 (by kernel_rfl) rfl #[.int .i64 (rd l0 x7_1)] rfl (by (try simp only [kh, kf, kb]); rfl) ?_; (with_reducible refine (impl_isValue.calls (rd l0 x7_1) true _ A5.1).mono ?_); rintro e w' ⟨rfl, ⟨nd, rfl⟩⟩; refine ⟨_, rfl, ?_⟩; have p122 : 0 ≤ ((ji8) : Int) := of_decide_eq_true (by (with_reducible assumption)); have q122 : (ji8) < (l0.length : Int) := of_decide_eq_true (by (with_reducible assumption)); obtain ⟨ad122, e122, hx122_0⟩ := Kd.at_int HR0.1 (ji8) p122 q122; obtain rfl : ad120 = ad122 := (by injection e122); replace p122 := eq_true p122; replace q122 := eq_true q122))
           go_roundg k1
           case measure => have := HK1.1; omega
           case rel => exact ⟨(wrap64 (x7_1 + 1)), (by rfl), H', ⟨by have := HK1.1; omega⟩, by repeat (first | exact Drawn0.refl _ | apply Drawn0.step)⟩
         ·
          rw [if_neg c10] at H
          exact absurd H (by simp)
        ·
         rw [if_neg c9] at H
         exact absurd H (by simp)
       ·
        rw [if_neg c7] at H
        have c7b0 : decide (0 < x7_1) = false := decide_eq_false c7
        clear c7
        have H' := kk H
        clear H
        have p120 : 0 ≤ (x7_1 : Int) := of_decide_eq_true (by (with_reducible assumption))
        have q120 : x7_1 < (l0.length : Int) := of_decide_eq_true (by (with_reducible assumption))
        obtain ⟨ad120, e120, hx120_0⟩ := Kd.at_int HR0.1 x7_1 p120 q120
        cases e120
        replace p120 := eq_true p120
        replace q120 := eq_true q120
        go_wp2_with (((with_reducible refine zm (f := 53) rfl ?_); refine zr (some 13) rfl rfl Try.func53 (by kernel_rfl) rfl #[.int .i64 (rd l0 x7_1)] rfl (by (try simp only [kh, kf, kb]); rfl) ?_; (with_reducible refine (impl_isValue.calls (rd l0 x7_1) true _ A5.1).mono ?_); rintro e w' ⟨rfl, ⟨nd, rfl⟩⟩; refine ⟨_, rfl, ?_⟩))
        go_roundg k1
        case measure => have := HK1.1; omega
        case rel => exact ⟨(wrap64 (x7_1 + 1)), (by rfl), H', ⟨by have := HK1.1; omega⟩, by repeat (first | exact Drawn0.refl _ | apply Drawn0.step)⟩
      ·
       replace c6 := kc.mpr c6
       subst c6
       have H1 : (some false) = some r := by rw [if_neg (show ¬ (false = true) by decide)] at H; exact H
       clear H
       have H := H1
       clear H1
       obtain rfl := ke H
       have p120 : 0 ≤ (x7_1 : Int) := of_decide_eq_true (by (with_reducible assumption))
       have q120 : x7_1 < (l0.length : Int) := of_decide_eq_true (by (with_reducible assumption))
       obtain ⟨ad120, e120, hx120_0⟩ := Kd.at_int HR0.1 x7_1 p120 q120
       cases e120
       replace p120 := eq_true p120
       replace q120 := eq_true q120
       go_wp2_with (((with_reducible refine zm (f := 53) rfl ?_); refine zr (some 13) rfl rfl Try.func53 (by kernel_rfl) rfl #[.int .i64 (rd l0 x7_1)] rfl (by (try simp only [kh, kf, kb]); rfl) ?_; (with_reducible refine (impl_isValue.calls (rd l0 x7_1) false _ A5.1).mono ?_); rintro e w' ⟨rfl, ⟨nd, rfl⟩⟩; refine ⟨_, rfl, ?_⟩))
       go_ret
       exact ⟨by rfl, by repeat (first | exact Drawn0.refl _ | apply Drawn0.step)⟩
     ·
      rw [if_neg c4] at H
      exact absurd H (by simp)
    ·
     rw [if_neg c3] at H
     exact absurd H (by simp)
   ·
    rw [if_neg c2] at H
    have c2b0 : decide (x7_1 < (l0.length : Int)) = false := decide_eq_false c2
    clear c2
    obtain rfl := ke H
    go_wp2
    go_ret
    exact ⟨by rfl, by repeat (first | exact Drawn0.refl _ | apply Drawn0.step)⟩

/-! ### impl_GoodAttrs: function 15 -/
def impl_GoodAttrs.f (k : Nat) (a0_0 : Int) (l0_1 : List Int) (a0_2 : Int) (a0_3 : Int) (a0_4 : Int) (l0_5 : List Int) : Option (Bool) := (impl_within.f a0_0 0 2).bind fun t124 => (if t124 = true then ((impl_isPath.f k l0_1).bind fun t125 => (if t125 = true then ((impl_isAddr.f a0_2).bind fun t126 => (if t126 = true then ((impl_isValue.f a0_3).bind fun t127 => (if t127 = true then ((impl_isValue.f a0_4).bind fun t128 => (if t128 = true then ((impl_areComms.f k l0_5).bind fun t129 => (some t129)) else (some false))) else (some false))) else (some false))) else (some false))) else (some false))
theorem impl_GoodAttrs.mono : ∀ a0 a1 a2 a3 a4 a5 k, LeO (impl_GoodAttrs.f k a0 a1 a2 a3 a4 a5) (impl_GoodAttrs.f (k + 1) a0 a1 a2 a3 a4 a5) := by
 intro a0 a1 a2 a3 a4 a5 k
 unfold impl_GoodAttrs.f
 repeat' first
   | (with_reducible exact impl_areComms.mono _ _)
   | (with_reducible exact impl_isPath.mono _ _)
   | (with_reducible exact LeO.refl _)
   | (with_reducible refine LeO.ite ?_ ?_)
   | (with_reducible refine LeO.bind ?_ (fun _ => ?_))
theorem impl_GoodAttrs.calls (k : Nat) (a0_0 : Int) (A0_1 : Option Addr) (c0_1 : Nat) (l0_1 : List Int) (a0_2 : Int) (a0_3 : Int) (a0_4 : Int) (A0_5 : Option Addr) (c0_5 : Nat) (l0_5 : List Int) (r : Bool) (w : World) (hr0_1 : Kd.C (Kd.int .i64) w A0_1 l0_1.length l0_1) (hc0_1 : l0_1.length ≤ c0_1) (hr0_5 : Kd.C (Kd.int .i64) w A0_5 l0_5.length l0_5) (hc0_5 : l0_5.length ≤ c0_5) (h : impl_GoodAttrs.f k a0_0 l0_1 a0_2 a0_3 a0_4 l0_5 = some r) :
  Calls Try.prog 15 #[.agg #[.int .i64 a0_0, .slice A0_1 l0_1.length c0_1, .int .i64 a0_2, .int .i64 a0_3, .int .i64 a0_4, .slice A0_5 l0_5.length c0_5]] w fun e w' => e = .returned (.bool r) ∧ Below w.heap.size w w' := by
 have hu27 := Try.underlying27
 have zx := kk hr0_1
 have HC0_1 := kk hc0_1
 clear hr0_1 hc0_1
 have HR0_5 := kk hr0_5
 have HC0_5 := kk hc0_5
 clear hr0_5 hc0_5
 have HB := kk (Below.refl w.heap.size w)
 have H : ((impl_within.f a0_0 0 2).bind fun t124 => (if t124 = true then ((impl_isPath.f k l0_1).bind fun t125 => (if t125 = true then ((impl_isAddr.f a0_2).bind fun t126 => (if t126 = true then ((impl_isValue.f a0_3).bind fun t127 => (if t127 = true then ((impl_isValue.f a0_4).bind fun t128 => (if t128 = true then ((impl_areComms.f k l0_5).bind fun t129 => (some t129)) else (some false))) else (some false))) else (some false))) else (some false))) else (some false))) = some r := h
 clear h
 replace H := kg.mp H
 obtain ⟨t124, A20, H⟩ := H
 replace H : (if t124 = true then ((impl_isPath.f k l0_1).bind fun t125 => (if t125 = true then ((impl_isAddr.f a0_2).bind fun t126 => (if t126 = true then ((impl_isValue.f a0_3).bind fun t127 => (if t127 = true then ((impl_isValue.f a0_4).bind fun t128 => (if t128 = true then ((impl_areComms.f k l0_5).bind fun t129 => (some t129)) else (some false))) else (some false))) else (some false))) else (some false))) else (some false)) = some r := H
 have A2 := kk A20
 clear A20
 by_cases c3 : t124 = true
 ·
  subst c3
  have H1 : ((impl_isPath.f k l0_1).bind fun t125 => (if t125 = true then ((impl_isAddr.f a0_2).bind fun t126 => (if t126 = true then ((impl_isValue.f a0_3).bind fun t127 => (if t127 = true then ((impl_isValue.f a0_4).bind fun t128 => (if t128 = true then ((impl_areComms.f k l0_5).bind fun t129 => (some t129)) else (some false))) else (some false))) else (some false))) else (some false))) = some r := by rw [if_pos rfl] at H; exact H
  clear H
  have H := H1
  clear H1
  replace H := kg.mp H
  obtain ⟨t125, A40, H⟩ := H
  replace H : (if t125 = true then ((impl_isAddr.f a0_2).bind fun t126 => (if t126 = true then ((impl_isValue.f a0_3).bind fun t127 => (if t127 = true then ((impl_isValue.f a0_4).bind fun t128 => (if t128 = true then ((impl_areComms.f k l0_5).bind fun t129 => (some t129)) else (some false))) else (some false))) else (some false))) else (some false)) = some r := H
  have A4 := kk A40
  clear A40
  by_cases c5 : t125 = true
  ·
   subst c5
   have H1 : ((impl_isAddr.f a0_2).bind fun t126 => (if t126 = true then ((impl_isValue.f a0_3).bind fun t127 => (if t127 = true then ((impl_isValue.f a0_4).bind fun t128 => (if t128 = true then ((impl_areComms.f k l0_5).bind fun t129 => (some t129)) else (some false))) else (some false))) else (some false))) = some r := by rw [if_pos rfl] at H; exact H
   clear H
   have H := H1
   clear H1
   replace H := kg.mp H
   obtain ⟨t126, A60, H⟩ := H
   replace H : (if t126 = true then ((impl_isValue.f a0_3).bind fun t127 => (if t127 = true then ((impl_isValue.f a0_4).bind fun t128 => (if t128 = true then ((impl_areComms.f k l0_5).bind fun t129 => (some t129)) else (some false))) else (some false))) else (some false)) = some r := H
   have A6 := kk A60
   clear A60
   by_cases c7 : t126 = true
   ·
    subst c7
    have H1 : ((impl_isValue.f a0_3).bind fun t127 => (if t127 = true then ((impl_isValue.f a0_4).bind fun t128 => (if t128 = true then ((impl_areComms.f k l0_5).bind fun t129 => (some t129)) else (some false))) else (some false))) = some r := by rw [if_pos rfl] at H; exact H
    clear H
    have H := H1
    clear H1
    replace H := kg.mp H
    obtain ⟨t127, A80, H⟩ := H
    replace H : (if t127 = true then ((impl_isValue.f a0_4).bind fun t128 => (if t128 = true then ((impl_areComms.f k l0_5).bind fun t129 => (some t129)) else (some false))) else (some false)) = some r := H
    have A8 := kk A80
    clear A80
    by_cases c9 : t127 = true
    ·
     subst c9
     have H1 : ((impl_isValue.f a0_4).bind fun t128 => (if t128 = true then ((impl_areComms.f k l0_5).bind fun t129 => (some t129)) else (some false))) = some r := by rw [if_pos rfl] at H; exact H
     clear H
     have H := H1
     clear H1
     replace H := kg.mp H
     obtain ⟨t128, A100, H⟩ := H
     replace H : (if t128 = true then ((impl_areComms.f k l0_5).bind fun t129 => (some t129)) else (some false)) = some r := H
     have A10 := kk A100
     clear A100
     by_cases c11 : t128 = true
     ·
      subst c11
      have H1 : ((impl_areComms.f k l0_5).bind fun t129 => (some t129)) = some r := by rw [if_pos rfl] at H; exact H
      clear H
      have H := H1
      clear H1
      replace H := kg.mp H
      obtain ⟨t129, A120, H⟩ := H
      replace H : (some t129) = some r := H
      have A12 := kk A120
      clear A120
      obtain rfl := ke H
      go_enter km, kx
      go_wp2_with (first | ((with_reducible refine zo (N := 1) rfl ?_); refine zn ?hg (N := 1) ?hd (cs := #[.int .i64 a0_0, .slice A0_1 l0_1.length c0_1, .int .i64 a0_2, .int .i64 a0_3, .int .i64 a0_4, .slice A0_5 l0_5.length c0_5]) (t := 27) ?hr ?_; (case hd => rfl); (case hg => rfl); (case hr => (go_simp; done)); intro gb123 hg w13 hbox hb; replace HB := kk (zk HB.1 hb); have zt := kk hbox; clear hb hbox hg; have hcz14_0 : w13.cell? ⟨gb123, 0, none⟩ = some (.int .i64 a0_0) := (zd zt.1 0).trans rfl; have hcz14_1 : w13.cell? ⟨gb123, 1, none⟩ = some (.slice A0_1 l0_1.length c0_1) := (zd zt.1 1).trans rfl; have hcz14_2 : w13.cell? ⟨gb123, 2, none⟩ = some (.int .i64 a0_2) := (zd zt.1 2).trans rfl; have hcz14_3 : w13.cell? ⟨gb123, 3, none⟩ = some (.int .i64 a0_3) := (zd zt.1 3).trans rfl; have hcz14_4 : w13.cell? ⟨gb123, 4, none⟩ = some (.int .i64 a0_4) := (zd zt.1 4).trans rfl; have hcz14_5 : w13.cell? ⟨gb123, 5, none⟩ = some (.slice A0_5 l0_5.length c0_5) := (zd zt.1 5).trans rfl; have hfz14_0 := zb zt.1 0; have hfz14_1 := zb zt.1 1; have hfz14_2 := zb zt.1 2; have hfz14_3 := zb zt.1 3; have hfz14_4 := zb zt.1 4; have hfz14_5 := zb zt.1 5) | ((with_reducible refine zm (f := 50) rfl ?_); refine zr (some 5) rfl rfl ku (by kernel_rfl) rfl #[.int .i64 a0_0, .int .i64 0, .int .i64 2] rfl (by (try simp only [kh, kf, kb]); rfl) ?_; (with_reducible refine (impl_within.calls a0_0 0 2 true _ A2.1).mono ?_); rintro e w' ⟨rfl, ⟨nd, rfl⟩⟩; refine ⟨_, rfl, ?_⟩) | (go_at_call 51; (with_reducible refine (impl_isPath.calls k _ _ l0_1 true _ ?side1 ?side2 A4.1).mono ?_); (case side1 => repeat (exact (Kd.C_below zx.1 (by repeat ((with_reducible first | exact HB.1 | apply za)))))); (case side2 => exact HC0_1.1); rintro e w15 ⟨rfl, hb⟩; replace zt := kk (blk_below (g := gb123) (o := .cells #[.int .i64 a0_0, .slice A0_1 l0_1.length c0_1, .int .i64 a0_2, .int .i64 a0_3, .int .i64 a0_4, .slice A0_5 l0_5.length c0_5] 27 (0, 0)) (by (with_reducible repeat (refine blk_drewN ?_ _)); exact zt.1) hb); replace HB := kk (zk (by repeat ((with_reducible first | exact HB.1 | apply za))) hb); (try clear hb); (try clear hb2); (try clear hk); (try clear hi); have hcz16_0 : w15.cell? ⟨gb123, 0, none⟩ = some (.int .i64 a0_0) := (zd zt.1 0).trans rfl; have hcz16_1 : w15.cell? ⟨gb123, 1, none⟩ = some (.slice A0_1 l0_1.length c0_1) := (zd zt.1 1).trans rfl; have hcz16_2 : w15.cell? ⟨gb123, 2, none⟩ = some (.int .i64 a0_2) := (zd zt.1 2).trans rfl; have hcz16_3 : w15.cell? ⟨gb123, 3, none⟩ = some (.int .i64 a0_3) := (zd zt.1 3).trans rfl; have hcz16_4 : w15.cell? ⟨gb123, 4, none⟩ = some (.int .i64 a0_4) := (zd zt.1 4).trans rfl; have hcz16_5 : w15.cell? ⟨gb123, 5, none⟩ = some (.slice A0_5 l0_5.length c0_5) := (zd zt.1 5).trans rfl; have hfz16_0 := zb zt.1 0; have hfz16_1 := zb zt.1 1; have hfz16_2 := zb zt.1 2; have hfz16_3 := zb zt.1 3; have hfz16_4 := zb zt.1 4; have hfz16_5 := zb zt.1 5) | (go_at_call 52; (with_reducible refine (impl_isAddr.calls a0_2 true _ A6.1).mono ?_); rintro e w' ⟨rfl, ⟨nd, rfl⟩⟩) | (go_at_call 53; (with_reducible refine (impl_isValue.calls a0_3 true _ A8.1).mono ?_); rintro e w' ⟨rfl, ⟨nd, rfl⟩⟩) | (go_at_call 53; (with_reducible refine (impl_isValue.calls a0_4 true _ A10.1).mono ?_); rintro e w' ⟨rfl, ⟨nd, rfl⟩⟩) | (go_at_call 54; (with_reducible refine (impl_areComms.calls k _ _ l0_5 t129 _ ?side1 ?side2 A12.1).mono ?_); (case side1 => repeat (exact (Kd.C_below HR0_5.1 (by repeat ((with_reducible first | exact HB.1 | apply za)))))); (case side2 => exact HC0_5.1); rintro e w' ⟨rfl, ⟨nd, rfl⟩⟩))
      go_ret
      exact ⟨by rfl, by repeat ((with_reducible first | exact HB.1 | apply za))⟩
     ·
      replace c11 := kc.mpr c11
      subst c11
      have H1 : (some false) = some r := by rw [if_neg (show ¬ (false = true) by decide)] at H; exact H
      clear H
      have H := H1
      clear H1
      obtain rfl := ke H
      go_enter km, kx
      go_wp2_with (first | ((with_reducible refine zo (N := 1) rfl ?_); refine zn ?hg (N := 1) ?hd (cs := #[.int .i64 a0_0, .slice A0_1 l0_1.length c0_1, .int .i64 a0_2, .int .i64 a0_3, .int .i64 a0_4, .slice A0_5 l0_5.length c0_5]) (t := 27) ?hr ?_; (case hd => rfl); (case hg => rfl); (case hr => (go_simp; done)); intro gb123 hg w17 hbox hb; replace HB := kk (zk HB.1 hb); have zt := kk hbox; clear hb hbox hg; have hcz18_0 : w17.cell? ⟨gb123, 0, none⟩ = some (.int .i64 a0_0) := (zd zt.1 0).trans rfl; have hcz18_1 : w17.cell? ⟨gb123, 1, none⟩ = some (.slice A0_1 l0_1.length c0_1) := (zd zt.1 1).trans rfl; have hcz18_2 : w17.cell? ⟨gb123, 2, none⟩ = some (.int .i64 a0_2) := (zd zt.1 2).trans rfl; have hcz18_3 : w17.cell? ⟨gb123, 3, none⟩ = some (.int .i64 a0_3) := (zd zt.1 3).trans rfl; have hcz18_4 : w17.cell? ⟨gb123, 4, none⟩ = some (.int .i64 a0_4) := (zd zt.1 4).trans rfl; have hcz18_5 : w17.cell? ⟨gb123, 5, none⟩ = some (.slice A0_5 l0_5.length c0_5) := (zd zt.1 5).trans rfl; have hfz18_0 := zb zt.1 0; have hfz18_1 := zb zt.1 1; have hfz18_2 := zb zt.1 2; have hfz18_3 := zb zt.1 3; have hfz18_4 := zb zt.1 4; have hfz18_5 := zb zt.1 5) | ((with_reducible refine zm (f := 50) rfl ?_); refine zr (some 5) rfl rfl ku (by kernel_rfl) rfl #[.int .i64 a0_0, .int .i64 0, .int .i64 2] rfl (by (try simp only [kh, kf, kb]); rfl) ?_; (with_reducible refine (impl_within.calls a0_0 0 2 true _ A2.1).mono ?_); rintro e w' ⟨rfl, ⟨nd, rfl⟩⟩; refine ⟨_, rfl, ?_⟩) | (go_at_call 51; (with_reducible refine (impl_isPath.calls k _ _ l0_1 true _ ?side1 ?side2 A4.1).mono ?_); (case side1 => repeat (exact (Kd.C_below zx.1 (by repeat ((with_reducible first | exact HB.1 | apply za)))))); (case side2 => exact HC0_1.1); rintro e w19 ⟨rfl, hb⟩; replace zt := kk (blk_below (g := gb123) (o := .cells #[.int .i64 a0_0, .slice A0_1 l0_1.length c0_1, .int .i64 a0_2, .int .i64 a0_3, .int .i64 a0_4, .slice A0_5 l0_5.length c0_5] 27 (0, 0)) (by (with_reducible repeat (refine blk_drewN ?_ _)); exact zt.1) hb); replace HB := kk (zk (by repeat ((with_reducible first | exact HB.1 | apply za))) hb); (try clear hb); (try clear hb2); (try clear hk); (try clear hi); have hcz20_0 : w19.cell? ⟨gb123, 0, none⟩ = some (.int .i64 a0_0) := (zd zt.1 0).trans rfl; have hcz20_1 : w19.cell? ⟨gb123, 1, none⟩ = some (.slice A0_1 l0_1.length c0_1) := (zd zt.1 1).trans rfl; have hcz20_2 : w19.cell? ⟨gb123, 2, none⟩ = some (.int .i64 a0_2) := (zd zt.1 2).trans rfl; have hcz20_3 : w19.cell? ⟨gb123, 3, none⟩ = some (.int .i64 a0_3) := (zd zt.1 3).trans rfl; have hcz20_4 : w19.cell? ⟨gb123, 4, none⟩ = some (.int .i64 a0_4) := (zd zt.1 4).trans rfl; have hcz20_5 : w19.cell? ⟨gb123, 5, none⟩ = some (.slice A0_5 l0_5.length c0_5) := (zd zt.1 5).trans rfl; have hfz20_0 := zb zt.1 0; have hfz20_1 := zb zt.1 1; have hfz20_2 := zb zt.1 2; have hfz20_3 := zb zt.1 3; have hfz20_4 := zb zt.1 4; have hfz20_5 := zb zt.1 5) | (go_at_call 52; (with_reducible refine (impl_isAddr.calls a0_2 true _ A6.1).mono ?_); rintro e w' ⟨rfl, ⟨nd, rfl⟩⟩) | (go_at_call 53; (with_reducible refine (impl_isValue.calls a0_3 true _ A8.1).mono ?_); rintro e w' ⟨rfl, ⟨nd, rfl⟩⟩) | (go_at_call 53; (with_reducible refine (impl_isValue.calls a0_4 false _ A10.1).mono ?_); rintro e w' ⟨rfl, ⟨nd, rfl⟩⟩))
      go_ret
      exact ⟨by rfl, by repeat ((with_reducible first | exact HB.1 | apply za))⟩
    ·
     replace c9 := kc.mpr c9
     subst c9
     have H1 : (some false) = some r := by rw [if_neg (show ¬ (false = true) by decide)] at H; exact H
     clear H
     have H := H1
     clear H1
     obtain rfl := ke H
     go_enter km, kx
     go_wp2_with (first | ((with_reducible refine zo (N := 1) rfl ?_); refine zn ?hg (N := 1) ?hd (cs := #[.int .i64 a0_0, .slice A0_1 l0_1.length c0_1, .int .i64 a0_2, .int .i64 a0_3, .int .i64 a0_4, .slice A0_5 l0_5.length c0_5]) (t := 27) ?hr ?_; (case hd => rfl); (case hg => rfl); (case hr => (go_simp; done)); intro gb123 hg w21 hbox hb; replace HB := kk (zk HB.1 hb); have zt := kk hbox; clear hb hbox hg; have hcz22_0 : w21.cell? ⟨gb123, 0, none⟩ = some (.int .i64 a0_0) := (zd zt.1 0).trans rfl; have hcz22_1 : w21.cell? ⟨gb123, 1, none⟩ = some (.slice A0_1 l0_1.length c0_1) := (zd zt.1 1).trans rfl; have hcz22_2 : w21.cell? ⟨gb123, 2, none⟩ = some (.int .i64 a0_2) := (zd zt.1 2).trans rfl; have hcz22_3 : w21.cell? ⟨gb123, 3, none⟩ = some (.int .i64 a0_3) := (zd zt.1 3).trans rfl; have hcz22_4 : w21.cell? ⟨gb123, 4, none⟩ = some (.int .i64 a0_4) := (zd zt.1 4).trans rfl; have hcz22_5 : w21.cell? ⟨gb123, 5, none⟩ = some (.slice A0_5 l0_5.length c0_5) := (zd zt.1 5).trans rfl; have hfz22_0 := zb zt.1 0; have hfz22_1 := zb zt.1 1; have hfz22_2 := zb zt.1 2; have hfz22_3 := zb zt.1 3; have hfz22_4 := zb zt.1 4; have hfz22_5 := zb zt.1 5) | ((with_reducible refine zm (f := 50) rfl ?_); refine zr (some 5) rfl rfl ku (by kernel_rfl) rfl #[.int .i64 a0_0, .int .i64 0, .int .i64 2] rfl (by (try simp only [kh, kf, kb]); rfl) ?_; (with_reducible refine (impl_within.calls a0_0 0 2 true _ A2.1).mono ?_); rintro e w' ⟨rfl, ⟨nd, rfl⟩⟩; refine ⟨_, rfl, ?_⟩) | (go_at_call 51; (with_reducible refine (impl_isPath.calls k _ _ l0_1 true _ ?side1 ?side2 A4.1).mono ?_); (case side1 => repeat (exact (Kd.C_below zx.1 (by repeat ((with_reducible first | exact HB.1 | apply za)))))); (case side2 => exact HC0_1.1); rintro e w23 ⟨rfl, hb⟩; replace zt := kk (blk_below (g := gb123) (o := .cells #[.int .i64 a0_0, .slice A0_1 l0_1.length c0_1, .int .i64 a0_2, .int .i64 a0_3, .int .i64 a0_4, .slice A0_5 l0_5.length c0_5] 27 (0, 0)) (by (with_reducible repeat (refine blk_drewN ?_ _)); exact zt.1) hb); replace HB := kk (zk (by repeat ((with_reducible first | exact HB.1 | apply za))) hb); (try clear hb); (try clear hb2); (try clear hk); (try clear hi); have hcz24_0 : w23.cell? ⟨gb123, 0, none⟩ = some (.int .i64 a0_0) := (zd zt.1 0).trans rfl; have hcz24_1 : w23.cell? ⟨gb123, 1, none⟩ = some (.slice A0_1 l0_1.length c0_1) := (zd zt.1 1).trans rfl; have hcz24_2 : w23.cell? ⟨gb123, 2, none⟩ = some (.int .i64 a0_2) := (zd zt.1 2).trans rfl; have hcz24_3 : w23.cell? ⟨gb123, 3, none⟩ = some (.int .i64 a0_3) := (zd zt.1 3).trans rfl; have hcz24_4 : w23.cell? ⟨gb123, 4, none⟩ = some (.int .i64 a0_4) := (zd zt.1 4).trans rfl; have hcz24_5 : w23.cell? ⟨gb123, 5, none⟩ = some (.slice A0_5 l0_5.length c0_5) := (zd zt.1 5).trans rfl; have hfz24_0 := zb zt.1 0; have hfz24_1 := zb zt.1 1; have hfz24_2 := zb zt.1 2; have hfz24_3 := zb zt.1 3; have hfz24_4 := zb zt.1 4; have hfz24_5 := zb zt.1 5) | (go_at_call 52; (with_reducible refine (impl_isAddr.calls a0_2 true _ A6.1).mono ?_); rintro e w' ⟨rfl, ⟨nd, rfl⟩⟩) | (go_at_call 53; (with_reducible refine (impl_isValue.calls a0_3 false _ A8.1).mono ?_); rintro e w' ⟨rfl, ⟨nd, rfl⟩⟩))
     go_ret
     exact ⟨by rfl, by repeat ((with_reducible first | exact HB.1 | apply za))⟩
   ·
    replace c7 := kc.mpr c7
    subst c7
    have H1 : (some false) = some r := by rw [if_neg (show ¬ (false = true) by decide)] at H; exact H
    clear H
    have H := H1
    clear H1
    obtain rfl := ke H
    go_enter km, kx
    go_wp2_with (first | ((with_reducible refine zo (N := 1) rfl ?_); refine zn ?hg (N := 1) ?hd (cs := #[.int .i64 a0_0, .slice A0_1 l0_1.length c0_1, .int .i64 a0_2, .int .i64 a0_3, .int .i64 a0_4, .slice A0_5 l0_5.length c0_5]) (t := 27) ?hr ?_; (case hd => rfl); (case hg => rfl); (case hr => (go_simp; done)); intro gb123 hg w25 hbox hb; replace HB := kk (zk HB.1 hb); have zt := kk hbox; clear hb hbox hg; have hcz26_0 : w25.cell? ⟨gb123, 0, none⟩ = some (.int .i64 a0_0) := (zd zt.1 0).trans rfl; have hcz26_1 : w25.cell? ⟨gb123, 1, none⟩ = some (.slice A0_1 l0_1.length c0_1) := (zd zt.1 1).trans rfl; have hcz26_2 : w25.cell? ⟨gb123, 2, none⟩ = some (.int .i64 a0_2) := (zd zt.1 2).trans rfl; have hcz26_3 : w25.cell? ⟨gb123, 3, none⟩ = some (.int .i64 a0_3) := (zd zt.1 3).trans rfl; have hcz26_4 : w25.cell? ⟨gb123, 4, none⟩ = some (.int .i64 a0_4) := (zd zt.1 4).trans rfl; have hcz26_5 : w25.cell? ⟨gb123, 5, none⟩ = some (.slice A0_5 l0_5.length c0_5) := (zd zt.1 5).trans rfl; have hfz26_0 := zb zt.1 0; have hfz26_1 := zb zt.1 1; have hfz26_2 := zb zt.1 2; have hfz26_3 := zb zt.1 3; have hfz26_4 := zb zt.1 4; have hfz26_5 := zb zt.1 5) | ((with_reducible refine zm (f := 50) rfl ?_); refine zr (some 5) rfl rfl ku (by kernel_rfl) rfl #[.int .i64 a0_0, .int .i64 0, .int .i64 2] rfl (by (try simp only [kh, kf, kb]); rfl) ?_; (with_reducible refine (impl_within.calls a0_0 0 2 true _ A2.1).mono ?_); rintro e w' ⟨rfl, ⟨nd, rfl⟩⟩; refine ⟨_, rfl, ?_⟩) | (go_at_call 51; (with_reducible refine (impl_isPath.calls k _ _ l0_1 true _ ?side1 ?side2 A4.1).mono ?_); (case side1 => repeat (exact (Kd.C_below zx.1 (by repeat ((with_reducible first | exact HB.1 | apply za)))))); (case side2 => exact HC0_1.1); rintro e w27 ⟨rfl, hb⟩; replace zt := kk (blk_below (g := gb123) (o := .cells #[.int .i64 a0_0, .slice A0_1 l0_1.length c0_1, .int .i64 a0_2, .int .i64 a0_3, .int .i64 a0_4, .slice A0_5 l0_5.length c0_5] 27 (0, 0)) (by (with_reducible repeat (refine blk_drewN ?_ _)); exact zt.1) hb); replace HB := kk (zk (by repeat ((with_reducible first | exact HB.1 | apply za))) hb); (try clear hb); (try clear hb2); (try clear hk); (try clear hi); have hcz28_0 : w27.cell? ⟨gb123, 0, none⟩ = some (.int .i64 a0_0) := (zd zt.1 0).trans rfl; have hcz28_1 : w27.cell? ⟨gb123, 1, none⟩ = some (.slice A0_1 l0_1.length c0_1) := (zd zt.1 1).trans rfl; have hcz28_2 : w27.cell? ⟨gb123, 2, none⟩ = some (.int .i64 a0_2) := (zd zt.1 2).trans rfl; have hcz28_3 : w27.cell? ⟨gb123, 3, none⟩ = some (.int .i64 a0_3) := (zd zt.1 3).trans rfl; have hcz28_4 : w27.cell? ⟨gb123, 4, none⟩ = some (.int .i64 a0_4) := (zd zt.1 4).trans rfl; have hcz28_5 : w27.cell? ⟨gb123, 5, none⟩ = some (.slice A0_5 l0_5.length c0_5) := (zd zt.1 5).trans rfl; have hfz28_0 := zb zt.1 0; have hfz28_1 := zb zt.1 1; have hfz28_2 := zb zt.1 2; have hfz28_3 := zb zt.1 3; have hfz28_4 := zb zt.1 4; have hfz28_5 := zb zt.1 5) | (go_at_call 52; (with_reducible refine (impl_isAddr.calls a0_2 false _ A6.1).mono ?_); rintro e w' ⟨rfl, ⟨nd, rfl⟩⟩))
    go_ret
    exact ⟨by rfl, by repeat ((with_reducible first | exact HB.1 | apply za))⟩
  ·
   replace c5 := kc.mpr c5
   subst c5
   have H1 : (some false) = some r := by rw [if_neg (show ¬ (false = true) by decide)] at H; exact H
   clear H
   have H := H1
   clear H1
   obtain rfl := ke H
   go_enter km, kx
   go_wp2_with (first | ((with_reducible refine zo (N := 1) rfl ?_); refine zn ?hg (N := 1) ?hd (cs := #[.int .i64 a0_0, .slice A0_1 l0_1.length c0_1, .int .i64 a0_2, .int .i64 a0_3, .int .i64 a0_4, .slice A0_5 l0_5.length c0_5]) (t := 27) ?hr ?_; (case hd => rfl); (case hg => rfl); (case hr => (go_simp; done)); intro gb123 hg w29 hbox hb; replace HB := kk (zk HB.1 hb); have zt := kk hbox; clear hb hbox hg; have hcz30_0 : w29.cell? ⟨gb123, 0, none⟩ = some (.int .i64 a0_0) := (zd zt.1 0).trans rfl; have hcz30_1 : w29.cell? ⟨gb123, 1, none⟩ = some (.slice A0_1 l0_1.length c0_1) := (zd zt.1 1).trans rfl; have hcz30_2 : w29.cell? ⟨gb123, 2, none⟩ = some (.int .i64 a0_2) := (zd zt.1 2).trans rfl; have hcz30_3 : w29.cell? ⟨gb123, 3, none⟩ = some (.int .i64 a0_3) := (zd zt.1 3).trans rfl; have hcz30_4 : w29.cell? ⟨gb123, 4, none⟩ = some (.int .i64 a0_4) := (zd zt.1 4).trans rfl; have hcz30_5 : w29.cell? ⟨gb123, 5, none⟩ = some (.slice A0_5 l0_5.length c0_5) := (zd zt.1 5).trans rfl; have hfz30_0 := zb zt.1 0; have hfz30_1 := zb zt.1 1; have hfz30_2 := zb zt.1 2; have hfz30_3 := zb zt.1 3; have hfz30_4 := zb zt.1 4; have hfz30_5 := zb zt.1 5) | ((with_reducible refine zm (f := 50) rfl ?_); refine zr (some 5) rfl rfl ku (by kernel_rfl) rfl #[.int .i64 a0_0, .int .i64 0, .int .i64 2] rfl (by (try simp only [kh, kf, kb]); rfl) ?_; (with_reducible refine (impl_within.calls a0_0 0 2 true _ A2.1).mono ?_); rintro e w' ⟨rfl, ⟨nd, rfl⟩⟩; refine ⟨_, rfl, ?_⟩) | (go_at_call 51; (with_reducible refine (impl_isPath.calls k _ _ l0_1 false _ ?side1 ?side2 A4.1).mono ?_); (case side1 => repeat (exact (Kd.C_below zx.1 (by repeat ((with_reducible first | exact HB.1 | apply za)))))); (case side2 => exact HC0_1.1); rintro e w31 ⟨rfl, hb⟩; replace zt := kk (blk_below (g := gb123) (o := .cells #[.int .i64 a0_0, .slice A0_1 l0_1.length c0_1, .int .i64 a0_2, .int .i64 a0_3, .int .i64 a0_4, .slice A0_5 l0_5.length c0_5] 27 (0, 0)) (by (with_reducible repeat (refine blk_drewN ?_ _)); exact zt.1) hb); replace HB := kk (zk (by repeat ((with_reducible first | exact HB.1 | apply za))) hb); (try clear hb); (try clear hb2); (try clear hk); (try clear hi)))
   go_ret
   exact ⟨by rfl, by exact HB.1⟩
 ·
  replace c3 := kc.mpr c3
  subst c3
  have H1 : (some false) = some r := by rw [if_neg (show ¬ (false = true) by decide)] at H; exact H
  clear H
  have H := H1
  clear H1
  obtain rfl := ke H
  go_enter km, kx
  go_wp2_with (first | ((with_reducible refine zo (N := 1) rfl ?_); refine zn ?hg (N := 1) ?hd (cs := #[.int .i64 a0_0, .slice A0_1 l0_1.length c0_1, .int .i64 a0_2, .int .i64 a0_3, .int .i64 a0_4, .slice A0_5 l0_5.length c0_5]) (t := 27) ?hr ?_; (case hd => rfl); (case hg => rfl); (case hr => (go_simp; done)); intro gb123 hg w32 hbox hb; replace HB := kk (zk HB.1 hb); have zt := kk hbox; clear hb hbox hg; have hcz33_0 : w32.cell? ⟨gb123, 0, none⟩ = some (.int .i64 a0_0) := (zd zt.1 0).trans rfl; have hcz33_1 : w32.cell? ⟨gb123, 1, none⟩ = some (.slice A0_1 l0_1.length c0_1) := (zd zt.1 1).trans rfl; have hcz33_2 : w32.cell? ⟨gb123, 2, none⟩ = some (.int .i64 a0_2) := (zd zt.1 2).trans rfl; have hcz33_3 : w32.cell? ⟨gb123, 3, none⟩ = some (.int .i64 a0_3) := (zd zt.1 3).trans rfl; have hcz33_4 : w32.cell? ⟨gb123, 4, none⟩ = some (.int .i64 a0_4) := (zd zt.1 4).trans rfl; have hcz33_5 : w32.cell? ⟨gb123, 5, none⟩ = some (.slice A0_5 l0_5.length c0_5) := (zd zt.1 5).trans rfl; have hfz33_0 := zb zt.1 0; have hfz33_1 := zb zt.1 1; have hfz33_2 := zb zt.1 2; have hfz33_3 := zb zt.1 3; have hfz33_4 := zb zt.1 4; have hfz33_5 := zb zt.1 5) | ((with_reducible refine zm (f := 50) rfl ?_); refine zr (some 5) rfl rfl ku (by kernel_rfl) rfl #[.int .i64 a0_0, .int .i64 0, .int .i64 2] rfl (by (try simp only [kh, kf, kb]); rfl) ?_; (with_reducible refine (impl_within.calls a0_0 0 2 false _ A2.1).mono ?_); rintro e w' ⟨rfl, ⟨nd, rfl⟩⟩; refine ⟨_, rfl, ?_⟩))
  go_ret
  exact ⟨by rfl, by repeat ((with_reducible first | exact HB.1 | apply za))⟩

/-! ### spec_l1Size: function 101 -/
def spec_l1Size.f (a0_0 : Int) (a0_1 : Int) : Option (Int) := if 0 ≤ (IntKind.u64.wrap (wrap64 (32 - a0_1))) then (some (shl .i64 1 (IntKind.u64.wrap (wrap64 (32 - a0_1))))) else (none)
theorem spec_l1Size.calls (a0_0 : Int) (a0_1 : Int) (r : Int) (w : World) (h : spec_l1Size.f a0_0 a0_1 = some r) :
  Calls Try.prog 101 #[.agg #[.int .i64 a0_0, .int .i64 a0_1]] w fun e w' => e = .returned (.int .i64 r) ∧ Below w.heap.size w w' := by
 have hu35 := Try.underlying35
 have HB := kk (Below.refl w.heap.size w)
 have H : (if 0 ≤ (IntKind.u64.wrap (wrap64 (32 - a0_1))) then (some (shl .i64 1 (IntKind.u64.wrap (wrap64 (32 - a0_1))))) else (none)) = some r := h
 clear h
 obtain ⟨ji2, hji2⟩ : ∃ j_ : Int, (IntKind.u64.wrap (wrap64 (32 - a0_1))) = j_ := ⟨_, rfl⟩
 replace H : (if 0 ≤ (ji2) then (some (shl .i64 1 (ji2))) else (none)) = some r := by (rw [hji2] at H; exact H)
 by_cases c3 : 0 ≤ (ji2)
 ·
  rw [if_pos c3] at H
  have c3b0 := eq_true c3
  have c3b1 : decide (0 ≤ (ji2)) = true := decide_eq_true c3
  clear c3
  obtain ⟨ji4, hji4⟩ : ∃ j_ : Int, (shl .i64 1 (ji2)) = j_ := ⟨_, rfl⟩
  replace H : (some ji4) = some r := by (rw [hji4] at H; exact H)
  have hji4_ : (IntKind.i64.wrap (1 * 2 ^ min (ji2).toNat 64)) = ji4 := hji4
  have hji4z : (ji2) ≤ 64 → (IntKind.i64.wrap (1 * 2 ^ (ji2).toNat)) = ji4 := shl_small hji4
  have hji4u : (IntKind.i64.wrap (2 ^ min (ji2).toNat 64)) = ji4 := by have h_ := hji4_; rw [Int.one_mul] at h_; exact h_
  have hji4v : (ji2) ≤ 64 → (IntKind.i64.wrap (2 ^ (ji2).toNat)) = ji4 := fun hle_ => by have h_ := hji4z hle_; rw [Int.one_mul] at h_; exact h_
  have hji4y : (wrap64 (1 * 2 ^ min (ji2).toNat 64)) = ji4 := (zf _).symm.trans hji4_
  have hji4x : (ji2) ≤ 64 → (wrap64 (1 * 2 ^ (ji2).toNat)) = ji4 := fun h_ => (zf _).symm.trans (hji4z h_)
  obtain rfl := ke H
  go_enter Try.func101, Try.ntmps101
  go_wp2_with (((with_reducible refine zo (N := 1) rfl ?_); refine zn ?hg (N := 1) ?hd (cs := #[.int .i64 a0_0, .int .i64 a0_1]) (t := 35) ?hr ?_; (case hd => rfl); (case hg => rfl); (case hr => (go_simp; done)); intro gb130 hg w5 hbox hb; replace HB := kk (zk HB.1 hb); have BK130 := kk hbox; clear hb hbox hg; have hcz6_0 : w5.cell? ⟨gb130, 0, none⟩ = some (.int .i64 a0_0) := (zd BK130.1 0).trans rfl; have hcz6_1 : w5.cell? ⟨gb130, 1, none⟩ = some (.int .i64 a0_1) := (zd BK130.1 1).trans rfl; have hfz6_0 := zb BK130.1 0; have hfz6_1 := zb BK130.1 1))
  go_ret
  exact ⟨by rfl, by exact HB.1⟩
 ·
  rw [if_neg c3] at H
  exact absurd H (by simp)

/-! ### spec_GoodPrefix: function 56 -/
def spec_GoodPrefix.f (a0_0 : Int) (a0_1 : Int) : Option (Bool) := (spec_l1In.f a0_1 0 32).bind fun t132 => (if t132 = true then ((spec_l1Addr.f a0_0).bind fun t133 => (if t133 = true then ((spec_l1Size.f a0_0 a0_1).bind fun t134 => (if t134 = 0 then (none) else (some ((ks a0_0 t134) == 0)))) else (some false))) else (some false))
def spec_GoodPrefix.T1 : Bool × List (List Nat × List Nat) := (true, [([], []), ([0], [0]), ([1], [1]), ([2, 2], [2]), ([3], [3]), ([4, 3], [3, 4]), ([5, 3, 3], [3, 5]), ([3, 6], [3, 6]), ([7, 6], [7]), ([8], [8]), ([9, 8], [8, 9]), ([8], [8]), ([11, 8, 8], [8, 11]), ([10, 12, 8], [8, 10, 12]), ([13, 8], [8, 13]), ([8, 14], [8, 14]), ([15, 12, 0, 1, 2, 3, 4, 5, 6, 7, 8, 9, 10, 11, 12, 13, 14, 15], [15])])
def spec_GoodPrefix.B1 : List Nat := [0, 1, 3, 7, 15, 31, 63, 127, 255, 511, 1023, 511, 2559, 8191, 16383, 32767, 65535]
theorem spec_GoodPrefix.tab1 : rtab .any (opsOf Try.f56 1) = spec_GoodPrefix.T1 := by kernel_rfl
theorem spec_GoodPrefix.bits1 : waitsOk spec_GoodPrefix.T1.2 spec_GoodPrefix.B1 = true := by kernel_rfl
theorem spec_GoodPrefix.calls (a0_0 : Int) (a0_1 : Int) (r : Bool) (w : World) (h : spec_GoodPrefix.f a0_0 a0_1 = some r) :
  Calls Try.prog 56 #[.agg #[.int .i64 a0_0, .int .i64 a0_1]] w fun e w' => e = .returned (.bool r) ∧ Below w.heap.size w w' := by
 have hu35 := Try.underlying35
 have HB := kk (Below.refl w.heap.size w)
 have H : ((spec_l1In.f a0_1 0 32).bind fun t132 => (if t132 = true then ((spec_l1Addr.f a0_0).bind fun t133 => (if t133 = true then ((spec_l1Size.f a0_0 a0_1).bind fun t134 => (if t134 = 0 then (none) else (some ((ks a0_0 t134) == 0)))) else (some false))) else (some false))) = some r := h
 clear h
 replace H := kg.mp H
 obtain ⟨t132, A20, H⟩ := H
 replace H : (if t132 = true then ((spec_l1Addr.f a0_0).bind fun t133 => (if t133 = true then ((spec_l1Size.f a0_0 a0_1).bind fun t134 => (if t134 = 0 then (none) else (some ((ks a0_0 t134) == 0)))) else (some false))) else (some false)) = some r := H
 have A2 := kk A20
 clear A20
 by_cases c3 : t132 = true
 ·
  subst c3
  have H1 : ((spec_l1Addr.f a0_0).bind fun t133 => (if t133 = true then ((spec_l1Size.f a0_0 a0_1).bind fun t134 => (if t134 = 0 then (none) else (some ((ks a0_0 t134) == 0)))) else (some false))) = some r := by rw [if_pos rfl] at H; exact H
  clear H
  have H := H1
  clear H1
  replace H := kg.mp H
  obtain ⟨t133, A40, H⟩ := H
  replace H : (if t133 = true then ((spec_l1Size.f a0_0 a0_1).bind fun t134 => (if t134 = 0 then (none) else (some ((ks a0_0 t134) == 0)))) else (some false)) = some r := H
  have A4 := kk A40
  clear A40
  by_cases c5 : t133 = true
  ·
   subst c5
   have H1 : ((spec_l1Size.f a0_0 a0_1).bind fun t134 => (if t134 = 0 then (none) else (some ((ks a0_0 t134) == 0)))) = some r := by rw [if_pos rfl] at H; exact H
   clear H
   have H := H1
   clear H1
   replace H := kg.mp H
   obtain ⟨t134, A60, H⟩ := H
   replace H : (if t134 = 0 then (none) else (some ((ks a0_0 t134) == 0))) = some r := H
   have A6 := kk A60
   clear A60
   by_cases c7 : t134 = 0
   ·
    rw [if_pos c7] at H
    exact absurd H (by simp)
   ·
    rw [if_neg c7] at H
    have c7b0 : (t134 == 0) = false := beq_eq_false_iff_ne.mpr c7
    have c7b1 : (t134 != 0) = true := bne_iff_ne.mpr c7
    obtain rfl := ke H
    go_enter Try.func56, Try.ntmps56
    try go_wp2_with (((with_reducible refine zo (N := 1) rfl ?_); refine zn ?hg (N := 1) ?hd (cs := #[.int .i64 a0_0, .int .i64 a0_1]) (t := 35) ?hr ?_; (case hd => rfl); (case hg => rfl); (case hr => (go_simp; done)); intro gb131 hg w8 hbox hb; replace HB := kk (zk HB.1 hb); have zu := kk hbox; clear hb hbox hg))
    replace zu := kk (zp zu.1)
    replace HB := kk (zc HB.1)
    refine start_ (n := 17) (S := fun w' => w'.cell? ⟨gb131, 0, none⟩ = some (.int .i64 a0_0) ∧ w'.cell? ⟨gb131, 1, none⟩ = some (.int .i64 a0_1)) (ds := []) #[kr,kr,kr,kr,kr,kr,kr,kr,kr,kr,kr,kr,kr,kr,kr,kr,kr] (by kernel_rfl) rfl rfl ⟨(zd zu.1 0).trans rfl, (zd zu.1 1).trans rfl⟩ (fun hHeld => ?_); refine with_tabW spec_GoodPrefix.tab1 spec_GoodPrefix.bits1 (fun HT_ HW_ => ?_)
    generalize w8.drew = w9 at zu HB hHeld ⊢
    refine zl (i := 0) (N := some 3) (v := ?_) (a' := ?_) #[kt,kr,kr,kr,kr,kr,kr,kr,kr,kr,kr,kr,kr,kr,kr,kr,kr] rfl rfl (zj HT_.1 (by kernel_rfl)) (fun _ _ _ h => h) (kd ⟨by rfl, ?_⟩) ?_ ?_
    rotate_left
    ·
     intro w'
     go_simp
     with_reducible rfl
    rotate_left
    ·
     simp only [kv, kz, ky, kj, zf, zi]
     rfl
    refine zs (i := 1) (N := some 4) (v := ?_) (a' := ?_) #[kt,kt,kr,kr,kr,kr,kr,kr,kr,kr,kr,kr,kr,kr,kr,kr,kr] rfl rfl (zq HT_.1 HW_.1 (by kernel_rfl)) (fun _ _ _ h => h) (kd ⟨by rfl, ?_⟩) hHeld ?_ ?_
    rotate_left
    ·
     rintro w' ⟨s0, s1⟩
     go_simp
     with_reducible rfl
    rotate_left
    ·
     simp only [kv, kz, ky, kj, zf, zi]
     rfl
    refine one_ (i := 2) (N := some 5) #[kt,kt,kt,kr,kr,kr,kr,kr,kr,kr,kr,kr,kr,kr,kr,kr,kr] rfl rfl (one_of HT_.1 (by kernel_rfl)) (by decide) (fun K hK => ?_)
    refine goes_ Try.func47 (by kernel_rfl) rfl #[.int .i64 a0_1, .int .i64 0, .int .i64 32] (by rfl) rfl rfl (by (try simp only [kh, kf, kb]); rfl) ?_
    with_reducible refine (spec_l1In.calls a0_1 0 32 true _ A2.1).mono ?_
    rintro e w' ⟨rfl, ⟨nd, rfl⟩⟩
    refine ⟨_, rfl, ?_⟩
    refine hK.out _ _ ⟨(zd zu.1 0).trans rfl, (zd zu.1 1).trans rfl⟩ (fun hHeld => ?_)
    clear hK K
    refine norm_ (a' := ?_) ?_ ?_
    rotate_left
    ·
     show kv _ (some 5) _ = _
     simp only [kv, kz, ky, kj, zf, zi]
     rfl
    refine zl (i := 3) (N := some 6) (v := ?_) (a' := ?_) #[kt,kt,kt,kt,kr,kr,kr,kr,kr,kr,kr,kr,kr,kr,kr,kr,kr] rfl rfl (zj HT_.1 (by kernel_rfl)) (fun _ _ _ h => h) (kd ⟨by rfl, ?_⟩) ?_ ?_
    rotate_left
    ·
     intro w'
     go_simp
     with_reducible rfl
    rotate_left
    ·
     simp only [kv, kz, ky, kj, zf, zi]
     rfl
    refine zl (i := 4) (N := some 7) (v := ?_) (a' := ?_) #[kt,kt,kt,kt,kt,kr,kr,kr,kr,kr,kr,kr,kr,kr,kr,kr,kr] rfl rfl (zj HT_.1 (by kernel_rfl)) (fun _ _ _ h => h) (kd ⟨by rfl, ?_⟩) ?_ ?_
    rotate_left
    ·
     intro w'
     go_simp
     with_reducible rfl
    rotate_left
    ·
     simp only [kv, kz, ky, kj, zf, zi]
     rfl
    refine zs (i := 5) (N := some 8) (v := ?_) (a' := ?_) #[kt,kt,kt,kt,kt,kt,kr,kr,kr,kr,kr,kr,kr,kr,kr,kr,kr] rfl rfl (zq HT_.1 HW_.1 (by kernel_rfl)) (fun _ _ _ h => h) (kd ⟨by rfl, ?_⟩) hHeld ?_ ?_
    rotate_left
    ·
     rintro w' ⟨s0, s1⟩
     go_simp
     with_reducible rfl
    rotate_left
    ·
     simp only [kv, kz, ky, kj, zf, zi]
     rfl
    refine one_ (i := 6) (N := some 9) #[kt,kt,kt,kt,kt,kt,kt,kr,kr,kr,kr,kr,kr,kr,kr,kr,kr] rfl rfl (one_of HT_.1 (by kernel_rfl)) (by decide) (fun K hK => ?_)
    refine goes_ Try.func48 (by kernel_rfl) rfl #[.int .i64 a0_0] (by rfl) rfl rfl (by (try simp only [kh, kf, kb]); rfl) ?_
    with_reducible refine (spec_l1Addr.calls a0_0 true _ A4.1).mono ?_
    rintro e w' ⟨rfl, ⟨nd, rfl⟩⟩
    refine ⟨_, rfl, ?_⟩
    refine hK.out _ _ ⟨(zd zu.1 0).trans rfl, (zd zu.1 1).trans rfl⟩ (fun hHeld => ?_)
    clear hK K
    refine norm_ (a' := ?_) ?_ ?_
    rotate_left
    ·
     show kv _ (some 9) _ = _
     simp only [kv, kz, ky, kj, zf, zi]
     rfl
    refine zl (i := 7) (N := some 10) (v := ?_) (a' := ?_) #[kt,kt,kt,kt,kt,kt,kt,kt,kr,kr,kr,kr,kr,kr,kr,kr,kr] rfl rfl (zj HT_.1 (by kernel_rfl)) (fun _ _ _ h => h) (kd ⟨by rfl, ?_⟩) ?_ ?_
    rotate_left
    ·
     intro w'
     go_simp
     with_reducible rfl
    rotate_left
    ·
     simp only [kv, kz, ky, kj, zf, zi]
     rfl
    refine zl (i := 8) (N := some 11) (v := ?_) (a' := ?_) #[kt,kt,kt,kt,kt,kt,kt,kt,kt,kr,kr,kr,kr,kr,kr,kr,kr] rfl rfl (zj HT_.1 (by kernel_rfl)) (fun _ _ _ h => h) (kd ⟨by rfl, ?_⟩) ?_ ?_
    rotate_left
    ·
     intro w'
     go_simp
     with_reducible rfl
    rotate_left
    ·
     simp only [kv, kz, ky, kj, zf, zi]
     rfl
    refine zl (i := 9) (N := some 12) (v := ?_) (a' := ?_) #[kt,kt,kt,kt,kt,kt,kt,kt,kt,kt,kr,kr,kr,kr,kr,kr,kr] rfl rfl (zj HT_.1 (by kernel_rfl)) (fun _ _ _ h => h) (kd ⟨by rfl, ?_⟩) ?_ ?_
    rotate_left
    ·
     intro w'
     go_simp
     with_reducible rfl
    rotate_left
    ·
     simp only [kv, kz, ky, kj, zf, zi]
     rfl
    refine zs (i := 10) (N := some 13) (v := ?_) (a' := ?_) #[kt,kt,kt,kt,kt,kt,kt,kt,kt,kt,kt,kr,kr,kr,kr,kr,kr] rfl rfl (zq HT_.1 HW_.1 (by kernel_rfl)) (fun _ _ _ h => h) (kd ⟨by rfl, ?_⟩) hHeld ?_ ?_
    rotate_left
    ·
     rintro w' ⟨s0, s1⟩
     go_simp
     with_reducible rfl
    rotate_left
    ·
     simp only [kv, kz, ky, kj, zf, zi]
     rfl
    refine zs (i := 11) (N := some 14) (v := ?_) (a' := ?_) #[kt,kt,kt,kt,kt,kt,kt,kt,kt,kt,kt,kt,kr,kr,kr,kr,kr] rfl rfl (zq HT_.1 HW_.1 (by kernel_rfl)) (fun _ _ _ h => h) (kd ⟨by rfl, ?_⟩) hHeld ?_ ?_
    rotate_left
    ·
     rintro w' ⟨s0, s1⟩
     go_simp
     with_reducible rfl
    rotate_left
    ·
     simp only [kv, kz, ky, kj, zf, zi]
     rfl
    refine one_ (i := 12) (N := some 15) #[kt,kt,kt,kt,kt,kt,kt,kt,kt,kt,kt,kt,kt,kr,kr,kr,kr] rfl rfl (one_of HT_.1 (by kernel_rfl)) (by decide) (fun K hK => ?_)
    refine goes_ Try.func101 (by kernel_rfl) rfl #[.agg #[.int .i64 a0_0, .int .i64 a0_1]] (by rfl) rfl rfl (by (try simp only [kh, kf, kb]); rfl) ?_
    with_reducible refine (spec_l1Size.calls a0_0 a0_1 t134 _ A6.1).mono ?_
    rintro e w10 ⟨rfl, hb⟩
    refine ⟨_, rfl, ?_⟩
    replace zu := kk (blk_below (g := gb131) (o := .cells #[.int .i64 a0_0, .int .i64 a0_1] 35 (0, 0)) (by (with_reducible repeat (refine blk_drewN ?_ _)); exact zu.1) hb)
    replace HB := kk (zk (by repeat ((with_reducible first | exact HB.1 | apply za))) hb)
    (try clear hb)
    (try clear hb2)
    (try clear hk)
    (try clear hi)
    refine hK.out _ _ ⟨(zd zu.1 0).trans rfl, (zd zu.1 1).trans rfl⟩ (fun hHeld => ?_)
    clear hK K
    refine norm_ (a' := ?_) ?_ ?_
    rotate_left
    ·
     show kv _ (some 15) _ = _
     simp only [kv, kz, ky, kj, zf, zi]
     rfl
    refine zl (i := 13) (N := some 16) (v := ?_) (a' := ?_) #[kt,kt,kt,kt,kt,kt,kt,kt,kt,kt,kt,kt,kt,kt,kr,kr,kr] rfl rfl (zj HT_.1 (by kernel_rfl)) (fun _ _ _ h => h) (kd ⟨by rfl, ?_⟩) ?_ ?_
    rotate_left
    ·
     intro w'
     go_simp
     with_reducible rfl
    rotate_left
    ·
     simp only [kv, kz, ky, kj, zf, zi]
     rfl
    refine zl (i := 14) (N := some 17) (v := ?_) (a' := ?_) #[kt,kt,kt,kt,kt,kt,kt,kt,kt,kt,kt,kt,kt,kt,kt,kr,kr] rfl rfl (zj HT_.1 (by kernel_rfl)) (fun _ _ _ h => h) (kd ⟨by rfl, ?_⟩) ?_ ?_
    rotate_left
    ·
     intro w'
     go_simp
     with_reducible rfl
    rotate_left
    ·
     simp only [kv, kz, ky, kj, zf, zi]
     rfl
    refine zl (i := 15) (N := some 18) (v := ?_) (a' := ?_) #[kt,kt,kt,kt,kt,kt,kt,kt,kt,kt,kt,kt,kt,kt,kt,kt,kr] rfl rfl (zj HT_.1 (by kernel_rfl)) (fun _ _ _ h => h) (kd ⟨by rfl, ?_⟩) ?_ ?_
    rotate_left
    ·
     intro w'
     go_simp
     with_reducible rfl
    rotate_left
    ·
     simp only [kv, kz, ky, kj, zf, zi]
     rfl
    refine zl (i := 16) (N := some 2) (v := ?_) (a' := ?_) #[kt,kt,kt,kt,kt,kt,kt,kt,kt,kt,kt,kt,kt,kt,kt,kt,kt] rfl rfl (zj HT_.1 (by kernel_rfl)) (fun _ _ _ h => h) (kd ⟨by rfl, ?_⟩) ?_ ?_
    rotate_left
    ·
     intro w'
     go_simp
     with_reducible rfl
    rotate_left
    ·
     simp only [kv, kz, ky, kj, zf, zi]
     rfl
    refine done_ (done_of HT_.1 (by kernel_rfl)) ?_
    try go_wp2
    go_ret
    exact ⟨by rfl, by exact HB.1⟩
  ·
   replace c5 := kc.mpr c5
   subst c5
   have H1 : (some false) = some r := by rw [if_neg (show ¬ (false = true) by decide)] at H; exact H
   clear H
   have H := H1
   clear H1
   obtain rfl := ke H
   go_enter Try.func56, Try.ntmps56
   try go_wp2_with (((with_reducible refine zo (N := 1) rfl ?_); refine zn ?hg (N := 1) ?hd (cs := #[.int .i64 a0_0, .int .i64 a0_1]) (t := 35) ?hr ?_; (case hd => rfl); (case hg => rfl); (case hr => (go_simp; done)); intro gb131 hg w11 hbox hb; replace HB := kk (zk HB.1 hb); have zu := kk hbox; clear hb hbox hg))
   replace zu := kk (zp zu.1)
   replace HB := kk (zc HB.1)
   refine start_ (n := 17) (S := fun w' => w'.cell? ⟨gb131, 0, none⟩ = some (.int .i64 a0_0) ∧ w'.cell? ⟨gb131, 1, none⟩ = some (.int .i64 a0_1)) (ds := []) #[kr,kr,kr,kr,kr,kr,kr,kr,kr,kr,kr,kr,kr,kr,kr,kr,kr] (by kernel_rfl) rfl rfl ⟨(zd zu.1 0).trans rfl, (zd zu.1 1).trans rfl⟩ (fun hHeld => ?_); refine with_tabW spec_GoodPrefix.tab1 spec_GoodPrefix.bits1 (fun HT_ HW_ => ?_)
   generalize w11.drew = w12 at zu HB hHeld ⊢
   refine zl (i := 0) (N := some 3) (v := ?_) (a' := ?_) #[kt,kr,kr,kr,kr,kr,kr,kr,kr,kr,kr,kr,kr,kr,kr,kr,kr] rfl rfl (zj HT_.1 (by kernel_rfl)) (fun _ _ _ h => h) (kd ⟨by rfl, ?_⟩) ?_ ?_
   rotate_left
   ·
    intro w'
    go_simp
    with_reducible rfl
   rotate_left
   ·
    simp only [kv, kz, ky, kj, zf, zi]
    rfl
   refine zs (i := 1) (N := some 4) (v := ?_) (a' := ?_) #[kt,kt,kr,kr,kr,kr,kr,kr,kr,kr,kr,kr,kr,kr,kr,kr,kr] rfl rfl (zq HT_.1 HW_.1 (by kernel_rfl)) (fun _ _ _ h => h) (kd ⟨by rfl, ?_⟩) hHeld ?_ ?_
   rotate_left
   ·
    rintro w' ⟨s0, s1⟩
    go_simp
    with_reducible rfl
   rotate_left
   ·
    simp only [kv, kz, ky, kj, zf, zi]
    rfl
   refine one_ (i := 2) (N := some 5) #[kt,kt,kt,kr,kr,kr,kr,kr,kr,kr,kr,kr,kr,kr,kr,kr,kr] rfl rfl (one_of HT_.1 (by kernel_rfl)) (by decide) (fun K hK => ?_)
   refine goes_ Try.func47 (by kernel_rfl) rfl #[.int .i64 a0_1, .int .i64 0, .int .i64 32] (by rfl) rfl rfl (by (try simp only [kh, kf, kb]); rfl) ?_
   with_reducible refine (spec_l1In.calls a0_1 0 32 true _ A2.1).mono ?_
   rintro e w' ⟨rfl, ⟨nd, rfl⟩⟩
   refine ⟨_, rfl, ?_⟩
   refine hK.out _ _ ⟨(zd zu.1 0).trans rfl, (zd zu.1 1).trans rfl⟩ (fun hHeld => ?_)
   clear hK K
   refine norm_ (a' := ?_) ?_ ?_
   rotate_left
   ·
    show kv _ (some 5) _ = _
    simp only [kv, kz, ky, kj, zf, zi]
    rfl
   refine zl (i := 3) (N := some 6) (v := ?_) (a' := ?_) #[kt,kt,kt,kt,kr,kr,kr,kr,kr,kr,kr,kr,kr,kr,kr,kr,kr] rfl rfl (zj HT_.1 (by kernel_rfl)) (fun _ _ _ h => h) (kd ⟨by rfl, ?_⟩) ?_ ?_
   rotate_left
   ·
    intro w'
    go_simp
    with_reducible rfl
   rotate_left
   ·
    simp only [kv, kz, ky, kj, zf, zi]
    rfl
   refine zl (i := 4) (N := some 7) (v := ?_) (a' := ?_) #[kt,kt,kt,kt,kt,kr,kr,kr,kr,kr,kr,kr,kr,kr,kr,kr,kr] rfl rfl (zj HT_.1 (by kernel_rfl)) (fun _ _ _ h => h) (kd ⟨by rfl, ?_⟩) ?_ ?_
   rotate_left
   ·
    intro w'
    go_simp
    with_reducible rfl
   rotate_left
   ·
    simp only [kv, kz, ky, kj, zf, zi]
    rfl
   refine zs (i := 5) (N := some 8) (v := ?_) (a' := ?_) #[kt,kt,kt,kt,kt,kt,kr,kr,kr,kr,kr,kr,kr,kr,kr,kr,kr] rfl rfl (zq HT_.1 HW_.1 (by kernel_rfl)) (fun _ _ _ h => h) (kd ⟨by rfl, ?_⟩) hHeld ?_ ?_
   rotate_left
   ·
    rintro w' ⟨s0, s1⟩
    go_simp
    with_reducible rfl
   rotate_left
   ·
    simp only [kv, kz, ky, kj, zf, zi]
    rfl
   refine one_ (i := 6) (N := some 9) #[kt,kt,kt,kt,kt,kt,kt,kr,kr,kr,kr,kr,kr,kr,kr,kr,kr] rfl rfl (one_of HT_.1 (by kernel_rfl)) (by decide) (fun K hK => ?_)
   refine goes_ Try.func48 (by kernel_rfl) rfl #[.int .i64 a0_0] (by rfl) rfl rfl (by (try simp only [kh, kf, kb]); rfl) ?_
   with_reducible refine (spec_l1Addr.calls a0_0 false _ A4.1).mono ?_
   rintro e w' ⟨rfl, ⟨nd, rfl⟩⟩
   refine ⟨_, rfl, ?_⟩
   refine hK.out _ _ ⟨(zd zu.1 0).trans rfl, (zd zu.1 1).trans rfl⟩ (fun hHeld => ?_)
   clear hK K
   refine norm_ (a' := ?_) ?_ ?_
   rotate_left
   ·
    show kv _ (some 9) _ = _
    simp only [kv, kz, ky, kj, zf, zi]
    rfl
   refine zl (i := 7) (N := some 10) (v := ?_) (a' := ?_) #[kt,kt,kt,kt,kt,kt,kt,kt,kr,kr,kr,kr,kr,kr,kr,kr,kr] rfl rfl (zj HT_.1 (by kernel_rfl)) (fun _ _ _ h => h) (kd ⟨by rfl, ?_⟩) ?_ ?_
   rotate_left
   ·
    intro w'
    go_simp
    with_reducible rfl
   rotate_left
   ·
    simp only [kv, kz, ky, kj, zf, zi]
    rfl
   refine zl (i := 8) (N := some 11) (v := ?_) (a' := ?_) #[kt,kt,kt,kt,kt,kt,kt,kt,kt,kr,kr,kr,kr,kr,kr,kr,kr] rfl rfl (zj HT_.1 (by kernel_rfl)) (fun _ _ _ h => h) (kd ⟨by rfl, ?_⟩) ?_ ?_
   rotate_left
   ·
    intro w'
    go_simp
    with_reducible rfl
   rotate_left
   ·
    simp only [kv, kz, ky, kj, zf, zi]
    rfl
   refine zl (i := 9) (N := some 12) (v := undef) (a' := ?_) #[kt,kt,kt,kt,kt,kt,kt,kt,kt,kt,kr,kr,kr,kr,kr,kr,kr] rfl rfl (zj HT_.1 (by kernel_rfl)) (fun _ _ _ h => h) (ko ⟨by rfl, rfl⟩) ?_ ?_
   rotate_left
   ·
    simp only [kv, kz, ky, kj, zf, zi]
    rfl
   refine zl (i := 10) (N := some 13) (v := undef) (a' := ?_) #[kt,kt,kt,kt,kt,kt,kt,kt,kt,kt,kt,kr,kr,kr,kr,kr,kr] rfl rfl (zj HT_.1 (by kernel_rfl)) (fun _ _ _ h => h) (ko ⟨by rfl, rfl⟩) ?_ ?_
   rotate_left
   ·
    simp only [kv, kz, ky, kj, zf, zi]
    rfl
   refine zl (i := 11) (N := some 14) (v := undef) (a' := ?_) #[kt,kt,kt,kt,kt,kt,kt,kt,kt,kt,kt,kt,kr,kr,kr,kr,kr] rfl rfl (zj HT_.1 (by kernel_rfl)) (fun _ _ _ h => h) (ko ⟨by rfl, rfl⟩) ?_ ?_
   rotate_left
   ·
    simp only [kv, kz, ky, kj, zf, zi]
    rfl
   refine zl (i := 12) (N := some 15) (v := undef) (a' := ?_) #[kt,kt,kt,kt,kt,kt,kt,kt,kt,kt,kt,kt,kt,kr,kr,kr,kr] rfl rfl (zj HT_.1 (by kernel_rfl)) (fun _ _ _ h => h) (ko ⟨by rfl, rfl⟩) ?_ ?_
   rotate_left
   ·
    simp only [kv, kz, ky, kj, zf, zi]
    rfl
   refine zl (i := 13) (N := some 16) (v := undef) (a' := ?_) #[kt,kt,kt,kt,kt,kt,kt,kt,kt,kt,kt,kt,kt,kt,kr,kr,kr] rfl rfl (zj HT_.1 (by kernel_rfl)) (fun _ _ _ h => h) (ko ⟨by rfl, rfl⟩) ?_ ?_
   rotate_left
   ·
    simp only [kv, kz, ky, kj, zf, zi]
    rfl
   refine zl (i := 14) (N := some 17) (v := undef) (a' := ?_) #[kt,kt,kt,kt,kt,kt,kt,kt,kt,kt,kt,kt,kt,kt,kt,kr,kr] rfl rfl (zj HT_.1 (by kernel_rfl)) (fun _ _ _ h => h) (ko ⟨by rfl, rfl⟩) ?_ ?_
   rotate_left
   ·
    simp only [kv, kz, ky, kj, zf, zi]
    rfl
   refine zl (i := 15) (N := some 18) (v := ?_) (a' := ?_) #[kt,kt,kt,kt,kt,kt,kt,kt,kt,kt,kt,kt,kt,kt,kt,kt,kr] rfl rfl (zj HT_.1 (by kernel_rfl)) (fun _ _ _ h => h) (kd ⟨by rfl, ?_⟩) ?_ ?_
   rotate_left
   ·
    intro w'
    go_simp
    with_reducible rfl
   rotate_left
   ·
    simp only [kv, kz, ky, kj, zf, zi]
    rfl
   refine zl (i := 16) (N := some 2) (v := ?_) (a' := ?_) #[kt,kt,kt,kt,kt,kt,kt,kt,kt,kt,kt,kt,kt,kt,kt,kt,kt] rfl rfl (zj HT_.1 (by kernel_rfl)) (fun _ _ _ h => h) (kd ⟨by rfl, ?_⟩) ?_ ?_
   rotate_left
   ·
    intro w'
    go_simp
    with_reducible rfl
   rotate_left
   ·
    simp only [kv, kz, ky, kj, zf, zi]
    rfl
   refine done_ (done_of HT_.1 (by kernel_rfl)) ?_
   try go_wp2
   go_ret
   exact ⟨by rfl, by repeat ((with_reducible first | exact HB.1 | apply za))⟩
 ·
  replace c3 := kc.mpr c3
  subst c3
  have H1 : (some false) = some r := by rw [if_neg (show ¬ (false = true) by decide)] at H; exact H
  clear H
  have H := H1
  clear H1
  obtain rfl := ke H
  go_enter Try.func56, Try.ntmps56
  try go_wp2_with (((with_reducible refine zo (N := 1) rfl ?_); refine zn ?hg (N := 1) ?hd (cs := #[.int .i64 a0_0, .int .i64 a0_1]) (t := 35) ?hr ?_; (case hd => rfl); (case hg => rfl); (case hr => (go_simp; done)); intro gb131 hg w13 hbox hb; replace HB := kk (zk HB.1 hb); have zu := kk hbox; clear hb hbox hg))
  replace zu := kk (zp zu.1)
  replace HB := kk (zc HB.1)
  refine start_ (n := 17) (S := fun w' => w'.cell? ⟨gb131, 0, none⟩ = some (.int .i64 a0_0) ∧ w'.cell? ⟨gb131, 1, none⟩ = some (.int .i64 a0_1)) (ds := []) #[kr,kr,kr,kr,kr,kr,kr,kr,kr,kr,kr,kr,kr,kr,kr,kr,kr] (by kernel_rfl) rfl rfl ⟨(zd zu.1 0).trans rfl, (zd zu.1 1).trans rfl⟩ (fun hHeld => ?_); refine with_tabW spec_GoodPrefix.tab1 spec_GoodPrefix.bits1 (fun HT_ HW_ => ?_)
  generalize w13.drew = w14 at zu HB hHeld ⊢
  refine zl (i := 0) (N := some 3) (v := ?_) (a' := ?_) #[kt,kr,kr,kr,kr,kr,kr,kr,kr,kr,kr,kr,kr,kr,kr,kr,kr] rfl rfl (zj HT_.1 (by kernel_rfl)) (fun _ _ _ h => h) (kd ⟨by rfl, ?_⟩) ?_ ?_
  rotate_left
  ·
   intro w'
   go_simp
   with_reducible rfl
  rotate_left
  ·
   simp only [kv, kz, ky, kj, zf, zi]
   rfl
  refine zs (i := 1) (N := some 4) (v := ?_) (a' := ?_) #[kt,kt,kr,kr,kr,kr,kr,kr,kr,kr,kr,kr,kr,kr,kr,kr,kr] rfl rfl (zq HT_.1 HW_.1 (by kernel_rfl)) (fun _ _ _ h => h) (kd ⟨by rfl, ?_⟩) hHeld ?_ ?_
  rotate_left
  ·
   rintro w' ⟨s0, s1⟩
   go_simp
   with_reducible rfl
  rotate_left
  ·
   simp only [kv, kz, ky, kj, zf, zi]
   rfl
  refine one_ (i := 2) (N := some 5) #[kt,kt,kt,kr,kr,kr,kr,kr,kr,kr,kr,kr,kr,kr,kr,kr,kr] rfl rfl (one_of HT_.1 (by kernel_rfl)) (by decide) (fun K hK => ?_)
  refine goes_ Try.func47 (by kernel_rfl) rfl #[.int .i64 a0_1, .int .i64 0, .int .i64 32] (by rfl) rfl rfl (by (try simp only [kh, kf, kb]); rfl) ?_
  with_reducible refine (spec_l1In.calls a0_1 0 32 false _ A2.1).mono ?_
  rintro e w' ⟨rfl, ⟨nd, rfl⟩⟩
  refine ⟨_, rfl, ?_⟩
  refine hK.out _ _ ⟨(zd zu.1 0).trans rfl, (zd zu.1 1).trans rfl⟩ (fun hHeld => ?_)
  clear hK K
  refine norm_ (a' := ?_) ?_ ?_
  rotate_left
  ·
   show kv _ (some 5) _ = _
   simp only [kv, kz, ky, kj, zf, zi]
   rfl
  refine zl (i := 3) (N := some 6) (v := ?_) (a' := ?_) #[kt,kt,kt,kt,kr,kr,kr,kr,kr,kr,kr,kr,kr,kr,kr,kr,kr] rfl rfl (zj HT_.1 (by kernel_rfl)) (fun _ _ _ h => h) (kd ⟨by rfl, ?_⟩) ?_ ?_
  rotate_left
  ·
   intro w'
   go_simp
   with_reducible rfl
  rotate_left
  ·
   simp only [kv, kz, ky, kj, zf, zi]
   rfl
  refine zl (i := 4) (N := some 7) (v := undef) (a' := ?_) #[kt,kt,kt,kt,kt,kr,kr,kr,kr,kr,kr,kr,kr,kr,kr,kr,kr] rfl rfl (zj HT_.1 (by kernel_rfl)) (fun _ _ _ h => h) (ko ⟨by rfl, rfl⟩) ?_ ?_
  rotate_left
  ·
   simp only [kv, kz, ky, kj, zf, zi]
   rfl
  refine zl (i := 5) (N := some 8) (v := undef) (a' := ?_) #[kt,kt,kt,kt,kt,kt,kr,kr,kr,kr,kr,kr,kr,kr,kr,kr,kr] rfl rfl (zj HT_.1 (by kernel_rfl)) (fun _ _ _ h => h) (ko ⟨by rfl, rfl⟩) ?_ ?_
  rotate_left
  ·
   simp only [kv, kz, ky, kj, zf, zi]
   rfl
  refine zl (i := 6) (N := some 9) (v := undef) (a' := ?_) #[kt,kt,kt,kt,kt,kt,kt,kr,kr,kr,kr,kr,kr,kr,kr,kr,kr] rfl rfl (zj HT_.1 (by kernel_rfl)) (fun _ _ _ h => h) (ko ⟨by rfl, rfl⟩) ?_ ?_
  rotate_left
  ·
   simp only [kv, kz, ky, kj, zf, zi]
   rfl
  refine zl (i := 7) (N := some 10) (v := ?_) (a' := ?_) #[kt,kt,kt,kt,kt,kt,kt,kt,kr,kr,kr,kr,kr,kr,kr,kr,kr] rfl rfl (zj HT_.1 (by kernel_rfl)) (fun _ _ _ h => h) (kd ⟨by rfl, ?_⟩) ?_ ?_
  rotate_left
  ·
   intro w'
   go_simp
   with_reducible rfl
  rotate_left
  ·
   simp only [kv, kz, ky, kj, zf, zi]
   rfl
  refine zl (i := 8) (N := some 11) (v := ?_) (a' := ?_) #[kt,kt,kt,kt,kt,kt,kt,kt,kt,kr,kr,kr,kr,kr,kr,kr,kr] rfl rfl (zj HT_.1 (by kernel_rfl)) (fun _ _ _ h => h) (kd ⟨by rfl, ?_⟩) ?_ ?_
  rotate_left
  ·
   intro w'
   go_simp
   with_reducible rfl
  rotate_left
  ·
   simp only [kv, kz, ky, kj, zf, zi]
   rfl
  refine zl (i := 9) (N := some 12) (v := undef) (a' := ?_) #[kt,kt,kt,kt,kt,kt,kt,kt,kt,kt,kr,kr,kr,kr,kr,kr,kr] rfl rfl (zj HT_.1 (by kernel_rfl)) (fun _ _ _ h => h) (ko ⟨by rfl, rfl⟩) ?_ ?_
  rotate_left
  ·
   simp only [kv, kz, ky, kj, zf, zi]
   rfl
  refine zl (i := 10) (N := some 13) (v := undef) (a' := ?_) #[kt,kt,kt,kt,kt,kt,kt,kt,kt,kt,kt,kr,kr,kr,kr,kr,kr] rfl rfl (zj HT_.1 (by kernel_rfl)) (fun _ _ _ h => h) (ko ⟨by rfl, rfl⟩) ?_ ?_
  rotate_left
  ·
   simp only [kv, kz, ky, kj, zf, zi]
   rfl
  refine zl (i := 11) (N := some 14) (v := undef) (a' := ?_) #[kt,kt,kt,kt,kt,kt,kt,kt,kt,kt,kt,kt,kr,kr,kr,kr,kr] rfl rfl (zj HT_.1 (by kernel_rfl)) (fun _ _ _ h => h) (ko ⟨by rfl, rfl⟩) ?_ ?_
  rotate_left
  ·
   simp only [kv, kz, ky, kj, zf, zi]
   rfl
  refine zl (i := 12) (N := some 15) (v := undef) (a' := ?_) #[kt,kt,kt,kt,kt,kt,kt,kt,kt,kt,kt,kt,kt,kr,kr,kr,kr] rfl rfl (zj HT_.1 (by kernel_rfl)) (fun _ _ _ h => h) (ko ⟨by rfl, rfl⟩) ?_ ?_
  rotate_left
  ·
   simp only [kv, kz, ky, kj, zf, zi]
   rfl
  refine zl (i := 13) (N := some 16) (v := undef) (a' := ?_) #[kt,kt,kt,kt,kt,kt,kt,kt,kt,kt,kt,kt,kt,kt,kr,kr,kr] rfl rfl (zj HT_.1 (by kernel_rfl)) (fun _ _ _ h => h) (ko ⟨by rfl, rfl⟩) ?_ ?_
  rotate_left
  ·
   simp only [kv, kz, ky, kj, zf, zi]
   rfl
  refine zl (i := 14) (N := some 17) (v := undef) (a' := ?_) #[kt,kt,kt,kt,kt,kt,kt,kt,kt,kt,kt,kt,kt,kt,kt,kr,kr] rfl rfl (zj HT_.1 (by kernel_rfl)) (fun _ _ _ h => h) (ko ⟨by rfl, rfl⟩) ?_ ?_
  rotate_left
  ·
   simp only [kv, kz, ky, kj, zf, zi]
   rfl
  refine zl (i := 15) (N := some 18) (v := ?_) (a' := ?_) #[kt,kt,kt,kt,kt,kt,kt,kt,kt,kt,kt,kt,kt,kt,kt,kt,kr] rfl rfl (zj HT_.1 (by kernel_rfl)) (fun _ _ _ h => h) (kd ⟨by rfl, ?_⟩) ?_ ?_
  rotate_left
  ·
   intro w'
   go_simp
   with_reducible rfl
  rotate_left
  ·
   simp only [kv, kz, ky, kj, zf, zi]
   rfl
  refine zl (i := 16) (N := some 2) (v := ?_) (a' := ?_) #[kt,kt,kt,kt,kt,kt,kt,kt,kt,kt,kt,kt,kt,kt,kt,kt,kt] rfl rfl (zj HT_.1 (by kernel_rfl)) (fun _ _ _ h => h) (kd ⟨by rfl, ?_⟩) ?_ ?_
  rotate_left
  ·
   intro w'
   go_simp
   with_reducible rfl
  rotate_left
  ·
   simp only [kv, kz, ky, kj, zf, zi]
   rfl
  refine done_ (done_of HT_.1 (by kernel_rfl)) ?_
  try go_wp2
  go_ret
  exact ⟨by rfl, by repeat ((with_reducible first | exact HB.1 | apply za))⟩

end Go.Proofs.Ytlnfcobloolnnaa.PFnPrepend
