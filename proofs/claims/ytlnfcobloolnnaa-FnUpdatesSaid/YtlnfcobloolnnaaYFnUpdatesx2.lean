/- Go functions told by Lean functions, printed by a program. No condition but what each statement says. -/
import Derived.Test.YtlnfcobloolnnaaYFnUpdatesx0
namespace Go.Proofs.Ytlnfcobloolnnaa.PFnUpdates
open Go.RowKit Go.Proofs.YtlnfcobloolnnaaW.PrintWords Go.Proofs.YtlnfcobloolnnaaW.PrintLast Go.Proofs.YtlnfcobloolnnaaW.PrintMore
open Aside0 renaming mk → kz
open Option renaming bind_eq_some_iff → ky
open Option.some renaming inj → kj
open List renaming map_toArray → kk, map_cons → kv, map_nil → kh
open Bool renaming eq_false_iff → kg
open World renaming drewN_drewN → kf
open Try renaming func50 → ke, prog → kb, ntmps15 → kd, func15 → kc
open Int renaming tmod → ko
set_option maxHeartbeats 8000000
set_option maxRecDepth 100000
open Go.Proofs.YtlnfcobloolnnaaW.PrintLast renaming goesL_ → zt
open Go.Proofs.YtlnfcobloolnnaaW.PrintWords renaming pw_below_drewN → za, below_step → zg, gate_callee → zk, box_event → zn, gate_dst → zo, Drawn0 → zw, Aside0 → zy
open Go.Proofs.YtlnfcobloolnnaaW.PrintWords.Drawn0 renaming step → zh, refl → zi
open Go.Proofs.YtlnfcobloolnnaaW.PrintWords.Kd renaming at_int → zq, int → zx
attribute [local go_sem] max2_int min2_int max_two min_two max_three min_three max_four min_four
set_option linter.unusedVariables false
set_option linter.unusedSimpArgs false
/-! ### impl_within: function 50 -/
def impl_within.f (a0 : Int) (a1 : Int) (a2 : Int) : Option (Bool) := if a0 ≥ a1 then (some (decide (a0 ≤ a2))) else (some false)
theorem impl_within.calls (a0 : Int) (a1 : Int) (a2 : Int) (r : Bool) (w : World) (h : impl_within.f a0 a1 a2 = some r) :
  Calls kb 50 #[.int .i64 a0, .int .i64 a1, .int .i64 a2] w fun e w' => e = .returned (.bool r) ∧ zw w w' := by
 have H : (if a0 ≥ a1 then (some (decide (a0 ≤ a2))) else (some false)) = some r := h; clear h; by_cases c4 : a0 ≥ a1; · rw [if_pos c4] at H; have c4b0 := decide_eq_true c4; clear c4; obtain rfl := kj H; go_enter ke, Try.ntmps50; go_wp2; go_ret; exact ⟨by rfl, by repeat (exact zi _)⟩
 · rw [if_neg c4] at H; have c4b0 := decide_eq_false c4; clear c4; obtain rfl := kj H; go_enter ke, Try.ntmps50; go_wp2; go_ret; exact ⟨by rfl, by repeat (exact zi _)⟩
/-! ### impl_isAsn: function 63 -/
def impl_isAsn.f (a0 : Int) : Option (Bool) := (impl_within.f a0 1 65535).bind fun t101 => (some t101)
theorem impl_isAsn.calls (a0 : Int) (r : Bool) (w : World) (h : impl_isAsn.f a0 = some r) :
  Calls kb 63 #[.int .i64 a0] w fun e w' => e = .returned (.bool r) ∧ zw w w' := by
 have H : ((impl_within.f a0 1 65535).bind fun t101 => (some t101)) = some r := h; clear h; replace H := ky.mp H; obtain ⟨t101, A20, H⟩ := H; have A2 := kz A20; clear A20; obtain rfl := kj H; go_enter Try.func63, Try.ntmps63; go_wp2_with (((with_reducible refine zk (f := 50) rfl ?_); refine zt (some 4) rfl rfl ke (by kernel_rfl) rfl #[.int .i64 a0, .int .i64 1, .int .i64 65535] rfl (by (try simp only [kk, kv, kh]); rfl) ?_; (with_reducible refine (impl_within.calls a0 1 65535 t101 _ A2.1).mono ?_); rintro e w' ⟨rfl, ⟨nd, rfl⟩⟩; refine ⟨_, rfl, ?_⟩)); go_ret; exact ⟨by rfl, by repeat (first | exact zi _ | apply zh)⟩
/-! ### impl_isPath_1: function 100 -/
def impl_isPath_1.f (a0 : Int) : Option (Bool) := (impl_isAsn.f a0).bind fun t102 => (some (!t102))
theorem impl_isPath_1.calls (a0 : Int) (r : Bool) (w : World) (h : impl_isPath_1.f a0 = some r) :
  Calls kb 100 #[.int .i64 a0] w fun e w' => e = .returned (.bool r) ∧ zw w w' := by
 have H : ((impl_isAsn.f a0).bind fun t102 => (some (!t102))) = some r := h; clear h; replace H := ky.mp H; obtain ⟨t102, A20, H⟩ := H; have A2 := kz A20; clear A20; obtain rfl := kj H; go_enter Try.func100, Try.ntmps100; go_wp2_with (((with_reducible refine zk (f := 63) rfl ?_); refine zt (some 4) rfl rfl Try.func63 (by kernel_rfl) rfl #[.int .i64 a0] rfl (by (try simp only [kk, kv, kh]); rfl) ?_; (with_reducible refine (impl_isAsn.calls a0 t102 _ A2.1).mono ?_); rintro e w' ⟨rfl, ⟨nd, rfl⟩⟩; refine ⟨_, rfl, ?_⟩)); go_ret; exact ⟨by rfl, by repeat (first | exact zi _ | apply zh)⟩
/-! ### slices_IndexFunc_int_int: function 119 -/
def slices_IndexFunc_int_int.l0 : Nat → List Int → Int → Int → Option (Int)
 | 0, _, _, _ => none
 | k + 1, x0, x7, x8 => if x8 < x7 then (if 0 ≤ x8 then (if x8 < (x0.length : Int) then ((impl_isPath_1.f (rd x0 x8)).bind fun t104 => (if t104 = true then (some x8) else (slices_IndexFunc_int_int.l0 k x0 x7 (wrap64 (x8 + 1))))) else (none)) else (none)) else (some (-1))
def slices_IndexFunc_int_int.f (k : Nat) (l0 : List Int)  : Option (Int) := slices_IndexFunc_int_int.l0 k l0 (l0.length : Int) 0
theorem slices_IndexFunc_int_int.calls (k : Nat) (A0 : Option Addr) (c0 : Nat) (l0 : List Int)  (r : Int) (w : World) (hr0 : Kd.C (zx .i64) w A0 l0.length l0) (hc0 : l0.length ≤ c0) (h : slices_IndexFunc_int_int.f k l0 = some r) :
  Calls kb 119 #[.slice A0 l0.length c0, .func (.func 100) #[] #[]] w fun e w' => e = .returned (.int .i64 r) ∧ Below w.heap.size w w' := by
 have HR0 := kz hr0; have HC0 := kz hc0; clear hr0 hc0; have HB := kz (Below.refl w.heap.size w); have H : (slices_IndexFunc_int_int.l0 k l0 (l0.length : Int) 0) = some r := h; clear h; have H' := kz H; clear H; go_enter Try.func119, Try.ntmps119; go_wp2; go_loopg [8] k (fun kq v8 w' => ∃ (x8_1 : Int), v8 = .int .i64 x8_1 ∧ zy (slices_IndexFunc_int_int.l0 kq l0 (l0.length : Int) x8_1 = some r) ∧ zy (kq ≤ k) ∧ zy (Below w.heap.size w w')); case atStart => exact ⟨(0), (by rfl), H', ⟨Nat.le_refl _⟩, ⟨by exact HB.1⟩⟩
 case round =>
  clear H'; obtain ⟨x8_1, rfl, HA, HK1, HB⟩ := hrel; cases gk with
  | zero => exact absurd HA.1 (by simp [slices_IndexFunc_int_int.l0])
  | succ k1 =>
   have H := HA.1; clear HA; simp only [slices_IndexFunc_int_int.l0] at H; by_cases c3 : x8_1 < (l0.length : Int)
   ·
    rw [if_pos c3] at H; have c3b0 := decide_eq_true c3; clear c3; by_cases c4 : 0 ≤ x8_1
    ·
     rw [if_pos c4] at H; have c4b0 := decide_eq_true c4; clear c4; by_cases c5 : x8_1 < (l0.length : Int)
     ·
      rw [if_pos c5] at H; have c5b0 := decide_eq_true c5; clear c5; replace H := ky.mp H; obtain ⟨t104, A60, H⟩ := H; have A6 := kz A60; clear A60; by_cases c7 : t104 = true
      ·
       subst c7; rw [if_pos rfl] at H; obtain rfl := kj H; have p103 : 0 ≤ (x8_1 : Int) := of_decide_eq_true (by (with_reducible assumption)); have q103 : x8_1 < (l0.length : Int) := of_decide_eq_true (by (with_reducible assumption)); obtain ⟨ad103, e103, hx103_0⟩ := zq HR0.1 x8_1 p103 q103; cases e103; try replace hx103_0 := (HB.1.cell (World.block_lt_of_cell? w _ hx103_0)).trans hx103_0
       replace p103 := eq_true p103; replace q103 := eq_true q103; go_wp2_with ((go_at_call 100; (with_reducible refine (impl_isPath_1.calls (rd l0 x8_1) true _ A6.1).mono ?_); rintro e w' ⟨rfl, ⟨nd, rfl⟩⟩)); go_ret; exact ⟨by rfl, by repeat ((with_reducible first | exact HB.1 | apply za))⟩
      ·
       replace c7 := kg.mpr c7; subst c7; rw [if_neg (show ¬ (false = true) by decide)] at H; have H' := kz H; clear H; have p103 : 0 ≤ (x8_1 : Int) := of_decide_eq_true (by (with_reducible assumption)); have q103 : x8_1 < (l0.length : Int) := of_decide_eq_true (by (with_reducible assumption)); obtain ⟨ad103, e103, hx103_0⟩ := zq HR0.1 x8_1 p103 q103; cases e103; try replace hx103_0 := (HB.1.cell (World.block_lt_of_cell? w _ hx103_0)).trans hx103_0
       replace p103 := eq_true p103; replace q103 := eq_true q103; go_wp2_with ((go_at_call 100; (with_reducible refine (impl_isPath_1.calls (rd l0 x8_1) false _ A6.1).mono ?_); rintro e w' ⟨rfl, ⟨nd, rfl⟩⟩)); go_roundg k1; case measure => have := HK1.1; omega
       case rel => exact ⟨(wrap64 (x8_1 + 1)), (by rfl), H', ⟨by have := HK1.1; omega⟩, ⟨by repeat ((with_reducible first | exact HB.1 | apply za))⟩⟩
     · rw [if_neg c5] at H; exact absurd H (by simp)
    · rw [if_neg c4] at H; exact absurd H (by simp)
   · rw [if_neg c3] at H; have c3b0 := decide_eq_false c3; clear c3; obtain rfl := kj H; go_wp2; go_ret; exact ⟨by rfl, by exact HB.1⟩
/-! ### slices_ContainsFunc_int_int: function 99 -/
def slices_ContainsFunc_int_int.f (k : Nat) (l0 : List Int)  : Option (Bool) := (slices_IndexFunc_int_int.f k l0).bind fun t105 => (some (decide (t105 ≥ 0)))
theorem slices_ContainsFunc_int_int.calls (k : Nat) (A0 : Option Addr) (c0 : Nat) (l0 : List Int)  (r : Bool) (w : World) (hr0 : Kd.C (zx .i64) w A0 l0.length l0) (hc0 : l0.length ≤ c0) (h : slices_ContainsFunc_int_int.f k l0 = some r) :
  Calls kb 99 #[.slice A0 l0.length c0, .func (.func 100) #[] #[]] w fun e w' => e = .returned (.bool r) ∧ Below w.heap.size w w' := by
 have HR0 := kz hr0; have HC0 := kz hc0; clear hr0 hc0; have HB := kz (Below.refl w.heap.size w); have H : ((slices_IndexFunc_int_int.f k l0).bind fun t105 => (some (decide (t105 ≥ 0)))) = some r := h; clear h; replace H := ky.mp H; obtain ⟨t105, A30, H⟩ := H; have A3 := kz A30; clear A30; obtain rfl := kj H; go_enter Try.func99, Try.ntmps99; go_wp2_with (((with_reducible refine zk (f := 119) rfl ?_); refine zt (some 7) rfl rfl Try.func119 (by kernel_rfl) rfl #[.slice A0 l0.length c0, .func (.func 100) #[] #[]] rfl (by (try simp only [kk, kv, kh]); rfl) ?_; (with_reducible refine (slices_IndexFunc_int_int.calls k _ _ l0  t105 _ ?side1 ?side2 A3.1).mono ?_); (case side1 => repeat (exact HR0.1)); (case side2 => exact HC0.1); rintro e w4 ⟨rfl, hb⟩; refine ⟨_, rfl, ?_⟩; replace HB := kz (zg HB.1 hb); (try clear hi))); go_ret; exact ⟨by rfl, by exact HB.1⟩
/-! ### impl_isPath: function 51 -/
def impl_isPath.f (k : Nat) (l0 : List Int) : Option (Bool) := if (l0.length : Int) ≤ 10 then ((slices_ContainsFunc_int_int.f k l0).bind fun t106 => (some (!t106))) else (some false)
theorem impl_isPath.calls (k : Nat) (A0 : Option Addr) (c0 : Nat) (l0 : List Int) (r : Bool) (w : World) (hr0 : Kd.C (zx .i64) w A0 l0.length l0) (hc0 : l0.length ≤ c0) (h : impl_isPath.f k l0 = some r) :
  Calls kb 51 #[.slice A0 l0.length c0] w fun e w' => e = .returned (.bool r) ∧ Below w.heap.size w w' := by
 have HR0 := kz hr0; have HC0 := kz hc0; clear hr0 hc0; have HB := kz (Below.refl w.heap.size w); have H : (if (l0.length : Int) ≤ 10 then ((slices_ContainsFunc_int_int.f k l0).bind fun t106 => (some (!t106))) else (some false)) = some r := h; clear h; by_cases c2 : (l0.length : Int) ≤ 10; · rw [if_pos c2] at H; have c2b0 := decide_eq_true c2; have c2b1 : decide (l0.length ≤ 10) = true := decide_eq_true (by omega); clear c2; replace H := ky.mp H; obtain ⟨t106, A30, H⟩ := H; have A3 := kz A30; clear A30; obtain rfl := kj H; go_enter Try.func51, Try.ntmps51; go_wp2_with ((go_at_call 99; (with_reducible refine (slices_ContainsFunc_int_int.calls k _ _ l0  t106 _ ?side1 ?side2 A3.1).mono ?_); (case side1 => repeat (exact HR0.1)); (case side2 => exact HC0.1); rintro e w4 ⟨rfl, hb⟩; replace HB := kz (zg HB.1 hb); (try clear hi))); go_ret; exact ⟨by rfl, by exact HB.1⟩
 · rw [if_neg c2] at H; have c2b0 := decide_eq_false c2; have c2b1 : decide (l0.length ≤ 10) = false := decide_eq_false (by omega); clear c2; obtain rfl := kj H; go_enter Try.func51, Try.ntmps51; go_wp2; go_ret; exact ⟨by rfl, by exact HB.1⟩
/-! ### impl_isAddr: function 52 -/
def impl_isAddr.f (a0 : Int) : Option (Bool) := (impl_within.f a0 0 4294967295).bind fun t107 => (some t107)
theorem impl_isAddr.calls (a0 : Int) (r : Bool) (w : World) (h : impl_isAddr.f a0 = some r) :
  Calls kb 52 #[.int .i64 a0] w fun e w' => e = .returned (.bool r) ∧ zw w w' := by
 have H : ((impl_within.f a0 0 4294967295).bind fun t107 => (some t107)) = some r := h; clear h; replace H := ky.mp H; obtain ⟨t107, A20, H⟩ := H; have A2 := kz A20; clear A20; obtain rfl := kj H; go_enter Try.func52, Try.ntmps52; go_wp2_with (((with_reducible refine zk (f := 50) rfl ?_); refine zt (some 4) rfl rfl ke (by kernel_rfl) rfl #[.int .i64 a0, .int .i64 0, .int .i64 4294967295] rfl (by (try simp only [kk, kv, kh]); rfl) ?_; (with_reducible refine (impl_within.calls a0 0 4294967295 t107 _ A2.1).mono ?_); rintro e w' ⟨rfl, ⟨nd, rfl⟩⟩; refine ⟨_, rfl, ?_⟩)); go_ret; exact ⟨by rfl, by repeat (first | exact zi _ | apply zh)⟩
/-! ### impl_isValue: function 53 -/
def impl_isValue.f (a0 : Int) : Option (Bool) := (impl_within.f a0 0 1000000).bind fun t108 => (some t108)
theorem impl_isValue.calls (a0 : Int) (r : Bool) (w : World) (h : impl_isValue.f a0 = some r) :
  Calls kb 53 #[.int .i64 a0] w fun e w' => e = .returned (.bool r) ∧ zw w w' := by
 have H : ((impl_within.f a0 0 1000000).bind fun t108 => (some t108)) = some r := h; clear h; replace H := ky.mp H; obtain ⟨t108, A20, H⟩ := H; have A2 := kz A20; clear A20; obtain rfl := kj H; go_enter Try.func53, Try.ntmps53; go_wp2_with (((with_reducible refine zk (f := 50) rfl ?_); refine zt (some 4) rfl rfl ke (by kernel_rfl) rfl #[.int .i64 a0, .int .i64 0, .int .i64 1000000] rfl (by (try simp only [kk, kv, kh]); rfl) ?_; (with_reducible refine (impl_within.calls a0 0 1000000 t108 _ A2.1).mono ?_); rintro e w' ⟨rfl, ⟨nd, rfl⟩⟩; refine ⟨_, rfl, ?_⟩)); go_ret; exact ⟨by rfl, by repeat (first | exact zi _ | apply zh)⟩
/-! ### impl_areComms: function 54 -/
def impl_areComms.l0 : Nat → List Int → List Int → Int → Int → Option (Bool)
 | 0, _, _, _, _ => none
 | k + 1, x0, x5, x6, x7 => if x7 < x6 then (if 0 ≤ x7 then (if x7 < (x5.length : Int) then ((impl_isValue.f (rd x5 x7)).bind fun t110 => (if t110 = true then (if x7 > 0 then (if 0 ≤ (wrap64 (x7 - 1)) then (if (wrap64 (x7 - 1)) < (x0.length : Int) then (if (rd x5 x7) ≤ (rd x0 (wrap64 (x7 - 1))) then (some false) else (impl_areComms.l0 k x0 x5 x6 (wrap64 (x7 + 1)))) else (none)) else (none)) else (impl_areComms.l0 k x0 x5 x6 (wrap64 (x7 + 1)))) else (some false))) else (none)) else (none)) else (some (decide ((x0.length : Int) ≤ 6)))
def impl_areComms.f (k : Nat) (l0 : List Int) : Option (Bool) := impl_areComms.l0 k l0 l0 (l0.length : Int) 0
theorem impl_areComms.calls (k : Nat) (A0 : Option Addr) (c0 : Nat) (l0 : List Int) (r : Bool) (w : World) (hr0 : Kd.C (zx .i64) w A0 l0.length l0) (hc0 : l0.length ≤ c0) (h : impl_areComms.f k l0 = some r) :
  Calls kb 54 #[.slice A0 l0.length c0] w fun e w' => e = .returned (.bool r) ∧ zw w w' := by
 have HR0 := kz hr0; have HC0 := kz hc0; clear hr0 hc0; have H : (impl_areComms.l0 k l0 l0 (l0.length : Int) 0) = some r := h; clear h; have H' := kz H; clear H; go_enter Try.func54, Try.ntmps54; go_wp2; go_loopg [7] k (fun kq v7 w' => ∃ (x7_1 : Int), v7 = .int .i64 x7_1 ∧ zy (impl_areComms.l0 kq l0 l0 (l0.length : Int) x7_1 = some r) ∧ zy (kq ≤ k) ∧ zw w w'); case atStart => exact ⟨(0), (by rfl), H', ⟨Nat.le_refl _⟩, by repeat (exact zi _)⟩
 case round =>
  clear H'; obtain ⟨x7_1, rfl, HA, HK1, ⟨m1, rfl⟩⟩ := hrel; cases gk with
  | zero => exact absurd HA.1 (by simp [impl_areComms.l0])
  | succ k1 =>
   have H := HA.1; clear HA; simp only [impl_areComms.l0] at H; by_cases c2 : x7_1 < (l0.length : Int)
   ·
    rw [if_pos c2] at H; have c2b0 := decide_eq_true c2; clear c2; by_cases c3 : 0 ≤ x7_1
    ·
     rw [if_pos c3] at H; have c3b0 := decide_eq_true c3; clear c3; by_cases c4 : x7_1 < (l0.length : Int)
     ·
      rw [if_pos c4] at H; have c4b0 := decide_eq_true c4; clear c4; replace H := ky.mp H; obtain ⟨t110, A50, H⟩ := H; have A5 := kz A50; clear A50; by_cases c6 : t110 = true
      ·
       subst c6; rw [if_pos rfl] at H; by_cases c7 : x7_1 > 0
       ·
        rw [if_pos c7] at H; have c7b0 := decide_eq_true c7; clear c7; obtain ⟨ji8, hji8⟩ : ∃ j_ : Int, (wrap64 (x7_1 - 1)) = j_ := ⟨_, rfl⟩
        replace H : (if 0 ≤ (ji8) then (if (ji8) < (l0.length : Int) then (if (rd l0 x7_1) ≤ (rd l0 (ji8)) then (some false) else (impl_areComms.l0 k1 l0 l0 (l0.length : Int) (wrap64 (x7_1 + 1)))) else (none)) else (none)) = some r := by (rw [hji8] at H; exact H)
        (try rw [hji8] at A5); have hji8w : (IntKind.i64.wrap (x7_1 - 1)) = ji8 := (i64_w _).trans hji8; by_cases c9 : 0 ≤ (ji8)
        ·
         rw [if_pos c9] at H; have c9b0 := decide_eq_true c9; clear c9; by_cases c10 : (ji8) < (l0.length : Int)
         ·
          rw [if_pos c10] at H; have c10b0 := decide_eq_true c10; clear c10; by_cases c11 : (rd l0 x7_1) ≤ (rd l0 (ji8)); · rw [if_pos c11] at H; have c11b0 := decide_eq_true c11; clear c11; obtain rfl := kj H; have p109 : 0 ≤ (x7_1 : Int) := of_decide_eq_true (by (with_reducible assumption)); have q109 : x7_1 < (l0.length : Int) := of_decide_eq_true (by (with_reducible assumption)); obtain ⟨ad109, e109, hx109_0⟩ := zq HR0.1 x7_1 p109 q109; cases e109; replace p109 := eq_true p109; replace q109 := eq_true q109; go_wp2_with (((with_reducible refine zk (f := 53) rfl ?_); refine zt (some 13) rfl rfl Try.func53 (by kernel_rfl) rfl #[.int .i64 (rd l0 x7_1)] rfl (by (try simp only [kk, kv, kh]); rfl) ?_; (with_reducible refine (impl_isValue.calls (rd l0 x7_1) true _ A5.1).mono ?_); rintro e w' ⟨rfl, ⟨nd, rfl⟩⟩; refine ⟨_, rfl, ?_⟩; have p111 : 0 ≤ ((ji8) : Int) := of_decide_eq_true (by (with_reducible assumption)); have q111 : (ji8) < (l0.length : Int) := of_decide_eq_true (by (with_reducible assumption)); obtain ⟨ad111, e111, hx111_0⟩ := zq HR0.1 (ji8) p111 q111; obtain rfl : ad109 = ad111 := (by injection e111); replace p111 := eq_true p111; replace q111 := eq_true q111)); go_ret; exact ⟨by rfl, by repeat (first | exact zi _ | apply zh)⟩
          ·
           rw [if_neg c11] at H; have c11b0 := decide_eq_false c11; clear c11; have H' := kz H; clear H; have p109 : 0 ≤ (x7_1 : Int) := of_decide_eq_true (by (with_reducible assumption)); have q109 : x7_1 < (l0.length : Int) := of_decide_eq_true (by (with_reducible assumption)); obtain ⟨ad109, e109, hx109_0⟩ := zq HR0.1 x7_1 p109 q109; cases e109; replace p109 := eq_true p109; replace q109 := eq_true q109; go_wp2_with (((with_reducible refine zk (f := 53) rfl ?_); refine zt (some 13) rfl rfl Try.func53 (by kernel_rfl) rfl #[.int .i64 (rd l0 x7_1)] rfl (by (try simp only [kk, kv, kh]); rfl) ?_; (with_reducible refine (impl_isValue.calls (rd l0 x7_1) true _ A5.1).mono ?_); rintro e w' ⟨rfl, ⟨nd, rfl⟩⟩; refine ⟨_, rfl, ?_⟩; have p111 : 0 ≤ ((ji8) : Int) := of_decide_eq_true (by (with_reducible assumption)); have q111 : (ji8) < (l0.length : Int) := of_decide_eq_true (by (with_reducible assumption)); obtain ⟨ad111, e111, hx111_0⟩ := zq HR0.1 (ji8) p111 q111; obtain rfl : ad109 = ad111 := (by injection e111); replace p111 := eq_true p111; replace q111 := eq_true q111)); go_roundg k1; case measure => have := HK1.1; omega
           case rel => exact ⟨(wrap64 (x7_1 + 1)), (by rfl), H', ⟨by have := HK1.1; omega⟩, by repeat (first | exact zi _ | apply zh)⟩
         · rw [if_neg c10] at H; exact absurd H (by simp)
        · rw [if_neg c9] at H; exact absurd H (by simp)
       ·
        rw [if_neg c7] at H; have c7b0 := decide_eq_false c7; clear c7; have H' := kz H; clear H; have p109 : 0 ≤ (x7_1 : Int) := of_decide_eq_true (by (with_reducible assumption)); have q109 : x7_1 < (l0.length : Int) := of_decide_eq_true (by (with_reducible assumption)); obtain ⟨ad109, e109, hx109_0⟩ := zq HR0.1 x7_1 p109 q109; cases e109; replace p109 := eq_true p109; replace q109 := eq_true q109; go_wp2_with (((with_reducible refine zk (f := 53) rfl ?_); refine zt (some 13) rfl rfl Try.func53 (by kernel_rfl) rfl #[.int .i64 (rd l0 x7_1)] rfl (by (try simp only [kk, kv, kh]); rfl) ?_; (with_reducible refine (impl_isValue.calls (rd l0 x7_1) true _ A5.1).mono ?_); rintro e w' ⟨rfl, ⟨nd, rfl⟩⟩; refine ⟨_, rfl, ?_⟩)); go_roundg k1; case measure => have := HK1.1; omega
        case rel => exact ⟨(wrap64 (x7_1 + 1)), (by rfl), H', ⟨by have := HK1.1; omega⟩, by repeat (first | exact zi _ | apply zh)⟩
      ·
       replace c6 := kg.mpr c6; subst c6; rw [if_neg (show ¬ (false = true) by decide)] at H; obtain rfl := kj H; have p109 : 0 ≤ (x7_1 : Int) := of_decide_eq_true (by (with_reducible assumption)); have q109 : x7_1 < (l0.length : Int) := of_decide_eq_true (by (with_reducible assumption)); obtain ⟨ad109, e109, hx109_0⟩ := zq HR0.1 x7_1 p109 q109; cases e109; replace p109 := eq_true p109; replace q109 := eq_true q109; go_wp2_with (((with_reducible refine zk (f := 53) rfl ?_); refine zt (some 13) rfl rfl Try.func53 (by kernel_rfl) rfl #[.int .i64 (rd l0 x7_1)] rfl (by (try simp only [kk, kv, kh]); rfl) ?_; (with_reducible refine (impl_isValue.calls (rd l0 x7_1) false _ A5.1).mono ?_); rintro e w' ⟨rfl, ⟨nd, rfl⟩⟩; refine ⟨_, rfl, ?_⟩)); go_ret; exact ⟨by rfl, by repeat (first | exact zi _ | apply zh)⟩
     · rw [if_neg c4] at H; exact absurd H (by simp)
    · rw [if_neg c3] at H; exact absurd H (by simp)
   · rw [if_neg c2] at H; have c2b0 := decide_eq_false c2; clear c2; obtain rfl := kj H; go_wp2; go_ret; exact ⟨by rfl, by repeat (first | exact zi _ | apply zh)⟩
/-! ### impl_GoodAttrs: function 15 -/
def impl_GoodAttrs.f (k : Nat) (a0_0 : Int) (l0_1 : List Int) (a0_2 : Int) (a0_3 : Int) (a0_4 : Int) (l0_5 : List Int) : Option (Bool) := (impl_within.f a0_0 0 2).bind fun t113 => (if t113 = true then ((impl_isPath.f k l0_1).bind fun t114 => (if t114 = true then ((impl_isAddr.f a0_2).bind fun t115 => (if t115 = true then ((impl_isValue.f a0_3).bind fun t116 => (if t116 = true then ((impl_isValue.f a0_4).bind fun t117 => (if t117 = true then ((impl_areComms.f k l0_5).bind fun t118 => (some t118)) else (some false))) else (some false))) else (some false))) else (some false))) else (some false))
theorem impl_GoodAttrs.calls (k : Nat) (a0_0 : Int) (A0_1 : Option Addr) (c0_1 : Nat) (l0_1 : List Int) (a0_2 : Int) (a0_3 : Int) (a0_4 : Int) (A0_5 : Option Addr) (c0_5 : Nat) (l0_5 : List Int) (r : Bool) (w : World) (hr0_1 : Kd.C (zx .i64) w A0_1 l0_1.length l0_1) (hc0_1 : l0_1.length ≤ c0_1) (hr0_5 : Kd.C (zx .i64) w A0_5 l0_5.length l0_5) (hc0_5 : l0_5.length ≤ c0_5) (h : impl_GoodAttrs.f k a0_0 l0_1 a0_2 a0_3 a0_4 l0_5 = some r) :
  Calls kb 15 #[.agg #[.int .i64 a0_0, .slice A0_1 l0_1.length c0_1, .int .i64 a0_2, .int .i64 a0_3, .int .i64 a0_4, .slice A0_5 l0_5.length c0_5]] w fun e w' => e = .returned (.bool r) ∧ Below w.heap.size w w' := by
 have hu27 := Try.underlying27; have zE := kz hr0_1; have HC0_1 := kz hc0_1; clear hr0_1 hc0_1; have HR0_5 := kz hr0_5; have HC0_5 := kz hc0_5; clear hr0_5 hc0_5; have HB := kz (Below.refl w.heap.size w); have H : ((impl_within.f a0_0 0 2).bind fun t113 => (if t113 = true then ((impl_isPath.f k l0_1).bind fun t114 => (if t114 = true then ((impl_isAddr.f a0_2).bind fun t115 => (if t115 = true then ((impl_isValue.f a0_3).bind fun t116 => (if t116 = true then ((impl_isValue.f a0_4).bind fun t117 => (if t117 = true then ((impl_areComms.f k l0_5).bind fun t118 => (some t118)) else (some false))) else (some false))) else (some false))) else (some false))) else (some false))) = some r := h; clear h; replace H := ky.mp H; obtain ⟨t113, A20, H⟩ := H; have A2 := kz A20; clear A20; by_cases c3 : t113 = true
 ·
  subst c3; rw [if_pos rfl] at H; replace H := ky.mp H; obtain ⟨t114, A40, H⟩ := H; have A4 := kz A40; clear A40; by_cases c5 : t114 = true
  ·
   subst c5; rw [if_pos rfl] at H; replace H := ky.mp H; obtain ⟨t115, A60, H⟩ := H; have A6 := kz A60; clear A60; by_cases c7 : t115 = true
   ·
    subst c7; rw [if_pos rfl] at H; replace H := ky.mp H; obtain ⟨t116, A80, H⟩ := H; have A8 := kz A80; clear A80; by_cases c9 : t116 = true
    ·
     subst c9; rw [if_pos rfl] at H; replace H := ky.mp H; obtain ⟨t117, A100, H⟩ := H; have A10 := kz A100; clear A100; by_cases c11 : t117 = true
     ·
      subst c11; rw [if_pos rfl] at H; replace H := ky.mp H; obtain ⟨t118, A120, H⟩ := H; have A12 := kz A120; clear A120; obtain rfl := kj H; go_enter kc, kd; go_wp2_with (first | ((with_reducible refine zo (N := 1) rfl ?_); refine zn ?hg (N := 1) ?hd (cs := #[.int .i64 a0_0, .slice A0_1 l0_1.length c0_1, .int .i64 a0_2, .int .i64 a0_3, .int .i64 a0_4, .slice A0_5 l0_5.length c0_5]) (t := 27) ?hr ?_; (case hd => rfl); (case hg => rfl); (case hr => (go_simp; done)); intro gb112 hg w13 hbox hb; replace HB := kz (zg HB.1 hb); have zz := kz hbox; clear hb hbox hg; have hcz14_0 := bc6 zz.1) | ((with_reducible refine zk (f := 50) rfl ?_); refine zt (some 5) rfl rfl ke (by kernel_rfl) rfl #[.int .i64 a0_0, .int .i64 0, .int .i64 2] rfl (by (try simp only [kk, kv, kh]); rfl) ?_; (with_reducible refine (impl_within.calls a0_0 0 2 true _ A2.1).mono ?_); rintro e w' ⟨rfl, ⟨nd, rfl⟩⟩; refine ⟨_, rfl, ?_⟩) | (go_at_call 51; (with_reducible refine (impl_isPath.calls k _ _ l0_1 true _ ?side1 ?side2 A4.1).mono ?_); (case side1 => repeat (exact (Kd.C_below zE.1 (by repeat ((with_reducible first | exact HB.1 | apply za)))))); (case side2 => exact HC0_1.1); rintro e w15 ⟨rfl, hb⟩; replace zz := kz (blk_below (g := gb112) (o := .cells #[.int .i64 a0_0, .slice A0_1 l0_1.length c0_1, .int .i64 a0_2, .int .i64 a0_3, .int .i64 a0_4, .slice A0_5 l0_5.length c0_5] 27 (0, 0)) (by (with_reducible repeat (refine blk_drewN ?_ _)); exact zz.1) hb); replace HB := kz (zg (by repeat ((with_reducible first | exact HB.1 | apply za))) hb); have hcz16_0 := bc6 zz.1) | (go_at_call 52; (with_reducible refine (impl_isAddr.calls a0_2 true _ A6.1).mono ?_); rintro e w' ⟨rfl, ⟨nd, rfl⟩⟩) | (go_at_call 53; (with_reducible refine (impl_isValue.calls a0_3 true _ A8.1).mono ?_); rintro e w' ⟨rfl, ⟨nd, rfl⟩⟩) | (go_at_call 53; (with_reducible refine (impl_isValue.calls a0_4 true _ A10.1).mono ?_); rintro e w' ⟨rfl, ⟨nd, rfl⟩⟩) | (go_at_call 54; (with_reducible refine (impl_areComms.calls k _ _ l0_5 t118 _ ?side1 ?side2 A12.1).mono ?_); (case side1 => repeat (exact (Kd.C_below HR0_5.1 (by repeat ((with_reducible first | exact HB.1 | apply za)))))); (case side2 => exact HC0_5.1); rintro e w' ⟨rfl, ⟨nd, rfl⟩⟩)); go_ret; exact ⟨by rfl, by repeat ((with_reducible first | exact HB.1 | apply za))⟩
     ·
      replace c11 := kg.mpr c11; subst c11; rw [if_neg (show ¬ (false = true) by decide)] at H; obtain rfl := kj H; go_enter kc, kd; go_wp2_with (first | ((with_reducible refine zo (N := 1) rfl ?_); refine zn ?hg (N := 1) ?hd (cs := #[.int .i64 a0_0, .slice A0_1 l0_1.length c0_1, .int .i64 a0_2, .int .i64 a0_3, .int .i64 a0_4, .slice A0_5 l0_5.length c0_5]) (t := 27) ?hr ?_; (case hd => rfl); (case hg => rfl); (case hr => (go_simp; done)); intro gb112 hg w17 hbox hb; replace HB := kz (zg HB.1 hb); have zz := kz hbox; clear hb hbox hg; have hcz18_0 := bc6 zz.1) | ((with_reducible refine zk (f := 50) rfl ?_); refine zt (some 5) rfl rfl ke (by kernel_rfl) rfl #[.int .i64 a0_0, .int .i64 0, .int .i64 2] rfl (by (try simp only [kk, kv, kh]); rfl) ?_; (with_reducible refine (impl_within.calls a0_0 0 2 true _ A2.1).mono ?_); rintro e w' ⟨rfl, ⟨nd, rfl⟩⟩; refine ⟨_, rfl, ?_⟩) | (go_at_call 51; (with_reducible refine (impl_isPath.calls k _ _ l0_1 true _ ?side1 ?side2 A4.1).mono ?_); (case side1 => repeat (exact (Kd.C_below zE.1 (by repeat ((with_reducible first | exact HB.1 | apply za)))))); (case side2 => exact HC0_1.1); rintro e w19 ⟨rfl, hb⟩; replace zz := kz (blk_below (g := gb112) (o := .cells #[.int .i64 a0_0, .slice A0_1 l0_1.length c0_1, .int .i64 a0_2, .int .i64 a0_3, .int .i64 a0_4, .slice A0_5 l0_5.length c0_5] 27 (0, 0)) (by (with_reducible repeat (refine blk_drewN ?_ _)); exact zz.1) hb); replace HB := kz (zg (by repeat ((with_reducible first | exact HB.1 | apply za))) hb); have hcz20_0 := bc6 zz.1) | (go_at_call 52; (with_reducible refine (impl_isAddr.calls a0_2 true _ A6.1).mono ?_); rintro e w' ⟨rfl, ⟨nd, rfl⟩⟩) | (go_at_call 53; (with_reducible refine (impl_isValue.calls a0_3 true _ A8.1).mono ?_); rintro e w' ⟨rfl, ⟨nd, rfl⟩⟩) | (go_at_call 53; (with_reducible refine (impl_isValue.calls a0_4 false _ A10.1).mono ?_); rintro e w' ⟨rfl, ⟨nd, rfl⟩⟩)); go_ret; exact ⟨by rfl, by repeat ((with_reducible first | exact HB.1 | apply za))⟩
    ·
     replace c9 := kg.mpr c9; subst c9; rw [if_neg (show ¬ (false = true) by decide)] at H; obtain rfl := kj H; go_enter kc, kd; go_wp2_with (first | ((with_reducible refine zo (N := 1) rfl ?_); refine zn ?hg (N := 1) ?hd (cs := #[.int .i64 a0_0, .slice A0_1 l0_1.length c0_1, .int .i64 a0_2, .int .i64 a0_3, .int .i64 a0_4, .slice A0_5 l0_5.length c0_5]) (t := 27) ?hr ?_; (case hd => rfl); (case hg => rfl); (case hr => (go_simp; done)); intro gb112 hg w21 hbox hb; replace HB := kz (zg HB.1 hb); have zz := kz hbox; clear hb hbox hg; have hcz22_0 := bc6 zz.1) | ((with_reducible refine zk (f := 50) rfl ?_); refine zt (some 5) rfl rfl ke (by kernel_rfl) rfl #[.int .i64 a0_0, .int .i64 0, .int .i64 2] rfl (by (try simp only [kk, kv, kh]); rfl) ?_; (with_reducible refine (impl_within.calls a0_0 0 2 true _ A2.1).mono ?_); rintro e w' ⟨rfl, ⟨nd, rfl⟩⟩; refine ⟨_, rfl, ?_⟩) | (go_at_call 51; (with_reducible refine (impl_isPath.calls k _ _ l0_1 true _ ?side1 ?side2 A4.1).mono ?_); (case side1 => repeat (exact (Kd.C_below zE.1 (by repeat ((with_reducible first | exact HB.1 | apply za)))))); (case side2 => exact HC0_1.1); rintro e w23 ⟨rfl, hb⟩; replace zz := kz (blk_below (g := gb112) (o := .cells #[.int .i64 a0_0, .slice A0_1 l0_1.length c0_1, .int .i64 a0_2, .int .i64 a0_3, .int .i64 a0_4, .slice A0_5 l0_5.length c0_5] 27 (0, 0)) (by (with_reducible repeat (refine blk_drewN ?_ _)); exact zz.1) hb); replace HB := kz (zg (by repeat ((with_reducible first | exact HB.1 | apply za))) hb); have hcz24_0 := bc6 zz.1) | (go_at_call 52; (with_reducible refine (impl_isAddr.calls a0_2 true _ A6.1).mono ?_); rintro e w' ⟨rfl, ⟨nd, rfl⟩⟩) | (go_at_call 53; (with_reducible refine (impl_isValue.calls a0_3 false _ A8.1).mono ?_); rintro e w' ⟨rfl, ⟨nd, rfl⟩⟩)); go_ret; exact ⟨by rfl, by repeat ((with_reducible first | exact HB.1 | apply za))⟩
   ·
    replace c7 := kg.mpr c7; subst c7; rw [if_neg (show ¬ (false = true) by decide)] at H; obtain rfl := kj H; go_enter kc, kd; go_wp2_with (first | ((with_reducible refine zo (N := 1) rfl ?_); refine zn ?hg (N := 1) ?hd (cs := #[.int .i64 a0_0, .slice A0_1 l0_1.length c0_1, .int .i64 a0_2, .int .i64 a0_3, .int .i64 a0_4, .slice A0_5 l0_5.length c0_5]) (t := 27) ?hr ?_; (case hd => rfl); (case hg => rfl); (case hr => (go_simp; done)); intro gb112 hg w25 hbox hb; replace HB := kz (zg HB.1 hb); have zz := kz hbox; clear hb hbox hg; have hcz26_0 := bc6 zz.1) | ((with_reducible refine zk (f := 50) rfl ?_); refine zt (some 5) rfl rfl ke (by kernel_rfl) rfl #[.int .i64 a0_0, .int .i64 0, .int .i64 2] rfl (by (try simp only [kk, kv, kh]); rfl) ?_; (with_reducible refine (impl_within.calls a0_0 0 2 true _ A2.1).mono ?_); rintro e w' ⟨rfl, ⟨nd, rfl⟩⟩; refine ⟨_, rfl, ?_⟩) | (go_at_call 51; (with_reducible refine (impl_isPath.calls k _ _ l0_1 true _ ?side1 ?side2 A4.1).mono ?_); (case side1 => repeat (exact (Kd.C_below zE.1 (by repeat ((with_reducible first | exact HB.1 | apply za)))))); (case side2 => exact HC0_1.1); rintro e w27 ⟨rfl, hb⟩; replace zz := kz (blk_below (g := gb112) (o := .cells #[.int .i64 a0_0, .slice A0_1 l0_1.length c0_1, .int .i64 a0_2, .int .i64 a0_3, .int .i64 a0_4, .slice A0_5 l0_5.length c0_5] 27 (0, 0)) (by (with_reducible repeat (refine blk_drewN ?_ _)); exact zz.1) hb); replace HB := kz (zg (by repeat ((with_reducible first | exact HB.1 | apply za))) hb); have hcz28_0 := bc6 zz.1) | (go_at_call 52; (with_reducible refine (impl_isAddr.calls a0_2 false _ A6.1).mono ?_); rintro e w' ⟨rfl, ⟨nd, rfl⟩⟩)); go_ret; exact ⟨by rfl, by repeat ((with_reducible first | exact HB.1 | apply za))⟩
  ·
   replace c5 := kg.mpr c5; subst c5; rw [if_neg (show ¬ (false = true) by decide)] at H; obtain rfl := kj H; go_enter kc, kd; go_wp2_with (first | ((with_reducible refine zo (N := 1) rfl ?_); refine zn ?hg (N := 1) ?hd (cs := #[.int .i64 a0_0, .slice A0_1 l0_1.length c0_1, .int .i64 a0_2, .int .i64 a0_3, .int .i64 a0_4, .slice A0_5 l0_5.length c0_5]) (t := 27) ?hr ?_; (case hd => rfl); (case hg => rfl); (case hr => (go_simp; done)); intro gb112 hg w29 hbox hb; replace HB := kz (zg HB.1 hb); have zz := kz hbox; clear hb hbox hg; have hcz30_0 := bc6 zz.1) | ((with_reducible refine zk (f := 50) rfl ?_); refine zt (some 5) rfl rfl ke (by kernel_rfl) rfl #[.int .i64 a0_0, .int .i64 0, .int .i64 2] rfl (by (try simp only [kk, kv, kh]); rfl) ?_; (with_reducible refine (impl_within.calls a0_0 0 2 true _ A2.1).mono ?_); rintro e w' ⟨rfl, ⟨nd, rfl⟩⟩; refine ⟨_, rfl, ?_⟩) | (go_at_call 51; (with_reducible refine (impl_isPath.calls k _ _ l0_1 false _ ?side1 ?side2 A4.1).mono ?_); (case side1 => repeat (exact (Kd.C_below zE.1 (by repeat ((with_reducible first | exact HB.1 | apply za)))))); (case side2 => exact HC0_1.1); rintro e w31 ⟨rfl, hb⟩; replace zz := kz (blk_below (g := gb112) (o := .cells #[.int .i64 a0_0, .slice A0_1 l0_1.length c0_1, .int .i64 a0_2, .int .i64 a0_3, .int .i64 a0_4, .slice A0_5 l0_5.length c0_5] 27 (0, 0)) (by (with_reducible repeat (refine blk_drewN ?_ _)); exact zz.1) hb); replace HB := kz (zg (by repeat ((with_reducible first | exact HB.1 | apply za))) hb); (try clear hi))); go_ret; exact ⟨by rfl, by exact HB.1⟩
 ·
  replace c3 := kg.mpr c3; subst c3; rw [if_neg (show ¬ (false = true) by decide)] at H; obtain rfl := kj H; go_enter kc, kd; go_wp2_with (first | ((with_reducible refine zo (N := 1) rfl ?_); refine zn ?hg (N := 1) ?hd (cs := #[.int .i64 a0_0, .slice A0_1 l0_1.length c0_1, .int .i64 a0_2, .int .i64 a0_3, .int .i64 a0_4, .slice A0_5 l0_5.length c0_5]) (t := 27) ?hr ?_; (case hd => rfl); (case hg => rfl); (case hr => (go_simp; done)); intro gb112 hg w32 hbox hb; replace HB := kz (zg HB.1 hb); have zz := kz hbox; clear hb hbox hg; have hcz33_0 := bc6 zz.1) | ((with_reducible refine zk (f := 50) rfl ?_); refine zt (some 5) rfl rfl ke (by kernel_rfl) rfl #[.int .i64 a0_0, .int .i64 0, .int .i64 2] rfl (by (try simp only [kk, kv, kh]); rfl) ?_; (with_reducible refine (impl_within.calls a0_0 0 2 false _ A2.1).mono ?_); rintro e w' ⟨rfl, ⟨nd, rfl⟩⟩; refine ⟨_, rfl, ?_⟩)); go_ret; exact ⟨by rfl, by repeat ((with_reducible first | exact HB.1 | apply za))⟩
/-! ### impl_sizeOf: function 103 -/
def impl_sizeOf.f (a0 : Int) : Option (Int) := if 0 ≤ (wrap64 (32 - a0)) then (some (shl .i64 1 (wrap64 (32 - a0)))) else (none)
theorem impl_sizeOf.calls (a0 : Int) (r : Int) (w : World) (h : impl_sizeOf.f a0 = some r) :
  Calls kb 103 #[.int .i64 a0] w fun e w' => e = .returned (.int .i64 r) ∧ zw w w' := by
 have H : (if 0 ≤ (wrap64 (32 - a0)) then (some (shl .i64 1 (wrap64 (32 - a0)))) else (none)) = some r := h; clear h; obtain ⟨ji2, hji2⟩ : ∃ j_ : Int, (wrap64 (32 - a0)) = j_ := ⟨_, rfl⟩
 replace H : (if 0 ≤ (ji2) then (some (shl .i64 1 (ji2))) else (none)) = some r := by (rw [hji2] at H; exact H)
 have hji2w : (IntKind.i64.wrap (32 - a0)) = ji2 := (i64_w _).trans hji2; by_cases c3 : 0 ≤ (ji2)
 ·
  rw [if_pos c3] at H; have c3b0 := eq_true c3; have c3b1 : decide (0 ≤ (ji2)) = true := decide_eq_true c3; clear c3; obtain ⟨ji4, hji4⟩ : ∃ j_ : Int, (shl .i64 1 (ji2)) = j_ := ⟨_, rfl⟩
  replace H : (some ji4) = some r := by (rw [hji4] at H; exact H)
  have hji4_ : (IntKind.i64.wrap (1 * 2 ^ min (ji2).toNat 64)) = ji4 := hji4; have hji4z : (ji2) ≤ 64 → (IntKind.i64.wrap (1 * 2 ^ (ji2).toNat)) = ji4 := shl_small hji4; have hji4u : (IntKind.i64.wrap (2 ^ min (ji2).toNat 64)) = ji4 := by have h_ := hji4_; rw [Int.one_mul] at h_; exact h_
  have hji4v : (ji2) ≤ 64 → (IntKind.i64.wrap (2 ^ (ji2).toNat)) = ji4 := fun hle_ => by have h_ := hji4z hle_; rw [Int.one_mul] at h_; exact h_
  have hji4y : (wrap64 (1 * 2 ^ min (ji2).toNat 64)) = ji4 := (i64_w _).symm.trans hji4_; have hji4x : (ji2) ≤ 64 → (wrap64 (1 * 2 ^ (ji2).toNat)) = ji4 := fun h_ => (i64_w _).symm.trans (hji4z h_)
  obtain rfl := kj H; go_enter Try.func103, Try.ntmps103; go_wp2; go_ret; exact ⟨by rfl, by repeat (exact zi _)⟩
 · rw [if_neg c3] at H; exact absurd H (by simp)
/-! ### impl_GoodPrefix: function 58 -/
def impl_GoodPrefix.f (a0_0 : Int) (a0_1 : Int) : Option (Bool) := (impl_within.f a0_1 0 32).bind fun t120 => (if t120 = true then ((impl_isAddr.f a0_0).bind fun t121 => (if t121 = true then ((impl_sizeOf.f a0_1).bind fun t122 => (if t122 = 0 then (none) else (some ((ko a0_0 t122) == 0)))) else (some false))) else (some false))
theorem impl_GoodPrefix.calls (a0_0 : Int) (a0_1 : Int) (r : Bool) (w : World) (h : impl_GoodPrefix.f a0_0 a0_1 = some r) :
  Calls kb 58 #[.agg #[.int .i64 a0_0, .int .i64 a0_1]] w fun e w' => e = .returned (.bool r) ∧ Below w.heap.size w w' := by
 have hu35 := Try.underlying35; have HB := kz (Below.refl w.heap.size w); have H : ((impl_within.f a0_1 0 32).bind fun t120 => (if t120 = true then ((impl_isAddr.f a0_0).bind fun t121 => (if t121 = true then ((impl_sizeOf.f a0_1).bind fun t122 => (if t122 = 0 then (none) else (some ((ko a0_0 t122) == 0)))) else (some false))) else (some false))) = some r := h; clear h; replace H := ky.mp H; obtain ⟨t120, A20, H⟩ := H; have A2 := kz A20; clear A20; by_cases c3 : t120 = true
 ·
  subst c3; rw [if_pos rfl] at H; replace H := ky.mp H; obtain ⟨t121, A40, H⟩ := H; have A4 := kz A40; clear A40; by_cases c5 : t121 = true
  ·
   subst c5; rw [if_pos rfl] at H; replace H := ky.mp H; obtain ⟨t122, A60, H⟩ := H; have A6 := kz A60; clear A60; by_cases c7 : t122 = 0; · rw [if_pos c7] at H; exact absurd H (by simp)
   ·
    rw [if_neg c7] at H; have c7b0 : (t122 == 0) = false := beq_eq_false_iff_ne.mpr c7; have c7b1 : (t122 != 0) = true := bne_iff_ne.mpr c7; obtain rfl := kj H; go_enter Try.func58, Try.ntmps58; go_wp2_with (((with_reducible refine zo (N := 1) rfl ?_); refine zn ?hg (N := 1) ?hd (cs := #[.int .i64 a0_0, .int .i64 a0_1]) (t := 35) ?hr ?_; (case hd => rfl); (case hg => rfl); (case hr => (go_simp; done)); intro gb119 hg w8 hbox hb; replace HB := kz (zg HB.1 hb); have zA := kz hbox; clear hb hbox hg; have hcz9_0 := bc2 zA.1)); repeat (go_quiet (first | (go_at_call 50; (with_reducible refine (impl_within.calls a0_1 0 32 true _ A2.1).mono ?_); rintro e w' ⟨rfl, ⟨nd, rfl⟩⟩; (try exact ⟨rfl, _, kf _ _ _⟩)) | (go_at_call 52; (with_reducible refine (impl_isAddr.calls a0_0 true _ A4.1).mono ?_); rintro e w' ⟨rfl, ⟨nd, rfl⟩⟩; (try exact ⟨rfl, _, kf _ _ _⟩)) | (go_at_call 103; (with_reducible refine (impl_sizeOf.calls a0_1 t122 _ A6.1).mono ?_); rintro e w' ⟨rfl, ⟨nd, rfl⟩⟩; (try exact ⟨rfl, _, kf _ _ _⟩))); try go_wp2_with (fail))
    go_ret; exact ⟨by rfl, by repeat ((with_reducible first | exact HB.1 | apply za))⟩
  ·
   replace c5 := kg.mpr c5; subst c5; rw [if_neg (show ¬ (false = true) by decide)] at H; obtain rfl := kj H; go_enter Try.func58, Try.ntmps58; go_wp2_with (((with_reducible refine zo (N := 1) rfl ?_); refine zn ?hg (N := 1) ?hd (cs := #[.int .i64 a0_0, .int .i64 a0_1]) (t := 35) ?hr ?_; (case hd => rfl); (case hg => rfl); (case hr => (go_simp; done)); intro gb119 hg w10 hbox hb; replace HB := kz (zg HB.1 hb); have zA := kz hbox; clear hb hbox hg; have hcz11_0 := bc2 zA.1)); repeat (go_quiet (first | (go_at_call 50; (with_reducible refine (impl_within.calls a0_1 0 32 true _ A2.1).mono ?_); rintro e w' ⟨rfl, ⟨nd, rfl⟩⟩; (try exact ⟨rfl, _, kf _ _ _⟩)) | (go_at_call 52; (with_reducible refine (impl_isAddr.calls a0_0 false _ A4.1).mono ?_); rintro e w' ⟨rfl, ⟨nd, rfl⟩⟩; (try exact ⟨rfl, _, kf _ _ _⟩))); try go_wp2_with (fail))
   go_ret; exact ⟨by rfl, by repeat ((with_reducible first | exact HB.1 | apply za))⟩
 ·
  replace c3 := kg.mpr c3; subst c3; rw [if_neg (show ¬ (false = true) by decide)] at H; obtain rfl := kj H; go_enter Try.func58, Try.ntmps58; go_wp2_with (((with_reducible refine zo (N := 1) rfl ?_); refine zn ?hg (N := 1) ?hd (cs := #[.int .i64 a0_0, .int .i64 a0_1]) (t := 35) ?hr ?_; (case hd => rfl); (case hg => rfl); (case hr => (go_simp; done)); intro gb119 hg w12 hbox hb; replace HB := kz (zg HB.1 hb); have zA := kz hbox; clear hb hbox hg; have hcz13_0 := bc2 zA.1)); repeat (go_quiet ((go_at_call 50; (with_reducible refine (impl_within.calls a0_1 0 32 false _ A2.1).mono ?_); rintro e w' ⟨rfl, ⟨nd, rfl⟩⟩; (try exact ⟨rfl, _, kf _ _ _⟩))); try go_wp2_with (fail))
  go_ret; exact ⟨by rfl, by repeat ((with_reducible first | exact HB.1 | apply za))⟩
/-! ### cmp_Or_int: function 122 -/
def cmp_Or_int.l0 : Nat → Int → List Int → Int → Int → Option (Int)
 | 0, _, _, _, _ => none
 | k + 1, x3, x6, x7, x8 => if x8 < x7 then (if 0 ≤ x8 then (if x8 < (x6.length : Int) then (if (rd x6 x8) = x3 then (cmp_Or_int.l0 k x3 x6 x7 (wrap64 (x8 + 1))) else (some (rd x6 x8))) else (none)) else (none)) else (some x3)
def cmp_Or_int.f (k : Nat) (l0 : List Int) : Option (Int) := cmp_Or_int.l0 k 0 l0 (l0.length : Int) 0
theorem cmp_Or_int.calls (k : Nat) (A0 : Option Addr) (c0 : Nat) (l0 : List Int) (r : Int) (w : World) (hr0 : Kd.C (zx .i64) w A0 l0.length l0) (hc0 : l0.length ≤ c0) (h : cmp_Or_int.f k l0 = some r) :
  Calls kb 122 #[.slice A0 l0.length c0] w fun e w' => e = .returned (.int .i64 r) ∧ zw w w' := by
 have HR0 := kz hr0; have HC0 := kz hc0; clear hr0 hc0; have H : (cmp_Or_int.l0 k 0 l0 (l0.length : Int) 0) = some r := h; clear h; have H' := kz H; clear H; go_enter Try.func122, Try.ntmps122; go_wp2; go_loopg [8] k (fun kq v8 w' => ∃ (x8_1 : Int), v8 = .int .i64 x8_1 ∧ zy (cmp_Or_int.l0 kq 0 l0 (l0.length : Int) x8_1 = some r) ∧ zy (kq ≤ k) ∧ zw w w'); case atStart => exact ⟨(0), (by rfl), H', ⟨Nat.le_refl _⟩, by repeat (exact zi _)⟩
 case round =>
  clear H'; obtain ⟨x8_1, rfl, HA, HK1, ⟨m1, rfl⟩⟩ := hrel; cases gk with
  | zero => exact absurd HA.1 (by simp [cmp_Or_int.l0])
  | succ k1 =>
   have H := HA.1; clear HA; simp only [cmp_Or_int.l0] at H; by_cases c2 : x8_1 < (l0.length : Int)
   ·
    rw [if_pos c2] at H; have c2b0 := decide_eq_true c2; clear c2; by_cases c3 : 0 ≤ x8_1
    ·
     rw [if_pos c3] at H; have c3b0 := decide_eq_true c3; clear c3; by_cases c4 : x8_1 < (l0.length : Int)
     ·
      rw [if_pos c4] at H; have c4b0 := decide_eq_true c4; clear c4; by_cases c5 : (rd l0 x8_1) = 0
      ·
       rw [if_pos c5] at H; have c5b0 : ((rd l0 x8_1) == 0) = true := beq_iff_eq.mpr c5; have c5b1 : ((rd l0 x8_1) != 0) = false := bne_eq_false_iff_eq.mpr c5; clear c5; have H' := kz H; clear H; have p123 : 0 ≤ (x8_1 : Int) := of_decide_eq_true (by (with_reducible assumption)); have q123 : x8_1 < (l0.length : Int) := of_decide_eq_true (by (with_reducible assumption)); obtain ⟨ad123, e123, hx123_0⟩ := zq HR0.1 x8_1 p123 q123; cases e123; replace p123 := eq_true p123; replace q123 := eq_true q123; go_wp2; go_roundg k1; case measure => have := HK1.1; omega
       case rel => exact ⟨(wrap64 (x8_1 + 1)), (by rfl), H', ⟨by have := HK1.1; omega⟩, by repeat (first | exact zi _ | apply zh)⟩
      · rw [if_neg c5] at H; have c5b0 : ((rd l0 x8_1) == 0) = false := beq_eq_false_iff_ne.mpr c5; have c5b1 : ((rd l0 x8_1) != 0) = true := bne_iff_ne.mpr c5; obtain rfl := kj H; have p123 : 0 ≤ (x8_1 : Int) := of_decide_eq_true (by (with_reducible assumption)); have q123 : x8_1 < (l0.length : Int) := of_decide_eq_true (by (with_reducible assumption)); obtain ⟨ad123, e123, hx123_0⟩ := zq HR0.1 x8_1 p123 q123; cases e123; replace p123 := eq_true p123; replace q123 := eq_true q123; go_wp2; go_ret; exact ⟨by rfl, by repeat (first | exact zi _ | apply zh)⟩
     · rw [if_neg c4] at H; exact absurd H (by simp)
    · rw [if_neg c3] at H; exact absurd H (by simp)
   · rw [if_neg c2] at H; have c2b0 := decide_eq_false c2; clear c2; obtain rfl := kj H; go_wp2; go_ret; exact ⟨by rfl, by repeat (first | exact zi _ | apply zh)⟩
/-! ### cmp_isNaN_int: function 125 -/
def cmp_isNaN_int.f (a0 : Int) : Option (Bool) := some (a0 != a0)
theorem cmp_isNaN_int.calls (a0 : Int) (r : Bool) (w : World) (h : cmp_isNaN_int.f a0 = some r) :
  Calls kb 125 #[.int .i64 a0] w fun e w' => e = .returned (.bool r) ∧ zw w w' := by
 have H : (some (a0 != a0)) = some r := h; clear h; obtain rfl := kj H; go_enter Try.func125, Try.ntmps125; go_wp2; go_ret; exact ⟨by rfl, by repeat (exact zi _)⟩
end Go.Proofs.Ytlnfcobloolnnaa.PFnUpdates
