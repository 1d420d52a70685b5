/- Go functions told by Lean functions, printed by a program. No condition but what each statement says. -/
import Derived.Test.YtakoaogbkajkcaaYFnTrieStepsx5
import Derived.Test.YtakoaogbkajkcaaYFnTrieStepsx7
namespace Go.Proofs.Ytakoaogbkajkcaa.PFnTrieSteps
open Go.RowKit Go.Proofs.YtakoaogbkajkcaaW.PrintWords Go.Proofs.YtakoaogbkajkcaaW.PrintLast Go.Proofs.YtakoaogbkajkcaaW.PrintMore
open Aside0 renaming mk → kz
open List renaming replicate → ky, setIfInBounds_toArray → kj, set_cons_zero → kk, set_cons_succ → kv, length_replicate → kh, map_toArray → kg, map_cons → kb, map_nil → kd
open Option renaming bind_eq_some_iff → kf
open Option.some renaming injEq → ke, inj → kx
open Try renaming underlying84 → kc, prog → km
open Act renaming put → ko
open Value renaming int → ku
open Bool renaming true → ks, false → kt
set_option maxHeartbeats 8000000
set_option maxRecDepth 100000
open Go.Proofs.YtakoaogbkajkcaaW.PrintLast renaming i64_w → zc, i32_w → zd, pure_ → ze
open Go.Proofs.YtakoaogbkajkcaaW.PrintWords renaming pw_below_drewN → za, below_drew1 → zb
attribute [local go_sem] max2_int min2_int max_two min_two max_three min_three max_four min_four
set_option linter.unusedVariables false
set_option linter.unusedSimpArgs false
/-! ### spec_TrieEntries: function 28 -/
def spec_TrieEntries.f (k : Nat) (l0 : List (S86)) : Option ((List (S39)) × Bool) := (spec_GoodTrie.f k l0).bind fun t157 => (if t157 = true then ((spec_l2Walk.f k l0 0 0 0 ([] : List (S39))).bind fun t158 => (some (t158, true))) else (some (([] : List (S39)), false)))
theorem spec_TrieEntries.calls (k : Nat) (A0 : Option Addr) (c0 : Nat) (l0 : List (S86)) (r1 : List (S39)) (r2 : Bool) (w : World) (hr0 : Kd.C k86 w A0 l0.length l0) (hc0 : l0.length ≤ c0) (h : spec_TrieEntries.f k l0 = some (r1, r2)) :
  Calls km 28 #[.slice A0 l0.length c0] w fun e w' => ∃ v0_ : Value, e = .returned (.tuple #[v0_, .bool r2]) ∧ Kd.R k39 39 w' w.heap.size (fun _ => True) v0_ r1 ∧ Below w.heap.size w w' := by
 have hu37 := Try.underlying37; have HR0 := kz hr0; have HC0 := kz hc0; clear hr0 hc0; have HB := kz (Below.refl w.heap.size w); have H : ((spec_GoodTrie.f k l0).bind fun t157 => (if t157 = true then ((spec_l2Walk.f k l0 0 0 0 ([] : List (S39))).bind fun t158 => (some (t158, true))) else (some (([] : List (S39)), false)))) = some (r1, r2) := h; clear h; replace H := kf.mp H; obtain ⟨t157, A20, H⟩ := H; replace H : (if t157 = true then ((spec_l2Walk.f k l0 0 0 0 ([] : List (S39))).bind fun t158 => (some (t158, true))) else (some (([] : List (S39)), false))) = some (r1, r2) := H; have A2 := kz A20; clear A20; by_cases c3 : t157 = true
 ·
  subst c3; have H1 : ((spec_l2Walk.f k l0 0 0 0 ([] : List (S39))).bind fun t158 => (some (t158, true))) = some (r1, r2) := by rw [if_pos rfl] at H; exact H
  clear H; have H := H1; clear H1; replace H := kf.mp H; obtain ⟨t158, A40, H⟩ := H; replace H : (some (t158, true)) = some (r1, r2) := H; have A4 := kz A40; clear A40; simp only [ke, Prod.mk.injEq] at H; obtain ⟨rfl, rfl⟩ := H; go_enter Try.func28, Try.ntmps28; go_wp2_with (first | ((with_reducible refine gate_callee (f := 19) rfl ?_); refine goesL_ (some 5) rfl rfl Try.func19 (by kernel_rfl) rfl #[.slice A0 l0.length c0] rfl (by (try simp only [kg, kb, kd]); rfl) ?_; (with_reducible refine (spec_GoodTrie.calls k _ _ l0 true _ ?side1 ?side2 A2.1).mono ?_); (case side1 => repeat (exact HR0.1)); (case side2 => exact HC0.1); rintro e w5 ⟨rfl, hb⟩; refine ⟨_, rfl, ?_⟩; replace HB := kz (below_step HB.1 hb)) | ((with_reducible refine gate_callee (f := 72) rfl ?_); refine goesL_ (some 9) rfl rfl Try.func72 (by kernel_rfl) rfl #[.slice A0 l0.length c0, .int .i64 0, .agg #[.int .i64 0, .int .i64 0], .slice none 0 0] rfl (by (try simp only [kg, kb, kd]); rfl) ?_; (refine (spec_l2Walk.calls k _ _ l0 0 0 0 (fun k_ => some k_ = (.slice none 0 0 : Value).ownBlock) (.slice none 0 0) ([] : List (S39)) t158 w _ ?side1 ?side2 ?side3 ?side4 A4.1).mono ?_); (case side1 => repeat (with_reducible exact HB.1)); (case side2 => exact Kd.C_kept_came k86_heap HR0.1 HB.1 (fun k_ hs_ => (fun e_ => by simp [Value.ownBlock] at e_) hs_)); (case side3 => exact HC0.1); (case side4 => exact Kd.R_nil _ _ _ _ _); rintro e w6 ⟨v159, rfl, ho0, hb, hkp⟩; refine ⟨_, rfl, ?_⟩; have HO160 := kz (Kd.R_mono (ok' := fun k_ => True) ho0 (fun k_ hk_ => trivial)); replace HB := kz hb)); go_ret2; exact ⟨_, by rfl, by exact HO160.1, by exact HB.1⟩
 ·
  replace c3 := Bool.eq_false_iff.mpr c3; subst c3; have H1 : (some (([] : List (S39)), false)) = some (r1, r2) := by rw [if_neg (show ¬ (false = true) by decide)] at H; exact H
  clear H; have H := H1; clear H1; simp only [ke, Prod.mk.injEq] at H; obtain ⟨rfl, rfl⟩ := H; go_enter Try.func28, Try.ntmps28; go_wp2_with (((with_reducible refine gate_callee (f := 19) rfl ?_); refine goesL_ (some 5) rfl rfl Try.func19 (by kernel_rfl) rfl #[.slice A0 l0.length c0] rfl (by (try simp only [kg, kb, kd]); rfl) ?_; (with_reducible refine (spec_GoodTrie.calls k _ _ l0 false _ ?side1 ?side2 A2.1).mono ?_); (case side1 => repeat (exact HR0.1)); (case side2 => exact HC0.1); rintro e w7 ⟨rfl, hb⟩; refine ⟨_, rfl, ?_⟩; replace HB := kz (below_step HB.1 hb))); go_ret2; exact ⟨_, by rfl, by exact Kd.R_nil _ _ _ _ _, by exact HB.1⟩
/-! ### impl_within: function 60 -/
def impl_within.f (a0 : Int) (a1 : Int) (a2 : Int) : Option (Bool) := if a0 ≥ a1 then (some (decide (a0 ≤ a2))) else (some false)
theorem impl_within.calls (a0 : Int) (a1 : Int) (a2 : Int) (r : Bool) (w : World) (h : impl_within.f a0 a1 a2 = some r) :
  Calls km 60 #[.int .i64 a0, .int .i64 a1, .int .i64 a2] w fun e w' => e = .returned (.bool r) ∧ Drawn0 w w' := by
 have H : (if a0 ≥ a1 then (some (decide (a0 ≤ a2))) else (some false)) = some r := h; clear h; by_cases c4 : a0 ≥ a1; · rw [if_pos c4] at H; have c4b0 : decide (a1 ≤ a0) = true := decide_eq_true c4; clear c4; obtain rfl := kx H; go_enter Try.func60, Try.ntmps60; go_wp2; go_ret; exact ⟨by rfl, by repeat (exact Drawn0.refl _)⟩
 · rw [if_neg c4] at H; have c4b0 : decide (a1 ≤ a0) = false := decide_eq_false c4; clear c4; obtain rfl := kx H; go_enter Try.func60, Try.ntmps60; go_wp2; go_ret; exact ⟨by rfl, by repeat (exact Drawn0.refl _)⟩
/-! ### impl_isValue: function 57 -/
def impl_isValue.f (a0 : Int) : Option (Bool) := (impl_within.f a0 0 1000000).bind fun t161 => (some t161)
theorem impl_isValue.calls (a0 : Int) (r : Bool) (w : World) (h : impl_isValue.f a0 = some r) :
  Calls km 57 #[.int .i64 a0] w fun e w' => e = .returned (.bool r) ∧ Drawn0 w w' := by
 have H : ((impl_within.f a0 0 1000000).bind fun t161 => (some t161)) = some r := h; clear h; replace H := kf.mp H; obtain ⟨t161, A20, H⟩ := H; replace H : (some t161) = some r := H; have A2 := kz A20; clear A20; obtain rfl := kx H; go_enter Try.func57, Try.ntmps57; go_wp2_with (((with_reducible refine gate_callee (f := 60) rfl ?_); refine goesL_ (some 4) rfl rfl Try.func60 (by kernel_rfl) rfl #[.int .i64 a0, .int .i64 0, .int .i64 1000000] rfl (by (try simp only [kg, kb, kd]); rfl) ?_; (with_reducible refine (impl_within.calls a0 0 1000000 t161 _ A2.1).mono ?_); rintro e w' ⟨rfl, ⟨nd, rfl⟩⟩; refine ⟨_, rfl, ?_⟩)); go_ret; exact ⟨by rfl, by repeat (first | exact Drawn0.refl _ | apply Drawn0.step)⟩
/-! ### bits_Mul32: function 103 -/
def bits_Mul32.f (a0 : Int) (a1 : Int) : Option (Int × Int) := some (((IntKind.u64.wrap ((IntKind.u64.wrap (a0)) * (IntKind.u64.wrap (a1)))) / 4294967296) % 4294967296, (IntKind.u64.wrap ((IntKind.u64.wrap (a0)) * (IntKind.u64.wrap (a1)))) % 4294967296)
/-! ### bits_Mul64: function 104 -/
def bits_Mul64.f (a0 : Int) (a1 : Int) : Option (Int × Int) := some (IntKind.u64.wrap ((IntKind.u64.wrap ((IntKind.u64.wrap ((a0 / 4294967296) * (a1 / 4294967296))) + ((IntKind.u64.wrap ((IntKind.u64.wrap ((a0 / 4294967296) * (Go.bits .and .u64 a1 4294967295))) + ((IntKind.u64.wrap ((Go.bits .and .u64 a0 4294967295) * (Go.bits .and .u64 a1 4294967295))) / 4294967296))) / 4294967296))) + ((IntKind.u64.wrap ((Go.bits .and .u64 (IntKind.u64.wrap ((IntKind.u64.wrap ((a0 / 4294967296) * (Go.bits .and .u64 a1 4294967295))) + ((IntKind.u64.wrap ((Go.bits .and .u64 a0 4294967295) * (Go.bits .and .u64 a1 4294967295))) / 4294967296))) 4294967295) + (IntKind.u64.wrap ((Go.bits .and .u64 a0 4294967295) * (a1 / 4294967296))))) / 4294967296)), IntKind.u64.wrap (a0 * a1))
theorem bits_Mul64.calls (a0 : Int) (a1 : Int) (r1 : Int) (r2 : Int) (w : World) (h : bits_Mul64.f a0 a1 = some (r1, r2)) :
  Calls km 104 #[.int .u64 a0, .int .u64 a1] w fun e w' => e = .returned (.tuple #[.int .u64 r1, .int .u64 r2]) ∧ Drawn0 w w' := by
 have H : (some (IntKind.u64.wrap ((IntKind.u64.wrap ((IntKind.u64.wrap ((a0 / 4294967296) * (a1 / 4294967296))) + ((IntKind.u64.wrap ((IntKind.u64.wrap ((a0 / 4294967296) * (Go.bits .and .u64 a1 4294967295))) + ((IntKind.u64.wrap ((Go.bits .and .u64 a0 4294967295) * (Go.bits .and .u64 a1 4294967295))) / 4294967296))) / 4294967296))) + ((IntKind.u64.wrap ((Go.bits .and .u64 (IntKind.u64.wrap ((IntKind.u64.wrap ((a0 / 4294967296) * (Go.bits .and .u64 a1 4294967295))) + ((IntKind.u64.wrap ((Go.bits .and .u64 a0 4294967295) * (Go.bits .and .u64 a1 4294967295))) / 4294967296))) 4294967295) + (IntKind.u64.wrap ((Go.bits .and .u64 a0 4294967295) * (a1 / 4294967296))))) / 4294967296)), IntKind.u64.wrap (a0 * a1))) = some (r1, r2) := h; clear h; simp only [ke, Prod.mk.injEq] at H; obtain ⟨rfl, rfl⟩ := H; go_enter Try.func104, Try.ntmps104; go_wp2; go_ret2; exact ⟨by rfl, by repeat (exact Drawn0.refl _)⟩
/-! ### bits_Mul: function 91 -/
def bits_Mul.f (a0 : Int) (a1 : Int) : Option (Int × Int) := (bits_Mul64.f a0 a1).bind fun bt162 => (some (bt162.1, bt162.2))
theorem bits_Mul.calls (a0 : Int) (a1 : Int) (r1 : Int) (r2 : Int) (w : World) (h : bits_Mul.f a0 a1 = some (r1, r2)) :
  Calls km 91 #[.int .u64 a0, .int .u64 a1] w fun e w' => e = .returned (.tuple #[.int .u64 r1, .int .u64 r2]) ∧ Drawn0 w w' := by
 have H : ((bits_Mul64.f a0 a1).bind fun bt162 => (some (bt162.1, bt162.2))) = some (r1, r2) := h; clear h; replace H := kf.mp H; obtain ⟨⟨t162, t163⟩, A30, H⟩ := H; replace H : (some (t162, t163)) = some (r1, r2) := H; have A3 := kz A30; clear A30; simp only [ke, Prod.mk.injEq] at H; obtain ⟨rfl, rfl⟩ := H; go_enter Try.func91, Try.ntmps91; go_wp2_with (((with_reducible refine gate_callee (f := 104) rfl ?_); refine goesL_ (some 25) rfl rfl Try.func104 (by kernel_rfl) rfl #[.int .u64 a0, .int .u64 a1] rfl (by (try simp only [kg, kb, kd]); rfl) ?_; (with_reducible refine (bits_Mul64.calls a0 a1 t162 t163 _ A3.1).mono ?_); rintro e w' ⟨rfl, ⟨nd, rfl⟩⟩; refine ⟨_, rfl, ?_⟩)); go_ret2; exact ⟨by rfl, by repeat (first | exact Drawn0.refl _ | apply Drawn0.step)⟩
theorem bits_Mul_one (c : Int) (h0 : 0 ≤ c) (h1 : c ≤ 17592186044416) : bits_Mul.f 1 c = some (0, c) := by
 have hw : ∀ x : Int, 0 ≤ x → x ≤ 9223372036854775807 → IntKind.u64.wrap x = x := fun x a b => by rw [IntKind.wrap_u64]; omega
 have e1 : Go.bits .and .u64 1 4294967295 = 1 := by
  rw [u64_and 1 4294967295 (by omega) (by omega) (by omega) (by omega)]; rfl
 have e2 : Go.bits .and .u64 c 4294967295 = c % 4294967296 := by
  rw [u64_and c 4294967295 (by omega) (by omega) (by omega) (by omega)]; have := Nat.and_two_pow_sub_one_eq_mod c.toNat 32; rw [show (4294967295 : Int).toNat = 2 ^ 32 - 1 from rfl, this]; omega
 have e3 : Go.bits .and .u64 0 4294967295 = 0 := by
  rw [u64_and 0 4294967295 (by omega) (by omega) (by omega) (by omega)]; rfl
 have d0 : (1 : Int) / 4294967296 = 0 := by omega
 unfold bits_Mul.f bits_Mul64.f; simp only [Option.bind_some]; rw [e1, e2, d0]; simp only [Int.zero_mul, Int.one_mul]; have w0 : IntKind.u64.wrap 0 = 0 := hw 0 (by omega) (by omega); rw [w0, hw (c % 4294967296) (by omega) (by omega), show c % 4294967296 / 4294967296 = 0 by omega]; simp only [Int.add_zero, Int.zero_add]; rw [w0, e3]; simp only [Int.zero_add]; rw [hw (c / 4294967296) (by omega) (by omega), hw (c / 4294967296) (by omega) (by omega), hw c (by omega) (by omega), show c / 4294967296 / 4294967296 = 0 by omega, show (0 : Int) / 4294967296 = 0 by omega]; simp only [Int.add_zero]; rw [w0, w0]
def slices_Repeat_int_int.f (l0 : List Int) (a1 : Int) : Option (List Int) := match l0 with
 | [a] => if 0 ≤ a1 then (if a1 ≤ 17592186044416 then some (ky a1.toNat a) else none) else none
 | _ => none
theorem slices_Repeat_int_int.calls (A0 : Option Addr) (c0 : Nat) (l0 : List Int) (a1 : Int) (r : List Int) (w : World) (hr0 : Kd.C (Kd.int .i64) w A0 l0.length l0) (hc0 : l0.length ≤ c0) (h : slices_Repeat_int_int.f l0 a1 = some r) :
  Calls km 61 #[.slice A0 l0.length c0, .int .i64 a1] w fun e w' => ∃ v0_ : Value, e = .returned (v0_) ∧ Kd.R (Kd.int .i64) 3 w' w.heap.size (fun _ => True) v0_ r ∧ Below w.heap.size w w' := by
 have huT := kc
 obtain ⟨a, rfl, h0, h1, rfl⟩ : ∃ a, l0 = [a] ∧ 0 ≤ a1 ∧ a1 ≤ 17592186044416 ∧ r = ky a1.toNat a := by
  unfold slices_Repeat_int_int.f at h; split at h
  ·
   rename_i a; by_cases g0 : 0 ≤ a1
   ·
    rw [if_pos g0] at h; by_cases g1 : a1 ≤ 17592186044416; · rw [if_pos g1] at h; exact ⟨a, rfl, g0, g1, (kx h).symm⟩
    · rw [if_neg g1] at h; cases h
   · rw [if_neg g0] at h; cases h
  · cases h
 clear h; have HR0 := kz hr0; clear hr0; have hmul := kz (bits_Mul_one a1 h0 h1); have cw : IntKind.u64.wrap a1 = a1 := by rw [IntKind.wrap_u64]; omega
 have cw1 : IntKind.u64.wrap 1 = 1 := by rw [IntKind.wrap_u64]; omega
 have wid : ∀ x : Int, 0 ≤ x → x ≤ 9223372036854775807 → wrap64 x = x := by intro x g0 g1; unfold wrap64; omega
 have cw2 : wrap64 a1 = a1 := wid a1 h0 (by omega); have WID := kz wid; clear wid; have d0 : decide (a1 < 0) = false := decide_eq_false (by omega); have d1 : decide (9223372036854775807 < a1) = false := decide_eq_false (by omega); have H0 := kz h0; have H1 := kz h1; clear h0 h1; obtain ⟨N, hN⟩ : ∃ N : Nat, a1 = (N : Int) := ⟨a1.toNat, by have := H0.1; omega⟩
 subst hN; have HN := kz (show N ≤ 17592186044416 by have := H1.1; omega); rw [show ((N : Int)).toNat = N by omega]; go_enter Try.func61, Try.ntmps61
 go_wp2_with (first
  | ((with_reducible refine gate_callee (f := 91) rfl ?_); refine goesL_ (some 18) rfl rfl Try.func91 (by kernel_rfl) rfl #[.int .u64 1, .int .u64 (N : Int)] rfl (by (try simp only [kg, kb, kd]); rfl) ?_; (with_reducible refine (bits_Mul.calls 1 (N : Int) 0 (N : Int) _ hmul.out).mono ?_); rintro e w' ⟨rfl, ⟨nd, rfl⟩⟩; refine ⟨_, rfl, ?_⟩)
  | ((with_reducible refine gate_dst (N := 30) rfl ?_); refine Kd.R_make (Kd.int .i64) (w0 := w) w.heap.size 3 rfl (N := 30) rfl 84 _ _ rfl (N : Int) (by simp [Act.eval, cw2]) (by simp [Act.eval, cw2]) kc (.int .i64 0) 8 info3 rfl (by decide) (by omega) 0 (ok := fun _ => True) (okp := fun _ => True) rfl (fun _ hk => hk) trivial (by omega) (by have := HN.1; omega) (by repeat (first | exact Below.refl _ _ | apply za)) (by simp) ?_; intro v1 w1 ho hb hg_ hnew_; clear hg_ hnew_; rw [show ((N : Int)).toNat = N by omega] at ho; have HO1 := kz ho; have HB1 := kz hb; clear ho hb)
  | ((with_reducible refine gate_builtin (b := .copy) (xs := #[.tmp 31, .tmp 32]) rfl ?_); refine Kd.R_copy (0 : Int) (w0 := w) w.heap.size rfl (.tmp 31) (.tmp 32) 84 84 3 rfl kc (by kernel_rfl) v1 (ky N 0) [a] A0 1 c0 (fun _ => True) rfl rfl HO1.1 (Kd.C_below HR0.1 HB1.1) HB1.1 (below_size HB1.1) ?_; intro w2 ho hb hg_; clear hg_; have HO2 := kz ho; have HB2 := kz hb; clear ho hb))
 obtain ⟨m0, hm0⟩ : ∃ m : Nat, m = min 1 N := ⟨_, rfl⟩
 have em : List.take (min 1 (ky N (0 : Int)).length) [a] ++ List.drop (min 1 (ky N (0 : Int)).length) (ky N (0 : Int)) = ky m0 a ++ ky (N - m0) 0 := by
  rw [kh, ← hm0, List.drop_replicate]; congr 1; have hc : m0 = 0 ∨ m0 = 1 := by omega
  rcases hc with h | h <;> rw [h] <;> rfl
 have HO3 := kz (em ▸ HO2.1); clear HO2 em HO1 HB1; rw [← hm0]
 have hv : ∃ Ao co, v1 = .slice Ao N co := by
  obtain ⟨Ao, co, e⟩ := Kd.R_slice HO3.1; refine ⟨Ao, co, ?_⟩; rw [e]; congr 1; simp; omega
 obtain ⟨Ao, co, rfl⟩ := hv; have HM0 := kz (show m0 ≤ N ∧ (0 < N → 0 < m0) ∧ N ≤ m0 + N by omega); clear hm0; go_loopg [8] N (fun kq v8 w' => ∃ m : Nat, v8 = .int .i64 (m : Int) ∧ Aside0 (m ≤ N ∧ (0 < N → 0 < m) ∧ N ≤ m + kq) ∧ Aside0 (Kd.R (Kd.int .i64) 3 w' w.heap.size (fun _ => True) (.slice Ao N co) (ky m a ++ ky (N - m) 0)) ∧ Aside0 (Below w.heap.size w w')); case atStart => exact ⟨m0, rfl, HM0, HO3, HB2⟩
 case round =>
  clear cw cw1 cw2; obtain ⟨m, rfl, HM, HO, HB⟩ := hrel; by_cases c : m < N
  ·
   have c0 : decide ((m : Int) < (N : Int)) = true := decide_eq_true (by omega)
   obtain ⟨g, rfl, hcap, hcmax, cells, hbg, hcells, hcsz, htake⟩ : ∃ g, Ao = some ⟨g, 0, none⟩ ∧ N ≤ co ∧ co ≤ maxLen ∧ ∃ cells : Array Value, w.heap.size ≤ g ∧ wr.heap[g]? = some (.cells cells 3 (0, 0)) ∧ cells.size = co ∧ cells.toList.take N = encs (ku .i64) (ky m a ++ ky (N - m) 0) := by
    have hl : (ky m a ++ ky (N - m) (0 : Int)).length = N := by simp; omega
    have ho := Kd.own_of_R (enc := ku .i64) HO.1; rw [hl] at ho; rcases ho.2 with ⟨_, hz⟩ | ⟨g, cap, cur, e, hb, hc, hn, hm, hs, ht⟩
    · omega
    · cases e; exact ⟨g, rfl, hn, hm, cur, hb, hc, by omega, by rw [Nat.mul_one] at ht; exact ht⟩
   have HMX := kz hcmax; clear hcmax; have HCZ := kz hcells; have HTK := kz htake; have HCS := kz hcsz; clear hcells htake hcsz; obtain ⟨q, hq⟩ : ∃ q, q = min m (N - m) := ⟨_, rfl⟩
   have hqm : q ≤ m := by omega
   have hqN : m + q ≤ N := by omega
   have hq1 : 1 ≤ q := by have := HM.1; omega
   have hqs : 0 ≤ (m : Int) + (q : Int) ∧ (m : Int) + (q : Int) ≤ 9223372036854775807 := by have := HN.1; omega
   have HQS := kz hqs; clear hqs
   have hcell : ∀ j, j < q → wr.cell? ⟨g, j, none⟩ = some (.int .i64 a) := by
    intro j hj; refine (blk_cell HCZ.1 j).trans ?_
    have h1 : cells.toList[j]? = some (.int .i64 a) := by
     have h2 : (cells.toList.take N)[j]? = some (.int .i64 a) := by
      rw [HTK.1]; simp only [encs, List.map_append, List.map_replicate]; rw [List.getElem?_append_left (by rw [kh]; omega), List.getElem?_replicate, if_pos (by omega)]
     rw [List.getElem?_take] at h2; rwa [if_pos (by omega)] at h2
    simpa using h1
   have HCL := kz hcell; have hfit : m + q ≤ cells.toList.length := by have := HCS.1; rw [Array.length_toList]; omega
   clear hcell; have pc1 : (m : Int) ≤ (N : Int) := by omega
   have pc2 : ¬ (co = m) := by omega
   have pc3 : 0 ≤ (m : Int) := by omega
   have pc4 : m ≤ co := by omega
   have pc5 : (m : Int) ≤ (co : Int) := by omega
   have pc6 : m ≤ N := by omega
   have pc7 : ¬ ((m : Int) < 0) := by omega
   have pc8 : ¬ (m = N) := by omega
   have c1 : ((m : Int) ≤ (N : Int)) = True := eq_true pc1; have c2 : (co = m) = False := eq_false pc2; have c3 : (0 ≤ (m : Int)) = True := eq_true pc3; have c4 : (m ≤ co) = True := eq_true pc4; have c5 : ((m : Int) ≤ (co : Int)) = True := eq_true pc5; have c6 : (m ≤ N) = True := eq_true pc6; have c7 : ((m : Int) < 0) = False := eq_false pc7; have c8 : (m = N) = False := eq_false pc8; clear pc1 pc2 pc3 pc4 pc5 pc6 pc7 pc8; obtain ⟨cs, hcs⟩ : ∃ cs, cs = encs (ku .i64) (ky q a) := ⟨_, rfl⟩
   have hcl : cs.length = q := by rw [hcs]; simp [encs]
   have hcv : ∀ v ∈ cs, v = .int .i64 a := by
    intro v hv; rw [hcs] at hv; simp [encs] at hv; exact hv.2
   have HCS2 := kz hcs; have HCV := kz hcv; have HQ := kz hq; clear hcs hcv hq; have wq : wrap64 ((m : Int) + (q : Int)) = ((m + q : Nat) : Int) := (WID.1 _ HQS.1.1 HQS.1.2).trans (Int.natCast_add m q).symm; have HBd := kz (show Below w.heap.size w wr.drew from zb HB.1); have HCZd := kz (show wr.drew.heap[g]? = some (.cells cells 3 (0, 0)) from blk_drew HCZ.1); have HCLd := kz (show ∀ j, j < q → wr.drew.cell? ⟨g, j, none⟩ = some (.int .i64 a) from fun j hj => HCL.1 j hj); go_wp2; refine start_ (n := 10) (S := fun _ => True) (ds := []) #[kt,kt,kt,kt,kt,kt,kt,kt,kt,kt] (by kernel_rfl) rfl rfl trivial (fun hHeld => ?_); generalize wr.drew = w5 at HBd HCZd HCLd hHeld ⊢; refine ze (i := 0) (N := some 38) (v := ?_) (a' := ?_) #[ks,kt,kt,kt,kt,kt,kt,kt,kt,kt] rfl rfl (by kernel_rfl) (fun _ _ _ h => h) (Or.inl ⟨by rfl, ?_⟩) ?_ ?_; rotate_left; · intro w'; go_simp; with_reducible rfl
   rotate_left; · simp only [ko, kj, kk, kv, zc, zd]; rfl
   refine ze (i := 1) (N := some 39) (v := ?_) (a' := ?_) #[ks,ks,kt,kt,kt,kt,kt,kt,kt,kt] rfl rfl (by kernel_rfl) (fun _ _ _ h => h) (Or.inl ⟨by rfl, ?_⟩) ?_ ?_; rotate_left; · intro w'; go_simp; with_reducible rfl
   rotate_left; · simp only [ko, kj, kk, kv, zc, zd]; rfl
   refine ze (i := 2) (N := some 40) (v := ?_) (a' := ?_) #[ks,ks,ks,kt,kt,kt,kt,kt,kt,kt] rfl rfl (by kernel_rfl) (fun _ _ _ h => h) (Or.inl ⟨by rfl, ?_⟩) ?_ ?_; rotate_left; · intro w'; go_simp; with_reducible rfl
   rotate_left; · simp only [ko, kj, kk, kv, zc, zd]; rfl
   refine ze (i := 4) (N := some 42) (v := ?_) (a' := ?_) #[ks,ks,ks,kt,ks,kt,kt,kt,kt,kt] rfl rfl (by kernel_rfl) (fun _ _ _ h => h) (Or.inl ⟨by rfl, ?_⟩) ?_ ?_; rotate_left; · intro w'; go_simp; with_reducible rfl
   rotate_left; · simp only [ko, kj, kk, kv, zc, zd]; rfl
   refine ze (i := 5) (N := some 43) (v := ?_) (a' := ?_) #[ks,ks,ks,kt,ks,ks,kt,kt,kt,kt] rfl rfl (by kernel_rfl) (fun _ _ _ h => h) (Or.inl ⟨by rfl, ?_⟩) ?_ ?_; rotate_left; · intro w'; go_simp; with_reducible rfl
   rotate_left; · simp only [ko, kj, kk, kv, zc, zd]; rfl
   refine ze (i := 3) (N := some 41) (v := ?_) (a' := ?_) #[ks,ks,ks,ks,ks,ks,kt,kt,kt,kt] rfl rfl (by kernel_rfl) (fun _ _ _ h => h) (Or.inl ⟨by rfl, ?_⟩) ?_ ?_; rotate_left; · intro w'; go_simp; with_reducible rfl
   rotate_left; · simp only [ko, kj, kk, kv, zc, zd]; rfl
   refine ze (i := 6) (N := some 44) (v := ?_) (a' := ?_) #[ks,ks,ks,ks,ks,ks,ks,kt,kt,kt] rfl rfl (by kernel_rfl) (fun _ _ _ h => h) (Or.inl ⟨by rfl, ?_⟩) ?_ ?_; rotate_left; · intro w'; go_simp; with_reducible rfl
   rotate_left; · simp only [ko, kj, kk, kv, zc, zd]; rfl
   refine one_ (i := 7) (N := some 45) #[ks,ks,ks,ks,ks,ks,ks,ks,kt,kt] rfl rfl (by kernel_rfl) (by decide) (fun K hK => ?_)
   refine step_copy_splice rfl (.tmp 41) (.tmp 44) 84 84 rfl 3 kc (by kernel_rfl) (some ⟨g, m, none⟩) (some ⟨g, 0, none⟩) (N - m) (co - m) m co rfl rfl g m cells.toList 3 (by simpa using HCZd.1) cs (by rw [hcl]; exact HQ.1) (fun _ => ⟨rfl, _, rfl, fun j v hj => by
     have hj2 : j < q := by rw [← hcl]; exact (List.getElem?_eq_some_iff.1 hj).1
     have hv : v = .int .i64 a := HCV.1 v (List.mem_of_getElem? hj); rw [hv]; have h3 := HCLd.1 j hj2; rw [Addr.add_lit, Nat.zero_add]; exact h3⟩) (by rw [hcl]; exact hfit) (fun v hv => by rw [HCV.1 v hv]; rfl) w.heap.size w HBd.1 hbg ?_
   intro w4 hg4 hb4; have HG4 := kz hg4.out; have HB4 := kz hb4; clear hg4 hb4; refine hK.out _ _ trivial (fun hHeld => ?_); clear hK K; refine norm_ (a' := ?_) ?_ ?_; rotate_left
   ·
    show ko _ (some 45) _ = _
    simp only [ko, kj, kk, kv, zc, zd]; rfl
   refine ze (i := 8) (N := some 46) (v := ?_) (a' := ?_) #[ks,ks,ks,ks,ks,ks,ks,ks,ks,kt] rfl rfl (by kernel_rfl) (fun _ _ _ h => h) (Or.inl ⟨by rfl, ?_⟩) ?_ ?_; rotate_left; · intro w'; go_simp; with_reducible rfl
   rotate_left; · simp only [ko, kj, kk, kv, zc, zd]; rfl
   refine ze (i := 9) (N := some 8) (v := ?_) (a' := ?_) #[ks,ks,ks,ks,ks,ks,ks,ks,ks,ks] rfl rfl (by kernel_rfl) (fun _ _ _ h => h) (Or.inl ⟨by rfl, ?_⟩) ?_ ?_; rotate_left; · intro w'; go_simp; with_reducible rfl
   rotate_left; · simp only [ko, kj, kk, kv, zc, zd]; rfl
   refine done_ (by kernel_rfl) ?_; clear wq c1 c2 c3 c4 c5 c6 c7 c8
   have HOn : Aside0 (Kd.R (Kd.int .i64) 3 w4 w.heap.size (fun _ => True) (.slice (some ⟨g, 0, none⟩) N co) (ky (m + q) a ++ ky (N - (m + q)) 0)) := by
    refine ⟨?_⟩; have hl : (ky (m + q) a ++ ky (N - (m + q)) (0 : Int)).length = N := by simp; omega
    refine Kd.R_of_own (enc := ku .i64) ?_ (fun _ _ => trivial); rw [hl]; refine ⟨by simp [encs]; omega, .inr ⟨g, co, _, rfl, hbg, HG4.1, hcap, HMX.1, ?_, ?_⟩⟩; · have := length_splice cells.toList m cs (by rw [hcl]; exact hfit); simp only [List.size_toArray]; rw [this, Array.length_toList, HCS.1]; omega
    ·
     have h1 := HTK.1; simp only [encs, List.map_append, List.map_replicate] at h1 ⊢; rw [HCS2.1]; simp only [encs, List.map_replicate]; simp only [splice, Nat.mul_one]
     have ht : cells.toList.take m = ky m (ku .i64 a) := by
      have := congrArg (List.take m) h1; rw [List.take_take, Nat.min_eq_left (by omega), List.take_append_of_le_length (by simp), List.take_replicate, Nat.min_self] at this; exact this
     have hd : (cells.toList.drop (m + q)).take (N - (m + q)) = ky (N - (m + q)) (ku .i64 0) := by
      have := congrArg (List.drop (m + q)) h1; rw [List.drop_take] at this; rw [this, List.drop_append, kh, List.drop_eq_nil_of_le (by simp; try omega), List.drop_replicate, List.nil_append]; (congr 1; omega)
     rw [ht, kh, ← List.append_assoc, List.take_append, List.length_append, kh, kh, hd, List.take_of_length_le (by simp; omega), List.replicate_append_replicate]
   cases gk with
   | zero => exact absurd HM.1 (by omega)
   | succ k1 =>
    try go_wp2
    go_roundg k1; case measure => omega
    case rel => exact ⟨m + q, rfl, ⟨by have := HM.1; omega⟩, HOn, HB4⟩
  ·
   have c0 : decide ((m : Int) < (N : Int)) = false := decide_eq_false (by omega); have e : m = N := by have := HM.1; omega
   subst e; go_wp2; go_ret; exact ⟨_, rfl, by have := HO.1; simpa using this, HB.1⟩
end Go.Proofs.Ytakoaogbkajkcaa.PFnTrieSteps
