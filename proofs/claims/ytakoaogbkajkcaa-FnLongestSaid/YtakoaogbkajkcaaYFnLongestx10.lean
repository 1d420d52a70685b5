/- Go functions told by Lean functions, printed by a program. No condition but what each statement says. -/
import Derived.Test.YtakoaogbkajkcaaYFnLongestx1
import Derived.Test.YtakoaogbkajkcaaYFnLongestx6
namespace Go.Proofs.Ytakoaogbkajkcaa.PFnLongest
open Go.RowKit Go.Proofs.YtakoaogbkajkcaaW.PrintWords Go.Proofs.YtakoaogbkajkcaaW.PrintLast Go.Proofs.YtakoaogbkajkcaaW.PrintMore
open List renaming setIfInBounds_toArray → kz, set_cons_zero → ky, set_cons_succ → kj, map_toArray → kf, map_cons → kb, map_nil → kd
open Act renaming put → kk
open Aside0 renaming mk → kv
open Or renaming inl → kh, inr → kc
open Option.some renaming inj → kg
open Option renaming bind_eq_some_iff → ke
open Int renaming tmod → ko
open Bool renaming true → kx, false → km
set_option maxHeartbeats 8000000
set_option maxRecDepth 100000
open Go.Proofs.YtakoaogbkajkcaaW.PrintLast renaming i64_w → zf, i32_w → zg, any_of → zh, pure_ → zj, take_ofW → zp, take_ → zq
open Go.Proofs.YtakoaogbkajkcaaW.PrintWords renaming pw_below_drewN → za, below_drew1 → zb, blk_cell → zd, blk_frozen → ze, blk_drew → zl, blk_drewN → zm, below_step → zo
attribute [local go_sem] max2_int min2_int max_two min_two max_three min_three max_four min_four
set_option linter.unusedVariables false
set_option linter.unusedSimpArgs false
attribute [local go_sem high] eqA37
/-! ### spec_l1Addr: function 63 -/
def spec_l1Addr.f (a0 : Int) : Option (Bool) := (spec_l1In.f a0 0 4294967295).bind fun t187 => (some t187)
theorem spec_l1Addr.calls (a0 : Int) (r : Bool) (w : World) (h : spec_l1Addr.f a0 = some r) :
  Calls Try.prog 63 #[.int .i64 a0] w fun e w' => e = .returned (.bool r) ∧ Drawn0 w w' := by
 have H : ((spec_l1In.f a0 0 4294967295).bind fun t187 => (some t187)) = some r := h
 clear h
 replace H := ke.mp H
 obtain ⟨t187, A20, H⟩ := H
 replace H : (some t187) = some r := H
 have A2 := kv A20
 clear A20
 obtain rfl := kg H
 go_enter Try.func63, Try.ntmps63
 go_wp2_with (((with_reducible refine gate_callee (f := 58) rfl ?_); refine goesL_ (some 4) rfl rfl Try.func58 (by kernel_rfl) rfl #[.int .i64 a0, .int .i64 0, .int .i64 4294967295] rfl (by (try simp only [kf, kb, kd]); rfl) ?_; (with_reducible refine (spec_l1In.calls a0 0 4294967295 t187 _ A2.1).mono ?_); rintro e w' ⟨rfl, ⟨nd, rfl⟩⟩; refine ⟨_, rfl, ?_⟩))
 go_ret
 exact ⟨by rfl, by repeat (first | exact Drawn0.refl _ | apply Drawn0.step)⟩
/-! ### spec_l1Size: function 88 -/
def spec_l1Size.f (a0_0 : Int) (a0_1 : Int) : Option (Int) := if 0 ≤ (IntKind.u64.wrap (wrap64 (32 - a0_1))) then (some (shl .i64 1 (IntKind.u64.wrap (wrap64 (32 - a0_1))))) else (none)
theorem spec_l1Size.calls (a0_0 : Int) (a0_1 : Int) (r : Int) (w : World) (h : spec_l1Size.f a0_0 a0_1 = some r) :
  Calls Try.prog 88 #[.agg #[.int .i64 a0_0, .int .i64 a0_1]] w fun e w' => e = .returned (.int .i64 r) ∧ Below w.heap.size w w' := by
 have hu37 := Try.underlying37
 have HB := kv (Below.refl w.heap.size w)
 have H : (if 0 ≤ (IntKind.u64.wrap (wrap64 (32 - a0_1))) then (some (shl .i64 1 (IntKind.u64.wrap (wrap64 (32 - a0_1))))) else (none)) = some r := h
 clear h
 obtain ⟨ji2, hji2⟩ : ∃ j_ : Int, (IntKind.u64.wrap (wrap64 (32 - a0_1))) = j_ := ⟨_, rfl⟩
 replace H : (if 0 ≤ (ji2) then (some (shl .i64 1 (ji2))) else (none)) = some r := by (rw [hji2] at H; exact H)
 by_cases c3 : 0 ≤ (ji2)
 ·
  rw [if_pos c3] at H
  have c3b0 := eq_true c3
  have c3b1 : decide (0 ≤ (ji2)) = true := decide_eq_true c3
  clear c3
  obtain ⟨ji4, hji4⟩ : ∃ j_ : Int, (shl .i64 1 (ji2)) = j_ := ⟨_, rfl⟩
  replace H : (some ji4) = some r := by (rw [hji4] at H; exact H)
  have hji4_ : (IntKind.i64.wrap (1 * 2 ^ min (ji2).toNat 64)) = ji4 := hji4
  have hji4z : (ji2) ≤ 64 → (IntKind.i64.wrap (1 * 2 ^ (ji2).toNat)) = ji4 := shl_small hji4
  have hji4u : (IntKind.i64.wrap (2 ^ min (ji2).toNat 64)) = ji4 := by have h_ := hji4_; rw [Int.one_mul] at h_; exact h_
  have hji4v : (ji2) ≤ 64 → (IntKind.i64.wrap (2 ^ (ji2).toNat)) = ji4 := fun hle_ => by have h_ := hji4z hle_; rw [Int.one_mul] at h_; exact h_
  have hji4y : (wrap64 (1 * 2 ^ min (ji2).toNat 64)) = ji4 := (zf _).symm.trans hji4_
  have hji4x : (ji2) ≤ 64 → (wrap64 (1 * 2 ^ (ji2).toNat)) = ji4 := fun h_ => (zf _).symm.trans (hji4z h_)
  obtain rfl := kg H
  go_enter Try.func88, Try.ntmps88
  go_wp2_with (((with_reducible refine gate_dst (N := 1) rfl ?_); refine box_event rfl (N := 1) rfl (cs := #[.int .i64 a0_0, .int .i64 a0_1]) (t := 37) ?hr ?_; (case hr => go_simp; done); intro gb188 hg w5 hbox hb; replace HB := kv (zo HB.1 hb); have BK188 := kv hbox; clear hb hbox hg; have hcz6_0 : w5.cell? ⟨gb188, 0, none⟩ = some (.int .i64 a0_0) := (zd BK188.1 0).trans rfl; have hcz6_1 : w5.cell? ⟨gb188, 1, none⟩ = some (.int .i64 a0_1) := (zd BK188.1 1).trans rfl; have hfz6_0 := ze BK188.1 0; have hfz6_1 := ze BK188.1 1))
  go_ret
  exact ⟨by rfl, by exact HB.1⟩
 ·
  rw [if_neg c3] at H
  exact absurd H (by simp)
/-! ### spec_GoodPrefix: function 49 -/
def spec_GoodPrefix.f (a0_0 : Int) (a0_1 : Int) : Option (Bool) := (spec_l1In.f a0_1 0 32).bind fun t190 => (if t190 = true then ((spec_l1Addr.f a0_0).bind fun t191 => (if t191 = true then ((spec_l1Size.f a0_0 a0_1).bind fun t192 => (if t192 = 0 then (none) else (some ((ko a0_0 t192) == 0)))) else (some false))) else (some false))
def spec_GoodPrefix.T1 : Bool × List (List Nat × List Nat) := (true, [([], []), ([0], [0]), ([1], [1]), ([2, 2], [2]), ([3], [3]), ([4, 3], [3, 4]), ([5, 3, 3], [3, 5]), ([3, 6], [3, 6]), ([7, 6], [7]), ([8], [8]), ([9, 8], [8, 9]), ([8], [8]), ([11, 8, 8], [8, 11]), ([10, 12, 8], [8, 10, 12]), ([13, 8], [8, 13]), ([8, 14], [8, 14]), ([15, 12, 0, 1, 2, 3, 4, 5, 6, 7, 8, 9, 10, 11, 12, 13, 14, 15], [15])])
def spec_GoodPrefix.B1 : List Nat := [0, 1, 3, 7, 15, 31, 63, 127, 255, 511, 1023, 511, 2559, 8191, 16383, 32767, 65535]
theorem spec_GoodPrefix.tab1 : rtab .any (opsOf Try.f49 1) = spec_GoodPrefix.T1 := by kernel_rfl
theorem spec_GoodPrefix.bits1 : waitsOk spec_GoodPrefix.T1.2 spec_GoodPrefix.B1 = true := by kernel_rfl
theorem spec_GoodPrefix.calls (a0_0 : Int) (a0_1 : Int) (r : Bool) (w : World) (h : spec_GoodPrefix.f a0_0 a0_1 = some r) :
  Calls Try.prog 49 #[.agg #[.int .i64 a0_0, .int .i64 a0_1]] w fun e w' => e = .returned (.bool r) ∧ Below w.heap.size w w' := by
 have hu37 := Try.underlying37
 have HB := kv (Below.refl w.heap.size w)
 have H : ((spec_l1In.f a0_1 0 32).bind fun t190 => (if t190 = true then ((spec_l1Addr.f a0_0).bind fun t191 => (if t191 = true then ((spec_l1Size.f a0_0 a0_1).bind fun t192 => (if t192 = 0 then (none) else (some ((ko a0_0 t192) == 0)))) else (some false))) else (some false))) = some r := h
 clear h
 replace H := ke.mp H
 obtain ⟨t190, A20, H⟩ := H
 replace H : (if t190 = true then ((spec_l1Addr.f a0_0).bind fun t191 => (if t191 = true then ((spec_l1Size.f a0_0 a0_1).bind fun t192 => (if t192 = 0 then (none) else (some ((ko a0_0 t192) == 0)))) else (some false))) else (some false)) = some r := H
 have A2 := kv A20
 clear A20
 by_cases c3 : t190 = true
 ·
  subst c3
  have H1 : ((spec_l1Addr.f a0_0).bind fun t191 => (if t191 = true then ((spec_l1Size.f a0_0 a0_1).bind fun t192 => (if t192 = 0 then (none) else (some ((ko a0_0 t192) == 0)))) else (some false))) = some r := by rw [if_pos rfl] at H; exact H
  clear H
  have H := H1
  clear H1
  replace H := ke.mp H
  obtain ⟨t191, A40, H⟩ := H
  replace H : (if t191 = true then ((spec_l1Size.f a0_0 a0_1).bind fun t192 => (if t192 = 0 then (none) else (some ((ko a0_0 t192) == 0)))) else (some false)) = some r := H
  have A4 := kv A40
  clear A40
  by_cases c5 : t191 = true
  ·
   subst c5
   have H1 : ((spec_l1Size.f a0_0 a0_1).bind fun t192 => (if t192 = 0 then (none) else (some ((ko a0_0 t192) == 0)))) = some r := by rw [if_pos rfl] at H; exact H
   clear H
   have H := H1
   clear H1
   replace H := ke.mp H
   obtain ⟨t192, A60, H⟩ := H
   replace H : (if t192 = 0 then (none) else (some ((ko a0_0 t192) == 0))) = some r := H
   have A6 := kv A60
   clear A60
   by_cases c7 : t192 = 0
   ·
    rw [if_pos c7] at H
    exact absurd H (by simp)
   ·
    rw [if_neg c7] at H
    have c7b0 : (t192 == 0) = false := beq_eq_false_iff_ne.mpr c7
    have c7b1 : (t192 != 0) = true := bne_iff_ne.mpr c7
    obtain rfl := kg H
    go_enter Try.func49, Try.ntmps49
    try go_wp2_with (((with_reducible refine gate_dst (N := 1) rfl ?_); refine box_event rfl (N := 1) rfl (cs := #[.int .i64 a0_0, .int .i64 a0_1]) (t := 37) ?hr ?_; (case hr => go_simp; done); intro gb189 hg w8 hbox hb; replace HB := kv (zo HB.1 hb); have zr := kv hbox; clear hb hbox hg))
    replace zr := kv (zl zr.1)
    replace HB := kv (zb HB.1)
    refine start_ (n := 17) (S := fun w' => w'.cell? ⟨gb189, 0, none⟩ = some (.int .i64 a0_0) ∧ w'.cell? ⟨gb189, 1, none⟩ = some (.int .i64 a0_1)) (ds := []) #[km,km,km,km,km,km,km,km,km,km,km,km,km,km,km,km,km] (by kernel_rfl) rfl rfl ⟨(zd zr.1 0).trans rfl, (zd zr.1 1).trans rfl⟩ (fun hHeld => ?_); refine with_tabW spec_GoodPrefix.tab1 spec_GoodPrefix.bits1 (fun HT_ HW_ => ?_)
    generalize w8.drew = w9 at zr HB hHeld ⊢
    refine zj (i := 0) (N := some 3) (v := ?_) (a' := ?_) #[kx,km,km,km,km,km,km,km,km,km,km,km,km,km,km,km,km] rfl rfl (zh HT_.1 (by kernel_rfl)) (fun _ _ _ h => h) (kh ⟨by rfl, ?_⟩) ?_ ?_
    rotate_left
    ·
     intro w'
     go_simp
     with_reducible rfl
    rotate_left
    ·
     simp only [kk, kz, ky, kj, zf, zg]
     rfl
    refine zq (i := 1) (N := some 4) (v := ?_) (a' := ?_) #[kx,kx,km,km,km,km,km,km,km,km,km,km,km,km,km,km,km] rfl rfl (zp HT_.1 HW_.1 (by kernel_rfl)) (fun _ _ _ h => h) (kh ⟨by rfl, ?_⟩) hHeld ?_ ?_
    rotate_left
    ·
     rintro w' ⟨s0, s1⟩
     go_simp
     with_reducible rfl
    rotate_left
    ·
     simp only [kk, kz, ky, kj, zf, zg]
     rfl
    refine one_ (i := 2) (N := some 5) #[kx,kx,kx,km,km,km,km,km,km,km,km,km,km,km,km,km,km] rfl rfl (one_of HT_.1 (by kernel_rfl)) (by decide) (fun K hK => ?_)
    refine goes_ Try.func58 (by kernel_rfl) rfl #[.int .i64 a0_1, .int .i64 0, .int .i64 32] (by rfl) rfl rfl (by (try simp only [kf, kb, kd]); rfl) ?_
    with_reducible refine (spec_l1In.calls a0_1 0 32 true _ A2.1).mono ?_
    rintro e w' ⟨rfl, ⟨nd, rfl⟩⟩
    refine ⟨_, rfl, ?_⟩
    refine hK.out _ _ ⟨(zd zr.1 0).trans rfl, (zd zr.1 1).trans rfl⟩ (fun hHeld => ?_)
    clear hK K
    refine norm_ (a' := ?_) ?_ ?_
    rotate_left
    ·
     show kk _ (some 5) _ = _
     simp only [kk, kz, ky, kj, zf, zg]
     rfl
    refine zj (i := 3) (N := some 6) (v := ?_) (a' := ?_) #[kx,kx,kx,kx,km,km,km,km,km,km,km,km,km,km,km,km,km] rfl rfl (zh HT_.1 (by kernel_rfl)) (fun _ _ _ h => h) (kh ⟨by rfl, ?_⟩) ?_ ?_
    rotate_left
    ·
     intro w'
     go_simp
     with_reducible rfl
    rotate_left
    ·
     simp only [kk, kz, ky, kj, zf, zg]
     rfl
    refine zj (i := 4) (N := some 7) (v := ?_) (a' := ?_) #[kx,kx,kx,kx,kx,km,km,km,km,km,km,km,km,km,km,km,km] rfl rfl (zh HT_.1 (by kernel_rfl)) (fun _ _ _ h => h) (kh ⟨by rfl, ?_⟩) ?_ ?_
    rotate_left
    ·
     intro w'
     go_simp
     with_reducible rfl
    rotate_left
    ·
     simp only [kk, kz, ky, kj, zf, zg]
     rfl
    refine zq (i := 5) (N := some 8) (v := ?_) (a' := ?_) #[kx,kx,kx,kx,kx,kx,km,km,km,km,km,km,km,km,km,km,km] rfl rfl (zp HT_.1 HW_.1 (by kernel_rfl)) (fun _ _ _ h => h) (kh ⟨by rfl, ?_⟩) hHeld ?_ ?_
    rotate_left
    ·
     rintro w' ⟨s0, s1⟩
     go_simp
     with_reducible rfl
    rotate_left
    ·
     simp only [kk, kz, ky, kj, zf, zg]
     rfl
    refine one_ (i := 6) (N := some 9) #[kx,kx,kx,kx,kx,kx,kx,km,km,km,km,km,km,km,km,km,km] rfl rfl (one_of HT_.1 (by kernel_rfl)) (by decide) (fun K hK => ?_)
    refine goes_ Try.func63 (by kernel_rfl) rfl #[.int .i64 a0_0] (by rfl) rfl rfl (by (try simp only [kf, kb, kd]); rfl) ?_
    with_reducible refine (spec_l1Addr.calls a0_0 true _ A4.1).mono ?_
    rintro e w' ⟨rfl, ⟨nd, rfl⟩⟩
    refine ⟨_, rfl, ?_⟩
    refine hK.out _ _ ⟨(zd zr.1 0).trans rfl, (zd zr.1 1).trans rfl⟩ (fun hHeld => ?_)
    clear hK K
    refine norm_ (a' := ?_) ?_ ?_
    rotate_left
    ·
     show kk _ (some 9) _ = _
     simp only [kk, kz, ky, kj, zf, zg]
     rfl
    refine zj (i := 7) (N := some 10) (v := ?_) (a' := ?_) #[kx,kx,kx,kx,kx,kx,kx,kx,km,km,km,km,km,km,km,km,km] rfl rfl (zh HT_.1 (by kernel_rfl)) (fun _ _ _ h => h) (kh ⟨by rfl, ?_⟩) ?_ ?_
    rotate_left
    ·
     intro w'
     go_simp
     with_reducible rfl
    rotate_left
    ·
     simp only [kk, kz, ky, kj, zf, zg]
     rfl
    refine zj (i := 8) (N := some 11) (v := ?_) (a' := ?_) #[kx,kx,kx,kx,kx,kx,kx,kx,kx,km,km,km,km,km,km,km,km] rfl rfl (zh HT_.1 (by kernel_rfl)) (fun _ _ _ h => h) (kh ⟨by rfl, ?_⟩) ?_ ?_
    rotate_left
    ·
     intro w'
     go_simp
     with_reducible rfl
    rotate_left
    ·
     simp only [kk, kz, ky, kj, zf, zg]
     rfl
    refine zj (i := 9) (N := some 12) (v := ?_) (a' := ?_) #[kx,kx,kx,kx,kx,kx,kx,kx,kx,kx,km,km,km,km,km,km,km] rfl rfl (zh HT_.1 (by kernel_rfl)) (fun _ _ _ h => h) (kh ⟨by rfl, ?_⟩) ?_ ?_
    rotate_left
    ·
     intro w'
     go_simp
     with_reducible rfl
    rotate_left
    ·
     simp only [kk, kz, ky, kj, zf, zg]
     rfl
    refine zq (i := 10) (N := some 13) (v := ?_) (a' := ?_) #[kx,kx,kx,kx,kx,kx,kx,kx,kx,kx,kx,km,km,km,km,km,km] rfl rfl (zp HT_.1 HW_.1 (by kernel_rfl)) (fun _ _ _ h => h) (kh ⟨by rfl, ?_⟩) hHeld ?_ ?_
    rotate_left
    ·
     rintro w' ⟨s0, s1⟩
     go_simp
     with_reducible rfl
    rotate_left
    ·
     simp only [kk, kz, ky, kj, zf, zg]
     rfl
    refine zq (i := 11) (N := some 14) (v := ?_) (a' := ?_) #[kx,kx,kx,kx,kx,kx,kx,kx,kx,kx,kx,kx,km,km,km,km,km] rfl rfl (zp HT_.1 HW_.1 (by kernel_rfl)) (fun _ _ _ h => h) (kh ⟨by rfl, ?_⟩) hHeld ?_ ?_
    rotate_left
    ·
     rintro w' ⟨s0, s1⟩
     go_simp
     with_reducible rfl
    rotate_left
    ·
     simp only [kk, kz, ky, kj, zf, zg]
     rfl
    refine one_ (i := 12) (N := some 15) #[kx,kx,kx,kx,kx,kx,kx,kx,kx,kx,kx,kx,kx,km,km,km,km] rfl rfl (one_of HT_.1 (by kernel_rfl)) (by decide) (fun K hK => ?_)
    refine goes_ Try.func88 (by kernel_rfl) rfl #[.agg #[.int .i64 a0_0, .int .i64 a0_1]] (by rfl) rfl rfl (by (try simp only [kf, kb, kd]); rfl) ?_
    with_reducible refine (spec_l1Size.calls a0_0 a0_1 t192 _ A6.1).mono ?_
    rintro e w10 ⟨rfl, hb⟩
    refine ⟨_, rfl, ?_⟩
    replace zr := kv (blk_below (g := gb189) (o := .cells #[.int .i64 a0_0, .int .i64 a0_1] 37 (0, 0)) (by (with_reducible repeat (refine zm ?_ _)); exact zr.1) hb)
    replace HB := kv (zo (by repeat ((with_reducible first | exact HB.1 | apply za))) hb)
    refine hK.out _ _ ⟨(zd zr.1 0).trans rfl, (zd zr.1 1).trans rfl⟩ (fun hHeld => ?_)
    clear hK K
    refine norm_ (a' := ?_) ?_ ?_
    rotate_left
    ·
     show kk _ (some 15) _ = _
     simp only [kk, kz, ky, kj, zf, zg]
     rfl
    refine zj (i := 13) (N := some 16) (v := ?_) (a' := ?_) #[kx,kx,kx,kx,kx,kx,kx,kx,kx,kx,kx,kx,kx,kx,km,km,km] rfl rfl (zh HT_.1 (by kernel_rfl)) (fun _ _ _ h => h) (kh ⟨by rfl, ?_⟩) ?_ ?_
    rotate_left
    ·
     intro w'
     go_simp
     with_reducible rfl
    rotate_left
    ·
     simp only [kk, kz, ky, kj, zf, zg]
     rfl
    refine zj (i := 14) (N := some 17) (v := ?_) (a' := ?_) #[kx,kx,kx,kx,kx,kx,kx,kx,kx,kx,kx,kx,kx,kx,kx,km,km] rfl rfl (zh HT_.1 (by kernel_rfl)) (fun _ _ _ h => h) (kh ⟨by rfl, ?_⟩) ?_ ?_
    rotate_left
    ·
     intro w'
     go_simp
     with_reducible rfl
    rotate_left
    ·
     simp only [kk, kz, ky, kj, zf, zg]
     rfl
    refine zj (i := 15) (N := some 18) (v := ?_) (a' := ?_) #[kx,kx,kx,kx,kx,kx,kx,kx,kx,kx,kx,kx,kx,kx,kx,kx,km] rfl rfl (zh HT_.1 (by kernel_rfl)) (fun _ _ _ h => h) (kh ⟨by rfl, ?_⟩) ?_ ?_
    rotate_left
    ·
     intro w'
     go_simp
     with_reducible rfl
    rotate_left
    ·
     simp only [kk, kz, ky, kj, zf, zg]
     rfl
    refine zj (i := 16) (N := some 2) (v := ?_) (a' := ?_) #[kx,kx,kx,kx,kx,kx,kx,kx,kx,kx,kx,kx,kx,kx,kx,kx,kx] rfl rfl (zh HT_.1 (by kernel_rfl)) (fun _ _ _ h => h) (kh ⟨by rfl, ?_⟩) ?_ ?_
    rotate_left
    ·
     intro w'
     go_simp
     with_reducible rfl
    rotate_left
    ·
     simp only [kk, kz, ky, kj, zf, zg]
     rfl
    refine done_ (done_of HT_.1 (by kernel_rfl)) ?_
    try go_wp2
    go_ret
    exact ⟨by rfl, by exact HB.1⟩
  ·
   replace c5 := Bool.eq_false_iff.mpr c5
   subst c5
   have H1 : (some false) = some r := by rw [if_neg (show ¬ (false = true) by decide)] at H; exact H
   clear H
   have H := H1
   clear H1
   obtain rfl := kg H
   go_enter Try.func49, Try.ntmps49
   try go_wp2_with (((with_reducible refine gate_dst (N := 1) rfl ?_); refine box_event rfl (N := 1) rfl (cs := #[.int .i64 a0_0, .int .i64 a0_1]) (t := 37) ?hr ?_; (case hr => go_simp; done); intro gb189 hg w11 hbox hb; replace HB := kv (zo HB.1 hb); have zr := kv hbox; clear hb hbox hg))
   replace zr := kv (zl zr.1)
   replace HB := kv (zb HB.1)
   refine start_ (n := 17) (S := fun w' => w'.cell? ⟨gb189, 0, none⟩ = some (.int .i64 a0_0) ∧ w'.cell? ⟨gb189, 1, none⟩ = some (.int .i64 a0_1)) (ds := []) #[km,km,km,km,km,km,km,km,km,km,km,km,km,km,km,km,km] (by kernel_rfl) rfl rfl ⟨(zd zr.1 0).trans rfl, (zd zr.1 1).trans rfl⟩ (fun hHeld => ?_); refine with_tabW spec_GoodPrefix.tab1 spec_GoodPrefix.bits1 (fun HT_ HW_ => ?_)
   generalize w11.drew = w12 at zr HB hHeld ⊢
   refine zj (i := 0) (N := some 3) (v := ?_) (a' := ?_) #[kx,km,km,km,km,km,km,km,km,km,km,km,km,km,km,km,km] rfl rfl (zh HT_.1 (by kernel_rfl)) (fun _ _ _ h => h) (kh ⟨by rfl, ?_⟩) ?_ ?_
   rotate_left
   ·
    intro w'
    go_simp
    with_reducible rfl
   rotate_left
   ·
    simp only [kk, kz, ky, kj, zf, zg]
    rfl
   refine zq (i := 1) (N := some 4) (v := ?_) (a' := ?_) #[kx,kx,km,km,km,km,km,km,km,km,km,km,km,km,km,km,km] rfl rfl (zp HT_.1 HW_.1 (by kernel_rfl)) (fun _ _ _ h => h) (kh ⟨by rfl, ?_⟩) hHeld ?_ ?_
   rotate_left
   ·
    rintro w' ⟨s0, s1⟩
    go_simp
    with_reducible rfl
   rotate_left
   ·
    simp only [kk, kz, ky, kj, zf, zg]
    rfl
   refine one_ (i := 2) (N := some 5) #[kx,kx,kx,km,km,km,km,km,km,km,km,km,km,km,km,km,km] rfl rfl (one_of HT_.1 (by kernel_rfl)) (by decide) (fun K hK => ?_)
   refine goes_ Try.func58 (by kernel_rfl) rfl #[.int .i64 a0_1, .int .i64 0, .int .i64 32] (by rfl) rfl rfl (by (try simp only [kf, kb, kd]); rfl) ?_
   with_reducible refine (spec_l1In.calls a0_1 0 32 true _ A2.1).mono ?_
   rintro e w' ⟨rfl, ⟨nd, rfl⟩⟩
   refine ⟨_, rfl, ?_⟩
   refine hK.out _ _ ⟨(zd zr.1 0).trans rfl, (zd zr.1 1).trans rfl⟩ (fun hHeld => ?_)
   clear hK K
   refine norm_ (a' := ?_) ?_ ?_
   rotate_left
   ·
    show kk _ (some 5) _ = _
    simp only [kk, kz, ky, kj, zf, zg]
    rfl
   refine zj (i := 3) (N := some 6) (v := ?_) (a' := ?_) #[kx,kx,kx,kx,km,km,km,km,km,km,km,km,km,km,km,km,km] rfl rfl (zh HT_.1 (by kernel_rfl)) (fun _ _ _ h => h) (kh ⟨by rfl, ?_⟩) ?_ ?_
   rotate_left
   ·
    intro w'
    go_simp
    with_reducible rfl
   rotate_left
   ·
    simp only [kk, kz, ky, kj, zf, zg]
    rfl
   refine zj (i := 4) (N := some 7) (v := ?_) (a' := ?_) #[kx,kx,kx,kx,kx,km,km,km,km,km,km,km,km,km,km,km,km] rfl rfl (zh HT_.1 (by kernel_rfl)) (fun _ _ _ h => h) (kh ⟨by rfl, ?_⟩) ?_ ?_
   rotate_left
   ·
    intro w'
    go_simp
    with_reducible rfl
   rotate_left
   ·
    simp only [kk, kz, ky, kj, zf, zg]
    rfl
   refine zq (i := 5) (N := some 8) (v := ?_) (a' := ?_) #[kx,kx,kx,kx,kx,kx,km,km,km,km,km,km,km,km,km,km,km] rfl rfl (zp HT_.1 HW_.1 (by kernel_rfl)) (fun _ _ _ h => h) (kh ⟨by rfl, ?_⟩) hHeld ?_ ?_
   rotate_left
   ·
    rintro w' ⟨s0, s1⟩
    go_simp
    with_reducible rfl
   rotate_left
   ·
    simp only [kk, kz, ky, kj, zf, zg]
    rfl
   refine one_ (i := 6) (N := some 9) #[kx,kx,kx,kx,kx,kx,kx,km,km,km,km,km,km,km,km,km,km] rfl rfl (one_of HT_.1 (by kernel_rfl)) (by decide) (fun K hK => ?_)
   refine goes_ Try.func63 (by kernel_rfl) rfl #[.int .i64 a0_0] (by rfl) rfl rfl (by (try simp only [kf, kb, kd]); rfl) ?_
   with_reducible refine (spec_l1Addr.calls a0_0 false _ A4.1).mono ?_
   rintro e w' ⟨rfl, ⟨nd, rfl⟩⟩
   refine ⟨_, rfl, ?_⟩
   refine hK.out _ _ ⟨(zd zr.1 0).trans rfl, (zd zr.1 1).trans rfl⟩ (fun hHeld => ?_)
   clear hK K
   refine norm_ (a' := ?_) ?_ ?_
   rotate_left
   ·
    show kk _ (some 9) _ = _
    simp only [kk, kz, ky, kj, zf, zg]
    rfl
   refine zj (i := 7) (N := some 10) (v := ?_) (a' := ?_) #[kx,kx,kx,kx,kx,kx,kx,kx,km,km,km,km,km,km,km,km,km] rfl rfl (zh HT_.1 (by kernel_rfl)) (fun _ _ _ h => h) (kh ⟨by rfl, ?_⟩) ?_ ?_
   rotate_left
   ·
    intro w'
    go_simp
    with_reducible rfl
   rotate_left
   ·
    simp only [kk, kz, ky, kj, zf, zg]
    rfl
   refine zj (i := 8) (N := some 11) (v := ?_) (a' := ?_) #[kx,kx,kx,kx,kx,kx,kx,kx,kx,km,km,km,km,km,km,km,km] rfl rfl (zh HT_.1 (by kernel_rfl)) (fun _ _ _ h => h) (kh ⟨by rfl, ?_⟩) ?_ ?_
   rotate_left
   ·
    intro w'
    go_simp
    with_reducible rfl
   rotate_left
   ·
    simp only [kk, kz, ky, kj, zf, zg]
    rfl
   refine zj (i := 9) (N := some 12) (v := undef) (a' := ?_) #[kx,kx,kx,kx,kx,kx,kx,kx,kx,kx,km,km,km,km,km,km,km] rfl rfl (zh HT_.1 (by kernel_rfl)) (fun _ _ _ h => h) (kc ⟨by rfl, rfl⟩) ?_ ?_
   rotate_left
   ·
    simp only [kk, kz, ky, kj, zf, zg]
    rfl
   refine zj (i := 10) (N := some 13) (v := undef) (a' := ?_) #[kx,kx,kx,kx,kx,kx,kx,kx,kx,kx,kx,km,km,km,km,km,km] rfl rfl (zh HT_.1 (by kernel_rfl)) (fun _ _ _ h => h) (kc ⟨by rfl, rfl⟩) ?_ ?_
   rotate_left
   ·
    simp only [kk, kz, ky, kj, zf, zg]
    rfl
   refine zj (i := 11) (N := some 14) (v := undef) (a' := ?_) #[kx,kx,kx,kx,kx,kx,kx,kx,kx,kx,kx,kx,km,km,km,km,km] rfl rfl (zh HT_.1 (by kernel_rfl)) (fun _ _ _ h => h) (kc ⟨by rfl, rfl⟩) ?_ ?_
   rotate_left
   ·
    simp only [kk, kz, ky, kj, zf, zg]
    rfl
   refine zj (i := 12) (N := some 15) (v := undef) (a' := ?_) #[kx,kx,kx,kx,kx,kx,kx,kx,kx,kx,kx,kx,kx,km,km,km,km] rfl rfl (zh HT_.1 (by kernel_rfl)) (fun _ _ _ h => h) (kc ⟨by rfl, rfl⟩) ?_ ?_
   rotate_left
   ·
    simp only [kk, kz, ky, kj, zf, zg]
    rfl
   refine zj (i := 13) (N := some 16) (v := undef) (a' := ?_) #[kx,kx,kx,kx,kx,kx,kx,kx,kx,kx,kx,kx,kx,kx,km,km,km] rfl rfl (zh HT_.1 (by kernel_rfl)) (fun _ _ _ h => h) (kc ⟨by rfl, rfl⟩) ?_ ?_
   rotate_left
   ·
    simp only [kk, kz, ky, kj, zf, zg]
    rfl
   refine zj (i := 14) (N := some 17) (v := undef) (a' := ?_) #[kx,kx,kx,kx,kx,kx,kx,kx,kx,kx,kx,kx,kx,kx,kx,km,km] rfl rfl (zh HT_.1 (by kernel_rfl)) (fun _ _ _ h => h) (kc ⟨by rfl, rfl⟩) ?_ ?_
   rotate_left
   ·
    simp only [kk, kz, ky, kj, zf, zg]
    rfl
   refine zj (i := 15) (N := some 18) (v := ?_) (a' := ?_) #[kx,kx,kx,kx,kx,kx,kx,kx,kx,kx,kx,kx,kx,kx,kx,kx,km] rfl rfl (zh HT_.1 (by kernel_rfl)) (fun _ _ _ h => h) (kh ⟨by rfl, ?_⟩) ?_ ?_
   rotate_left
   ·
    intro w'
    go_simp
    with_reducible rfl
   rotate_left
   ·
    simp only [kk, kz, ky, kj, zf, zg]
    rfl
   refine zj (i := 16) (N := some 2) (v := ?_) (a' := ?_) #[kx,kx,kx,kx,kx,kx,kx,kx,kx,kx,kx,kx,kx,kx,kx,kx,kx] rfl rfl (zh HT_.1 (by kernel_rfl)) (fun _ _ _ h => h) (kh ⟨by rfl, ?_⟩) ?_ ?_
   rotate_left
   ·
    intro w'
    go_simp
    with_reducible rfl
   rotate_left
   ·
    simp only [kk, kz, ky, kj, zf, zg]
    rfl
   refine done_ (done_of HT_.1 (by kernel_rfl)) ?_
   try go_wp2
   go_ret
   exact ⟨by rfl, by repeat ((with_reducible first | exact HB.1 | apply za))⟩
 ·
  replace c3 := Bool.eq_false_iff.mpr c3
  subst c3
  have H1 : (some false) = some r := by rw [if_neg (show ¬ (false = true) by decide)] at H; exact H
  clear H
  have H := H1
  clear H1
  obtain rfl := kg H
  go_enter Try.func49, Try.ntmps49
  try go_wp2_with (((with_reducible refine gate_dst (N := 1) rfl ?_); refine box_event rfl (N := 1) rfl (cs := #[.int .i64 a0_0, .int .i64 a0_1]) (t := 37) ?hr ?_; (case hr => go_simp; done); intro gb189 hg w13 hbox hb; replace HB := kv (zo HB.1 hb); have zr := kv hbox; clear hb hbox hg))
  replace zr := kv (zl zr.1)
  replace HB := kv (zb HB.1)
  refine start_ (n := 17) (S := fun w' => w'.cell? ⟨gb189, 0, none⟩ = some (.int .i64 a0_0) ∧ w'.cell? ⟨gb189, 1, none⟩ = some (.int .i64 a0_1)) (ds := []) #[km,km,km,km,km,km,km,km,km,km,km,km,km,km,km,km,km] (by kernel_rfl) rfl rfl ⟨(zd zr.1 0).trans rfl, (zd zr.1 1).trans rfl⟩ (fun hHeld => ?_); refine with_tabW spec_GoodPrefix.tab1 spec_GoodPrefix.bits1 (fun HT_ HW_ => ?_)
  generalize w13.drew = w14 at zr HB hHeld ⊢
  refine zj (i := 0) (N := some 3) (v := ?_) (a' := ?_) #[kx,km,km,km,km,km,km,km,km,km,km,km,km,km,km,km,km] rfl rfl (zh HT_.1 (by kernel_rfl)) (fun _ _ _ h => h) (kh ⟨by rfl, ?_⟩) ?_ ?_
  rotate_left
  ·
   intro w'
   go_simp
   with_reducible rfl
  rotate_left
  ·
   simp only [kk, kz, ky, kj, zf, zg]
   rfl
  refine zq (i := 1) (N := some 4) (v := ?_) (a' := ?_) #[kx,kx,km,km,km,km,km,km,km,km,km,km,km,km,km,km,km] rfl rfl (zp HT_.1 HW_.1 (by kernel_rfl)) (fun _ _ _ h => h) (kh ⟨by rfl, ?_⟩) hHeld ?_ ?_
  rotate_left
  ·
   rintro w' ⟨s0, s1⟩
   go_simp
   with_reducible rfl
  rotate_left
  ·
   simp only [kk, kz, ky, kj, zf, zg]
   rfl
  refine one_ (i := 2) (N := some 5) #[kx,kx,kx,km,km,km,km,km,km,km,km,km,km,km,km,km,km] rfl rfl (one_of HT_.1 (by kernel_rfl)) (by decide) (fun K hK => ?_)
  refine goes_ Try.func58 (by kernel_rfl) rfl #[.int .i64 a0_1, .int .i64 0, .int .i64 32] (by rfl) rfl rfl (by (try simp only [kf, kb, kd]); rfl) ?_
  with_reducible refine (spec_l1In.calls a0_1 0 32 false _ A2.1).mono ?_
  rintro e w' ⟨rfl, ⟨nd, rfl⟩⟩
  refine ⟨_, rfl, ?_⟩
  refine hK.out _ _ ⟨(zd zr.1 0).trans rfl, (zd zr.1 1).trans rfl⟩ (fun hHeld => ?_)
  clear hK K
  refine norm_ (a' := ?_) ?_ ?_
  rotate_left
  ·
   show kk _ (some 5) _ = _
   simp only [kk, kz, ky, kj, zf, zg]
   rfl
  refine zj (i := 3) (N := some 6) (v := ?_) (a' := ?_) #[kx,kx,kx,kx,km,km,km,km,km,km,km,km,km,km,km,km,km] rfl rfl (zh HT_.1 (by kernel_rfl)) (fun _ _ _ h => h) (kh ⟨by rfl, ?_⟩) ?_ ?_
  rotate_left
  ·
   intro w'
   go_simp
   with_reducible rfl
  rotate_left
  ·
   simp only [kk, kz, ky, kj, zf, zg]
   rfl
  refine zj (i := 4) (N := some 7) (v := undef) (a' := ?_) #[kx,kx,kx,kx,kx,km,km,km,km,km,km,km,km,km,km,km,km] rfl rfl (zh HT_.1 (by kernel_rfl)) (fun _ _ _ h => h) (kc ⟨by rfl, rfl⟩) ?_ ?_
  rotate_left
  ·
   simp only [kk, kz, ky, kj, zf, zg]
   rfl
  refine zj (i := 5) (N := some 8) (v := undef) (a' := ?_) #[kx,kx,kx,kx,kx,kx,km,km,km,km,km,km,km,km,km,km,km] rfl rfl (zh HT_.1 (by kernel_rfl)) (fun _ _ _ h => h) (kc ⟨by rfl, rfl⟩) ?_ ?_
  rotate_left
  ·
   simp only [kk, kz, ky, kj, zf, zg]
   rfl
  refine zj (i := 6) (N := some 9) (v := undef) (a' := ?_) #[kx,kx,kx,kx,kx,kx,kx,km,km,km,km,km,km,km,km,km,km] rfl rfl (zh HT_.1 (by kernel_rfl)) (fun _ _ _ h => h) (kc ⟨by rfl, rfl⟩) ?_ ?_
  rotate_left
  ·
   simp only [kk, kz, ky, kj, zf, zg]
   rfl
  refine zj (i := 7) (N := some 10) (v := ?_) (a' := ?_) #[kx,kx,kx,kx,kx,kx,kx,kx,km,km,km,km,km,km,km,km,km] rfl rfl (zh HT_.1 (by kernel_rfl)) (fun _ _ _ h => h) (kh ⟨by rfl, ?_⟩) ?_ ?_
  rotate_left
  ·
   intro w'
   go_simp
   with_reducible rfl
  rotate_left
  ·
   simp only [kk, kz, ky, kj, zf, zg]
   rfl
  refine zj (i := 8) (N := some 11) (v := ?_) (a' := ?_) #[kx,kx,kx,kx,kx,kx,kx,kx,kx,km,km,km,km,km,km,km,km] rfl rfl (zh HT_.1 (by kernel_rfl)) (fun _ _ _ h => h) (kh ⟨by rfl, ?_⟩) ?_ ?_
  rotate_left
  ·
   intro w'
   go_simp
   with_reducible rfl
  rotate_left
  ·
   simp only [kk, kz, ky, kj, zf, zg]
   rfl
  refine zj (i := 9) (N := some 12) (v := undef) (a' := ?_) #[kx,kx,kx,kx,kx,kx,kx,kx,kx,kx,km,km,km,km,km,km,km] rfl rfl (zh HT_.1 (by kernel_rfl)) (fun _ _ _ h => h) (kc ⟨by rfl, rfl⟩) ?_ ?_
  rotate_left
  ·
   simp only [kk, kz, ky, kj, zf, zg]
   rfl
  refine zj (i := 10) (N := some 13) (v := undef) (a' := ?_) #[kx,kx,kx,kx,kx,kx,kx,kx,kx,kx,kx,km,km,km,km,km,km] rfl rfl (zh HT_.1 (by kernel_rfl)) (fun _ _ _ h => h) (kc ⟨by rfl, rfl⟩) ?_ ?_
  rotate_left
  ·
   simp only [kk, kz, ky, kj, zf, zg]
   rfl
  refine zj (i := 11) (N := some 14) (v := undef) (a' := ?_) #[kx,kx,kx,kx,kx,kx,kx,kx,kx,kx,kx,kx,km,km,km,km,km] rfl rfl (zh HT_.1 (by kernel_rfl)) (fun _ _ _ h => h) (kc ⟨by rfl, rfl⟩) ?_ ?_
  rotate_left
  ·
   simp only [kk, kz, ky, kj, zf, zg]
   rfl
  refine zj (i := 12) (N := some 15) (v := undef) (a' := ?_) #[kx,kx,kx,kx,kx,kx,kx,kx,kx,kx,kx,kx,kx,km,km,km,km] rfl rfl (zh HT_.1 (by kernel_rfl)) (fun _ _ _ h => h) (kc ⟨by rfl, rfl⟩) ?_ ?_
  rotate_left
  ·
   simp only [kk, kz, ky, kj, zf, zg]
   rfl
  refine zj (i := 13) (N := some 16) (v := undef) (a' := ?_) #[kx,kx,kx,kx,kx,kx,kx,kx,kx,kx,kx,kx,kx,kx,km,km,km] rfl rfl (zh HT_.1 (by kernel_rfl)) (fun _ _ _ h => h) (kc ⟨by rfl, rfl⟩) ?_ ?_
  rotate_left
  ·
   simp only [kk, kz, ky, kj, zf, zg]
   rfl
  refine zj (i := 14) (N := some 17) (v := undef) (a' := ?_) #[kx,kx,kx,kx,kx,kx,kx,kx,kx,kx,kx,kx,kx,kx,kx,km,km] rfl rfl (zh HT_.1 (by kernel_rfl)) (fun _ _ _ h => h) (kc ⟨by rfl, rfl⟩) ?_ ?_
  rotate_left
  ·
   simp only [kk, kz, ky, kj, zf, zg]
   rfl
  refine zj (i := 15) (N := some 18) (v := ?_) (a' := ?_) #[kx,kx,kx,kx,kx,kx,kx,kx,kx,kx,kx,kx,kx,kx,kx,kx,km] rfl rfl (zh HT_.1 (by kernel_rfl)) (fun _ _ _ h => h) (kh ⟨by rfl, ?_⟩) ?_ ?_
  rotate_left
  ·
   intro w'
   go_simp
   with_reducible rfl
  rotate_left
  ·
   simp only [kk, kz, ky, kj, zf, zg]
   rfl
  refine zj (i := 16) (N := some 2) (v := ?_) (a' := ?_) #[kx,kx,kx,kx,kx,kx,kx,kx,kx,kx,kx,kx,kx,kx,kx,kx,kx] rfl rfl (zh HT_.1 (by kernel_rfl)) (fun _ _ _ h => h) (kh ⟨by rfl, ?_⟩) ?_ ?_
  rotate_left
  ·
   intro w'
   go_simp
   with_reducible rfl
  rotate_left
  ·
   simp only [kk, kz, ky, kj, zf, zg]
   rfl
  refine done_ (done_of HT_.1 (by kernel_rfl)) ?_
  try go_wp2
  go_ret
  exact ⟨by rfl, by repeat ((with_reducible first | exact HB.1 | apply za))⟩
/-! ### spec_l1Compare: function 51 -/
def spec_l1Compare.j0 : Nat → Bool → Int → Int → Int → Int → Option (Int)
 | 0, _, _, _, _, _ => none
 | k + 1, x5, x194000, x194001, x195000, x195001 => if x5 = true then (some (-1)) else (if (x194000 == x195000 && (x194001 == x195001)) = true then (some 0) else (some 1))
def spec_l1Compare.f (k : Nat) (a0_0 : Int) (a0_1 : Int) (a1_0 : Int) (a1_1 : Int) : Option (Int) := if a0_0 < a1_0 then (spec_l1Compare.j0 k true a0_0 a0_1 a1_0 a1_1) else (if a0_0 = a1_0 then (spec_l1Compare.j0 k (decide (a0_1 < a1_1)) a0_0 a0_1 a1_0 a1_1) else (spec_l1Compare.j0 k false a0_0 a0_1 a1_0 a1_1))
theorem spec_l1Compare.calls (k : Nat) (a0_0 : Int) (a0_1 : Int) (a1_0 : Int) (a1_1 : Int) (r : Int) (w : World) (h : spec_l1Compare.f k a0_0 a0_1 a1_0 a1_1 = some r) :
  Calls Try.prog 51 #[.agg #[.int .i64 a0_0, .int .i64 a0_1], .agg #[.int .i64 a1_0, .int .i64 a1_1]] w fun e w' => e = .returned (.int .i64 r) ∧ Below w.heap.size w w' := by
 have hu37 := Try.underlying37
 have HB := kv (Below.refl w.heap.size w)
 have H : (if a0_0 < a1_0 then (spec_l1Compare.j0 k true a0_0 a0_1 a1_0 a1_1) else (if a0_0 = a1_0 then (spec_l1Compare.j0 k (decide (a0_1 < a1_1)) a0_0 a0_1 a1_0 a1_1) else (spec_l1Compare.j0 k false a0_0 a0_1 a1_0 a1_1))) = some r := h
 clear h
 have HC3 := kv H
 clear H
 go_enter Try.func51, Try.ntmps51
 go_upto_region 1 with (first | ((with_reducible refine gate_dst (N := 2) rfl ?_); refine box_event rfl (N := 2) rfl (cs := #[.int .i64 a0_0, .int .i64 a0_1]) (t := 37) ?hr ?_; (case hr => go_simp; done); intro gb193 hg w4 hbox hb; replace HB := kv (zo HB.1 hb); have zs := kv hbox; clear hb hbox hg) | ((with_reducible refine gate_dst (N := 3) rfl ?_); refine box_event rfl (N := 3) rfl (cs := #[.int .i64 a1_0, .int .i64 a1_1]) (t := 37) ?hr ?_; (case hr => go_simp; done); intro gb194 hg w5 hbox hb; replace HB := kv (zo HB.1 hb); have zt := kv hbox; have zu := kv (by rw [hg]; exact Nat.ne_of_lt (blk_lt zs.1) : gb193 ≠ gb194); have zv := kv (by rw [hg]; exact Nat.ne_of_gt (blk_lt zs.1) : gb194 ≠ gb193); replace zs := kv (blk_below zs.1 hb); clear hb hbox hg))
 (try simp only [kk, kz, ky, kj])
 go_cut [5] (fun v5 wc => ∃ (kq : Nat) (x5_2 : Bool), v5 = .bool x5_2 ∧ Aside0 (spec_l1Compare.j0 kq x5_2 a0_0 a0_1 a1_0 a1_1 = some r) ∧ Aside0 (kq ≤ k) ∧ Aside0 (wc.heap[gb193]? = some (.cells #[.int .i64 a0_0, .int .i64 a0_1] 37 (0, 0))) ∧ Aside0 (wc.heap[gb194]? = some (.cells #[.int .i64 a1_0, .int .i64 a1_1] 37 (0, 0))) ∧ Aside0 (Below w.heap.size w wc))
 case first =>
  have H := HC3.1
  clear HC3
  by_cases c6 : a0_0 < a1_0
  ·
   rw [if_pos c6] at H
   have c6b0 : decide (a0_0 < a1_0) = true := decide_eq_true c6
   clear c6
   skip
   have H' := kv H
   clear H
   have hnb7 := zu.1
   have hnc7 := zv.1
   have hcz8_0 : w5.cell? ⟨gb193, 0, none⟩ = some (.int .i64 a0_0) := (zd zs.1 0).trans rfl
   have hcz8_1 : w5.cell? ⟨gb193, 1, none⟩ = some (.int .i64 a0_1) := (zd zs.1 1).trans rfl
   have hfz8_0 := ze zs.1 0
   have hfz8_1 := ze zs.1 1
   have hcz9_0 : w5.cell? ⟨gb194, 0, none⟩ = some (.int .i64 a1_0) := (zd zt.1 0).trans rfl
   have hcz9_1 : w5.cell? ⟨gb194, 1, none⟩ = some (.int .i64 a1_1) := (zd zt.1 1).trans rfl
   have hfz9_0 := ze zt.1 0
   have hfz9_1 := ze zt.1 1
   go_wp2
   go_meet
   case rel => exact ⟨_, (true), (by rfl), H', ⟨by omega⟩, ⟨by exact zs.1⟩, ⟨by exact zt.1⟩, ⟨by exact HB.1⟩⟩
  ·
   rw [if_neg c6] at H
   have c6b0 : decide (a0_0 < a1_0) = false := decide_eq_false c6
   clear c6
   skip
   by_cases c10 : a0_0 = a1_0
   ·
    rw [if_pos c10] at H
    have c10b0 : (a0_0 == a1_0) = true := beq_iff_eq.mpr c10
    have c10b1 : (a0_0 != a1_0) = false := bne_eq_false_iff_eq.mpr c10
    clear c10
    have H' := kv H
    clear H
    have hnb11 := zu.1
    have hnc11 := zv.1
    have hcz12_0 : w5.cell? ⟨gb193, 0, none⟩ = some (.int .i64 a0_0) := (zd zs.1 0).trans rfl
    have hcz12_1 : w5.cell? ⟨gb193, 1, none⟩ = some (.int .i64 a0_1) := (zd zs.1 1).trans rfl
    have hfz12_0 := ze zs.1 0
    have hfz12_1 := ze zs.1 1
    have hcz13_0 : w5.cell? ⟨gb194, 0, none⟩ = some (.int .i64 a1_0) := (zd zt.1 0).trans rfl
    have hcz13_1 : w5.cell? ⟨gb194, 1, none⟩ = some (.int .i64 a1_1) := (zd zt.1 1).trans rfl
    have hfz13_0 := ze zt.1 0
    have hfz13_1 := ze zt.1 1
    go_wp2
    go_meet
    case rel => exact ⟨_, (decide (a0_1 < a1_1)), (by rfl), H', ⟨by omega⟩, ⟨by exact zs.1⟩, ⟨by exact zt.1⟩, ⟨by exact HB.1⟩⟩
   ·
    rw [if_neg c10] at H
    have c10b0 : (a0_0 == a1_0) = false := beq_eq_false_iff_ne.mpr c10
    have c10b1 : (a0_0 != a1_0) = true := bne_iff_ne.mpr c10
    have H' := kv H
    clear H
    have hnb14 := zu.1
    have hnc14 := zv.1
    have hcz15_0 : w5.cell? ⟨gb193, 0, none⟩ = some (.int .i64 a0_0) := (zd zs.1 0).trans rfl
    have hcz15_1 : w5.cell? ⟨gb193, 1, none⟩ = some (.int .i64 a0_1) := (zd zs.1 1).trans rfl
    have hfz15_0 := ze zs.1 0
    have hfz15_1 := ze zs.1 1
    have hcz16_0 : w5.cell? ⟨gb194, 0, none⟩ = some (.int .i64 a1_0) := (zd zt.1 0).trans rfl
    have hcz16_1 : w5.cell? ⟨gb194, 1, none⟩ = some (.int .i64 a1_1) := (zd zt.1 1).trans rfl
    have hfz16_0 := ze zt.1 0
    have hfz16_1 := ze zt.1 1
    go_wp2
    go_meet
    case rel => exact ⟨_, (false), (by rfl), H', ⟨by omega⟩, ⟨by exact zs.1⟩, ⟨by exact zt.1⟩, ⟨by exact HB.1⟩⟩
 case rest =>
  clear HC3
  obtain ⟨kq, x5_2, rfl, HA, HJ2, zs, zt, HB⟩ := hcut
  cases kq with
  | zero => exact absurd HA.1 (by simp [spec_l1Compare.j0])
  | succ kj2 =>
   have H := HA.1
   clear HA
   simp only [spec_l1Compare.j0] at H
   by_cases c17 : x5_2 = true
   ·
    subst c17
    have H1 : (some (-1)) = some r := by rw [if_pos rfl] at H; exact H
    clear H
    have H := H1
    clear H1
    obtain rfl := kg H
    go_wp2
    go_ret
    exact ⟨by rfl, by exact HB.1⟩
   ·
    replace c17 := Bool.eq_false_iff.mpr c17
    subst c17
    have H1 : (if (a0_0 == a1_0 && (a0_1 == a1_1)) = true then (some 0) else (some 1)) = some r := by rw [if_neg (show ¬ (false = true) by decide)] at H; exact H
    clear H
    have H := H1
    clear H1
    by_cases c18 : (a0_0 == a1_0 && (a0_1 == a1_1)) = true
    ·
     rw [if_pos c18] at H
     have c18b0 : (a0_0 == a1_0 && (a0_1 == a1_1)) = true := c18
     (try (have c18b1 : decide (a0_0 = a1_0 && (a0_1 == a1_1)) = true := by simpa using c18))
     (try (have c18b2 : (a0_0 == a1_0 && (a0_1 == a1_1)) = true := by simpa using c18))
     clear c18
     obtain rfl := kg H
     have hnb19 := zu.1
     have hnc19 := zv.1
     have hcz20_0 : wc.cell? ⟨gb193, 0, none⟩ = some (.int .i64 a0_0) := (zd zs.1 0).trans rfl
     have hcz20_1 : wc.cell? ⟨gb193, 1, none⟩ = some (.int .i64 a0_1) := (zd zs.1 1).trans rfl
     have hfz20_0 := ze zs.1 0
     have hfz20_1 := ze zs.1 1
     have hcz21_0 : wc.cell? ⟨gb194, 0, none⟩ = some (.int .i64 a1_0) := (zd zt.1 0).trans rfl
     have hcz21_1 : wc.cell? ⟨gb194, 1, none⟩ = some (.int .i64 a1_1) := (zd zt.1 1).trans rfl
     have hfz21_0 := ze zt.1 0
     have hfz21_1 := ze zt.1 1
     go_wp2
     go_ret
     exact ⟨by rfl, by exact HB.1⟩
    ·
     rw [if_neg c18] at H
     have c18b0 : (a0_0 == a1_0 && (a0_1 == a1_1)) = false := by simpa using c18
     (try (have c18b1 : decide (a0_0 = a1_0 && (a0_1 == a1_1)) = false := by simpa using c18))
     (try (have c18b2 : (a0_0 == a1_0 && (a0_1 == a1_1)) = false := by simpa using c18))
     (try (have c18b3 : ¬ (a0_0 = a1_0 && (a0_1 == a1_1)) := by simpa using c18))
     clear c18
     obtain rfl := kg H
     have hnb22 := zu.1
     have hnc22 := zv.1
     have hcz23_0 : wc.cell? ⟨gb193, 0, none⟩ = some (.int .i64 a0_0) := (zd zs.1 0).trans rfl
     have hcz23_1 : wc.cell? ⟨gb193, 1, none⟩ = some (.int .i64 a0_1) := (zd zs.1 1).trans rfl
     have hfz23_0 := ze zs.1 0
     have hfz23_1 := ze zs.1 1
     have hcz24_0 : wc.cell? ⟨gb194, 0, none⟩ = some (.int .i64 a1_0) := (zd zt.1 0).trans rfl
     have hcz24_1 : wc.cell? ⟨gb194, 1, none⟩ = some (.int .i64 a1_1) := (zd zt.1 1).trans rfl
     have hfz24_0 := ze zt.1 0
     have hfz24_1 := ze zt.1 1
     go_wp2
     go_ret
     exact ⟨by rfl, by exact HB.1⟩
end Go.Proofs.Ytakoaogbkajkcaa.PFnLongest
