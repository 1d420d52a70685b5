/- Go functions told by Lean functions, printed by a program. No condition but what each statement says. -/
import Derived.Test.YtabejlfejlpkeaaYFnFewestx0
namespace Go.Proofs.Ytabejlfejlpkeaa.PFnFewest
open Go.RowKit Go.Proofs.YtabejlfejlpkeaaW.PrintWords Go.Proofs.YtabejlfejlpkeaaW.PrintLast Go.Proofs.YtabejlfejlpkeaaW.PrintMore
open List renaming setIfInBounds_toArray → kz, set_cons_zero → ky, set_cons_succ → kj, map_toArray → ke, map_cons → kb, map_nil → kd
open Aside0 renaming mk → kk
open Act renaming put → kv
open Or renaming inl → kh, inr → ko
open Option.some renaming inj → kg
open Option renaming bind_eq_some_iff → kf
open Try renaming underlying45 → kc, func82 → km, prog → ku
open Int renaming tmod → kx
open Bool renaming true → ks, false → kt
set_option maxHeartbeats 8000000
set_option maxRecDepth 100000
open Go.Proofs.YtabejlfejlpkeaaW.PrintLast renaming i64_w → ze, i32_w → zf, any_of → zg, pure_ → zj, take_ofW → zs, one_of → zt, take_ → zu, norm_ → zv, goes_ → zw
open Go.Proofs.YtabejlfejlpkeaaW.PrintWords renaming pw_below_drewN → za, below_drew1 → zb, below_alloc → zc, blk_cell → zd, below_size → zh, below_set → zi, below_step → zk, blk_drew → zl, blk_frozen → zm, blk_drewN → zn, blk_alloc → zo, box_event → zp, gate_dst → zq, blk_below → zr
attribute [local go_sem] max2_int min2_int max_two min_two max_three min_three max_four min_four
set_option linter.unusedVariables false
set_option linter.unusedSimpArgs false

/-! ### spec_l1In: function 82 -/
def spec_l1In.f (a0 : Int) (a1 : Int) (a2 : Int) : Option (Bool) := if a0 ≥ a1 then (some (decide (a0 ≤ a2))) else (some false)
theorem spec_l1In.calls (a0 : Int) (a1 : Int) (a2 : Int) (r : Bool) (w : World) (h : spec_l1In.f a0 a1 a2 = some r) :
  Calls ku 82 #[.int .i64 a0, .int .i64 a1, .int .i64 a2] w fun e w' => e = .returned (.bool r) ∧ Drawn0 w w' := by
 have H : (if a0 ≥ a1 then (some (decide (a0 ≤ a2))) else (some false)) = some r := h
 clear h
 by_cases c4 : a0 ≥ a1
 ·
  rw [if_pos c4] at H
  have c4b0 : decide (a1 ≤ a0) = true := decide_eq_true c4
  clear c4
  obtain rfl := kg H
  go_enter km, Try.ntmps82
  go_wp2
  go_ret
  exact ⟨by rfl, by repeat (exact Drawn0.refl _)⟩
 ·
  rw [if_neg c4] at H
  have c4b0 : decide (a1 ≤ a0) = false := decide_eq_false c4
  clear c4
  obtain rfl := kg H
  go_enter km, Try.ntmps82
  go_wp2
  go_ret
  exact ⟨by rfl, by repeat (exact Drawn0.refl _)⟩

/-! ### spec_l1Addr: function 52 -/
def spec_l1Addr.f (a0 : Int) : Option (Bool) := (spec_l1In.f a0 0 4294967295).bind fun t101 => (some t101)
theorem spec_l1Addr.calls (a0 : Int) (r : Bool) (w : World) (h : spec_l1Addr.f a0 = some r) :
  Calls ku 52 #[.int .i64 a0] w fun e w' => e = .returned (.bool r) ∧ Drawn0 w w' := by
 have H : ((spec_l1In.f a0 0 4294967295).bind fun t101 => (some t101)) = some r := h
 clear h
 replace H := kf.mp H
 obtain ⟨t101, A20, H⟩ := H
 replace H : (some t101) = some r := H
 have A2 := kk A20
 clear A20
 obtain rfl := kg H
 go_enter Try.func52, Try.ntmps52
 go_wp2_with (((with_reducible refine gate_callee (f := 82) rfl ?_); refine goesL_ (some 4) rfl rfl km (by kernel_rfl) rfl #[.int .i64 a0, .int .i64 0, .int .i64 4294967295] rfl (by (try simp only [ke, kb, kd]); rfl) ?_; (with_reducible refine (spec_l1In.calls a0 0 4294967295 t101 _ A2.1).mono ?_); rintro e w' ⟨rfl, ⟨nd, rfl⟩⟩; refine ⟨_, rfl, ?_⟩))
 go_ret
 exact ⟨by rfl, by repeat (first | exact Drawn0.refl _ | apply Drawn0.step)⟩

/-! ### spec_l1Size: function 62 -/
def spec_l1Size.f (a0_0 : Int) (a0_1 : Int) : Option (Int) := if 0 ≤ (IntKind.u64.wrap (wrap64 (32 - a0_1))) then (some (shl .i64 1 (IntKind.u64.wrap (wrap64 (32 - a0_1))))) else (none)
theorem spec_l1Size.calls (a0_0 : Int) (a0_1 : Int) (r : Int) (w : World) (h : spec_l1Size.f a0_0 a0_1 = some r) :
  Calls ku 62 #[.agg #[.int .i64 a0_0, .int .i64 a0_1]] w fun e w' => e = .returned (.int .i64 r) ∧ Below w.heap.size w w' := by
 have hu45 := kc
 have HB := kk (Below.refl w.heap.size w)
 have H : (if 0 ≤ (IntKind.u64.wrap (wrap64 (32 - a0_1))) then (some (shl .i64 1 (IntKind.u64.wrap (wrap64 (32 - a0_1))))) else (none)) = some r := h
 clear h
 obtain ⟨ji2, hji2⟩ : ∃ j_ : Int, (IntKind.u64.wrap (wrap64 (32 - a0_1))) = j_ := ⟨_, rfl⟩
 replace H : (if 0 ≤ (ji2) then (some (shl .i64 1 (ji2))) else (none)) = some r := by (rw [hji2] at H; exact H)
 by_cases c3 : 0 ≤ (ji2)
 ·
  rw [if_pos c3] at H
  have c3b0 := eq_true c3
  have c3b1 : decide (0 ≤ (ji2)) = true := decide_eq_true c3
  clear c3
  obtain ⟨ji4, hji4⟩ : ∃ j_ : Int, (shl .i64 1 (ji2)) = j_ := ⟨_, rfl⟩
  replace H : (some ji4) = some r := by (rw [hji4] at H; exact H)
  have hji4_ : (IntKind.i64.wrap (1 * 2 ^ min (ji2).toNat 64)) = ji4 := hji4
  have hji4z : (ji2) ≤ 64 → (IntKind.i64.wrap (1 * 2 ^ (ji2).toNat)) = ji4 := shl_small hji4
  have hji4u : (IntKind.i64.wrap (2 ^ min (ji2).toNat 64)) = ji4 := by have h_ := hji4_; rw [Int.one_mul] at h_; exact h_
  have hji4v : (ji2) ≤ 64 → (IntKind.i64.wrap (2 ^ (ji2).toNat)) = ji4 := fun hle_ => by have h_ := hji4z hle_; rw [Int.one_mul] at h_; exact h_
  have hji4y : (wrap64 (1 * 2 ^ min (ji2).toNat 64)) = ji4 := (ze _).symm.trans hji4_
  have hji4x : (ji2) ≤ 64 → (wrap64 (1 * 2 ^ (ji2).toNat)) = ji4 := fun h_ => (ze _).symm.trans (hji4z h_)
  obtain rfl := kg H
  go_enter Try.func62, Try.ntmps62
  go_wp2_with (((with_reducible refine zq (N := 1) rfl ?_); refine zp ?hg (N := 1) ?hd (cs := #[.int .i64 a0_0, .int .i64 a0_1]) (t := 45) ?hr ?_; (case hd => rfl); (case hg => rfl); (case hr => (go_simp; done)); intro gb102 hg w5 hbox hb; replace HB := kk (zk HB.1 hb); have BK102 := kk hbox; clear hb hbox hg; have hcz6_0 : w5.cell? ⟨gb102, 0, none⟩ = some (.int .i64 a0_0) := (zd BK102.1 0).trans rfl; have hcz6_1 : w5.cell? ⟨gb102, 1, none⟩ = some (.int .i64 a0_1) := (zd BK102.1 1).trans rfl; have hfz6_0 := zm BK102.1 0; have hfz6_1 := zm BK102.1 1))
  go_ret
  exact ⟨by rfl, by exact HB.1⟩
 ·
  rw [if_neg c3] at H
  exact absurd H (by simp)

/-! ### spec_GoodPrefix: function 68 -/
def spec_GoodPrefix.f (a0_0 : Int) (a0_1 : Int) : Option (Bool) := (spec_l1In.f a0_1 0 32).bind fun t104 => (if t104 = true then ((spec_l1Addr.f a0_0).bind fun t105 => (if t105 = true then ((spec_l1Size.f a0_0 a0_1).bind fun t106 => (if t106 = 0 then (none) else (some ((kx a0_0 t106) == 0)))) else (some false))) else (some false))
def spec_GoodPrefix.T1 : Bool × List (List Nat × List Nat) := (true, [([], []), ([0], [0]), ([1], [1]), ([2, 2], [2]), ([3], [3]), ([4, 3], [3, 4]), ([5, 3, 3], [3, 5]), ([3, 6], [3, 6]), ([7, 6], [7]), ([8], [8]), ([9, 8], [8, 9]), ([8], [8]), ([11, 8, 8], [8, 11]), ([10, 12, 8], [8, 10, 12]), ([13, 8], [8, 13]), ([8, 14], [8, 14]), ([15, 12, 0, 1, 2, 3, 4, 5, 6, 7, 8, 9, 10, 11, 12, 13, 14, 15], [15])])
def spec_GoodPrefix.B1 : List Nat := [0, 1, 3, 7, 15, 31, 63, 127, 255, 511, 1023, 511, 2559, 8191, 16383, 32767, 65535]
theorem spec_GoodPrefix.tab1 : rtab .any (opsOf Try.f68 1) = spec_GoodPrefix.T1 := by kernel_rfl
theorem spec_GoodPrefix.bits1 : waitsOk spec_GoodPrefix.T1.2 spec_GoodPrefix.B1 = true := by kernel_rfl
theorem spec_GoodPrefix.calls (a0_0 : Int) (a0_1 : Int) (r : Bool) (w : World) (h : spec_GoodPrefix.f a0_0 a0_1 = some r) :
  Calls ku 68 #[.agg #[.int .i64 a0_0, .int .i64 a0_1]] w fun e w' => e = .returned (.bool r) ∧ Below w.heap.size w w' := by
 have hu45 := kc
 have HB := kk (Below.refl w.heap.size w)
 have H : ((spec_l1In.f a0_1 0 32).bind fun t104 => (if t104 = true then ((spec_l1Addr.f a0_0).bind fun t105 => (if t105 = true then ((spec_l1Size.f a0_0 a0_1).bind fun t106 => (if t106 = 0 then (none) else (some ((kx a0_0 t106) == 0)))) else (some false))) else (some false))) = some r := h
 clear h
 replace H := kf.mp H
 obtain ⟨t104, A20, H⟩ := H
 replace H : (if t104 = true then ((spec_l1Addr.f a0_0).bind fun t105 => (if t105 = true then ((spec_l1Size.f a0_0 a0_1).bind fun t106 => (if t106 = 0 then (none) else (some ((kx a0_0 t106) == 0)))) else (some false))) else (some false)) = some r := H
 have A2 := kk A20
 clear A20
 by_cases c3 : t104 = true
 ·
  subst c3
  have H1 : ((spec_l1Addr.f a0_0).bind fun t105 => (if t105 = true then ((spec_l1Size.f a0_0 a0_1).bind fun t106 => (if t106 = 0 then (none) else (some ((kx a0_0 t106) == 0)))) else (some false))) = some r := by rw [if_pos rfl] at H; exact H
  clear H
  have H := H1
  clear H1
  replace H := kf.mp H
  obtain ⟨t105, A40, H⟩ := H
  replace H : (if t105 = true then ((spec_l1Size.f a0_0 a0_1).bind fun t106 => (if t106 = 0 then (none) else (some ((kx a0_0 t106) == 0)))) else (some false)) = some r := H
  have A4 := kk A40
  clear A40
  by_cases c5 : t105 = true
  ·
   subst c5
   have H1 : ((spec_l1Size.f a0_0 a0_1).bind fun t106 => (if t106 = 0 then (none) else (some ((kx a0_0 t106) == 0)))) = some r := by rw [if_pos rfl] at H; exact H
   clear H
   have H := H1
   clear H1
   replace H := kf.mp H
   obtain ⟨t106, A60, H⟩ := H
   replace H : (if t106 = 0 then (none) else (some ((kx a0_0 t106) == 0))) = some r := H
   have A6 := kk A60
   clear A60
   by_cases c7 : t106 = 0
   ·
    rw [if_pos c7] at H
    exact absurd H (by simp)
   ·
    rw [if_neg c7] at H
    have c7b0 : (t106 == 0) = false := beq_eq_false_iff_ne.mpr c7
    have c7b1 : (t106 != 0) = true := bne_iff_ne.mpr c7
    obtain rfl := kg H
    go_enter Try.func68, Try.ntmps68
    try go_wp2_with (((with_reducible refine zq (N := 1) rfl ?_); refine zp ?hg (N := 1) ?hd (cs := #[.int .i64 a0_0, .int .i64 a0_1]) (t := 45) ?hr ?_; (case hd => rfl); (case hg => rfl); (case hr => (go_simp; done)); intro gb103 hg w8 hbox hb; replace HB := kk (zk HB.1 hb); have zx := kk hbox; clear hb hbox hg))
    replace zx := kk (zl zx.1)
    replace HB := kk (zb HB.1)
    refine start_ (n := 17) (S := fun w' => w'.cell? ⟨gb103, 0, none⟩ = some (.int .i64 a0_0) ∧ w'.cell? ⟨gb103, 1, none⟩ = some (.int .i64 a0_1)) (ds := []) #[kt,kt,kt,kt,kt,kt,kt,kt,kt,kt,kt,kt,kt,kt,kt,kt,kt] (by kernel_rfl) rfl rfl ⟨(zd zx.1 0).trans rfl, (zd zx.1 1).trans rfl⟩ (fun hHeld => ?_); refine with_tabW spec_GoodPrefix.tab1 spec_GoodPrefix.bits1 (fun HT_ HW_ => ?_)
    generalize w8.drew = w9 at zx HB hHeld ⊢
    refine zj (i := 0) (N := some 3) (v := ?_) (a' := ?_) #[ks,kt,kt,kt,kt,kt,kt,kt,kt,kt,kt,kt,kt,kt,kt,kt,kt] rfl rfl (zg HT_.1 (by kernel_rfl)) (fun _ _ _ h => h) (kh ⟨by rfl, ?_⟩) ?_ ?_
    rotate_left
    ·
     intro w'
     go_simp
     with_reducible rfl
    rotate_left
    ·
     simp only [kv, kz, ky, kj, ze, zf]
     rfl
    refine zu (i := 1) (N := some 4) (v := ?_) (a' := ?_) #[ks,ks,kt,kt,kt,kt,kt,kt,kt,kt,kt,kt,kt,kt,kt,kt,kt] rfl rfl (zs HT_.1 HW_.1 (by kernel_rfl)) (fun _ _ _ h => h) (kh ⟨by rfl, ?_⟩) hHeld ?_ ?_
    rotate_left
    ·
     rintro w' ⟨s0, s1⟩
     go_simp
     with_reducible rfl
    rotate_left
    ·
     simp only [kv, kz, ky, kj, ze, zf]
     rfl
    refine one_ (i := 2) (N := some 5) #[ks,ks,ks,kt,kt,kt,kt,kt,kt,kt,kt,kt,kt,kt,kt,kt,kt] rfl rfl (zt HT_.1 (by kernel_rfl)) (by decide) (fun K hK => ?_)
    refine zw km (by kernel_rfl) rfl #[.int .i64 a0_1, .int .i64 0, .int .i64 32] (by rfl) rfl rfl (by (try simp only [ke, kb, kd]); rfl) ?_
    with_reducible refine (spec_l1In.calls a0_1 0 32 true _ A2.1).mono ?_
    rintro e w' ⟨rfl, ⟨nd, rfl⟩⟩
    refine ⟨_, rfl, ?_⟩
    refine hK.out _ _ ⟨(zd zx.1 0).trans rfl, (zd zx.1 1).trans rfl⟩ (fun hHeld => ?_)
    clear hK K
    refine zv (a' := ?_) ?_ ?_
    rotate_left
    ·
     show kv _ (some 5) _ = _
     simp only [kv, kz, ky, kj, ze, zf]
     rfl
    refine zj (i := 3) (N := some 6) (v := ?_) (a' := ?_) #[ks,ks,ks,ks,kt,kt,kt,kt,kt,kt,kt,kt,kt,kt,kt,kt,kt] rfl rfl (zg HT_.1 (by kernel_rfl)) (fun _ _ _ h => h) (kh ⟨by rfl, ?_⟩) ?_ ?_
    rotate_left
    ·
     intro w'
     go_simp
     with_reducible rfl
    rotate_left
    ·
     simp only [kv, kz, ky, kj, ze, zf]
     rfl
    refine zj (i := 4) (N := some 7) (v := ?_) (a' := ?_) #[ks,ks,ks,ks,ks,kt,kt,kt,kt,kt,kt,kt,kt,kt,kt,kt,kt] rfl rfl (zg HT_.1 (by kernel_rfl)) (fun _ _ _ h => h) (kh ⟨by rfl, ?_⟩) ?_ ?_
    rotate_left
    ·
     intro w'
     go_simp
     with_reducible rfl
    rotate_left
    ·
     simp only [kv, kz, ky, kj, ze, zf]
     rfl
    refine zu (i := 5) (N := some 8) (v := ?_) (a' := ?_) #[ks,ks,ks,ks,ks,ks,kt,kt,kt,kt,kt,kt,kt,kt,kt,kt,kt] rfl rfl (zs HT_.1 HW_.1 (by kernel_rfl)) (fun _ _ _ h => h) (kh ⟨by rfl, ?_⟩) hHeld ?_ ?_
    rotate_left
    ·
     rintro w' ⟨s0, s1⟩
     go_simp
     with_reducible rfl
    rotate_left
    ·
     simp only [kv, kz, ky, kj, ze, zf]
     rfl
    refine one_ (i := 6) (N := some 9) #[ks,ks,ks,ks,ks,ks,ks,kt,kt,kt,kt,kt,kt,kt,kt,kt,kt] rfl rfl (zt HT_.1 (by kernel_rfl)) (by decide) (fun K hK => ?_)
    refine zw Try.func52 (by kernel_rfl) rfl #[.int .i64 a0_0] (by rfl) rfl rfl (by (try simp only [ke, kb, kd]); rfl) ?_
    with_reducible refine (spec_l1Addr.calls a0_0 true _ A4.1).mono ?_
    rintro e w' ⟨rfl, ⟨nd, rfl⟩⟩
    refine ⟨_, rfl, ?_⟩
    refine hK.out _ _ ⟨(zd zx.1 0).trans rfl, (zd zx.1 1).trans rfl⟩ (fun hHeld => ?_)
    clear hK K
    refine zv (a' := ?_) ?_ ?_
    rotate_left
    ·
     show kv _ (some 9) _ = _
     simp only [kv, kz, ky, kj, ze, zf]
     rfl
    refine zj (i := 7) (N := some 10) (v := ?_) (a' := ?_) #[ks,ks,ks,ks,ks,ks,ks,ks,kt,kt,kt,kt,kt,kt,kt,kt,kt] rfl rfl (zg HT_.1 (by kernel_rfl)) (fun _ _ _ h => h) (kh ⟨by rfl, ?_⟩) ?_ ?_
    rotate_left
    ·
     intro w'
     go_simp
     with_reducible rfl
    rotate_left
    ·
     simp only [kv, kz, ky, kj, ze, zf]
     rfl
    refine zj (i := 8) (N := some 11) (v := ?_) (a' := ?_) #[ks,ks,ks,ks,ks,ks,ks,ks,ks,kt,kt,kt,kt,kt,kt,kt,kt] rfl rfl (zg HT_.1 (by kernel_rfl)) (fun _ _ _ h => h) (kh ⟨by rfl, ?_⟩) ?_ ?_
    rotate_left
    ·
     intro w'
     go_simp
     with_reducible rfl
    rotate_left
    ·
     simp only [kv, kz, ky, kj, ze, zf]
     rfl
    refine zj (i := 9) (N := some 12) (v := ?_) (a' := ?_) #[ks,ks,ks,ks,ks,ks,ks,ks,ks,ks,kt,kt,kt,kt,kt,kt,kt] rfl rfl (zg HT_.1 (by kernel_rfl)) (fun _ _ _ h => h) (kh ⟨by rfl, ?_⟩) ?_ ?_
    rotate_left
    ·
     intro w'
     go_simp
     with_reducible rfl
    rotate_left
    ·
     simp only [kv, kz, ky, kj, ze, zf]
     rfl
    refine zu (i := 10) (N := some 13) (v := ?_) (a' := ?_) #[ks,ks,ks,ks,ks,ks,ks,ks,ks,ks,ks,kt,kt,kt,kt,kt,kt] rfl rfl (zs HT_.1 HW_.1 (by kernel_rfl)) (fun _ _ _ h => h) (kh ⟨by rfl, ?_⟩) hHeld ?_ ?_
    rotate_left
    ·
     rintro w' ⟨s0, s1⟩
     go_simp
     with_reducible rfl
    rotate_left
    ·
     simp only [kv, kz, ky, kj, ze, zf]
     rfl
    refine zu (i := 11) (N := some 14) (v := ?_) (a' := ?_) #[ks,ks,ks,ks,ks,ks,ks,ks,ks,ks,ks,ks,kt,kt,kt,kt,kt] rfl rfl (zs HT_.1 HW_.1 (by kernel_rfl)) (fun _ _ _ h => h) (kh ⟨by rfl, ?_⟩) hHeld ?_ ?_
    rotate_left
    ·
     rintro w' ⟨s0, s1⟩
     go_simp
     with_reducible rfl
    rotate_left
    ·
     simp only [kv, kz, ky, kj, ze, zf]
     rfl
    refine one_ (i := 12) (N := some 15) #[ks,ks,ks,ks,ks,ks,ks,ks,ks,ks,ks,ks,ks,kt,kt,kt,kt] rfl rfl (zt HT_.1 (by kernel_rfl)) (by decide) (fun K hK => ?_)
    refine zw Try.func62 (by kernel_rfl) rfl #[.agg #[.int .i64 a0_0, .int .i64 a0_1]] (by rfl) rfl rfl (by (try simp only [ke, kb, kd]); rfl) ?_
    with_reducible refine (spec_l1Size.calls a0_0 a0_1 t106 _ A6.1).mono ?_
    rintro e w10 ⟨rfl, hb⟩
    refine ⟨_, rfl, ?_⟩
    replace zx := kk (zr (g := gb103) (o := .cells #[.int .i64 a0_0, .int .i64 a0_1] 45 (0, 0)) (by (with_reducible repeat (refine zn ?_ _)); exact zx.1) hb)
    replace HB := kk (zk (by repeat ((with_reducible first | exact HB.1 | apply za))) hb)
    (try clear hb)
    (try clear hb2)
    (try clear hk)
    (try clear hi)
    refine hK.out _ _ ⟨(zd zx.1 0).trans rfl, (zd zx.1 1).trans rfl⟩ (fun hHeld => ?_)
    clear hK K
    refine zv (a' := ?_) ?_ ?_
    rotate_left
    ·
     show kv _ (some 15) _ = _
     simp only [kv, kz, ky, kj, ze, zf]
     rfl
    refine zj (i := 13) (N := some 16) (v := ?_) (a' := ?_) #[ks,ks,ks,ks,ks,ks,ks,ks,ks,ks,ks,ks,ks,ks,kt,kt,kt] rfl rfl (zg HT_.1 (by kernel_rfl)) (fun _ _ _ h => h) (kh ⟨by rfl, ?_⟩) ?_ ?_
    rotate_left
    ·
     intro w'
     go_simp
     with_reducible rfl
    rotate_left
    ·
     simp only [kv, kz, ky, kj, ze, zf]
     rfl
    refine zj (i := 14) (N := some 17) (v := ?_) (a' := ?_) #[ks,ks,ks,ks,ks,ks,ks,ks,ks,ks,ks,ks,ks,ks,ks,kt,kt] rfl rfl (zg HT_.1 (by kernel_rfl)) (fun _ _ _ h => h) (kh ⟨by rfl, ?_⟩) ?_ ?_
    rotate_left
    ·
     intro w'
     go_simp
     with_reducible rfl
    rotate_left
    ·
     simp only [kv, kz, ky, kj, ze, zf]
     rfl
    refine zj (i := 15) (N := some 18) (v := ?_) (a' := ?_) #[ks,ks,ks,ks,ks,ks,ks,ks,ks,ks,ks,ks,ks,ks,ks,ks,kt] rfl rfl (zg HT_.1 (by kernel_rfl)) (fun _ _ _ h => h) (kh ⟨by rfl, ?_⟩) ?_ ?_
    rotate_left
    ·
     intro w'
     go_simp
     with_reducible rfl
    rotate_left
    ·
     simp only [kv, kz, ky, kj, ze, zf]
     rfl
    refine zj (i := 16) (N := some 2) (v := ?_) (a' := ?_) #[ks,ks,ks,ks,ks,ks,ks,ks,ks,ks,ks,ks,ks,ks,ks,ks,ks] rfl rfl (zg HT_.1 (by kernel_rfl)) (fun _ _ _ h => h) (kh ⟨by rfl, ?_⟩) ?_ ?_
    rotate_left
    ·
     intro w'
     go_simp
     with_reducible rfl
    rotate_left
    ·
     simp only [kv, kz, ky, kj, ze, zf]
     rfl
    refine done_ (done_of HT_.1 (by kernel_rfl)) ?_
    try go_wp2
    go_ret
    exact ⟨by rfl, by exact HB.1⟩
  ·
   replace c5 := Bool.eq_false_iff.mpr c5
   subst c5
   have H1 : (some false) = some r := by rw [if_neg (show ¬ (false = true) by decide)] at H; exact H
   clear H
   have H := H1
   clear H1
   obtain rfl := kg H
   go_enter Try.func68, Try.ntmps68
   try go_wp2_with (((with_reducible refine zq (N := 1) rfl ?_); refine zp ?hg (N := 1) ?hd (cs := #[.int .i64 a0_0, .int .i64 a0_1]) (t := 45) ?hr ?_; (case hd => rfl); (case hg => rfl); (case hr => (go_simp; done)); intro gb103 hg w11 hbox hb; replace HB := kk (zk HB.1 hb); have zx := kk hbox; clear hb hbox hg))
   replace zx := kk (zl zx.1)
   replace HB := kk (zb HB.1)
   refine start_ (n := 17) (S := fun w' => w'.cell? ⟨gb103, 0, none⟩ = some (.int .i64 a0_0) ∧ w'.cell? ⟨gb103, 1, none⟩ = some (.int .i64 a0_1)) (ds := []) #[kt,kt,kt,kt,kt,kt,kt,kt,kt,kt,kt,kt,kt,kt,kt,kt,kt] (by kernel_rfl) rfl rfl ⟨(zd zx.1 0).trans rfl, (zd zx.1 1).trans rfl⟩ (fun hHeld => ?_); refine with_tabW spec_GoodPrefix.tab1 spec_GoodPrefix.bits1 (fun HT_ HW_ => ?_)
   generalize w11.drew = w12 at zx HB hHeld ⊢
   refine zj (i := 0) (N := some 3) (v := ?_) (a' := ?_) #[ks,kt,kt,kt,kt,kt,kt,kt,kt,kt,kt,kt,kt,kt,kt,kt,kt] rfl rfl (zg HT_.1 (by kernel_rfl)) (fun _ _ _ h => h) (kh ⟨by rfl, ?_⟩) ?_ ?_
   rotate_left
   ·
    intro w'
    go_simp
    with_reducible rfl
   rotate_left
   ·
    simp only [kv, kz, ky, kj, ze, zf]
    rfl
   refine zu (i := 1) (N := some 4) (v := ?_) (a' := ?_) #[ks,ks,kt,kt,kt,kt,kt,kt,kt,kt,kt,kt,kt,kt,kt,kt,kt] rfl rfl (zs HT_.1 HW_.1 (by kernel_rfl)) (fun _ _ _ h => h) (kh ⟨by rfl, ?_⟩) hHeld ?_ ?_
   rotate_left
   ·
    rintro w' ⟨s0, s1⟩
    go_simp
    with_reducible rfl
   rotate_left
   ·
    simp only [kv, kz, ky, kj, ze, zf]
    rfl
   refine one_ (i := 2) (N := some 5) #[ks,ks,ks,kt,kt,kt,kt,kt,kt,kt,kt,kt,kt,kt,kt,kt,kt] rfl rfl (zt HT_.1 (by kernel_rfl)) (by decide) (fun K hK => ?_)
   refine zw km (by kernel_rfl) rfl #[.int .i64 a0_1, .int .i64 0, .int .i64 32] (by rfl) rfl rfl (by (try simp only [ke, kb, kd]); rfl) ?_
   with_reducible refine (spec_l1In.calls a0_1 0 32 true _ A2.1).mono ?_
   rintro e w' ⟨rfl, ⟨nd, rfl⟩⟩
   refine ⟨_, rfl, ?_⟩
   refine hK.out _ _ ⟨(zd zx.1 0).trans rfl, (zd zx.1 1).trans rfl⟩ (fun hHeld => ?_)
   clear hK K
   refine zv (a' := ?_) ?_ ?_
   rotate_left
   ·
    show kv _ (some 5) _ = _
    simp only [kv, kz, ky, kj, ze, zf]
    rfl
   refine zj (i := 3) (N := some 6) (v := ?_) (a' := ?_) #[ks,ks,ks,ks,kt,kt,kt,kt,kt,kt,kt,kt,kt,kt,kt,kt,kt] rfl rfl (zg HT_.1 (by kernel_rfl)) (fun _ _ _ h => h) (kh ⟨by rfl, ?_⟩) ?_ ?_
   rotate_left
   ·
    intro w'
    go_simp
    with_reducible rfl
   rotate_left
   ·
    simp only [kv, kz, ky, kj, ze, zf]
    rfl
   refine zj (i := 4) (N := some 7) (v := ?_) (a' := ?_) #[ks,ks,ks,ks,ks,kt,kt,kt,kt,kt,kt,kt,kt,kt,kt,kt,kt] rfl rfl (zg HT_.1 (by kernel_rfl)) (fun _ _ _ h => h) (kh ⟨by rfl, ?_⟩) ?_ ?_
   rotate_left
   ·
    intro w'
    go_simp
    with_reducible rfl
   rotate_left
   ·
    simp only [kv, kz, ky, kj, ze, zf]
    rfl
   refine zu (i := 5) (N := some 8) (v := ?_) (a' := ?_) #[ks,ks,ks,ks,ks,ks,kt,kt,kt,kt,kt,kt,kt,kt,kt,kt,kt] rfl rfl (zs HT_.1 HW_.1 (by kernel_rfl)) (fun _ _ _ h => h) (kh ⟨by rfl, ?_⟩) hHeld ?_ ?_
   rotate_left
   ·
    rintro w' ⟨s0, s1⟩
    go_simp
    with_reducible rfl
   rotate_left
   ·
    simp only [kv, kz, ky, kj, ze, zf]
    rfl
   refine one_ (i := 6) (N := some 9) #[ks,ks,ks,ks,ks,ks,ks,kt,kt,kt,kt,kt,kt,kt,kt,kt,kt] rfl rfl (zt HT_.1 (by kernel_rfl)) (by decide) (fun K hK => ?_)
   refine zw Try.func52 (by kernel_rfl) rfl #[.int .i64 a0_0] (by rfl) rfl rfl (by (try simp only [ke, kb, kd]); rfl) ?_
   with_reducible refine (spec_l1Addr.calls a0_0 false _ A4.1).mono ?_
   rintro e w' ⟨rfl, ⟨nd, rfl⟩⟩
   refine ⟨_, rfl, ?_⟩
   refine hK.out _ _ ⟨(zd zx.1 0).trans rfl, (zd zx.1 1).trans rfl⟩ (fun hHeld => ?_)
   clear hK K
   refine zv (a' := ?_) ?_ ?_
   rotate_left
   ·
    show kv _ (some 9) _ = _
    simp only [kv, kz, ky, kj, ze, zf]
    rfl
   refine zj (i := 7) (N := some 10) (v := ?_) (a' := ?_) #[ks,ks,ks,ks,ks,ks,ks,ks,kt,kt,kt,kt,kt,kt,kt,kt,kt] rfl rfl (zg HT_.1 (by kernel_rfl)) (fun _ _ _ h => h) (kh ⟨by rfl, ?_⟩) ?_ ?_
   rotate_left
   ·
    intro w'
    go_simp
    with_reducible rfl
   rotate_left
   ·
    simp only [kv, kz, ky, kj, ze, zf]
    rfl
   refine zj (i := 8) (N := some 11) (v := ?_) (a' := ?_) #[ks,ks,ks,ks,ks,ks,ks,ks,ks,kt,kt,kt,kt,kt,kt,kt,kt] rfl rfl (zg HT_.1 (by kernel_rfl)) (fun _ _ _ h => h) (kh ⟨by rfl, ?_⟩) ?_ ?_
   rotate_left
   ·
    intro w'
    go_simp
    with_reducible rfl
   rotate_left
   ·
    simp only [kv, kz, ky, kj, ze, zf]
    rfl
   refine zj (i := 9) (N := some 12) (v := undef) (a' := ?_) #[ks,ks,ks,ks,ks,ks,ks,ks,ks,ks,kt,kt,kt,kt,kt,kt,kt] rfl rfl (zg HT_.1 (by kernel_rfl)) (fun _ _ _ h => h) (ko ⟨by rfl, rfl⟩) ?_ ?_
   rotate_left
   ·
    simp only [kv, kz, ky, kj, ze, zf]
    rfl
   refine zj (i := 10) (N := some 13) (v := undef) (a' := ?_) #[ks,ks,ks,ks,ks,ks,ks,ks,ks,ks,ks,kt,kt,kt,kt,kt,kt] rfl rfl (zg HT_.1 (by kernel_rfl)) (fun _ _ _ h => h) (ko ⟨by rfl, rfl⟩) ?_ ?_
   rotate_left
   ·
    simp only [kv, kz, ky, kj, ze, zf]
    rfl
   refine zj (i := 11) (N := some 14) (v := undef) (a' := ?_) #[ks,ks,ks,ks,ks,ks,ks,ks,ks,ks,ks,ks,kt,kt,kt,kt,kt] rfl rfl (zg HT_.1 (by kernel_rfl)) (fun _ _ _ h => h) (ko ⟨by rfl, rfl⟩) ?_ ?_
   rotate_left
   ·
    simp only [kv, kz, ky, kj, ze, zf]
    rfl
   refine zj (i := 12) (N := some 15) (v := undef) (a' := ?_) #[ks,ks,ks,ks,ks,ks,ks,ks,ks,ks,ks,ks,ks,kt,kt,kt,kt] rfl rfl (zg HT_.1 (by kernel_rfl)) (fun _ _ _ h => h) (ko ⟨by rfl, rfl⟩) ?_ ?_
   rotate_left
   ·
    simp only [kv, kz, ky, kj, ze, zf]
    rfl
   refine zj (i := 13) (N := some 16) (v := undef) (a' := ?_) #[ks,ks,ks,ks,ks,ks,ks,ks,ks,ks,ks,ks,ks,ks,kt,kt,kt] rfl rfl (zg HT_.1 (by kernel_rfl)) (fun _ _ _ h => h) (ko ⟨by rfl, rfl⟩) ?_ ?_
   rotate_left
   ·
    simp only [kv, kz, ky, kj, ze, zf]
    rfl
   refine zj (i := 14) (N := some 17) (v := undef) (a' := ?_) #[ks,ks,ks,ks,ks,ks,ks,ks,ks,ks,ks,ks,ks,ks,ks,kt,kt] rfl rfl (zg HT_.1 (by kernel_rfl)) (fun _ _ _ h => h) (ko ⟨by rfl, rfl⟩) ?_ ?_
   rotate_left
   ·
    simp only [kv, kz, ky, kj, ze, zf]
    rfl
   refine zj (i := 15) (N := some 18) (v := ?_) (a' := ?_) #[ks,ks,ks,ks,ks,ks,ks,ks,ks,ks,ks,ks,ks,ks,ks,ks,kt] rfl rfl (zg HT_.1 (by kernel_rfl)) (fun _ _ _ h => h) (kh ⟨by rfl, ?_⟩) ?_ ?_
   rotate_left
   ·
    intro w'
    go_simp
    with_reducible rfl
   rotate_left
   ·
    simp only [kv, kz, ky, kj, ze, zf]
    rfl
   refine zj (i := 16) (N := some 2) (v := ?_) (a' := ?_) #[ks,ks,ks,ks,ks,ks,ks,ks,ks,ks,ks,ks,ks,ks,ks,ks,ks] rfl rfl (zg HT_.1 (by kernel_rfl)) (fun _ _ _ h => h) (kh ⟨by rfl, ?_⟩) ?_ ?_
   rotate_left
   ·
    intro w'
    go_simp
    with_reducible rfl
   rotate_left
   ·
    simp only [kv, kz, ky, kj, ze, zf]
    rfl
   refine done_ (done_of HT_.1 (by kernel_rfl)) ?_
   try go_wp2
   go_ret
   exact ⟨by rfl, by repeat ((with_reducible first | exact HB.1 | apply za))⟩
 ·
  replace c3 := Bool.eq_false_iff.mpr c3
  subst c3
  have H1 : (some false) = some r := by rw [if_neg (show ¬ (false = true) by decide)] at H; exact H
  clear H
  have H := H1
  clear H1
  obtain rfl := kg H
  go_enter Try.func68, Try.ntmps68
  try go_wp2_with (((with_reducible refine zq (N := 1) rfl ?_); refine zp ?hg (N := 1) ?hd (cs := #[.int .i64 a0_0, .int .i64 a0_1]) (t := 45) ?hr ?_; (case hd => rfl); (case hg => rfl); (case hr => (go_simp; done)); intro gb103 hg w13 hbox hb; replace HB := kk (zk HB.1 hb); have zx := kk hbox; clear hb hbox hg))
  replace zx := kk (zl zx.1)
  replace HB := kk (zb HB.1)
  refine start_ (n := 17) (S := fun w' => w'.cell? ⟨gb103, 0, none⟩ = some (.int .i64 a0_0) ∧ w'.cell? ⟨gb103, 1, none⟩ = some (.int .i64 a0_1)) (ds := []) #[kt,kt,kt,kt,kt,kt,kt,kt,kt,kt,kt,kt,kt,kt,kt,kt,kt] (by kernel_rfl) rfl rfl ⟨(zd zx.1 0).trans rfl, (zd zx.1 1).trans rfl⟩ (fun hHeld => ?_); refine with_tabW spec_GoodPrefix.tab1 spec_GoodPrefix.bits1 (fun HT_ HW_ => ?_)
  generalize w13.drew = w14 at zx HB hHeld ⊢
  refine zj (i := 0) (N := some 3) (v := ?_) (a' := ?_) #[ks,kt,kt,kt,kt,kt,kt,kt,kt,kt,kt,kt,kt,kt,kt,kt,kt] rfl rfl (zg HT_.1 (by kernel_rfl)) (fun _ _ _ h => h) (kh ⟨by rfl, ?_⟩) ?_ ?_
  rotate_left
  ·
   intro w'
   go_simp
   with_reducible rfl
  rotate_left
  ·
   simp only [kv, kz, ky, kj, ze, zf]
   rfl
  refine zu (i := 1) (N := some 4) (v := ?_) (a' := ?_) #[ks,ks,kt,kt,kt,kt,kt,kt,kt,kt,kt,kt,kt,kt,kt,kt,kt] rfl rfl (zs HT_.1 HW_.1 (by kernel_rfl)) (fun _ _ _ h => h) (kh ⟨by rfl, ?_⟩) hHeld ?_ ?_
  rotate_left
  ·
   rintro w' ⟨s0, s1⟩
   go_simp
   with_reducible rfl
  rotate_left
  ·
   simp only [kv, kz, ky, kj, ze, zf]
   rfl
  refine one_ (i := 2) (N := some 5) #[ks,ks,ks,kt,kt,kt,kt,kt,kt,kt,kt,kt,kt,kt,kt,kt,kt] rfl rfl (zt HT_.1 (by kernel_rfl)) (by decide) (fun K hK => ?_)
  refine zw km (by kernel_rfl) rfl #[.int .i64 a0_1, .int .i64 0, .int .i64 32] (by rfl) rfl rfl (by (try simp only [ke, kb, kd]); rfl) ?_
  with_reducible refine (spec_l1In.calls a0_1 0 32 false _ A2.1).mono ?_
  rintro e w' ⟨rfl, ⟨nd, rfl⟩⟩
  refine ⟨_, rfl, ?_⟩
  refine hK.out _ _ ⟨(zd zx.1 0).trans rfl, (zd zx.1 1).trans rfl⟩ (fun hHeld => ?_)
  clear hK K
  refine zv (a' := ?_) ?_ ?_
  rotate_left
  ·
   show kv _ (some 5) _ = _
   simp only [kv, kz, ky, kj, ze, zf]
   rfl
  refine zj (i := 3) (N := some 6) (v := ?_) (a' := ?_) #[ks,ks,ks,ks,kt,kt,kt,kt,kt,kt,kt,kt,kt,kt,kt,kt,kt] rfl rfl (zg HT_.1 (by kernel_rfl)) (fun _ _ _ h => h) (kh ⟨by rfl, ?_⟩) ?_ ?_
  rotate_left
  ·
   intro w'
   go_simp
   with_reducible rfl
  rotate_left
  ·
   simp only [kv, kz, ky, kj, ze, zf]
   rfl
  refine zj (i := 4) (N := some 7) (v := undef) (a' := ?_) #[ks,ks,ks,ks,ks,kt,kt,kt,kt,kt,kt,kt,kt,kt,kt,kt,kt] rfl rfl (zg HT_.1 (by kernel_rfl)) (fun _ _ _ h => h) (ko ⟨by rfl, rfl⟩) ?_ ?_
  rotate_left
  ·
   simp only [kv, kz, ky, kj, ze, zf]
   rfl
  refine zj (i := 5) (N := some 8) (v := undef) (a' := ?_) #[ks,ks,ks,ks,ks,ks,kt,kt,kt,kt,kt,kt,kt,kt,kt,kt,kt] rfl rfl (zg HT_.1 (by kernel_rfl)) (fun _ _ _ h => h) (ko ⟨by rfl, rfl⟩) ?_ ?_
  rotate_left
  ·
   simp only [kv, kz, ky, kj, ze, zf]
   rfl
  refine zj (i := 6) (N := some 9) (v := undef) (a' := ?_) #[ks,ks,ks,ks,ks,ks,ks,kt,kt,kt,kt,kt,kt,kt,kt,kt,kt] rfl rfl (zg HT_.1 (by kernel_rfl)) (fun _ _ _ h => h) (ko ⟨by rfl, rfl⟩) ?_ ?_
  rotate_left
  ·
   simp only [kv, kz, ky, kj, ze, zf]
   rfl
  refine zj (i := 7) (N := some 10) (v := ?_) (a' := ?_) #[ks,ks,ks,ks,ks,ks,ks,ks,kt,kt,kt,kt,kt,kt,kt,kt,kt] rfl rfl (zg HT_.1 (by kernel_rfl)) (fun _ _ _ h => h) (kh ⟨by rfl, ?_⟩) ?_ ?_
  rotate_left
  ·
   intro w'
   go_simp
   with_reducible rfl
  rotate_left
  ·
   simp only [kv, kz, ky, kj, ze, zf]
   rfl
  refine zj (i := 8) (N := some 11) (v := ?_) (a' := ?_) #[ks,ks,ks,ks,ks,ks,ks,ks,ks,kt,kt,kt,kt,kt,kt,kt,kt] rfl rfl (zg HT_.1 (by kernel_rfl)) (fun _ _ _ h => h) (kh ⟨by rfl, ?_⟩) ?_ ?_
  rotate_left
  ·
   intro w'
   go_simp
   with_reducible rfl
  rotate_left
  ·
   simp only [kv, kz, ky, kj, ze, zf]
   rfl
  refine zj (i := 9) (N := some 12) (v := undef) (a' := ?_) #[ks,ks,ks,ks,ks,ks,ks,ks,ks,ks,kt,kt,kt,kt,kt,kt,kt] rfl rfl (zg HT_.1 (by kernel_rfl)) (fun _ _ _ h => h) (ko ⟨by rfl, rfl⟩) ?_ ?_
  rotate_left
  ·
   simp only [kv, kz, ky, kj, ze, zf]
   rfl
  refine zj (i := 10) (N := some 13) (v := undef) (a' := ?_) #[ks,ks,ks,ks,ks,ks,ks,ks,ks,ks,ks,kt,kt,kt,kt,kt,kt] rfl rfl (zg HT_.1 (by kernel_rfl)) (fun _ _ _ h => h) (ko ⟨by rfl, rfl⟩) ?_ ?_
  rotate_left
  ·
   simp only [kv, kz, ky, kj, ze, zf]
   rfl
  refine zj (i := 11) (N := some 14) (v := undef) (a' := ?_) #[ks,ks,ks,ks,ks,ks,ks,ks,ks,ks,ks,ks,kt,kt,kt,kt,kt] rfl rfl (zg HT_.1 (by kernel_rfl)) (fun _ _ _ h => h) (ko ⟨by rfl, rfl⟩) ?_ ?_
  rotate_left
  ·
   simp only [kv, kz, ky, kj, ze, zf]
   rfl
  refine zj (i := 12) (N := some 15) (v := undef) (a' := ?_) #[ks,ks,ks,ks,ks,ks,ks,ks,ks,ks,ks,ks,ks,kt,kt,kt,kt] rfl rfl (zg HT_.1 (by kernel_rfl)) (fun _ _ _ h => h) (ko ⟨by rfl, rfl⟩) ?_ ?_
  rotate_left
  ·
   simp only [kv, kz, ky, kj, ze, zf]
   rfl
  refine zj (i := 13) (N := some 16) (v := undef) (a' := ?_) #[ks,ks,ks,ks,ks,ks,ks,ks,ks,ks,ks,ks,ks,ks,kt,kt,kt] rfl rfl (zg HT_.1 (by kernel_rfl)) (fun _ _ _ h => h) (ko ⟨by rfl, rfl⟩) ?_ ?_
  rotate_left
  ·
   simp only [kv, kz, ky, kj, ze, zf]
   rfl
  refine zj (i := 14) (N := some 17) (v := undef) (a' := ?_) #[ks,ks,ks,ks,ks,ks,ks,ks,ks,ks,ks,ks,ks,ks,ks,kt,kt] rfl rfl (zg HT_.1 (by kernel_rfl)) (fun _ _ _ h => h) (ko ⟨by rfl, rfl⟩) ?_ ?_
  rotate_left
  ·
   simp only [kv, kz, ky, kj, ze, zf]
   rfl
  refine zj (i := 15) (N := some 18) (v := ?_) (a' := ?_) #[ks,ks,ks,ks,ks,ks,ks,ks,ks,ks,ks,ks,ks,ks,ks,ks,kt] rfl rfl (zg HT_.1 (by kernel_rfl)) (fun _ _ _ h => h) (kh ⟨by rfl, ?_⟩) ?_ ?_
  rotate_left
  ·
   intro w'
   go_simp
   with_reducible rfl
  rotate_left
  ·
   simp only [kv, kz, ky, kj, ze, zf]
   rfl
  refine zj (i := 16) (N := some 2) (v := ?_) (a' := ?_) #[ks,ks,ks,ks,ks,ks,ks,ks,ks,ks,ks,ks,ks,ks,ks,ks,ks] rfl rfl (zg HT_.1 (by kernel_rfl)) (fun _ _ _ h => h) (kh ⟨by rfl, ?_⟩) ?_ ?_
  rotate_left
  ·
   intro w'
   go_simp
   with_reducible rfl
  rotate_left
  ·
   simp only [kv, kz, ky, kj, ze, zf]
   rfl
  refine done_ (done_of HT_.1 (by kernel_rfl)) ?_
  try go_wp2
  go_ret
  exact ⟨by rfl, by repeat ((with_reducible first | exact HB.1 | apply za))⟩

/-! ### spec_l3Good: function 44 -/
def spec_l3Good.l0 : Nat → List (S45) → List (S45) → Int → Int → Option (Bool)
 | 0, _, _, _, _ => none
 | k + 1, x0, x5, x6, x7 => if x7 < x6 then (if 0 ≤ x7 then (if x7 < (x5.length : Int) then ((spec_GoodPrefix.f ((rd_T45 x5 x7).f0) ((rd_T45 x5 x7).f1)).bind fun t109 => (if t109 = true then (spec_l3Good.l0 k x0 x5 x6 (wrap64 (x7 + 1))) else (some false))) else (none)) else (none)) else (some (decide ((x0.length : Int) ≤ 64)))
def spec_l3Good.f (k : Nat) (l0 : List (S45)) : Option (Bool) := spec_l3Good.l0 k l0 l0 (l0.length : Int) 0
theorem spec_l3Good.mono_l : ∀ k, (∀ y0 y1 y2 y3, LeO (spec_l3Good.l0 k y0 y1 y2 y3) (spec_l3Good.l0 (k + 1) y0 y1 y2 y3))
 | 0 => fun _ _ _ _ r h => by simp [spec_l3Good.l0] at h
 | k + 1 => by
  have ih0 := spec_l3Good.mono_l k
  ·
   intro y0 y1 y2 y3
   unfold spec_l3Good.l0
   repeat' first
   | (with_reducible exact ih0 _ _ _ _)
   | (with_reducible exact LeO.refl _)
   | (with_reducible refine LeO.ite ?_ ?_)
   | (with_reducible refine LeO.bind ?_ (fun _ => ?_))
theorem spec_l3Good.mono : ∀ a0 k, LeO (spec_l3Good.f k a0) (spec_l3Good.f (k + 1) a0) := by
 intro a0 k
 have ih0 := spec_l3Good.mono_l k
 unfold spec_l3Good.f
 repeat' first
   | (with_reducible exact ih0 _ _ _ _)
theorem spec_l3Good.calls (k : Nat) (A0 : Option Addr) (c0 : Nat) (l0 : List (S45)) (r : Bool) (w : World) (hr0 : Kd.C k45 w A0 l0.length l0) (hc0 : l0.length ≤ c0) (h : spec_l3Good.f k l0 = some r) :
  Calls ku 44 #[.slice A0 l0.length c0] w fun e w' => e = .returned (.bool r) ∧ Below w.heap.size w w' := by
 have hu45 := kc
 have HR0 := kk hr0
 have HC0 := kk hc0
 clear hr0 hc0
 have HB := kk (Below.refl w.heap.size w)
 have H : (spec_l3Good.l0 k l0 l0 (l0.length : Int) 0) = some r := h
 clear h
 have H' := kk H
 clear H
 go_enter Try.func44, Try.ntmps44
 go_wp2
 go_loopg [7] k (fun kq v7 w' => ∃ (x7_1 : Int), v7 = .int .i64 x7_1 ∧ Aside0 (spec_l3Good.l0 kq l0 l0 (l0.length : Int) x7_1 = some r) ∧ Aside0 (kq ≤ k) ∧ Aside0 (Below w.heap.size w w'))
 case atStart => exact ⟨(0), (by rfl), H', ⟨Nat.le_refl _⟩, ⟨by exact HB.1⟩⟩
 case round =>
  clear H'
  obtain ⟨x7_1, rfl, HA, HK1, HB⟩ := hrel
  cases gk with
  | zero => exact absurd HA.1 (by simp [spec_l3Good.l0])
  | succ k1 =>
   have H := HA.1
   clear HA
   simp only [spec_l3Good.l0] at H
   by_cases c2 : x7_1 < (l0.length : Int)
   ·
    rw [if_pos c2] at H
    have c2b0 : decide (x7_1 < (l0.length : Int)) = true := decide_eq_true c2
    clear c2
    by_cases c3 : 0 ≤ x7_1
    ·
     rw [if_pos c3] at H
     have c3b0 : decide (0 ≤ x7_1) = true := decide_eq_true c3
     clear c3
     by_cases c4 : x7_1 < (l0.length : Int)
     ·
      rw [if_pos c4] at H
      have c4b0 : decide (x7_1 < (l0.length : Int)) = true := decide_eq_true c4
      clear c4
      replace H := kf.mp H
      obtain ⟨t109, A50, H⟩ := H
      replace H : (if t109 = true then (spec_l3Good.l0 k1 l0 l0 (l0.length : Int) (wrap64 (x7_1 + 1))) else (some false)) = some r := H
      have A5 := kk A50
      clear A50
      by_cases c6 : t109 = true
      ·
       subst c6
       have H1 : (spec_l3Good.l0 k1 l0 l0 (l0.length : Int) (wrap64 (x7_1 + 1))) = some r := by rw [if_pos rfl] at H; exact H
       clear H
       have H := H1
       clear H1
       have H' := kk H
       clear H
       have p107 : 0 ≤ (x7_1 : Int) := of_decide_eq_true (by (with_reducible assumption))
       have q107 : x7_1 < (l0.length : Int) := of_decide_eq_true (by (with_reducible assumption))
       obtain ⟨ad107, e107, hx107_0, hx107_1⟩ := at_T45 HR0.1 x7_1 p107 q107
       cases e107
       replace hx107_0 := (HB.1.cell (World.block_lt_of_cell? w _ hx107_0)).trans hx107_0
       replace hx107_1 := (HB.1.cell (World.block_lt_of_cell? w _ hx107_1)).trans hx107_1
       replace p107 := eq_true p107
       replace q107 := eq_true q107
       go_wp2_with (first | ((with_reducible refine zq (N := 4) rfl ?_); refine zp ?hg (N := 4) ?hd (cs := #[.int .i64 0, .int .i64 0]) (t := 45) ?hr ?_; (case hd => rfl); (case hg => rfl); (case hr => (go_simp; done)); intro gb108 hg w7 hbox hb; have zz := kk hbox; have zE := kk ((by rw [hg]; exact (zh HB.1) : w.heap.size ≤ gb108)); replace HB := kk (zk HB.1 hb); clear hb hbox hg; have hcz8_0 : w7.cell? ⟨gb108, 0, none⟩ = some (.int .i64 0) := (zd zz.1 0).trans rfl; have hcz8_1 : w7.cell? ⟨gb108, 1, none⟩ = some (.int .i64 0) := (zd zz.1 1).trans rfl; have hfz8_0 := zm zz.1 0; have hfz8_1 := zm zz.1 1) | ((with_reducible refine gate_callee (f := 68) rfl ?_); refine goesL_ (some 12) rfl rfl Try.func68 (by kernel_rfl) rfl #[.agg #[.int .i64 ((rd_T45 l0 x7_1).f0), .int .i64 ((rd_T45 l0 x7_1).f1)]] rfl (by (try simp only [ke, kb, kd]); rfl) ?_; (with_reducible refine (spec_GoodPrefix.calls ((rd_T45 l0 x7_1).f0) ((rd_T45 l0 x7_1).f1) true _ A5.1).mono ?_); rintro e w9 ⟨rfl, hb⟩; refine ⟨_, rfl, ?_⟩; replace zz := kk (zr (g := gb108) (o := .cells #[.int .i64 ((rd_T45 l0 x7_1).f0), .int .i64 ((rd_T45 l0 x7_1).f1)] 45 (0, 0)) (by refine blk_put (cs := #[.int .i64 ((rd_T45 l0 x7_1).f0), .int .i64 0]) ?_ 1 _ rfl; refine blk_put (cs := #[.int .i64 0, .int .i64 0]) ?_ 0 _ rfl; exact zz.1) hb); replace HB := kk (zk (by repeat ((with_reducible first | exact HB.1 | refine zi ?_ zE.1))) hb); (try clear hb); (try clear hb2); (try clear hk); (try clear hi)))
       go_roundg k1
       case measure => have := HK1.1; omega
       case rel => exact ⟨(wrap64 (x7_1 + 1)), (by rfl), H', ⟨by have := HK1.1; omega⟩, ⟨by exact HB.1⟩⟩
      ·
       replace c6 := Bool.eq_false_iff.mpr c6
       subst c6
       have H1 : (some false) = some r := by rw [if_neg (show ¬ (false = true) by decide)] at H; exact H
       clear H
       have H := H1
       clear H1
       obtain rfl := kg H
       have p107 : 0 ≤ (x7_1 : Int) := of_decide_eq_true (by (with_reducible assumption))
       have q107 : x7_1 < (l0.length : Int) := of_decide_eq_true (by (with_reducible assumption))
       obtain ⟨ad107, e107, hx107_0, hx107_1⟩ := at_T45 HR0.1 x7_1 p107 q107
       cases e107
       replace hx107_0 := (HB.1.cell (World.block_lt_of_cell? w _ hx107_0)).trans hx107_0
       replace hx107_1 := (HB.1.cell (World.block_lt_of_cell? w _ hx107_1)).trans hx107_1
       replace p107 := eq_true p107
       replace q107 := eq_true q107
       go_wp2_with (first | ((with_reducible refine zq (N := 4) rfl ?_); refine zp ?hg (N := 4) ?hd (cs := #[.int .i64 0, .int .i64 0]) (t := 45) ?hr ?_; (case hd => rfl); (case hg => rfl); (case hr => (go_simp; done)); intro gb108 hg w10 hbox hb; have zz := kk hbox; have zE := kk ((by rw [hg]; exact (zh HB.1) : w.heap.size ≤ gb108)); replace HB := kk (zk HB.1 hb); clear hb hbox hg; have hcz11_0 : w10.cell? ⟨gb108, 0, none⟩ = some (.int .i64 0) := (zd zz.1 0).trans rfl; have hcz11_1 : w10.cell? ⟨gb108, 1, none⟩ = some (.int .i64 0) := (zd zz.1 1).trans rfl; have hfz11_0 := zm zz.1 0; have hfz11_1 := zm zz.1 1) | ((with_reducible refine gate_callee (f := 68) rfl ?_); refine goesL_ (some 12) rfl rfl Try.func68 (by kernel_rfl) rfl #[.agg #[.int .i64 ((rd_T45 l0 x7_1).f0), .int .i64 ((rd_T45 l0 x7_1).f1)]] rfl (by (try simp only [ke, kb, kd]); rfl) ?_; (with_reducible refine (spec_GoodPrefix.calls ((rd_T45 l0 x7_1).f0) ((rd_T45 l0 x7_1).f1) false _ A5.1).mono ?_); rintro e w12 ⟨rfl, hb⟩; refine ⟨_, rfl, ?_⟩; replace HB := kk (zk (by repeat ((with_reducible first | exact HB.1 | refine zi ?_ zE.1))) hb); (try clear hb); (try clear hb2); (try clear hk); (try clear hi)))
       go_ret
       exact ⟨by rfl, by exact HB.1⟩
     ·
      rw [if_neg c4] at H
      exact absurd H (by simp)
    ·
     rw [if_neg c3] at H
     exact absurd H (by simp)
   ·
    rw [if_neg c2] at H
    have c2b0 : decide (x7_1 < (l0.length : Int)) = false := decide_eq_false c2
    clear c2
    obtain rfl := kg H
    go_wp2
    go_ret
    exact ⟨by rfl, by exact HB.1⟩

/-! ### spec_l1HasAddr: function 53 -/
def spec_l1HasAddr.f (a0_0 : Int) (a0_1 : Int) (a1 : Int) : Option (Bool) := (spec_l1Size.f a0_0 a0_1).bind fun t111 => (if t111 = 0 then (none) else (some ((wrap64 (a1 - (kx a1 t111))) == a0_0)))
def spec_l1HasAddr.T1 : Bool × List (List Nat × List Nat) := (true, [([], []), ([], []), ([], []), ([2], [2]), ([1, 3], [1, 3]), ([0, 4], [0, 4]), ([], []), ([6], [6]), ([5, 7], [5, 7]), ([8, 3, 0, 1, 2, 3, 4, 5, 6, 7, 8], [8])])
def spec_l1HasAddr.B1 : List Nat := [0, 0, 0, 4, 14, 31, 0, 64, 255, 511]
theorem spec_l1HasAddr.tab1 : rtab .any (opsOf Try.f53 1) = spec_l1HasAddr.T1 := by kernel_rfl
theorem spec_l1HasAddr.bits1 : waitsOk spec_l1HasAddr.T1.2 spec_l1HasAddr.B1 = true := by kernel_rfl
theorem spec_l1HasAddr.calls (a0_0 : Int) (a0_1 : Int) (a1 : Int) (r : Bool) (w : World) (h : spec_l1HasAddr.f a0_0 a0_1 a1 = some r) :
  Calls ku 53 #[.agg #[.int .i64 a0_0, .int .i64 a0_1], .int .i64 a1] w fun e w' => e = .returned (.bool r) ∧ Below w.heap.size w w' := by
 have hu45 := kc
 have HB := kk (Below.refl w.heap.size w)
 have H : ((spec_l1Size.f a0_0 a0_1).bind fun t111 => (if t111 = 0 then (none) else (some ((wrap64 (a1 - (kx a1 t111))) == a0_0)))) = some r := h
 clear h
 replace H := kf.mp H
 obtain ⟨t111, A30, H⟩ := H
 replace H : (if t111 = 0 then (none) else (some ((wrap64 (a1 - (kx a1 t111))) == a0_0))) = some r := H
 have A3 := kk A30
 clear A30
 by_cases c4 : t111 = 0
 ·
  rw [if_pos c4] at H
  exact absurd H (by simp)
 ·
  rw [if_neg c4] at H
  have c4b0 : (t111 == 0) = false := beq_eq_false_iff_ne.mpr c4
  have c4b1 : (t111 != 0) = true := bne_iff_ne.mpr c4
  obtain rfl := kg H
  go_enter Try.func53, Try.ntmps53
  try go_wp2_with (((with_reducible refine zq (N := 2) rfl ?_); refine zp ?hg (N := 2) ?hd (cs := #[.int .i64 a0_0, .int .i64 a0_1]) (t := 45) ?hr ?_; (case hd => rfl); (case hg => rfl); (case hr => (go_simp; done)); intro gb110 hg w5 hbox hb; replace HB := kk (zk HB.1 hb); have zB := kk hbox; clear hb hbox hg))
  replace zB := kk (zl zB.1)
  replace HB := kk (zb HB.1)
  refine start_ (n := 10) (S := fun w' => w'.cell? ⟨gb110, 0, none⟩ = some (.int .i64 a0_0) ∧ w'.cell? ⟨gb110, 1, none⟩ = some (.int .i64 a0_1)) (ds := []) #[kt,kt,kt,kt,kt,kt,kt,kt,kt,kt] (by kernel_rfl) rfl rfl ⟨(zd zB.1 0).trans rfl, (zd zB.1 1).trans rfl⟩ (fun hHeld => ?_); refine with_tabW spec_l1HasAddr.tab1 spec_l1HasAddr.bits1 (fun HT_ HW_ => ?_)
  generalize w5.drew = w6 at zB HB hHeld ⊢
  refine zj (i := 0) (N := some 5) (v := ?_) (a' := ?_) #[ks,kt,kt,kt,kt,kt,kt,kt,kt,kt] rfl rfl (zg HT_.1 (by kernel_rfl)) (fun _ _ _ h => h) (kh ⟨by rfl, ?_⟩) ?_ ?_
  rotate_left
  ·
   intro w'
   go_simp
   with_reducible rfl
  rotate_left
  ·
   simp only [kv, kz, ky, kj, ze, zf]
   rfl
  refine zj (i := 1) (N := some 6) (v := ?_) (a' := ?_) #[ks,ks,kt,kt,kt,kt,kt,kt,kt,kt] rfl rfl (zg HT_.1 (by kernel_rfl)) (fun _ _ _ h => h) (kh ⟨by rfl, ?_⟩) ?_ ?_
  rotate_left
  ·
   intro w'
   go_simp
   with_reducible rfl
  rotate_left
  ·
   simp only [kv, kz, ky, kj, ze, zf]
   rfl
  refine zj (i := 6) (N := some 11) (v := ?_) (a' := ?_) #[ks,ks,kt,kt,kt,kt,ks,kt,kt,kt] rfl rfl (zg HT_.1 (by kernel_rfl)) (fun _ _ _ h => h) (kh ⟨by rfl, ?_⟩) ?_ ?_
  rotate_left
  ·
   intro w'
   go_simp
   with_reducible rfl
  rotate_left
  ·
   simp only [kv, kz, ky, kj, ze, zf]
   rfl
  refine zu (i := 2) (N := some 7) (v := ?_) (a' := ?_) #[ks,ks,ks,kt,kt,kt,ks,kt,kt,kt] rfl rfl (zs HT_.1 HW_.1 (by kernel_rfl)) (fun _ _ _ h => h) (kh ⟨by rfl, ?_⟩) hHeld ?_ ?_
  rotate_left
  ·
   rintro w' ⟨s0, s1⟩
   go_simp
   with_reducible rfl
  rotate_left
  ·
   simp only [kv, kz, ky, kj, ze, zf]
   rfl
  refine zu (i := 7) (N := some 12) (v := ?_) (a' := ?_) #[ks,ks,ks,kt,kt,kt,ks,ks,kt,kt] rfl rfl (zs HT_.1 HW_.1 (by kernel_rfl)) (fun _ _ _ h => h) (kh ⟨by rfl, ?_⟩) hHeld ?_ ?_
  rotate_left
  ·
   rintro w' ⟨s0, s1⟩
   go_simp
   with_reducible rfl
  rotate_left
  ·
   simp only [kv, kz, ky, kj, ze, zf]
   rfl
  refine one_ (i := 3) (N := some 8) #[ks,ks,ks,ks,kt,kt,ks,ks,kt,kt] rfl rfl (zt HT_.1 (by kernel_rfl)) (by decide) (fun K hK => ?_)
  refine zw Try.func62 (by kernel_rfl) rfl #[.agg #[.int .i64 a0_0, .int .i64 a0_1]] (by rfl) rfl rfl (by (try simp only [ke, kb, kd]); rfl) ?_
  with_reducible refine (spec_l1Size.calls a0_0 a0_1 t111 _ A3.1).mono ?_
  rintro e w7 ⟨rfl, hb⟩
  refine ⟨_, rfl, ?_⟩
  replace zB := kk (zr (g := gb110) (o := .cells #[.int .i64 a0_0, .int .i64 a0_1] 45 (0, 0)) zB.1 hb)
  replace HB := kk (zk HB.1 hb)
  (try clear hb)
  (try clear hb2)
  (try clear hk)
  (try clear hi)
  refine hK.out _ _ ⟨(zd zB.1 0).trans rfl, (zd zB.1 1).trans rfl⟩ (fun hHeld => ?_)
  clear hK K
  refine zv (a' := ?_) ?_ ?_
  rotate_left
  ·
   show kv _ (some 8) _ = _
   simp only [kv, kz, ky, kj, ze, zf]
   rfl
  refine zj (i := 4) (N := some 9) (v := ?_) (a' := ?_) #[ks,ks,ks,ks,ks,kt,ks,ks,kt,kt] rfl rfl (zg HT_.1 (by kernel_rfl)) (fun _ _ _ h => h) (kh ⟨by rfl, ?_⟩) ?_ ?_
  rotate_left
  ·
   intro w'
   go_simp
   with_reducible rfl
  rotate_left
  ·
   simp only [kv, kz, ky, kj, ze, zf]
   rfl
  refine zj (i := 5) (N := some 10) (v := ?_) (a' := ?_) #[ks,ks,ks,ks,ks,ks,ks,ks,kt,kt] rfl rfl (zg HT_.1 (by kernel_rfl)) (fun _ _ _ h => h) (kh ⟨by rfl, ?_⟩) ?_ ?_
  rotate_left
  ·
   intro w'
   go_simp
   with_reducible rfl
  rotate_left
  ·
   simp only [kv, kz, ky, kj, ze, zf]
   rfl
  refine zj (i := 8) (N := some 13) (v := ?_) (a' := ?_) #[ks,ks,ks,ks,ks,ks,ks,ks,ks,kt] rfl rfl (zg HT_.1 (by kernel_rfl)) (fun _ _ _ h => h) (kh ⟨by rfl, ?_⟩) ?_ ?_
  rotate_left
  ·
   intro w'
   go_simp
   with_reducible rfl
  rotate_left
  ·
   simp only [kv, kz, ky, kj, ze, zf]
   rfl
  refine zj (i := 9) (N := some 4) (v := ?_) (a' := ?_) #[ks,ks,ks,ks,ks,ks,ks,ks,ks,ks] rfl rfl (zg HT_.1 (by kernel_rfl)) (fun _ _ _ h => h) (kh ⟨by rfl, ?_⟩) ?_ ?_
  rotate_left
  ·
   intro w'
   go_simp
   with_reducible rfl
  rotate_left
  ·
   simp only [kv, kz, ky, kj, ze, zf]
   rfl
  refine done_ (done_of HT_.1 (by kernel_rfl)) ?_
  try go_wp2
  go_ret
  exact ⟨by rfl, by exact HB.1⟩

/-! ### spec_l1Covers: function 45 -/
def spec_l1Covers.f (a0_0 : Int) (a0_1 : Int) (a1_0 : Int) (a1_1 : Int) : Option (Bool) := if a0_1 ≤ a1_1 then ((spec_l1HasAddr.f a0_0 a0_1 a1_0).bind fun t114 => (some t114)) else (some false)
theorem spec_l1Covers.calls (a0_0 : Int) (a0_1 : Int) (a1_0 : Int) (a1_1 : Int) (r : Bool) (w : World) (h : spec_l1Covers.f a0_0 a0_1 a1_0 a1_1 = some r) :
  Calls ku 45 #[.agg #[.int .i64 a0_0, .int .i64 a0_1], .agg #[.int .i64 a1_0, .int .i64 a1_1]] w fun e w' => e = .returned (.bool r) ∧ Below w.heap.size w w' := by
 have hu45 := kc
 have HB := kk (Below.refl w.heap.size w)
 have H : (if a0_1 ≤ a1_1 then ((spec_l1HasAddr.f a0_0 a0_1 a1_0).bind fun t114 => (some t114)) else (some false)) = some r := h
 clear h
 by_cases c3 : a0_1 ≤ a1_1
 ·
  rw [if_pos c3] at H
  have c3b0 : decide (a0_1 ≤ a1_1) = true := decide_eq_true c3
  clear c3
  replace H := kf.mp H
  obtain ⟨t114, A40, H⟩ := H
  replace H : (some t114) = some r := H
  have A4 := kk A40
  clear A40
  obtain rfl := kg H
  go_enter Try.func45, Try.ntmps45
  go_wp2_with (first | ((with_reducible refine zq (N := 2) rfl ?_); refine zp ?hg (N := 2) ?hd (cs := #[.int .i64 a0_0, .int .i64 a0_1]) (t := 45) ?hr ?_; (case hd => rfl); (case hg => rfl); (case hr => (go_simp; done)); intro gb112 hg w5 hbox hb; replace HB := kk (zk HB.1 hb); have zy := kk hbox; clear hb hbox hg) | ((with_reducible refine zq (N := 3) rfl ?_); refine zp ?hg (N := 3) ?hd (cs := #[.int .i64 a1_0, .int .i64 a1_1]) (t := 45) ?hr ?_; (case hd => rfl); (case hg => rfl); (case hr => (go_simp; done)); intro gb113 hg w6 hbox hb; replace HB := kk (zk HB.1 hb); have zA := kk hbox; have NB112_113 := kk ((by rw [hg]; exact Nat.ne_of_lt (blk_lt (g := gb112) (o := .cells #[.int .i64 a0_0, .int .i64 a0_1] 45 (0, 0)) zy.1) : gb112 ≠ gb113)); have NB113_112 := kk ((by rw [hg]; exact Nat.ne_of_gt (blk_lt (g := gb112) (o := .cells #[.int .i64 a0_0, .int .i64 a0_1] 45 (0, 0)) zy.1) : gb113 ≠ gb112)); replace zy := kk (zr (g := gb112) (o := .cells #[.int .i64 a0_0, .int .i64 a0_1] 45 (0, 0)) zy.1 hb); clear hb hbox hg; have hnb7 := NB112_113.1; have hnc7 := NB113_112.1; have hcz8_0 : w6.cell? ⟨gb112, 0, none⟩ = some (.int .i64 a0_0) := (zd zy.1 0).trans rfl; have hcz8_1 : w6.cell? ⟨gb112, 1, none⟩ = some (.int .i64 a0_1) := (zd zy.1 1).trans rfl; have hfz8_0 := zm zy.1 0; have hfz8_1 := zm zy.1 1; have hcz9_0 : w6.cell? ⟨gb113, 0, none⟩ = some (.int .i64 a1_0) := (zd zA.1 0).trans rfl; have hcz9_1 : w6.cell? ⟨gb113, 1, none⟩ = some (.int .i64 a1_1) := (zd zA.1 1).trans rfl; have hfz9_0 := zm zA.1 0; have hfz9_1 := zm zA.1 1) | (go_at_call 53; (with_reducible refine (spec_l1HasAddr.calls a0_0 a0_1 a1_0 t114 _ A4.1).mono ?_); rintro e w10 ⟨rfl, hb⟩; replace zy := kk (zr (g := gb112) (o := .cells #[.int .i64 a0_0, .int .i64 a0_1] 45 (0, 0)) zy.1 hb); replace zA := kk (zr (g := gb113) (o := .cells #[.int .i64 a1_0, .int .i64 a1_1] 45 (0, 0)) zA.1 hb); replace HB := kk (zk HB.1 hb); (try clear hb); (try clear hb2); (try clear hk); (try clear hi)))
  go_ret
  exact ⟨by rfl, by exact HB.1⟩
 ·
  rw [if_neg c3] at H
  have c3b0 : decide (a0_1 ≤ a1_1) = false := decide_eq_false c3
  clear c3
  obtain rfl := kg H
  go_enter Try.func45, Try.ntmps45
  go_wp2_with (first | ((with_reducible refine zq (N := 2) rfl ?_); refine zp ?hg (N := 2) ?hd (cs := #[.int .i64 a0_0, .int .i64 a0_1]) (t := 45) ?hr ?_; (case hd => rfl); (case hg => rfl); (case hr => (go_simp; done)); intro gb112 hg w11 hbox hb; replace HB := kk (zk HB.1 hb); have zy := kk hbox; clear hb hbox hg) | ((with_reducible refine zq (N := 3) rfl ?_); refine zp ?hg (N := 3) ?hd (cs := #[.int .i64 a1_0, .int .i64 a1_1]) (t := 45) ?hr ?_; (case hd => rfl); (case hg => rfl); (case hr => (go_simp; done)); intro gb113 hg w12 hbox hb; replace HB := kk (zk HB.1 hb); have zA := kk hbox; have NB112_113 := kk ((by rw [hg]; exact Nat.ne_of_lt (blk_lt (g := gb112) (o := .cells #[.int .i64 a0_0, .int .i64 a0_1] 45 (0, 0)) zy.1) : gb112 ≠ gb113)); have NB113_112 := kk ((by rw [hg]; exact Nat.ne_of_gt (blk_lt (g := gb112) (o := .cells #[.int .i64 a0_0, .int .i64 a0_1] 45 (0, 0)) zy.1) : gb113 ≠ gb112)); replace zy := kk (zr (g := gb112) (o := .cells #[.int .i64 a0_0, .int .i64 a0_1] 45 (0, 0)) zy.1 hb); clear hb hbox hg; have hnb13 := NB112_113.1; have hnc13 := NB113_112.1; have hcz14_0 : w12.cell? ⟨gb112, 0, none⟩ = some (.int .i64 a0_0) := (zd zy.1 0).trans rfl; have hcz14_1 : w12.cell? ⟨gb112, 1, none⟩ = some (.int .i64 a0_1) := (zd zy.1 1).trans rfl; have hfz14_0 := zm zy.1 0; have hfz14_1 := zm zy.1 1; have hcz15_0 : w12.cell? ⟨gb113, 0, none⟩ = some (.int .i64 a1_0) := (zd zA.1 0).trans rfl; have hcz15_1 : w12.cell? ⟨gb113, 1, none⟩ = some (.int .i64 a1_1) := (zd zA.1 1).trans rfl; have hfz15_0 := zm zA.1 0; have hfz15_1 := zm zA.1 1))
  go_ret
  exact ⟨by rfl, by exact HB.1⟩

end Go.Proofs.Ytabejlfejlpkeaa.PFnFewest
