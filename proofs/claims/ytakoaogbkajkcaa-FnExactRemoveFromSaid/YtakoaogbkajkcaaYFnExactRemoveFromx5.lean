/- Go functions told by Lean functions, printed by a program. No condition but what each statement says. -/
import Derived.Test.YtakoaogbkajkcaaYFnExactRemoveFromx3
namespace Go.Proofs.Ytakoaogbkajkcaa.PFnExactRemoveFrom
open Go.RowKit Go.Proofs.YtakoaogbkajkcaaW.PrintWords Go.Proofs.YtakoaogbkajkcaaW.PrintLast Go.Proofs.YtakoaogbkajkcaaW.PrintMore
open List renaming setIfInBounds_toArray → kz, set_cons_zero → kq, set_cons_succ → ky, map_toArray → kh, map_cons → kf, map_nil → ke
open Aside0 renaming mk → kj
open Act renaming put → kk
open Or renaming inl → kv, inr → kc
open Option renaming bind_eq_some_iff → kg
open Try renaming underlying37 → kb
open Option.some renaming inj → kd
open Nat renaming ne_of_lt → ko, ne_of_gt → kx
open Int renaming tmod → km
open Bool renaming true → ku, false → ks
set_option maxHeartbeats 8000000
set_option maxRecDepth 100000
open Go.Proofs.YtakoaogbkajkcaaW.PrintLast renaming i64_w → zi, i32_w → zj, any_of → zk, pure_ → zl, take_ofW → zr, one_of → zw, take_ → zx, norm_ → zy, goes_ → zz
open Go.Proofs.YtakoaogbkajkcaaW.PrintWords renaming pw_below_drewN → za, below_drew1 → zb, blk_drewN → zc, blk_alloc → zd, blk_drew → ze, below_alloc → zf, below_set → zg, blk_cell → zh, below_size → zm, cell_far → zn, blk_frozen → zo, below_step → zp, blk_below → zq, box_event → zs, blk_far → zt, gate_dst → zu, blk_lt → zv
attribute [local go_sem] max2_int min2_int max_two min_two max_three min_three max_four min_four
set_option linter.unusedVariables false
set_option linter.unusedSimpArgs false

/-! ### spec_l1Addr: function 63 -/
def spec_l1Addr.f (a0 : Int) : Option (Bool) := (spec_l1In.f a0 0 4294967295).bind fun t152 => (some t152)
theorem spec_l1Addr.calls (a0 : Int) (r : Bool) (w : World) (h : spec_l1Addr.f a0 = some r) :
  Calls Try.prog 63 #[.int .i64 a0] w fun e w' => e = .returned (.bool r) ∧ Drawn0 w w' := by
 have H : ((spec_l1In.f a0 0 4294967295).bind fun t152 => (some t152)) = some r := h
 clear h
 replace H := kg.mp H
 obtain ⟨t152, A20, H⟩ := H
 replace H : (some t152) = some r := H
 have A2 := kj A20
 clear A20
 obtain rfl := kd H
 go_enter Try.func63, Try.ntmps63
 go_wp2_with (((with_reducible refine gate_callee (f := 58) rfl ?_); refine goesL_ (some 4) rfl rfl Try.func58 (by kernel_rfl) rfl #[.int .i64 a0, .int .i64 0, .int .i64 4294967295] rfl (by (try simp only [kh, kf, ke]); rfl) ?_; (with_reducible refine (spec_l1In.calls a0 0 4294967295 t152 _ A2.1).mono ?_); rintro e w' ⟨rfl, ⟨nd, rfl⟩⟩; refine ⟨_, rfl, ?_⟩))
 go_ret
 exact ⟨by rfl, by repeat (first | exact Drawn0.refl _ | apply Drawn0.step)⟩

/-! ### spec_l1Size: function 88 -/
def spec_l1Size.f (a0_0 : Int) (a0_1 : Int) : Option (Int) := if 0 ≤ (IntKind.u64.wrap (wrap64 (32 - a0_1))) then (some (shl .i64 1 (IntKind.u64.wrap (wrap64 (32 - a0_1))))) else (none)
theorem spec_l1Size.calls (a0_0 : Int) (a0_1 : Int) (r : Int) (w : World) (h : spec_l1Size.f a0_0 a0_1 = some r) :
  Calls Try.prog 88 #[.agg #[.int .i64 a0_0, .int .i64 a0_1]] w fun e w' => e = .returned (.int .i64 r) ∧ Below w.heap.size w w' := by
 have hu37 := kb
 have HB := kj (Below.refl w.heap.size w)
 have H : (if 0 ≤ (IntKind.u64.wrap (wrap64 (32 - a0_1))) then (some (shl .i64 1 (IntKind.u64.wrap (wrap64 (32 - a0_1))))) else (none)) = some r := h
 clear h
 obtain ⟨ji2, hji2⟩ : ∃ j_ : Int, (IntKind.u64.wrap (wrap64 (32 - a0_1))) = j_ := ⟨_, rfl⟩
 replace H : (if 0 ≤ (ji2) then (some (shl .i64 1 (ji2))) else (none)) = some r := by (rw [hji2] at H; exact H)
 by_cases c3 : 0 ≤ (ji2)
 ·
  rw [if_pos c3] at H
  have c3b0 := eq_true c3
  have c3b1 : decide (0 ≤ (ji2)) = true := decide_eq_true c3
  clear c3
  obtain ⟨ji4, hji4⟩ : ∃ j_ : Int, (shl .i64 1 (ji2)) = j_ := ⟨_, rfl⟩
  replace H : (some ji4) = some r := by (rw [hji4] at H; exact H)
  have hji4_ : (IntKind.i64.wrap (1 * 2 ^ min (ji2).toNat 64)) = ji4 := hji4
  have hji4z : (ji2) ≤ 64 → (IntKind.i64.wrap (1 * 2 ^ (ji2).toNat)) = ji4 := shl_small hji4
  have hji4u : (IntKind.i64.wrap (2 ^ min (ji2).toNat 64)) = ji4 := by have h_ := hji4_; rw [Int.one_mul] at h_; exact h_
  have hji4v : (ji2) ≤ 64 → (IntKind.i64.wrap (2 ^ (ji2).toNat)) = ji4 := fun hle_ => by have h_ := hji4z hle_; rw [Int.one_mul] at h_; exact h_
  have hji4y : (wrap64 (1 * 2 ^ min (ji2).toNat 64)) = ji4 := (zi _).symm.trans hji4_
  have hji4x : (ji2) ≤ 64 → (wrap64 (1 * 2 ^ (ji2).toNat)) = ji4 := fun h_ => (zi _).symm.trans (hji4z h_)
  obtain rfl := kd H
  go_enter Try.func88, Try.ntmps88
  go_wp2_with (((with_reducible refine zu (N := 1) rfl ?_); refine zs ?hg (N := 1) ?hd (cs := #[.int .i64 a0_0, .int .i64 a0_1]) (t := 37) ?hr ?_; (case hd => rfl); (case hg => rfl); (case hr => (go_simp; done)); intro gb153 hg w5 hbox hb; replace HB := kj (zp HB.1 hb); have BK153 := kj hbox; clear hb hbox hg; have hcz6_0 : w5.cell? ⟨gb153, 0, none⟩ = some (.int .i64 a0_0) := (zh BK153.1 0).trans rfl; have hcz6_1 : w5.cell? ⟨gb153, 1, none⟩ = some (.int .i64 a0_1) := (zh BK153.1 1).trans rfl; have hfz6_0 := zo BK153.1 0; have hfz6_1 := zo BK153.1 1))
  go_ret
  exact ⟨by rfl, by exact HB.1⟩
 ·
  rw [if_neg c3] at H
  exact absurd H (by simp)

/-! ### spec_GoodPrefix: function 49 -/
def spec_GoodPrefix.f (a0_0 : Int) (a0_1 : Int) : Option (Bool) := (spec_l1In.f a0_1 0 32).bind fun t155 => (if t155 = true then ((spec_l1Addr.f a0_0).bind fun t156 => (if t156 = true then ((spec_l1Size.f a0_0 a0_1).bind fun t157 => (if t157 = 0 then (none) else (some ((km a0_0 t157) == 0)))) else (some false))) else (some false))
def spec_GoodPrefix.T1 : Bool × List (List Nat × List Nat) := (true, [([], []), ([0], [0]), ([1], [1]), ([2, 2], [2]), ([3], [3]), ([4, 3], [3, 4]), ([5, 3, 3], [3, 5]), ([3, 6], [3, 6]), ([7, 6], [7]), ([8], [8]), ([9, 8], [8, 9]), ([8], [8]), ([11, 8, 8], [8, 11]), ([10, 12, 8], [8, 10, 12]), ([13, 8], [8, 13]), ([8, 14], [8, 14]), ([15, 12, 0, 1, 2, 3, 4, 5, 6, 7, 8, 9, 10, 11, 12, 13, 14, 15], [15])])
def spec_GoodPrefix.B1 : List Nat := [0, 1, 3, 7, 15, 31, 63, 127, 255, 511, 1023, 511, 2559, 8191, 16383, 32767, 65535]
theorem spec_GoodPrefix.tab1 : rtab .any (opsOf Try.f49 1) = spec_GoodPrefix.T1 := by kernel_rfl
theorem spec_GoodPrefix.bits1 : waitsOk spec_GoodPrefix.T1.2 spec_GoodPrefix.B1 = true := by kernel_rfl
theorem spec_GoodPrefix.calls (a0_0 : Int) (a0_1 : Int) (r : Bool) (w : World) (h : spec_GoodPrefix.f a0_0 a0_1 = some r) :
  Calls Try.prog 49 #[.agg #[.int .i64 a0_0, .int .i64 a0_1]] w fun e w' => e = .returned (.bool r) ∧ Below w.heap.size w w' := by
 have hu37 := kb
 have HB := kj (Below.refl w.heap.size w)
 have H : ((spec_l1In.f a0_1 0 32).bind fun t155 => (if t155 = true then ((spec_l1Addr.f a0_0).bind fun t156 => (if t156 = true then ((spec_l1Size.f a0_0 a0_1).bind fun t157 => (if t157 = 0 then (none) else (some ((km a0_0 t157) == 0)))) else (some false))) else (some false))) = some r := h
 clear h
 replace H := kg.mp H
 obtain ⟨t155, A20, H⟩ := H
 replace H : (if t155 = true then ((spec_l1Addr.f a0_0).bind fun t156 => (if t156 = true then ((spec_l1Size.f a0_0 a0_1).bind fun t157 => (if t157 = 0 then (none) else (some ((km a0_0 t157) == 0)))) else (some false))) else (some false)) = some r := H
 have A2 := kj A20
 clear A20
 by_cases c3 : t155 = true
 ·
  subst c3
  have H1 : ((spec_l1Addr.f a0_0).bind fun t156 => (if t156 = true then ((spec_l1Size.f a0_0 a0_1).bind fun t157 => (if t157 = 0 then (none) else (some ((km a0_0 t157) == 0)))) else (some false))) = some r := by rw [if_pos rfl] at H; exact H
  clear H
  have H := H1
  clear H1
  replace H := kg.mp H
  obtain ⟨t156, A40, H⟩ := H
  replace H : (if t156 = true then ((spec_l1Size.f a0_0 a0_1).bind fun t157 => (if t157 = 0 then (none) else (some ((km a0_0 t157) == 0)))) else (some false)) = some r := H
  have A4 := kj A40
  clear A40
  by_cases c5 : t156 = true
  ·
   subst c5
   have H1 : ((spec_l1Size.f a0_0 a0_1).bind fun t157 => (if t157 = 0 then (none) else (some ((km a0_0 t157) == 0)))) = some r := by rw [if_pos rfl] at H; exact H
   clear H
   have H := H1
   clear H1
   replace H := kg.mp H
   obtain ⟨t157, A60, H⟩ := H
   replace H : (if t157 = 0 then (none) else (some ((km a0_0 t157) == 0))) = some r := H
   have A6 := kj A60
   clear A60
   by_cases c7 : t157 = 0
   ·
    rw [if_pos c7] at H
    exact absurd H (by simp)
   ·
    rw [if_neg c7] at H
    have c7b0 : (t157 == 0) = false := beq_eq_false_iff_ne.mpr c7
    have c7b1 : (t157 != 0) = true := bne_iff_ne.mpr c7
    obtain rfl := kd H
    go_enter Try.func49, Try.ntmps49
    try go_wp2_with (((with_reducible refine zu (N := 1) rfl ?_); refine zs ?hg (N := 1) ?hd (cs := #[.int .i64 a0_0, .int .i64 a0_1]) (t := 37) ?hr ?_; (case hd => rfl); (case hg => rfl); (case hr => (go_simp; done)); intro gb154 hg w8 hbox hb; replace HB := kj (zp HB.1 hb); have zA := kj hbox; clear hb hbox hg))
    replace zA := kj (ze zA.1)
    replace HB := kj (zb HB.1)
    refine start_ (n := 17) (S := fun w' => w'.cell? ⟨gb154, 0, none⟩ = some (.int .i64 a0_0) ∧ w'.cell? ⟨gb154, 1, none⟩ = some (.int .i64 a0_1)) (ds := []) #[ks,ks,ks,ks,ks,ks,ks,ks,ks,ks,ks,ks,ks,ks,ks,ks,ks] (by kernel_rfl) rfl rfl ⟨(zh zA.1 0).trans rfl, (zh zA.1 1).trans rfl⟩ (fun hHeld => ?_); refine with_tabW spec_GoodPrefix.tab1 spec_GoodPrefix.bits1 (fun HT_ HW_ => ?_)
    generalize w8.drew = w9 at zA HB hHeld ⊢
    refine zl (i := 0) (N := some 3) (v := ?_) (a' := ?_) #[ku,ks,ks,ks,ks,ks,ks,ks,ks,ks,ks,ks,ks,ks,ks,ks,ks] rfl rfl (zk HT_.1 (by kernel_rfl)) (fun _ _ _ h => h) (kv ⟨by rfl, ?_⟩) ?_ ?_
    rotate_left
    ·
     intro w'
     go_simp
     with_reducible rfl
    rotate_left
    ·
     simp only [kk, kz, kq, ky, zi, zj]
     rfl
    refine zx (i := 1) (N := some 4) (v := ?_) (a' := ?_) #[ku,ku,ks,ks,ks,ks,ks,ks,ks,ks,ks,ks,ks,ks,ks,ks,ks] rfl rfl (zr HT_.1 HW_.1 (by kernel_rfl)) (fun _ _ _ h => h) (kv ⟨by rfl, ?_⟩) hHeld ?_ ?_
    rotate_left
    ·
     rintro w' ⟨s0, s1⟩
     go_simp
     with_reducible rfl
    rotate_left
    ·
     simp only [kk, kz, kq, ky, zi, zj]
     rfl
    refine one_ (i := 2) (N := some 5) #[ku,ku,ku,ks,ks,ks,ks,ks,ks,ks,ks,ks,ks,ks,ks,ks,ks] rfl rfl (zw HT_.1 (by kernel_rfl)) (by decide) (fun K hK => ?_)
    refine zz Try.func58 (by kernel_rfl) rfl #[.int .i64 a0_1, .int .i64 0, .int .i64 32] (by rfl) rfl rfl (by (try simp only [kh, kf, ke]); rfl) ?_
    with_reducible refine (spec_l1In.calls a0_1 0 32 true _ A2.1).mono ?_
    rintro e w' ⟨rfl, ⟨nd, rfl⟩⟩
    refine ⟨_, rfl, ?_⟩
    refine hK.out _ _ ⟨(zh zA.1 0).trans rfl, (zh zA.1 1).trans rfl⟩ (fun hHeld => ?_)
    clear hK K
    refine zy (a' := ?_) ?_ ?_
    rotate_left
    ·
     show kk _ (some 5) _ = _
     simp only [kk, kz, kq, ky, zi, zj]
     rfl
    refine zl (i := 3) (N := some 6) (v := ?_) (a' := ?_) #[ku,ku,ku,ku,ks,ks,ks,ks,ks,ks,ks,ks,ks,ks,ks,ks,ks] rfl rfl (zk HT_.1 (by kernel_rfl)) (fun _ _ _ h => h) (kv ⟨by rfl, ?_⟩) ?_ ?_
    rotate_left
    ·
     intro w'
     go_simp
     with_reducible rfl
    rotate_left
    ·
     simp only [kk, kz, kq, ky, zi, zj]
     rfl
    refine zl (i := 4) (N := some 7) (v := ?_) (a' := ?_) #[ku,ku,ku,ku,ku,ks,ks,ks,ks,ks,ks,ks,ks,ks,ks,ks,ks] rfl rfl (zk HT_.1 (by kernel_rfl)) (fun _ _ _ h => h) (kv ⟨by rfl, ?_⟩) ?_ ?_
    rotate_left
    ·
     intro w'
     go_simp
     with_reducible rfl
    rotate_left
    ·
     simp only [kk, kz, kq, ky, zi, zj]
     rfl
    refine zx (i := 5) (N := some 8) (v := ?_) (a' := ?_) #[ku,ku,ku,ku,ku,ku,ks,ks,ks,ks,ks,ks,ks,ks,ks,ks,ks] rfl rfl (zr HT_.1 HW_.1 (by kernel_rfl)) (fun _ _ _ h => h) (kv ⟨by rfl, ?_⟩) hHeld ?_ ?_
    rotate_left
    ·
     rintro w' ⟨s0, s1⟩
     go_simp
     with_reducible rfl
    rotate_left
    ·
     simp only [kk, kz, kq, ky, zi, zj]
     rfl
    refine one_ (i := 6) (N := some 9) #[ku,ku,ku,ku,ku,ku,ku,ks,ks,ks,ks,ks,ks,ks,ks,ks,ks] rfl rfl (zw HT_.1 (by kernel_rfl)) (by decide) (fun K hK => ?_)
    refine zz Try.func63 (by kernel_rfl) rfl #[.int .i64 a0_0] (by rfl) rfl rfl (by (try simp only [kh, kf, ke]); rfl) ?_
    with_reducible refine (spec_l1Addr.calls a0_0 true _ A4.1).mono ?_
    rintro e w' ⟨rfl, ⟨nd, rfl⟩⟩
    refine ⟨_, rfl, ?_⟩
    refine hK.out _ _ ⟨(zh zA.1 0).trans rfl, (zh zA.1 1).trans rfl⟩ (fun hHeld => ?_)
    clear hK K
    refine zy (a' := ?_) ?_ ?_
    rotate_left
    ·
     show kk _ (some 9) _ = _
     simp only [kk, kz, kq, ky, zi, zj]
     rfl
    refine zl (i := 7) (N := some 10) (v := ?_) (a' := ?_) #[ku,ku,ku,ku,ku,ku,ku,ku,ks,ks,ks,ks,ks,ks,ks,ks,ks] rfl rfl (zk HT_.1 (by kernel_rfl)) (fun _ _ _ h => h) (kv ⟨by rfl, ?_⟩) ?_ ?_
    rotate_left
    ·
     intro w'
     go_simp
     with_reducible rfl
    rotate_left
    ·
     simp only [kk, kz, kq, ky, zi, zj]
     rfl
    refine zl (i := 8) (N := some 11) (v := ?_) (a' := ?_) #[ku,ku,ku,ku,ku,ku,ku,ku,ku,ks,ks,ks,ks,ks,ks,ks,ks] rfl rfl (zk HT_.1 (by kernel_rfl)) (fun _ _ _ h => h) (kv ⟨by rfl, ?_⟩) ?_ ?_
    rotate_left
    ·
     intro w'
     go_simp
     with_reducible rfl
    rotate_left
    ·
     simp only [kk, kz, kq, ky, zi, zj]
     rfl
    refine zl (i := 9) (N := some 12) (v := ?_) (a' := ?_) #[ku,ku,ku,ku,ku,ku,ku,ku,ku,ku,ks,ks,ks,ks,ks,ks,ks] rfl rfl (zk HT_.1 (by kernel_rfl)) (fun _ _ _ h => h) (kv ⟨by rfl, ?_⟩) ?_ ?_
    rotate_left
    ·
     intro w'
     go_simp
     with_reducible rfl
    rotate_left
    ·
     simp only [kk, kz, kq, ky, zi, zj]
     rfl
    refine zx (i := 10) (N := some 13) (v := ?_) (a' := ?_) #[ku,ku,ku,ku,ku,ku,ku,ku,ku,ku,ku,ks,ks,ks,ks,ks,ks] rfl rfl (zr HT_.1 HW_.1 (by kernel_rfl)) (fun _ _ _ h => h) (kv ⟨by rfl, ?_⟩) hHeld ?_ ?_
    rotate_left
    ·
     rintro w' ⟨s0, s1⟩
     go_simp
     with_reducible rfl
    rotate_left
    ·
     simp only [kk, kz, kq, ky, zi, zj]
     rfl
    refine zx (i := 11) (N := some 14) (v := ?_) (a' := ?_) #[ku,ku,ku,ku,ku,ku,ku,ku,ku,ku,ku,ku,ks,ks,ks,ks,ks] rfl rfl (zr HT_.1 HW_.1 (by kernel_rfl)) (fun _ _ _ h => h) (kv ⟨by rfl, ?_⟩) hHeld ?_ ?_
    rotate_left
    ·
     rintro w' ⟨s0, s1⟩
     go_simp
     with_reducible rfl
    rotate_left
    ·
     simp only [kk, kz, kq, ky, zi, zj]
     rfl
    refine one_ (i := 12) (N := some 15) #[ku,ku,ku,ku,ku,ku,ku,ku,ku,ku,ku,ku,ku,ks,ks,ks,ks] rfl rfl (zw HT_.1 (by kernel_rfl)) (by decide) (fun K hK => ?_)
    refine zz Try.func88 (by kernel_rfl) rfl #[.agg #[.int .i64 a0_0, .int .i64 a0_1]] (by rfl) rfl rfl (by (try simp only [kh, kf, ke]); rfl) ?_
    with_reducible refine (spec_l1Size.calls a0_0 a0_1 t157 _ A6.1).mono ?_
    rintro e w10 ⟨rfl, hb⟩
    refine ⟨_, rfl, ?_⟩
    replace zA := kj (zq (g := gb154) (o := .cells #[.int .i64 a0_0, .int .i64 a0_1] 37 (0, 0)) (by (with_reducible repeat (refine zc ?_ _)); exact zA.1) hb)
    replace HB := kj (zp (by repeat ((with_reducible first | exact HB.1 | apply za))) hb)
    (try clear hb)
    (try clear hb2)
    (try clear hk)
    (try clear hi)
    refine hK.out _ _ ⟨(zh zA.1 0).trans rfl, (zh zA.1 1).trans rfl⟩ (fun hHeld => ?_)
    clear hK K
    refine zy (a' := ?_) ?_ ?_
    rotate_left
    ·
     show kk _ (some 15) _ = _
     simp only [kk, kz, kq, ky, zi, zj]
     rfl
    refine zl (i := 13) (N := some 16) (v := ?_) (a' := ?_) #[ku,ku,ku,ku,ku,ku,ku,ku,ku,ku,ku,ku,ku,ku,ks,ks,ks] rfl rfl (zk HT_.1 (by kernel_rfl)) (fun _ _ _ h => h) (kv ⟨by rfl, ?_⟩) ?_ ?_
    rotate_left
    ·
     intro w'
     go_simp
     with_reducible rfl
    rotate_left
    ·
     simp only [kk, kz, kq, ky, zi, zj]
     rfl
    refine zl (i := 14) (N := some 17) (v := ?_) (a' := ?_) #[ku,ku,ku,ku,ku,ku,ku,ku,ku,ku,ku,ku,ku,ku,ku,ks,ks] rfl rfl (zk HT_.1 (by kernel_rfl)) (fun _ _ _ h => h) (kv ⟨by rfl, ?_⟩) ?_ ?_
    rotate_left
    ·
     intro w'
     go_simp
     with_reducible rfl
    rotate_left
    ·
     simp only [kk, kz, kq, ky, zi, zj]
     rfl
    refine zl (i := 15) (N := some 18) (v := ?_) (a' := ?_) #[ku,ku,ku,ku,ku,ku,ku,ku,ku,ku,ku,ku,ku,ku,ku,ku,ks] rfl rfl (zk HT_.1 (by kernel_rfl)) (fun _ _ _ h => h) (kv ⟨by rfl, ?_⟩) ?_ ?_
    rotate_left
    ·
     intro w'
     go_simp
     with_reducible rfl
    rotate_left
    ·
     simp only [kk, kz, kq, ky, zi, zj]
     rfl
    refine zl (i := 16) (N := some 2) (v := ?_) (a' := ?_) #[ku,ku,ku,ku,ku,ku,ku,ku,ku,ku,ku,ku,ku,ku,ku,ku,ku] rfl rfl (zk HT_.1 (by kernel_rfl)) (fun _ _ _ h => h) (kv ⟨by rfl, ?_⟩) ?_ ?_
    rotate_left
    ·
     intro w'
     go_simp
     with_reducible rfl
    rotate_left
    ·
     simp only [kk, kz, kq, ky, zi, zj]
     rfl
    refine done_ (done_of HT_.1 (by kernel_rfl)) ?_
    try go_wp2
    go_ret
    exact ⟨by rfl, by exact HB.1⟩
  ·
   replace c5 := Bool.eq_false_iff.mpr c5
   subst c5
   have H1 : (some false) = some r := by rw [if_neg (show ¬ (false = true) by decide)] at H; exact H
   clear H
   have H := H1
   clear H1
   obtain rfl := kd H
   go_enter Try.func49, Try.ntmps49
   try go_wp2_with (((with_reducible refine zu (N := 1) rfl ?_); refine zs ?hg (N := 1) ?hd (cs := #[.int .i64 a0_0, .int .i64 a0_1]) (t := 37) ?hr ?_; (case hd => rfl); (case hg => rfl); (case hr => (go_simp; done)); intro gb154 hg w11 hbox hb; replace HB := kj (zp HB.1 hb); have zA := kj hbox; clear hb hbox hg))
   replace zA := kj (ze zA.1)
   replace HB := kj (zb HB.1)
   refine start_ (n := 17) (S := fun w' => w'.cell? ⟨gb154, 0, none⟩ = some (.int .i64 a0_0) ∧ w'.cell? ⟨gb154, 1, none⟩ = some (.int .i64 a0_1)) (ds := []) #[ks,ks,ks,ks,ks,ks,ks,ks,ks,ks,ks,ks,ks,ks,ks,ks,ks] (by kernel_rfl) rfl rfl ⟨(zh zA.1 0).trans rfl, (zh zA.1 1).trans rfl⟩ (fun hHeld => ?_); refine with_tabW spec_GoodPrefix.tab1 spec_GoodPrefix.bits1 (fun HT_ HW_ => ?_)
   generalize w11.drew = w12 at zA HB hHeld ⊢
   refine zl (i := 0) (N := some 3) (v := ?_) (a' := ?_) #[ku,ks,ks,ks,ks,ks,ks,ks,ks,ks,ks,ks,ks,ks,ks,ks,ks] rfl rfl (zk HT_.1 (by kernel_rfl)) (fun _ _ _ h => h) (kv ⟨by rfl, ?_⟩) ?_ ?_
   rotate_left
   ·
    intro w'
    go_simp
    with_reducible rfl
   rotate_left
   ·
    simp only [kk, kz, kq, ky, zi, zj]
    rfl
   refine zx (i := 1) (N := some 4) (v := ?_) (a' := ?_) #[ku,ku,ks,ks,ks,ks,ks,ks,ks,ks,ks,ks,ks,ks,ks,ks,ks] rfl rfl (zr HT_.1 HW_.1 (by kernel_rfl)) (fun _ _ _ h => h) (kv ⟨by rfl, ?_⟩) hHeld ?_ ?_
   rotate_left
   ·
    rintro w' ⟨s0, s1⟩
    go_simp
    with_reducible rfl
   rotate_left
   ·
    simp only [kk, kz, kq, ky, zi, zj]
    rfl
   refine one_ (i := 2) (N := some 5) #[ku,ku,ku,ks,ks,ks,ks,ks,ks,ks,ks,ks,ks,ks,ks,ks,ks] rfl rfl (zw HT_.1 (by kernel_rfl)) (by decide) (fun K hK => ?_)
   refine zz Try.func58 (by kernel_rfl) rfl #[.int .i64 a0_1, .int .i64 0, .int .i64 32] (by rfl) rfl rfl (by (try simp only [kh, kf, ke]); rfl) ?_
   with_reducible refine (spec_l1In.calls a0_1 0 32 true _ A2.1).mono ?_
   rintro e w' ⟨rfl, ⟨nd, rfl⟩⟩
   refine ⟨_, rfl, ?_⟩
   refine hK.out _ _ ⟨(zh zA.1 0).trans rfl, (zh zA.1 1).trans rfl⟩ (fun hHeld => ?_)
   clear hK K
   refine zy (a' := ?_) ?_ ?_
   rotate_left
   ·
    show kk _ (some 5) _ = _
    simp only [kk, kz, kq, ky, zi, zj]
    rfl
   refine zl (i := 3) (N := some 6) (v := ?_) (a' := ?_) #[ku,ku,ku,ku,ks,ks,ks,ks,ks,ks,ks,ks,ks,ks,ks,ks,ks] rfl rfl (zk HT_.1 (by kernel_rfl)) (fun _ _ _ h => h) (kv ⟨by rfl, ?_⟩) ?_ ?_
   rotate_left
   ·
    intro w'
    go_simp
    with_reducible rfl
   rotate_left
   ·
    simp only [kk, kz, kq, ky, zi, zj]
    rfl
   refine zl (i := 4) (N := some 7) (v := ?_) (a' := ?_) #[ku,ku,ku,ku,ku,ks,ks,ks,ks,ks,ks,ks,ks,ks,ks,ks,ks] rfl rfl (zk HT_.1 (by kernel_rfl)) (fun _ _ _ h => h) (kv ⟨by rfl, ?_⟩) ?_ ?_
   rotate_left
   ·
    intro w'
    go_simp
    with_reducible rfl
   rotate_left
   ·
    simp only [kk, kz, kq, ky, zi, zj]
    rfl
   refine zx (i := 5) (N := some 8) (v := ?_) (a' := ?_) #[ku,ku,ku,ku,ku,ku,ks,ks,ks,ks,ks,ks,ks,ks,ks,ks,ks] rfl rfl (zr HT_.1 HW_.1 (by kernel_rfl)) (fun _ _ _ h => h) (kv ⟨by rfl, ?_⟩) hHeld ?_ ?_
   rotate_left
   ·
    rintro w' ⟨s0, s1⟩
    go_simp
    with_reducible rfl
   rotate_left
   ·
    simp only [kk, kz, kq, ky, zi, zj]
    rfl
   refine one_ (i := 6) (N := some 9) #[ku,ku,ku,ku,ku,ku,ku,ks,ks,ks,ks,ks,ks,ks,ks,ks,ks] rfl rfl (zw HT_.1 (by kernel_rfl)) (by decide) (fun K hK => ?_)
   refine zz Try.func63 (by kernel_rfl) rfl #[.int .i64 a0_0] (by rfl) rfl rfl (by (try simp only [kh, kf, ke]); rfl) ?_
   with_reducible refine (spec_l1Addr.calls a0_0 false _ A4.1).mono ?_
   rintro e w' ⟨rfl, ⟨nd, rfl⟩⟩
   refine ⟨_, rfl, ?_⟩
   refine hK.out _ _ ⟨(zh zA.1 0).trans rfl, (zh zA.1 1).trans rfl⟩ (fun hHeld => ?_)
   clear hK K
   refine zy (a' := ?_) ?_ ?_
   rotate_left
   ·
    show kk _ (some 9) _ = _
    simp only [kk, kz, kq, ky, zi, zj]
    rfl
   refine zl (i := 7) (N := some 10) (v := ?_) (a' := ?_) #[ku,ku,ku,ku,ku,ku,ku,ku,ks,ks,ks,ks,ks,ks,ks,ks,ks] rfl rfl (zk HT_.1 (by kernel_rfl)) (fun _ _ _ h => h) (kv ⟨by rfl, ?_⟩) ?_ ?_
   rotate_left
   ·
    intro w'
    go_simp
    with_reducible rfl
   rotate_left
   ·
    simp only [kk, kz, kq, ky, zi, zj]
    rfl
   refine zl (i := 8) (N := some 11) (v := ?_) (a' := ?_) #[ku,ku,ku,ku,ku,ku,ku,ku,ku,ks,ks,ks,ks,ks,ks,ks,ks] rfl rfl (zk HT_.1 (by kernel_rfl)) (fun _ _ _ h => h) (kv ⟨by rfl, ?_⟩) ?_ ?_
   rotate_left
   ·
    intro w'
    go_simp
    with_reducible rfl
   rotate_left
   ·
    simp only [kk, kz, kq, ky, zi, zj]
    rfl
   refine zl (i := 9) (N := some 12) (v := undef) (a' := ?_) #[ku,ku,ku,ku,ku,ku,ku,ku,ku,ku,ks,ks,ks,ks,ks,ks,ks] rfl rfl (zk HT_.1 (by kernel_rfl)) (fun _ _ _ h => h) (kc ⟨by rfl, rfl⟩) ?_ ?_
   rotate_left
   ·
    simp only [kk, kz, kq, ky, zi, zj]
    rfl
   refine zl (i := 10) (N := some 13) (v := undef) (a' := ?_) #[ku,ku,ku,ku,ku,ku,ku,ku,ku,ku,ku,ks,ks,ks,ks,ks,ks] rfl rfl (zk HT_.1 (by kernel_rfl)) (fun _ _ _ h => h) (kc ⟨by rfl, rfl⟩) ?_ ?_
   rotate_left
   ·
    simp only [kk, kz, kq, ky, zi, zj]
    rfl
   refine zl (i := 11) (N := some 14) (v := undef) (a' := ?_) #[ku,ku,ku,ku,ku,ku,ku,ku,ku,ku,ku,ku,ks,ks,ks,ks,ks] rfl rfl (zk HT_.1 (by kernel_rfl)) (fun _ _ _ h => h) (kc ⟨by rfl, rfl⟩) ?_ ?_
   rotate_left
   ·
    simp only [kk, kz, kq, ky, zi, zj]
    rfl
   refine zl (i := 12) (N := some 15) (v := undef) (a' := ?_) #[ku,ku,ku,ku,ku,ku,ku,ku,ku,ku,ku,ku,ku,ks,ks,ks,ks] rfl rfl (zk HT_.1 (by kernel_rfl)) (fun _ _ _ h => h) (kc ⟨by rfl, rfl⟩) ?_ ?_
   rotate_left
   ·
    simp only [kk, kz, kq, ky, zi, zj]
    rfl
   refine zl (i := 13) (N := some 16) (v := undef) (a' := ?_) #[ku,ku,ku,ku,ku,ku,ku,ku,ku,ku,ku,ku,ku,ku,ks,ks,ks] rfl rfl (zk HT_.1 (by kernel_rfl)) (fun _ _ _ h => h) (kc ⟨by rfl, rfl⟩) ?_ ?_
   rotate_left
   ·
    simp only [kk, kz, kq, ky, zi, zj]
    rfl
   refine zl (i := 14) (N := some 17) (v := undef) (a' := ?_) #[ku,ku,ku,ku,ku,ku,ku,ku,ku,ku,ku,ku,ku,ku,ku,ks,ks] rfl rfl (zk HT_.1 (by kernel_rfl)) (fun _ _ _ h => h) (kc ⟨by rfl, rfl⟩) ?_ ?_
   rotate_left
   ·
    simp only [kk, kz, kq, ky, zi, zj]
    rfl
   refine zl (i := 15) (N := some 18) (v := ?_) (a' := ?_) #[ku,ku,ku,ku,ku,ku,ku,ku,ku,ku,ku,ku,ku,ku,ku,ku,ks] rfl rfl (zk HT_.1 (by kernel_rfl)) (fun _ _ _ h => h) (kv ⟨by rfl, ?_⟩) ?_ ?_
   rotate_left
   ·
    intro w'
    go_simp
    with_reducible rfl
   rotate_left
   ·
    simp only [kk, kz, kq, ky, zi, zj]
    rfl
   refine zl (i := 16) (N := some 2) (v := ?_) (a' := ?_) #[ku,ku,ku,ku,ku,ku,ku,ku,ku,ku,ku,ku,ku,ku,ku,ku,ku] rfl rfl (zk HT_.1 (by kernel_rfl)) (fun _ _ _ h => h) (kv ⟨by rfl, ?_⟩) ?_ ?_
   rotate_left
   ·
    intro w'
    go_simp
    with_reducible rfl
   rotate_left
   ·
    simp only [kk, kz, kq, ky, zi, zj]
    rfl
   refine done_ (done_of HT_.1 (by kernel_rfl)) ?_
   try go_wp2
   go_ret
   exact ⟨by rfl, by repeat ((with_reducible first | exact HB.1 | apply za))⟩
 ·
  replace c3 := Bool.eq_false_iff.mpr c3
  subst c3
  have H1 : (some false) = some r := by rw [if_neg (show ¬ (false = true) by decide)] at H; exact H
  clear H
  have H := H1
  clear H1
  obtain rfl := kd H
  go_enter Try.func49, Try.ntmps49
  try go_wp2_with (((with_reducible refine zu (N := 1) rfl ?_); refine zs ?hg (N := 1) ?hd (cs := #[.int .i64 a0_0, .int .i64 a0_1]) (t := 37) ?hr ?_; (case hd => rfl); (case hg => rfl); (case hr => (go_simp; done)); intro gb154 hg w13 hbox hb; replace HB := kj (zp HB.1 hb); have zA := kj hbox; clear hb hbox hg))
  replace zA := kj (ze zA.1)
  replace HB := kj (zb HB.1)
  refine start_ (n := 17) (S := fun w' => w'.cell? ⟨gb154, 0, none⟩ = some (.int .i64 a0_0) ∧ w'.cell? ⟨gb154, 1, none⟩ = some (.int .i64 a0_1)) (ds := []) #[ks,ks,ks,ks,ks,ks,ks,ks,ks,ks,ks,ks,ks,ks,ks,ks,ks] (by kernel_rfl) rfl rfl ⟨(zh zA.1 0).trans rfl, (zh zA.1 1).trans rfl⟩ (fun hHeld => ?_); refine with_tabW spec_GoodPrefix.tab1 spec_GoodPrefix.bits1 (fun HT_ HW_ => ?_)
  generalize w13.drew = w14 at zA HB hHeld ⊢
  refine zl (i := 0) (N := some 3) (v := ?_) (a' := ?_) #[ku,ks,ks,ks,ks,ks,ks,ks,ks,ks,ks,ks,ks,ks,ks,ks,ks] rfl rfl (zk HT_.1 (by kernel_rfl)) (fun _ _ _ h => h) (kv ⟨by rfl, ?_⟩) ?_ ?_
  rotate_left
  ·
   intro w'
   go_simp
   with_reducible rfl
  rotate_left
  ·
   simp only [kk, kz, kq, ky, zi, zj]
   rfl
  refine zx (i := 1) (N := some 4) (v := ?_) (a' := ?_) #[ku,ku,ks,ks,ks,ks,ks,ks,ks,ks,ks,ks,ks,ks,ks,ks,ks] rfl rfl (zr HT_.1 HW_.1 (by kernel_rfl)) (fun _ _ _ h => h) (kv ⟨by rfl, ?_⟩) hHeld ?_ ?_
  rotate_left
  ·
   rintro w' ⟨s0, s1⟩
   go_simp
   with_reducible rfl
  rotate_left
  ·
   simp only [kk, kz, kq, ky, zi, zj]
   rfl
  refine one_ (i := 2) (N := some 5) #[ku,ku,ku,ks,ks,ks,ks,ks,ks,ks,ks,ks,ks,ks,ks,ks,ks] rfl rfl (zw HT_.1 (by kernel_rfl)) (by decide) (fun K hK => ?_)
  refine zz Try.func58 (by kernel_rfl) rfl #[.int .i64 a0_1, .int .i64 0, .int .i64 32] (by rfl) rfl rfl (by (try simp only [kh, kf, ke]); rfl) ?_
  with_reducible refine (spec_l1In.calls a0_1 0 32 false _ A2.1).mono ?_
  rintro e w' ⟨rfl, ⟨nd, rfl⟩⟩
  refine ⟨_, rfl, ?_⟩
  refine hK.out _ _ ⟨(zh zA.1 0).trans rfl, (zh zA.1 1).trans rfl⟩ (fun hHeld => ?_)
  clear hK K
  refine zy (a' := ?_) ?_ ?_
  rotate_left
  ·
   show kk _ (some 5) _ = _
   simp only [kk, kz, kq, ky, zi, zj]
   rfl
  refine zl (i := 3) (N := some 6) (v := ?_) (a' := ?_) #[ku,ku,ku,ku,ks,ks,ks,ks,ks,ks,ks,ks,ks,ks,ks,ks,ks] rfl rfl (zk HT_.1 (by kernel_rfl)) (fun _ _ _ h => h) (kv ⟨by rfl, ?_⟩) ?_ ?_
  rotate_left
  ·
   intro w'
   go_simp
   with_reducible rfl
  rotate_left
  ·
   simp only [kk, kz, kq, ky, zi, zj]
   rfl
  refine zl (i := 4) (N := some 7) (v := undef) (a' := ?_) #[ku,ku,ku,ku,ku,ks,ks,ks,ks,ks,ks,ks,ks,ks,ks,ks,ks] rfl rfl (zk HT_.1 (by kernel_rfl)) (fun _ _ _ h => h) (kc ⟨by rfl, rfl⟩) ?_ ?_
  rotate_left
  ·
   simp only [kk, kz, kq, ky, zi, zj]
   rfl
  refine zl (i := 5) (N := some 8) (v := undef) (a' := ?_) #[ku,ku,ku,ku,ku,ku,ks,ks,ks,ks,ks,ks,ks,ks,ks,ks,ks] rfl rfl (zk HT_.1 (by kernel_rfl)) (fun _ _ _ h => h) (kc ⟨by rfl, rfl⟩) ?_ ?_
  rotate_left
  ·
   simp only [kk, kz, kq, ky, zi, zj]
   rfl
  refine zl (i := 6) (N := some 9) (v := undef) (a' := ?_) #[ku,ku,ku,ku,ku,ku,ku,ks,ks,ks,ks,ks,ks,ks,ks,ks,ks] rfl rfl (zk HT_.1 (by kernel_rfl)) (fun _ _ _ h => h) (kc ⟨by rfl, rfl⟩) ?_ ?_
  rotate_left
  ·
   simp only [kk, kz, kq, ky, zi, zj]
   rfl
  refine zl (i := 7) (N := some 10) (v := ?_) (a' := ?_) #[ku,ku,ku,ku,ku,ku,ku,ku,ks,ks,ks,ks,ks,ks,ks,ks,ks] rfl rfl (zk HT_.1 (by kernel_rfl)) (fun _ _ _ h => h) (kv ⟨by rfl, ?_⟩) ?_ ?_
  rotate_left
  ·
   intro w'
   go_simp
   with_reducible rfl
  rotate_left
  ·
   simp only [kk, kz, kq, ky, zi, zj]
   rfl
  refine zl (i := 8) (N := some 11) (v := ?_) (a' := ?_) #[ku,ku,ku,ku,ku,ku,ku,ku,ku,ks,ks,ks,ks,ks,ks,ks,ks] rfl rfl (zk HT_.1 (by kernel_rfl)) (fun _ _ _ h => h) (kv ⟨by rfl, ?_⟩) ?_ ?_
  rotate_left
  ·
   intro w'
   go_simp
   with_reducible rfl
  rotate_left
  ·
   simp only [kk, kz, kq, ky, zi, zj]
   rfl
  refine zl (i := 9) (N := some 12) (v := undef) (a' := ?_) #[ku,ku,ku,ku,ku,ku,ku,ku,ku,ku,ks,ks,ks,ks,ks,ks,ks] rfl rfl (zk HT_.1 (by kernel_rfl)) (fun _ _ _ h => h) (kc ⟨by rfl, rfl⟩) ?_ ?_
  rotate_left
  ·
   simp only [kk, kz, kq, ky, zi, zj]
   rfl
  refine zl (i := 10) (N := some 13) (v := undef) (a' := ?_) #[ku,ku,ku,ku,ku,ku,ku,ku,ku,ku,ku,ks,ks,ks,ks,ks,ks] rfl rfl (zk HT_.1 (by kernel_rfl)) (fun _ _ _ h => h) (kc ⟨by rfl, rfl⟩) ?_ ?_
  rotate_left
  ·
   simp only [kk, kz, kq, ky, zi, zj]
   rfl
  refine zl (i := 11) (N := some 14) (v := undef) (a' := ?_) #[ku,ku,ku,ku,ku,ku,ku,ku,ku,ku,ku,ku,ks,ks,ks,ks,ks] rfl rfl (zk HT_.1 (by kernel_rfl)) (fun _ _ _ h => h) (kc ⟨by rfl, rfl⟩) ?_ ?_
  rotate_left
  ·
   simp only [kk, kz, kq, ky, zi, zj]
   rfl
  refine zl (i := 12) (N := some 15) (v := undef) (a' := ?_) #[ku,ku,ku,ku,ku,ku,ku,ku,ku,ku,ku,ku,ku,ks,ks,ks,ks] rfl rfl (zk HT_.1 (by kernel_rfl)) (fun _ _ _ h => h) (kc ⟨by rfl, rfl⟩) ?_ ?_
  rotate_left
  ·
   simp only [kk, kz, kq, ky, zi, zj]
   rfl
  refine zl (i := 13) (N := some 16) (v := undef) (a' := ?_) #[ku,ku,ku,ku,ku,ku,ku,ku,ku,ku,ku,ku,ku,ku,ks,ks,ks] rfl rfl (zk HT_.1 (by kernel_rfl)) (fun _ _ _ h => h) (kc ⟨by rfl, rfl⟩) ?_ ?_
  rotate_left
  ·
   simp only [kk, kz, kq, ky, zi, zj]
   rfl
  refine zl (i := 14) (N := some 17) (v := undef) (a' := ?_) #[ku,ku,ku,ku,ku,ku,ku,ku,ku,ku,ku,ku,ku,ku,ku,ks,ks] rfl rfl (zk HT_.1 (by kernel_rfl)) (fun _ _ _ h => h) (kc ⟨by rfl, rfl⟩) ?_ ?_
  rotate_left
  ·
   simp only [kk, kz, kq, ky, zi, zj]
   rfl
  refine zl (i := 15) (N := some 18) (v := ?_) (a' := ?_) #[ku,ku,ku,ku,ku,ku,ku,ku,ku,ku,ku,ku,ku,ku,ku,ku,ks] rfl rfl (zk HT_.1 (by kernel_rfl)) (fun _ _ _ h => h) (kv ⟨by rfl, ?_⟩) ?_ ?_
  rotate_left
  ·
   intro w'
   go_simp
   with_reducible rfl
  rotate_left
  ·
   simp only [kk, kz, kq, ky, zi, zj]
   rfl
  refine zl (i := 16) (N := some 2) (v := ?_) (a' := ?_) #[ku,ku,ku,ku,ku,ku,ku,ku,ku,ku,ku,ku,ku,ku,ku,ku,ku] rfl rfl (zk HT_.1 (by kernel_rfl)) (fun _ _ _ h => h) (kv ⟨by rfl, ?_⟩) ?_ ?_
  rotate_left
  ·
   intro w'
   go_simp
   with_reducible rfl
  rotate_left
  ·
   simp only [kk, kz, kq, ky, zi, zj]
   rfl
  refine done_ (done_of HT_.1 (by kernel_rfl)) ?_
  try go_wp2
  go_ret
  exact ⟨by rfl, by repeat ((with_reducible first | exact HB.1 | apply za))⟩

/-! ### spec_l1Halves: function 94 -/
def spec_l1Halves.f (a0_0 : Int) (a0_1 : Int) : Option (Int × Int × Int × Int) := (spec_l1Size.f a0_0 (wrap64 (a0_1 + 1))).bind fun t162 => (some (a0_0, wrap64 (a0_1 + 1), wrap64 (a0_0 + t162), wrap64 (a0_1 + 1)))
def spec_l1Halves.T2 : Bool × List (List Nat × List Nat) := (true, [([], []), ([], []), ([1], [1]), ([], []), ([3], [3]), ([2, 4], [2, 4]), ([], []), ([6], [6]), ([7], [7]), ([5, 8], [5, 8]), ([0, 4, 0], [0]), ([9, 10, 0, 1, 2, 3, 4, 5, 6, 7, 8, 9, 10], [9])])
def spec_l1Halves.B2 : List Nat := [0, 0, 2, 0, 8, 30, 0, 64, 192, 510, 25, 2047]
theorem spec_l1Halves.tab2 : rtab .any (opsOf Try.f94 2) = spec_l1Halves.T2 := by kernel_rfl
theorem spec_l1Halves.bits2 : waitsOk spec_l1Halves.T2.2 spec_l1Halves.B2 = true := by kernel_rfl
theorem spec_l1Halves.calls (a0_0 : Int) (a0_1 : Int) (r1 : Int) (r2 : Int) (r3 : Int) (r4 : Int) (w : World) (h : spec_l1Halves.f a0_0 a0_1 = some (r1, r2, r3, r4)) :
  Calls Try.prog 94 #[.agg #[.int .i64 a0_0, .int .i64 a0_1]] w fun e w' => e = .returned (.tuple #[.agg #[.int .i64 r1, .int .i64 r2], .agg #[.int .i64 r3, .int .i64 r4]]) ∧ Below w.heap.size w w' := by
 have hu37 := kb
 have HB := kj (Below.refl w.heap.size w)
 have H : ((spec_l1Size.f a0_0 (wrap64 (a0_1 + 1))).bind fun t162 => (some (a0_0, wrap64 (a0_1 + 1), wrap64 (a0_0 + t162), wrap64 (a0_1 + 1)))) = some (r1, r2, r3, r4) := h
 clear h
 replace H := kg.mp H
 obtain ⟨t162, A20, H⟩ := H
 replace H : (some (a0_0, wrap64 (a0_1 + 1), wrap64 (a0_0 + t162), wrap64 (a0_1 + 1))) = some (r1, r2, r3, r4) := H
 have A2 := kj A20
 clear A20
 simp only [Option.some.injEq, Prod.mk.injEq] at H
 obtain ⟨rfl, rfl, rfl, rfl⟩ := H
 go_enter Try.func94, Try.ntmps94
 try go_wp2_with (first | ((with_reducible refine zu (N := 1) rfl ?_); refine zs ?hg (N := 1) ?hd (cs := #[.int .i64 a0_0, .int .i64 a0_1]) (t := 37) ?hr ?_; (case hd => rfl); (case hg => rfl); (case hr => (go_simp; done)); intro gb158 hg w3 hbox hb; replace HB := kj (zp HB.1 hb); have zB := kj hbox; clear hb hbox hg) | ((with_reducible refine zu (N := 2) rfl ?_); refine zs ?hg (N := 2) ?hd (cs := #[.int .i64 0, .int .i64 0]) (t := 37) ?hr ?_; (case hd => rfl); (case hg => rfl); (case hr => (go_simp; done)); intro gb159 hg w4 hbox hb; have zC := kj hbox; have zO := kj ((by rw [hg]; exact (zm HB.1) : w.heap.size ≤ gb159)); replace HB := kj (zp HB.1 hb); have zF := kj ((by rw [hg]; exact ko (zv (g := gb158) (o := .cells #[.int .i64 a0_0, .int .i64 a0_1] 37 (0, 0)) zB.1) : gb158 ≠ gb159)); have NB159_158 := kj ((by rw [hg]; exact kx (zv (g := gb158) (o := .cells #[.int .i64 a0_0, .int .i64 a0_1] 37 (0, 0)) zB.1) : gb159 ≠ gb158)); replace zB := kj (zq (g := gb158) (o := .cells #[.int .i64 a0_0, .int .i64 a0_1] 37 (0, 0)) zB.1 hb); clear hb hbox hg) | ((with_reducible refine zu (N := 3) rfl ?_); refine zs ?hg (N := 3) ?hd (cs := #[.int .i64 0, .int .i64 0]) (t := 37) ?hr ?_; (case hd => rfl); (case hg => rfl); (case hr => (go_simp; done)); intro gb160 hg w5 hbox hb; have zD := kj hbox; have zQ := kj ((by rw [hg]; exact (zm HB.1) : w.heap.size ≤ gb160)); replace HB := kj (zp HB.1 hb); have zG := kj ((by rw [hg]; exact ko (zv (g := gb158) (o := .cells #[.int .i64 a0_0, .int .i64 a0_1] 37 (0, 0)) zB.1) : gb158 ≠ gb160)); have NB160_158 := kj ((by rw [hg]; exact kx (zv (g := gb158) (o := .cells #[.int .i64 a0_0, .int .i64 a0_1] 37 (0, 0)) zB.1) : gb160 ≠ gb158)); replace zB := kj (zq (g := gb158) (o := .cells #[.int .i64 a0_0, .int .i64 a0_1] 37 (0, 0)) zB.1 hb); have zJ := kj ((by rw [hg]; exact ko (zv (g := gb159) (o := .cells #[.int .i64 0, .int .i64 0] 37 (0, 0)) zC.1) : gb159 ≠ gb160)); have zK := kj ((by rw [hg]; exact kx (zv (g := gb159) (o := .cells #[.int .i64 0, .int .i64 0] 37 (0, 0)) zC.1) : gb160 ≠ gb159)); replace zC := kj (zq (g := gb159) (o := .cells #[.int .i64 0, .int .i64 0] 37 (0, 0)) zC.1 hb); clear hb hbox hg; have hnb6 := zF.1; have hnc6 := NB159_158.1; have hnb7 := zG.1; have hnc7 := NB160_158.1; have hcz8_0 : w5.cell? ⟨gb158, 0, none⟩ = some (.int .i64 a0_0) := (zh zB.1 0).trans rfl; have hcz8_1 : w5.cell? ⟨gb158, 1, none⟩ = some (.int .i64 a0_1) := (zh zB.1 1).trans rfl; have hfz8_0 := zo zB.1 0; have hfz8_1 := zo zB.1 1) | ((with_reducible refine zu (N := 4) rfl ?_); refine zs ?hg (N := 4) ?hd (cs := #[.int .i64 0, .int .i64 0]) (t := 37) ?hr ?_; (case hd => rfl); (case hg => rfl); (case hr => (go_simp; done)); intro gb161 hg w9 hbox hb; have zE := kj hbox; have GE161 := kj ((by rw [hg]; exact (zm HB.1) : w.heap.size ≤ gb161)); replace HB := kj (zp HB.1 hb); have NB158_161 := kj ((by rw [hg]; exact ko (zv (g := gb158) (o := .cells #[.int .i64 a0_0, .int .i64 a0_1] 37 (0, 0)) zB.1) : gb158 ≠ gb161)); have NB161_158 := kj ((by rw [hg]; exact kx (zv (g := gb158) (o := .cells #[.int .i64 a0_0, .int .i64 a0_1] 37 (0, 0)) zB.1) : gb161 ≠ gb158)); replace zB := kj (zq (g := gb158) (o := .cells #[.int .i64 a0_0, .int .i64 a0_1] 37 (0, 0)) zB.1 hb); have zL := kj ((by rw [hg]; exact ko (zv (g := gb159) (o := .cells #[.int .i64 0, .int .i64 0] 37 (0, 0)) zC.1) : gb159 ≠ gb161)); have zH := kj ((by rw [hg]; exact kx (zv (g := gb159) (o := .cells #[.int .i64 0, .int .i64 0] 37 (0, 0)) zC.1) : gb161 ≠ gb159)); replace zC := kj (zq (g := gb159) (o := .cells #[.int .i64 0, .int .i64 0] 37 (0, 0)) zC.1 hb); have zM := kj ((by rw [hg]; exact ko (zv (g := gb160) (o := .cells #[.int .i64 0, .int .i64 0] 37 (0, 0)) zD.1) : gb160 ≠ gb161)); have zI := kj ((by rw [hg]; exact kx (zv (g := gb160) (o := .cells #[.int .i64 0, .int .i64 0] 37 (0, 0)) zD.1) : gb161 ≠ gb160)); replace zD := kj (zq (g := gb160) (o := .cells #[.int .i64 0, .int .i64 0] 37 (0, 0)) zD.1 hb); clear hb hbox hg; have hnb10 := NB161_158.1; have hnc10 := NB158_161.1; have hnb11 := zH.1; have hnc11 := zL.1; have hnb12 := zI.1; have hnc12 := zM.1; have hcz13_0 : w9.cell? ⟨gb161, 0, none⟩ = some (.int .i64 0) := (zh zE.1 0).trans rfl; have hcz13_1 : w9.cell? ⟨gb161, 1, none⟩ = some (.int .i64 0) := (zh zE.1 1).trans rfl; have hfz13_0 := zo zE.1 0; have hfz13_1 := zo zE.1 1))
 have n0_ : Aside0 (((w9.setCell ⟨gb161, 0, none⟩ (.int .i64 a0_0)).setCell ⟨gb161, 1, none⟩ (.int .i64 (wrap64 (a0_1 + 1)))).heap[gb158]? = some (.cells #[.int .i64 a0_0, .int .i64 a0_1] 37 (0, 0))) := ⟨by refine zt ?_ NB158_161.1 _; refine zt ?_ NB158_161.1 _; exact zB.1⟩
 have n1_ : Aside0 (((w9.setCell ⟨gb161, 0, none⟩ (.int .i64 a0_0)).setCell ⟨gb161, 1, none⟩ (.int .i64 (wrap64 (a0_1 + 1)))).heap[gb159]? = some (.cells #[.int .i64 0, .int .i64 0] 37 (0, 0))) := ⟨by refine zt ?_ zL.1 _; refine zt ?_ zL.1 _; exact zC.1⟩
 have n2_ : Aside0 (((w9.setCell ⟨gb161, 0, none⟩ (.int .i64 a0_0)).setCell ⟨gb161, 1, none⟩ (.int .i64 (wrap64 (a0_1 + 1)))).heap[gb160]? = some (.cells #[.int .i64 0, .int .i64 0] 37 (0, 0))) := ⟨by refine zt ?_ zM.1 _; refine zt ?_ zM.1 _; exact zD.1⟩
 have n3_ : Aside0 (((w9.setCell ⟨gb161, 0, none⟩ (.int .i64 a0_0)).setCell ⟨gb161, 1, none⟩ (.int .i64 (wrap64 (a0_1 + 1)))).heap[gb161]? = some (.cells #[.int .i64 a0_0, .int .i64 (wrap64 (a0_1 + 1))] 37 (0, 0))) := ⟨by refine blk_put (cs := #[.int .i64 a0_0, .int .i64 0]) ?_ 1 _ rfl; refine blk_put (cs := #[.int .i64 0, .int .i64 0]) ?_ 0 _ rfl; exact zE.1⟩
 have n4_ : Aside0 (Below w.heap.size w ((w9.setCell ⟨gb161, 0, none⟩ (.int .i64 a0_0)).setCell ⟨gb161, 1, none⟩ (.int .i64 (wrap64 (a0_1 + 1))))) := ⟨by repeat ((with_reducible first | exact HB.1 | refine zg ?_ GE161.1))⟩
 (try clear zB)
 (try clear zC)
 (try clear zD)
 (try clear zE)
 (try clear HB)
 generalize ((w9.setCell ⟨gb161, 0, none⟩ (.int .i64 a0_0)).setCell ⟨gb161, 1, none⟩ (.int .i64 (wrap64 (a0_1 + 1)))) = w14 at n0_ n1_ n2_ n3_ n4_ ⊢
 have zB := n0_
 have zC := n1_
 have zD := n2_
 have zE := n3_
 have HB := n4_
 clear n0_ n1_ n2_ n3_ n4_
 replace zB := kj (ze zB.1)
 replace zC := kj (ze zC.1)
 replace zD := kj (ze zD.1)
 replace zE := kj (ze zE.1)
 replace HB := kj (zb HB.1)
 refine start_ (n := 12) (S := fun w' => w'.cell? ⟨gb161, 0, none⟩ = some (.int .i64 a0_0) ∧ w'.cell? ⟨gb161, 1, none⟩ = some (.int .i64 (wrap64 (a0_1 + 1))) ∧ w'.cell? ⟨gb158, 0, none⟩ = some (.int .i64 a0_0) ∧ w'.cell? ⟨gb158, 1, none⟩ = some (.int .i64 a0_1)) (ds := []) #[ks,ks,ks,ks,ks,ks,ks,ks,ks,ks,ks,ks] (by kernel_rfl) rfl rfl ⟨(zh zE.1 0).trans rfl, (zh zE.1 1).trans rfl, (zh zB.1 0).trans rfl, (zh zB.1 1).trans rfl⟩ (fun hHeld => ?_); refine with_tabW spec_l1Halves.tab2 spec_l1Halves.bits2 (fun HT_ HW_ => ?_)
 generalize w14.drew = w15 at zB zC zD zE HB hHeld ⊢
 refine zl (i := 1) (N := some 12) (v := ?_) (a' := ?_) #[ks,ku,ks,ks,ks,ks,ks,ks,ks,ks,ks,ks] rfl rfl (zk HT_.1 (by kernel_rfl)) (fun _ _ _ h => h) (kv ⟨by rfl, ?_⟩) ?_ ?_
 rotate_left
 ·
  intro w'
  go_simp
  with_reducible rfl
 rotate_left
 ·
  simp only [kk, kz, kq, ky, zi, zj]
  rfl
 refine zl (i := 6) (N := some 17) (v := ?_) (a' := ?_) #[ks,ku,ks,ks,ks,ks,ku,ks,ks,ks,ks,ks] rfl rfl (zk HT_.1 (by kernel_rfl)) (fun _ _ _ h => h) (kv ⟨by rfl, ?_⟩) ?_ ?_
 rotate_left
 ·
  intro w'
  go_simp
  with_reducible rfl
 rotate_left
 ·
  simp only [kk, kz, kq, ky, zi, zj]
  rfl
 refine zx (i := 0) (N := some 11) (v := ?_) (a' := ?_) #[ku,ku,ks,ks,ks,ks,ku,ks,ks,ks,ks,ks] rfl rfl (zr HT_.1 HW_.1 (by kernel_rfl)) (fun _ _ _ h => h) (kv ⟨by rfl, ?_⟩) hHeld ?_ ?_
 rotate_left
 ·
  rintro w' ⟨s0, s1, s2, s3⟩
  go_simp
  with_reducible rfl
 rotate_left
 ·
  simp only [kk, kz, kq, ky, zi, zj]
  rfl
 refine zx (i := 2) (N := some 13) (v := ?_) (a' := ?_) #[ku,ku,ku,ks,ks,ks,ku,ks,ks,ks,ks,ks] rfl rfl (zr HT_.1 HW_.1 (by kernel_rfl)) (fun _ _ _ h => h) (kv ⟨by rfl, ?_⟩) hHeld ?_ ?_
 rotate_left
 ·
  rintro w' ⟨s0, s1, s2, s3⟩
  go_simp
  with_reducible rfl
 rotate_left
 ·
  simp only [kk, kz, kq, ky, zi, zj]
  rfl
 refine zx (i := 3) (N := some 14) (v := ?_) (a' := ?_) #[ku,ku,ku,ku,ks,ks,ku,ks,ks,ks,ks,ks] rfl rfl (zr HT_.1 HW_.1 (by kernel_rfl)) (fun _ _ _ h => h) (kv ⟨by rfl, ?_⟩) hHeld ?_ ?_
 rotate_left
 ·
  rintro w' ⟨s0, s1, s2, s3⟩
  go_simp
  with_reducible rfl
 rotate_left
 ·
  simp only [kk, kz, kq, ky, zi, zj]
  rfl
 refine zx (i := 7) (N := some 18) (v := ?_) (a' := ?_) #[ku,ku,ku,ku,ks,ks,ku,ku,ks,ks,ks,ks] rfl rfl (zr HT_.1 HW_.1 (by kernel_rfl)) (fun _ _ _ h => h) (kv ⟨by rfl, ?_⟩) hHeld ?_ ?_
 rotate_left
 ·
  rintro w' ⟨s0, s1, s2, s3⟩
  go_simp
  with_reducible rfl
 rotate_left
 ·
  simp only [kk, kz, kq, ky, zi, zj]
  rfl
 refine zl (i := 8) (N := some 19) (v := ?_) (a' := ?_) #[ku,ku,ku,ku,ks,ks,ku,ku,ku,ks,ks,ks] rfl rfl (zk HT_.1 (by kernel_rfl)) (fun _ _ _ h => h) (kv ⟨by rfl, ?_⟩) ?_ ?_
 rotate_left
 ·
  intro w'
  go_simp
  with_reducible rfl
 rotate_left
 ·
  simp only [kk, kz, kq, ky, zi, zj]
  rfl
 refine one_ (i := 4) (N := some 15) #[ku,ku,ku,ku,ku,ks,ku,ku,ku,ks,ks,ks] rfl rfl (zw HT_.1 (by kernel_rfl)) (by decide) (fun K hK => ?_)
 refine zz Try.func88 (by kernel_rfl) rfl #[.agg #[.int .i64 a0_0, .int .i64 (wrap64 (a0_1 + 1))]] (by rfl) rfl rfl (by (try simp only [kh, kf, ke]); rfl) ?_
 with_reducible refine (spec_l1Size.calls a0_0 (wrap64 (a0_1 + 1)) t162 _ A2.1).mono ?_
 rintro e w16 ⟨rfl, hb⟩
 refine ⟨_, rfl, ?_⟩
 replace zB := kj (zq (g := gb158) (o := .cells #[.int .i64 a0_0, .int .i64 a0_1] 37 (0, 0)) zB.1 hb)
 replace zC := kj (zq (g := gb159) (o := .cells #[.int .i64 0, .int .i64 0] 37 (0, 0)) zC.1 hb)
 replace zD := kj (zq (g := gb160) (o := .cells #[.int .i64 0, .int .i64 0] 37 (0, 0)) zD.1 hb)
 replace zE := kj (zq (g := gb161) (o := .cells #[.int .i64 a0_0, .int .i64 (wrap64 (a0_1 + 1))] 37 (0, 0)) zE.1 hb)
 replace HB := kj (zp HB.1 hb)
 (try clear hb)
 (try clear hb2)
 (try clear hk)
 (try clear hi)
 refine hK.out _ _ ⟨(zh zE.1 0).trans rfl, (zh zE.1 1).trans rfl, (zh zB.1 0).trans rfl, (zh zB.1 1).trans rfl⟩ (fun hHeld => ?_)
 clear hK K
 refine zy (a' := ?_) ?_ ?_
 rotate_left
 ·
  show kk _ (some 15) _ = _
  simp only [kk, kz, kq, ky, zi, zj]
  rfl
 refine zl (i := 5) (N := some 16) (v := ?_) (a' := ?_) #[ku,ku,ku,ku,ku,ku,ku,ku,ku,ks,ks,ks] rfl rfl (zk HT_.1 (by kernel_rfl)) (fun _ _ _ h => h) (kv ⟨by rfl, ?_⟩) ?_ ?_
 rotate_left
 ·
  intro w'
  go_simp
  with_reducible rfl
 rotate_left
 ·
  simp only [kk, kz, kq, ky, zi, zj]
  rfl
 refine zl (i := 9) (N := some 20) (v := ?_) (a' := ?_) #[ku,ku,ku,ku,ku,ku,ku,ku,ku,ku,ks,ks] rfl rfl (zk HT_.1 (by kernel_rfl)) (fun _ _ _ h => h) (kv ⟨by rfl, ?_⟩) ?_ ?_
 rotate_left
 ·
  intro w'
  go_simp
  with_reducible rfl
 rotate_left
 ·
  simp only [kk, kz, kq, ky, zi, zj]
  rfl
 refine one_ (i := 10) (N := none) #[ku,ku,ku,ku,ku,ku,ku,ku,ku,ku,ku,ks] rfl rfl (zw HT_.1 (by kernel_rfl)) (by decide) (fun K hK => ?_)
 have hs17 : w16.cell? ⟨gb159, 0, none⟩ = some (.int .i64 0) := (zh zC.1 0).trans rfl
 have hfs17 := zo zC.1 0
 have hns17_0 := zF.1
 have hns17_2 := zK.1
 have hns17_3 := zH.1
 have hms17_0 := NB159_158.1
 have hms17_2 := zJ.1
 have hms17_3 := zL.1
 have hs18 : w16.cell? ⟨gb159, 1, none⟩ = some (.int .i64 0) := (zh zC.1 1).trans rfl
 have hfs18 := zo zC.1 1
 have hns18_0 := zF.1
 have hns18_2 := zK.1
 have hns18_3 := zH.1
 have hms18_0 := NB159_158.1
 have hms18_2 := zJ.1
 have hms18_3 := zL.1
 refine skip_ (w1 := ?_) (by rfl) rfl ?_ ?_
 rotate_left
 ·
  go_simp
  rfl
 refine hK.out _ _ ⟨((zn (p := ⟨gb159, _, none⟩) zH.1 _).trans (((zn (p := ⟨gb159, _, none⟩) zH.1 _).trans (hHeld.1)))), ((zn (p := ⟨gb159, _, none⟩) zH.1 _).trans (((zn (p := ⟨gb159, _, none⟩) zH.1 _).trans (hHeld.2.1)))), ((zn (p := ⟨gb159, _, none⟩) zF.1 _).trans (((zn (p := ⟨gb159, _, none⟩) zF.1 _).trans (hHeld.2.2.1)))), ((zn (p := ⟨gb159, _, none⟩) zF.1 _).trans (((zn (p := ⟨gb159, _, none⟩) zF.1 _).trans (hHeld.2.2.2))))⟩ (fun hHeld => ?_)
 clear hK K
 refine one_ (i := 11) (N := none) #[ku,ku,ku,ku,ku,ku,ku,ku,ku,ku,ku,ku] rfl rfl (zw HT_.1 (by kernel_rfl)) (by decide) (fun K hK => ?_)
 have hs19 : w16.cell? ⟨gb160, 0, none⟩ = some (.int .i64 0) := (zh zD.1 0).trans rfl
 have hfs19 := zo zD.1 0
 have hns19_0 := zG.1
 have hns19_1 := zJ.1
 have hns19_3 := zI.1
 have hms19_0 := NB160_158.1
 have hms19_1 := zK.1
 have hms19_3 := zM.1
 have hs20 : w16.cell? ⟨gb160, 1, none⟩ = some (.int .i64 0) := (zh zD.1 1).trans rfl
 have hfs20 := zo zD.1 1
 have hns20_0 := zG.1
 have hns20_1 := zJ.1
 have hns20_3 := zI.1
 have hms20_0 := NB160_158.1
 have hms20_1 := zK.1
 have hms20_3 := zM.1
 refine skip_ (w1 := ?_) (by rfl) rfl ?_ ?_
 rotate_left
 ·
  go_simp
  rfl
 refine hK.out _ _ ⟨((zn (p := ⟨gb160, _, none⟩) zI.1 _).trans (((zn (p := ⟨gb160, _, none⟩) zI.1 _).trans (hHeld.1)))), ((zn (p := ⟨gb160, _, none⟩) zI.1 _).trans (((zn (p := ⟨gb160, _, none⟩) zI.1 _).trans (hHeld.2.1)))), ((zn (p := ⟨gb160, _, none⟩) zG.1 _).trans (((zn (p := ⟨gb160, _, none⟩) zG.1 _).trans (hHeld.2.2.1)))), ((zn (p := ⟨gb160, _, none⟩) zG.1 _).trans (((zn (p := ⟨gb160, _, none⟩) zG.1 _).trans (hHeld.2.2.2))))⟩ (fun hHeld => ?_)
 clear hK K
 refine done_ (done_of HT_.1 (by kernel_rfl)) ?_
 try go_wp2
 refine bodyPost_ret (results_cc rfl _ _ gb159 gb160 37 37 #[.int .i64 a0_0, .int .i64 (wrap64 (a0_1 + 1))] #[.int .i64 (wrap64 (a0_0 + t162)), .int .i64 (wrap64 (a0_1 + 1))] (0, 0) (0, 0) _ _ rfl (by refine zt ?_ zJ.1 _; refine zt ?_ zJ.1 _; refine blk_put (cs := #[.int .i64 a0_0, .int .i64 0]) ?_ 1 _ rfl; refine blk_put (cs := #[.int .i64 0, .int .i64 0]) ?_ 0 _ rfl; exact zC.1) kb rfl (by kernel_rfl) rfl (by refine blk_put (cs := #[.int .i64 (wrap64 (a0_0 + t162)), .int .i64 0]) ?_ 1 _ rfl; refine blk_put (cs := #[.int .i64 0, .int .i64 0]) ?_ 0 _ rfl; refine zt ?_ zK.1 _; refine zt ?_ zK.1 _; exact zD.1) kb rfl (by kernel_rfl)) rfl ?_
 exact ⟨by rfl, by repeat ((with_reducible first | exact HB.1 | refine zg ?_ zO.1 | refine zg ?_ zQ.1))⟩

end Go.Proofs.Ytakoaogbkajkcaa.PFnExactRemoveFrom
