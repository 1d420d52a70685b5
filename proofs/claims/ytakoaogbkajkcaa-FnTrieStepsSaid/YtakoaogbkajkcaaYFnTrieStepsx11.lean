/- Go functions told by Lean functions, printed by a program. No condition but what each statement says. -/
import Derived.Test.YtakoaogbkajkcaaYFnTrieStepsx10
namespace Go.Proofs.Ytakoaogbkajkcaa.PFnTrieSteps
open Go.RowKit Go.Proofs.YtakoaogbkajkcaaW.PrintWords Go.Proofs.YtakoaogbkajkcaaW.PrintLast Go.Proofs.YtakoaogbkajkcaaW.PrintMore
open List renaming setIfInBounds_toArray → kz, set_cons_zero → ky, set_cons_succ → kj, map_toArray → kh, map_cons → kg, map_nil → ke
open Aside0 renaming mk → kk
open Act renaming put → kv
open Or renaming inl → kf, inr → kx
open Option renaming bind_eq_some_iff → kb
open Option.some renaming inj → kd
open Nat renaming add_zero → kc, mul_one → ko
open Int renaming tmod → km
open Bool renaming true → ku, false → ks
set_option maxHeartbeats 8000000
set_option maxRecDepth 100000
open Go.Proofs.YtakoaogbkajkcaaW.PrintLast renaming i64_w → zi, i32_w → zj, any_of → zk, pure_ → zq, take_ofW → zz, take_ → zA
open Go.Proofs.YtakoaogbkajkcaaW.PrintWords renaming pw_below_drewN → za, below_drew1 → zb, blk_cell → zd, below_set → zf, blk_frozen → zo, blk_drew → zr, blk_drewN → zs, below_size → zu, below_step → zw, Aside0 → zy
open Go.Proofs.YtakoaogbkajkcaaW.PrintWords.Kd renaming R_drewN → zm, R_reads' → zv, R_elem → zx
open Go.Proofs.YtakoaogbkajkcaaW.PrintWords.Kept renaming drewN → zg
attribute [local go_sem] max2_int min2_int max_two min_two max_three min_three max_four min_four
set_option linter.unusedVariables false
set_option linter.unusedSimpArgs false
/-! ### spec_GoodPrefix: function 49 -/
def spec_GoodPrefix.f (a0_0 : Int) (a0_1 : Int) : Option (Bool) := (spec_l1In.f a0_1 0 32).bind fun t216 => (if t216 = true then ((spec_l1Addr.f a0_0).bind fun t217 => (if t217 = true then ((spec_l1Size.f a0_0 a0_1).bind fun t218 => (if t218 = 0 then (none) else (some ((km a0_0 t218) == 0)))) else (some false))) else (some false))
def spec_GoodPrefix.T1 : Bool × List (List Nat × List Nat) := (true, [([], []), ([0], [0]), ([1], [1]), ([2, 2], [2]), ([3], [3]), ([4, 3], [3, 4]), ([5, 3, 3], [3, 5]), ([3, 6], [3, 6]), ([7, 6], [7]), ([8], [8]), ([9, 8], [8, 9]), ([8], [8]), ([11, 8, 8], [8, 11]), ([10, 12, 8], [8, 10, 12]), ([13, 8], [8, 13]), ([8, 14], [8, 14]), ([15, 12, 0, 1, 2, 3, 4, 5, 6, 7, 8, 9, 10, 11, 12, 13, 14, 15], [15])])
def spec_GoodPrefix.B1 : List Nat := [0, 1, 3, 7, 15, 31, 63, 127, 255, 511, 1023, 511, 2559, 8191, 16383, 32767, 65535]
theorem spec_GoodPrefix.tab1 : rtab .any (opsOf Try.f49 1) = spec_GoodPrefix.T1 := by kernel_rfl
theorem spec_GoodPrefix.bits1 : waitsOk spec_GoodPrefix.T1.2 spec_GoodPrefix.B1 = true := by kernel_rfl
theorem spec_GoodPrefix.calls (a0_0 : Int) (a0_1 : Int) (r : Bool) (w : World) (h : spec_GoodPrefix.f a0_0 a0_1 = some r) :
  Calls Try.prog 49 #[.agg #[.int .i64 a0_0, .int .i64 a0_1]] w fun e w' => e = .returned (.bool r) ∧ Below w.heap.size w w' := by
 have hu37 := Try.underlying37
 have HB := kk (Below.refl w.heap.size w)
 have H : ((spec_l1In.f a0_1 0 32).bind fun t216 => (if t216 = true then ((spec_l1Addr.f a0_0).bind fun t217 => (if t217 = true then ((spec_l1Size.f a0_0 a0_1).bind fun t218 => (if t218 = 0 then (none) else (some ((km a0_0 t218) == 0)))) else (some false))) else (some false))) = some r := h
 clear h
 replace H := kb.mp H
 obtain ⟨t216, A20, H⟩ := H
 replace H : (if t216 = true then ((spec_l1Addr.f a0_0).bind fun t217 => (if t217 = true then ((spec_l1Size.f a0_0 a0_1).bind fun t218 => (if t218 = 0 then (none) else (some ((km a0_0 t218) == 0)))) else (some false))) else (some false)) = some r := H
 have A2 := kk A20
 clear A20
 by_cases c3 : t216 = true
 ·
  subst c3
  have H1 : ((spec_l1Addr.f a0_0).bind fun t217 => (if t217 = true then ((spec_l1Size.f a0_0 a0_1).bind fun t218 => (if t218 = 0 then (none) else (some ((km a0_0 t218) == 0)))) else (some false))) = some r := by rw [if_pos rfl] at H; exact H
  clear H
  have H := H1
  clear H1
  replace H := kb.mp H
  obtain ⟨t217, A40, H⟩ := H
  replace H : (if t217 = true then ((spec_l1Size.f a0_0 a0_1).bind fun t218 => (if t218 = 0 then (none) else (some ((km a0_0 t218) == 0)))) else (some false)) = some r := H
  have A4 := kk A40
  clear A40
  by_cases c5 : t217 = true
  ·
   subst c5
   have H1 : ((spec_l1Size.f a0_0 a0_1).bind fun t218 => (if t218 = 0 then (none) else (some ((km a0_0 t218) == 0)))) = some r := by rw [if_pos rfl] at H; exact H
   clear H
   have H := H1
   clear H1
   replace H := kb.mp H
   obtain ⟨t218, A60, H⟩ := H
   replace H : (if t218 = 0 then (none) else (some ((km a0_0 t218) == 0))) = some r := H
   have A6 := kk A60
   clear A60
   by_cases c7 : t218 = 0
   ·
    rw [if_pos c7] at H
    exact absurd H (by simp)
   ·
    rw [if_neg c7] at H
    have c7b0 : (t218 == 0) = false := beq_eq_false_iff_ne.mpr c7
    have c7b1 : (t218 != 0) = true := bne_iff_ne.mpr c7
    obtain rfl := kd H
    go_enter Try.func49, Try.ntmps49
    try go_wp2_with (((with_reducible refine gate_dst (N := 1) rfl ?_); refine box_event rfl (N := 1) rfl (cs := #[.int .i64 a0_0, .int .i64 a0_1]) (t := 37) ?hr ?_; (case hr => go_simp; done); intro gb215 hg w8 hbox hb; replace HB := kk (zw HB.1 hb); have zC := kk hbox; clear hb hbox hg))
    replace zC := kk (zr zC.1)
    replace HB := kk (zb HB.1)
    refine start_ (n := 17) (S := fun w' => w'.cell? ⟨gb215, 0, none⟩ = some (.int .i64 a0_0) ∧ w'.cell? ⟨gb215, 1, none⟩ = some (.int .i64 a0_1)) (ds := []) #[ks,ks,ks,ks,ks,ks,ks,ks,ks,ks,ks,ks,ks,ks,ks,ks,ks] (by kernel_rfl) rfl rfl ⟨(zd zC.1 0).trans rfl, (zd zC.1 1).trans rfl⟩ (fun hHeld => ?_); refine with_tabW spec_GoodPrefix.tab1 spec_GoodPrefix.bits1 (fun HT_ HW_ => ?_)
    generalize w8.drew = w9 at zC HB hHeld ⊢
    refine zq (i := 0) (N := some 3) (v := ?_) (a' := ?_) #[ku,ks,ks,ks,ks,ks,ks,ks,ks,ks,ks,ks,ks,ks,ks,ks,ks] rfl rfl (zk HT_.1 (by kernel_rfl)) (fun _ _ _ h => h) (kf ⟨by rfl, ?_⟩) ?_ ?_
    rotate_left
    ·
     intro w'
     go_simp
     with_reducible rfl
    rotate_left
    ·
     simp only [kv, kz, ky, kj, zi, zj]
     rfl
    refine zA (i := 1) (N := some 4) (v := ?_) (a' := ?_) #[ku,ku,ks,ks,ks,ks,ks,ks,ks,ks,ks,ks,ks,ks,ks,ks,ks] rfl rfl (zz HT_.1 HW_.1 (by kernel_rfl)) (fun _ _ _ h => h) (kf ⟨by rfl, ?_⟩) hHeld ?_ ?_
    rotate_left
    ·
     rintro w' ⟨s0, s1⟩
     go_simp
     with_reducible rfl
    rotate_left
    ·
     simp only [kv, kz, ky, kj, zi, zj]
     rfl
    refine one_ (i := 2) (N := some 5) #[ku,ku,ku,ks,ks,ks,ks,ks,ks,ks,ks,ks,ks,ks,ks,ks,ks] rfl rfl (one_of HT_.1 (by kernel_rfl)) (by decide) (fun K hK => ?_)
    refine goes_ Try.func58 (by kernel_rfl) rfl #[.int .i64 a0_1, .int .i64 0, .int .i64 32] (by rfl) rfl rfl (by (try simp only [kh, kg, ke]); rfl) ?_
    with_reducible refine (spec_l1In.calls a0_1 0 32 true _ A2.1).mono ?_
    rintro e w' ⟨rfl, ⟨nd, rfl⟩⟩
    refine ⟨_, rfl, ?_⟩
    refine hK.out _ _ ⟨(zd zC.1 0).trans rfl, (zd zC.1 1).trans rfl⟩ (fun hHeld => ?_)
    clear hK K
    refine norm_ (a' := ?_) ?_ ?_
    rotate_left
    ·
     show kv _ (some 5) _ = _
     simp only [kv, kz, ky, kj, zi, zj]
     rfl
    refine zq (i := 3) (N := some 6) (v := ?_) (a' := ?_) #[ku,ku,ku,ku,ks,ks,ks,ks,ks,ks,ks,ks,ks,ks,ks,ks,ks] rfl rfl (zk HT_.1 (by kernel_rfl)) (fun _ _ _ h => h) (kf ⟨by rfl, ?_⟩) ?_ ?_
    rotate_left
    ·
     intro w'
     go_simp
     with_reducible rfl
    rotate_left
    ·
     simp only [kv, kz, ky, kj, zi, zj]
     rfl
    refine zq (i := 4) (N := some 7) (v := ?_) (a' := ?_) #[ku,ku,ku,ku,ku,ks,ks,ks,ks,ks,ks,ks,ks,ks,ks,ks,ks] rfl rfl (zk HT_.1 (by kernel_rfl)) (fun _ _ _ h => h) (kf ⟨by rfl, ?_⟩) ?_ ?_
    rotate_left
    ·
     intro w'
     go_simp
     with_reducible rfl
    rotate_left
    ·
     simp only [kv, kz, ky, kj, zi, zj]
     rfl
    refine zA (i := 5) (N := some 8) (v := ?_) (a' := ?_) #[ku,ku,ku,ku,ku,ku,ks,ks,ks,ks,ks,ks,ks,ks,ks,ks,ks] rfl rfl (zz HT_.1 HW_.1 (by kernel_rfl)) (fun _ _ _ h => h) (kf ⟨by rfl, ?_⟩) hHeld ?_ ?_
    rotate_left
    ·
     rintro w' ⟨s0, s1⟩
     go_simp
     with_reducible rfl
    rotate_left
    ·
     simp only [kv, kz, ky, kj, zi, zj]
     rfl
    refine one_ (i := 6) (N := some 9) #[ku,ku,ku,ku,ku,ku,ku,ks,ks,ks,ks,ks,ks,ks,ks,ks,ks] rfl rfl (one_of HT_.1 (by kernel_rfl)) (by decide) (fun K hK => ?_)
    refine goes_ Try.func63 (by kernel_rfl) rfl #[.int .i64 a0_0] (by rfl) rfl rfl (by (try simp only [kh, kg, ke]); rfl) ?_
    with_reducible refine (spec_l1Addr.calls a0_0 true _ A4.1).mono ?_
    rintro e w' ⟨rfl, ⟨nd, rfl⟩⟩
    refine ⟨_, rfl, ?_⟩
    refine hK.out _ _ ⟨(zd zC.1 0).trans rfl, (zd zC.1 1).trans rfl⟩ (fun hHeld => ?_)
    clear hK K
    refine norm_ (a' := ?_) ?_ ?_
    rotate_left
    ·
     show kv _ (some 9) _ = _
     simp only [kv, kz, ky, kj, zi, zj]
     rfl
    refine zq (i := 7) (N := some 10) (v := ?_) (a' := ?_) #[ku,ku,ku,ku,ku,ku,ku,ku,ks,ks,ks,ks,ks,ks,ks,ks,ks] rfl rfl (zk HT_.1 (by kernel_rfl)) (fun _ _ _ h => h) (kf ⟨by rfl, ?_⟩) ?_ ?_
    rotate_left
    ·
     intro w'
     go_simp
     with_reducible rfl
    rotate_left
    ·
     simp only [kv, kz, ky, kj, zi, zj]
     rfl
    refine zq (i := 8) (N := some 11) (v := ?_) (a' := ?_) #[ku,ku,ku,ku,ku,ku,ku,ku,ku,ks,ks,ks,ks,ks,ks,ks,ks] rfl rfl (zk HT_.1 (by kernel_rfl)) (fun _ _ _ h => h) (kf ⟨by rfl, ?_⟩) ?_ ?_
    rotate_left
    ·
     intro w'
     go_simp
     with_reducible rfl
    rotate_left
    ·
     simp only [kv, kz, ky, kj, zi, zj]
     rfl
    refine zq (i := 9) (N := some 12) (v := ?_) (a' := ?_) #[ku,ku,ku,ku,ku,ku,ku,ku,ku,ku,ks,ks,ks,ks,ks,ks,ks] rfl rfl (zk HT_.1 (by kernel_rfl)) (fun _ _ _ h => h) (kf ⟨by rfl, ?_⟩) ?_ ?_
    rotate_left
    ·
     intro w'
     go_simp
     with_reducible rfl
    rotate_left
    ·
     simp only [kv, kz, ky, kj, zi, zj]
     rfl
    refine zA (i := 10) (N := some 13) (v := ?_) (a' := ?_) #[ku,ku,ku,ku,ku,ku,ku,ku,ku,ku,ku,ks,ks,ks,ks,ks,ks] rfl rfl (zz HT_.1 HW_.1 (by kernel_rfl)) (fun _ _ _ h => h) (kf ⟨by rfl, ?_⟩) hHeld ?_ ?_
    rotate_left
    ·
     rintro w' ⟨s0, s1⟩
     go_simp
     with_reducible rfl
    rotate_left
    ·
     simp only [kv, kz, ky, kj, zi, zj]
     rfl
    refine zA (i := 11) (N := some 14) (v := ?_) (a' := ?_) #[ku,ku,ku,ku,ku,ku,ku,ku,ku,ku,ku,ku,ks,ks,ks,ks,ks] rfl rfl (zz HT_.1 HW_.1 (by kernel_rfl)) (fun _ _ _ h => h) (kf ⟨by rfl, ?_⟩) hHeld ?_ ?_
    rotate_left
    ·
     rintro w' ⟨s0, s1⟩
     go_simp
     with_reducible rfl
    rotate_left
    ·
     simp only [kv, kz, ky, kj, zi, zj]
     rfl
    refine one_ (i := 12) (N := some 15) #[ku,ku,ku,ku,ku,ku,ku,ku,ku,ku,ku,ku,ku,ks,ks,ks,ks] rfl rfl (one_of HT_.1 (by kernel_rfl)) (by decide) (fun K hK => ?_)
    refine goes_ Try.func88 (by kernel_rfl) rfl #[.agg #[.int .i64 a0_0, .int .i64 a0_1]] (by rfl) rfl rfl (by (try simp only [kh, kg, ke]); rfl) ?_
    with_reducible refine (spec_l1Size.calls a0_0 a0_1 t218 _ A6.1).mono ?_
    rintro e w10 ⟨rfl, hb⟩
    refine ⟨_, rfl, ?_⟩
    replace zC := kk (blk_below (g := gb215) (o := .cells #[.int .i64 a0_0, .int .i64 a0_1] 37 (0, 0)) (by (with_reducible repeat (refine zs ?_ _)); exact zC.1) hb)
    replace HB := kk (zw (by repeat ((with_reducible first | exact HB.1 | apply za))) hb)
    refine hK.out _ _ ⟨(zd zC.1 0).trans rfl, (zd zC.1 1).trans rfl⟩ (fun hHeld => ?_)
    clear hK K
    refine norm_ (a' := ?_) ?_ ?_
    rotate_left
    ·
     show kv _ (some 15) _ = _
     simp only [kv, kz, ky, kj, zi, zj]
     rfl
    refine zq (i := 13) (N := some 16) (v := ?_) (a' := ?_) #[ku,ku,ku,ku,ku,ku,ku,ku,ku,ku,ku,ku,ku,ku,ks,ks,ks] rfl rfl (zk HT_.1 (by kernel_rfl)) (fun _ _ _ h => h) (kf ⟨by rfl, ?_⟩) ?_ ?_
    rotate_left
    ·
     intro w'
     go_simp
     with_reducible rfl
    rotate_left
    ·
     simp only [kv, kz, ky, kj, zi, zj]
     rfl
    refine zq (i := 14) (N := some 17) (v := ?_) (a' := ?_) #[ku,ku,ku,ku,ku,ku,ku,ku,ku,ku,ku,ku,ku,ku,ku,ks,ks] rfl rfl (zk HT_.1 (by kernel_rfl)) (fun _ _ _ h => h) (kf ⟨by rfl, ?_⟩) ?_ ?_
    rotate_left
    ·
     intro w'
     go_simp
     with_reducible rfl
    rotate_left
    ·
     simp only [kv, kz, ky, kj, zi, zj]
     rfl
    refine zq (i := 15) (N := some 18) (v := ?_) (a' := ?_) #[ku,ku,ku,ku,ku,ku,ku,ku,ku,ku,ku,ku,ku,ku,ku,ku,ks] rfl rfl (zk HT_.1 (by kernel_rfl)) (fun _ _ _ h => h) (kf ⟨by rfl, ?_⟩) ?_ ?_
    rotate_left
    ·
     intro w'
     go_simp
     with_reducible rfl
    rotate_left
    ·
     simp only [kv, kz, ky, kj, zi, zj]
     rfl
    refine zq (i := 16) (N := some 2) (v := ?_) (a' := ?_) #[ku,ku,ku,ku,ku,ku,ku,ku,ku,ku,ku,ku,ku,ku,ku,ku,ku] rfl rfl (zk HT_.1 (by kernel_rfl)) (fun _ _ _ h => h) (kf ⟨by rfl, ?_⟩) ?_ ?_
    rotate_left
    ·
     intro w'
     go_simp
     with_reducible rfl
    rotate_left
    ·
     simp only [kv, kz, ky, kj, zi, zj]
     rfl
    refine done_ (done_of HT_.1 (by kernel_rfl)) ?_
    try go_wp2
    go_ret
    exact ⟨by rfl, by exact HB.1⟩
  ·
   replace c5 := Bool.eq_false_iff.mpr c5
   subst c5
   have H1 : (some false) = some r := by rw [if_neg (show ¬ (false = true) by decide)] at H; exact H
   clear H
   have H := H1
   clear H1
   obtain rfl := kd H
   go_enter Try.func49, Try.ntmps49
   try go_wp2_with (((with_reducible refine gate_dst (N := 1) rfl ?_); refine box_event rfl (N := 1) rfl (cs := #[.int .i64 a0_0, .int .i64 a0_1]) (t := 37) ?hr ?_; (case hr => go_simp; done); intro gb215 hg w11 hbox hb; replace HB := kk (zw HB.1 hb); have zC := kk hbox; clear hb hbox hg))
   replace zC := kk (zr zC.1)
   replace HB := kk (zb HB.1)
   refine start_ (n := 17) (S := fun w' => w'.cell? ⟨gb215, 0, none⟩ = some (.int .i64 a0_0) ∧ w'.cell? ⟨gb215, 1, none⟩ = some (.int .i64 a0_1)) (ds := []) #[ks,ks,ks,ks,ks,ks,ks,ks,ks,ks,ks,ks,ks,ks,ks,ks,ks] (by kernel_rfl) rfl rfl ⟨(zd zC.1 0).trans rfl, (zd zC.1 1).trans rfl⟩ (fun hHeld => ?_); refine with_tabW spec_GoodPrefix.tab1 spec_GoodPrefix.bits1 (fun HT_ HW_ => ?_)
   generalize w11.drew = w12 at zC HB hHeld ⊢
   refine zq (i := 0) (N := some 3) (v := ?_) (a' := ?_) #[ku,ks,ks,ks,ks,ks,ks,ks,ks,ks,ks,ks,ks,ks,ks,ks,ks] rfl rfl (zk HT_.1 (by kernel_rfl)) (fun _ _ _ h => h) (kf ⟨by rfl, ?_⟩) ?_ ?_
   rotate_left
   ·
    intro w'
    go_simp
    with_reducible rfl
   rotate_left
   ·
    simp only [kv, kz, ky, kj, zi, zj]
    rfl
   refine zA (i := 1) (N := some 4) (v := ?_) (a' := ?_) #[ku,ku,ks,ks,ks,ks,ks,ks,ks,ks,ks,ks,ks,ks,ks,ks,ks] rfl rfl (zz HT_.1 HW_.1 (by kernel_rfl)) (fun _ _ _ h => h) (kf ⟨by rfl, ?_⟩) hHeld ?_ ?_
   rotate_left
   ·
    rintro w' ⟨s0, s1⟩
    go_simp
    with_reducible rfl
   rotate_left
   ·
    simp only [kv, kz, ky, kj, zi, zj]
    rfl
   refine one_ (i := 2) (N := some 5) #[ku,ku,ku,ks,ks,ks,ks,ks,ks,ks,ks,ks,ks,ks,ks,ks,ks] rfl rfl (one_of HT_.1 (by kernel_rfl)) (by decide) (fun K hK => ?_)
   refine goes_ Try.func58 (by kernel_rfl) rfl #[.int .i64 a0_1, .int .i64 0, .int .i64 32] (by rfl) rfl rfl (by (try simp only [kh, kg, ke]); rfl) ?_
   with_reducible refine (spec_l1In.calls a0_1 0 32 true _ A2.1).mono ?_
   rintro e w' ⟨rfl, ⟨nd, rfl⟩⟩
   refine ⟨_, rfl, ?_⟩
   refine hK.out _ _ ⟨(zd zC.1 0).trans rfl, (zd zC.1 1).trans rfl⟩ (fun hHeld => ?_)
   clear hK K
   refine norm_ (a' := ?_) ?_ ?_
   rotate_left
   ·
    show kv _ (some 5) _ = _
    simp only [kv, kz, ky, kj, zi, zj]
    rfl
   refine zq (i := 3) (N := some 6) (v := ?_) (a' := ?_) #[ku,ku,ku,ku,ks,ks,ks,ks,ks,ks,ks,ks,ks,ks,ks,ks,ks] rfl rfl (zk HT_.1 (by kernel_rfl)) (fun _ _ _ h => h) (kf ⟨by rfl, ?_⟩) ?_ ?_
   rotate_left
   ·
    intro w'
    go_simp
    with_reducible rfl
   rotate_left
   ·
    simp only [kv, kz, ky, kj, zi, zj]
    rfl
   refine zq (i := 4) (N := some 7) (v := ?_) (a' := ?_) #[ku,ku,ku,ku,ku,ks,ks,ks,ks,ks,ks,ks,ks,ks,ks,ks,ks] rfl rfl (zk HT_.1 (by kernel_rfl)) (fun _ _ _ h => h) (kf ⟨by rfl, ?_⟩) ?_ ?_
   rotate_left
   ·
    intro w'
    go_simp
    with_reducible rfl
   rotate_left
   ·
    simp only [kv, kz, ky, kj, zi, zj]
    rfl
   refine zA (i := 5) (N := some 8) (v := ?_) (a' := ?_) #[ku,ku,ku,ku,ku,ku,ks,ks,ks,ks,ks,ks,ks,ks,ks,ks,ks] rfl rfl (zz HT_.1 HW_.1 (by kernel_rfl)) (fun _ _ _ h => h) (kf ⟨by rfl, ?_⟩) hHeld ?_ ?_
   rotate_left
   ·
    rintro w' ⟨s0, s1⟩
    go_simp
    with_reducible rfl
   rotate_left
   ·
    simp only [kv, kz, ky, kj, zi, zj]
    rfl
   refine one_ (i := 6) (N := some 9) #[ku,ku,ku,ku,ku,ku,ku,ks,ks,ks,ks,ks,ks,ks,ks,ks,ks] rfl rfl (one_of HT_.1 (by kernel_rfl)) (by decide) (fun K hK => ?_)
   refine goes_ Try.func63 (by kernel_rfl) rfl #[.int .i64 a0_0] (by rfl) rfl rfl (by (try simp only [kh, kg, ke]); rfl) ?_
   with_reducible refine (spec_l1Addr.calls a0_0 false _ A4.1).mono ?_
   rintro e w' ⟨rfl, ⟨nd, rfl⟩⟩
   refine ⟨_, rfl, ?_⟩
   refine hK.out _ _ ⟨(zd zC.1 0).trans rfl, (zd zC.1 1).trans rfl⟩ (fun hHeld => ?_)
   clear hK K
   refine norm_ (a' := ?_) ?_ ?_
   rotate_left
   ·
    show kv _ (some 9) _ = _
    simp only [kv, kz, ky, kj, zi, zj]
    rfl
   refine zq (i := 7) (N := some 10) (v := ?_) (a' := ?_) #[ku,ku,ku,ku,ku,ku,ku,ku,ks,ks,ks,ks,ks,ks,ks,ks,ks] rfl rfl (zk HT_.1 (by kernel_rfl)) (fun _ _ _ h => h) (kf ⟨by rfl, ?_⟩) ?_ ?_
   rotate_left
   ·
    intro w'
    go_simp
    with_reducible rfl
   rotate_left
   ·
    simp only [kv, kz, ky, kj, zi, zj]
    rfl
   refine zq (i := 8) (N := some 11) (v := ?_) (a' := ?_) #[ku,ku,ku,ku,ku,ku,ku,ku,ku,ks,ks,ks,ks,ks,ks,ks,ks] rfl rfl (zk HT_.1 (by kernel_rfl)) (fun _ _ _ h => h) (kf ⟨by rfl, ?_⟩) ?_ ?_
   rotate_left
   ·
    intro w'
    go_simp
    with_reducible rfl
   rotate_left
   ·
    simp only [kv, kz, ky, kj, zi, zj]
    rfl
   refine zq (i := 9) (N := some 12) (v := undef) (a' := ?_) #[ku,ku,ku,ku,ku,ku,ku,ku,ku,ku,ks,ks,ks,ks,ks,ks,ks] rfl rfl (zk HT_.1 (by kernel_rfl)) (fun _ _ _ h => h) (kx ⟨by rfl, rfl⟩) ?_ ?_
   rotate_left
   ·
    simp only [kv, kz, ky, kj, zi, zj]
    rfl
   refine zq (i := 10) (N := some 13) (v := undef) (a' := ?_) #[ku,ku,ku,ku,ku,ku,ku,ku,ku,ku,ku,ks,ks,ks,ks,ks,ks] rfl rfl (zk HT_.1 (by kernel_rfl)) (fun _ _ _ h => h) (kx ⟨by rfl, rfl⟩) ?_ ?_
   rotate_left
   ·
    simp only [kv, kz, ky, kj, zi, zj]
    rfl
   refine zq (i := 11) (N := some 14) (v := undef) (a' := ?_) #[ku,ku,ku,ku,ku,ku,ku,ku,ku,ku,ku,ku,ks,ks,ks,ks,ks] rfl rfl (zk HT_.1 (by kernel_rfl)) (fun _ _ _ h => h) (kx ⟨by rfl, rfl⟩) ?_ ?_
   rotate_left
   ·
    simp only [kv, kz, ky, kj, zi, zj]
    rfl
   refine zq (i := 12) (N := some 15) (v := undef) (a' := ?_) #[ku,ku,ku,ku,ku,ku,ku,ku,ku,ku,ku,ku,ku,ks,ks,ks,ks] rfl rfl (zk HT_.1 (by kernel_rfl)) (fun _ _ _ h => h) (kx ⟨by rfl, rfl⟩) ?_ ?_
   rotate_left
   ·
    simp only [kv, kz, ky, kj, zi, zj]
    rfl
   refine zq (i := 13) (N := some 16) (v := undef) (a' := ?_) #[ku,ku,ku,ku,ku,ku,ku,ku,ku,ku,ku,ku,ku,ku,ks,ks,ks] rfl rfl (zk HT_.1 (by kernel_rfl)) (fun _ _ _ h => h) (kx ⟨by rfl, rfl⟩) ?_ ?_
   rotate_left
   ·
    simp only [kv, kz, ky, kj, zi, zj]
    rfl
   refine zq (i := 14) (N := some 17) (v := undef) (a' := ?_) #[ku,ku,ku,ku,ku,ku,ku,ku,ku,ku,ku,ku,ku,ku,ku,ks,ks] rfl rfl (zk HT_.1 (by kernel_rfl)) (fun _ _ _ h => h) (kx ⟨by rfl, rfl⟩) ?_ ?_
   rotate_left
   ·
    simp only [kv, kz, ky, kj, zi, zj]
    rfl
   refine zq (i := 15) (N := some 18) (v := ?_) (a' := ?_) #[ku,ku,ku,ku,ku,ku,ku,ku,ku,ku,ku,ku,ku,ku,ku,ku,ks] rfl rfl (zk HT_.1 (by kernel_rfl)) (fun _ _ _ h => h) (kf ⟨by rfl, ?_⟩) ?_ ?_
   rotate_left
   ·
    intro w'
    go_simp
    with_reducible rfl
   rotate_left
   ·
    simp only [kv, kz, ky, kj, zi, zj]
    rfl
   refine zq (i := 16) (N := some 2) (v := ?_) (a' := ?_) #[ku,ku,ku,ku,ku,ku,ku,ku,ku,ku,ku,ku,ku,ku,ku,ku,ku] rfl rfl (zk HT_.1 (by kernel_rfl)) (fun _ _ _ h => h) (kf ⟨by rfl, ?_⟩) ?_ ?_
   rotate_left
   ·
    intro w'
    go_simp
    with_reducible rfl
   rotate_left
   ·
    simp only [kv, kz, ky, kj, zi, zj]
    rfl
   refine done_ (done_of HT_.1 (by kernel_rfl)) ?_
   try go_wp2
   go_ret
   exact ⟨by rfl, by repeat ((with_reducible first | exact HB.1 | apply za))⟩
 ·
  replace c3 := Bool.eq_false_iff.mpr c3
  subst c3
  have H1 : (some false) = some r := by rw [if_neg (show ¬ (false = true) by decide)] at H; exact H
  clear H
  have H := H1
  clear H1
  obtain rfl := kd H
  go_enter Try.func49, Try.ntmps49
  try go_wp2_with (((with_reducible refine gate_dst (N := 1) rfl ?_); refine box_event rfl (N := 1) rfl (cs := #[.int .i64 a0_0, .int .i64 a0_1]) (t := 37) ?hr ?_; (case hr => go_simp; done); intro gb215 hg w13 hbox hb; replace HB := kk (zw HB.1 hb); have zC := kk hbox; clear hb hbox hg))
  replace zC := kk (zr zC.1)
  replace HB := kk (zb HB.1)
  refine start_ (n := 17) (S := fun w' => w'.cell? ⟨gb215, 0, none⟩ = some (.int .i64 a0_0) ∧ w'.cell? ⟨gb215, 1, none⟩ = some (.int .i64 a0_1)) (ds := []) #[ks,ks,ks,ks,ks,ks,ks,ks,ks,ks,ks,ks,ks,ks,ks,ks,ks] (by kernel_rfl) rfl rfl ⟨(zd zC.1 0).trans rfl, (zd zC.1 1).trans rfl⟩ (fun hHeld => ?_); refine with_tabW spec_GoodPrefix.tab1 spec_GoodPrefix.bits1 (fun HT_ HW_ => ?_)
  generalize w13.drew = w14 at zC HB hHeld ⊢
  refine zq (i := 0) (N := some 3) (v := ?_) (a' := ?_) #[ku,ks,ks,ks,ks,ks,ks,ks,ks,ks,ks,ks,ks,ks,ks,ks,ks] rfl rfl (zk HT_.1 (by kernel_rfl)) (fun _ _ _ h => h) (kf ⟨by rfl, ?_⟩) ?_ ?_
  rotate_left
  ·
   intro w'
   go_simp
   with_reducible rfl
  rotate_left
  ·
   simp only [kv, kz, ky, kj, zi, zj]
   rfl
  refine zA (i := 1) (N := some 4) (v := ?_) (a' := ?_) #[ku,ku,ks,ks,ks,ks,ks,ks,ks,ks,ks,ks,ks,ks,ks,ks,ks] rfl rfl (zz HT_.1 HW_.1 (by kernel_rfl)) (fun _ _ _ h => h) (kf ⟨by rfl, ?_⟩) hHeld ?_ ?_
  rotate_left
  ·
   rintro w' ⟨s0, s1⟩
   go_simp
   with_reducible rfl
  rotate_left
  ·
   simp only [kv, kz, ky, kj, zi, zj]
   rfl
  refine one_ (i := 2) (N := some 5) #[ku,ku,ku,ks,ks,ks,ks,ks,ks,ks,ks,ks,ks,ks,ks,ks,ks] rfl rfl (one_of HT_.1 (by kernel_rfl)) (by decide) (fun K hK => ?_)
  refine goes_ Try.func58 (by kernel_rfl) rfl #[.int .i64 a0_1, .int .i64 0, .int .i64 32] (by rfl) rfl rfl (by (try simp only [kh, kg, ke]); rfl) ?_
  with_reducible refine (spec_l1In.calls a0_1 0 32 false _ A2.1).mono ?_
  rintro e w' ⟨rfl, ⟨nd, rfl⟩⟩
  refine ⟨_, rfl, ?_⟩
  refine hK.out _ _ ⟨(zd zC.1 0).trans rfl, (zd zC.1 1).trans rfl⟩ (fun hHeld => ?_)
  clear hK K
  refine norm_ (a' := ?_) ?_ ?_
  rotate_left
  ·
   show kv _ (some 5) _ = _
   simp only [kv, kz, ky, kj, zi, zj]
   rfl
  refine zq (i := 3) (N := some 6) (v := ?_) (a' := ?_) #[ku,ku,ku,ku,ks,ks,ks,ks,ks,ks,ks,ks,ks,ks,ks,ks,ks] rfl rfl (zk HT_.1 (by kernel_rfl)) (fun _ _ _ h => h) (kf ⟨by rfl, ?_⟩) ?_ ?_
  rotate_left
  ·
   intro w'
   go_simp
   with_reducible rfl
  rotate_left
  ·
   simp only [kv, kz, ky, kj, zi, zj]
   rfl
  refine zq (i := 4) (N := some 7) (v := undef) (a' := ?_) #[ku,ku,ku,ku,ku,ks,ks,ks,ks,ks,ks,ks,ks,ks,ks,ks,ks] rfl rfl (zk HT_.1 (by kernel_rfl)) (fun _ _ _ h => h) (kx ⟨by rfl, rfl⟩) ?_ ?_
  rotate_left
  ·
   simp only [kv, kz, ky, kj, zi, zj]
   rfl
  refine zq (i := 5) (N := some 8) (v := undef) (a' := ?_) #[ku,ku,ku,ku,ku,ku,ks,ks,ks,ks,ks,ks,ks,ks,ks,ks,ks] rfl rfl (zk HT_.1 (by kernel_rfl)) (fun _ _ _ h => h) (kx ⟨by rfl, rfl⟩) ?_ ?_
  rotate_left
  ·
   simp only [kv, kz, ky, kj, zi, zj]
   rfl
  refine zq (i := 6) (N := some 9) (v := undef) (a' := ?_) #[ku,ku,ku,ku,ku,ku,ku,ks,ks,ks,ks,ks,ks,ks,ks,ks,ks] rfl rfl (zk HT_.1 (by kernel_rfl)) (fun _ _ _ h => h) (kx ⟨by rfl, rfl⟩) ?_ ?_
  rotate_left
  ·
   simp only [kv, kz, ky, kj, zi, zj]
   rfl
  refine zq (i := 7) (N := some 10) (v := ?_) (a' := ?_) #[ku,ku,ku,ku,ku,ku,ku,ku,ks,ks,ks,ks,ks,ks,ks,ks,ks] rfl rfl (zk HT_.1 (by kernel_rfl)) (fun _ _ _ h => h) (kf ⟨by rfl, ?_⟩) ?_ ?_
  rotate_left
  ·
   intro w'
   go_simp
   with_reducible rfl
  rotate_left
  ·
   simp only [kv, kz, ky, kj, zi, zj]
   rfl
  refine zq (i := 8) (N := some 11) (v := ?_) (a' := ?_) #[ku,ku,ku,ku,ku,ku,ku,ku,ku,ks,ks,ks,ks,ks,ks,ks,ks] rfl rfl (zk HT_.1 (by kernel_rfl)) (fun _ _ _ h => h) (kf ⟨by rfl, ?_⟩) ?_ ?_
  rotate_left
  ·
   intro w'
   go_simp
   with_reducible rfl
  rotate_left
  ·
   simp only [kv, kz, ky, kj, zi, zj]
   rfl
  refine zq (i := 9) (N := some 12) (v := undef) (a' := ?_) #[ku,ku,ku,ku,ku,ku,ku,ku,ku,ku,ks,ks,ks,ks,ks,ks,ks] rfl rfl (zk HT_.1 (by kernel_rfl)) (fun _ _ _ h => h) (kx ⟨by rfl, rfl⟩) ?_ ?_
  rotate_left
  ·
   simp only [kv, kz, ky, kj, zi, zj]
   rfl
  refine zq (i := 10) (N := some 13) (v := undef) (a' := ?_) #[ku,ku,ku,ku,ku,ku,ku,ku,ku,ku,ku,ks,ks,ks,ks,ks,ks] rfl rfl (zk HT_.1 (by kernel_rfl)) (fun _ _ _ h => h) (kx ⟨by rfl, rfl⟩) ?_ ?_
  rotate_left
  ·
   simp only [kv, kz, ky, kj, zi, zj]
   rfl
  refine zq (i := 11) (N := some 14) (v := undef) (a' := ?_) #[ku,ku,ku,ku,ku,ku,ku,ku,ku,ku,ku,ku,ks,ks,ks,ks,ks] rfl rfl (zk HT_.1 (by kernel_rfl)) (fun _ _ _ h => h) (kx ⟨by rfl, rfl⟩) ?_ ?_
  rotate_left
  ·
   simp only [kv, kz, ky, kj, zi, zj]
   rfl
  refine zq (i := 12) (N := some 15) (v := undef) (a' := ?_) #[ku,ku,ku,ku,ku,ku,ku,ku,ku,ku,ku,ku,ku,ks,ks,ks,ks] rfl rfl (zk HT_.1 (by kernel_rfl)) (fun _ _ _ h => h) (kx ⟨by rfl, rfl⟩) ?_ ?_
  rotate_left
  ·
   simp only [kv, kz, ky, kj, zi, zj]
   rfl
  refine zq (i := 13) (N := some 16) (v := undef) (a' := ?_) #[ku,ku,ku,ku,ku,ku,ku,ku,ku,ku,ku,ku,ku,ku,ks,ks,ks] rfl rfl (zk HT_.1 (by kernel_rfl)) (fun _ _ _ h => h) (kx ⟨by rfl, rfl⟩) ?_ ?_
  rotate_left
  ·
   simp only [kv, kz, ky, kj, zi, zj]
   rfl
  refine zq (i := 14) (N := some 17) (v := undef) (a' := ?_) #[ku,ku,ku,ku,ku,ku,ku,ku,ku,ku,ku,ku,ku,ku,ku,ks,ks] rfl rfl (zk HT_.1 (by kernel_rfl)) (fun _ _ _ h => h) (kx ⟨by rfl, rfl⟩) ?_ ?_
  rotate_left
  ·
   simp only [kv, kz, ky, kj, zi, zj]
   rfl
  refine zq (i := 15) (N := some 18) (v := ?_) (a' := ?_) #[ku,ku,ku,ku,ku,ku,ku,ku,ku,ku,ku,ku,ku,ku,ku,ku,ks] rfl rfl (zk HT_.1 (by kernel_rfl)) (fun _ _ _ h => h) (kf ⟨by rfl, ?_⟩) ?_ ?_
  rotate_left
  ·
   intro w'
   go_simp
   with_reducible rfl
  rotate_left
  ·
   simp only [kv, kz, ky, kj, zi, zj]
   rfl
  refine zq (i := 16) (N := some 2) (v := ?_) (a' := ?_) #[ku,ku,ku,ku,ku,ku,ku,ku,ku,ku,ku,ku,ku,ku,ku,ku,ku] rfl rfl (zk HT_.1 (by kernel_rfl)) (fun _ _ _ h => h) (kf ⟨by rfl, ?_⟩) ?_ ?_
  rotate_left
  ·
   intro w'
   go_simp
   with_reducible rfl
  rotate_left
  ·
   simp only [kv, kz, ky, kj, zi, zj]
   rfl
  refine done_ (done_of HT_.1 (by kernel_rfl)) ?_
  try go_wp2
  go_ret
  exact ⟨by rfl, by repeat ((with_reducible first | exact HB.1 | apply za))⟩
/-! ### spec_l2Half: function 68 -/
def spec_l2Half.f (a0_0 : Int) (a0_1 : Int) (a0_2 : Bool) (a0_3 : Int) (a1 : Int) : Option (Int) := if a1 = 1 then (some a0_1) else (some a0_0)
theorem spec_l2Half.calls (a0_0 : Int) (a0_1 : Int) (a0_2 : Bool) (a0_3 : Int) (a1 : Int) (r : Int) (w : World) (h : spec_l2Half.f a0_0 a0_1 a0_2 a0_3 a1 = some r) :
  Calls Try.prog 68 #[.agg #[.int .i64 a0_0, .int .i64 a0_1, .bool a0_2, .int .i64 a0_3], .int .i64 a1] w fun e w' => e = .returned (.int .i64 r) ∧ Below w.heap.size w w' := by
 have hu86 := Try.underlying86
 have HB := kk (Below.refl w.heap.size w)
 have H : (if a1 = 1 then (some a0_1) else (some a0_0)) = some r := h
 clear h
 by_cases c3 : a1 = 1
 ·
  rw [if_pos c3] at H
  have c3b0 : (a1 == 1) = true := beq_iff_eq.mpr c3
  have c3b1 : (a1 != 1) = false := bne_eq_false_iff_eq.mpr c3
  clear c3
  obtain rfl := kd H
  go_enter Try.func68, Try.ntmps68
  go_wp2_with (((with_reducible refine gate_dst (N := 2) rfl ?_); refine box_event rfl (N := 2) rfl (cs := #[.int .i64 a0_0, .int .i64 a0_1, .bool a0_2, .int .i64 a0_3]) (t := 86) ?hr ?_; (case hr => go_simp; done); intro gb219 hg w4 hbox hb; replace HB := kk (zw HB.1 hb); have zF := kk hbox; clear hb hbox hg; have hcz5_0 : w4.cell? ⟨gb219, 0, none⟩ = some (.int .i64 a0_0) := (zd zF.1 0).trans rfl; have hcz5_1 : w4.cell? ⟨gb219, 1, none⟩ = some (.int .i64 a0_1) := (zd zF.1 1).trans rfl; have hcz5_2 : w4.cell? ⟨gb219, 2, none⟩ = some (.bool a0_2) := (zd zF.1 2).trans rfl; have hcz5_3 : w4.cell? ⟨gb219, 3, none⟩ = some (.int .i64 a0_3) := (zd zF.1 3).trans rfl; have hfz5_0 := zo zF.1 0; have hfz5_1 := zo zF.1 1; have hfz5_2 := zo zF.1 2; have hfz5_3 := zo zF.1 3))
  go_ret
  exact ⟨by rfl, by exact HB.1⟩
 ·
  rw [if_neg c3] at H
  have c3b0 : (a1 == 1) = false := beq_eq_false_iff_ne.mpr c3
  have c3b1 : (a1 != 1) = true := bne_iff_ne.mpr c3
  obtain rfl := kd H
  go_enter Try.func68, Try.ntmps68
  go_wp2_with (((with_reducible refine gate_dst (N := 2) rfl ?_); refine box_event rfl (N := 2) rfl (cs := #[.int .i64 a0_0, .int .i64 a0_1, .bool a0_2, .int .i64 a0_3]) (t := 86) ?hr ?_; (case hr => go_simp; done); intro gb219 hg w6 hbox hb; replace HB := kk (zw HB.1 hb); have zF := kk hbox; clear hb hbox hg; have hcz7_0 : w6.cell? ⟨gb219, 0, none⟩ = some (.int .i64 a0_0) := (zd zF.1 0).trans rfl; have hcz7_1 : w6.cell? ⟨gb219, 1, none⟩ = some (.int .i64 a0_1) := (zd zF.1 1).trans rfl; have hcz7_2 : w6.cell? ⟨gb219, 2, none⟩ = some (.bool a0_2) := (zd zF.1 2).trans rfl; have hcz7_3 : w6.cell? ⟨gb219, 3, none⟩ = some (.int .i64 a0_3) := (zd zF.1 3).trans rfl; have hfz7_0 := zo zF.1 0; have hfz7_1 := zo zF.1 1; have hfz7_2 := zo zF.1 2; have hfz7_3 := zo zF.1 3))
  go_ret
  exact ⟨by rfl, by exact HB.1⟩
/-! ### spec_l2Bit: function 69 -/
def spec_l2Bit.f (a0 : Int) (a1 : Int) : Option (Int) := if 0 ≤ (IntKind.u64.wrap (wrap64 (31 - a1))) then (some (Go.bits .and .i64 (shr .i64 a0 (IntKind.u64.wrap (wrap64 (31 - a1)))) 1)) else (none)
theorem spec_l2Bit.calls (a0 : Int) (a1 : Int) (r : Int) (w : World) (h : spec_l2Bit.f a0 a1 = some r) :
  Calls Try.prog 69 #[.int .i64 a0, .int .i64 a1] w fun e w' => e = .returned (.int .i64 r) ∧ Drawn0 w w' := by
 have H : (if 0 ≤ (IntKind.u64.wrap (wrap64 (31 - a1))) then (some (Go.bits .and .i64 (shr .i64 a0 (IntKind.u64.wrap (wrap64 (31 - a1)))) 1)) else (none)) = some r := h
 clear h
 obtain ⟨ji3, hji3⟩ : ∃ j_ : Int, (IntKind.u64.wrap (wrap64 (31 - a1))) = j_ := ⟨_, rfl⟩
 replace H : (if 0 ≤ (ji3) then (some (Go.bits .and .i64 (shr .i64 a0 (ji3)) 1)) else (none)) = some r := by (rw [hji3] at H; exact H)
 by_cases c4 : 0 ≤ (ji3)
 ·
  rw [if_pos c4] at H
  have c4b0 := eq_true c4
  have c4b1 : decide (0 ≤ (ji3)) = true := decide_eq_true c4
  clear c4
  obtain ⟨ji5, hji5⟩ : ∃ j_ : Int, (shr .i64 a0 (ji3)) = j_ := ⟨_, rfl⟩
  replace H : (some (Go.bits .and .i64 (ji5) 1)) = some r := by (rw [hji5] at H; exact H)
  have hji5_ : (a0 / 2 ^ min (ji3).toNat 64) = ji5 := hji5
  have hji5z : (ji3) ≤ 64 → (a0 / 2 ^ (ji3).toNat) = ji5 := shr_small hji5
  obtain rfl := kd H
  go_enter Try.func69, Try.ntmps69
  go_wp2
  go_ret
  exact ⟨by rfl, by repeat (exact Drawn0.refl _)⟩
 ·
  rw [if_neg c4] at H
  exact absurd H (by simp)
/-! ### spec_l2Insert: function 74 -/
def spec_l2Insert.l0 : Nat → List (S86) → Int → Int → Int → Int → Int → Option ((List (S86)))
 | 0, _, _, _, _, _, _ => none
 | k + 1, x0, x2, x7, x8, x221000, x221001 => if x8 < x221001 then ((spec_l2Bit.f x221000 x8).bind fun t223 => (if 0 ≤ x7 then (if x7 < (x0.length : Int) then ((spec_l2Half.f ((rd_T86 x0 x7).f0) ((rd_T86 x0 x7).f1) ((rd_T86 x0 x7).f2) ((rd_T86 x0 x7).f3) t223).bind fun t225 => (if t225 = 0 then (if x0.length < 4398046511104 then ((some (x0 ++ [(⟨0, 0, false, 0⟩ : S86)] : List (S86))).bind fun y226 => (if t223 = 1 then (if x7 < (y226.length : Int) then (spec_l2Insert.l0 k (y226.set (x7 : Int).toNat (⟨(rd_T86 y226 x7).f0, (x0.length : Int), (rd_T86 y226 x7).f2, (rd_T86 y226 x7).f3⟩ : S86)) x2 (x0.length : Int) (wrap64 (x8 + 1)) x221000 x221001) else (none)) else (if x7 < (y226.length : Int) then (spec_l2Insert.l0 k (y226.set (x7 : Int).toNat (⟨(x0.length : Int), (rd_T86 y226 x7).f1, (rd_T86 y226 x7).f2, (rd_T86 y226 x7).f3⟩ : S86)) x2 (x0.length : Int) (wrap64 (x8 + 1)) x221000 x221001) else (none)))) else (none)) else (spec_l2Insert.l0 k x0 x2 t225 (wrap64 (x8 + 1)) x221000 x221001))) else (none)) else (none))) else (if 0 ≤ x7 then (if x7 < (x0.length : Int) then ((some (x0.set (x7 : Int).toNat (⟨(rd_T86 x0 x7).f0, (rd_T86 x0 x7).f1, true, (rd_T86 x0 x7).f3⟩ : S86) : List (S86))).bind fun y221 => (some (y221.set (x7 : Int).toNat (⟨(rd_T86 y221 x7).f0, (rd_T86 y221 x7).f1, (rd_T86 y221 x7).f2, x2⟩ : S86)))) else (none)) else (none))
def spec_l2Insert.f (k : Nat) (l0 : List (S86)) (a1_0 : Int) (a1_1 : Int) (a2 : Int) : Option ((List (S86))) := spec_l2Insert.l0 k l0 a2 0 0 a1_0 a1_1
theorem spec_l2Insert.calls (k : Nat) (P0_ : Nat → Prop) (u9000_ : Value) (l0 : List (S86)) (a1_0 : Int) (a1_1 : Int) (a2 : Int) (r : List (S86)) (w0 w : World) (hB : Below w0.heap.size w0 w) (ho0 : Kd.R k86 86 w w0.heap.size P0_ u9000_ l0) (h : spec_l2Insert.f k l0 a1_0 a1_1 a2 = some r) :
  Calls Try.prog 74 #[u9000_, .agg #[.int .i64 a1_0, .int .i64 a1_1], .int .i64 a2] w fun e w' => ∃ v0_ : Value, e = .returned (v0_) ∧ Kd.R k86 86 w' w0.heap.size (fun k_ => (P0_ k_ ∨ w.heap.size ≤ k_)) v0_ r ∧ Below w0.heap.size w0 w' ∧ Kept w w' (fun k_ => P0_ k_) := by
 have hu37 := Try.underlying37
 have hu86 := Try.underlying86
 have HO0 := kk (show Kd.R k86 86 w w0.heap.size (fun k_ => (P0_ k_ ∨ w.heap.size ≤ k_)) u9000_ l0 from Kd.R_mono ho0 (fun k_ hk => (.inl hk)))
 have HK := kk (Kept.refl w (fun k_ => P0_ k_))
 have HW0 := kk hB.size
 have HB := kk hB
 clear hB
 have H : (spec_l2Insert.l0 k l0 a2 0 0 a1_0 a1_1) = some r := h
 clear h
 have H' := kk H
 clear H
 go_enter Try.func74, Try.ntmps74
 go_wp2_with (((with_reducible refine gate_dst (N := 4) rfl ?_); refine box_event rfl (N := 4) rfl (cs := #[.int .i64 a1_0, .int .i64 a1_1]) (t := 37) ?hr ?_; (case hr => go_simp; done); intro gb220 hg w4 hbox hb; replace HO0 := kk (Kd.R_below HO0.1 hb); replace HK := kk (Kept.below HK.1 hb); replace HB := kk (zw HB.1 hb); have zB := kk hbox; clear hb hbox hg))
 go_loopg [0, 7, 8] k (fun kq v0 v7 v8 w' => ∃ (x0_1 : List (S86)) (x7_1 : Int) (x8_1 : Int), v7 = .int .i64 x7_1 ∧ v8 = .int .i64 x8_1 ∧ zy (spec_l2Insert.l0 kq x0_1 a2 x7_1 x8_1 a1_0 a1_1 = some r) ∧ zy (kq ≤ k) ∧ zy (Kd.R k86 86 w' w0.heap.size (fun k_ => (P0_ k_ ∨ w.heap.size ≤ k_)) v0 x0_1) ∧ zy (w'.heap[gb220]? = some (.cells #[.int .i64 a1_0, .int .i64 a1_1] 37 (0, 0))) ∧ zy (Kept w w' (fun k_ => P0_ k_)) ∧ zy (Below w0.heap.size w0 w'))
 case atStart => exact ⟨(l0), (0), (0), (by rfl), (by rfl), H', ⟨Nat.le_refl _⟩, ⟨by exact HO0.1⟩, ⟨by exact zB.1⟩, ⟨by exact HK.1⟩, ⟨by exact HB.1⟩⟩
 case round =>
  clear H'
  obtain ⟨x0_1, x7_1, x8_1, rfl, rfl, HA, HK1, HO_0, zB, HK, HB⟩ := hrel
  cases gk with
  | zero => exact absurd HA.1 (by simp [spec_l2Insert.l0])
  | succ k1 =>
   have H := HA.1
   clear HA
   simp only [spec_l2Insert.l0] at H
   by_cases c5 : x8_1 < a1_1
   ·
    rw [if_pos c5] at H
    have c5b0 : decide (x8_1 < a1_1) = true := decide_eq_true c5
    clear c5
    replace H := kb.mp H
    obtain ⟨t223, A60, H⟩ := H
    replace H : (if 0 ≤ x7_1 then (if x7_1 < (x0_1.length : Int) then ((spec_l2Half.f ((rd_T86 x0_1 x7_1).f0) ((rd_T86 x0_1 x7_1).f1) ((rd_T86 x0_1 x7_1).f2) ((rd_T86 x0_1 x7_1).f3) t223).bind fun t225 => (if t225 = 0 then (if x0_1.length < 4398046511104 then ((some (x0_1 ++ [(⟨0, 0, false, 0⟩ : S86)] : List (S86))).bind fun y226 => (if t223 = 1 then (if x7_1 < (y226.length : Int) then (spec_l2Insert.l0 k1 (y226.set (x7_1 : Int).toNat (⟨(rd_T86 y226 x7_1).f0, (x0_1.length : Int), (rd_T86 y226 x7_1).f2, (rd_T86 y226 x7_1).f3⟩ : S86)) a2 (x0_1.length : Int) (wrap64 (x8_1 + 1)) a1_0 a1_1) else (none)) else (if x7_1 < (y226.length : Int) then (spec_l2Insert.l0 k1 (y226.set (x7_1 : Int).toNat (⟨(x0_1.length : Int), (rd_T86 y226 x7_1).f1, (rd_T86 y226 x7_1).f2, (rd_T86 y226 x7_1).f3⟩ : S86)) a2 (x0_1.length : Int) (wrap64 (x8_1 + 1)) a1_0 a1_1) else (none)))) else (none)) else (spec_l2Insert.l0 k1 x0_1 a2 t225 (wrap64 (x8_1 + 1)) a1_0 a1_1))) else (none)) else (none)) = some r := H
    have A6 := kk A60
    clear A60
    by_cases c7 : 0 ≤ x7_1
    ·
     rw [if_pos c7] at H
     have c7b0 : decide (0 ≤ x7_1) = true := decide_eq_true c7
     clear c7
     by_cases c8 : x7_1 < (x0_1.length : Int)
     ·
      rw [if_pos c8] at H
      have c8b0 : decide (x7_1 < (x0_1.length : Int)) = true := decide_eq_true c8
      clear c8
      replace H := kb.mp H
      obtain ⟨t225, A90, H⟩ := H
      replace H : (if t225 = 0 then (if x0_1.length < 4398046511104 then ((some (x0_1 ++ [(⟨0, 0, false, 0⟩ : S86)] : List (S86))).bind fun y226 => (if t223 = 1 then (if x7_1 < (y226.length : Int) then (spec_l2Insert.l0 k1 (y226.set (x7_1 : Int).toNat (⟨(rd_T86 y226 x7_1).f0, (x0_1.length : Int), (rd_T86 y226 x7_1).f2, (rd_T86 y226 x7_1).f3⟩ : S86)) a2 (x0_1.length : Int) (wrap64 (x8_1 + 1)) a1_0 a1_1) else (none)) else (if x7_1 < (y226.length : Int) then (spec_l2Insert.l0 k1 (y226.set (x7_1 : Int).toNat (⟨(x0_1.length : Int), (rd_T86 y226 x7_1).f1, (rd_T86 y226 x7_1).f2, (rd_T86 y226 x7_1).f3⟩ : S86)) a2 (x0_1.length : Int) (wrap64 (x8_1 + 1)) a1_0 a1_1) else (none)))) else (none)) else (spec_l2Insert.l0 k1 x0_1 a2 t225 (wrap64 (x8_1 + 1)) a1_0 a1_1)) = some r := H
      have A9 := kk A90
      clear A90
      by_cases c10 : t225 = 0
      ·
       rw [if_pos c10] at H
       have c10b0 : (t225 == 0) = true := beq_iff_eq.mpr c10
       have c10b1 : (t225 != 0) = false := bne_eq_false_iff_eq.mpr c10
       clear c10
       by_cases c11 : x0_1.length < 4398046511104
       ·
        rw [if_pos c11] at H
        have LMc11 := kk c11
        clear c11
        obtain ⟨y226, hy226⟩ : ∃ y_ : List (S86), y_ = (x0_1 ++ [(⟨0, 0, false, 0⟩ : S86)]) := ⟨_, rfl⟩
        replace H : (if t223 = 1 then (if x7_1 < (y226.length : Int) then (spec_l2Insert.l0 k1 (y226.set (x7_1 : Int).toNat (⟨(rd_T86 y226 x7_1).f0, (x0_1.length : Int), (rd_T86 y226 x7_1).f2, (rd_T86 y226 x7_1).f3⟩ : S86)) a2 (x0_1.length : Int) (wrap64 (x8_1 + 1)) a1_0 a1_1) else (none)) else (if x7_1 < (y226.length : Int) then (spec_l2Insert.l0 k1 (y226.set (x7_1 : Int).toNat (⟨(x0_1.length : Int), (rd_T86 y226 x7_1).f1, (rd_T86 y226 x7_1).f2, (rd_T86 y226 x7_1).f3⟩ : S86)) a2 (x0_1.length : Int) (wrap64 (x8_1 + 1)) a1_0 a1_1) else (none))) = some r := by (have H2_ := (Option.bind_some _ _).symm.trans H; rw [hy226]; with_reducible exact H2_)
        have Ny226 := kk hy226
        clear hy226
        by_cases c12 : t223 = 1
        ·
         rw [if_pos c12] at H
         have c12b0 : (t223 == 1) = true := beq_iff_eq.mpr c12
         have c12b1 : (t223 != 1) = false := bne_eq_false_iff_eq.mpr c12
         clear c12
         by_cases c13 : x7_1 < (y226.length : Int)
         ·
          rw [if_pos c13] at H
          have c13b0 : decide (x7_1 < (y226.length : Int)) = true := decide_eq_true c13
          clear c13
          obtain ⟨y229, hy229⟩ : ∃ y_ : List (S86), y_ = (y226.set (x7_1 : Int).toNat (⟨(rd_T86 y226 x7_1).f0, (x0_1.length : Int), (rd_T86 y226 x7_1).f2, (rd_T86 y226 x7_1).f3⟩ : S86)) := ⟨_, rfl⟩
          replace H : (spec_l2Insert.l0 k1 y229 a2 (x0_1.length : Int) (wrap64 (x8_1 + 1)) a1_0 a1_1) = some r := by (rw [hy229]; with_reducible exact H)
          have Ny229 := kk hy229
          clear hy229
          have H' := kk H
          clear H
          have hcz15_0 : wr.cell? ⟨gb220, 0, none⟩ = some (.int .i64 a1_0) := (zd zB.1 0).trans rfl
          have hcz15_1 : wr.cell? ⟨gb220, 1, none⟩ = some (.int .i64 a1_1) := (zd zB.1 1).trans rfl
          have hfz15_0 := zo zB.1 0
          have hfz15_1 := zo zB.1 1
          go_wp2_with (first | ((with_reducible refine gate_callee (f := 69) rfl ?_); refine goesL_ (some 20) rfl rfl Try.func69 (by kernel_rfl) rfl #[.int .i64 a1_0, .int .i64 x8_1] rfl (by (try simp only [kh, kg, ke]); rfl) ?_; (with_reducible refine (spec_l2Bit.calls a1_0 x8_1 t223 _ A6.1).mono ?_); rintro e w' ⟨rfl, ⟨nd, rfl⟩⟩; refine ⟨_, rfl, ?_⟩; (try (rw [drewN_self wr]; generalize hq_ : World.drewN wr _ = wr; have n0_ : zy (Kd.R k86 86 wr w0.heap.size (fun k_ => (P0_ k_ ∨ w.heap.size ≤ k_)) u0 x0_1) := ⟨by rw [← hq_]; exact (by (with_reducible repeat (apply zm)); exact HO_0.1)⟩; have n1_ : zy (wr.heap[gb220]? = some (.cells #[.int .i64 a1_0, .int .i64 a1_1] 37 (0, 0))) := ⟨by rw [← hq_]; exact (by (with_reducible repeat (refine zs ?_ _)); exact zB.1)⟩; have n2_ : zy (Kept w wr (fun k_ => P0_ k_)) := ⟨by rw [← hq_]; exact (by repeat ((with_reducible first | exact HK.1 | apply zg)))⟩; have n3_ : zy (Below w0.heap.size w0 wr) := ⟨by rw [← hq_]; exact (by repeat ((with_reducible first | exact HB.1 | apply za)))⟩; clear HO_0 zB HK HB hq_; have HO_0 := n0_; have zB := n1_; have HK := n2_; have HB := n3_; clear n0_ n1_ n2_ n3_)); obtain ⟨Ao16, co16, eo16⟩ := Kd.R_slice HO_0.1; subst eo16; have p224 : 0 ≤ (x7_1 : Int) := of_decide_eq_true (by (with_reducible assumption)); have q224 : x7_1 < (x0_1.length : Int) := of_decide_eq_true (by (with_reducible assumption)); obtain ⟨ad224, e224, hx224_0, hx224_1, hx224_2, hx224_3⟩ := at_T86 (zv HO_0.1).2.2 x7_1 p224 q224; cases e224; replace p224 := eq_true p224; replace q224 := eq_true q224) | ((with_reducible refine gate_callee (f := 68) rfl ?_); refine goesL_ (some 26) rfl rfl Try.func68 (by kernel_rfl) rfl #[.agg #[.int .i64 ((rd_T86 x0_1 x7_1).f0), .int .i64 ((rd_T86 x0_1 x7_1).f1), .bool ((rd_T86 x0_1 x7_1).f2), .int .i64 ((rd_T86 x0_1 x7_1).f3)], .int .i64 t223] rfl (by (try simp only [kh, kg, ke]); rfl) ?_; (with_reducible refine (spec_l2Half.calls ((rd_T86 x0_1 x7_1).f0) ((rd_T86 x0_1 x7_1).f1) ((rd_T86 x0_1 x7_1).f2) ((rd_T86 x0_1 x7_1).f3) t223 t225 _ A9.1).mono ?_); rintro e w17 ⟨rfl, hb⟩; refine ⟨_, rfl, ?_⟩; replace HO_0 := kk (Kd.R_below HO_0.1 hb); replace zB := kk (blk_below zB.1 hb); replace HK := kk (Kept.below HK.1 hb); replace HB := kk (zw HB.1 hb)) | ((with_reducible refine gate_builtin (b := .append) (xs := #[.tmp 31, .tmp 33]) rfl ?_); at_builtin; refine Kd.R_append k86 (w0 := w0) w0.heap.size rfl (.tmp 31) (.tmp 33) 32 86 (.agg #[(.int .i64 0), (.int .i64 0), (.bool false), (.int .i64 0)]) 32 rfl Try.underlying32 info86 rfl (by decide) (by omega) (.slice (some ad224) x0_1.length co16) x0_1 (⟨0, 0, false, 0⟩ : S86) [.int .i64 0, .int .i64 0, .bool false, .int .i64 0] (fun k_ => (P0_ k_ ∨ w.heap.size ≤ k_)) (fun _ => False) rfl rfl ?aP (fun _ hk => hk.elim) ?aF ?aO ?aB ?aS ?aL ?_; (case aP => exact k86_mkM _ _ _ (⟨0, 0, false, 0⟩ : S86)); (case aB => exact HB.1); (case aF => exact (fun k_ hk => (.inr (Nat.le_trans (by exact HK.1.1) hk)))); (case aO => exact HO_0.1); (case aS => exact (zu HB.1)); (case aL => have := LMc11.1; omega); intro v227 w18 ho hb hg hat; rw [← Ny226.1] at ho; replace zB := kk (blk_grown zB.1 hg (Kd.R_ne HO_0.1 zB.1 (by decide))); replace HB := kk hb; replace HK := kk (Kept.of_grown (S := (fun k_ => P0_ k_)) hg HK.1 (fun k_ e_ => (HO_0.1.1 k_ e_))); have zD := kk ho; clear ho hb hg hat; have p14 : 0 ≤ (x7_1 : Int) := of_decide_eq_true (by (with_reducible assumption)); have q14 : (x7_1 : Int) < ((y226.length : Int) : Int) := of_decide_eq_true (by (with_reducible assumption)); obtain ⟨go14, co14, eo14, gb14, gl14, cl14, HG14⟩ := Kd.R_form zD.1 (by omega); (cases eo14); have GB14 := kk gb14; have GG14 := kk HG14; clear gb14 gl14 HG14; have HMgo14 := kk (show (P0_ go14 ∨ w.heap.size ≤ go14) from (zD.1.1 _ rfl)); obtain ⟨ce14, hcl14, hM14, hcc14, hfr14⟩ := zx zD.1 z86 (x7_1 : Int) p14 q14; obtain rfl := k86_openM hM14; have hx14_0 : w18.cell? ⟨go14, (x7_1 : Int).toNat * 4, none⟩ = some (.int .i64 ((rd_T86 y226 x7_1).f0)) := hcc14 0 _ rfl; have hx14_1 : w18.cell? ⟨go14, (x7_1 : Int).toNat * 4 + 1, none⟩ = some (.int .i64 ((rd_T86 y226 x7_1).f1)) := hcc14 1 _ rfl; have hx14_2 : w18.cell? ⟨go14, (x7_1 : Int).toNat * 4 + 2, none⟩ = some (.bool ((rd_T86 y226 x7_1).f2)) := hcc14 2 _ rfl; have hx14_3 : w18.cell? ⟨go14, (x7_1 : Int).toNat * 4 + 3, none⟩ = some (.int .i64 ((rd_T86 y226 x7_1).f3)) := hcc14 3 _ rfl; have hf14_0 : w18.frozen? ⟨go14, (x7_1 : Int).toNat * 4, none⟩ = false := hfr14 0; have hf14_1 : w18.frozen? ⟨go14, (x7_1 : Int).toNat * 4 + 1, none⟩ = false := hfr14 1; have hf14_2 : w18.frozen? ⟨go14, (x7_1 : Int).toNat * 4 + 2, none⟩ = false := hfr14 2; have hf14_3 : w18.frozen? ⟨go14, (x7_1 : Int).toNat * 4 + 3, none⟩ = false := hfr14 3; clear hcl14 hcc14 hfr14 hM14; replace p14 := eq_true p14; replace q14 := eq_true q14; have HX19 := kk zD.1; obtain ⟨ce19, hcl19, hM19, hcc19, hfr19⟩ := zx HX19.1 z86 (x7_1 : Int) (of_decide_eq_true (by (with_reducible assumption))) (by have h_ : (x7_1 : Int) < ((y226.length : Int) : Int) := of_decide_eq_true (by (with_reducible assumption)); exact h_); obtain rfl := k86_openM hM19; have HP19 := Kd.R_seg HX19.1 (x7_1 : Int) (of_decide_eq_true (by (with_reducible assumption))) (by have h_ : (x7_1 : Int) < ((y226.length : Int) : Int) := of_decide_eq_true (by (with_reducible assumption)); exact h_) (seg := [.int .i64 (x0_1.length : Int)]) (j := 1) hcl19 hcc19 (show 2 ≤ 4 from by decide) (x' := (⟨(rd_T86 y226 x7_1).f0, (x0_1.length : Int), (rd_T86 y226 x7_1).f2, (rd_T86 y226 x7_1).f3⟩ : S86)) (k86_mkM _ _ _ (⟨(rd_T86 y226 x7_1).f0, (x0_1.length : Int), (rd_T86 y226 x7_1).f2, (rd_T86 y226 x7_1).f3⟩ : S86) ) (fun _ hk => hk); have hx19_1 := hcc19 1 _ rfl; (try simp only [show (k86).sz = 4 from rfl, ko, kc] at hx19_1); have hf19_1 := hfr19 1; (try simp only [show (k86).sz = 4 from rfl, ko, kc] at hf19_1); clear hcl19 hcc19 hfr19 hM19) | ((with_reducible refine gate_store (t := 3) (p := 41) rfl ?_); refine store_event (t := 3) (p := 41) (v := ?vo_w20) (w1 := (w18.setCell ⟨go14, (x7_1 : Int).toNat * 4 + 1, none⟩ (.int .i64 (x0_1.length : Int)))) ?hg ?ho ?hn ?hr ?_; (case ho => rfl); (case hg => rfl); (case hn => rfl); (case hr => go_simp; done); intro w20 hw; have hg : w18.grownBy w20 (some go14) := (by rw [hw]; exact HP19.2); have hp_ : Kd.R k86 86 w20 w0.heap.size (fun k_ => (P0_ k_ ∨ w.heap.size ≤ k_)) (.slice (some ⟨go14, 0, none⟩) y226.length co14) y229 := (by rw [hw, Ny229.1]; exact HP19.1); clear HP19; replace zB := kk (blk_grown zB.1 hg (Kd.R_ne zD.1 zB.1 (by decide))); replace HB := kk (by rw [hw]; exact zf (HB.1) GB14.1 : Below w0.heap.size w0 w20); replace HK := kk (Kept.of_grown (S := (fun k_ => P0_ k_)) hg HK.1 (fun k_ e_ => (zD.1.1 k_ e_))); replace zD := kk hp_; clear hg hw hp_))
          go_roundg k1
          case measure => have := HK1.1; omega
          case rel => exact ⟨(y229), ((x0_1.length : Int)), (wrap64 (x8_1 + 1)), (by rfl), (by rfl), H', ⟨by have := HK1.1; omega⟩, ⟨by exact zD.1⟩, ⟨by exact zB.1⟩, ⟨by exact HK.1⟩, ⟨by exact HB.1⟩⟩
         ·
          rw [if_neg c13] at H
          exact absurd H (by simp)
        ·
         rw [if_neg c12] at H
         have c12b0 : (t223 == 1) = false := beq_eq_false_iff_ne.mpr c12
         have c12b1 : (t223 != 1) = true := bne_iff_ne.mpr c12
         by_cases c21 : x7_1 < (y226.length : Int)
         ·
          rw [if_pos c21] at H
          have c21b0 : decide (x7_1 < (y226.length : Int)) = true := decide_eq_true c21
          clear c21
          obtain ⟨y230, hy230⟩ : ∃ y_ : List (S86), y_ = (y226.set (x7_1 : Int).toNat (⟨(x0_1.length : Int), (rd_T86 y226 x7_1).f1, (rd_T86 y226 x7_1).f2, (rd_T86 y226 x7_1).f3⟩ : S86)) := ⟨_, rfl⟩
          replace H : (spec_l2Insert.l0 k1 y230 a2 (x0_1.length : Int) (wrap64 (x8_1 + 1)) a1_0 a1_1) = some r := by (rw [hy230]; with_reducible exact H)
          have Ny230 := kk hy230
          clear hy230
          have H' := kk H
          clear H
          have hcz23_0 : wr.cell? ⟨gb220, 0, none⟩ = some (.int .i64 a1_0) := (zd zB.1 0).trans rfl
          have hcz23_1 : wr.cell? ⟨gb220, 1, none⟩ = some (.int .i64 a1_1) := (zd zB.1 1).trans rfl
          have hfz23_0 := zo zB.1 0
          have hfz23_1 := zo zB.1 1
          go_wp2_with (first | ((with_reducible refine gate_callee (f := 69) rfl ?_); refine goesL_ (some 20) rfl rfl Try.func69 (by kernel_rfl) rfl #[.int .i64 a1_0, .int .i64 x8_1] rfl (by (try simp only [kh, kg, ke]); rfl) ?_; (with_reducible refine (spec_l2Bit.calls a1_0 x8_1 t223 _ A6.1).mono ?_); rintro e w' ⟨rfl, ⟨nd, rfl⟩⟩; refine ⟨_, rfl, ?_⟩; (try (rw [drewN_self wr]; generalize hq_ : World.drewN wr _ = wr; have n0_ : zy (Kd.R k86 86 wr w0.heap.size (fun k_ => (P0_ k_ ∨ w.heap.size ≤ k_)) u0 x0_1) := ⟨by rw [← hq_]; exact (by (with_reducible repeat (apply zm)); exact HO_0.1)⟩; have n1_ : zy (wr.heap[gb220]? = some (.cells #[.int .i64 a1_0, .int .i64 a1_1] 37 (0, 0))) := ⟨by rw [← hq_]; exact (by (with_reducible repeat (refine zs ?_ _)); exact zB.1)⟩; have n2_ : zy (Kept w wr (fun k_ => P0_ k_)) := ⟨by rw [← hq_]; exact (by repeat ((with_reducible first | exact HK.1 | apply zg)))⟩; have n3_ : zy (Below w0.heap.size w0 wr) := ⟨by rw [← hq_]; exact (by repeat ((with_reducible first | exact HB.1 | apply za)))⟩; clear HO_0 zB HK HB hq_; have HO_0 := n0_; have zB := n1_; have HK := n2_; have HB := n3_; clear n0_ n1_ n2_ n3_)); obtain ⟨Ao24, co24, eo24⟩ := Kd.R_slice HO_0.1; subst eo24; have p224 : 0 ≤ (x7_1 : Int) := of_decide_eq_true (by (with_reducible assumption)); have q224 : x7_1 < (x0_1.length : Int) := of_decide_eq_true (by (with_reducible assumption)); obtain ⟨ad224, e224, hx224_0, hx224_1, hx224_2, hx224_3⟩ := at_T86 (zv HO_0.1).2.2 x7_1 p224 q224; cases e224; replace p224 := eq_true p224; replace q224 := eq_true q224) | ((with_reducible refine gate_callee (f := 68) rfl ?_); refine goesL_ (some 26) rfl rfl Try.func68 (by kernel_rfl) rfl #[.agg #[.int .i64 ((rd_T86 x0_1 x7_1).f0), .int .i64 ((rd_T86 x0_1 x7_1).f1), .bool ((rd_T86 x0_1 x7_1).f2), .int .i64 ((rd_T86 x0_1 x7_1).f3)], .int .i64 t223] rfl (by (try simp only [kh, kg, ke]); rfl) ?_; (with_reducible refine (spec_l2Half.calls ((rd_T86 x0_1 x7_1).f0) ((rd_T86 x0_1 x7_1).f1) ((rd_T86 x0_1 x7_1).f2) ((rd_T86 x0_1 x7_1).f3) t223 t225 _ A9.1).mono ?_); rintro e w25 ⟨rfl, hb⟩; refine ⟨_, rfl, ?_⟩; replace HO_0 := kk (Kd.R_below HO_0.1 hb); replace zB := kk (blk_below zB.1 hb); replace HK := kk (Kept.below HK.1 hb); replace HB := kk (zw HB.1 hb)) | ((with_reducible refine gate_builtin (b := .append) (xs := #[.tmp 31, .tmp 33]) rfl ?_); at_builtin; refine Kd.R_append k86 (w0 := w0) w0.heap.size rfl (.tmp 31) (.tmp 33) 32 86 (.agg #[(.int .i64 0), (.int .i64 0), (.bool false), (.int .i64 0)]) 32 rfl Try.underlying32 info86 rfl (by decide) (by omega) (.slice (some ad224) x0_1.length co24) x0_1 (⟨0, 0, false, 0⟩ : S86) [.int .i64 0, .int .i64 0, .bool false, .int .i64 0] (fun k_ => (P0_ k_ ∨ w.heap.size ≤ k_)) (fun _ => False) rfl rfl ?aP (fun _ hk => hk.elim) ?aF ?aO ?aB ?aS ?aL ?_; (case aP => exact k86_mkM _ _ _ (⟨0, 0, false, 0⟩ : S86)); (case aB => exact HB.1); (case aF => exact (fun k_ hk => (.inr (Nat.le_trans (by exact HK.1.1) hk)))); (case aO => exact HO_0.1); (case aS => exact (zu HB.1)); (case aL => have := LMc11.1; omega); intro v227 w26 ho hb hg hat; rw [← Ny226.1] at ho; replace zB := kk (blk_grown zB.1 hg (Kd.R_ne HO_0.1 zB.1 (by decide))); replace HB := kk hb; replace HK := kk (Kept.of_grown (S := (fun k_ => P0_ k_)) hg HK.1 (fun k_ e_ => (HO_0.1.1 k_ e_))); have zD := kk ho; clear ho hb hg hat; have p22 : 0 ≤ (x7_1 : Int) := of_decide_eq_true (by (with_reducible assumption)); have q22 : (x7_1 : Int) < ((y226.length : Int) : Int) := of_decide_eq_true (by (with_reducible assumption)); obtain ⟨go22, co22, eo22, gb22, gl22, cl22, HG22⟩ := Kd.R_form zD.1 (by omega); (cases eo22); have GB22 := kk gb22; have GG22 := kk HG22; clear gb22 gl22 HG22; have HMgo22 := kk (show (P0_ go22 ∨ w.heap.size ≤ go22) from (zD.1.1 _ rfl)); obtain ⟨ce22, hcl22, hM22, hcc22, hfr22⟩ := zx zD.1 z86 (x7_1 : Int) p22 q22; obtain rfl := k86_openM hM22; have hx22_0 : w26.cell? ⟨go22, (x7_1 : Int).toNat * 4, none⟩ = some (.int .i64 ((rd_T86 y226 x7_1).f0)) := hcc22 0 _ rfl; have hx22_1 : w26.cell? ⟨go22, (x7_1 : Int).toNat * 4 + 1, none⟩ = some (.int .i64 ((rd_T86 y226 x7_1).f1)) := hcc22 1 _ rfl; have hx22_2 : w26.cell? ⟨go22, (x7_1 : Int).toNat * 4 + 2, none⟩ = some (.bool ((rd_T86 y226 x7_1).f2)) := hcc22 2 _ rfl; have hx22_3 : w26.cell? ⟨go22, (x7_1 : Int).toNat * 4 + 3, none⟩ = some (.int .i64 ((rd_T86 y226 x7_1).f3)) := hcc22 3 _ rfl; have hf22_0 : w26.frozen? ⟨go22, (x7_1 : Int).toNat * 4, none⟩ = false := hfr22 0; have hf22_1 : w26.frozen? ⟨go22, (x7_1 : Int).toNat * 4 + 1, none⟩ = false := hfr22 1; have hf22_2 : w26.frozen? ⟨go22, (x7_1 : Int).toNat * 4 + 2, none⟩ = false := hfr22 2; have hf22_3 : w26.frozen? ⟨go22, (x7_1 : Int).toNat * 4 + 3, none⟩ = false := hfr22 3; clear hcl22 hcc22 hfr22 hM22; replace p22 := eq_true p22; replace q22 := eq_true q22; have HX27 := kk zD.1; obtain ⟨ce27, hcl27, hM27, hcc27, hfr27⟩ := zx HX27.1 z86 (x7_1 : Int) (of_decide_eq_true (by (with_reducible assumption))) (by have h_ : (x7_1 : Int) < ((y226.length : Int) : Int) := of_decide_eq_true (by (with_reducible assumption)); exact h_); obtain rfl := k86_openM hM27; have HP27 := Kd.R_seg HX27.1 (x7_1 : Int) (of_decide_eq_true (by (with_reducible assumption))) (by have h_ : (x7_1 : Int) < ((y226.length : Int) : Int) := of_decide_eq_true (by (with_reducible assumption)); exact h_) (seg := [.int .i64 (x0_1.length : Int)]) (j := 0) hcl27 hcc27 (show 1 ≤ 4 from by decide) (x' := (⟨(x0_1.length : Int), (rd_T86 y226 x7_1).f1, (rd_T86 y226 x7_1).f2, (rd_T86 y226 x7_1).f3⟩ : S86)) (k86_mkM _ _ _ (⟨(x0_1.length : Int), (rd_T86 y226 x7_1).f1, (rd_T86 y226 x7_1).f2, (rd_T86 y226 x7_1).f3⟩ : S86) ) (fun _ hk => hk); have hx27_0 := hcc27 0 _ rfl; (try simp only [show (k86).sz = 4 from rfl, ko, kc] at hx27_0); have hf27_0 := hfr27 0; (try simp only [show (k86).sz = 4 from rfl, ko, kc] at hf27_0); clear hcl27 hcc27 hfr27 hM27) | ((with_reducible refine gate_store (t := 3) (p := 46) rfl ?_); refine store_event (t := 3) (p := 46) (v := ?vo_w28) (w1 := (w26.setCell ⟨go22, (x7_1 : Int).toNat * 4, none⟩ (.int .i64 (x0_1.length : Int)))) ?hg ?ho ?hn ?hr ?_; (case ho => rfl); (case hg => rfl); (case hn => rfl); (case hr => go_simp; done); intro w28 hw; have hg : w26.grownBy w28 (some go22) := (by rw [hw]; exact HP27.2); have hp_ : Kd.R k86 86 w28 w0.heap.size (fun k_ => (P0_ k_ ∨ w.heap.size ≤ k_)) (.slice (some ⟨go22, 0, none⟩) y226.length co22) y230 := (by rw [hw, Ny230.1]; exact HP27.1); clear HP27; replace zB := kk (blk_grown zB.1 hg (Kd.R_ne zD.1 zB.1 (by decide))); replace HB := kk (by rw [hw]; exact zf (HB.1) GB22.1 : Below w0.heap.size w0 w28); replace HK := kk (Kept.of_grown (S := (fun k_ => P0_ k_)) hg HK.1 (fun k_ e_ => (zD.1.1 k_ e_))); replace zD := kk hp_; clear hg hw hp_))
          go_roundg k1
          case measure => have := HK1.1; omega
          case rel => exact ⟨(y230), ((x0_1.length : Int)), (wrap64 (x8_1 + 1)), (by rfl), (by rfl), H', ⟨by have := HK1.1; omega⟩, ⟨by exact zD.1⟩, ⟨by exact zB.1⟩, ⟨by exact HK.1⟩, ⟨by exact HB.1⟩⟩
         ·
          rw [if_neg c21] at H
          exact absurd H (by simp)
       ·
        rw [if_neg c11] at H
        exact absurd H (by simp)
      ·
       rw [if_neg c10] at H
       have c10b0 : (t225 == 0) = false := beq_eq_false_iff_ne.mpr c10
       have c10b1 : (t225 != 0) = true := bne_iff_ne.mpr c10
       have H' := kk H
       clear H
       have hcz29_0 : wr.cell? ⟨gb220, 0, none⟩ = some (.int .i64 a1_0) := (zd zB.1 0).trans rfl
       have hcz29_1 : wr.cell? ⟨gb220, 1, none⟩ = some (.int .i64 a1_1) := (zd zB.1 1).trans rfl
       have hfz29_0 := zo zB.1 0
       have hfz29_1 := zo zB.1 1
       go_wp2_with (first | ((with_reducible refine gate_callee (f := 69) rfl ?_); refine goesL_ (some 20) rfl rfl Try.func69 (by kernel_rfl) rfl #[.int .i64 a1_0, .int .i64 x8_1] rfl (by (try simp only [kh, kg, ke]); rfl) ?_; (with_reducible refine (spec_l2Bit.calls a1_0 x8_1 t223 _ A6.1).mono ?_); rintro e w' ⟨rfl, ⟨nd, rfl⟩⟩; refine ⟨_, rfl, ?_⟩; obtain ⟨Ao30, co30, eo30⟩ := Kd.R_slice HO_0.1; subst eo30; have p224 : 0 ≤ (x7_1 : Int) := of_decide_eq_true (by (with_reducible assumption)); have q224 : x7_1 < (x0_1.length : Int) := of_decide_eq_true (by (with_reducible assumption)); obtain ⟨ad224, e224, hx224_0, hx224_1, hx224_2, hx224_3⟩ := at_T86 (zv HO_0.1).2.2 x7_1 p224 q224; cases e224; replace p224 := eq_true p224; replace q224 := eq_true q224) | ((with_reducible refine gate_callee (f := 68) rfl ?_); refine goesL_ (some 26) rfl rfl Try.func68 (by kernel_rfl) rfl #[.agg #[.int .i64 ((rd_T86 x0_1 x7_1).f0), .int .i64 ((rd_T86 x0_1 x7_1).f1), .bool ((rd_T86 x0_1 x7_1).f2), .int .i64 ((rd_T86 x0_1 x7_1).f3)], .int .i64 t223] rfl (by (try simp only [kh, kg, ke]); rfl) ?_; (with_reducible refine (spec_l2Half.calls ((rd_T86 x0_1 x7_1).f0) ((rd_T86 x0_1 x7_1).f1) ((rd_T86 x0_1 x7_1).f2) ((rd_T86 x0_1 x7_1).f3) t223 t225 _ A9.1).mono ?_); rintro e w31 ⟨rfl, hb⟩; refine ⟨_, rfl, ?_⟩; replace HO_0 := kk (Kd.R_below (by (with_reducible repeat (apply zm)); exact HO_0.1) hb); replace zB := kk (blk_below (g := gb220) (o := .cells #[.int .i64 a1_0, .int .i64 a1_1] 37 (0, 0)) (by (with_reducible repeat (refine zs ?_ _)); exact zB.1) hb); replace HK := kk (Kept.below (S := (fun k_ => P0_ k_)) (by repeat ((with_reducible first | exact HK.1 | apply zg))) hb); replace HB := kk (zw (by repeat ((with_reducible first | exact HB.1 | apply za))) hb)))
       go_roundg k1
       case measure => have := HK1.1; omega
       case rel => exact ⟨(x0_1), (t225), (wrap64 (x8_1 + 1)), (by rfl), (by rfl), H', ⟨by have := HK1.1; omega⟩, ⟨by exact HO_0.1⟩, ⟨by exact zB.1⟩, ⟨by exact HK.1⟩, ⟨by exact HB.1⟩⟩
     ·
      rw [if_neg c8] at H
      exact absurd H (by simp)
    ·
     rw [if_neg c7] at H
     exact absurd H (by simp)
   ·
    rw [if_neg c5] at H
    have c5b0 : decide (x8_1 < a1_1) = false := decide_eq_false c5
    clear c5
    by_cases c32 : 0 ≤ x7_1
    ·
     rw [if_pos c32] at H
     have c32b0 : decide (0 ≤ x7_1) = true := decide_eq_true c32
     clear c32
     by_cases c33 : x7_1 < (x0_1.length : Int)
     ·
      rw [if_pos c33] at H
      have c33b0 : decide (x7_1 < (x0_1.length : Int)) = true := decide_eq_true c33
      clear c33
      obtain ⟨y221, hy221⟩ : ∃ y_ : List (S86), y_ = (x0_1.set (x7_1 : Int).toNat (⟨(rd_T86 x0_1 x7_1).f0, (rd_T86 x0_1 x7_1).f1, true, (rd_T86 x0_1 x7_1).f3⟩ : S86)) := ⟨_, rfl⟩
      replace H : (some (y221.set (x7_1 : Int).toNat (⟨(rd_T86 y221 x7_1).f0, (rd_T86 y221 x7_1).f1, (rd_T86 y221 x7_1).f2, a2⟩ : S86))) = some r := by (have H2_ := (Option.bind_some _ _).symm.trans H; rw [hy221]; with_reducible exact H2_)
      have Ny221 := kk hy221
      clear hy221
      obtain ⟨y222, hy222⟩ : ∃ y_ : List (S86), y_ = (y221.set (x7_1 : Int).toNat (⟨(rd_T86 y221 x7_1).f0, (rd_T86 y221 x7_1).f1, (rd_T86 y221 x7_1).f2, a2⟩ : S86)) := ⟨_, rfl⟩
      replace H : (some y222) = some r := by (rw [hy222]; with_reducible exact H)
      have Ny222 := kk hy222
      clear hy222
      obtain rfl := kd H
      have hcz36_0 : wr.cell? ⟨gb220, 0, none⟩ = some (.int .i64 a1_0) := (zd zB.1 0).trans rfl
      have hcz36_1 : wr.cell? ⟨gb220, 1, none⟩ = some (.int .i64 a1_1) := (zd zB.1 1).trans rfl
      have hfz36_0 := zo zB.1 0
      have hfz36_1 := zo zB.1 1
      have p34 : 0 ≤ (x7_1 : Int) := of_decide_eq_true (by (with_reducible assumption))
      have q34 : (x7_1 : Int) < ((x0_1.length : Int) : Int) := of_decide_eq_true (by (with_reducible assumption))
      obtain ⟨go34, co34, eo34, gb34, gl34, cl34, HG34⟩ := Kd.R_form HO_0.1 (by omega)
      (cases eo34)
      have GB34 := kk gb34
      have GG34 := kk HG34
      clear gb34 gl34 HG34
      have HMgo34 := kk (show (P0_ go34 ∨ w.heap.size ≤ go34) from (HO_0.1.1 _ rfl))
      obtain ⟨ce34, hcl34, hM34, hcc34, hfr34⟩ := zx HO_0.1 z86 (x7_1 : Int) p34 q34
      obtain rfl := k86_openM hM34
      have hx34_0 : wr.cell? ⟨go34, (x7_1 : Int).toNat * 4, none⟩ = some (.int .i64 ((rd_T86 x0_1 x7_1).f0)) := hcc34 0 _ rfl
      have hx34_1 : wr.cell? ⟨go34, (x7_1 : Int).toNat * 4 + 1, none⟩ = some (.int .i64 ((rd_T86 x0_1 x7_1).f1)) := hcc34 1 _ rfl
      have hx34_2 : wr.cell? ⟨go34, (x7_1 : Int).toNat * 4 + 2, none⟩ = some (.bool ((rd_T86 x0_1 x7_1).f2)) := hcc34 2 _ rfl
      have hx34_3 : wr.cell? ⟨go34, (x7_1 : Int).toNat * 4 + 3, none⟩ = some (.int .i64 ((rd_T86 x0_1 x7_1).f3)) := hcc34 3 _ rfl
      have hf34_0 : wr.frozen? ⟨go34, (x7_1 : Int).toNat * 4, none⟩ = false := hfr34 0
      have hf34_1 : wr.frozen? ⟨go34, (x7_1 : Int).toNat * 4 + 1, none⟩ = false := hfr34 1
      have hf34_2 : wr.frozen? ⟨go34, (x7_1 : Int).toNat * 4 + 2, none⟩ = false := hfr34 2
      have hf34_3 : wr.frozen? ⟨go34, (x7_1 : Int).toNat * 4 + 3, none⟩ = false := hfr34 3
      clear hcl34 hcc34 hfr34 hM34
      replace p34 := eq_true p34
      replace q34 := eq_true q34
      have HX37 := kk HO_0.1
      obtain ⟨ce37, hcl37, hM37, hcc37, hfr37⟩ := zx HX37.1 z86 (x7_1 : Int) (of_decide_eq_true (by (with_reducible assumption))) (by have h_ : (x7_1 : Int) < ((x0_1.length : Int) : Int) := of_decide_eq_true (by (with_reducible assumption)); exact h_)
      obtain rfl := k86_openM hM37
      have HP37 := Kd.R_seg HX37.1 (x7_1 : Int) (of_decide_eq_true (by (with_reducible assumption))) (by have h_ : (x7_1 : Int) < ((x0_1.length : Int) : Int) := of_decide_eq_true (by (with_reducible assumption)); exact h_) (seg := [.bool true]) (j := 2) hcl37 hcc37 (show 3 ≤ 4 from by decide) (x' := (⟨(rd_T86 x0_1 x7_1).f0, (rd_T86 x0_1 x7_1).f1, true, (rd_T86 x0_1 x7_1).f3⟩ : S86)) (k86_mkM _ _ _ (⟨(rd_T86 x0_1 x7_1).f0, (rd_T86 x0_1 x7_1).f1, true, (rd_T86 x0_1 x7_1).f3⟩ : S86) ) (fun _ hk => hk)
      have hx37_2 := hcc37 2 _ rfl
      (try simp only [show (k86).sz = 4 from rfl, ko, kc] at hx37_2)
      have hf37_2 := hfr37 2
      (try simp only [show (k86).sz = 4 from rfl, ko, kc] at hf37_2)
      clear hcl37 hcc37 hfr37 hM37
      go_wp2_with (first | ((with_reducible refine gate_store (t := 4) (p := 51) rfl ?_); refine store_event (t := 4) (p := 51) (v := ?vo_w38) (w1 := (wr.setCell ⟨go34, (x7_1 : Int).toNat * 4 + 2, none⟩ (.bool true))) ?hg ?ho ?hn ?hr ?_; (case ho => rfl); (case hg => rfl); (case hn => rfl); (case hr => go_simp; done); intro w38 hw; have hg : wr.grownBy w38 (some go34) := (by rw [hw]; exact HP37.2); have hp_ : Kd.R k86 86 w38 w0.heap.size (fun k_ => (P0_ k_ ∨ w.heap.size ≤ k_)) (.slice (some ⟨go34, 0, none⟩) x0_1.length co34) y221 := (by rw [hw, Ny221.1]; exact HP37.1); clear HP37; replace HB := kk (by rw [hw]; exact zf (HB.1) GB34.1 : Below w0.heap.size w0 w38); replace HK := kk (Kept.of_grown (S := (fun k_ => P0_ k_)) hg HK.1 (fun k_ e_ => (HO_0.1.1 k_ e_))); replace HO_0 := kk hp_; clear hg hw hp_; have p35 : 0 ≤ (x7_1 : Int) := of_decide_eq_true (by (with_reducible assumption)); have q35 : (x7_1 : Int) < ((x0_1.length : Int) : Int) := of_decide_eq_true (by (with_reducible assumption)); obtain ⟨ce35, hcl35, hM35, hcc35, hfr35⟩ := zx HO_0.1 z86 (x7_1 : Int) p35 q35; obtain rfl := k86_openM hM35; have hx35_0 : w38.cell? ⟨go34, (x7_1 : Int).toNat * 4, none⟩ = some (.int .i64 ((rd_T86 y221 x7_1).f0)) := hcc35 0 _ rfl; have hx35_1 : w38.cell? ⟨go34, (x7_1 : Int).toNat * 4 + 1, none⟩ = some (.int .i64 ((rd_T86 y221 x7_1).f1)) := hcc35 1 _ rfl; have hx35_2 : w38.cell? ⟨go34, (x7_1 : Int).toNat * 4 + 2, none⟩ = some (.bool ((rd_T86 y221 x7_1).f2)) := hcc35 2 _ rfl; have hx35_3 : w38.cell? ⟨go34, (x7_1 : Int).toNat * 4 + 3, none⟩ = some (.int .i64 ((rd_T86 y221 x7_1).f3)) := hcc35 3 _ rfl; have hf35_0 : w38.frozen? ⟨go34, (x7_1 : Int).toNat * 4, none⟩ = false := hfr35 0; have hf35_1 : w38.frozen? ⟨go34, (x7_1 : Int).toNat * 4 + 1, none⟩ = false := hfr35 1; have hf35_2 : w38.frozen? ⟨go34, (x7_1 : Int).toNat * 4 + 2, none⟩ = false := hfr35 2; have hf35_3 : w38.frozen? ⟨go34, (x7_1 : Int).toNat * 4 + 3, none⟩ = false := hfr35 3; clear hcl35 hcc35 hfr35 hM35; replace p35 := eq_true p35; replace q35 := eq_true q35; have HX39 := kk HO_0.1; obtain ⟨ce39, hcl39, hM39, hcc39, hfr39⟩ := zx HX39.1 z86 (x7_1 : Int) (of_decide_eq_true (by (with_reducible assumption))) (by have h_ : (x7_1 : Int) < ((x0_1.length : Int) : Int) := of_decide_eq_true (by (with_reducible assumption)); exact h_); obtain rfl := k86_openM hM39; have HP39 := Kd.R_seg HX39.1 (x7_1 : Int) (of_decide_eq_true (by (with_reducible assumption))) (by have h_ : (x7_1 : Int) < ((x0_1.length : Int) : Int) := of_decide_eq_true (by (with_reducible assumption)); exact h_) (seg := [.int .i64 a2]) (j := 3) hcl39 hcc39 (show 4 ≤ 4 from by decide) (x' := (⟨(rd_T86 y221 x7_1).f0, (rd_T86 y221 x7_1).f1, (rd_T86 y221 x7_1).f2, a2⟩ : S86)) (k86_mkM _ _ _ (⟨(rd_T86 y221 x7_1).f0, (rd_T86 y221 x7_1).f1, (rd_T86 y221 x7_1).f2, a2⟩ : S86) ) (fun _ hk => hk); have hx39_3 := hcc39 3 _ rfl; (try simp only [show (k86).sz = 4 from rfl, ko, kc] at hx39_3); have hf39_3 := hfr39 3; (try simp only [show (k86).sz = 4 from rfl, ko, kc] at hf39_3); clear hcl39 hcc39 hfr39 hM39) | ((with_reducible refine gate_store (t := 3) (p := 56) rfl ?_); refine store_event (t := 3) (p := 56) (v := ?vo_w40) (w1 := (w38.setCell ⟨go34, (x7_1 : Int).toNat * 4 + 3, none⟩ (.int .i64 a2))) ?hg ?ho ?hn ?hr ?_; (case ho => rfl); (case hg => rfl); (case hn => rfl); (case hr => go_simp; done); intro w40 hw; have hg : w38.grownBy w40 (some go34) := (by rw [hw]; exact HP39.2); have hp_ : Kd.R k86 86 w40 w0.heap.size (fun k_ => (P0_ k_ ∨ w.heap.size ≤ k_)) (.slice (some ⟨go34, 0, none⟩) x0_1.length co34) y222 := (by rw [hw, Ny222.1]; exact HP39.1); clear HP39; replace HB := kk (by rw [hw]; exact zf (HB.1) GB34.1 : Below w0.heap.size w0 w40); replace HK := kk (Kept.of_grown (S := (fun k_ => P0_ k_)) hg HK.1 (fun k_ e_ => (HO_0.1.1 k_ e_))); replace HO_0 := kk hp_; clear hg hw hp_))
      go_ret
      exact ⟨_, by rfl, by exact HO_0.1, by exact HB.1, by exact HK.1⟩
     ·
      rw [if_neg c33] at H
      exact absurd H (by simp)
    ·
     rw [if_neg c32] at H
     exact absurd H (by simp)
end Go.Proofs.Ytakoaogbkajkcaa.PFnTrieSteps
