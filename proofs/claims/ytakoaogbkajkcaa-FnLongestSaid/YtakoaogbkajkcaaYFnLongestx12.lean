/- Go functions told by Lean functions, printed by a program. No condition but what each statement says. -/
import Derived.Test.YtakoaogbkajkcaaYFnLongestx10
namespace Go.Proofs.Ytakoaogbkajkcaa.PFnLongest
open Go.RowKit Go.Proofs.YtakoaogbkajkcaaW.PrintWords Go.Proofs.YtakoaogbkajkcaaW.PrintLast Go.Proofs.YtakoaogbkajkcaaW.PrintMore
open List renaming setIfInBounds_toArray → kz, set_cons_zero → kq, set_cons_succ → ky
open Aside0 renaming mk → kj
open Act renaming put → kk
open Bool renaming true → kv, false → kh
set_option maxHeartbeats 8000000
set_option maxRecDepth 100000
open Go.Proofs.YtakoaogbkajkcaaW.PrintLast renaming i64_w → za, i32_w → zb, any_of → zc, pure_ → zd
attribute [local go_sem] max2_int min2_int max_two min_two max_three min_three max_four min_four
set_option linter.unusedVariables false
set_option linter.unusedSimpArgs false

/-! ### spec_l1HasAddr: function 92 -/
def spec_l1HasAddr.f (a0_0 : Int) (a0_1 : Int) (a1 : Int) : Option (Bool) := (spec_l1Size.f a0_0 a0_1).bind fun t202 => (if t202 = 0 then (none) else (some ((wrap64 (a1 - (Int.tmod a1 t202))) == a0_0)))
def spec_l1HasAddr.T1 : Bool × List (List Nat × List Nat) := (true, [([], []), ([], []), ([], []), ([2], [2]), ([1, 3], [1, 3]), ([0, 4], [0, 4]), ([], []), ([6], [6]), ([5, 7], [5, 7]), ([8, 3, 0, 1, 2, 3, 4, 5, 6, 7, 8], [8])])
def spec_l1HasAddr.B1 : List Nat := [0, 0, 0, 4, 14, 31, 0, 64, 255, 511]
theorem spec_l1HasAddr.tab1 : rtab .any (opsOf Try.f92 1) = spec_l1HasAddr.T1 := by kernel_rfl
theorem spec_l1HasAddr.bits1 : waitsOk spec_l1HasAddr.T1.2 spec_l1HasAddr.B1 = true := by kernel_rfl
theorem spec_l1HasAddr.calls (a0_0 : Int) (a0_1 : Int) (a1 : Int) (r : Bool) (w : World) (h : spec_l1HasAddr.f a0_0 a0_1 a1 = some r) :
  Calls Try.prog 92 #[.agg #[.int .i64 a0_0, .int .i64 a0_1], .int .i64 a1] w fun e w' => e = .returned (.bool r) ∧ Below w.heap.size w w' := by
 have hu37 := Try.underlying37; have HB := kj (Below.refl w.heap.size w); have H : ((spec_l1Size.f a0_0 a0_1).bind fun t202 => (if t202 = 0 then (none) else (some ((wrap64 (a1 - (Int.tmod a1 t202))) == a0_0)))) = some r := h; clear h; replace H := Option.bind_eq_some_iff.mp H; obtain ⟨t202, A30, H⟩ := H; replace H : (if t202 = 0 then (none) else (some ((wrap64 (a1 - (Int.tmod a1 t202))) == a0_0))) = some r := H; have A3 := kj A30; clear A30; by_cases c4 : t202 = 0; · rw [if_pos c4] at H; exact absurd H (by simp)
 ·
  rw [if_neg c4] at H; have c4b0 : (t202 == 0) = false := beq_eq_false_iff_ne.mpr c4; have c4b1 : (t202 != 0) = true := bne_iff_ne.mpr c4; obtain rfl := Option.some.inj H; go_enter Try.func92, Try.ntmps92; try go_wp2_with (((with_reducible refine gate_dst (N := 2) rfl ?_); refine box_event rfl (N := 2) rfl (cs := #[.int .i64 a0_0, .int .i64 a0_1]) (t := 37) ?hr ?_; (case hr => go_simp; done); intro gb201 hg w5 hbox hb; replace HB := kj (below_step HB.1 hb); have ze := kj hbox; clear hb hbox hg))
  replace ze := kj (blk_drew ze.1); replace HB := kj (below_drew1 HB.1); refine start_ (n := 10) (S := fun w' => w'.cell? ⟨gb201, 0, none⟩ = some (.int .i64 a0_0) ∧ w'.cell? ⟨gb201, 1, none⟩ = some (.int .i64 a0_1)) (ds := []) #[kh,kh,kh,kh,kh,kh,kh,kh,kh,kh] (by kernel_rfl) rfl rfl ⟨(blk_cell ze.1 0).trans rfl, (blk_cell ze.1 1).trans rfl⟩ (fun hHeld => ?_); refine with_tabW spec_l1HasAddr.tab1 spec_l1HasAddr.bits1 (fun HT_ HW_ => ?_); generalize w5.drew = w6 at ze HB hHeld ⊢; refine zd (i := 0) (N := some 5) (v := ?_) (a' := ?_) #[kv,kh,kh,kh,kh,kh,kh,kh,kh,kh] rfl rfl (zc HT_.1 (by kernel_rfl)) (fun _ _ _ h => h) (Or.inl ⟨by rfl, ?_⟩) ?_ ?_; rotate_left; · intro w'; go_simp; with_reducible rfl
  rotate_left; · simp only [kk, kz, kq, ky, za, zb]; rfl
  refine zd (i := 1) (N := some 6) (v := ?_) (a' := ?_) #[kv,kv,kh,kh,kh,kh,kh,kh,kh,kh] rfl rfl (zc HT_.1 (by kernel_rfl)) (fun _ _ _ h => h) (Or.inl ⟨by rfl, ?_⟩) ?_ ?_; rotate_left; · intro w'; go_simp; with_reducible rfl
  rotate_left; · simp only [kk, kz, kq, ky, za, zb]; rfl
  refine zd (i := 6) (N := some 11) (v := ?_) (a' := ?_) #[kv,kv,kh,kh,kh,kh,kv,kh,kh,kh] rfl rfl (zc HT_.1 (by kernel_rfl)) (fun _ _ _ h => h) (Or.inl ⟨by rfl, ?_⟩) ?_ ?_; rotate_left; · intro w'; go_simp; with_reducible rfl
  rotate_left; · simp only [kk, kz, kq, ky, za, zb]; rfl
  refine take_ (i := 2) (N := some 7) (v := ?_) (a' := ?_) #[kv,kv,kv,kh,kh,kh,kv,kh,kh,kh] rfl rfl (take_ofW HT_.1 HW_.1 (by kernel_rfl)) (fun _ _ _ h => h) (Or.inl ⟨by rfl, ?_⟩) hHeld ?_ ?_; rotate_left; · rintro w' ⟨s0, s1⟩; go_simp; with_reducible rfl
  rotate_left; · simp only [kk, kz, kq, ky, za, zb]; rfl
  refine take_ (i := 7) (N := some 12) (v := ?_) (a' := ?_) #[kv,kv,kv,kh,kh,kh,kv,kv,kh,kh] rfl rfl (take_ofW HT_.1 HW_.1 (by kernel_rfl)) (fun _ _ _ h => h) (Or.inl ⟨by rfl, ?_⟩) hHeld ?_ ?_; rotate_left; · rintro w' ⟨s0, s1⟩; go_simp; with_reducible rfl
  rotate_left; · simp only [kk, kz, kq, ky, za, zb]; rfl
  refine one_ (i := 3) (N := some 8) #[kv,kv,kv,kv,kh,kh,kv,kv,kh,kh] rfl rfl (one_of HT_.1 (by kernel_rfl)) (by decide) (fun K hK => ?_); refine goes_ Try.func88 (by kernel_rfl) rfl #[.agg #[.int .i64 a0_0, .int .i64 a0_1]] (by rfl) rfl rfl (by (try simp only [List.map_toArray, List.map_cons, List.map_nil]); rfl) ?_; with_reducible refine (spec_l1Size.calls a0_0 a0_1 t202 _ A3.1).mono ?_; rintro e w7 ⟨rfl, hb⟩; refine ⟨_, rfl, ?_⟩; replace ze := kj (blk_below ze.1 hb); replace HB := kj (below_step HB.1 hb); refine hK.out _ _ ⟨(blk_cell ze.1 0).trans rfl, (blk_cell ze.1 1).trans rfl⟩ (fun hHeld => ?_); clear hK K; refine norm_ (a' := ?_) ?_ ?_; rotate_left
  ·
   show kk _ (some 8) _ = _
   simp only [kk, kz, kq, ky, za, zb]; rfl
  refine zd (i := 4) (N := some 9) (v := ?_) (a' := ?_) #[kv,kv,kv,kv,kv,kh,kv,kv,kh,kh] rfl rfl (zc HT_.1 (by kernel_rfl)) (fun _ _ _ h => h) (Or.inl ⟨by rfl, ?_⟩) ?_ ?_; rotate_left; · intro w'; go_simp; with_reducible rfl
  rotate_left; · simp only [kk, kz, kq, ky, za, zb]; rfl
  refine zd (i := 5) (N := some 10) (v := ?_) (a' := ?_) #[kv,kv,kv,kv,kv,kv,kv,kv,kh,kh] rfl rfl (zc HT_.1 (by kernel_rfl)) (fun _ _ _ h => h) (Or.inl ⟨by rfl, ?_⟩) ?_ ?_; rotate_left; · intro w'; go_simp; with_reducible rfl
  rotate_left; · simp only [kk, kz, kq, ky, za, zb]; rfl
  refine zd (i := 8) (N := some 13) (v := ?_) (a' := ?_) #[kv,kv,kv,kv,kv,kv,kv,kv,kv,kh] rfl rfl (zc HT_.1 (by kernel_rfl)) (fun _ _ _ h => h) (Or.inl ⟨by rfl, ?_⟩) ?_ ?_; rotate_left; · intro w'; go_simp; with_reducible rfl
  rotate_left; · simp only [kk, kz, kq, ky, za, zb]; rfl
  refine zd (i := 9) (N := some 4) (v := ?_) (a' := ?_) #[kv,kv,kv,kv,kv,kv,kv,kv,kv,kv] rfl rfl (zc HT_.1 (by kernel_rfl)) (fun _ _ _ h => h) (Or.inl ⟨by rfl, ?_⟩) ?_ ?_; rotate_left; · intro w'; go_simp; with_reducible rfl
  rotate_left; · simp only [kk, kz, kq, ky, za, zb]; rfl
  refine done_ (done_of HT_.1 (by kernel_rfl)) ?_; try go_wp2
  go_ret; exact ⟨by rfl, by exact HB.1⟩

end Go.Proofs.Ytakoaogbkajkcaa.PFnLongest
