/- Go functions told by Lean functions, printed by a program. No condition but what each statement says. -/
import Derived.Test.YtabejlfejlpkeaaYFnRangesx3
namespace Go.Proofs.Ytabejlfejlpkeaa.PFnRanges
open Go.RowKit Go.Proofs.YtabejlfejlpkeaaW.PrintWords Go.Proofs.YtabejlfejlpkeaaW.PrintLast Go.Proofs.YtabejlfejlpkeaaW.PrintMore
open List renaming setIfInBounds_toArray → kz, set_cons_zero → ky, set_cons_succ → kj
open Aside0 renaming mk → kq
open Act renaming put → kk
open Option renaming bind_eq_some_iff → kv
open Try renaming underlying45 → kh
open Or renaming inl → kg
open Bool renaming true → kf, false → ke
set_option maxHeartbeats 8000000
set_option maxRecDepth 100000
open Go.Proofs.YtabejlfejlpkeaaW.PrintLast renaming i64_w → zm, i32_w → zn, pure_ → zp
open Go.Proofs.YtabejlfejlpkeaaW.PrintWords renaming pw_below_drewN → za, below_drew1 → zb, below_alloc → zc, below_set → zd, blk_cell → ze, below_size → zf, blk_drew → zg, blk_drewN → zh, blk_alloc → zi, blk_frozen → zj, below_step → zk, box_event → zl, gate_dst → zo
attribute [local go_sem] max2_int min2_int max_two min_two max_three min_three max_four min_four
set_option linter.unusedVariables false
set_option linter.unusedSimpArgs false

/-! ### impl_Prefix_has: function 58 -/
def impl_Prefix_has.f (a0_0 : Int) (a0_1 : Int) (a1 : Int) : Option (Bool) := (impl_Prefix_end.f a0_0 a0_1).bind fun t125 => ((impl_within.f a1 a0_0 t125).bind fun t126 => (some t126))
theorem impl_Prefix_has.calls (a0_0 : Int) (a0_1 : Int) (a1 : Int) (r : Bool) (w : World) (h : impl_Prefix_has.f a0_0 a0_1 a1 = some r) :
  Calls Try.prog 58 #[.agg #[.int .i64 a0_0, .int .i64 a0_1], .int .i64 a1] w fun e w' => e = .returned (.bool r) ∧ Below w.heap.size w w' := by
 have hu45 := kh
 have HB := kq (Below.refl w.heap.size w)
 have H : ((impl_Prefix_end.f a0_0 a0_1).bind fun t125 => ((impl_within.f a1 a0_0 t125).bind fun t126 => (some t126))) = some r := h
 clear h
 replace H := kv.mp H
 obtain ⟨t125, A30, H⟩ := H
 replace H : ((impl_within.f a1 a0_0 t125).bind fun t126 => (some t126)) = some r := H
 have A3 := kq A30
 clear A30
 replace H := kv.mp H
 obtain ⟨t126, A40, H⟩ := H
 replace H : (some t126) = some r := H
 have A4 := kq A40
 clear A40
 obtain rfl := Option.some.inj H
 go_enter Try.func58, Try.ntmps58
 try go_wp2_with (((with_reducible refine zo (N := 2) rfl ?_); refine zl rfl (N := 2) rfl (cs := #[.int .i64 a0_0, .int .i64 a0_1]) (t := 45) ?hr ?_; (case hr => go_simp; done); intro gb124 hg w5 hbox hb; replace HB := kq (zk HB.1 hb); have zs := kq hbox; clear hb hbox hg))
 replace zs := kq (zg zs.1)
 replace HB := kq (zb HB.1)
 refine start_ (n := 7) (S := fun w' => w'.cell? ⟨gb124, 0, none⟩ = some (.int .i64 a0_0) ∧ w'.cell? ⟨gb124, 1, none⟩ = some (.int .i64 a0_1)) (ds := []) #[ke,ke,ke,ke,ke,ke,ke] (by kernel_rfl) rfl rfl ⟨(ze zs.1 0).trans rfl, (ze zs.1 1).trans rfl⟩ (fun hHeld => ?_)
 generalize w5.drew = w6 at zs HB hHeld ⊢
 refine zp (i := 0) (N := some 5) (v := ?_) (a' := ?_) #[kf,ke,ke,ke,ke,ke,ke] rfl rfl (by kernel_rfl) (fun _ _ _ h => h) (kg ⟨by rfl, ?_⟩) ?_ ?_
 rotate_left
 ·
  intro w'
  go_simp
  with_reducible rfl
 rotate_left
 ·
  simp only [kk, kz, ky, kj, zm, zn]
  rfl
 refine zp (i := 1) (N := some 6) (v := ?_) (a' := ?_) #[kf,kf,ke,ke,ke,ke,ke] rfl rfl (by kernel_rfl) (fun _ _ _ h => h) (kg ⟨by rfl, ?_⟩) ?_ ?_
 rotate_left
 ·
  intro w'
  go_simp
  with_reducible rfl
 rotate_left
 ·
  simp only [kk, kz, ky, kj, zm, zn]
  rfl
 refine take_ (i := 2) (N := some 7) (v := ?_) (a' := ?_) #[kf,kf,kf,ke,ke,ke,ke] rfl rfl (by kernel_rfl) (fun _ _ _ h => h) (kg ⟨by rfl, ?_⟩) hHeld ?_ ?_
 rotate_left
 ·
  rintro w' ⟨s0, s1⟩
  go_simp
  with_reducible rfl
 rotate_left
 ·
  simp only [kk, kz, ky, kj, zm, zn]
  rfl
 refine take_ (i := 3) (N := some 8) (v := ?_) (a' := ?_) #[kf,kf,kf,kf,ke,ke,ke] rfl rfl (by kernel_rfl) (fun _ _ _ h => h) (kg ⟨by rfl, ?_⟩) hHeld ?_ ?_
 rotate_left
 ·
  rintro w' ⟨s0, s1⟩
  go_simp
  with_reducible rfl
 rotate_left
 ·
  simp only [kk, kz, ky, kj, zm, zn]
  rfl
 refine one_ (i := 4) (N := some 9) #[kf,kf,kf,kf,kf,ke,ke] rfl rfl (by kernel_rfl) (by decide) (fun K hK => ?_)
 refine goes_ Try.func71 (by kernel_rfl) rfl #[.agg #[.int .i64 a0_0, .int .i64 a0_1]] (by rfl) rfl rfl (by (try simp only [List.map_toArray, List.map_cons, List.map_nil]); rfl) ?_
 with_reducible refine (impl_Prefix_end.calls a0_0 a0_1 t125 _ A3.1).mono ?_
 rintro e w7 ⟨rfl, hb⟩
 refine ⟨_, rfl, ?_⟩
 replace zs := kq (blk_below zs.1 hb)
 replace HB := kq (zk HB.1 hb)
 refine hK.out _ _ ⟨(ze zs.1 0).trans rfl, (ze zs.1 1).trans rfl⟩ (fun hHeld => ?_)
 clear hK K
 refine norm_ (a' := ?_) ?_ ?_
 rotate_left
 ·
  show kk _ (some 9) _ = _
  simp only [kk, kz, ky, kj, zm, zn]
  rfl
 refine one_ (i := 5) (N := some 10) #[kf,kf,kf,kf,kf,kf,ke] rfl rfl (by kernel_rfl) (by decide) (fun K hK => ?_)
 refine goes_ Try.func84 (by kernel_rfl) rfl #[.int .i64 a1, .int .i64 a0_0, .int .i64 t125] (by rfl) rfl rfl (by (try simp only [List.map_toArray, List.map_cons, List.map_nil]); rfl) ?_
 with_reducible refine (impl_within.calls a1 a0_0 t125 t126 _ A4.1).mono ?_
 rintro e w' ⟨rfl, ⟨nd, rfl⟩⟩
 refine ⟨_, rfl, ?_⟩
 refine hK.out _ _ ⟨(ze zs.1 0).trans rfl, (ze zs.1 1).trans rfl⟩ (fun hHeld => ?_)
 clear hK K
 refine norm_ (a' := ?_) ?_ ?_
 rotate_left
 ·
  show kk _ (some 10) _ = _
  simp only [kk, kz, ky, kj, zm, zn]
  rfl
 refine zp (i := 6) (N := some 4) (v := ?_) (a' := ?_) #[kf,kf,kf,kf,kf,kf,kf] rfl rfl (by kernel_rfl) (fun _ _ _ h => h) (kg ⟨by rfl, ?_⟩) ?_ ?_
 rotate_left
 ·
  intro w'
  go_simp
  with_reducible rfl
 rotate_left
 ·
  simp only [kk, kz, ky, kj, zm, zn]
  rfl
 refine done_ (by kernel_rfl) ?_
 try go_wp2
 go_ret
 exact ⟨by rfl, by repeat ((with_reducible first | exact HB.1 | apply za))⟩

/-! ### impl_Prefix_covers: function 49 -/
def impl_Prefix_covers.f (a0_0 : Int) (a0_1 : Int) (a1_0 : Int) (a1_1 : Int) : Option (Bool) := if a0_1 ≤ a1_1 then ((impl_Prefix_has.f a0_0 a0_1 a1_0).bind fun t129 => (some t129)) else (some false)
theorem impl_Prefix_covers.calls (a0_0 : Int) (a0_1 : Int) (a1_0 : Int) (a1_1 : Int) (r : Bool) (w : World) (h : impl_Prefix_covers.f a0_0 a0_1 a1_0 a1_1 = some r) :
  Calls Try.prog 49 #[.agg #[.int .i64 a0_0, .int .i64 a0_1], .agg #[.int .i64 a1_0, .int .i64 a1_1]] w fun e w' => e = .returned (.bool r) ∧ Below w.heap.size w w' := by
 have hu45 := kh
 have HB := kq (Below.refl w.heap.size w)
 have H : (if a0_1 ≤ a1_1 then ((impl_Prefix_has.f a0_0 a0_1 a1_0).bind fun t129 => (some t129)) else (some false)) = some r := h
 clear h
 by_cases c3 : a0_1 ≤ a1_1
 ·
  rw [if_pos c3] at H
  have c3b0 : decide (a0_1 ≤ a1_1) = true := decide_eq_true c3
  clear c3
  replace H := kv.mp H
  obtain ⟨t129, A40, H⟩ := H
  replace H : (some t129) = some r := H
  have A4 := kq A40
  clear A40
  obtain rfl := Option.some.inj H
  go_enter Try.func49, Try.ntmps49
  go_wp2_with (first | ((with_reducible refine zo (N := 2) rfl ?_); refine zl rfl (N := 2) rfl (cs := #[.int .i64 a0_0, .int .i64 a0_1]) (t := 45) ?hr ?_; (case hr => go_simp; done); intro gb127 hg w5 hbox hb; replace HB := kq (zk HB.1 hb); have zq := kq hbox; clear hb hbox hg) | ((with_reducible refine zo (N := 3) rfl ?_); refine zl rfl (N := 3) rfl (cs := #[.int .i64 a1_0, .int .i64 a1_1]) (t := 45) ?hr ?_; (case hr => go_simp; done); intro gb128 hg w6 hbox hb; replace HB := kq (zk HB.1 hb); have zu := kq hbox; have NB127_128 := kq (by rw [hg]; exact Nat.ne_of_lt (blk_lt zq.1) : gb127 ≠ gb128); have NB128_127 := kq (by rw [hg]; exact Nat.ne_of_gt (blk_lt zq.1) : gb128 ≠ gb127); replace zq := kq (blk_below zq.1 hb); clear hb hbox hg; have hnb7 := NB127_128.1; have hnc7 := NB128_127.1; have hcz8_0 : w6.cell? ⟨gb127, 0, none⟩ = some (.int .i64 a0_0) := (ze zq.1 0).trans rfl; have hcz8_1 : w6.cell? ⟨gb127, 1, none⟩ = some (.int .i64 a0_1) := (ze zq.1 1).trans rfl; have hfz8_0 := zj zq.1 0; have hfz8_1 := zj zq.1 1; have hcz9_0 : w6.cell? ⟨gb128, 0, none⟩ = some (.int .i64 a1_0) := (ze zu.1 0).trans rfl; have hcz9_1 : w6.cell? ⟨gb128, 1, none⟩ = some (.int .i64 a1_1) := (ze zu.1 1).trans rfl; have hfz9_0 := zj zu.1 0; have hfz9_1 := zj zu.1 1) | (go_at_call 58; (with_reducible refine (impl_Prefix_has.calls a0_0 a0_1 a1_0 t129 _ A4.1).mono ?_); rintro e w10 ⟨rfl, hb⟩; replace zq := kq (blk_below zq.1 hb); replace zu := kq (blk_below zu.1 hb); replace HB := kq (zk HB.1 hb)))
  go_ret
  exact ⟨by rfl, by exact HB.1⟩
 ·
  rw [if_neg c3] at H
  have c3b0 : decide (a0_1 ≤ a1_1) = false := decide_eq_false c3
  clear c3
  obtain rfl := Option.some.inj H
  go_enter Try.func49, Try.ntmps49
  go_wp2_with (first | ((with_reducible refine zo (N := 2) rfl ?_); refine zl rfl (N := 2) rfl (cs := #[.int .i64 a0_0, .int .i64 a0_1]) (t := 45) ?hr ?_; (case hr => go_simp; done); intro gb127 hg w11 hbox hb; replace HB := kq (zk HB.1 hb); have zq := kq hbox; clear hb hbox hg) | ((with_reducible refine zo (N := 3) rfl ?_); refine zl rfl (N := 3) rfl (cs := #[.int .i64 a1_0, .int .i64 a1_1]) (t := 45) ?hr ?_; (case hr => go_simp; done); intro gb128 hg w12 hbox hb; replace HB := kq (zk HB.1 hb); have zu := kq hbox; have NB127_128 := kq (by rw [hg]; exact Nat.ne_of_lt (blk_lt zq.1) : gb127 ≠ gb128); have NB128_127 := kq (by rw [hg]; exact Nat.ne_of_gt (blk_lt zq.1) : gb128 ≠ gb127); replace zq := kq (blk_below zq.1 hb); clear hb hbox hg; have hnb13 := NB127_128.1; have hnc13 := NB128_127.1; have hcz14_0 : w12.cell? ⟨gb127, 0, none⟩ = some (.int .i64 a0_0) := (ze zq.1 0).trans rfl; have hcz14_1 : w12.cell? ⟨gb127, 1, none⟩ = some (.int .i64 a0_1) := (ze zq.1 1).trans rfl; have hfz14_0 := zj zq.1 0; have hfz14_1 := zj zq.1 1; have hcz15_0 : w12.cell? ⟨gb128, 0, none⟩ = some (.int .i64 a1_0) := (ze zu.1 0).trans rfl; have hcz15_1 : w12.cell? ⟨gb128, 1, none⟩ = some (.int .i64 a1_1) := (ze zu.1 1).trans rfl; have hfz15_0 := zj zu.1 0; have hfz15_1 := zj zu.1 1))
  go_ret
  exact ⟨by rfl, by exact HB.1⟩

/-! ### impl_Prefix_sibling: function 50 -/
def impl_Prefix_sibling.f (a0_0 : Int) (a0_1 : Int) : Option (Int × Int) := (impl_sizeOf.f a0_1).bind fun t132 => (some (Go.bits .xor .i64 a0_0 t132, a0_1))
def impl_Prefix_sibling.T1 : Bool × List (List Nat × List Nat) := (true, [([], []), ([0], [0]), ([], []), ([2], [2]), ([3], [3]), ([1, 4], [1, 4]), ([], []), ([6], [6]), ([5, 7], [5, 7]), ([8, 4, 0, 1, 2, 3, 4, 5, 6, 7, 8], [8])])
def impl_Prefix_sibling.B1 : List Nat := [0, 1, 0, 4, 12, 31, 0, 64, 255, 511]
theorem impl_Prefix_sibling.tab1 : rtab .any (opsOf Try.f50 1) = impl_Prefix_sibling.T1 := by kernel_rfl
theorem impl_Prefix_sibling.bits1 : waitsOk impl_Prefix_sibling.T1.2 impl_Prefix_sibling.B1 = true := by kernel_rfl
theorem impl_Prefix_sibling.calls (a0_0 : Int) (a0_1 : Int) (r1 : Int) (r2 : Int) (w : World) (h : impl_Prefix_sibling.f a0_0 a0_1 = some (r1, r2)) :
  Calls Try.prog 50 #[.agg #[.int .i64 a0_0, .int .i64 a0_1]] w fun e w' => e = .returned (.agg #[.int .i64 r1, .int .i64 r2]) ∧ Below w.heap.size w w' := by
 have hu45 := kh
 have HB := kq (Below.refl w.heap.size w)
 have H : ((impl_sizeOf.f a0_1).bind fun t132 => (some (Go.bits .xor .i64 a0_0 t132, a0_1))) = some (r1, r2) := h
 clear h
 replace H := kv.mp H
 obtain ⟨t132, A20, H⟩ := H
 replace H : (some (Go.bits .xor .i64 a0_0 t132, a0_1)) = some (r1, r2) := H
 have A2 := kq A20
 clear A20
 simp only [Option.some.injEq, Prod.mk.injEq] at H
 obtain ⟨rfl, rfl⟩ := H
 go_enter Try.func50, Try.ntmps50
 try go_wp2_with (first | ((with_reducible refine zo (N := 1) rfl ?_); refine zl rfl (N := 1) rfl (cs := #[.int .i64 a0_0, .int .i64 a0_1]) (t := 45) ?hr ?_; (case hr => go_simp; done); intro gb130 hg w3 hbox hb; replace HB := kq (zk HB.1 hb); have zt := kq hbox; clear hb hbox hg) | ((with_reducible refine zo (N := 2) rfl ?_); refine zl rfl (N := 2) rfl (cs := #[.int .i64 0, .int .i64 0]) (t := 45) ?hr ?_; (case hr => go_simp; done); intro gb131 hg w4 hbox hb; have zw := kq hbox; have GE131 := kq (by rw [hg]; exact (zf HB.1) : w.heap.size ≤ gb131); replace HB := kq (zk HB.1 hb); have zr := kq (by rw [hg]; exact Nat.ne_of_lt (blk_lt zt.1) : gb130 ≠ gb131); have NB131_130 := kq (by rw [hg]; exact Nat.ne_of_gt (blk_lt zt.1) : gb131 ≠ gb130); replace zt := kq (blk_below zt.1 hb); clear hb hbox hg))
 replace zt := kq (zg zt.1)
 replace zw := kq (zg zw.1)
 replace HB := kq (zb HB.1)
 refine start_ (n := 10) (S := fun w' => w'.cell? ⟨gb130, 0, none⟩ = some (.int .i64 a0_0) ∧ w'.cell? ⟨gb130, 1, none⟩ = some (.int .i64 a0_1)) (ds := []) #[ke,ke,ke,ke,ke,ke,ke,ke,ke,ke] (by kernel_rfl) rfl rfl ⟨(ze zt.1 0).trans rfl, (ze zt.1 1).trans rfl⟩ (fun hHeld => ?_); refine with_tabW impl_Prefix_sibling.tab1 impl_Prefix_sibling.bits1 (fun HT_ HW_ => ?_)
 generalize w4.drew = w5 at zt zw HB hHeld ⊢
 refine zp (i := 0) (N := some 3) (v := ?_) (a' := ?_) #[kf,ke,ke,ke,ke,ke,ke,ke,ke,ke] rfl rfl (any_of HT_.1 (by kernel_rfl)) (fun _ _ _ h => h) (kg ⟨by rfl, ?_⟩) ?_ ?_
 rotate_left
 ·
  intro w'
  go_simp
  with_reducible rfl
 rotate_left
 ·
  simp only [kk, kz, ky, kj, zm, zn]
  rfl
 refine zp (i := 2) (N := some 5) (v := ?_) (a' := ?_) #[kf,ke,kf,ke,ke,ke,ke,ke,ke,ke] rfl rfl (any_of HT_.1 (by kernel_rfl)) (fun _ _ _ h => h) (kg ⟨by rfl, ?_⟩) ?_ ?_
 rotate_left
 ·
  intro w'
  go_simp
  with_reducible rfl
 rotate_left
 ·
  simp only [kk, kz, ky, kj, zm, zn]
  rfl
 refine zp (i := 6) (N := some 9) (v := ?_) (a' := ?_) #[kf,ke,kf,ke,ke,ke,kf,ke,ke,ke] rfl rfl (any_of HT_.1 (by kernel_rfl)) (fun _ _ _ h => h) (kg ⟨by rfl, ?_⟩) ?_ ?_
 rotate_left
 ·
  intro w'
  go_simp
  with_reducible rfl
 rotate_left
 ·
  simp only [kk, kz, ky, kj, zm, zn]
  rfl
 refine take_ (i := 1) (N := some 4) (v := ?_) (a' := ?_) #[kf,kf,kf,ke,ke,ke,kf,ke,ke,ke] rfl rfl (take_ofW HT_.1 HW_.1 (by kernel_rfl)) (fun _ _ _ h => h) (kg ⟨by rfl, ?_⟩) hHeld ?_ ?_
 rotate_left
 ·
  rintro w' ⟨s0, s1⟩
  go_simp
  with_reducible rfl
 rotate_left
 ·
  simp only [kk, kz, ky, kj, zm, zn]
  rfl
 refine take_ (i := 3) (N := some 6) (v := ?_) (a' := ?_) #[kf,kf,kf,kf,ke,ke,kf,ke,ke,ke] rfl rfl (take_ofW HT_.1 HW_.1 (by kernel_rfl)) (fun _ _ _ h => h) (kg ⟨by rfl, ?_⟩) hHeld ?_ ?_
 rotate_left
 ·
  rintro w' ⟨s0, s1⟩
  go_simp
  with_reducible rfl
 rotate_left
 ·
  simp only [kk, kz, ky, kj, zm, zn]
  rfl
 refine take_ (i := 7) (N := some 10) (v := ?_) (a' := ?_) #[kf,kf,kf,kf,ke,ke,kf,kf,ke,ke] rfl rfl (take_ofW HT_.1 HW_.1 (by kernel_rfl)) (fun _ _ _ h => h) (kg ⟨by rfl, ?_⟩) hHeld ?_ ?_
 rotate_left
 ·
  rintro w' ⟨s0, s1⟩
  go_simp
  with_reducible rfl
 rotate_left
 ·
  simp only [kk, kz, ky, kj, zm, zn]
  rfl
 refine one_ (i := 4) (N := some 7) #[kf,kf,kf,kf,kf,ke,kf,kf,ke,ke] rfl rfl (one_of HT_.1 (by kernel_rfl)) (by decide) (fun K hK => ?_)
 refine goes_ Try.func81 (by kernel_rfl) rfl #[.int .i64 a0_1] (by rfl) rfl rfl (by (try simp only [List.map_toArray, List.map_cons, List.map_nil]); rfl) ?_
 with_reducible refine (impl_sizeOf.calls a0_1 t132 _ A2.1).mono ?_
 rintro e w' ⟨rfl, ⟨nd, rfl⟩⟩
 refine ⟨_, rfl, ?_⟩
 refine hK.out _ _ ⟨(ze zt.1 0).trans rfl, (ze zt.1 1).trans rfl⟩ (fun hHeld => ?_)
 clear hK K
 refine norm_ (a' := ?_) ?_ ?_
 rotate_left
 ·
  show kk _ (some 7) _ = _
  simp only [kk, kz, ky, kj, zm, zn]
  rfl
 refine zp (i := 5) (N := some 8) (v := ?_) (a' := ?_) #[kf,kf,kf,kf,kf,kf,kf,kf,ke,ke] rfl rfl (any_of HT_.1 (by kernel_rfl)) (fun _ _ _ h => h) (kg ⟨by rfl, ?_⟩) ?_ ?_
 rotate_left
 ·
  intro w'
  go_simp
  with_reducible rfl
 rotate_left
 ·
  simp only [kk, kz, ky, kj, zm, zn]
  rfl
 refine zp (i := 8) (N := some 11) (v := ?_) (a' := ?_) #[kf,kf,kf,kf,kf,kf,kf,kf,kf,ke] rfl rfl (any_of HT_.1 (by kernel_rfl)) (fun _ _ _ h => h) (kg ⟨by rfl, ?_⟩) ?_ ?_
 rotate_left
 ·
  intro w'
  go_simp
  with_reducible rfl
 rotate_left
 ·
  simp only [kk, kz, ky, kj, zm, zn]
  rfl
 refine one_ (i := 9) (N := none) #[kf,kf,kf,kf,kf,kf,kf,kf,kf,kf] rfl rfl (one_of HT_.1 (by kernel_rfl)) (by decide) (fun K hK => ?_)
 have hs6 : w5.cell? ⟨gb131, 0, none⟩ = some (.int .i64 0) := (ze zw.1 0).trans rfl
 have hfs6 := zj zw.1 0
 have hns6_0 := zr.1
 have hms6_0 := NB131_130.1
 have hs7 : w5.cell? ⟨gb131, 1, none⟩ = some (.int .i64 0) := (ze zw.1 1).trans rfl
 have hfs7 := zj zw.1 1
 have hns7_0 := zr.1
 have hms7_0 := NB131_130.1
 refine skip_ (w1 := ?_) (by rfl) rfl ?_ ?_
 rotate_left
 ·
  go_simp
  rfl
 refine hK.out _ _ ⟨((cell_far (p := ⟨gb131, _, none⟩) zr.1 _).trans (((cell_far (p := ⟨gb131, _, none⟩) zr.1 _).trans (hHeld.1)))), ((cell_far (p := ⟨gb131, _, none⟩) zr.1 _).trans (((cell_far (p := ⟨gb131, _, none⟩) zr.1 _).trans (hHeld.2))))⟩ (fun hHeld => ?_)
 clear hK K
 refine done_ (done_of HT_.1 (by kernel_rfl)) ?_
 try go_wp2
 refine bodyPost_ret (results_cell_row rfl _ _ gb131 45 #[.int .i64 (Go.bits .xor .i64 a0_0 t132), .int .i64 a0_1] (0, 0) _ rfl (by refine blk_put (cs := #[.int .i64 (Go.bits .xor .i64 a0_0 t132), .int .i64 0]) ?_ 1 _ rfl; refine blk_put (cs := #[.int .i64 0, .int .i64 0]) ?_ 0 _ rfl; (with_reducible repeat (refine zh ?_ _)); exact zw.1) kh rfl (by kernel_rfl)) rfl ?_
 exact ⟨by rfl, by repeat ((with_reducible first | exact HB.1 | apply za | refine zd ?_ GE131.1))⟩

end Go.Proofs.Ytabejlfejlpkeaa.PFnRanges
