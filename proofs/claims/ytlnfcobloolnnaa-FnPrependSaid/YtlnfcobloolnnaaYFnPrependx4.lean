/- Go functions told by Lean functions, printed by a program. No condition but what each statement says. -/
import Derived.Test.YtlnfcobloolnnaaYFnPrependx3
namespace Go.Proofs.Ytlnfcobloolnnaa.PFnPrepend
open Go.RowKit Go.Proofs.YtlnfcobloolnnaaW.PrintWords Go.Proofs.YtlnfcobloolnnaaW.PrintLast Go.Proofs.YtlnfcobloolnnaaW.PrintMore
open List renaming setIfInBounds_toArray → kz, set_cons_zero → kj, set_cons_succ → kk, map_toArray → kf, map_cons → ke, map_nil → kd
open Aside0 renaming mk → ky
open Option renaming bind_eq_some_iff → kv
open Int renaming tdiv → kh, tmod → kr
open Act renaming put → kg
open Option.some renaming inj → kb, injEq → ku
open Or renaming inl → kc
open World renaming drewN_drewN → ko
open Try renaming underlying35 → kx, prog → km, underlying62 → kt
open Bool renaming eq_false_iff → ks, true → kp, false → kn
set_option maxHeartbeats 8000000
set_option maxRecDepth 100000
open Go.Proofs.YtlnfcobloolnnaaW.PrintLast renaming i64_w → zk, i32_w → zn, any_of → zq, pure_ → zu
open Go.Proofs.YtlnfcobloolnnaaW.PrintWords renaming pw_below_drewN → za, below_drew1 → zb, below_alloc → zc, blk_cell → zd, below_size → ze, blk_frozen → zf, below_step → zg, below_set → zh, box_event → zi, gate_dst → zj, blk_drew → zp, blk_drewN → zr, blk_below → zs, blk_alloc → zt, Aside0 → zw
open Go.Proofs.YtlnfcobloolnnaaW.PrintWords.LeO renaming none → zl, bind → zm, ite → zo, refl → zv
attribute [local go_sem] max2_int min2_int max_two min_two max_three min_three max_four min_four
set_option linter.unusedVariables false
set_option linter.unusedSimpArgs false

/-! ### spec_l4Bytes: function 102 -/
def spec_l4Bytes.l0 : Nat → Int → List Int → Int → Option (ByteArray)
 | 0, _, _, _ => none
 | k + 1, x0, x5, x6 => if x6 ≥ 0 then (if 0 ≤ x6 then (if x6 < (x5.length : Int) then (spec_l4Bytes.l0 k (x0 / 256) (x5.set (x6 : Int).toNat ((x0) % 256)) (wrap64 (x6 - 1))) else (none)) else (none)) else (some (strOfNums x5))
def spec_l4Bytes.f (k : Nat) (a0 : Int) (a1 : Int) : Option (ByteArray) := if 0 ≤ a1 then (if (a1 : Int).toNat ≤ 281474976710656 then (spec_l4Bytes.l0 k a0 (List.replicate (a1 : Int).toNat 0) (wrap64 (a1 - 1))) else (none)) else (none)
theorem spec_l4Bytes.mono_l : ∀ k, (∀ y0 y1 y2, LeO (spec_l4Bytes.l0 k y0 y1 y2) (spec_l4Bytes.l0 (k + 1) y0 y1 y2))
 | 0 => fun _ _ _ r h => by simp [spec_l4Bytes.l0] at h
 | k + 1 => by
  have ih0 := spec_l4Bytes.mono_l k
  ·
   intro y0 y1 y2; unfold spec_l4Bytes.l0; repeat' first
   | (with_reducible exact ih0 _ _ _)
   | (with_reducible exact zv _)
   | (with_reducible refine zo ?_ ?_)
theorem spec_l4Bytes.mono : ∀ a0 a1 k, LeO (spec_l4Bytes.f k a0 a1) (spec_l4Bytes.f (k + 1) a0 a1) := by
 intro a0 a1 k; have ih0 := spec_l4Bytes.mono_l k; unfold spec_l4Bytes.f
 repeat' first
   | (with_reducible exact ih0 _ _ _)
   | (with_reducible exact zv _)
   | (with_reducible refine zo ?_ ?_)
theorem spec_l4Bytes.calls (k : Nat) (a0 : Int) (a1 : Int) (r : ByteArray) (w : World) (h : spec_l4Bytes.f k a0 a1 = some r) :
  Calls km 102 #[.int .i64 a0, .int .i64 a1] w fun e w' => e = .returned (.string r) ∧ Below w.heap.size w w' := by
 have HB := ky (Below.refl w.heap.size w); have H : (if 0 ≤ a1 then (if (a1 : Int).toNat ≤ 281474976710656 then (spec_l4Bytes.l0 k a0 (List.replicate (a1 : Int).toNat 0) (wrap64 (a1 - 1))) else (none)) else (none)) = some r := h; clear h; by_cases c3 : 0 ≤ a1
 ·
  rw [if_pos c3] at H; have c3b0 := eq_true c3; have c3b1 : decide (0 ≤ a1) = true := decide_eq_true c3; clear c3; by_cases c4 : (a1 : Int).toNat ≤ 281474976710656
  ·
   rw [if_pos c4] at H; have c4b0 := eq_true c4; have c4b1 : decide ((a1 : Int).toNat ≤ 281474976710656) = true := decide_eq_true c4; clear c4; obtain ⟨y135, hy135⟩ : ∃ y_ : List Int, y_ = (List.replicate (a1 : Int).toNat 0) := ⟨_, rfl⟩
   replace H : (spec_l4Bytes.l0 k a0 y135 (wrap64 (a1 - 1))) = some r := by (rw [hy135]; with_reducible exact H)
   have Ny135 := ky hy135; clear hy135; have H' := ky H; clear H; go_enter Try.func102, Try.ntmps102; go_wp2_with (((with_reducible refine zj (N := 8) rfl ?_); refine Kd.R_make (Kd.int .u8) _ 5 rfl (N := 8) rfl 62 _ _ rfl a1 rfl rfl kt (.int .u8 0) 1 info5 rfl (by decide) (by omega) 0 (ok := fun _ => True) (okp := fun _ => True) rfl (fun _ hk => hk) trivial (of_decide_eq_true (by (with_reducible assumption))) (Nat.le_trans (Nat.mul_le_mul_right _ (of_decide_eq_true (by (with_reducible assumption)) : a1.toNat ≤ 281474976710656)) (by omega)) (Below.refl _ _) (Nat.le_refl _) ?_; intro v136 w5 ho6 hb hg_ hnew_; clear hg_ hnew_; (rw [← Ny135.1] at ho6); have HO137 := ky (Kd.R_lower ho6 (ze HB.1)); replace HB := ky (zg HB.1 hb); clear hb ho6)); go_loopg [0, 6] k (fun kq v0 v6 w' => ∃ (x0_1 : Int) (x5_1 : List Int) (x6_1 : Int), v0 = .int .i64 x0_1 ∧ v6 = .int .i64 x6_1 ∧ zw (spec_l4Bytes.l0 kq x0_1 x5_1 x6_1 = some r) ∧ zw (kq ≤ k) ∧ zw (Kd.R (Kd.int .u8) 5 w' w.heap.size (fun _ => True) v136 x5_1) ∧ zw (Below w.heap.size w w')); case atStart => exact ⟨(a0), (y135), (wrap64 (a1 - 1)), (by rfl), (by rfl), H', ⟨Nat.le_refl _⟩, ⟨by exact HO137.1⟩, ⟨by exact HB.1⟩⟩
   case round =>
    clear H'; obtain ⟨x0_1, x5_1, x6_1, rfl, rfl, HA, HK1, HO_5, HB⟩ := hrel; cases gk with
    | zero => exact absurd HA.1 (by simp [spec_l4Bytes.l0])
    | succ k1 =>
     have H := HA.1; clear HA; simp only [spec_l4Bytes.l0] at H; by_cases c7 : x6_1 ≥ 0
     ·
      rw [if_pos c7] at H; have c7b0 : decide (0 ≤ x6_1) = true := decide_eq_true c7; clear c7; by_cases c8 : 0 ≤ x6_1
      ·
       rw [if_pos c8] at H; have c8b0 : decide (0 ≤ x6_1) = true := decide_eq_true c8; clear c8; by_cases c9 : x6_1 < (x5_1.length : Int)
       ·
        rw [if_pos c9] at H; have c9b0 : decide (x6_1 < (x5_1.length : Int)) = true := decide_eq_true c9; clear c9; obtain ⟨y138, hy138⟩ : ∃ y_ : List Int, y_ = (x5_1.set (x6_1 : Int).toNat ((x0_1) % 256)) := ⟨_, rfl⟩
        replace H : (spec_l4Bytes.l0 k1 (x0_1 / 256) y138 (wrap64 (x6_1 - 1))) = some r := by (rw [hy138]; with_reducible exact H)
        have Ny138 := ky hy138; clear hy138; have H' := ky H; clear H; have p10 : 0 ≤ (x6_1 : Int) := of_decide_eq_true (by (with_reducible assumption)); have q10 : (x6_1 : Int) < ((x5_1.length : Int) : Int) := of_decide_eq_true (by (with_reducible assumption)); obtain ⟨go10, co10, eo10, gb10, gl10, cl10, HG10⟩ := Kd.R_form HO_5.1 (by omega); (cases eo10); have GB10 := ky gb10; have GG10 := ky HG10; clear gb10 gl10 HG10; obtain ⟨hx10_0, hf10_0⟩ := Kd.R_celln 0 HO_5.1 (x6_1 : Int) p10 q10; replace p10 := eq_true p10; replace q10 := eq_true q10; have HP11 := Kd.R_putg HO_5.1 (x6_1 : Int) ((x0_1) % 256); go_wp2_with (((with_reducible refine gate_store (t := 5) (p := 19) rfl ?_); refine store_event (t := 5) (p := 19) (v := ?vo_w12) (w1 := (wr.setCell ⟨go10, (x6_1 : Int).toNat, none⟩ (.int .u8 ((x0_1) % 256)))) ?hg ?ho ?hn ?hr ?_; (case ho => rfl); (case hg => rfl); (case hn => rfl); (case hr => (go_simp; done)); intro w12 hw; have hg : wr.grownBy w12 (some go10) := (by rw [hw]; exact HP11.2); have hp_ : Kd.R (Kd.int .u8) 5 w12 w.heap.size (fun _ => True) (.slice (some ⟨go10, 0, none⟩) x5_1.length co10) y138 := (by rw [hw, Ny138.1]; exact HP11.1); clear HP11; replace HO_5 := ky hp_; replace HB := ky ((by rw [hw]; exact zh (HB.1) GB10.1 : Below w.heap.size w w12)); clear hg hw hp_)); go_roundg k1; case measure => have := HK1.1; omega
        case rel => exact ⟨(x0_1 / 256), (y138), (wrap64 (x6_1 - 1)), (by rfl), (by rfl), H', ⟨by have := HK1.1; omega⟩, ⟨by exact HO_5.1⟩, ⟨by exact HB.1⟩⟩
       · rw [if_neg c9] at H; exact absurd H (by simp)
      · rw [if_neg c8] at H; exact absurd H (by simp)
     · rw [if_neg c7] at H; have c7b0 : decide (0 ≤ x6_1) = false := decide_eq_false c7; clear c7; obtain rfl := kb H; have hcv13 := own_string (P := km) kt Try.underlying5 Try.underlying9 (Kd.own_of_R HO_5.1); go_wp2; go_ret; exact ⟨by rfl, by exact HB.1⟩
  · rw [if_neg c4] at H; exact absurd H (by simp)
 · rw [if_neg c3] at H; exact absurd H (by simp)

/-! ### spec_l4Prefix: function 57 -/
def spec_l4Prefix.f (k : Nat) (a0_0 : Int) (a0_1 : Int) : Option (ByteArray) := (spec_l4Bytes.f k a0_1 1).bind fun t140 => (if 0 ≤ (IntKind.u64.wrap (wrap64 (32 - (wrap64 (8 * (wrap64 (kh (wrap64 (a0_1 + 7)) 8))))))) then ((spec_l4Bytes.f k (shr .i64 a0_0 (IntKind.u64.wrap (wrap64 (32 - (wrap64 (8 * (wrap64 (kh (wrap64 (a0_1 + 7)) 8)))))))) (wrap64 (kh (wrap64 (a0_1 + 7)) 8))).bind fun t141 => (if t140.size + t141.size ≤ 9223372036854775807 then (some (t140 ++ t141)) else (none))) else (none))
theorem spec_l4Prefix.mono : ∀ a0 a1 k, LeO (spec_l4Prefix.f k a0 a1) (spec_l4Prefix.f (k + 1) a0 a1) := by
 intro a0 a1 k; unfold spec_l4Prefix.f
 repeat' first
   | (with_reducible exact spec_l4Bytes.mono _ _ _)
   | (with_reducible exact zv _)
   | (with_reducible refine zo ?_ ?_)
   | (with_reducible refine zm ?_ (fun _ => ?_))
def spec_l4Prefix.T2 : Bool × List (List Nat × List Nat) := (true, [([], []), ([0], [0]), ([1], [1]), ([], []), ([3], [3]), ([], []), ([5], [5]), ([6], [6]), ([7], [7]), ([4, 8], [4, 8]), ([], []), ([9, 10, 2], [9, 10]), ([2, 11], [2, 11]), ([12, 11, 0, 1, 2, 3, 4, 5, 6, 7, 8, 9, 10, 11, 12], [12])])
def spec_l4Prefix.B2 : List Nat := [0, 1, 3, 0, 8, 0, 32, 96, 224, 504, 0, 2047, 4095, 8191]
theorem spec_l4Prefix.tab2 : rtab .any (opsOf Try.f57 2) = spec_l4Prefix.T2 := by kernel_rfl
theorem spec_l4Prefix.bits2 : waitsOk spec_l4Prefix.T2.2 spec_l4Prefix.B2 = true := by kernel_rfl
theorem spec_l4Prefix.calls (k : Nat) (a0_0 : Int) (a0_1 : Int) (r : ByteArray) (w : World) (h : spec_l4Prefix.f k a0_0 a0_1 = some r) :
  Calls km 57 #[.agg #[.int .i64 a0_0, .int .i64 a0_1]] w fun e w' => e = .returned (.string r) ∧ Below w.heap.size w w' := by
 have hu35 := kx; have HB := ky (Below.refl w.heap.size w); have H : ((spec_l4Bytes.f k a0_1 1).bind fun t140 => (if 0 ≤ (IntKind.u64.wrap (wrap64 (32 - (wrap64 (8 * (wrap64 (kh (wrap64 (a0_1 + 7)) 8))))))) then ((spec_l4Bytes.f k (shr .i64 a0_0 (IntKind.u64.wrap (wrap64 (32 - (wrap64 (8 * (wrap64 (kh (wrap64 (a0_1 + 7)) 8)))))))) (wrap64 (kh (wrap64 (a0_1 + 7)) 8))).bind fun t141 => (if t140.size + t141.size ≤ 9223372036854775807 then (some (t140 ++ t141)) else (none))) else (none))) = some r := h; clear h; replace H := kv.mp H; obtain ⟨t140, A20, H⟩ := H; replace H : (if 0 ≤ (IntKind.u64.wrap (wrap64 (32 - (wrap64 (8 * (wrap64 (kh (wrap64 (a0_1 + 7)) 8))))))) then ((spec_l4Bytes.f k (shr .i64 a0_0 (IntKind.u64.wrap (wrap64 (32 - (wrap64 (8 * (wrap64 (kh (wrap64 (a0_1 + 7)) 8)))))))) (wrap64 (kh (wrap64 (a0_1 + 7)) 8))).bind fun t141 => (if t140.size + t141.size ≤ 9223372036854775807 then (some (t140 ++ t141)) else (none))) else (none)) = some r := H; have A2 := ky A20; clear A20; obtain ⟨ji3, hji3⟩ : ∃ j_ : Int, (IntKind.u64.wrap (wrap64 (32 - (wrap64 (8 * (wrap64 (kh (wrap64 (a0_1 + 7)) 8))))))) = j_ := ⟨_, rfl⟩
 replace H : (if 0 ≤ (ji3) then ((spec_l4Bytes.f k (shr .i64 a0_0 (ji3)) (wrap64 (kh (wrap64 (a0_1 + 7)) 8))).bind fun t141 => (if t140.size + t141.size ≤ 9223372036854775807 then (some (t140 ++ t141)) else (none))) else (none)) = some r := by (rw [hji3] at H; exact H)
 (try rw [hji3] at A2); by_cases c4 : 0 ≤ (ji3)
 ·
  rw [if_pos c4] at H; have c4b0 := eq_true c4; have c4b1 : decide (0 ≤ (ji3)) = true := decide_eq_true c4; clear c4; obtain ⟨ji5, hji5⟩ : ∃ j_ : Int, (shr .i64 a0_0 (ji3)) = j_ := ⟨_, rfl⟩
  replace H : ((spec_l4Bytes.f k (ji5) (wrap64 (kh (wrap64 (a0_1 + 7)) 8))).bind fun t141 => (if t140.size + t141.size ≤ 9223372036854775807 then (some (t140 ++ t141)) else (none))) = some r := by (rw [hji5] at H; exact H)
  (try rw [hji5] at A2); have hji5_ : (a0_0 / 2 ^ min (ji3).toNat 64) = ji5 := hji5; have hji5z : (ji3) ≤ 64 → (a0_0 / 2 ^ (ji3).toNat) = ji5 := shr_small hji5; replace H := kv.mp H; obtain ⟨t141, A60, H⟩ := H; replace H : (if t140.size + t141.size ≤ 9223372036854775807 then (some (t140 ++ t141)) else (none)) = some r := H; have A6 := ky A60; clear A60; by_cases c7 : t140.size + t141.size ≤ 9223372036854775807
  ·
   rw [if_pos c7] at H; have c7b0 := eq_true c7; have c7b1 : decide (t140.size + t141.size ≤ 9223372036854775807) = true := decide_eq_true c7; try have c7b2 : (9223372036854775807 < t140.size + t141.size) = False := eq_false (Nat.not_lt.2 c7)
   obtain rfl := kb H; go_enter Try.func57, Try.ntmps57; try go_wp2_with (((with_reducible refine zj (N := 1) rfl ?_); refine zi ?hg (N := 1) ?hd (cs := #[.int .i64 a0_0, .int .i64 a0_1]) (t := 35) ?hr ?_; (case hd => rfl); (case hg => rfl); (case hr => (go_simp; done)); intro gb139 hg w8 hbox hb; replace HB := ky (zg HB.1 hb); have zA := ky hbox; clear hb hbox hg; have hcz9_0 : w8.cell? ⟨gb139, 0, none⟩ = some (.int .i64 a0_0) := (zd zA.1 0).trans rfl; have hcz9_1 : w8.cell? ⟨gb139, 1, none⟩ = some (.int .i64 a0_1) := (zd zA.1 1).trans rfl; have hfz9_0 := zf zA.1 0; have hfz9_1 := zf zA.1 1))
   replace zA := ky (zp zA.1); replace HB := ky (zb HB.1); refine start_ (n := 14) (S := fun w' => w'.cell? ⟨gb139, 0, none⟩ = some (.int .i64 a0_0) ∧ w'.cell? ⟨gb139, 1, none⟩ = some (.int .i64 a0_1)) (ds := []) #[kn,kn,kn,kn,kn,kn,kn,kn,kn,kn,kn,kn,kn,kn] (by kernel_rfl) rfl rfl ⟨(zd zA.1 0).trans rfl, (zd zA.1 1).trans rfl⟩ (fun hHeld => ?_); refine with_tabW spec_l4Prefix.tab2 spec_l4Prefix.bits2 (fun HT_ HW_ => ?_); generalize w8.drew = w10 at zA HB hHeld ⊢; refine zu (i := 0) (N := some 8) (v := ?_) (a' := ?_) #[kp,kn,kn,kn,kn,kn,kn,kn,kn,kn,kn,kn,kn,kn] rfl rfl (zq HT_.1 (by kernel_rfl)) (fun _ _ _ h => h) (kc ⟨by rfl, ?_⟩) ?_ ?_; rotate_left; · intro w'; go_simp; with_reducible rfl
   rotate_left; · simp only [kg, kz, kj, kk, zk, zn]; rfl
   refine zu (i := 3) (N := some 11) (v := ?_) (a' := ?_) #[kp,kn,kn,kp,kn,kn,kn,kn,kn,kn,kn,kn,kn,kn] rfl rfl (zq HT_.1 (by kernel_rfl)) (fun _ _ _ h => h) (kc ⟨by rfl, ?_⟩) ?_ ?_; rotate_left; · intro w'; go_simp; with_reducible rfl
   rotate_left; · simp only [kg, kz, kj, kk, zk, zn]; rfl
   refine zu (i := 5) (N := some 13) (v := ?_) (a' := ?_) #[kp,kn,kn,kp,kn,kp,kn,kn,kn,kn,kn,kn,kn,kn] rfl rfl (zq HT_.1 (by kernel_rfl)) (fun _ _ _ h => h) (kc ⟨by rfl, ?_⟩) ?_ ?_; rotate_left; · intro w'; go_simp; with_reducible rfl
   rotate_left; · simp only [kg, kz, kj, kk, zk, zn]; rfl
   refine zu (i := 6) (N := some 14) (v := ?_) (a' := ?_) #[kp,kn,kn,kp,kn,kp,kp,kn,kn,kn,kn,kn,kn,kn] rfl rfl (zq HT_.1 (by kernel_rfl)) (fun _ _ _ h => h) (kc ⟨by rfl, ?_⟩) ?_ ?_; rotate_left; · intro w'; go_simp; with_reducible rfl
   rotate_left; · simp only [kg, kz, kj, kk, zk, zn]; rfl
   refine zu (i := 7) (N := some 15) (v := ?_) (a' := ?_) #[kp,kn,kn,kp,kn,kp,kp,kp,kn,kn,kn,kn,kn,kn] rfl rfl (zq HT_.1 (by kernel_rfl)) (fun _ _ _ h => h) (kc ⟨by rfl, ?_⟩) ?_ ?_; rotate_left; · intro w'; go_simp; with_reducible rfl
   rotate_left; · simp only [kg, kz, kj, kk, zk, zn]; rfl
   refine zu (i := 8) (N := some 16) (v := ?_) (a' := ?_) #[kp,kn,kn,kp,kn,kp,kp,kp,kp,kn,kn,kn,kn,kn] rfl rfl (zq HT_.1 (by kernel_rfl)) (fun _ _ _ h => h) (kc ⟨by rfl, ?_⟩) ?_ ?_; rotate_left; · intro w'; go_simp; with_reducible rfl
   rotate_left; · simp only [kg, kz, kj, kk, zk, zn]; rfl
   refine zu (i := 10) (N := some 18) (v := ?_) (a' := ?_) #[kp,kn,kn,kp,kn,kp,kp,kp,kp,kn,kp,kn,kn,kn] rfl rfl (zq HT_.1 (by kernel_rfl)) (fun _ _ _ h => h) (kc ⟨by rfl, ?_⟩) ?_ ?_; rotate_left; · intro w'; go_simp; with_reducible rfl
   rotate_left; · simp only [kg, kz, kj, kk, zk, zn]; rfl
   refine take_ (i := 1) (N := some 9) (v := ?_) (a' := ?_) #[kp,kp,kn,kp,kn,kp,kp,kp,kp,kn,kp,kn,kn,kn] rfl rfl (take_ofW HT_.1 HW_.1 (by kernel_rfl)) (fun _ _ _ h => h) (kc ⟨by rfl, ?_⟩) hHeld ?_ ?_; rotate_left; · rintro w' ⟨s0, s1⟩; go_simp; with_reducible rfl
   rotate_left; · simp only [kg, kz, kj, kk, zk, zn]; rfl
   refine take_ (i := 4) (N := some 12) (v := ?_) (a' := ?_) #[kp,kp,kn,kp,kp,kp,kp,kp,kp,kn,kp,kn,kn,kn] rfl rfl (take_ofW HT_.1 HW_.1 (by kernel_rfl)) (fun _ _ _ h => h) (kc ⟨by rfl, ?_⟩) hHeld ?_ ?_; rotate_left; · rintro w' ⟨s0, s1⟩; go_simp; with_reducible rfl
   rotate_left; · simp only [kg, kz, kj, kk, zk, zn]; rfl
   refine zu (i := 9) (N := some 17) (v := ?_) (a' := ?_) #[kp,kp,kn,kp,kp,kp,kp,kp,kp,kp,kp,kn,kn,kn] rfl rfl (zq HT_.1 (by kernel_rfl)) (fun _ _ _ h => h) (kc ⟨by rfl, ?_⟩) ?_ ?_; rotate_left; · intro w'; go_simp; with_reducible rfl
   rotate_left; · simp only [kg, kz, kj, kk, zk, zn]; rfl
   refine one_ (i := 2) (N := some 10) #[kp,kp,kp,kp,kp,kp,kp,kp,kp,kp,kp,kn,kn,kn] rfl rfl (one_of HT_.1 (by kernel_rfl)) (by decide) (fun K hK => ?_); refine goes_ Try.func102 (by kernel_rfl) rfl #[.int .i64 a0_1, .int .i64 1] (by rfl) rfl rfl (by (try simp only [kf, ke, kd]); rfl) ?_; with_reducible refine (spec_l4Bytes.calls k a0_1 1 t140 _ A2.1).mono ?_; rintro e w11 ⟨rfl, hb⟩; refine ⟨_, rfl, ?_⟩; replace zA := ky (zs (g := gb139) (o := .cells #[.int .i64 a0_0, .int .i64 a0_1] 35 (0, 0)) zA.1 hb); replace HB := ky (zg HB.1 hb); refine hK.out _ _ ⟨(zd zA.1 0).trans rfl, (zd zA.1 1).trans rfl⟩ (fun hHeld => ?_); clear hK K; refine norm_ (a' := ?_) ?_ ?_; rotate_left
   ·
    show kg _ (some 10) _ = _
    simp only [kg, kz, kj, kk, zk, zn]; rfl
   refine one_ (i := 11) (N := some 19) #[kp,kp,kp,kp,kp,kp,kp,kp,kp,kp,kp,kp,kn,kn] rfl rfl (one_of HT_.1 (by kernel_rfl)) (by decide) (fun K hK => ?_); refine goes_ Try.func102 (by kernel_rfl) rfl #[.int .i64 ji5, .int .i64 (wrap64 (kh (wrap64 (a0_1 + 7)) 8))] (by rfl) rfl rfl (by (try simp only [kf, ke, kd]); rfl) ?_; with_reducible refine (spec_l4Bytes.calls k ji5 (wrap64 (kh (wrap64 (a0_1 + 7)) 8)) t141 _ A6.1).mono ?_; rintro e w12 ⟨rfl, hb⟩; refine ⟨_, rfl, ?_⟩; replace zA := ky (zs (g := gb139) (o := .cells #[.int .i64 a0_0, .int .i64 a0_1] 35 (0, 0)) zA.1 hb); replace HB := ky (zg HB.1 hb); refine hK.out _ _ ⟨(zd zA.1 0).trans rfl, (zd zA.1 1).trans rfl⟩ (fun hHeld => ?_); clear hK K; refine norm_ (a' := ?_) ?_ ?_; rotate_left
   ·
    show kg _ (some 19) _ = _
    simp only [kg, kz, kj, kk, zk, zn]; rfl
   refine zu (i := 12) (N := some 20) (v := ?_) (a' := ?_) #[kp,kp,kp,kp,kp,kp,kp,kp,kp,kp,kp,kp,kp,kn] rfl rfl (zq HT_.1 (by kernel_rfl)) (fun _ _ _ h => h) (kc ⟨by rfl, ?_⟩) ?_ ?_; rotate_left; · intro w'; go_simp; with_reducible rfl
   rotate_left; · simp only [kg, kz, kj, kk, zk, zn]; rfl
   refine zu (i := 13) (N := some 2) (v := ?_) (a' := ?_) #[kp,kp,kp,kp,kp,kp,kp,kp,kp,kp,kp,kp,kp,kp] rfl rfl (zq HT_.1 (by kernel_rfl)) (fun _ _ _ h => h) (kc ⟨by rfl, ?_⟩) ?_ ?_; rotate_left; · intro w'; go_simp; with_reducible rfl
   rotate_left; · simp only [kg, kz, kj, kk, zk, zn]; rfl
   refine done_ (done_of HT_.1 (by kernel_rfl)) ?_; try go_wp2
   go_ret; exact ⟨by rfl, by exact HB.1⟩
  · rw [if_neg c7] at H; exact absurd H (by simp)
 · rw [if_neg c4] at H; exact absurd H (by simp)

/-! ### spec_PrefixBytes: function 17 -/
def spec_PrefixBytes.f (k : Nat) (a0_0 : Int) (a0_1 : Int) : Option (ByteArray × Bool) := (spec_GoodPrefix.f a0_0 a0_1).bind fun t143 => (if t143 = true then ((spec_l4Prefix.f k a0_0 a0_1).bind fun t144 => (some (t144, true))) else (some ((⟨#[]⟩ : ByteArray), false)))
theorem spec_PrefixBytes.mono : ∀ a0 a1 k, LeO (spec_PrefixBytes.f k a0 a1) (spec_PrefixBytes.f (k + 1) a0 a1) := by
 intro a0 a1 k; unfold spec_PrefixBytes.f
 repeat' first
   | (with_reducible exact spec_l4Prefix.mono _ _ _)
   | (with_reducible exact zv _)
   | (with_reducible refine zo ?_ ?_)
   | (with_reducible refine zm ?_ (fun _ => ?_))
theorem spec_PrefixBytes.calls (k : Nat) (a0_0 : Int) (a0_1 : Int) (r1 : ByteArray) (r2 : Bool) (w : World) (h : spec_PrefixBytes.f k a0_0 a0_1 = some (r1, r2)) :
  Calls km 17 #[.agg #[.int .i64 a0_0, .int .i64 a0_1]] w fun e w' => e = .returned (.tuple #[.string r1, .bool r2]) ∧ Below w.heap.size w w' := by
 have hu35 := kx; have HB := ky (Below.refl w.heap.size w); have H : ((spec_GoodPrefix.f a0_0 a0_1).bind fun t143 => (if t143 = true then ((spec_l4Prefix.f k a0_0 a0_1).bind fun t144 => (some (t144, true))) else (some ((⟨#[]⟩ : ByteArray), false)))) = some (r1, r2) := h; clear h; replace H := kv.mp H; obtain ⟨t143, A20, H⟩ := H; replace H : (if t143 = true then ((spec_l4Prefix.f k a0_0 a0_1).bind fun t144 => (some (t144, true))) else (some ((⟨#[]⟩ : ByteArray), false))) = some (r1, r2) := H; have A2 := ky A20; clear A20; by_cases c3 : t143 = true
 ·
  subst c3; have H1 : ((spec_l4Prefix.f k a0_0 a0_1).bind fun t144 => (some (t144, true))) = some (r1, r2) := by rw [if_pos rfl] at H; exact H
  clear H; have H := H1; clear H1; replace H := kv.mp H; obtain ⟨t144, A40, H⟩ := H; replace H : (some (t144, true)) = some (r1, r2) := H; have A4 := ky A40; clear A40; simp only [ku, Prod.mk.injEq] at H; obtain ⟨rfl, rfl⟩ := H; go_enter Try.func17, Try.ntmps17; go_wp2_with (first | ((with_reducible refine zj (N := 1) rfl ?_); refine zi ?hg (N := 1) ?hd (cs := #[.int .i64 a0_0, .int .i64 a0_1]) (t := 35) ?hr ?_; (case hd => rfl); (case hg => rfl); (case hr => (go_simp; done)); intro gb142 hg w5 hbox hb; replace HB := ky (zg HB.1 hb); have zy := ky hbox; clear hb hbox hg; have hcz6_0 : w5.cell? ⟨gb142, 0, none⟩ = some (.int .i64 a0_0) := (zd zy.1 0).trans rfl; have hcz6_1 : w5.cell? ⟨gb142, 1, none⟩ = some (.int .i64 a0_1) := (zd zy.1 1).trans rfl; have hfz6_0 := zf zy.1 0; have hfz6_1 := zf zy.1 1) | ((with_reducible refine gate_callee (f := 56) rfl ?_); refine goesL_ (some 5) rfl rfl Try.func56 (by kernel_rfl) rfl #[.agg #[.int .i64 a0_0, .int .i64 a0_1]] rfl (by (try simp only [kf, ke, kd]); rfl) ?_; (with_reducible refine (spec_GoodPrefix.calls a0_0 a0_1 true _ A2.1).mono ?_); rintro e w7 ⟨rfl, hb⟩; refine ⟨_, rfl, ?_⟩; replace zy := ky (zs (g := gb142) (o := .cells #[.int .i64 a0_0, .int .i64 a0_1] 35 (0, 0)) zy.1 hb); replace HB := ky (zg HB.1 hb); have hcz8_0 : w7.cell? ⟨gb142, 0, none⟩ = some (.int .i64 a0_0) := (zd zy.1 0).trans rfl; have hcz8_1 : w7.cell? ⟨gb142, 1, none⟩ = some (.int .i64 a0_1) := (zd zy.1 1).trans rfl; have hfz8_0 := zf zy.1 0; have hfz8_1 := zf zy.1 1) | ((with_reducible refine gate_callee (f := 57) rfl ?_); refine goesL_ (some 8) rfl rfl Try.func57 (by kernel_rfl) rfl #[.agg #[.int .i64 a0_0, .int .i64 a0_1]] rfl (by (try simp only [kf, ke, kd]); rfl) ?_; (with_reducible refine (spec_l4Prefix.calls k a0_0 a0_1 t144 _ A4.1).mono ?_); rintro e w9 ⟨rfl, hb⟩; refine ⟨_, rfl, ?_⟩; replace zy := ky (zs (g := gb142) (o := .cells #[.int .i64 a0_0, .int .i64 a0_1] 35 (0, 0)) zy.1 hb); replace HB := ky (zg HB.1 hb); (try clear hi))); go_ret2; exact ⟨by rfl, by exact HB.1⟩
 ·
  replace c3 := ks.mpr c3; subst c3; have H1 : (some ((⟨#[]⟩ : ByteArray), false)) = some (r1, r2) := by rw [if_neg (show ¬ (false = true) by decide)] at H; exact H
  clear H; have H := H1; clear H1; simp only [ku, Prod.mk.injEq] at H; obtain ⟨rfl, rfl⟩ := H; go_enter Try.func17, Try.ntmps17; go_wp2_with (first | ((with_reducible refine zj (N := 1) rfl ?_); refine zi ?hg (N := 1) ?hd (cs := #[.int .i64 a0_0, .int .i64 a0_1]) (t := 35) ?hr ?_; (case hd => rfl); (case hg => rfl); (case hr => (go_simp; done)); intro gb142 hg w10 hbox hb; replace HB := ky (zg HB.1 hb); have zy := ky hbox; clear hb hbox hg; have hcz11_0 : w10.cell? ⟨gb142, 0, none⟩ = some (.int .i64 a0_0) := (zd zy.1 0).trans rfl; have hcz11_1 : w10.cell? ⟨gb142, 1, none⟩ = some (.int .i64 a0_1) := (zd zy.1 1).trans rfl; have hfz11_0 := zf zy.1 0; have hfz11_1 := zf zy.1 1) | ((with_reducible refine gate_callee (f := 56) rfl ?_); refine goesL_ (some 5) rfl rfl Try.func56 (by kernel_rfl) rfl #[.agg #[.int .i64 a0_0, .int .i64 a0_1]] rfl (by (try simp only [kf, ke, kd]); rfl) ?_; (with_reducible refine (spec_GoodPrefix.calls a0_0 a0_1 false _ A2.1).mono ?_); rintro e w12 ⟨rfl, hb⟩; refine ⟨_, rfl, ?_⟩; replace HB := ky (zg HB.1 hb); (try clear hi))); go_ret2; exact ⟨by rfl, by exact HB.1⟩

/-! ### impl_sizeOf: function 103 -/
def impl_sizeOf.f (a0 : Int) : Option (Int) := if 0 ≤ (wrap64 (32 - a0)) then (some (shl .i64 1 (wrap64 (32 - a0)))) else (none)
theorem impl_sizeOf.calls (a0 : Int) (r : Int) (w : World) (h : impl_sizeOf.f a0 = some r) :
  Calls km 103 #[.int .i64 a0] w fun e w' => e = .returned (.int .i64 r) ∧ Drawn0 w w' := by
 have H : (if 0 ≤ (wrap64 (32 - a0)) then (some (shl .i64 1 (wrap64 (32 - a0)))) else (none)) = some r := h; clear h; obtain ⟨ji2, hji2⟩ : ∃ j_ : Int, (wrap64 (32 - a0)) = j_ := ⟨_, rfl⟩
 replace H : (if 0 ≤ (ji2) then (some (shl .i64 1 (ji2))) else (none)) = some r := by (rw [hji2] at H; exact H)
 have hji2w : (IntKind.i64.wrap (32 - a0)) = ji2 := (zk _).trans hji2; by_cases c3 : 0 ≤ (ji2)
 ·
  rw [if_pos c3] at H; have c3b0 := eq_true c3; have c3b1 : decide (0 ≤ (ji2)) = true := decide_eq_true c3; clear c3; obtain ⟨ji4, hji4⟩ : ∃ j_ : Int, (shl .i64 1 (ji2)) = j_ := ⟨_, rfl⟩
  replace H : (some ji4) = some r := by (rw [hji4] at H; exact H)
  have hji4_ : (IntKind.i64.wrap (1 * 2 ^ min (ji2).toNat 64)) = ji4 := hji4; have hji4z : (ji2) ≤ 64 → (IntKind.i64.wrap (1 * 2 ^ (ji2).toNat)) = ji4 := shl_small hji4; have hji4u : (IntKind.i64.wrap (2 ^ min (ji2).toNat 64)) = ji4 := by have h_ := hji4_; rw [Int.one_mul] at h_; exact h_
  have hji4v : (ji2) ≤ 64 → (IntKind.i64.wrap (2 ^ (ji2).toNat)) = ji4 := fun hle_ => by have h_ := hji4z hle_; rw [Int.one_mul] at h_; exact h_
  have hji4y : (wrap64 (1 * 2 ^ min (ji2).toNat 64)) = ji4 := (zk _).symm.trans hji4_; have hji4x : (ji2) ≤ 64 → (wrap64 (1 * 2 ^ (ji2).toNat)) = ji4 := fun h_ => (zk _).symm.trans (hji4z h_)
  obtain rfl := kb H; go_enter Try.func103, Try.ntmps103; go_wp2; go_ret; exact ⟨by rfl, by repeat (exact Drawn0.refl _)⟩
 · rw [if_neg c3] at H; exact absurd H (by simp)

/-! ### impl_GoodPrefix: function 58 -/
def impl_GoodPrefix.f (a0_0 : Int) (a0_1 : Int) : Option (Bool) := (impl_within.f a0_1 0 32).bind fun t146 => (if t146 = true then ((impl_isAddr.f a0_0).bind fun t147 => (if t147 = true then ((impl_sizeOf.f a0_1).bind fun t148 => (if t148 = 0 then (none) else (some ((kr a0_0 t148) == 0)))) else (some false))) else (some false))
theorem impl_GoodPrefix.calls (a0_0 : Int) (a0_1 : Int) (r : Bool) (w : World) (h : impl_GoodPrefix.f a0_0 a0_1 = some r) :
  Calls km 58 #[.agg #[.int .i64 a0_0, .int .i64 a0_1]] w fun e w' => e = .returned (.bool r) ∧ Below w.heap.size w w' := by
 have hu35 := kx; have HB := ky (Below.refl w.heap.size w); have H : ((impl_within.f a0_1 0 32).bind fun t146 => (if t146 = true then ((impl_isAddr.f a0_0).bind fun t147 => (if t147 = true then ((impl_sizeOf.f a0_1).bind fun t148 => (if t148 = 0 then (none) else (some ((kr a0_0 t148) == 0)))) else (some false))) else (some false))) = some r := h; clear h; replace H := kv.mp H; obtain ⟨t146, A20, H⟩ := H; replace H : (if t146 = true then ((impl_isAddr.f a0_0).bind fun t147 => (if t147 = true then ((impl_sizeOf.f a0_1).bind fun t148 => (if t148 = 0 then (none) else (some ((kr a0_0 t148) == 0)))) else (some false))) else (some false)) = some r := H; have A2 := ky A20; clear A20; by_cases c3 : t146 = true
 ·
  subst c3; have H1 : ((impl_isAddr.f a0_0).bind fun t147 => (if t147 = true then ((impl_sizeOf.f a0_1).bind fun t148 => (if t148 = 0 then (none) else (some ((kr a0_0 t148) == 0)))) else (some false))) = some r := by rw [if_pos rfl] at H; exact H
  clear H; have H := H1; clear H1; replace H := kv.mp H; obtain ⟨t147, A40, H⟩ := H; replace H : (if t147 = true then ((impl_sizeOf.f a0_1).bind fun t148 => (if t148 = 0 then (none) else (some ((kr a0_0 t148) == 0)))) else (some false)) = some r := H; have A4 := ky A40; clear A40; by_cases c5 : t147 = true
  ·
   subst c5; have H1 : ((impl_sizeOf.f a0_1).bind fun t148 => (if t148 = 0 then (none) else (some ((kr a0_0 t148) == 0)))) = some r := by rw [if_pos rfl] at H; exact H
   clear H; have H := H1; clear H1; replace H := kv.mp H; obtain ⟨t148, A60, H⟩ := H; replace H : (if t148 = 0 then (none) else (some ((kr a0_0 t148) == 0))) = some r := H; have A6 := ky A60; clear A60; by_cases c7 : t148 = 0; · rw [if_pos c7] at H; exact absurd H (by simp)
   ·
    rw [if_neg c7] at H; have c7b0 : (t148 == 0) = false := beq_eq_false_iff_ne.mpr c7; have c7b1 : (t148 != 0) = true := bne_iff_ne.mpr c7; obtain rfl := kb H; go_enter Try.func58, Try.ntmps58; go_wp2_with (((with_reducible refine zj (N := 1) rfl ?_); refine zi ?hg (N := 1) ?hd (cs := #[.int .i64 a0_0, .int .i64 a0_1]) (t := 35) ?hr ?_; (case hd => rfl); (case hg => rfl); (case hr => (go_simp; done)); intro gb145 hg w8 hbox hb; replace HB := ky (zg HB.1 hb); have zx := ky hbox; clear hb hbox hg; have hcz9_0 : w8.cell? ⟨gb145, 0, none⟩ = some (.int .i64 a0_0) := (zd zx.1 0).trans rfl; have hcz9_1 : w8.cell? ⟨gb145, 1, none⟩ = some (.int .i64 a0_1) := (zd zx.1 1).trans rfl; have hfz9_0 := zf zx.1 0; have hfz9_1 := zf zx.1 1)); repeat (go_quiet (first | (go_at_call 50; (with_reducible refine (impl_within.calls a0_1 0 32 true _ A2.1).mono ?_); rintro e w' ⟨rfl, ⟨nd, rfl⟩⟩; (try exact ⟨rfl, _, ko _ _ _⟩)) | (go_at_call 52; (with_reducible refine (impl_isAddr.calls a0_0 true _ A4.1).mono ?_); rintro e w' ⟨rfl, ⟨nd, rfl⟩⟩; (try exact ⟨rfl, _, ko _ _ _⟩)) | (go_at_call 103; (with_reducible refine (impl_sizeOf.calls a0_1 t148 _ A6.1).mono ?_); rintro e w' ⟨rfl, ⟨nd, rfl⟩⟩; (try exact ⟨rfl, _, ko _ _ _⟩))); try go_wp2_with (fail))
    go_ret; exact ⟨by rfl, by repeat ((with_reducible first | exact HB.1 | apply za))⟩
  ·
   replace c5 := ks.mpr c5; subst c5; have H1 : (some false) = some r := by rw [if_neg (show ¬ (false = true) by decide)] at H; exact H
   clear H; have H := H1; clear H1; obtain rfl := kb H; go_enter Try.func58, Try.ntmps58; go_wp2_with (((with_reducible refine zj (N := 1) rfl ?_); refine zi ?hg (N := 1) ?hd (cs := #[.int .i64 a0_0, .int .i64 a0_1]) (t := 35) ?hr ?_; (case hd => rfl); (case hg => rfl); (case hr => (go_simp; done)); intro gb145 hg w10 hbox hb; replace HB := ky (zg HB.1 hb); have zx := ky hbox; clear hb hbox hg; have hcz11_0 : w10.cell? ⟨gb145, 0, none⟩ = some (.int .i64 a0_0) := (zd zx.1 0).trans rfl; have hcz11_1 : w10.cell? ⟨gb145, 1, none⟩ = some (.int .i64 a0_1) := (zd zx.1 1).trans rfl; have hfz11_0 := zf zx.1 0; have hfz11_1 := zf zx.1 1)); repeat (go_quiet (first | (go_at_call 50; (with_reducible refine (impl_within.calls a0_1 0 32 true _ A2.1).mono ?_); rintro e w' ⟨rfl, ⟨nd, rfl⟩⟩; (try exact ⟨rfl, _, ko _ _ _⟩)) | (go_at_call 52; (with_reducible refine (impl_isAddr.calls a0_0 false _ A4.1).mono ?_); rintro e w' ⟨rfl, ⟨nd, rfl⟩⟩; (try exact ⟨rfl, _, ko _ _ _⟩))); try go_wp2_with (fail))
   go_ret; exact ⟨by rfl, by repeat ((with_reducible first | exact HB.1 | apply za))⟩
 ·
  replace c3 := ks.mpr c3; subst c3; have H1 : (some false) = some r := by rw [if_neg (show ¬ (false = true) by decide)] at H; exact H
  clear H; have H := H1; clear H1; obtain rfl := kb H; go_enter Try.func58, Try.ntmps58; go_wp2_with (((with_reducible refine zj (N := 1) rfl ?_); refine zi ?hg (N := 1) ?hd (cs := #[.int .i64 a0_0, .int .i64 a0_1]) (t := 35) ?hr ?_; (case hd => rfl); (case hg => rfl); (case hr => (go_simp; done)); intro gb145 hg w12 hbox hb; replace HB := ky (zg HB.1 hb); have zx := ky hbox; clear hb hbox hg; have hcz13_0 : w12.cell? ⟨gb145, 0, none⟩ = some (.int .i64 a0_0) := (zd zx.1 0).trans rfl; have hcz13_1 : w12.cell? ⟨gb145, 1, none⟩ = some (.int .i64 a0_1) := (zd zx.1 1).trans rfl; have hfz13_0 := zf zx.1 0; have hfz13_1 := zf zx.1 1)); repeat (go_quiet ((go_at_call 50; (with_reducible refine (impl_within.calls a0_1 0 32 false _ A2.1).mono ?_); rintro e w' ⟨rfl, ⟨nd, rfl⟩⟩; (try exact ⟨rfl, _, ko _ _ _⟩))); try go_wp2_with (fail))
  go_ret; exact ⟨by rfl, by repeat ((with_reducible first | exact HB.1 | apply za))⟩

/-! ### impl_bytesOf: function 104 -/
def impl_bytesOf.l0 : Nat → Int → List Int → Int → Option (ByteArray)
 | 0, _, _, _ => none
 | k + 1, x0, x5, x6 => if x6 ≥ 0 then (if 0 ≤ (wrap64 (8 * x6)) then (if x5.length < 140737488355328 then (impl_bytesOf.l0 k x0 (x5 ++ [(shr .i64 x0 (wrap64 (8 * x6))) % 256]) (wrap64 (x6 - 1))) else (none)) else (none)) else (some (strOfNums x5))
def impl_bytesOf.f (k : Nat) (a0 : Int) (a1 : Int) : Option (ByteArray) := impl_bytesOf.l0 k a0 (([] : List Int)) (wrap64 (a1 - 1))
theorem impl_bytesOf.mono_l : ∀ k, (∀ y0 y1 y2, LeO (impl_bytesOf.l0 k y0 y1 y2) (impl_bytesOf.l0 (k + 1) y0 y1 y2))
 | 0 => fun _ _ _ r h => by simp [impl_bytesOf.l0] at h
 | k + 1 => by
  have ih0 := impl_bytesOf.mono_l k
  ·
   intro y0 y1 y2; unfold impl_bytesOf.l0; repeat' first
   | (with_reducible exact ih0 _ _ _)
   | (with_reducible exact zv _)
   | (with_reducible refine zo ?_ ?_)
theorem impl_bytesOf.mono : ∀ a0 a1 k, LeO (impl_bytesOf.f k a0 a1) (impl_bytesOf.f (k + 1) a0 a1) := by
 intro a0 a1 k; have ih0 := impl_bytesOf.mono_l k; unfold impl_bytesOf.f
 repeat' first
   | (with_reducible exact ih0 _ _ _)
theorem impl_bytesOf.calls (k : Nat) (a0 : Int) (a1 : Int) (r : ByteArray) (w : World) (h : impl_bytesOf.f k a0 a1 = some r) :
  Calls km 104 #[.int .i64 a0, .int .i64 a1] w fun e w' => e = .returned (.string r) ∧ Below w.heap.size w w' := by
 have HB := ky (Below.refl w.heap.size w); have H : (impl_bytesOf.l0 k a0 (([] : List Int)) (wrap64 (a1 - 1))) = some r := h; clear h; obtain ⟨y149, hy149⟩ : ∃ y_ : List Int, y_ = (([] : List Int)) := ⟨_, rfl⟩
 replace H : (impl_bytesOf.l0 k a0 y149 (wrap64 (a1 - 1))) = some r := by (rw [hy149]; with_reducible exact H)
 have Ny149 := ky hy149; clear hy149; have H' := ky H; clear H; go_enter Try.func104, Try.ntmps104; go_wp2_with (((with_reducible refine zj (N := 7) rfl ?_); refine Kd.R_lit (Kd.int .u8) _ 5 ?hg (N := 7) ?hd (xs := ([] : List Int)) (inner := []) (ok := fun _ => True) (okp := fun _ => True) ?hr ?hp (fun _ hk => hk) trivial (Below.refl _ _) (Nat.le_refl _) (by simp) ?_; (case hd => rfl); (case hg => rfl); (case hr => (go_simp; done)); (case hp => exact (Reps.none _ _)); intro v150 w3 ho4 hb hg_ hnew_; clear hg_ hnew_; (rw [← Ny149.1] at ho4); have HO151 := ky (Kd.R_lower ho4 (ze HB.1)); replace HB := ky (zg HB.1 hb); clear hb ho4)); go_loopg [5, 6] k (fun kq v5 v6 w' => ∃ (x5_1 : List Int) (x6_1 : Int), v6 = .int .i64 x6_1 ∧ zw (impl_bytesOf.l0 kq a0 x5_1 x6_1 = some r) ∧ zw (kq ≤ k) ∧ zw (Kd.R (Kd.int .u8) 5 w' w.heap.size (fun _ => True) v5 x5_1) ∧ zw (Below w.heap.size w w')); case atStart => exact ⟨(y149), (wrap64 (a1 - 1)), (by rfl), H', ⟨Nat.le_refl _⟩, ⟨by exact HO151.1⟩, ⟨by exact HB.1⟩⟩
 case round =>
  clear H'; obtain ⟨x5_1, x6_1, rfl, HA, HK1, HO_5, HB⟩ := hrel; cases gk with
  | zero => exact absurd HA.1 (by simp [impl_bytesOf.l0])
  | succ k1 =>
   have H := HA.1; clear HA; simp only [impl_bytesOf.l0] at H; by_cases c5 : x6_1 ≥ 0
   ·
    rw [if_pos c5] at H; have c5b0 : decide (0 ≤ x6_1) = true := decide_eq_true c5; clear c5; obtain ⟨ji6, hji6⟩ : ∃ j_ : Int, (wrap64 (8 * x6_1)) = j_ := ⟨_, rfl⟩
    replace H : (if 0 ≤ (ji6) then (if x5_1.length < 140737488355328 then (impl_bytesOf.l0 k1 a0 (x5_1 ++ [(shr .i64 a0 (ji6)) % 256]) (wrap64 (x6_1 - 1))) else (none)) else (none)) = some r := by (rw [hji6] at H; exact H)
    have hji6w : (IntKind.i64.wrap (8 * x6_1)) = ji6 := (zk _).trans hji6; by_cases c7 : 0 ≤ (ji6)
    ·
     rw [if_pos c7] at H; have c7b0 := eq_true c7; have c7b1 : decide (0 ≤ (ji6)) = true := decide_eq_true c7; clear c7; obtain ⟨ji8, hji8⟩ : ∃ j_ : Int, (shr .i64 a0 (ji6)) = j_ := ⟨_, rfl⟩
     replace H : (if x5_1.length < 140737488355328 then (impl_bytesOf.l0 k1 a0 (x5_1 ++ [(ji8) % 256]) (wrap64 (x6_1 - 1))) else (none)) = some r := by (rw [hji8] at H; exact H)
     have hji8_ : (a0 / 2 ^ min (ji6).toNat 64) = ji8 := hji8; have hji8z : (ji6) ≤ 64 → (a0 / 2 ^ (ji6).toNat) = ji8 := shr_small hji8; by_cases c9 : x5_1.length < 140737488355328
     ·
      rw [if_pos c9] at H; have LMc9 := ky c9; clear c9; obtain ⟨y152, hy152⟩ : ∃ y_ : List Int, y_ = (x5_1 ++ [(ji8) % 256]) := ⟨_, rfl⟩
      replace H : (impl_bytesOf.l0 k1 a0 y152 (wrap64 (x6_1 - 1))) = some r := by (rw [hy152]; with_reducible exact H)
      have Ny152 := ky hy152; clear hy152; have H' := ky H; clear H; go_wp2_with (((with_reducible refine gate_builtin (b := .append) (xs := #[.tmp 14, .tmp 20]) rfl ?_); at_builtin; refine Kd.R_append (Kd.int .u8) (w0 := w) w.heap.size rfl (.tmp 14) (.tmp 20) 62 5 (.int .u8 0) 1 rfl kt info5 rfl (by decide) (by omega) u5 x5_1 ((ji8) % 256) [.int .u8 ((ji8) % 256)] (fun _ => True) (fun _ => False) rfl rfl ?aP (fun _ hk => hk.elim) ?aF ?aO ?aB ?aS ?aL ?_; (case aP => exact rfl); (case aB => exact HB.1); (case aF => exact (fun _ _ => trivial)); (case aO => exact HO_5.1); (case aS => exact (ze HB.1)); (case aL => have := LMc9.1; omega); intro v153 w10 ho hb hg hat; rw [← Ny152.1] at ho; replace HB := ky hb; have HO154 := ky ho; clear ho hb hg hat)); go_roundg k1; case measure => have := HK1.1; omega
      case rel => exact ⟨(y152), (wrap64 (x6_1 - 1)), (by rfl), H', ⟨by have := HK1.1; omega⟩, ⟨by exact HO154.1⟩, ⟨by exact HB.1⟩⟩
     · rw [if_neg c9] at H; exact absurd H (by simp)
    · rw [if_neg c7] at H; exact absurd H (by simp)
   · rw [if_neg c5] at H; have c5b0 : decide (0 ≤ x6_1) = false := decide_eq_false c5; clear c5; obtain rfl := kb H; have hcv11 := own_string (P := km) kt Try.underlying5 Try.underlying9 (Kd.own_of_R HO_5.1); go_wp2; go_ret; exact ⟨by rfl, by exact HB.1⟩

/-! ### impl_prefixBytes: function 59 -/
def impl_prefixBytes.f (k : Nat) (a0_0 : Int) (a0_1 : Int) : Option (ByteArray) := (impl_bytesOf.f k a0_1 1).bind fun t156 => ((impl_bytesOf.f k a0_0 4).bind fun t157 => (if 0 ≤ (wrap64 (kh (wrap64 (a0_1 + 7)) 8)) then (if (wrap64 (kh (wrap64 (a0_1 + 7)) 8)) ≤ (t157.size : Int) then (if t156.size + (t157.extract 0 ((wrap64 (kh (wrap64 (a0_1 + 7)) 8)) : Int).toNat).size ≤ 9223372036854775807 then (some (t156 ++ (t157.extract 0 ((wrap64 (kh (wrap64 (a0_1 + 7)) 8)) : Int).toNat))) else (none)) else (none)) else (none)))
theorem impl_prefixBytes.mono : ∀ a0 a1 k, LeO (impl_prefixBytes.f k a0 a1) (impl_prefixBytes.f (k + 1) a0 a1) := by
 intro a0 a1 k; unfold impl_prefixBytes.f
 repeat' first
   | (with_reducible exact impl_bytesOf.mono _ _ _)
   | (with_reducible exact zv _)
   | (with_reducible refine zm ?_ (fun _ => ?_))
def impl_prefixBytes.T1 : Bool × List (List Nat × List Nat) := (true, [([], []), ([0], [0]), ([1], [1]), ([], []), ([3], [3]), ([4, 2], [4]), ([], []), ([6], [6]), ([7], [7]), ([8], [8]), ([5, 9], [5, 9]), ([2, 10], [2, 10]), ([11, 5, 0, 1, 2, 3, 4, 5, 6, 7, 8, 9, 10, 11], [11])])
def impl_prefixBytes.B1 : List Nat := [0, 1, 3, 0, 8, 31, 0, 64, 192, 448, 1023, 2047, 4095]
theorem impl_prefixBytes.tab1 : rtab .any (opsOf Try.f59 1) = impl_prefixBytes.T1 := by kernel_rfl
theorem impl_prefixBytes.bits1 : waitsOk impl_prefixBytes.T1.2 impl_prefixBytes.B1 = true := by kernel_rfl
theorem impl_prefixBytes.calls (k : Nat) (a0_0 : Int) (a0_1 : Int) (r : ByteArray) (w : World) (h : impl_prefixBytes.f k a0_0 a0_1 = some r) :
  Calls km 59 #[.agg #[.int .i64 a0_0, .int .i64 a0_1]] w fun e w' => e = .returned (.string r) ∧ Below w.heap.size w w' := by
 have hu35 := kx; have HB := ky (Below.refl w.heap.size w); have H : ((impl_bytesOf.f k a0_1 1).bind fun t156 => ((impl_bytesOf.f k a0_0 4).bind fun t157 => (if 0 ≤ (wrap64 (kh (wrap64 (a0_1 + 7)) 8)) then (if (wrap64 (kh (wrap64 (a0_1 + 7)) 8)) ≤ (t157.size : Int) then (if t156.size + (t157.extract 0 ((wrap64 (kh (wrap64 (a0_1 + 7)) 8)) : Int).toNat).size ≤ 9223372036854775807 then (some (t156 ++ (t157.extract 0 ((wrap64 (kh (wrap64 (a0_1 + 7)) 8)) : Int).toNat))) else (none)) else (none)) else (none)))) = some r := h; clear h; replace H := kv.mp H; obtain ⟨t156, A20, H⟩ := H; replace H : ((impl_bytesOf.f k a0_0 4).bind fun t157 => (if 0 ≤ (wrap64 (kh (wrap64 (a0_1 + 7)) 8)) then (if (wrap64 (kh (wrap64 (a0_1 + 7)) 8)) ≤ (t157.size : Int) then (if t156.size + (t157.extract 0 ((wrap64 (kh (wrap64 (a0_1 + 7)) 8)) : Int).toNat).size ≤ 9223372036854775807 then (some (t156 ++ (t157.extract 0 ((wrap64 (kh (wrap64 (a0_1 + 7)) 8)) : Int).toNat))) else (none)) else (none)) else (none))) = some r := H; have A2 := ky A20; clear A20; replace H := kv.mp H; obtain ⟨t157, A30, H⟩ := H; replace H : (if 0 ≤ (wrap64 (kh (wrap64 (a0_1 + 7)) 8)) then (if (wrap64 (kh (wrap64 (a0_1 + 7)) 8)) ≤ (t157.size : Int) then (if t156.size + (t157.extract 0 ((wrap64 (kh (wrap64 (a0_1 + 7)) 8)) : Int).toNat).size ≤ 9223372036854775807 then (some (t156 ++ (t157.extract 0 ((wrap64 (kh (wrap64 (a0_1 + 7)) 8)) : Int).toNat))) else (none)) else (none)) else (none)) = some r := H; have A3 := ky A30; clear A30; obtain ⟨ji4, hji4⟩ : ∃ j_ : Int, (wrap64 (kh (wrap64 (a0_1 + 7)) 8)) = j_ := ⟨_, rfl⟩
 replace H : (if 0 ≤ (ji4) then (if (ji4) ≤ (t157.size : Int) then (if t156.size + (t157.extract 0 ((ji4) : Int).toNat).size ≤ 9223372036854775807 then (some (t156 ++ (t157.extract 0 ((ji4) : Int).toNat))) else (none)) else (none)) else (none)) = some r := by (rw [hji4] at H; exact H)
 (try rw [hji4] at A2); (try rw [hji4] at A3); have hji4w : (IntKind.i64.wrap (kh (wrap64 (a0_1 + 7)) 8)) = ji4 := (zk _).trans hji4; by_cases c5 : 0 ≤ (ji4)
 ·
  rw [if_pos c5] at H; have c5b0 := eq_true c5; have c5b1 : decide (0 ≤ (ji4)) = true := decide_eq_true c5; clear c5; by_cases c6 : (ji4) ≤ (t157.size : Int)
  ·
   rw [if_pos c6] at H; have c6b0 := eq_true c6; have c6b1 : decide ((ji4) ≤ (t157.size : Int)) = true := decide_eq_true c6; clear c6; by_cases c7 : t156.size + (t157.extract 0 ((ji4) : Int).toNat).size ≤ 9223372036854775807
   ·
    rw [if_pos c7] at H; have c7b0 := eq_true c7; have c7b1 : decide (t156.size + (t157.extract 0 ((ji4) : Int).toNat).size ≤ 9223372036854775807) = true := decide_eq_true c7; try have c7b2 : (9223372036854775807 < t156.size + (t157.extract 0 ((ji4) : Int).toNat).size) = False := eq_false (Nat.not_lt.2 c7)
    try have c7b3 : (9223372036854775807 < t156.size + ((ji4) : Int).toNat) = False := eq_false (by simp only [eq_iff_iff, iff_true, iff_false] at *; simp only [ByteArray.size_extract] at c7; omega)
    obtain rfl := kb H; go_enter Try.func59, Try.ntmps59; try go_wp2_with (((with_reducible refine zj (N := 1) rfl ?_); refine zi ?hg (N := 1) ?hd (cs := #[.int .i64 a0_0, .int .i64 a0_1]) (t := 35) ?hr ?_; (case hd => rfl); (case hg => rfl); (case hr => (go_simp; done)); intro gb155 hg w8 hbox hb; replace HB := ky (zg HB.1 hb); have zB := ky hbox; clear hb hbox hg))
    replace zB := ky (zp zB.1); replace HB := ky (zb HB.1); refine start_ (n := 13) (S := fun w' => w'.cell? ⟨gb155, 0, none⟩ = some (.int .i64 a0_0) ∧ w'.cell? ⟨gb155, 1, none⟩ = some (.int .i64 a0_1)) (ds := []) #[kn,kn,kn,kn,kn,kn,kn,kn,kn,kn,kn,kn,kn] (by kernel_rfl) rfl rfl ⟨(zd zB.1 0).trans rfl, (zd zB.1 1).trans rfl⟩ (fun hHeld => ?_); refine with_tabW impl_prefixBytes.tab1 impl_prefixBytes.bits1 (fun HT_ HW_ => ?_); generalize w8.drew = w9 at zB HB hHeld ⊢; refine zu (i := 0) (N := some 3) (v := ?_) (a' := ?_) #[kp,kn,kn,kn,kn,kn,kn,kn,kn,kn,kn,kn,kn] rfl rfl (zq HT_.1 (by kernel_rfl)) (fun _ _ _ h => h) (kc ⟨by rfl, ?_⟩) ?_ ?_; rotate_left; · intro w'; go_simp; with_reducible rfl
    rotate_left; · simp only [kg, kz, kj, kk, zk, zn]; rfl
    refine zu (i := 3) (N := some 6) (v := ?_) (a' := ?_) #[kp,kn,kn,kp,kn,kn,kn,kn,kn,kn,kn,kn,kn] rfl rfl (zq HT_.1 (by kernel_rfl)) (fun _ _ _ h => h) (kc ⟨by rfl, ?_⟩) ?_ ?_; rotate_left; · intro w'; go_simp; with_reducible rfl
    rotate_left; · simp only [kg, kz, kj, kk, zk, zn]; rfl
    refine zu (i := 6) (N := some 9) (v := ?_) (a' := ?_) #[kp,kn,kn,kp,kn,kn,kp,kn,kn,kn,kn,kn,kn] rfl rfl (zq HT_.1 (by kernel_rfl)) (fun _ _ _ h => h) (kc ⟨by rfl, ?_⟩) ?_ ?_; rotate_left; · intro w'; go_simp; with_reducible rfl
    rotate_left; · simp only [kg, kz, kj, kk, zk, zn]; rfl
    refine take_ (i := 1) (N := some 4) (v := ?_) (a' := ?_) #[kp,kp,kn,kp,kn,kn,kp,kn,kn,kn,kn,kn,kn] rfl rfl (take_ofW HT_.1 HW_.1 (by kernel_rfl)) (fun _ _ _ h => h) (kc ⟨by rfl, ?_⟩) hHeld ?_ ?_; rotate_left; · rintro w' ⟨s0, s1⟩; go_simp; with_reducible rfl
    rotate_left; · simp only [kg, kz, kj, kk, zk, zn]; rfl
    refine take_ (i := 4) (N := some 7) (v := ?_) (a' := ?_) #[kp,kp,kn,kp,kp,kn,kp,kn,kn,kn,kn,kn,kn] rfl rfl (take_ofW HT_.1 HW_.1 (by kernel_rfl)) (fun _ _ _ h => h) (kc ⟨by rfl, ?_⟩) hHeld ?_ ?_; rotate_left; · rintro w' ⟨s0, s1⟩; go_simp; with_reducible rfl
    rotate_left; · simp only [kg, kz, kj, kk, zk, zn]; rfl
    refine take_ (i := 7) (N := some 10) (v := ?_) (a' := ?_) #[kp,kp,kn,kp,kp,kn,kp,kp,kn,kn,kn,kn,kn] rfl rfl (take_ofW HT_.1 HW_.1 (by kernel_rfl)) (fun _ _ _ h => h) (kc ⟨by rfl, ?_⟩) hHeld ?_ ?_; rotate_left; · rintro w' ⟨s0, s1⟩; go_simp; with_reducible rfl
    rotate_left; · simp only [kg, kz, kj, kk, zk, zn]; rfl
    refine zu (i := 8) (N := some 11) (v := ?_) (a' := ?_) #[kp,kp,kn,kp,kp,kn,kp,kp,kp,kn,kn,kn,kn] rfl rfl (zq HT_.1 (by kernel_rfl)) (fun _ _ _ h => h) (kc ⟨by rfl, ?_⟩) ?_ ?_; rotate_left; · intro w'; go_simp; with_reducible rfl
    rotate_left; · simp only [kg, kz, kj, kk, zk, zn]; rfl
    refine zu (i := 9) (N := some 12) (v := ?_) (a' := ?_) #[kp,kp,kn,kp,kp,kn,kp,kp,kp,kp,kn,kn,kn] rfl rfl (zq HT_.1 (by kernel_rfl)) (fun _ _ _ h => h) (kc ⟨by rfl, ?_⟩) ?_ ?_; rotate_left; · intro w'; go_simp; with_reducible rfl
    rotate_left; · simp only [kg, kz, kj, kk, zk, zn]; rfl
    refine one_ (i := 2) (N := some 5) #[kp,kp,kp,kp,kp,kn,kp,kp,kp,kp,kn,kn,kn] rfl rfl (one_of HT_.1 (by kernel_rfl)) (by decide) (fun K hK => ?_); refine goes_ Try.func104 (by kernel_rfl) rfl #[.int .i64 a0_1, .int .i64 1] (by rfl) rfl rfl (by (try simp only [kf, ke, kd]); rfl) ?_; with_reducible refine (impl_bytesOf.calls k a0_1 1 t156 _ A2.1).mono ?_; rintro e w10 ⟨rfl, hb⟩; refine ⟨_, rfl, ?_⟩; replace zB := ky (zs (g := gb155) (o := .cells #[.int .i64 a0_0, .int .i64 a0_1] 35 (0, 0)) zB.1 hb); replace HB := ky (zg HB.1 hb); refine hK.out _ _ ⟨(zd zB.1 0).trans rfl, (zd zB.1 1).trans rfl⟩ (fun hHeld => ?_); clear hK K; refine norm_ (a' := ?_) ?_ ?_; rotate_left
    ·
     show kg _ (some 5) _ = _
     simp only [kg, kz, kj, kk, zk, zn]; rfl
    refine one_ (i := 5) (N := some 8) #[kp,kp,kp,kp,kp,kp,kp,kp,kp,kp,kn,kn,kn] rfl rfl (one_of HT_.1 (by kernel_rfl)) (by decide) (fun K hK => ?_); refine goes_ Try.func104 (by kernel_rfl) rfl #[.int .i64 a0_0, .int .i64 4] (by rfl) rfl rfl (by (try simp only [kf, ke, kd]); rfl) ?_; with_reducible refine (impl_bytesOf.calls k a0_0 4 t157 _ A3.1).mono ?_; rintro e w11 ⟨rfl, hb⟩; refine ⟨_, rfl, ?_⟩; replace zB := ky (zs (g := gb155) (o := .cells #[.int .i64 a0_0, .int .i64 a0_1] 35 (0, 0)) zB.1 hb); replace HB := ky (zg HB.1 hb); refine hK.out _ _ ⟨(zd zB.1 0).trans rfl, (zd zB.1 1).trans rfl⟩ (fun hHeld => ?_); clear hK K; refine norm_ (a' := ?_) ?_ ?_; rotate_left
    ·
     show kg _ (some 8) _ = _
     simp only [kg, kz, kj, kk, zk, zn]; rfl
    refine zu (i := 10) (N := some 13) (v := ?_) (a' := ?_) #[kp,kp,kp,kp,kp,kp,kp,kp,kp,kp,kp,kn,kn] rfl rfl (zq HT_.1 (by kernel_rfl)) (fun _ _ _ h => h) (kc ⟨by rfl, ?_⟩) ?_ ?_; rotate_left; · intro w'; go_simp; with_reducible rfl
    rotate_left; · simp only [kg, kz, kj, kk, zk, zn]; rfl
    refine zu (i := 11) (N := some 14) (v := ?_) (a' := ?_) #[kp,kp,kp,kp,kp,kp,kp,kp,kp,kp,kp,kp,kn] rfl rfl (zq HT_.1 (by kernel_rfl)) (fun _ _ _ h => h) (kc ⟨by rfl, ?_⟩) ?_ ?_; rotate_left; · intro w'; go_simp; with_reducible rfl
    rotate_left; · simp only [kg, kz, kj, kk, zk, zn]; rfl
    refine zu (i := 12) (N := some 2) (v := ?_) (a' := ?_) #[kp,kp,kp,kp,kp,kp,kp,kp,kp,kp,kp,kp,kp] rfl rfl (zq HT_.1 (by kernel_rfl)) (fun _ _ _ h => h) (kc ⟨by rfl, ?_⟩) ?_ ?_; rotate_left; · intro w'; go_simp; with_reducible rfl
    rotate_left; · simp only [kg, kz, kj, kk, zk, zn]; rfl
    refine done_ (done_of HT_.1 (by kernel_rfl)) ?_; try go_wp2
    go_ret; exact ⟨by rfl, by exact HB.1⟩
   · rw [if_neg c7] at H; exact absurd H (by simp)
  · rw [if_neg c6] at H; exact absurd H (by simp)
 · rw [if_neg c5] at H; exact absurd H (by simp)

/-! ### impl_PrefixBytes: function 19 -/
def impl_PrefixBytes.f (k : Nat) (a0_0 : Int) (a0_1 : Int) : Option (ByteArray × Bool) := (impl_GoodPrefix.f a0_0 a0_1).bind fun t159 => (if t159 = true then ((impl_prefixBytes.f k a0_0 a0_1).bind fun t160 => (some (t160, true))) else (some ((⟨#[]⟩ : ByteArray), false)))
theorem impl_PrefixBytes.mono : ∀ a0 a1 k, LeO (impl_PrefixBytes.f k a0 a1) (impl_PrefixBytes.f (k + 1) a0 a1) := by
 intro a0 a1 k; unfold impl_PrefixBytes.f
 repeat' first
   | (with_reducible exact impl_prefixBytes.mono _ _ _)
   | (with_reducible exact zv _)
   | (with_reducible refine zo ?_ ?_)
   | (with_reducible refine zm ?_ (fun _ => ?_))
theorem impl_PrefixBytes.calls (k : Nat) (a0_0 : Int) (a0_1 : Int) (r1 : ByteArray) (r2 : Bool) (w : World) (h : impl_PrefixBytes.f k a0_0 a0_1 = some (r1, r2)) :
  Calls km 19 #[.agg #[.int .i64 a0_0, .int .i64 a0_1]] w fun e w' => e = .returned (.tuple #[.string r1, .bool r2]) ∧ Below w.heap.size w w' := by
 have hu35 := kx; have HB := ky (Below.refl w.heap.size w); have H : ((impl_GoodPrefix.f a0_0 a0_1).bind fun t159 => (if t159 = true then ((impl_prefixBytes.f k a0_0 a0_1).bind fun t160 => (some (t160, true))) else (some ((⟨#[]⟩ : ByteArray), false)))) = some (r1, r2) := h; clear h; replace H := kv.mp H; obtain ⟨t159, A20, H⟩ := H; replace H : (if t159 = true then ((impl_prefixBytes.f k a0_0 a0_1).bind fun t160 => (some (t160, true))) else (some ((⟨#[]⟩ : ByteArray), false))) = some (r1, r2) := H; have A2 := ky A20; clear A20; by_cases c3 : t159 = true
 ·
  subst c3; have H1 : ((impl_prefixBytes.f k a0_0 a0_1).bind fun t160 => (some (t160, true))) = some (r1, r2) := by rw [if_pos rfl] at H; exact H
  clear H; have H := H1; clear H1; replace H := kv.mp H; obtain ⟨t160, A40, H⟩ := H; replace H : (some (t160, true)) = some (r1, r2) := H; have A4 := ky A40; clear A40; simp only [ku, Prod.mk.injEq] at H; obtain ⟨rfl, rfl⟩ := H; go_enter Try.func19, Try.ntmps19; go_wp2_with (first | ((with_reducible refine zj (N := 1) rfl ?_); refine zi ?hg (N := 1) ?hd (cs := #[.int .i64 a0_0, .int .i64 a0_1]) (t := 35) ?hr ?_; (case hd => rfl); (case hg => rfl); (case hr => (go_simp; done)); intro gb158 hg w5 hbox hb; replace HB := ky (zg HB.1 hb); have zz := ky hbox; clear hb hbox hg; have hcz6_0 : w5.cell? ⟨gb158, 0, none⟩ = some (.int .i64 a0_0) := (zd zz.1 0).trans rfl; have hcz6_1 : w5.cell? ⟨gb158, 1, none⟩ = some (.int .i64 a0_1) := (zd zz.1 1).trans rfl; have hfz6_0 := zf zz.1 0; have hfz6_1 := zf zz.1 1) | ((with_reducible refine gate_callee (f := 58) rfl ?_); refine goesL_ (some 5) rfl rfl Try.func58 (by kernel_rfl) rfl #[.agg #[.int .i64 a0_0, .int .i64 a0_1]] rfl (by (try simp only [kf, ke, kd]); rfl) ?_; (with_reducible refine (impl_GoodPrefix.calls a0_0 a0_1 true _ A2.1).mono ?_); rintro e w7 ⟨rfl, hb⟩; refine ⟨_, rfl, ?_⟩; replace zz := ky (zs (g := gb158) (o := .cells #[.int .i64 a0_0, .int .i64 a0_1] 35 (0, 0)) zz.1 hb); replace HB := ky (zg HB.1 hb); have hcz8_0 : w7.cell? ⟨gb158, 0, none⟩ = some (.int .i64 a0_0) := (zd zz.1 0).trans rfl; have hcz8_1 : w7.cell? ⟨gb158, 1, none⟩ = some (.int .i64 a0_1) := (zd zz.1 1).trans rfl; have hfz8_0 := zf zz.1 0; have hfz8_1 := zf zz.1 1) | ((with_reducible refine gate_callee (f := 59) rfl ?_); refine goesL_ (some 8) rfl rfl Try.func59 (by kernel_rfl) rfl #[.agg #[.int .i64 a0_0, .int .i64 a0_1]] rfl (by (try simp only [kf, ke, kd]); rfl) ?_; (with_reducible refine (impl_prefixBytes.calls k a0_0 a0_1 t160 _ A4.1).mono ?_); rintro e w9 ⟨rfl, hb⟩; refine ⟨_, rfl, ?_⟩; replace zz := ky (zs (g := gb158) (o := .cells #[.int .i64 a0_0, .int .i64 a0_1] 35 (0, 0)) zz.1 hb); replace HB := ky (zg HB.1 hb); (try clear hi))); go_ret2; exact ⟨by rfl, by exact HB.1⟩
 ·
  replace c3 := ks.mpr c3; subst c3; have H1 : (some ((⟨#[]⟩ : ByteArray), false)) = some (r1, r2) := by rw [if_neg (show ¬ (false = true) by decide)] at H; exact H
  clear H; have H := H1; clear H1; simp only [ku, Prod.mk.injEq] at H; obtain ⟨rfl, rfl⟩ := H; go_enter Try.func19, Try.ntmps19; go_wp2_with (first | ((with_reducible refine zj (N := 1) rfl ?_); refine zi ?hg (N := 1) ?hd (cs := #[.int .i64 a0_0, .int .i64 a0_1]) (t := 35) ?hr ?_; (case hd => rfl); (case hg => rfl); (case hr => (go_simp; done)); intro gb158 hg w10 hbox hb; replace HB := ky (zg HB.1 hb); have zz := ky hbox; clear hb hbox hg; have hcz11_0 : w10.cell? ⟨gb158, 0, none⟩ = some (.int .i64 a0_0) := (zd zz.1 0).trans rfl; have hcz11_1 : w10.cell? ⟨gb158, 1, none⟩ = some (.int .i64 a0_1) := (zd zz.1 1).trans rfl; have hfz11_0 := zf zz.1 0; have hfz11_1 := zf zz.1 1) | ((with_reducible refine gate_callee (f := 58) rfl ?_); refine goesL_ (some 5) rfl rfl Try.func58 (by kernel_rfl) rfl #[.agg #[.int .i64 a0_0, .int .i64 a0_1]] rfl (by (try simp only [kf, ke, kd]); rfl) ?_; (with_reducible refine (impl_GoodPrefix.calls a0_0 a0_1 false _ A2.1).mono ?_); rintro e w12 ⟨rfl, hb⟩; refine ⟨_, rfl, ?_⟩; replace HB := ky (zg HB.1 hb); (try clear hi))); go_ret2; exact ⟨by rfl, by exact HB.1⟩

end Go.Proofs.Ytlnfcobloolnnaa.PFnPrepend
