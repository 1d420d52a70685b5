/- Go functions told by Lean functions, printed by a program. No condition but what each statement says. -/
import Derived.Test.YtlnfcobloolnnaaYFnUpdatesx0
namespace Go.Proofs.Ytlnfcobloolnnaa.PFnUpdates
open Go.RowKit Go.Proofs.YtlnfcobloolnnaaW.PrintWords Go.Proofs.YtlnfcobloolnnaaW.PrintLast Go.Proofs.YtlnfcobloolnnaaW.PrintMore
open List renaming setIfInBounds_toArray → kz, set_cons_zero → kj, set_cons_succ → kk, map_toArray → kg, map_cons → ke, map_nil → kb
open Aside0 renaming mk → ky
open Option renaming bind_eq_some_iff → kv
open Int renaming tdiv → kh
open Act renaming put → kf
open Try renaming func104 → kd
open Option.some renaming inj → kc
open Or renaming inl → ko
open Bool renaming true → kx, false → km
set_option maxHeartbeats 8000000
set_option maxRecDepth 100000
open Go.Proofs.YtlnfcobloolnnaaW.PrintLast renaming i64_w → zi, i32_w → zl, any_of → zm, pure_ → zn
open Go.Proofs.YtlnfcobloolnnaaW.PrintWords renaming below_drew1 → zb, below_step → zf, blk_cell → zh, Aside0 → zk
attribute [local go_sem] max2_int min2_int max_two min_two max_three min_three max_four min_four
set_option linter.unusedVariables false
set_option linter.unusedSimpArgs false
/-! ### impl_bytesOf: function 104 -/
def impl_bytesOf.l0 : Nat → Int → List Int → Int → Option (ByteArray)
 | 0, _, _, _ => none
 | k + 1, x0, x5, x6 => if x6 ≥ 0 then (if 0 ≤ (wrap64 (8 * x6)) then (if x5.length < 140737488355328 then (impl_bytesOf.l0 k x0 (x5 ++ [(shr .i64 x0 (wrap64 (8 * x6))) % 256]) (wrap64 (x6 - 1))) else (none)) else (none)) else (some (strOfNums x5))
def impl_bytesOf.f (k : Nat) (a0 : Int) (a1 : Int) : Option (ByteArray) := impl_bytesOf.l0 k a0 (([] : List Int)) (wrap64 (a1 - 1))
theorem impl_bytesOf.calls (k : Nat) (a0 : Int) (a1 : Int) (r : ByteArray) (w : World) (h : impl_bytesOf.f k a0 a1 = some r) :
  Calls Try.prog 104 #[.int .i64 a0, .int .i64 a1] w fun e w' => e = .returned (.string r) ∧ Below w.heap.size w w' := by
 have HB := ky (Below.refl w.heap.size w); have H : (impl_bytesOf.l0 k a0 (([] : List Int)) (wrap64 (a1 - 1))) = some r := h; clear h; obtain ⟨y213, hy213⟩ : ∃ y_ : List Int, y_ = (([] : List Int)) := ⟨_, rfl⟩
 replace H : (impl_bytesOf.l0 k a0 y213 (wrap64 (a1 - 1))) = some r := by (rw [hy213]; with_reducible exact H)
 have Ny213 := ky hy213; clear hy213; have H' := ky H; clear H; go_enter kd, Try.ntmps104; go_wp2_with (((with_reducible refine gate_dst (N := 7) rfl ?_); refine Kd.R_lit (Kd.int .u8) _ 5 ?hg (N := 7) ?hd (xs := ([] : List Int)) (inner := []) (ok := fun _ => True) (okp := fun _ => True) ?hr ?hp (fun _ hk => hk) trivial (Below.refl _ _) (Nat.le_refl _) (by simp) ?_; (case hd => rfl); (case hg => rfl); (case hr => (go_simp; done)); (case hp => exact (Reps.none _ _)); intro v214 w3 ho4 hb hg_ hnew_; clear hg_ hnew_; (rw [← Ny213.1] at ho4); have HO215 := ky (Kd.R_lower ho4 (below_size HB.1)); replace HB := ky (zf HB.1 hb); clear hb ho4)); go_loopg [5, 6] k (fun kq v5 v6 w' => ∃ (x5_1 : List Int) (x6_1 : Int), v6 = .int .i64 x6_1 ∧ zk (impl_bytesOf.l0 kq a0 x5_1 x6_1 = some r) ∧ zk (kq ≤ k) ∧ zk (Kd.R (Kd.int .u8) 5 w' w.heap.size (fun _ => True) v5 x5_1) ∧ zk (Below w.heap.size w w')); case atStart => exact ⟨(y213), (wrap64 (a1 - 1)), (by rfl), H', ⟨Nat.le_refl _⟩, ⟨by exact HO215.1⟩, ⟨by exact HB.1⟩⟩
 case round =>
  clear H'; obtain ⟨x5_1, x6_1, rfl, HA, HK1, HO_5, HB⟩ := hrel; cases gk with
  | zero => exact absurd HA.1 (by simp [impl_bytesOf.l0])
  | succ k1 =>
   have H := HA.1; clear HA; simp only [impl_bytesOf.l0] at H; by_cases c5 : x6_1 ≥ 0
   ·
    rw [if_pos c5] at H; have c5b0 := decide_eq_true c5; clear c5; obtain ⟨ji6, hji6⟩ : ∃ j_ : Int, (wrap64 (8 * x6_1)) = j_ := ⟨_, rfl⟩
    replace H : (if 0 ≤ (ji6) then (if x5_1.length < 140737488355328 then (impl_bytesOf.l0 k1 a0 (x5_1 ++ [(shr .i64 a0 (ji6)) % 256]) (wrap64 (x6_1 - 1))) else (none)) else (none)) = some r := by (rw [hji6] at H; exact H)
    have hji6w : (IntKind.i64.wrap (8 * x6_1)) = ji6 := (zi _).trans hji6; by_cases c7 : 0 ≤ (ji6)
    ·
     rw [if_pos c7] at H; have c7b0 := eq_true c7; have c7b1 : decide (0 ≤ (ji6)) = true := decide_eq_true c7; clear c7; obtain ⟨ji8, hji8⟩ : ∃ j_ : Int, (shr .i64 a0 (ji6)) = j_ := ⟨_, rfl⟩
     replace H : (if x5_1.length < 140737488355328 then (impl_bytesOf.l0 k1 a0 (x5_1 ++ [(ji8) % 256]) (wrap64 (x6_1 - 1))) else (none)) = some r := by (rw [hji8] at H; exact H)
     have hji8_ : (a0 / 2 ^ min (ji6).toNat 64) = ji8 := hji8; have hji8z : (ji6) ≤ 64 → (a0 / 2 ^ (ji6).toNat) = ji8 := shr_small hji8; by_cases c9 : x5_1.length < 140737488355328
     ·
      rw [if_pos c9] at H; have LMc9 := ky c9; clear c9; obtain ⟨y216, hy216⟩ : ∃ y_ : List Int, y_ = (x5_1 ++ [(ji8) % 256]) := ⟨_, rfl⟩
      replace H : (impl_bytesOf.l0 k1 a0 y216 (wrap64 (x6_1 - 1))) = some r := by (rw [hy216]; with_reducible exact H)
      have Ny216 := ky hy216; clear hy216; have H' := ky H; clear H; go_wp2_with (((with_reducible refine gate_builtin (b := .append) (xs := #[.tmp 14, .tmp 20]) rfl ?_); at_builtin; refine Kd.R_append (Kd.int .u8) (w0 := w) w.heap.size rfl (.tmp 14) (.tmp 20) 62 5 (.int .u8 0) 1 rfl Try.underlying62 info5 rfl (by decide) (by omega) u5 x5_1 ((ji8) % 256) [.int .u8 ((ji8) % 256)] (fun _ => True) (fun _ => False) rfl rfl ?aP (fun _ hk => hk.elim) ?aF ?aO ?aB ?aS ?aL ?_; (case aP => exact rfl); (case aB => exact HB.1); (case aF => exact (fun _ _ => trivial)); (case aO => exact HO_5.1); (case aS => exact (below_size HB.1)); (case aL => have := LMc9.1; omega); intro v217 w10 ho hb hg hat; rw [← Ny216.1] at ho; replace HB := ky hb; have HO218 := ky ho; clear ho hb hg hat)); go_roundg k1; case measure => have := HK1.1; omega
      case rel => exact ⟨(y216), (wrap64 (x6_1 - 1)), (by rfl), H', ⟨by have := HK1.1; omega⟩, ⟨by exact HO218.1⟩, ⟨by exact HB.1⟩⟩
     · rw [if_neg c9] at H; exact absurd H (by simp)
    · rw [if_neg c7] at H; exact absurd H (by simp)
   · rw [if_neg c5] at H; have c5b0 := decide_eq_false c5; clear c5; obtain rfl := kc H; have hcv11 := own_string (P := Try.prog) Try.underlying62 Try.underlying5 Try.underlying9 (Kd.own_of_R HO_5.1); go_wp2; go_ret; exact ⟨by rfl, by exact HB.1⟩
/-! ### impl_prefixBytes: function 59 -/
def impl_prefixBytes.f (k : Nat) (a0_0 : Int) (a0_1 : Int) : Option (ByteArray) := (impl_bytesOf.f k a0_1 1).bind fun t220 => ((impl_bytesOf.f k a0_0 4).bind fun t221 => (if 0 ≤ (wrap64 (kh (wrap64 (a0_1 + 7)) 8)) then (if (wrap64 (kh (wrap64 (a0_1 + 7)) 8)) ≤ (t221.size : Int) then (if t220.size + (t221.extract 0 ((wrap64 (kh (wrap64 (a0_1 + 7)) 8)) : Int).toNat).size ≤ 9223372036854775807 then (some (t220 ++ (t221.extract 0 ((wrap64 (kh (wrap64 (a0_1 + 7)) 8)) : Int).toNat))) else (none)) else (none)) else (none)))
def impl_prefixBytes.T1 : Bool × List (List Nat × List Nat) := (true, [([], []), ([0], [0]), ([1], [1]), ([], []), ([3], [3]), ([4, 2], [4]), ([], []), ([6], [6]), ([7], [7]), ([8], [8]), ([5, 9], [5, 9]), ([2, 10], [2, 10]), ([11, 5, 0, 1, 2, 3, 4, 5, 6, 7, 8, 9, 10, 11], [11])])
def impl_prefixBytes.B1 : List Nat := [0, 1, 3, 0, 8, 31, 0, 64, 192, 448, 1023, 2047, 4095]
theorem impl_prefixBytes.tab1 : rtab .any (opsOf Try.f59 1) = impl_prefixBytes.T1 := by kernel_rfl
theorem impl_prefixBytes.bits1 : waitsOk impl_prefixBytes.T1.2 impl_prefixBytes.B1 = true := by kernel_rfl
theorem impl_prefixBytes.calls (k : Nat) (a0_0 : Int) (a0_1 : Int) (r : ByteArray) (w : World) (h : impl_prefixBytes.f k a0_0 a0_1 = some r) :
  Calls Try.prog 59 #[.agg #[.int .i64 a0_0, .int .i64 a0_1]] w fun e w' => e = .returned (.string r) ∧ Below w.heap.size w w' := by
 have hu35 := Try.underlying35; have HB := ky (Below.refl w.heap.size w); have H : ((impl_bytesOf.f k a0_1 1).bind fun t220 => ((impl_bytesOf.f k a0_0 4).bind fun t221 => (if 0 ≤ (wrap64 (kh (wrap64 (a0_1 + 7)) 8)) then (if (wrap64 (kh (wrap64 (a0_1 + 7)) 8)) ≤ (t221.size : Int) then (if t220.size + (t221.extract 0 ((wrap64 (kh (wrap64 (a0_1 + 7)) 8)) : Int).toNat).size ≤ 9223372036854775807 then (some (t220 ++ (t221.extract 0 ((wrap64 (kh (wrap64 (a0_1 + 7)) 8)) : Int).toNat))) else (none)) else (none)) else (none)))) = some r := h; clear h; replace H := kv.mp H; obtain ⟨t220, A20, H⟩ := H; have A2 := ky A20; clear A20; replace H := kv.mp H; obtain ⟨t221, A30, H⟩ := H; have A3 := ky A30; clear A30; obtain ⟨ji4, hji4⟩ : ∃ j_ : Int, (wrap64 (kh (wrap64 (a0_1 + 7)) 8)) = j_ := ⟨_, rfl⟩
 replace H : (if 0 ≤ (ji4) then (if (ji4) ≤ (t221.size : Int) then (if t220.size + (t221.extract 0 ((ji4) : Int).toNat).size ≤ 9223372036854775807 then (some (t220 ++ (t221.extract 0 ((ji4) : Int).toNat))) else (none)) else (none)) else (none)) = some r := by (rw [hji4] at H; exact H)
 (try rw [hji4] at A2); (try rw [hji4] at A3); have hji4w : (IntKind.i64.wrap (kh (wrap64 (a0_1 + 7)) 8)) = ji4 := (zi _).trans hji4; by_cases c5 : 0 ≤ (ji4)
 ·
  rw [if_pos c5] at H; have c5b0 := eq_true c5; have c5b1 : decide (0 ≤ (ji4)) = true := decide_eq_true c5; clear c5; by_cases c6 : (ji4) ≤ (t221.size : Int)
  ·
   rw [if_pos c6] at H; have c6b0 := eq_true c6; have c6b1 : decide ((ji4) ≤ (t221.size : Int)) = true := decide_eq_true c6; clear c6; by_cases c7 : t220.size + (t221.extract 0 ((ji4) : Int).toNat).size ≤ 9223372036854775807
   ·
    rw [if_pos c7] at H; have c7b0 := eq_true c7; have c7b1 : decide (t220.size + (t221.extract 0 ((ji4) : Int).toNat).size ≤ 9223372036854775807) = true := decide_eq_true c7; try have c7b2 : (9223372036854775807 < t220.size + (t221.extract 0 ((ji4) : Int).toNat).size) = False := eq_false (Nat.not_lt.2 c7)
    try have c7b3 : (9223372036854775807 < t220.size + ((ji4) : Int).toNat) = False := eq_false (by simp only [eq_iff_iff, iff_true, iff_false] at *; simp only [ByteArray.size_extract] at c7; omega)
    obtain rfl := kc H; go_enter Try.func59, Try.ntmps59; try go_wp2_with (((with_reducible refine gate_dst (N := 1) rfl ?_); refine box_event ?hg (N := 1) ?hd (cs := #[.int .i64 a0_0, .int .i64 a0_1]) (t := 35) ?hr ?_; (case hd => rfl); (case hg => rfl); (case hr => (go_simp; done)); intro gb219 hg w8 hbox hb; replace HB := ky (zf HB.1 hb); have zq := ky hbox; clear hb hbox hg))
    replace zq := ky (blk_drew zq.1); replace HB := ky (zb HB.1); refine start_ (n := 13) (S := fun w' => w'.cell? ⟨gb219, 0, none⟩ = some (.int .i64 a0_0) ∧ w'.cell? ⟨gb219, 1, none⟩ = some (.int .i64 a0_1)) (ds := []) #[km,km,km,km,km,km,km,km,km,km,km,km,km] (by kernel_rfl) rfl rfl ⟨(zh zq.1 0).trans rfl, (zh zq.1 1).trans rfl⟩ (fun hHeld => ?_); refine with_tabW impl_prefixBytes.tab1 impl_prefixBytes.bits1 (fun HT_ HW_ => ?_); generalize w8.drew = w9 at zq HB hHeld ⊢; refine zn (i := 0) (N := some 3) (v := ?_) (a' := ?_) #[kx,km,km,km,km,km,km,km,km,km,km,km,km] rfl rfl (zm HT_.1 (by kernel_rfl)) (fun _ _ _ h => h) (ko ⟨by rfl, ?_⟩) ?_ ?_; rotate_left; · intro w'; go_simp; with_reducible rfl
    rotate_left; · simp only [kf, kz, kj, kk, zi, zl]; rfl
    refine zn (i := 3) (N := some 6) (v := ?_) (a' := ?_) #[kx,km,km,kx,km,km,km,km,km,km,km,km,km] rfl rfl (zm HT_.1 (by kernel_rfl)) (fun _ _ _ h => h) (ko ⟨by rfl, ?_⟩) ?_ ?_; rotate_left; · intro w'; go_simp; with_reducible rfl
    rotate_left; · simp only [kf, kz, kj, kk, zi, zl]; rfl
    refine zn (i := 6) (N := some 9) (v := ?_) (a' := ?_) #[kx,km,km,kx,km,km,kx,km,km,km,km,km,km] rfl rfl (zm HT_.1 (by kernel_rfl)) (fun _ _ _ h => h) (ko ⟨by rfl, ?_⟩) ?_ ?_; rotate_left; · intro w'; go_simp; with_reducible rfl
    rotate_left; · simp only [kf, kz, kj, kk, zi, zl]; rfl
    refine take_ (i := 1) (N := some 4) (v := ?_) (a' := ?_) #[kx,kx,km,kx,km,km,kx,km,km,km,km,km,km] rfl rfl (take_ofW HT_.1 HW_.1 (by kernel_rfl)) (fun _ _ _ h => h) (ko ⟨by rfl, ?_⟩) hHeld ?_ ?_; rotate_left; · rintro w' ⟨s0, s1⟩; go_simp; with_reducible rfl
    rotate_left; · simp only [kf, kz, kj, kk, zi, zl]; rfl
    refine take_ (i := 4) (N := some 7) (v := ?_) (a' := ?_) #[kx,kx,km,kx,kx,km,kx,km,km,km,km,km,km] rfl rfl (take_ofW HT_.1 HW_.1 (by kernel_rfl)) (fun _ _ _ h => h) (ko ⟨by rfl, ?_⟩) hHeld ?_ ?_; rotate_left; · rintro w' ⟨s0, s1⟩; go_simp; with_reducible rfl
    rotate_left; · simp only [kf, kz, kj, kk, zi, zl]; rfl
    refine take_ (i := 7) (N := some 10) (v := ?_) (a' := ?_) #[kx,kx,km,kx,kx,km,kx,kx,km,km,km,km,km] rfl rfl (take_ofW HT_.1 HW_.1 (by kernel_rfl)) (fun _ _ _ h => h) (ko ⟨by rfl, ?_⟩) hHeld ?_ ?_; rotate_left; · rintro w' ⟨s0, s1⟩; go_simp; with_reducible rfl
    rotate_left; · simp only [kf, kz, kj, kk, zi, zl]; rfl
    refine zn (i := 8) (N := some 11) (v := ?_) (a' := ?_) #[kx,kx,km,kx,kx,km,kx,kx,kx,km,km,km,km] rfl rfl (zm HT_.1 (by kernel_rfl)) (fun _ _ _ h => h) (ko ⟨by rfl, ?_⟩) ?_ ?_; rotate_left; · intro w'; go_simp; with_reducible rfl
    rotate_left; · simp only [kf, kz, kj, kk, zi, zl]; rfl
    refine zn (i := 9) (N := some 12) (v := ?_) (a' := ?_) #[kx,kx,km,kx,kx,km,kx,kx,kx,kx,km,km,km] rfl rfl (zm HT_.1 (by kernel_rfl)) (fun _ _ _ h => h) (ko ⟨by rfl, ?_⟩) ?_ ?_; rotate_left; · intro w'; go_simp; with_reducible rfl
    rotate_left; · simp only [kf, kz, kj, kk, zi, zl]; rfl
    refine one_ (i := 2) (N := some 5) #[kx,kx,kx,kx,kx,km,kx,kx,kx,kx,km,km,km] rfl rfl (one_of HT_.1 (by kernel_rfl)) (by decide) (fun K hK => ?_); refine goes_ kd (by kernel_rfl) rfl #[.int .i64 a0_1, .int .i64 1] (by rfl) rfl rfl (by (try simp only [kg, ke, kb]); rfl) ?_; with_reducible refine (impl_bytesOf.calls k a0_1 1 t220 _ A2.1).mono ?_; rintro e w10 ⟨rfl, hb⟩; refine ⟨_, rfl, ?_⟩; replace zq := ky (blk_below (g := gb219) (o := .cells #[.int .i64 a0_0, .int .i64 a0_1] 35 (0, 0)) zq.1 hb); replace HB := ky (zf HB.1 hb); refine hK.out _ _ ⟨(zh zq.1 0).trans rfl, (zh zq.1 1).trans rfl⟩ (fun hHeld => ?_); clear hK K; refine norm_ (a' := ?_) ?_ ?_; rotate_left
    ·
     show kf _ (some 5) _ = _
     simp only [kf, kz, kj, kk, zi, zl]; rfl
    refine one_ (i := 5) (N := some 8) #[kx,kx,kx,kx,kx,kx,kx,kx,kx,kx,km,km,km] rfl rfl (one_of HT_.1 (by kernel_rfl)) (by decide) (fun K hK => ?_); refine goes_ kd (by kernel_rfl) rfl #[.int .i64 a0_0, .int .i64 4] (by rfl) rfl rfl (by (try simp only [kg, ke, kb]); rfl) ?_; with_reducible refine (impl_bytesOf.calls k a0_0 4 t221 _ A3.1).mono ?_; rintro e w11 ⟨rfl, hb⟩; refine ⟨_, rfl, ?_⟩; replace zq := ky (blk_below (g := gb219) (o := .cells #[.int .i64 a0_0, .int .i64 a0_1] 35 (0, 0)) zq.1 hb); replace HB := ky (zf HB.1 hb); refine hK.out _ _ ⟨(zh zq.1 0).trans rfl, (zh zq.1 1).trans rfl⟩ (fun hHeld => ?_); clear hK K; refine norm_ (a' := ?_) ?_ ?_; rotate_left
    ·
     show kf _ (some 8) _ = _
     simp only [kf, kz, kj, kk, zi, zl]; rfl
    refine zn (i := 10) (N := some 13) (v := ?_) (a' := ?_) #[kx,kx,kx,kx,kx,kx,kx,kx,kx,kx,kx,km,km] rfl rfl (zm HT_.1 (by kernel_rfl)) (fun _ _ _ h => h) (ko ⟨by rfl, ?_⟩) ?_ ?_; rotate_left; · intro w'; go_simp; with_reducible rfl
    rotate_left; · simp only [kf, kz, kj, kk, zi, zl]; rfl
    refine zn (i := 11) (N := some 14) (v := ?_) (a' := ?_) #[kx,kx,kx,kx,kx,kx,kx,kx,kx,kx,kx,kx,km] rfl rfl (zm HT_.1 (by kernel_rfl)) (fun _ _ _ h => h) (ko ⟨by rfl, ?_⟩) ?_ ?_; rotate_left; · intro w'; go_simp; with_reducible rfl
    rotate_left; · simp only [kf, kz, kj, kk, zi, zl]; rfl
    refine zn (i := 12) (N := some 2) (v := ?_) (a' := ?_) #[kx,kx,kx,kx,kx,kx,kx,kx,kx,kx,kx,kx,kx] rfl rfl (zm HT_.1 (by kernel_rfl)) (fun _ _ _ h => h) (ko ⟨by rfl, ?_⟩) ?_ ?_; rotate_left; · intro w'; go_simp; with_reducible rfl
    rotate_left; · simp only [kf, kz, kj, kk, zi, zl]; rfl
    refine done_ (done_of HT_.1 (by kernel_rfl)) ?_; try go_wp2
    go_ret; exact ⟨by rfl, by exact HB.1⟩
   · rw [if_neg c7] at H; exact absurd H (by simp)
  · rw [if_neg c6] at H; exact absurd H (by simp)
 · rw [if_neg c5] at H; exact absurd H (by simp)
/-! ### impl_prefixesBytes: function 114 -/
def impl_prefixesBytes.l0 : Nat → ByteArray → List (S35) → Int → Int → Option (ByteArray)
 | 0, _, _, _, _ => none
 | k + 1, x3, x9, x10, x11 => if x11 < x10 then (if 0 ≤ x11 then (if x11 < (x9.length : Int) then ((impl_prefixBytes.f k ((rd_T35 x9 x11).f0) ((rd_T35 x9 x11).f1)).bind fun t225 => (if x3.size + t225.size ≤ 9223372036854775807 then (impl_prefixesBytes.l0 k (x3 ++ t225) x9 x10 (wrap64 (x11 + 1))) else (none))) else (none)) else (none)) else (some x3)
def impl_prefixesBytes.f (k : Nat) (l0 : List (S35)) : Option (ByteArray) := (impl_bytesOf.f k (l0.length : Int) 1).bind fun t222 => (impl_prefixesBytes.l0 k t222 l0 (l0.length : Int) 0)
theorem impl_prefixesBytes.calls (k : Nat) (A0 : Option Addr) (c0 : Nat) (l0 : List (S35)) (r : ByteArray) (w : World) (hr0 : Kd.C k35 w A0 l0.length l0) (hc0 : l0.length ≤ c0) (h : impl_prefixesBytes.f k l0 = some r) :
  Calls Try.prog 114 #[.slice A0 l0.length c0] w fun e w' => e = .returned (.string r) ∧ Below w.heap.size w w' := by
 have hu35 := Try.underlying35; have HR0 := ky hr0; have HC0 := ky hc0; clear hr0 hc0; have HB := ky (Below.refl w.heap.size w); have H : ((impl_bytesOf.f k (l0.length : Int) 1).bind fun t222 => (impl_prefixesBytes.l0 k t222 l0 (l0.length : Int) 0)) = some r := h; clear h; replace H := kv.mp H; obtain ⟨t222, A20, H⟩ := H; have A2 := ky A20; clear A20; have H' := ky H; clear H; go_enter Try.func114, Try.ntmps114; go_wp2_with (((with_reducible refine gate_callee (f := 104) rfl ?_); refine goesL_ (some 8) rfl rfl kd (by kernel_rfl) rfl #[.int .i64 (l0.length : Int), .int .i64 1] rfl (by (try simp only [kg, ke, kb]); rfl) ?_; (with_reducible refine (impl_bytesOf.calls k (l0.length : Int) 1 t222 _ A2.1).mono ?_); rintro e w3 ⟨rfl, hb⟩; refine ⟨_, rfl, ?_⟩; replace HB := ky (zf HB.1 hb); (try clear hi))); go_loopg [3, 11] k (fun kq v3 v11 w' => ∃ (x3_1 : ByteArray) (zo : Int), v3 = .string x3_1 ∧ v11 = .int .i64 zo ∧ zk (impl_prefixesBytes.l0 kq x3_1 l0 (l0.length : Int) zo = some r) ∧ zk (kq ≤ k) ∧ zk (Below w.heap.size w w')); case atStart => exact ⟨(t222), (0), (by rfl), (by rfl), H', ⟨Nat.le_refl _⟩, ⟨by exact HB.1⟩⟩
 case round =>
  clear H'; obtain ⟨x3_1, zo, rfl, rfl, HA, HK1, HB⟩ := hrel; cases gk with
  | zero => exact absurd HA.1 (by simp [impl_prefixesBytes.l0])
  | succ k1 =>
   have H := HA.1; clear HA; simp only [impl_prefixesBytes.l0] at H; by_cases c4 : zo < (l0.length : Int)
   ·
    rw [if_pos c4] at H; have c4b0 := decide_eq_true c4; clear c4; by_cases c5 : 0 ≤ zo
    ·
     rw [if_pos c5] at H; have c5b0 := decide_eq_true c5; clear c5; by_cases c6 : zo < (l0.length : Int)
     ·
      rw [if_pos c6] at H; have c6b0 := decide_eq_true c6; clear c6; replace H := kv.mp H; obtain ⟨t225, A70, H⟩ := H; have A7 := ky A70; clear A70; by_cases c8 : x3_1.size + t225.size ≤ 9223372036854775807
      ·
       rw [if_pos c8] at H; have c8b0 := eq_true c8; have c8b1 : decide (x3_1.size + t225.size ≤ 9223372036854775807) = true := decide_eq_true c8; try have c8b2 : (9223372036854775807 < x3_1.size + t225.size) = False := eq_false (Nat.not_lt.2 c8)
       have H' := ky H; clear H; have p223 : 0 ≤ (zo : Int) := of_decide_eq_true (by (with_reducible assumption)); have q223 : zo < (l0.length : Int) := of_decide_eq_true (by (with_reducible assumption)); obtain ⟨ad223, e223, hx223_0, hx223_1⟩ := at_T35 HR0.1 zo p223 q223; cases e223; try replace hx223_0 := (HB.1.cell (World.block_lt_of_cell? w _ hx223_0)).trans hx223_0
       try replace hx223_1 := (HB.1.cell (World.block_lt_of_cell? w _ hx223_1)).trans hx223_1
       replace p223 := eq_true p223; replace q223 := eq_true q223; go_wp2_with (first | ((with_reducible refine gate_dst (N := 5) rfl ?_); refine box_event ?hg (N := 5) ?hd (cs := #[.int .i64 0, .int .i64 0]) (t := 35) ?hr ?_; (case hd => rfl); (case hg => rfl); (case hr => (go_simp; done)); intro gb224 hg w9 hbox hb; have zr := ky hbox; have GE224 := ky ((by rw [hg]; exact (below_size HB.1) : w.heap.size ≤ gb224)); replace HB := ky (zf HB.1 hb); clear hb hbox hg; have hcz10_0 := bc2 zr.1) | ((with_reducible refine gate_callee (f := 59) rfl ?_); refine goesL_ (some 17) rfl rfl Try.func59 (by kernel_rfl) rfl #[.agg #[.int .i64 ((rd_T35 l0 zo).f0), .int .i64 ((rd_T35 l0 zo).f1)]] rfl (by (try simp only [kg, ke, kb]); rfl) ?_; (with_reducible refine (impl_prefixBytes.calls k1 ((rd_T35 l0 zo).f0) ((rd_T35 l0 zo).f1) t225 _ A7.1).mono ?_); rintro e w11 ⟨rfl, hb⟩; refine ⟨_, rfl, ?_⟩; replace HB := ky (zf (by repeat ((with_reducible first | exact HB.1 | refine below_set ?_ GE224.1))) hb); (try clear hi))); go_roundg k1; case measure => have := HK1.1; omega
       case rel => exact ⟨(x3_1 ++ t225), (wrap64 (zo + 1)), (by rfl), (by rfl), H', ⟨by have := HK1.1; omega⟩, ⟨by exact HB.1⟩⟩
      · rw [if_neg c8] at H; exact absurd H (by simp)
     · rw [if_neg c6] at H; exact absurd H (by simp)
    · rw [if_neg c5] at H; exact absurd H (by simp)
   · rw [if_neg c4] at H; have c4b0 := decide_eq_false c4; clear c4; obtain rfl := kc H; go_wp2; go_ret; exact ⟨by rfl, by exact HB.1⟩
/-! ### impl_numbersBytes: function 115 -/
def impl_numbersBytes.l0 : Nat → Int → ByteArray → List Int → Int → Int → Option (ByteArray)
 | 0, _, _, _, _, _ => none
 | k + 1, x1, x5, x11, x12, x13 => if x13 < x12 then (if 0 ≤ x13 then (if x13 < (x11.length : Int) then ((impl_bytesOf.f k (rd x11 x13) x1).bind fun t228 => (if x5.size + t228.size ≤ 9223372036854775807 then (impl_numbersBytes.l0 k x1 (x5 ++ t228) x11 x12 (wrap64 (x13 + 1))) else (none))) else (none)) else (none)) else (some x5)
def impl_numbersBytes.f (k : Nat) (l0 : List Int) (a1 : Int) : Option (ByteArray) := (impl_bytesOf.f k (l0.length : Int) 1).bind fun t226 => (impl_numbersBytes.l0 k a1 t226 l0 (l0.length : Int) 0)
theorem impl_numbersBytes.calls (k : Nat) (A0 : Option Addr) (c0 : Nat) (l0 : List Int) (a1 : Int) (r : ByteArray) (w : World) (hr0 : Kd.C (Kd.int .i64) w A0 l0.length l0) (hc0 : l0.length ≤ c0) (h : impl_numbersBytes.f k l0 a1 = some r) :
  Calls Try.prog 115 #[.slice A0 l0.length c0, .int .i64 a1] w fun e w' => e = .returned (.string r) ∧ Below w.heap.size w w' := by
 have HR0 := ky hr0; have HC0 := ky hc0; clear hr0 hc0; have HB := ky (Below.refl w.heap.size w); have H : ((impl_bytesOf.f k (l0.length : Int) 1).bind fun t226 => (impl_numbersBytes.l0 k a1 t226 l0 (l0.length : Int) 0)) = some r := h; clear h; replace H := kv.mp H; obtain ⟨t226, A30, H⟩ := H; have A3 := ky A30; clear A30; have H' := ky H; clear H; go_enter Try.func115, Try.ntmps115; go_wp2_with (((with_reducible refine gate_callee (f := 104) rfl ?_); refine goesL_ (some 10) rfl rfl kd (by kernel_rfl) rfl #[.int .i64 (l0.length : Int), .int .i64 1] rfl (by (try simp only [kg, ke, kb]); rfl) ?_; (with_reducible refine (impl_bytesOf.calls k (l0.length : Int) 1 t226 _ A3.1).mono ?_); rintro e w4 ⟨rfl, hb⟩; refine ⟨_, rfl, ?_⟩; replace HB := ky (zf HB.1 hb); (try clear hi))); go_loopg [5, 13] k (fun kq v5 v13 w' => ∃ (x5_1 : ByteArray) (zp : Int), v5 = .string x5_1 ∧ v13 = .int .i64 zp ∧ zk (impl_numbersBytes.l0 kq a1 x5_1 l0 (l0.length : Int) zp = some r) ∧ zk (kq ≤ k) ∧ zk (Below w.heap.size w w')); case atStart => exact ⟨(t226), (0), (by rfl), (by rfl), H', ⟨Nat.le_refl _⟩, ⟨by exact HB.1⟩⟩
 case round =>
  clear H'; obtain ⟨x5_1, zp, rfl, rfl, HA, HK1, HB⟩ := hrel; cases gk with
  | zero => exact absurd HA.1 (by simp [impl_numbersBytes.l0])
  | succ k1 =>
   have H := HA.1; clear HA; simp only [impl_numbersBytes.l0] at H; by_cases c5 : zp < (l0.length : Int)
   ·
    rw [if_pos c5] at H; have c5b0 := decide_eq_true c5; clear c5; by_cases c6 : 0 ≤ zp
    ·
     rw [if_pos c6] at H; have c6b0 := decide_eq_true c6; clear c6; by_cases c7 : zp < (l0.length : Int)
     ·
      rw [if_pos c7] at H; have c7b0 := decide_eq_true c7; clear c7; replace H := kv.mp H; obtain ⟨t228, A80, H⟩ := H; have A8 := ky A80; clear A80; by_cases c9 : x5_1.size + t228.size ≤ 9223372036854775807
      ·
       rw [if_pos c9] at H; have c9b0 := eq_true c9; have c9b1 : decide (x5_1.size + t228.size ≤ 9223372036854775807) = true := decide_eq_true c9; try have c9b2 : (9223372036854775807 < x5_1.size + t228.size) = False := eq_false (Nat.not_lt.2 c9)
       have H' := ky H; clear H; have p227 : 0 ≤ (zp : Int) := of_decide_eq_true (by (with_reducible assumption)); have q227 : zp < (l0.length : Int) := of_decide_eq_true (by (with_reducible assumption)); obtain ⟨ad227, e227, hx227_0⟩ := Kd.at_int HR0.1 zp p227 q227; cases e227; try replace hx227_0 := (HB.1.cell (World.block_lt_of_cell? w _ hx227_0)).trans hx227_0
       replace p227 := eq_true p227; replace q227 := eq_true q227; go_wp2_with (((with_reducible refine gate_callee (f := 104) rfl ?_); refine goesL_ (some 20) rfl rfl kd (by kernel_rfl) rfl #[.int .i64 (rd l0 zp), .int .i64 a1] rfl (by (try simp only [kg, ke, kb]); rfl) ?_; (with_reducible refine (impl_bytesOf.calls k1 (rd l0 zp) a1 t228 _ A8.1).mono ?_); rintro e w10 ⟨rfl, hb⟩; refine ⟨_, rfl, ?_⟩; replace HB := ky (zf HB.1 hb); (try clear hi))); go_roundg k1; case measure => have := HK1.1; omega
       case rel => exact ⟨(x5_1 ++ t228), (wrap64 (zp + 1)), (by rfl), (by rfl), H', ⟨by have := HK1.1; omega⟩, ⟨by exact HB.1⟩⟩
      · rw [if_neg c9] at H; exact absurd H (by simp)
     · rw [if_neg c7] at H; exact absurd H (by simp)
    · rw [if_neg c6] at H; exact absurd H (by simp)
   · rw [if_neg c5] at H; have c5b0 := decide_eq_false c5; clear c5; obtain rfl := kc H; go_wp2; go_ret; exact ⟨by rfl, by exact HB.1⟩
end Go.Proofs.Ytlnfcobloolnnaa.PFnUpdates
