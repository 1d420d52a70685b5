/- Go functions told by Lean functions, printed by a program. No condition but what each statement says. -/
import Derived.Test.YtlnfcobloolnnaaYFnExactReadUpdatex12
namespace Go.Proofs.Ytlnfcobloolnnaa.PFnExactReadUpdate
open Go.RowKit Go.Proofs.YtlnfcobloolnnaaW.PrintWords Go.Proofs.YtlnfcobloolnnaaW.PrintLast Go.Proofs.YtlnfcobloolnnaaW.PrintMore
open List renaming setIfInBounds_toArray → kz, set_cons_zero → kj, set_cons_succ → kk, map_toArray → kg, map_cons → ke, map_nil → kb
open Aside0 renaming mk → ky
open Option renaming bind_eq_some_iff → kv
open Int renaming tdiv → kh
open Act renaming put → kf
open Try renaming func104 → kd
open Or renaming inl → kc
open Bool renaming true → ko, false → kx
set_option maxHeartbeats 8000000
set_option maxRecDepth 100000
open Go.Proofs.YtlnfcobloolnnaaW.PrintLast renaming i64_w → zi, i32_w → zj, any_of → zk, pure_ → zl
open Go.Proofs.YtlnfcobloolnnaaW.PrintWords renaming pw_below_drewN → za, below_drew1 → zb, below_alloc → zc, below_step → zd, blk_cell → zh
open Go.Proofs.YtlnfcobloolnnaaW.PrintWords.LeO renaming none → ze, bind → zf, ite → zg
attribute [local go_sem] max2_int min2_int max_two min_two max_three min_three max_four min_four
set_option linter.unusedVariables false
set_option linter.unusedSimpArgs false

/-! ### impl_prefixBytes: function 59 -/
def impl_prefixBytes.f (k : Nat) (a0_0 : Int) (a0_1 : Int) : Option (ByteArray) := (impl_bytesOf.f k a0_1 1).bind fun t290 => ((impl_bytesOf.f k a0_0 4).bind fun t291 => (if 0 ≤ (wrap64 (kh (wrap64 (a0_1 + 7)) 8)) then (if (wrap64 (kh (wrap64 (a0_1 + 7)) 8)) ≤ (t291.size : Int) then (if t290.size + (t291.extract 0 ((wrap64 (kh (wrap64 (a0_1 + 7)) 8)) : Int).toNat).size ≤ 9223372036854775807 then (some (t290 ++ (t291.extract 0 ((wrap64 (kh (wrap64 (a0_1 + 7)) 8)) : Int).toNat))) else (none)) else (none)) else (none)))
theorem impl_prefixBytes.mono : ∀ a0 a1 k, LeO (impl_prefixBytes.f k a0 a1) (impl_prefixBytes.f (k + 1) a0 a1) := by
 intro a0 a1 k; unfold impl_prefixBytes.f
 repeat' first
   | (with_reducible exact impl_bytesOf.mono _ _ _)
   | (with_reducible exact LeO.refl _)
   | (with_reducible refine zf ?_ (fun _ => ?_))
def impl_prefixBytes.T1 : Bool × List (List Nat × List Nat) := (true, [([], []), ([0], [0]), ([1], [1]), ([], []), ([3], [3]), ([4, 2], [4]), ([], []), ([6], [6]), ([7], [7]), ([8], [8]), ([5, 9], [5, 9]), ([2, 10], [2, 10]), ([11, 5, 0, 1, 2, 3, 4, 5, 6, 7, 8, 9, 10, 11], [11])])
def impl_prefixBytes.B1 : List Nat := [0, 1, 3, 0, 8, 31, 0, 64, 192, 448, 1023, 2047, 4095]
theorem impl_prefixBytes.tab1 : rtab .any (opsOf Try.f59 1) = impl_prefixBytes.T1 := by kernel_rfl
theorem impl_prefixBytes.bits1 : waitsOk impl_prefixBytes.T1.2 impl_prefixBytes.B1 = true := by kernel_rfl
theorem impl_prefixBytes.calls (k : Nat) (a0_0 : Int) (a0_1 : Int) (r : ByteArray) (w : World) (h : impl_prefixBytes.f k a0_0 a0_1 = some r) :
  Calls Try.prog 59 #[.agg #[.int .i64 a0_0, .int .i64 a0_1]] w fun e w' => e = .returned (.string r) ∧ Below w.heap.size w w' := by
 have hu35 := Try.underlying35; have HB := ky (Below.refl w.heap.size w); have H : ((impl_bytesOf.f k a0_1 1).bind fun t290 => ((impl_bytesOf.f k a0_0 4).bind fun t291 => (if 0 ≤ (wrap64 (kh (wrap64 (a0_1 + 7)) 8)) then (if (wrap64 (kh (wrap64 (a0_1 + 7)) 8)) ≤ (t291.size : Int) then (if t290.size + (t291.extract 0 ((wrap64 (kh (wrap64 (a0_1 + 7)) 8)) : Int).toNat).size ≤ 9223372036854775807 then (some (t290 ++ (t291.extract 0 ((wrap64 (kh (wrap64 (a0_1 + 7)) 8)) : Int).toNat))) else (none)) else (none)) else (none)))) = some r := h; clear h; replace H := kv.mp H; obtain ⟨t290, A20, H⟩ := H; replace H : ((impl_bytesOf.f k a0_0 4).bind fun t291 => (if 0 ≤ (wrap64 (kh (wrap64 (a0_1 + 7)) 8)) then (if (wrap64 (kh (wrap64 (a0_1 + 7)) 8)) ≤ (t291.size : Int) then (if t290.size + (t291.extract 0 ((wrap64 (kh (wrap64 (a0_1 + 7)) 8)) : Int).toNat).size ≤ 9223372036854775807 then (some (t290 ++ (t291.extract 0 ((wrap64 (kh (wrap64 (a0_1 + 7)) 8)) : Int).toNat))) else (none)) else (none)) else (none))) = some r := H; have A2 := ky A20; clear A20; replace H := kv.mp H; obtain ⟨t291, A30, H⟩ := H; replace H : (if 0 ≤ (wrap64 (kh (wrap64 (a0_1 + 7)) 8)) then (if (wrap64 (kh (wrap64 (a0_1 + 7)) 8)) ≤ (t291.size : Int) then (if t290.size + (t291.extract 0 ((wrap64 (kh (wrap64 (a0_1 + 7)) 8)) : Int).toNat).size ≤ 9223372036854775807 then (some (t290 ++ (t291.extract 0 ((wrap64 (kh (wrap64 (a0_1 + 7)) 8)) : Int).toNat))) else (none)) else (none)) else (none)) = some r := H; have A3 := ky A30; clear A30; obtain ⟨ji4, hji4⟩ : ∃ j_ : Int, (wrap64 (kh (wrap64 (a0_1 + 7)) 8)) = j_ := ⟨_, rfl⟩
 replace H : (if 0 ≤ (ji4) then (if (ji4) ≤ (t291.size : Int) then (if t290.size + (t291.extract 0 ((ji4) : Int).toNat).size ≤ 9223372036854775807 then (some (t290 ++ (t291.extract 0 ((ji4) : Int).toNat))) else (none)) else (none)) else (none)) = some r := by (rw [hji4] at H; exact H)
 (try rw [hji4] at A2); (try rw [hji4] at A3); have hji4w : (IntKind.i64.wrap (kh (wrap64 (a0_1 + 7)) 8)) = ji4 := (zi _).trans hji4; by_cases c5 : 0 ≤ (ji4)
 ·
  rw [if_pos c5] at H; have c5b0 := eq_true c5; have c5b1 : decide (0 ≤ (ji4)) = true := decide_eq_true c5; clear c5; by_cases c6 : (ji4) ≤ (t291.size : Int)
  ·
   rw [if_pos c6] at H; have c6b0 := eq_true c6; have c6b1 : decide ((ji4) ≤ (t291.size : Int)) = true := decide_eq_true c6; clear c6; by_cases c7 : t290.size + (t291.extract 0 ((ji4) : Int).toNat).size ≤ 9223372036854775807
   ·
    rw [if_pos c7] at H; have c7b0 := eq_true c7; have c7b1 : decide (t290.size + (t291.extract 0 ((ji4) : Int).toNat).size ≤ 9223372036854775807) = true := decide_eq_true c7; try have c7b2 : (9223372036854775807 < t290.size + (t291.extract 0 ((ji4) : Int).toNat).size) = False := eq_false (Nat.not_lt.2 c7)
    try have c7b3 : (9223372036854775807 < t290.size + ((ji4) : Int).toNat) = False := eq_false (by simp only [eq_iff_iff, iff_true, iff_false] at *; simp only [ByteArray.size_extract] at c7; omega)
    obtain rfl := Option.some.inj H; go_enter Try.func59, Try.ntmps59; try go_wp2_with (((with_reducible refine gate_dst (N := 1) rfl ?_); refine box_event ?hg (N := 1) ?hd (cs := #[.int .i64 a0_0, .int .i64 a0_1]) (t := 35) ?hr ?_; (case hd => rfl); (case hg => rfl); (case hr => (go_simp; done)); intro gb289 hg w8 hbox hb; replace HB := ky (zd HB.1 hb); have zo := ky hbox; clear hb hbox hg))
    replace zo := ky (blk_drew zo.1); replace HB := ky (zb HB.1); refine start_ (n := 13) (S := fun w' => w'.cell? ⟨gb289, 0, none⟩ = some (.int .i64 a0_0) ∧ w'.cell? ⟨gb289, 1, none⟩ = some (.int .i64 a0_1)) (ds := []) #[kx,kx,kx,kx,kx,kx,kx,kx,kx,kx,kx,kx,kx] (by kernel_rfl) rfl rfl ⟨(zh zo.1 0).trans rfl, (zh zo.1 1).trans rfl⟩ (fun hHeld => ?_); refine with_tabW impl_prefixBytes.tab1 impl_prefixBytes.bits1 (fun HT_ HW_ => ?_); generalize w8.drew = w9 at zo HB hHeld ⊢; refine zl (i := 0) (N := some 3) (v := ?_) (a' := ?_) #[ko,kx,kx,kx,kx,kx,kx,kx,kx,kx,kx,kx,kx] rfl rfl (zk HT_.1 (by kernel_rfl)) (fun _ _ _ h => h) (kc ⟨by rfl, ?_⟩) ?_ ?_; rotate_left; · intro w'; go_simp; with_reducible rfl
    rotate_left; · simp only [kf, kz, kj, kk, zi, zj]; rfl
    refine zl (i := 3) (N := some 6) (v := ?_) (a' := ?_) #[ko,kx,kx,ko,kx,kx,kx,kx,kx,kx,kx,kx,kx] rfl rfl (zk HT_.1 (by kernel_rfl)) (fun _ _ _ h => h) (kc ⟨by rfl, ?_⟩) ?_ ?_; rotate_left; · intro w'; go_simp; with_reducible rfl
    rotate_left; · simp only [kf, kz, kj, kk, zi, zj]; rfl
    refine zl (i := 6) (N := some 9) (v := ?_) (a' := ?_) #[ko,kx,kx,ko,kx,kx,ko,kx,kx,kx,kx,kx,kx] rfl rfl (zk HT_.1 (by kernel_rfl)) (fun _ _ _ h => h) (kc ⟨by rfl, ?_⟩) ?_ ?_; rotate_left; · intro w'; go_simp; with_reducible rfl
    rotate_left; · simp only [kf, kz, kj, kk, zi, zj]; rfl
    refine take_ (i := 1) (N := some 4) (v := ?_) (a' := ?_) #[ko,ko,kx,ko,kx,kx,ko,kx,kx,kx,kx,kx,kx] rfl rfl (take_ofW HT_.1 HW_.1 (by kernel_rfl)) (fun _ _ _ h => h) (kc ⟨by rfl, ?_⟩) hHeld ?_ ?_; rotate_left; · rintro w' ⟨s0, s1⟩; go_simp; with_reducible rfl
    rotate_left; · simp only [kf, kz, kj, kk, zi, zj]; rfl
    refine take_ (i := 4) (N := some 7) (v := ?_) (a' := ?_) #[ko,ko,kx,ko,ko,kx,ko,kx,kx,kx,kx,kx,kx] rfl rfl (take_ofW HT_.1 HW_.1 (by kernel_rfl)) (fun _ _ _ h => h) (kc ⟨by rfl, ?_⟩) hHeld ?_ ?_; rotate_left; · rintro w' ⟨s0, s1⟩; go_simp; with_reducible rfl
    rotate_left; · simp only [kf, kz, kj, kk, zi, zj]; rfl
    refine take_ (i := 7) (N := some 10) (v := ?_) (a' := ?_) #[ko,ko,kx,ko,ko,kx,ko,ko,kx,kx,kx,kx,kx] rfl rfl (take_ofW HT_.1 HW_.1 (by kernel_rfl)) (fun _ _ _ h => h) (kc ⟨by rfl, ?_⟩) hHeld ?_ ?_; rotate_left; · rintro w' ⟨s0, s1⟩; go_simp; with_reducible rfl
    rotate_left; · simp only [kf, kz, kj, kk, zi, zj]; rfl
    refine zl (i := 8) (N := some 11) (v := ?_) (a' := ?_) #[ko,ko,kx,ko,ko,kx,ko,ko,ko,kx,kx,kx,kx] rfl rfl (zk HT_.1 (by kernel_rfl)) (fun _ _ _ h => h) (kc ⟨by rfl, ?_⟩) ?_ ?_; rotate_left; · intro w'; go_simp; with_reducible rfl
    rotate_left; · simp only [kf, kz, kj, kk, zi, zj]; rfl
    refine zl (i := 9) (N := some 12) (v := ?_) (a' := ?_) #[ko,ko,kx,ko,ko,kx,ko,ko,ko,ko,kx,kx,kx] rfl rfl (zk HT_.1 (by kernel_rfl)) (fun _ _ _ h => h) (kc ⟨by rfl, ?_⟩) ?_ ?_; rotate_left; · intro w'; go_simp; with_reducible rfl
    rotate_left; · simp only [kf, kz, kj, kk, zi, zj]; rfl
    refine one_ (i := 2) (N := some 5) #[ko,ko,ko,ko,ko,kx,ko,ko,ko,ko,kx,kx,kx] rfl rfl (one_of HT_.1 (by kernel_rfl)) (by decide) (fun K hK => ?_); refine goes_ kd (by kernel_rfl) rfl #[.int .i64 a0_1, .int .i64 1] (by rfl) rfl rfl (by (try simp only [kg, ke, kb]); rfl) ?_; with_reducible refine (impl_bytesOf.calls k a0_1 1 t290 _ A2.1).mono ?_; rintro e w10 ⟨rfl, hb⟩; refine ⟨_, rfl, ?_⟩; replace zo := ky (blk_below (g := gb289) (o := .cells #[.int .i64 a0_0, .int .i64 a0_1] 35 (0, 0)) zo.1 hb); replace HB := ky (zd HB.1 hb); refine hK.out _ _ ⟨(zh zo.1 0).trans rfl, (zh zo.1 1).trans rfl⟩ (fun hHeld => ?_); clear hK K; refine norm_ (a' := ?_) ?_ ?_; rotate_left
    ·
     show kf _ (some 5) _ = _
     simp only [kf, kz, kj, kk, zi, zj]; rfl
    refine one_ (i := 5) (N := some 8) #[ko,ko,ko,ko,ko,ko,ko,ko,ko,ko,kx,kx,kx] rfl rfl (one_of HT_.1 (by kernel_rfl)) (by decide) (fun K hK => ?_); refine goes_ kd (by kernel_rfl) rfl #[.int .i64 a0_0, .int .i64 4] (by rfl) rfl rfl (by (try simp only [kg, ke, kb]); rfl) ?_; with_reducible refine (impl_bytesOf.calls k a0_0 4 t291 _ A3.1).mono ?_; rintro e w11 ⟨rfl, hb⟩; refine ⟨_, rfl, ?_⟩; replace zo := ky (blk_below (g := gb289) (o := .cells #[.int .i64 a0_0, .int .i64 a0_1] 35 (0, 0)) zo.1 hb); replace HB := ky (zd HB.1 hb); refine hK.out _ _ ⟨(zh zo.1 0).trans rfl, (zh zo.1 1).trans rfl⟩ (fun hHeld => ?_); clear hK K; refine norm_ (a' := ?_) ?_ ?_; rotate_left
    ·
     show kf _ (some 8) _ = _
     simp only [kf, kz, kj, kk, zi, zj]; rfl
    refine zl (i := 10) (N := some 13) (v := ?_) (a' := ?_) #[ko,ko,ko,ko,ko,ko,ko,ko,ko,ko,ko,kx,kx] rfl rfl (zk HT_.1 (by kernel_rfl)) (fun _ _ _ h => h) (kc ⟨by rfl, ?_⟩) ?_ ?_; rotate_left; · intro w'; go_simp; with_reducible rfl
    rotate_left; · simp only [kf, kz, kj, kk, zi, zj]; rfl
    refine zl (i := 11) (N := some 14) (v := ?_) (a' := ?_) #[ko,ko,ko,ko,ko,ko,ko,ko,ko,ko,ko,ko,kx] rfl rfl (zk HT_.1 (by kernel_rfl)) (fun _ _ _ h => h) (kc ⟨by rfl, ?_⟩) ?_ ?_; rotate_left; · intro w'; go_simp; with_reducible rfl
    rotate_left; · simp only [kf, kz, kj, kk, zi, zj]; rfl
    refine zl (i := 12) (N := some 2) (v := ?_) (a' := ?_) #[ko,ko,ko,ko,ko,ko,ko,ko,ko,ko,ko,ko,ko] rfl rfl (zk HT_.1 (by kernel_rfl)) (fun _ _ _ h => h) (kc ⟨by rfl, ?_⟩) ?_ ?_; rotate_left; · intro w'; go_simp; with_reducible rfl
    rotate_left; · simp only [kf, kz, kj, kk, zi, zj]; rfl
    refine done_ (done_of HT_.1 (by kernel_rfl)) ?_; try go_wp2
    go_ret; exact ⟨by rfl, by exact HB.1⟩
   · rw [if_neg c7] at H; exact absurd H (by simp)
  · rw [if_neg c6] at H; exact absurd H (by simp)
 · rw [if_neg c5] at H; exact absurd H (by simp)

/-! ### impl_prefixesBytes: function 114 -/
def impl_prefixesBytes.l0 : Nat → ByteArray → List (S35) → Int → Int → Option (ByteArray)
 | 0, _, _, _, _ => none
 | k + 1, x3, x9, x10, x11 => if x11 < x10 then (if 0 ≤ x11 then (if x11 < (x9.length : Int) then ((impl_prefixBytes.f k ((rd_T35 x9 x11).f0) ((rd_T35 x9 x11).f1)).bind fun t295 => (if x3.size + t295.size ≤ 9223372036854775807 then (impl_prefixesBytes.l0 k (x3 ++ t295) x9 x10 (wrap64 (x11 + 1))) else (none))) else (none)) else (none)) else (some x3)
def impl_prefixesBytes.f (k : Nat) (l0 : List (S35)) : Option (ByteArray) := (impl_bytesOf.f k (l0.length : Int) 1).bind fun t292 => (impl_prefixesBytes.l0 k t292 l0 (l0.length : Int) 0)
theorem impl_prefixesBytes.mono_l : ∀ k, (∀ y0 y1 y2 y3, LeO (impl_prefixesBytes.l0 k y0 y1 y2 y3) (impl_prefixesBytes.l0 (k + 1) y0 y1 y2 y3))
 | 0 => fun _ _ _ _ r h => by simp [impl_prefixesBytes.l0] at h
 | k + 1 => by
  have ih0 := impl_prefixesBytes.mono_l k
  ·
   intro y0 y1 y2 y3; unfold impl_prefixesBytes.l0; repeat' first
   | (with_reducible exact ih0 _ _ _ _)
   | (with_reducible exact impl_prefixBytes.mono _ _ _)
   | (with_reducible exact LeO.refl _)
   | (with_reducible refine zg ?_ ?_)
   | (with_reducible refine zf ?_ (fun _ => ?_))
theorem impl_prefixesBytes.mono : ∀ a0 k, LeO (impl_prefixesBytes.f k a0) (impl_prefixesBytes.f (k + 1) a0) := by
 intro a0 k; have ih0 := impl_prefixesBytes.mono_l k; unfold impl_prefixesBytes.f
 repeat' first
   | (with_reducible exact ih0 _ _ _ _)
   | (with_reducible exact impl_bytesOf.mono _ _ _)
   | (with_reducible refine zf ?_ (fun _ => ?_))
theorem impl_prefixesBytes.calls (k : Nat) (A0 : Option Addr) (c0 : Nat) (l0 : List (S35)) (r : ByteArray) (w : World) (hr0 : Kd.C k35 w A0 l0.length l0) (hc0 : l0.length ≤ c0) (h : impl_prefixesBytes.f k l0 = some r) :
  Calls Try.prog 114 #[.slice A0 l0.length c0] w fun e w' => e = .returned (.string r) ∧ Below w.heap.size w w' := by
 have hu35 := Try.underlying35; have HR0 := ky hr0; have HC0 := ky hc0; clear hr0 hc0; have HB := ky (Below.refl w.heap.size w); have H : ((impl_bytesOf.f k (l0.length : Int) 1).bind fun t292 => (impl_prefixesBytes.l0 k t292 l0 (l0.length : Int) 0)) = some r := h; clear h; replace H := kv.mp H; obtain ⟨t292, A20, H⟩ := H; replace H : (impl_prefixesBytes.l0 k t292 l0 (l0.length : Int) 0) = some r := H; have A2 := ky A20; clear A20; have H' := ky H; clear H; go_enter Try.func114, Try.ntmps114; go_wp2_with (((with_reducible refine gate_callee (f := 104) rfl ?_); refine goesL_ (some 8) rfl rfl kd (by kernel_rfl) rfl #[.int .i64 (l0.length : Int), .int .i64 1] rfl (by (try simp only [kg, ke, kb]); rfl) ?_; (with_reducible refine (impl_bytesOf.calls k (l0.length : Int) 1 t292 _ A2.1).mono ?_); rintro e w3 ⟨rfl, hb⟩; refine ⟨_, rfl, ?_⟩; replace HB := ky (zd HB.1 hb); (try clear hi))); go_loopg [3, 11] k (fun kq v3 v11 w' => ∃ (x3_1 : ByteArray) (zm : Int), v3 = .string x3_1 ∧ v11 = .int .i64 zm ∧ Aside0 (impl_prefixesBytes.l0 kq x3_1 l0 (l0.length : Int) zm = some r) ∧ Aside0 (kq ≤ k) ∧ Aside0 (Below w.heap.size w w')); case atStart => exact ⟨(t292), (0), (by rfl), (by rfl), H', ⟨Nat.le_refl _⟩, ⟨by exact HB.1⟩⟩
 case round =>
  clear H'; obtain ⟨x3_1, zm, rfl, rfl, HA, HK1, HB⟩ := hrel; cases gk with
  | zero => exact absurd HA.1 (by simp [impl_prefixesBytes.l0])
  | succ k1 =>
   have H := HA.1; clear HA; simp only [impl_prefixesBytes.l0] at H; by_cases c4 : zm < (l0.length : Int)
   ·
    rw [if_pos c4] at H; have c4b0 : decide (zm < (l0.length : Int)) = true := decide_eq_true c4; clear c4; by_cases c5 : 0 ≤ zm
    ·
     rw [if_pos c5] at H; have c5b0 : decide (0 ≤ zm) = true := decide_eq_true c5; clear c5; by_cases c6 : zm < (l0.length : Int)
     ·
      rw [if_pos c6] at H; have c6b0 : decide (zm < (l0.length : Int)) = true := decide_eq_true c6; clear c6; replace H := kv.mp H; obtain ⟨t295, A70, H⟩ := H; replace H : (if x3_1.size + t295.size ≤ 9223372036854775807 then (impl_prefixesBytes.l0 k1 (x3_1 ++ t295) l0 (l0.length : Int) (wrap64 (zm + 1))) else (none)) = some r := H; have A7 := ky A70; clear A70; by_cases c8 : x3_1.size + t295.size ≤ 9223372036854775807
      ·
       rw [if_pos c8] at H; have c8b0 := eq_true c8; have c8b1 : decide (x3_1.size + t295.size ≤ 9223372036854775807) = true := decide_eq_true c8; try have c8b2 : (9223372036854775807 < x3_1.size + t295.size) = False := eq_false (Nat.not_lt.2 c8)
       have H' := ky H; clear H; have p293 : 0 ≤ (zm : Int) := of_decide_eq_true (by (with_reducible assumption)); have q293 : zm < (l0.length : Int) := of_decide_eq_true (by (with_reducible assumption)); obtain ⟨ad293, e293, hx293_0, hx293_1⟩ := at_T35 HR0.1 zm p293 q293; cases e293; replace hx293_0 := (HB.1.cell (World.block_lt_of_cell? w _ hx293_0)).trans hx293_0; replace hx293_1 := (HB.1.cell (World.block_lt_of_cell? w _ hx293_1)).trans hx293_1; replace p293 := eq_true p293; replace q293 := eq_true q293; go_wp2_with (first | ((with_reducible refine gate_dst (N := 5) rfl ?_); refine box_event ?hg (N := 5) ?hd (cs := #[.int .i64 0, .int .i64 0]) (t := 35) ?hr ?_; (case hd => rfl); (case hg => rfl); (case hr => (go_simp; done)); intro gb294 hg w9 hbox hb; have zp := ky hbox; have GE294 := ky ((by rw [hg]; exact (below_size HB.1) : w.heap.size ≤ gb294)); replace HB := ky (zd HB.1 hb); clear hb hbox hg; have hcz10_0 : w9.cell? ⟨gb294, 0, none⟩ = some (.int .i64 0) := (zh zp.1 0).trans rfl; have hcz10_1 : w9.cell? ⟨gb294, 1, none⟩ = some (.int .i64 0) := (zh zp.1 1).trans rfl; have hfz10_0 := blk_frozen zp.1 0; have hfz10_1 := blk_frozen zp.1 1) | ((with_reducible refine gate_callee (f := 59) rfl ?_); refine goesL_ (some 17) rfl rfl Try.func59 (by kernel_rfl) rfl #[.agg #[.int .i64 ((rd_T35 l0 zm).f0), .int .i64 ((rd_T35 l0 zm).f1)]] rfl (by (try simp only [kg, ke, kb]); rfl) ?_; (with_reducible refine (impl_prefixBytes.calls k1 ((rd_T35 l0 zm).f0) ((rd_T35 l0 zm).f1) t295 _ A7.1).mono ?_); rintro e w11 ⟨rfl, hb⟩; refine ⟨_, rfl, ?_⟩; replace HB := ky (zd (by repeat ((with_reducible first | exact HB.1 | refine below_set ?_ GE294.1))) hb); (try clear hi))); go_roundg k1; case measure => have := HK1.1; omega
       case rel => exact ⟨(x3_1 ++ t295), (wrap64 (zm + 1)), (by rfl), (by rfl), H', ⟨by have := HK1.1; omega⟩, ⟨by exact HB.1⟩⟩
      · rw [if_neg c8] at H; exact absurd H (by simp)
     · rw [if_neg c6] at H; exact absurd H (by simp)
    · rw [if_neg c5] at H; exact absurd H (by simp)
   · rw [if_neg c4] at H; have c4b0 : decide (zm < (l0.length : Int)) = false := decide_eq_false c4; clear c4; obtain rfl := Option.some.inj H; go_wp2; go_ret; exact ⟨by rfl, by exact HB.1⟩

/-! ### impl_numbersBytes: function 115 -/
def impl_numbersBytes.l0 : Nat → Int → ByteArray → List Int → Int → Int → Option (ByteArray)
 | 0, _, _, _, _, _ => none
 | k + 1, x1, x5, x11, x12, x13 => if x13 < x12 then (if 0 ≤ x13 then (if x13 < (x11.length : Int) then ((impl_bytesOf.f k (rd x11 x13) x1).bind fun t298 => (if x5.size + t298.size ≤ 9223372036854775807 then (impl_numbersBytes.l0 k x1 (x5 ++ t298) x11 x12 (wrap64 (x13 + 1))) else (none))) else (none)) else (none)) else (some x5)
def impl_numbersBytes.f (k : Nat) (l0 : List Int) (a1 : Int) : Option (ByteArray) := (impl_bytesOf.f k (l0.length : Int) 1).bind fun t296 => (impl_numbersBytes.l0 k a1 t296 l0 (l0.length : Int) 0)
theorem impl_numbersBytes.mono_l : ∀ k, (∀ y0 y1 y2 y3 y4, LeO (impl_numbersBytes.l0 k y0 y1 y2 y3 y4) (impl_numbersBytes.l0 (k + 1) y0 y1 y2 y3 y4))
 | 0 => fun _ _ _ _ _ r h => by simp [impl_numbersBytes.l0] at h
 | k + 1 => by
  have ih0 := impl_numbersBytes.mono_l k
  ·
   intro y0 y1 y2 y3 y4; unfold impl_numbersBytes.l0; repeat' first
   | (with_reducible exact ih0 _ _ _ _ _)
   | (with_reducible exact impl_bytesOf.mono _ _ _)
   | (with_reducible exact LeO.refl _)
   | (with_reducible refine zg ?_ ?_)
   | (with_reducible refine zf ?_ (fun _ => ?_))
theorem impl_numbersBytes.mono : ∀ a0 a1 k, LeO (impl_numbersBytes.f k a0 a1) (impl_numbersBytes.f (k + 1) a0 a1) := by
 intro a0 a1 k; have ih0 := impl_numbersBytes.mono_l k; unfold impl_numbersBytes.f
 repeat' first
   | (with_reducible exact ih0 _ _ _ _ _)
   | (with_reducible exact impl_bytesOf.mono _ _ _)
   | (with_reducible refine zf ?_ (fun _ => ?_))
theorem impl_numbersBytes.calls (k : Nat) (A0 : Option Addr) (c0 : Nat) (l0 : List Int) (a1 : Int) (r : ByteArray) (w : World) (hr0 : Kd.C (Kd.int .i64) w A0 l0.length l0) (hc0 : l0.length ≤ c0) (h : impl_numbersBytes.f k l0 a1 = some r) :
  Calls Try.prog 115 #[.slice A0 l0.length c0, .int .i64 a1] w fun e w' => e = .returned (.string r) ∧ Below w.heap.size w w' := by
 have HR0 := ky hr0; have HC0 := ky hc0; clear hr0 hc0; have HB := ky (Below.refl w.heap.size w); have H : ((impl_bytesOf.f k (l0.length : Int) 1).bind fun t296 => (impl_numbersBytes.l0 k a1 t296 l0 (l0.length : Int) 0)) = some r := h; clear h; replace H := kv.mp H; obtain ⟨t296, A30, H⟩ := H; replace H : (impl_numbersBytes.l0 k a1 t296 l0 (l0.length : Int) 0) = some r := H; have A3 := ky A30; clear A30; have H' := ky H; clear H; go_enter Try.func115, Try.ntmps115; go_wp2_with (((with_reducible refine gate_callee (f := 104) rfl ?_); refine goesL_ (some 10) rfl rfl kd (by kernel_rfl) rfl #[.int .i64 (l0.length : Int), .int .i64 1] rfl (by (try simp only [kg, ke, kb]); rfl) ?_; (with_reducible refine (impl_bytesOf.calls k (l0.length : Int) 1 t296 _ A3.1).mono ?_); rintro e w4 ⟨rfl, hb⟩; refine ⟨_, rfl, ?_⟩; replace HB := ky (zd HB.1 hb); (try clear hi))); go_loopg [5, 13] k (fun kq v5 v13 w' => ∃ (x5_1 : ByteArray) (zn : Int), v5 = .string x5_1 ∧ v13 = .int .i64 zn ∧ Aside0 (impl_numbersBytes.l0 kq a1 x5_1 l0 (l0.length : Int) zn = some r) ∧ Aside0 (kq ≤ k) ∧ Aside0 (Below w.heap.size w w')); case atStart => exact ⟨(t296), (0), (by rfl), (by rfl), H', ⟨Nat.le_refl _⟩, ⟨by exact HB.1⟩⟩
 case round =>
  clear H'; obtain ⟨x5_1, zn, rfl, rfl, HA, HK1, HB⟩ := hrel; cases gk with
  | zero => exact absurd HA.1 (by simp [impl_numbersBytes.l0])
  | succ k1 =>
   have H := HA.1; clear HA; simp only [impl_numbersBytes.l0] at H; by_cases c5 : zn < (l0.length : Int)
   ·
    rw [if_pos c5] at H; have c5b0 : decide (zn < (l0.length : Int)) = true := decide_eq_true c5; clear c5; by_cases c6 : 0 ≤ zn
    ·
     rw [if_pos c6] at H; have c6b0 : decide (0 ≤ zn) = true := decide_eq_true c6; clear c6; by_cases c7 : zn < (l0.length : Int)
     ·
      rw [if_pos c7] at H; have c7b0 : decide (zn < (l0.length : Int)) = true := decide_eq_true c7; clear c7; replace H := kv.mp H; obtain ⟨t298, A80, H⟩ := H; replace H : (if x5_1.size + t298.size ≤ 9223372036854775807 then (impl_numbersBytes.l0 k1 a1 (x5_1 ++ t298) l0 (l0.length : Int) (wrap64 (zn + 1))) else (none)) = some r := H; have A8 := ky A80; clear A80; by_cases c9 : x5_1.size + t298.size ≤ 9223372036854775807
      ·
       rw [if_pos c9] at H; have c9b0 := eq_true c9; have c9b1 : decide (x5_1.size + t298.size ≤ 9223372036854775807) = true := decide_eq_true c9; try have c9b2 : (9223372036854775807 < x5_1.size + t298.size) = False := eq_false (Nat.not_lt.2 c9)
       have H' := ky H; clear H; have p297 : 0 ≤ (zn : Int) := of_decide_eq_true (by (with_reducible assumption)); have q297 : zn < (l0.length : Int) := of_decide_eq_true (by (with_reducible assumption)); obtain ⟨ad297, e297, hx297_0⟩ := Kd.at_int HR0.1 zn p297 q297; cases e297; replace hx297_0 := (HB.1.cell (World.block_lt_of_cell? w _ hx297_0)).trans hx297_0; replace p297 := eq_true p297; replace q297 := eq_true q297; go_wp2_with (((with_reducible refine gate_callee (f := 104) rfl ?_); refine goesL_ (some 20) rfl rfl kd (by kernel_rfl) rfl #[.int .i64 (rd l0 zn), .int .i64 a1] rfl (by (try simp only [kg, ke, kb]); rfl) ?_; (with_reducible refine (impl_bytesOf.calls k1 (rd l0 zn) a1 t298 _ A8.1).mono ?_); rintro e w10 ⟨rfl, hb⟩; refine ⟨_, rfl, ?_⟩; replace HB := ky (zd HB.1 hb); (try clear hi))); go_roundg k1; case measure => have := HK1.1; omega
       case rel => exact ⟨(x5_1 ++ t298), (wrap64 (zn + 1)), (by rfl), (by rfl), H', ⟨by have := HK1.1; omega⟩, ⟨by exact HB.1⟩⟩
      · rw [if_neg c9] at H; exact absurd H (by simp)
     · rw [if_neg c7] at H; exact absurd H (by simp)
    · rw [if_neg c6] at H; exact absurd H (by simp)
   · rw [if_neg c5] at H; have c5b0 : decide (zn < (l0.length : Int)) = false := decide_eq_false c5; clear c5; obtain rfl := Option.some.inj H; go_wp2; go_ret; exact ⟨by rfl, by exact HB.1⟩

end Go.Proofs.Ytlnfcobloolnnaa.PFnExactReadUpdate
