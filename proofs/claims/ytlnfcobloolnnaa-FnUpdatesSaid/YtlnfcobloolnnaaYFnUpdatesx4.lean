/- Go functions told by Lean functions, printed by a program. No condition but what each statement says. -/
import Derived.Test.YtlnfcobloolnnaaYFnUpdatesx3
namespace Go.Proofs.Ytlnfcobloolnnaa.PFnUpdates
open Go.RowKit Go.Proofs.YtlnfcobloolnnaaW.PrintWords Go.Proofs.YtlnfcobloolnnaaW.PrintLast Go.Proofs.YtlnfcobloolnnaaW.PrintMore
open List renaming setIfInBounds_toArray → kz, set_cons_zero → ky, set_cons_succ → kj, map_toArray → kg, map_cons → ke, map_nil → kb
open Act renaming put → kk
open Aside0 renaming mk → kv
open Or renaming inl → kh, inr → kf
open Bool renaming true → kd, false → kc
set_option maxHeartbeats 8000000
set_option maxRecDepth 100000
open Go.Proofs.YtlnfcobloolnnaaW.PrintLast renaming any_of → zd, i64_w → ze, i32_w → zf, pure_ → zh, take_ofW → zp, take_ → zs
open Go.Proofs.YtlnfcobloolnnaaW.PrintWords renaming below_drew1 → zb, blk_cell → zg, blk_drew → zi, below_set → zl, below_step → zm, below_size → zo, Aside0 → zq, blk_put → zr
attribute [local go_sem] max2_int min2_int max_two min_two max_three min_three max_four min_four
set_option linter.unusedVariables false
set_option linter.unusedSimpArgs false
/-! ### impl_areRising: function 73 -/
def impl_areRising.l0 : Nat → List (S35) → List (S35) → Int → Int → Option (Bool)
 | 0, _, _, _, _ => none
 | k + 1, x0, x5, x6, x7 => if x7 < x6 then (if 0 ≤ x7 then (if x7 < (x5.length : Int) then ((impl_GoodPrefix.f ((rd_T35 x5 x7).f0) ((rd_T35 x5 x7).f1)).bind fun t136 => (if t136 = true then (if x7 > 0 then (if 0 ≤ (wrap64 (x7 - 1)) then (if (wrap64 (x7 - 1)) < (x0.length : Int) then ((impl_compare.f k ((rd_T35 x0 (wrap64 (x7 - 1))).f0) ((rd_T35 x0 (wrap64 (x7 - 1))).f1) ((rd_T35 x5 x7).f0) ((rd_T35 x5 x7).f1)).bind fun t138 => (if t138 ≥ 0 then (some false) else (impl_areRising.l0 k x0 x5 x6 (wrap64 (x7 + 1))))) else (none)) else (none)) else (impl_areRising.l0 k x0 x5 x6 (wrap64 (x7 + 1)))) else (some false))) else (none)) else (none)) else (some true)
def impl_areRising.f (k : Nat) (l0 : List (S35)) : Option (Bool) := impl_areRising.l0 k l0 l0 (l0.length : Int) 0
def impl_areRising.T4 : Bool × List (List Nat × List Nat) := (true, [([], []), ([0], [0]), ([1], [1]), ([2, 1], [2]), ([3], [3]), ([4, 3], [3, 4]), ([5, 3, 3], [3, 5]), ([6], [6]), ([6], [6]), ([8, 6], [6, 8]), ([7, 9, 6], [6, 7, 9]), ([10, 6], [6, 10]), ([6], [6]), ([11, 12, 6, 6], [6, 11, 12]), ([13, 6], [6, 13]), ([6, 14, 3], [3, 6, 14]), ([3, 15], [3, 15])])
def impl_areRising.B4 : List Nat := [0, 1, 3, 7, 15, 31, 63, 127, 127, 383, 1023, 2047, 127, 8191, 16383, 32767, 65535]
theorem impl_areRising.tab4 : rtab .any (opsOf Try.f73 4) = impl_areRising.T4 := by kernel_rfl
theorem impl_areRising.bits4 : waitsOk impl_areRising.T4.2 impl_areRising.B4 = true := by kernel_rfl
theorem impl_areRising.calls (k : Nat) (A0 : Option Addr) (c0 : Nat) (l0 : List (S35)) (r : Bool) (w : World) (hr0 : Kd.C k35 w A0 l0.length l0) (hc0 : l0.length ≤ c0) (h : impl_areRising.f k l0 = some r) :
  Calls Try.prog 73 #[.slice A0 l0.length c0] w fun e w' => e = .returned (.bool r) ∧ Below w.heap.size w w' := by
 have hu35 := Try.underlying35; have HR0 := kv hr0; have HC0 := kv hc0; clear hr0 hc0; have HB := kv (Below.refl w.heap.size w); have H : (impl_areRising.l0 k l0 l0 (l0.length : Int) 0) = some r := h; clear h; have H' := kv H; clear H; go_enter Try.func73, Try.ntmps73; go_wp2; go_loopg [7] k (fun kq v7 w' => ∃ (x7_1 : Int), v7 = .int .i64 x7_1 ∧ zq (impl_areRising.l0 kq l0 l0 (l0.length : Int) x7_1 = some r) ∧ zq (kq ≤ k) ∧ zq (Below w.heap.size w w')); case atStart => exact ⟨(0), (by rfl), H', ⟨Nat.le_refl _⟩, ⟨by exact HB.1⟩⟩
 case round =>
  clear H'; obtain ⟨x7_1, rfl, HA, HK1, HB⟩ := hrel; cases gk with
  | zero => exact absurd HA.1 (by simp [impl_areRising.l0])
  | succ k1 =>
   have H := HA.1; clear HA; simp only [impl_areRising.l0] at H; by_cases c2 : x7_1 < (l0.length : Int)
   ·
    rw [if_pos c2] at H; have c2b0 := decide_eq_true c2; clear c2; by_cases c3 : 0 ≤ x7_1
    ·
     rw [if_pos c3] at H; have c3b0 := decide_eq_true c3; clear c3; by_cases c4 : x7_1 < (l0.length : Int)
     ·
      rw [if_pos c4] at H; have c4b0 := decide_eq_true c4; clear c4; replace H := Option.bind_eq_some_iff.mp H; obtain ⟨t136, A50, H⟩ := H; have A5 := kv A50; clear A50; by_cases c6 : t136 = true
      ·
       subst c6; rw [if_pos rfl] at H; by_cases c7 : x7_1 > 0
       ·
        rw [if_pos c7] at H; have c7b0 := decide_eq_true c7; clear c7; obtain ⟨ji8, hji8⟩ : ∃ j_ : Int, (wrap64 (x7_1 - 1)) = j_ := ⟨_, rfl⟩
        replace H : (if 0 ≤ (ji8) then (if (ji8) < (l0.length : Int) then ((impl_compare.f k1 ((rd_T35 l0 (ji8)).f0) ((rd_T35 l0 (ji8)).f1) ((rd_T35 l0 x7_1).f0) ((rd_T35 l0 x7_1).f1)).bind fun t138 => (if t138 ≥ 0 then (some false) else (impl_areRising.l0 k1 l0 l0 (l0.length : Int) (wrap64 (x7_1 + 1))))) else (none)) else (none)) = some r := by (rw [hji8] at H; exact H)
        (try rw [hji8] at A5); have hji8w : (IntKind.i64.wrap (x7_1 - 1)) = ji8 := (ze _).trans hji8; by_cases c9 : 0 ≤ (ji8)
        ·
         rw [if_pos c9] at H; have c9b0 := decide_eq_true c9; clear c9; by_cases c10 : (ji8) < (l0.length : Int)
         ·
          rw [if_pos c10] at H; have c10b0 := decide_eq_true c10; clear c10; replace H := Option.bind_eq_some_iff.mp H; obtain ⟨t138, A110, H⟩ := H; have A11 := kv A110; clear A110; by_cases c12 : t138 ≥ 0
          ·
           rw [if_pos c12] at H; have c12b0 := decide_eq_true c12; clear c12; obtain rfl := Option.some.inj H; have p134 : 0 ≤ (x7_1 : Int) := of_decide_eq_true (by (with_reducible assumption)); have q134 : x7_1 < (l0.length : Int) := of_decide_eq_true (by (with_reducible assumption)); obtain ⟨ad134, e134, hx134_0, hx134_1⟩ := at_T35 HR0.1 x7_1 p134 q134; cases e134; try replace hx134_0 := (HB.1.cell (World.block_lt_of_cell? w _ hx134_0)).trans hx134_0
           try replace hx134_1 := (HB.1.cell (World.block_lt_of_cell? w _ hx134_1)).trans hx134_1
           replace p134 := eq_true p134; replace q134 := eq_true q134; try go_wp2_with (((with_reducible refine gate_dst (N := 4) rfl ?_); refine box_event ?hg (N := 4) ?hd (cs := #[.int .i64 0, .int .i64 0]) (t := 35) ?hr ?_; (case hd => rfl); (case hg => rfl); (case hr => (go_simp; done)); intro gb135 hg w13 hbox hb; have zt := kv hbox; have zu := kv ((by rw [hg]; exact (zo HB.1) : w.heap.size ≤ gb135)); replace HB := kv (zm HB.1 hb); clear hb hbox hg; have hcz14_0 := bc2 zt.1))
           have n0_ : zq (((w13.setCell ⟨gb135, 0, none⟩ (.int .i64 ((rd_T35 l0 x7_1).f0))).setCell ⟨gb135, 1, none⟩ (.int .i64 ((rd_T35 l0 x7_1).f1))).heap[gb135]? = some (.cells #[.int .i64 ((rd_T35 l0 x7_1).f0), .int .i64 ((rd_T35 l0 x7_1).f1)] 35 (0, 0))) := ⟨by refine zr (cs := #[.int .i64 ((rd_T35 l0 x7_1).f0), .int .i64 0]) ?_ 1 _ rfl; refine zr (cs := #[.int .i64 0, .int .i64 0]) ?_ 0 _ rfl; exact zt.1⟩
           have n1_ : zq (Below w.heap.size w ((w13.setCell ⟨gb135, 0, none⟩ (.int .i64 ((rd_T35 l0 x7_1).f0))).setCell ⟨gb135, 1, none⟩ (.int .i64 ((rd_T35 l0 x7_1).f1)))) := ⟨by repeat ((with_reducible first | exact HB.1 | refine zl ?_ zu.1))⟩
           generalize ((w13.setCell ⟨gb135, 0, none⟩ (.int .i64 ((rd_T35 l0 x7_1).f0))).setCell ⟨gb135, 1, none⟩ (.int .i64 ((rd_T35 l0 x7_1).f1))) = w15 at n0_ n1_ ⊢; have zt := n0_; have HB := n1_; clear n0_ n1_; replace zt := kv (zi zt.1); replace HB := kv (zb HB.1); have p137 : 0 ≤ ((ji8) : Int) := of_decide_eq_true (by (with_reducible assumption)); have q137 : (ji8) < (l0.length : Int) := of_decide_eq_true (by (with_reducible assumption)); obtain ⟨ad137, e137, hx137_0, hx137_1⟩ := at_T35 HR0.1 (ji8) p137 q137; have hw137_1 := hx137_1; have hw137_0 := hx137_0; obtain rfl : ad134 = ad137 := (by injection e137)
           try replace hx137_0 := (HB.1.cell (World.block_lt_of_cell? w _ hx137_0)).trans hx137_0
           try replace hx137_1 := (HB.1.cell (World.block_lt_of_cell? w _ hx137_1)).trans hx137_1
           replace p137 := eq_true p137; replace q137 := eq_true q137; refine start_ (n := 17) (S := fun w' => w'.cell? ⟨gb135, 0, none⟩ = some (.int .i64 ((rd_T35 l0 x7_1).f0)) ∧ w'.cell? ⟨gb135, 1, none⟩ = some (.int .i64 ((rd_T35 l0 x7_1).f1)) ∧ w'.cell? (ad134.add (((ji8)).toNat * 2)) = some (.int .i64 ((rd_T35 l0 (ji8)).f0)) ∧ w'.cell? ⟨(ad134.add (((ji8)).toNat * 2)).block, (ad134.add (((ji8)).toNat * 2)).off + 1, none⟩ = some (.int .i64 ((rd_T35 l0 (ji8)).f1))) (ds := []) #[kc,kc,kc,kc,kc,kc,kc,kc,kc,kc,kc,kc,kc,kc,kc,kc,kc] (by kernel_rfl) rfl rfl ⟨(zg zt.1 0).trans rfl, (zg zt.1 1).trans rfl, ((HB.1.cell (World.block_lt_of_cell? w _ hw137_0)).trans hw137_0), ((HB.1.cell (World.block_lt_of_cell? w _ hw137_1)).trans hw137_1)⟩ (fun hHeld => ?_); refine with_tabW impl_areRising.tab4 impl_areRising.bits4 (fun HT_ HW_ => ?_); generalize w15.drew = w16 at zt HB hx137_0 hx137_1 hHeld ⊢; refine zs (i := 0) (N := some 12) (v := ?_) (a' := ?_) #[kd,kc,kc,kc,kc,kc,kc,kc,kc,kc,kc,kc,kc,kc,kc,kc,kc] rfl rfl (zp HT_.1 HW_.1 (by kernel_rfl)) (fun _ _ _ h => h) (kh ⟨by rfl, ?_⟩) hHeld ?_ ?_; rotate_left; · rintro w' ⟨s0, s1, s2, s3⟩; go_simp; with_reducible rfl
           rotate_left; · simp only [kk, kz, ky, kj, ze, zf]; rfl
           refine one_ (i := 1) (N := some 13) #[kd,kd,kc,kc,kc,kc,kc,kc,kc,kc,kc,kc,kc,kc,kc,kc,kc] rfl rfl (one_of HT_.1 (by kernel_rfl)) (by decide) (fun K hK => ?_); refine goes_ Try.func58 (by kernel_rfl) rfl #[.agg #[.int .i64 ((rd_T35 l0 x7_1).f0), .int .i64 ((rd_T35 l0 x7_1).f1)]] (by rfl) rfl rfl (by (try simp only [kg, ke, kb]); rfl) ?_; with_reducible refine (impl_GoodPrefix.calls ((rd_T35 l0 x7_1).f0) ((rd_T35 l0 x7_1).f1) true _ A5.1).mono ?_; rintro e w17 ⟨rfl, hb⟩; refine ⟨_, rfl, ?_⟩; replace zt := kv (blk_below (g := gb135) (o := .cells #[.int .i64 ((rd_T35 l0 x7_1).f0), .int .i64 ((rd_T35 l0 x7_1).f1)] 35 (0, 0)) zt.1 hb); replace HB := kv (zm HB.1 hb); refine hK.out _ _ ⟨(zg zt.1 0).trans rfl, (zg zt.1 1).trans rfl, ((HB.1.cell (World.block_lt_of_cell? w _ hw137_0)).trans hw137_0), ((HB.1.cell (World.block_lt_of_cell? w _ hw137_1)).trans hw137_1)⟩ (fun hHeld => ?_); clear hK K; refine norm_ (a' := ?_) ?_ ?_; rotate_left
           ·
            show kk _ (some 13) _ = _
            simp only [kk, kz, ky, kj, ze, zf]; rfl
           refine zh (i := 2) (N := some 14) (v := ?_) (a' := ?_) #[kd,kd,kd,kc,kc,kc,kc,kc,kc,kc,kc,kc,kc,kc,kc,kc,kc] rfl rfl (zd HT_.1 (by kernel_rfl)) (fun _ _ _ h => h) (kh ⟨by rfl, ?_⟩) ?_ ?_; rotate_left; · intro w'; go_simp; with_reducible rfl
           rotate_left; · simp only [kk, kz, ky, kj, ze, zf]; rfl
           refine zh (i := 3) (N := some 15) (v := ?_) (a' := ?_) #[kd,kd,kd,kd,kc,kc,kc,kc,kc,kc,kc,kc,kc,kc,kc,kc,kc] rfl rfl (zd HT_.1 (by kernel_rfl)) (fun _ _ _ h => h) (kh ⟨by rfl, ?_⟩) ?_ ?_; rotate_left; · intro w'; go_simp; with_reducible rfl
           rotate_left; · simp only [kk, kz, ky, kj, ze, zf]; rfl
           refine zh (i := 4) (N := some 16) (v := ?_) (a' := ?_) #[kd,kd,kd,kd,kd,kc,kc,kc,kc,kc,kc,kc,kc,kc,kc,kc,kc] rfl rfl (zd HT_.1 (by kernel_rfl)) (fun _ _ _ h => h) (kh ⟨by rfl, ?_⟩) ?_ ?_; rotate_left; · intro w'; go_simp; with_reducible rfl
           rotate_left; · simp only [kk, kz, ky, kj, ze, zf]; rfl
           refine zh (i := 5) (N := some 17) (v := ?_) (a' := ?_) #[kd,kd,kd,kd,kd,kd,kc,kc,kc,kc,kc,kc,kc,kc,kc,kc,kc] rfl rfl (zd HT_.1 (by kernel_rfl)) (fun _ _ _ h => h) (kh ⟨by rfl, ?_⟩) ?_ ?_; rotate_left; · intro w'; go_simp; with_reducible rfl
           rotate_left; · simp only [kk, kz, ky, kj, ze, zf]; rfl
           refine zh (i := 6) (N := some 18) (v := ?_) (a' := ?_) #[kd,kd,kd,kd,kd,kd,kd,kc,kc,kc,kc,kc,kc,kc,kc,kc,kc] rfl rfl (zd HT_.1 (by kernel_rfl)) (fun _ _ _ h => h) (kh ⟨by rfl, ?_⟩) ?_ ?_; rotate_left; · intro w'; go_simp; with_reducible rfl
           rotate_left; · simp only [kk, kz, ky, kj, ze, zf]; rfl
           refine zh (i := 7) (N := some 19) (v := ?_) (a' := ?_) #[kd,kd,kd,kd,kd,kd,kd,kd,kc,kc,kc,kc,kc,kc,kc,kc,kc] rfl rfl (zd HT_.1 (by kernel_rfl)) (fun _ _ _ h => h) (kh ⟨by rfl, ?_⟩) ?_ ?_; rotate_left; · intro w'; go_simp; with_reducible rfl
           rotate_left; · simp only [kk, kz, ky, kj, ze, zf]; rfl
           refine zh (i := 8) (N := some 20) (v := ?_) (a' := ?_) #[kd,kd,kd,kd,kd,kd,kd,kd,kd,kc,kc,kc,kc,kc,kc,kc,kc] rfl rfl (zd HT_.1 (by kernel_rfl)) (fun _ _ _ h => h) (kh ⟨by rfl, ?_⟩) ?_ ?_; rotate_left; · intro w'; go_simp; with_reducible rfl
           rotate_left; · simp only [kk, kz, ky, kj, ze, zf]; rfl
           refine zh (i := 9) (N := some 21) (v := ?_) (a' := ?_) #[kd,kd,kd,kd,kd,kd,kd,kd,kd,kd,kc,kc,kc,kc,kc,kc,kc] rfl rfl (zd HT_.1 (by kernel_rfl)) (fun _ _ _ h => h) (kh ⟨by rfl, ?_⟩) ?_ ?_; rotate_left; · intro w'; go_simp; with_reducible rfl
           rotate_left; · simp only [kk, kz, ky, kj, ze, zf]; rfl
           refine zh (i := 10) (N := some 22) (v := ?_) (a' := ?_) #[kd,kd,kd,kd,kd,kd,kd,kd,kd,kd,kd,kc,kc,kc,kc,kc,kc] rfl rfl (zd HT_.1 (by kernel_rfl)) (fun _ _ _ h => h) (kh ⟨by rfl, ?_⟩) ?_ ?_; rotate_left; · intro w'; go_simp; with_reducible rfl
           rotate_left; · simp only [kk, kz, ky, kj, ze, zf]; rfl
           refine zs (i := 11) (N := some 23) (v := ?_) (a' := ?_) #[kd,kd,kd,kd,kd,kd,kd,kd,kd,kd,kd,kd,kc,kc,kc,kc,kc] rfl rfl (zp HT_.1 HW_.1 (by kernel_rfl)) (fun _ _ _ h => h) (kh ⟨by rfl, ?_⟩) hHeld ?_ ?_; rotate_left; · rintro w' ⟨s0, s1, s2, s3⟩; go_simp; with_reducible rfl
           rotate_left; · simp only [kk, kz, ky, kj, ze, zf]; rfl
           refine zs (i := 12) (N := some 24) (v := ?_) (a' := ?_) #[kd,kd,kd,kd,kd,kd,kd,kd,kd,kd,kd,kd,kd,kc,kc,kc,kc] rfl rfl (zp HT_.1 HW_.1 (by kernel_rfl)) (fun _ _ _ h => h) (kh ⟨by rfl, ?_⟩) hHeld ?_ ?_; rotate_left; · rintro w' ⟨s0, s1, s2, s3⟩; go_simp; with_reducible rfl
           rotate_left; · simp only [kk, kz, ky, kj, ze, zf]; rfl
           refine one_ (i := 13) (N := some 25) #[kd,kd,kd,kd,kd,kd,kd,kd,kd,kd,kd,kd,kd,kd,kc,kc,kc] rfl rfl (one_of HT_.1 (by kernel_rfl)) (by decide) (fun K hK => ?_); refine goes_ Try.func108 (by kernel_rfl) rfl #[.agg #[.int .i64 ((rd_T35 l0 (ji8)).f0), .int .i64 ((rd_T35 l0 (ji8)).f1)], .agg #[.int .i64 ((rd_T35 l0 x7_1).f0), .int .i64 ((rd_T35 l0 x7_1).f1)]] (by rfl) rfl rfl (by (try simp only [kg, ke, kb]); rfl) ?_; with_reducible refine (impl_compare.calls k1 ((rd_T35 l0 (ji8)).f0) ((rd_T35 l0 (ji8)).f1) ((rd_T35 l0 x7_1).f0) ((rd_T35 l0 x7_1).f1) t138 _ A11.1).mono ?_; rintro e w18 ⟨rfl, hb⟩; refine ⟨_, rfl, ?_⟩; replace zt := kv (blk_below (g := gb135) (o := .cells #[.int .i64 ((rd_T35 l0 x7_1).f0), .int .i64 ((rd_T35 l0 x7_1).f1)] 35 (0, 0)) zt.1 hb); replace HB := kv (zm HB.1 hb); refine hK.out _ _ ⟨(zg zt.1 0).trans rfl, (zg zt.1 1).trans rfl, ((HB.1.cell (World.block_lt_of_cell? w _ hw137_0)).trans hw137_0), ((HB.1.cell (World.block_lt_of_cell? w _ hw137_1)).trans hw137_1)⟩ (fun hHeld => ?_); clear hK K; refine norm_ (a' := ?_) ?_ ?_; rotate_left
           ·
            show kk _ (some 25) _ = _
            simp only [kk, kz, ky, kj, ze, zf]; rfl
           refine zh (i := 14) (N := some 26) (v := ?_) (a' := ?_) #[kd,kd,kd,kd,kd,kd,kd,kd,kd,kd,kd,kd,kd,kd,kd,kc,kc] rfl rfl (zd HT_.1 (by kernel_rfl)) (fun _ _ _ h => h) (kh ⟨by rfl, ?_⟩) ?_ ?_; rotate_left; · intro w'; go_simp; with_reducible rfl
           rotate_left; · simp only [kk, kz, ky, kj, ze, zf]; rfl
           refine zh (i := 15) (N := some 27) (v := ?_) (a' := ?_) #[kd,kd,kd,kd,kd,kd,kd,kd,kd,kd,kd,kd,kd,kd,kd,kd,kc] rfl rfl (zd HT_.1 (by kernel_rfl)) (fun _ _ _ h => h) (kh ⟨by rfl, ?_⟩) ?_ ?_; rotate_left; · intro w'; go_simp; with_reducible rfl
           rotate_left; · simp only [kk, kz, ky, kj, ze, zf]; rfl
           refine zh (i := 16) (N := some 28) (v := ?_) (a' := ?_) #[kd,kd,kd,kd,kd,kd,kd,kd,kd,kd,kd,kd,kd,kd,kd,kd,kd] rfl rfl (zd HT_.1 (by kernel_rfl)) (fun _ _ _ h => h) (kh ⟨by rfl, ?_⟩) ?_ ?_; rotate_left; · intro w'; go_simp; with_reducible rfl
           rotate_left; · simp only [kk, kz, ky, kj, ze, zf]; rfl
           refine done_ (done_of HT_.1 (by kernel_rfl)) ?_; try go_wp2
           go_ret; exact ⟨by rfl, by exact HB.1⟩
          ·
           rw [if_neg c12] at H; have c12b0 := decide_eq_false c12; clear c12; have H' := kv H; clear H; have p134 : 0 ≤ (x7_1 : Int) := of_decide_eq_true (by (with_reducible assumption)); have q134 : x7_1 < (l0.length : Int) := of_decide_eq_true (by (with_reducible assumption)); obtain ⟨ad134, e134, hx134_0, hx134_1⟩ := at_T35 HR0.1 x7_1 p134 q134; cases e134; try replace hx134_0 := (HB.1.cell (World.block_lt_of_cell? w _ hx134_0)).trans hx134_0
           try replace hx134_1 := (HB.1.cell (World.block_lt_of_cell? w _ hx134_1)).trans hx134_1
           replace p134 := eq_true p134; replace q134 := eq_true q134; try go_wp2_with (((with_reducible refine gate_dst (N := 4) rfl ?_); refine box_event ?hg (N := 4) ?hd (cs := #[.int .i64 0, .int .i64 0]) (t := 35) ?hr ?_; (case hd => rfl); (case hg => rfl); (case hr => (go_simp; done)); intro gb135 hg w19 hbox hb; have zt := kv hbox; have zu := kv ((by rw [hg]; exact (zo HB.1) : w.heap.size ≤ gb135)); replace HB := kv (zm HB.1 hb); clear hb hbox hg; have hcz20_0 := bc2 zt.1))
           have n0_ : zq (((w19.setCell ⟨gb135, 0, none⟩ (.int .i64 ((rd_T35 l0 x7_1).f0))).setCell ⟨gb135, 1, none⟩ (.int .i64 ((rd_T35 l0 x7_1).f1))).heap[gb135]? = some (.cells #[.int .i64 ((rd_T35 l0 x7_1).f0), .int .i64 ((rd_T35 l0 x7_1).f1)] 35 (0, 0))) := ⟨by refine zr (cs := #[.int .i64 ((rd_T35 l0 x7_1).f0), .int .i64 0]) ?_ 1 _ rfl; refine zr (cs := #[.int .i64 0, .int .i64 0]) ?_ 0 _ rfl; exact zt.1⟩
           have n1_ : zq (Below w.heap.size w ((w19.setCell ⟨gb135, 0, none⟩ (.int .i64 ((rd_T35 l0 x7_1).f0))).setCell ⟨gb135, 1, none⟩ (.int .i64 ((rd_T35 l0 x7_1).f1)))) := ⟨by repeat ((with_reducible first | exact HB.1 | refine zl ?_ zu.1))⟩
           generalize ((w19.setCell ⟨gb135, 0, none⟩ (.int .i64 ((rd_T35 l0 x7_1).f0))).setCell ⟨gb135, 1, none⟩ (.int .i64 ((rd_T35 l0 x7_1).f1))) = w21 at n0_ n1_ ⊢; have zt := n0_; have HB := n1_; clear n0_ n1_; replace zt := kv (zi zt.1); replace HB := kv (zb HB.1); have p137 : 0 ≤ ((ji8) : Int) := of_decide_eq_true (by (with_reducible assumption)); have q137 : (ji8) < (l0.length : Int) := of_decide_eq_true (by (with_reducible assumption)); obtain ⟨ad137, e137, hx137_0, hx137_1⟩ := at_T35 HR0.1 (ji8) p137 q137; have hw137_1 := hx137_1; have hw137_0 := hx137_0; obtain rfl : ad134 = ad137 := (by injection e137)
           try replace hx137_0 := (HB.1.cell (World.block_lt_of_cell? w _ hx137_0)).trans hx137_0
           try replace hx137_1 := (HB.1.cell (World.block_lt_of_cell? w _ hx137_1)).trans hx137_1
           replace p137 := eq_true p137; replace q137 := eq_true q137; refine start_ (n := 17) (S := fun w' => w'.cell? ⟨gb135, 0, none⟩ = some (.int .i64 ((rd_T35 l0 x7_1).f0)) ∧ w'.cell? ⟨gb135, 1, none⟩ = some (.int .i64 ((rd_T35 l0 x7_1).f1)) ∧ w'.cell? (ad134.add (((ji8)).toNat * 2)) = some (.int .i64 ((rd_T35 l0 (ji8)).f0)) ∧ w'.cell? ⟨(ad134.add (((ji8)).toNat * 2)).block, (ad134.add (((ji8)).toNat * 2)).off + 1, none⟩ = some (.int .i64 ((rd_T35 l0 (ji8)).f1))) (ds := []) #[kc,kc,kc,kc,kc,kc,kc,kc,kc,kc,kc,kc,kc,kc,kc,kc,kc] (by kernel_rfl) rfl rfl ⟨(zg zt.1 0).trans rfl, (zg zt.1 1).trans rfl, ((HB.1.cell (World.block_lt_of_cell? w _ hw137_0)).trans hw137_0), ((HB.1.cell (World.block_lt_of_cell? w _ hw137_1)).trans hw137_1)⟩ (fun hHeld => ?_); refine with_tabW impl_areRising.tab4 impl_areRising.bits4 (fun HT_ HW_ => ?_); generalize w21.drew = w22 at zt HB hx137_0 hx137_1 hHeld ⊢; refine zs (i := 0) (N := some 12) (v := ?_) (a' := ?_) #[kd,kc,kc,kc,kc,kc,kc,kc,kc,kc,kc,kc,kc,kc,kc,kc,kc] rfl rfl (zp HT_.1 HW_.1 (by kernel_rfl)) (fun _ _ _ h => h) (kh ⟨by rfl, ?_⟩) hHeld ?_ ?_; rotate_left; · rintro w' ⟨s0, s1, s2, s3⟩; go_simp; with_reducible rfl
           rotate_left; · simp only [kk, kz, ky, kj, ze, zf]; rfl
           refine one_ (i := 1) (N := some 13) #[kd,kd,kc,kc,kc,kc,kc,kc,kc,kc,kc,kc,kc,kc,kc,kc,kc] rfl rfl (one_of HT_.1 (by kernel_rfl)) (by decide) (fun K hK => ?_); refine goes_ Try.func58 (by kernel_rfl) rfl #[.agg #[.int .i64 ((rd_T35 l0 x7_1).f0), .int .i64 ((rd_T35 l0 x7_1).f1)]] (by rfl) rfl rfl (by (try simp only [kg, ke, kb]); rfl) ?_; with_reducible refine (impl_GoodPrefix.calls ((rd_T35 l0 x7_1).f0) ((rd_T35 l0 x7_1).f1) true _ A5.1).mono ?_; rintro e w23 ⟨rfl, hb⟩; refine ⟨_, rfl, ?_⟩; replace zt := kv (blk_below (g := gb135) (o := .cells #[.int .i64 ((rd_T35 l0 x7_1).f0), .int .i64 ((rd_T35 l0 x7_1).f1)] 35 (0, 0)) zt.1 hb); replace HB := kv (zm HB.1 hb); refine hK.out _ _ ⟨(zg zt.1 0).trans rfl, (zg zt.1 1).trans rfl, ((HB.1.cell (World.block_lt_of_cell? w _ hw137_0)).trans hw137_0), ((HB.1.cell (World.block_lt_of_cell? w _ hw137_1)).trans hw137_1)⟩ (fun hHeld => ?_); clear hK K; refine norm_ (a' := ?_) ?_ ?_; rotate_left
           ·
            show kk _ (some 13) _ = _
            simp only [kk, kz, ky, kj, ze, zf]; rfl
           refine zh (i := 2) (N := some 14) (v := ?_) (a' := ?_) #[kd,kd,kd,kc,kc,kc,kc,kc,kc,kc,kc,kc,kc,kc,kc,kc,kc] rfl rfl (zd HT_.1 (by kernel_rfl)) (fun _ _ _ h => h) (kh ⟨by rfl, ?_⟩) ?_ ?_; rotate_left; · intro w'; go_simp; with_reducible rfl
           rotate_left; · simp only [kk, kz, ky, kj, ze, zf]; rfl
           refine zh (i := 3) (N := some 15) (v := ?_) (a' := ?_) #[kd,kd,kd,kd,kc,kc,kc,kc,kc,kc,kc,kc,kc,kc,kc,kc,kc] rfl rfl (zd HT_.1 (by kernel_rfl)) (fun _ _ _ h => h) (kh ⟨by rfl, ?_⟩) ?_ ?_; rotate_left; · intro w'; go_simp; with_reducible rfl
           rotate_left; · simp only [kk, kz, ky, kj, ze, zf]; rfl
           refine zh (i := 4) (N := some 16) (v := ?_) (a' := ?_) #[kd,kd,kd,kd,kd,kc,kc,kc,kc,kc,kc,kc,kc,kc,kc,kc,kc] rfl rfl (zd HT_.1 (by kernel_rfl)) (fun _ _ _ h => h) (kh ⟨by rfl, ?_⟩) ?_ ?_; rotate_left; · intro w'; go_simp; with_reducible rfl
           rotate_left; · simp only [kk, kz, ky, kj, ze, zf]; rfl
           refine zh (i := 5) (N := some 17) (v := ?_) (a' := ?_) #[kd,kd,kd,kd,kd,kd,kc,kc,kc,kc,kc,kc,kc,kc,kc,kc,kc] rfl rfl (zd HT_.1 (by kernel_rfl)) (fun _ _ _ h => h) (kh ⟨by rfl, ?_⟩) ?_ ?_; rotate_left; · intro w'; go_simp; with_reducible rfl
           rotate_left; · simp only [kk, kz, ky, kj, ze, zf]; rfl
           refine zh (i := 6) (N := some 18) (v := ?_) (a' := ?_) #[kd,kd,kd,kd,kd,kd,kd,kc,kc,kc,kc,kc,kc,kc,kc,kc,kc] rfl rfl (zd HT_.1 (by kernel_rfl)) (fun _ _ _ h => h) (kh ⟨by rfl, ?_⟩) ?_ ?_; rotate_left; · intro w'; go_simp; with_reducible rfl
           rotate_left; · simp only [kk, kz, ky, kj, ze, zf]; rfl
           refine zh (i := 7) (N := some 19) (v := ?_) (a' := ?_) #[kd,kd,kd,kd,kd,kd,kd,kd,kc,kc,kc,kc,kc,kc,kc,kc,kc] rfl rfl (zd HT_.1 (by kernel_rfl)) (fun _ _ _ h => h) (kh ⟨by rfl, ?_⟩) ?_ ?_; rotate_left; · intro w'; go_simp; with_reducible rfl
           rotate_left; · simp only [kk, kz, ky, kj, ze, zf]; rfl
           refine zh (i := 8) (N := some 20) (v := ?_) (a' := ?_) #[kd,kd,kd,kd,kd,kd,kd,kd,kd,kc,kc,kc,kc,kc,kc,kc,kc] rfl rfl (zd HT_.1 (by kernel_rfl)) (fun _ _ _ h => h) (kh ⟨by rfl, ?_⟩) ?_ ?_; rotate_left; · intro w'; go_simp; with_reducible rfl
           rotate_left; · simp only [kk, kz, ky, kj, ze, zf]; rfl
           refine zh (i := 9) (N := some 21) (v := ?_) (a' := ?_) #[kd,kd,kd,kd,kd,kd,kd,kd,kd,kd,kc,kc,kc,kc,kc,kc,kc] rfl rfl (zd HT_.1 (by kernel_rfl)) (fun _ _ _ h => h) (kh ⟨by rfl, ?_⟩) ?_ ?_; rotate_left; · intro w'; go_simp; with_reducible rfl
           rotate_left; · simp only [kk, kz, ky, kj, ze, zf]; rfl
           refine zh (i := 10) (N := some 22) (v := ?_) (a' := ?_) #[kd,kd,kd,kd,kd,kd,kd,kd,kd,kd,kd,kc,kc,kc,kc,kc,kc] rfl rfl (zd HT_.1 (by kernel_rfl)) (fun _ _ _ h => h) (kh ⟨by rfl, ?_⟩) ?_ ?_; rotate_left; · intro w'; go_simp; with_reducible rfl
           rotate_left; · simp only [kk, kz, ky, kj, ze, zf]; rfl
           refine zs (i := 11) (N := some 23) (v := ?_) (a' := ?_) #[kd,kd,kd,kd,kd,kd,kd,kd,kd,kd,kd,kd,kc,kc,kc,kc,kc] rfl rfl (zp HT_.1 HW_.1 (by kernel_rfl)) (fun _ _ _ h => h) (kh ⟨by rfl, ?_⟩) hHeld ?_ ?_; rotate_left; · rintro w' ⟨s0, s1, s2, s3⟩; go_simp; with_reducible rfl
           rotate_left; · simp only [kk, kz, ky, kj, ze, zf]; rfl
           refine zs (i := 12) (N := some 24) (v := ?_) (a' := ?_) #[kd,kd,kd,kd,kd,kd,kd,kd,kd,kd,kd,kd,kd,kc,kc,kc,kc] rfl rfl (zp HT_.1 HW_.1 (by kernel_rfl)) (fun _ _ _ h => h) (kh ⟨by rfl, ?_⟩) hHeld ?_ ?_; rotate_left; · rintro w' ⟨s0, s1, s2, s3⟩; go_simp; with_reducible rfl
           rotate_left; · simp only [kk, kz, ky, kj, ze, zf]; rfl
           refine one_ (i := 13) (N := some 25) #[kd,kd,kd,kd,kd,kd,kd,kd,kd,kd,kd,kd,kd,kd,kc,kc,kc] rfl rfl (one_of HT_.1 (by kernel_rfl)) (by decide) (fun K hK => ?_); refine goes_ Try.func108 (by kernel_rfl) rfl #[.agg #[.int .i64 ((rd_T35 l0 (ji8)).f0), .int .i64 ((rd_T35 l0 (ji8)).f1)], .agg #[.int .i64 ((rd_T35 l0 x7_1).f0), .int .i64 ((rd_T35 l0 x7_1).f1)]] (by rfl) rfl rfl (by (try simp only [kg, ke, kb]); rfl) ?_; with_reducible refine (impl_compare.calls k1 ((rd_T35 l0 (ji8)).f0) ((rd_T35 l0 (ji8)).f1) ((rd_T35 l0 x7_1).f0) ((rd_T35 l0 x7_1).f1) t138 _ A11.1).mono ?_; rintro e w24 ⟨rfl, hb⟩; refine ⟨_, rfl, ?_⟩; replace zt := kv (blk_below (g := gb135) (o := .cells #[.int .i64 ((rd_T35 l0 x7_1).f0), .int .i64 ((rd_T35 l0 x7_1).f1)] 35 (0, 0)) zt.1 hb); replace HB := kv (zm HB.1 hb); refine hK.out _ _ ⟨(zg zt.1 0).trans rfl, (zg zt.1 1).trans rfl, ((HB.1.cell (World.block_lt_of_cell? w _ hw137_0)).trans hw137_0), ((HB.1.cell (World.block_lt_of_cell? w _ hw137_1)).trans hw137_1)⟩ (fun hHeld => ?_); clear hK K; refine norm_ (a' := ?_) ?_ ?_; rotate_left
           ·
            show kk _ (some 25) _ = _
            simp only [kk, kz, ky, kj, ze, zf]; rfl
           refine zh (i := 14) (N := some 26) (v := ?_) (a' := ?_) #[kd,kd,kd,kd,kd,kd,kd,kd,kd,kd,kd,kd,kd,kd,kd,kc,kc] rfl rfl (zd HT_.1 (by kernel_rfl)) (fun _ _ _ h => h) (kh ⟨by rfl, ?_⟩) ?_ ?_; rotate_left; · intro w'; go_simp; with_reducible rfl
           rotate_left; · simp only [kk, kz, ky, kj, ze, zf]; rfl
           refine zh (i := 15) (N := some 27) (v := ?_) (a' := ?_) #[kd,kd,kd,kd,kd,kd,kd,kd,kd,kd,kd,kd,kd,kd,kd,kd,kc] rfl rfl (zd HT_.1 (by kernel_rfl)) (fun _ _ _ h => h) (kh ⟨by rfl, ?_⟩) ?_ ?_; rotate_left; · intro w'; go_simp; with_reducible rfl
           rotate_left; · simp only [kk, kz, ky, kj, ze, zf]; rfl
           refine zh (i := 16) (N := some 28) (v := ?_) (a' := ?_) #[kd,kd,kd,kd,kd,kd,kd,kd,kd,kd,kd,kd,kd,kd,kd,kd,kd] rfl rfl (zd HT_.1 (by kernel_rfl)) (fun _ _ _ h => h) (kh ⟨by rfl, ?_⟩) ?_ ?_; rotate_left; · intro w'; go_simp; with_reducible rfl
           rotate_left; · simp only [kk, kz, ky, kj, ze, zf]; rfl
           refine done_ (done_of HT_.1 (by kernel_rfl)) ?_; try go_wp2
           go_roundg k1; case measure => have := HK1.1; omega
           case rel => exact ⟨(wrap64 (x7_1 + 1)), (by rfl), H', ⟨by have := HK1.1; omega⟩, ⟨by exact HB.1⟩⟩
         · rw [if_neg c10] at H; exact absurd H (by simp)
        · rw [if_neg c9] at H; exact absurd H (by simp)
       ·
        rw [if_neg c7] at H; have c7b0 := decide_eq_false c7; clear c7; have H' := kv H; clear H; have p134 : 0 ≤ (x7_1 : Int) := of_decide_eq_true (by (with_reducible assumption)); have q134 : x7_1 < (l0.length : Int) := of_decide_eq_true (by (with_reducible assumption)); obtain ⟨ad134, e134, hx134_0, hx134_1⟩ := at_T35 HR0.1 x7_1 p134 q134; cases e134; try replace hx134_0 := (HB.1.cell (World.block_lt_of_cell? w _ hx134_0)).trans hx134_0
        try replace hx134_1 := (HB.1.cell (World.block_lt_of_cell? w _ hx134_1)).trans hx134_1
        replace p134 := eq_true p134; replace q134 := eq_true q134; try go_wp2_with (((with_reducible refine gate_dst (N := 4) rfl ?_); refine box_event ?hg (N := 4) ?hd (cs := #[.int .i64 0, .int .i64 0]) (t := 35) ?hr ?_; (case hd => rfl); (case hg => rfl); (case hr => (go_simp; done)); intro gb135 hg w25 hbox hb; have zt := kv hbox; have zu := kv ((by rw [hg]; exact (zo HB.1) : w.heap.size ≤ gb135)); replace HB := kv (zm HB.1 hb); clear hb hbox hg; have hcz26_0 := bc2 zt.1))
        have n0_ : zq (((w25.setCell ⟨gb135, 0, none⟩ (.int .i64 ((rd_T35 l0 x7_1).f0))).setCell ⟨gb135, 1, none⟩ (.int .i64 ((rd_T35 l0 x7_1).f1))).heap[gb135]? = some (.cells #[.int .i64 ((rd_T35 l0 x7_1).f0), .int .i64 ((rd_T35 l0 x7_1).f1)] 35 (0, 0))) := ⟨by refine zr (cs := #[.int .i64 ((rd_T35 l0 x7_1).f0), .int .i64 0]) ?_ 1 _ rfl; refine zr (cs := #[.int .i64 0, .int .i64 0]) ?_ 0 _ rfl; exact zt.1⟩
        have n1_ : zq (Below w.heap.size w ((w25.setCell ⟨gb135, 0, none⟩ (.int .i64 ((rd_T35 l0 x7_1).f0))).setCell ⟨gb135, 1, none⟩ (.int .i64 ((rd_T35 l0 x7_1).f1)))) := ⟨by repeat ((with_reducible first | exact HB.1 | refine zl ?_ zu.1))⟩
        generalize ((w25.setCell ⟨gb135, 0, none⟩ (.int .i64 ((rd_T35 l0 x7_1).f0))).setCell ⟨gb135, 1, none⟩ (.int .i64 ((rd_T35 l0 x7_1).f1))) = w27 at n0_ n1_ ⊢; have zt := n0_; have HB := n1_; clear n0_ n1_; replace zt := kv (zi zt.1); replace HB := kv (zb HB.1); refine start_ (n := 17) (S := fun w' => w'.cell? ⟨gb135, 0, none⟩ = some (.int .i64 ((rd_T35 l0 x7_1).f0)) ∧ w'.cell? ⟨gb135, 1, none⟩ = some (.int .i64 ((rd_T35 l0 x7_1).f1))) (ds := []) #[kc,kc,kc,kc,kc,kc,kc,kc,kc,kc,kc,kc,kc,kc,kc,kc,kc] (by kernel_rfl) rfl rfl ⟨(zg zt.1 0).trans rfl, (zg zt.1 1).trans rfl⟩ (fun hHeld => ?_); refine with_tabW impl_areRising.tab4 impl_areRising.bits4 (fun HT_ HW_ => ?_); generalize w27.drew = w28 at zt HB hHeld ⊢; refine zs (i := 0) (N := some 12) (v := ?_) (a' := ?_) #[kd,kc,kc,kc,kc,kc,kc,kc,kc,kc,kc,kc,kc,kc,kc,kc,kc] rfl rfl (zp HT_.1 HW_.1 (by kernel_rfl)) (fun _ _ _ h => h) (kh ⟨by rfl, ?_⟩) hHeld ?_ ?_; rotate_left; · rintro w' ⟨s0, s1⟩; go_simp; with_reducible rfl
        rotate_left; · simp only [kk, kz, ky, kj, ze, zf]; rfl
        refine one_ (i := 1) (N := some 13) #[kd,kd,kc,kc,kc,kc,kc,kc,kc,kc,kc,kc,kc,kc,kc,kc,kc] rfl rfl (one_of HT_.1 (by kernel_rfl)) (by decide) (fun K hK => ?_); refine goes_ Try.func58 (by kernel_rfl) rfl #[.agg #[.int .i64 ((rd_T35 l0 x7_1).f0), .int .i64 ((rd_T35 l0 x7_1).f1)]] (by rfl) rfl rfl (by (try simp only [kg, ke, kb]); rfl) ?_; with_reducible refine (impl_GoodPrefix.calls ((rd_T35 l0 x7_1).f0) ((rd_T35 l0 x7_1).f1) true _ A5.1).mono ?_; rintro e w29 ⟨rfl, hb⟩; refine ⟨_, rfl, ?_⟩; replace zt := kv (blk_below (g := gb135) (o := .cells #[.int .i64 ((rd_T35 l0 x7_1).f0), .int .i64 ((rd_T35 l0 x7_1).f1)] 35 (0, 0)) zt.1 hb); replace HB := kv (zm HB.1 hb); refine hK.out _ _ ⟨(zg zt.1 0).trans rfl, (zg zt.1 1).trans rfl⟩ (fun hHeld => ?_); clear hK K; refine norm_ (a' := ?_) ?_ ?_; rotate_left
        ·
         show kk _ (some 13) _ = _
         simp only [kk, kz, ky, kj, ze, zf]; rfl
        refine zh (i := 2) (N := some 14) (v := ?_) (a' := ?_) #[kd,kd,kd,kc,kc,kc,kc,kc,kc,kc,kc,kc,kc,kc,kc,kc,kc] rfl rfl (zd HT_.1 (by kernel_rfl)) (fun _ _ _ h => h) (kh ⟨by rfl, ?_⟩) ?_ ?_; rotate_left; · intro w'; go_simp; with_reducible rfl
        rotate_left; · simp only [kk, kz, ky, kj, ze, zf]; rfl
        refine zh (i := 3) (N := some 15) (v := ?_) (a' := ?_) #[kd,kd,kd,kd,kc,kc,kc,kc,kc,kc,kc,kc,kc,kc,kc,kc,kc] rfl rfl (zd HT_.1 (by kernel_rfl)) (fun _ _ _ h => h) (kh ⟨by rfl, ?_⟩) ?_ ?_; rotate_left; · intro w'; go_simp; with_reducible rfl
        rotate_left; · simp only [kk, kz, ky, kj, ze, zf]; rfl
        refine zh (i := 4) (N := some 16) (v := ?_) (a' := ?_) #[kd,kd,kd,kd,kd,kc,kc,kc,kc,kc,kc,kc,kc,kc,kc,kc,kc] rfl rfl (zd HT_.1 (by kernel_rfl)) (fun _ _ _ h => h) (kh ⟨by rfl, ?_⟩) ?_ ?_; rotate_left; · intro w'; go_simp; with_reducible rfl
        rotate_left; · simp only [kk, kz, ky, kj, ze, zf]; rfl
        refine zh (i := 5) (N := some 17) (v := ?_) (a' := ?_) #[kd,kd,kd,kd,kd,kd,kc,kc,kc,kc,kc,kc,kc,kc,kc,kc,kc] rfl rfl (zd HT_.1 (by kernel_rfl)) (fun _ _ _ h => h) (kh ⟨by rfl, ?_⟩) ?_ ?_; rotate_left; · intro w'; go_simp; with_reducible rfl
        rotate_left; · simp only [kk, kz, ky, kj, ze, zf]; rfl
        refine zh (i := 6) (N := some 18) (v := ?_) (a' := ?_) #[kd,kd,kd,kd,kd,kd,kd,kc,kc,kc,kc,kc,kc,kc,kc,kc,kc] rfl rfl (zd HT_.1 (by kernel_rfl)) (fun _ _ _ h => h) (kh ⟨by rfl, ?_⟩) ?_ ?_; rotate_left; · intro w'; go_simp; with_reducible rfl
        rotate_left; · simp only [kk, kz, ky, kj, ze, zf]; rfl
        refine zh (i := 7) (N := some 19) (v := undef) (a' := ?_) #[kd,kd,kd,kd,kd,kd,kd,kd,kc,kc,kc,kc,kc,kc,kc,kc,kc] rfl rfl (zd HT_.1 (by kernel_rfl)) (fun _ _ _ h => h) (kf ⟨by rfl, rfl⟩) ?_ ?_; rotate_left; · simp only [kk, kz, ky, kj, ze, zf]; rfl
        refine zh (i := 8) (N := some 20) (v := undef) (a' := ?_) #[kd,kd,kd,kd,kd,kd,kd,kd,kd,kc,kc,kc,kc,kc,kc,kc,kc] rfl rfl (zd HT_.1 (by kernel_rfl)) (fun _ _ _ h => h) (kf ⟨by rfl, rfl⟩) ?_ ?_; rotate_left; · simp only [kk, kz, ky, kj, ze, zf]; rfl
        refine zh (i := 9) (N := some 21) (v := undef) (a' := ?_) #[kd,kd,kd,kd,kd,kd,kd,kd,kd,kd,kc,kc,kc,kc,kc,kc,kc] rfl rfl (zd HT_.1 (by kernel_rfl)) (fun _ _ _ h => h) (kf ⟨by rfl, rfl⟩) ?_ ?_; rotate_left; · simp only [kk, kz, ky, kj, ze, zf]; rfl
        refine zh (i := 10) (N := some 22) (v := undef) (a' := ?_) #[kd,kd,kd,kd,kd,kd,kd,kd,kd,kd,kd,kc,kc,kc,kc,kc,kc] rfl rfl (zd HT_.1 (by kernel_rfl)) (fun _ _ _ h => h) (kf ⟨by rfl, rfl⟩) ?_ ?_; rotate_left; · simp only [kk, kz, ky, kj, ze, zf]; rfl
        refine zh (i := 11) (N := some 23) (v := undef) (a' := ?_) #[kd,kd,kd,kd,kd,kd,kd,kd,kd,kd,kd,kd,kc,kc,kc,kc,kc] rfl rfl (zd HT_.1 (by kernel_rfl)) (fun _ _ _ h => h) (kf ⟨by rfl, rfl⟩) ?_ ?_; rotate_left; · simp only [kk, kz, ky, kj, ze, zf]; rfl
        refine zh (i := 12) (N := some 24) (v := undef) (a' := ?_) #[kd,kd,kd,kd,kd,kd,kd,kd,kd,kd,kd,kd,kd,kc,kc,kc,kc] rfl rfl (zd HT_.1 (by kernel_rfl)) (fun _ _ _ h => h) (kf ⟨by rfl, rfl⟩) ?_ ?_; rotate_left; · simp only [kk, kz, ky, kj, ze, zf]; rfl
        refine zh (i := 13) (N := some 25) (v := undef) (a' := ?_) #[kd,kd,kd,kd,kd,kd,kd,kd,kd,kd,kd,kd,kd,kd,kc,kc,kc] rfl rfl (zd HT_.1 (by kernel_rfl)) (fun _ _ _ h => h) (kf ⟨by rfl, rfl⟩) ?_ ?_; rotate_left; · simp only [kk, kz, ky, kj, ze, zf]; rfl
        refine zh (i := 14) (N := some 26) (v := undef) (a' := ?_) #[kd,kd,kd,kd,kd,kd,kd,kd,kd,kd,kd,kd,kd,kd,kd,kc,kc] rfl rfl (zd HT_.1 (by kernel_rfl)) (fun _ _ _ h => h) (kf ⟨by rfl, rfl⟩) ?_ ?_; rotate_left; · simp only [kk, kz, ky, kj, ze, zf]; rfl
        refine zh (i := 15) (N := some 27) (v := ?_) (a' := ?_) #[kd,kd,kd,kd,kd,kd,kd,kd,kd,kd,kd,kd,kd,kd,kd,kd,kc] rfl rfl (zd HT_.1 (by kernel_rfl)) (fun _ _ _ h => h) (kh ⟨by rfl, ?_⟩) ?_ ?_; rotate_left; · intro w'; go_simp; with_reducible rfl
        rotate_left; · simp only [kk, kz, ky, kj, ze, zf]; rfl
        refine zh (i := 16) (N := some 28) (v := ?_) (a' := ?_) #[kd,kd,kd,kd,kd,kd,kd,kd,kd,kd,kd,kd,kd,kd,kd,kd,kd] rfl rfl (zd HT_.1 (by kernel_rfl)) (fun _ _ _ h => h) (kh ⟨by rfl, ?_⟩) ?_ ?_; rotate_left; · intro w'; go_simp; with_reducible rfl
        rotate_left; · simp only [kk, kz, ky, kj, ze, zf]; rfl
        refine done_ (done_of HT_.1 (by kernel_rfl)) ?_; try go_wp2
        go_roundg k1; case measure => have := HK1.1; omega
        case rel => exact ⟨(wrap64 (x7_1 + 1)), (by rfl), H', ⟨by have := HK1.1; omega⟩, ⟨by exact HB.1⟩⟩
      ·
       replace c6 := Bool.eq_false_iff.mpr c6; subst c6; rw [if_neg (show ¬ (false = true) by decide)] at H; obtain rfl := Option.some.inj H; have p134 : 0 ≤ (x7_1 : Int) := of_decide_eq_true (by (with_reducible assumption)); have q134 : x7_1 < (l0.length : Int) := of_decide_eq_true (by (with_reducible assumption)); obtain ⟨ad134, e134, hx134_0, hx134_1⟩ := at_T35 HR0.1 x7_1 p134 q134; cases e134; try replace hx134_0 := (HB.1.cell (World.block_lt_of_cell? w _ hx134_0)).trans hx134_0
       try replace hx134_1 := (HB.1.cell (World.block_lt_of_cell? w _ hx134_1)).trans hx134_1
       replace p134 := eq_true p134; replace q134 := eq_true q134; try go_wp2_with (((with_reducible refine gate_dst (N := 4) rfl ?_); refine box_event ?hg (N := 4) ?hd (cs := #[.int .i64 0, .int .i64 0]) (t := 35) ?hr ?_; (case hd => rfl); (case hg => rfl); (case hr => (go_simp; done)); intro gb135 hg w30 hbox hb; have zt := kv hbox; have zu := kv ((by rw [hg]; exact (zo HB.1) : w.heap.size ≤ gb135)); replace HB := kv (zm HB.1 hb); clear hb hbox hg; have hcz31_0 := bc2 zt.1))
       have n0_ : zq (((w30.setCell ⟨gb135, 0, none⟩ (.int .i64 ((rd_T35 l0 x7_1).f0))).setCell ⟨gb135, 1, none⟩ (.int .i64 ((rd_T35 l0 x7_1).f1))).heap[gb135]? = some (.cells #[.int .i64 ((rd_T35 l0 x7_1).f0), .int .i64 ((rd_T35 l0 x7_1).f1)] 35 (0, 0))) := ⟨by refine zr (cs := #[.int .i64 ((rd_T35 l0 x7_1).f0), .int .i64 0]) ?_ 1 _ rfl; refine zr (cs := #[.int .i64 0, .int .i64 0]) ?_ 0 _ rfl; exact zt.1⟩
       have n1_ : zq (Below w.heap.size w ((w30.setCell ⟨gb135, 0, none⟩ (.int .i64 ((rd_T35 l0 x7_1).f0))).setCell ⟨gb135, 1, none⟩ (.int .i64 ((rd_T35 l0 x7_1).f1)))) := ⟨by repeat ((with_reducible first | exact HB.1 | refine zl ?_ zu.1))⟩
       generalize ((w30.setCell ⟨gb135, 0, none⟩ (.int .i64 ((rd_T35 l0 x7_1).f0))).setCell ⟨gb135, 1, none⟩ (.int .i64 ((rd_T35 l0 x7_1).f1))) = w32 at n0_ n1_ ⊢; have zt := n0_; have HB := n1_; clear n0_ n1_; replace zt := kv (zi zt.1); replace HB := kv (zb HB.1); refine start_ (n := 17) (S := fun w' => w'.cell? ⟨gb135, 0, none⟩ = some (.int .i64 ((rd_T35 l0 x7_1).f0)) ∧ w'.cell? ⟨gb135, 1, none⟩ = some (.int .i64 ((rd_T35 l0 x7_1).f1))) (ds := []) #[kc,kc,kc,kc,kc,kc,kc,kc,kc,kc,kc,kc,kc,kc,kc,kc,kc] (by kernel_rfl) rfl rfl ⟨(zg zt.1 0).trans rfl, (zg zt.1 1).trans rfl⟩ (fun hHeld => ?_); refine with_tabW impl_areRising.tab4 impl_areRising.bits4 (fun HT_ HW_ => ?_); generalize w32.drew = w33 at zt HB hHeld ⊢; refine zs (i := 0) (N := some 12) (v := ?_) (a' := ?_) #[kd,kc,kc,kc,kc,kc,kc,kc,kc,kc,kc,kc,kc,kc,kc,kc,kc] rfl rfl (zp HT_.1 HW_.1 (by kernel_rfl)) (fun _ _ _ h => h) (kh ⟨by rfl, ?_⟩) hHeld ?_ ?_; rotate_left; · rintro w' ⟨s0, s1⟩; go_simp; with_reducible rfl
       rotate_left; · simp only [kk, kz, ky, kj, ze, zf]; rfl
       refine one_ (i := 1) (N := some 13) #[kd,kd,kc,kc,kc,kc,kc,kc,kc,kc,kc,kc,kc,kc,kc,kc,kc] rfl rfl (one_of HT_.1 (by kernel_rfl)) (by decide) (fun K hK => ?_); refine goes_ Try.func58 (by kernel_rfl) rfl #[.agg #[.int .i64 ((rd_T35 l0 x7_1).f0), .int .i64 ((rd_T35 l0 x7_1).f1)]] (by rfl) rfl rfl (by (try simp only [kg, ke, kb]); rfl) ?_; with_reducible refine (impl_GoodPrefix.calls ((rd_T35 l0 x7_1).f0) ((rd_T35 l0 x7_1).f1) false _ A5.1).mono ?_; rintro e w34 ⟨rfl, hb⟩; refine ⟨_, rfl, ?_⟩; replace zt := kv (blk_below (g := gb135) (o := .cells #[.int .i64 ((rd_T35 l0 x7_1).f0), .int .i64 ((rd_T35 l0 x7_1).f1)] 35 (0, 0)) zt.1 hb); replace HB := kv (zm HB.1 hb); refine hK.out _ _ ⟨(zg zt.1 0).trans rfl, (zg zt.1 1).trans rfl⟩ (fun hHeld => ?_); clear hK K; refine norm_ (a' := ?_) ?_ ?_; rotate_left
       ·
        show kk _ (some 13) _ = _
        simp only [kk, kz, ky, kj, ze, zf]; rfl
       refine zh (i := 2) (N := some 14) (v := ?_) (a' := ?_) #[kd,kd,kd,kc,kc,kc,kc,kc,kc,kc,kc,kc,kc,kc,kc,kc,kc] rfl rfl (zd HT_.1 (by kernel_rfl)) (fun _ _ _ h => h) (kh ⟨by rfl, ?_⟩) ?_ ?_; rotate_left; · intro w'; go_simp; with_reducible rfl
       rotate_left; · simp only [kk, kz, ky, kj, ze, zf]; rfl
       refine zh (i := 3) (N := some 15) (v := ?_) (a' := ?_) #[kd,kd,kd,kd,kc,kc,kc,kc,kc,kc,kc,kc,kc,kc,kc,kc,kc] rfl rfl (zd HT_.1 (by kernel_rfl)) (fun _ _ _ h => h) (kh ⟨by rfl, ?_⟩) ?_ ?_; rotate_left; · intro w'; go_simp; with_reducible rfl
       rotate_left; · simp only [kk, kz, ky, kj, ze, zf]; rfl
       refine zh (i := 4) (N := some 16) (v := undef) (a' := ?_) #[kd,kd,kd,kd,kd,kc,kc,kc,kc,kc,kc,kc,kc,kc,kc,kc,kc] rfl rfl (zd HT_.1 (by kernel_rfl)) (fun _ _ _ h => h) (kf ⟨by rfl, rfl⟩) ?_ ?_; rotate_left; · simp only [kk, kz, ky, kj, ze, zf]; rfl
       refine zh (i := 5) (N := some 17) (v := undef) (a' := ?_) #[kd,kd,kd,kd,kd,kd,kc,kc,kc,kc,kc,kc,kc,kc,kc,kc,kc] rfl rfl (zd HT_.1 (by kernel_rfl)) (fun _ _ _ h => h) (kf ⟨by rfl, rfl⟩) ?_ ?_; rotate_left; · simp only [kk, kz, ky, kj, ze, zf]; rfl
       refine zh (i := 6) (N := some 18) (v := undef) (a' := ?_) #[kd,kd,kd,kd,kd,kd,kd,kc,kc,kc,kc,kc,kc,kc,kc,kc,kc] rfl rfl (zd HT_.1 (by kernel_rfl)) (fun _ _ _ h => h) (kf ⟨by rfl, rfl⟩) ?_ ?_; rotate_left; · simp only [kk, kz, ky, kj, ze, zf]; rfl
       refine zh (i := 7) (N := some 19) (v := undef) (a' := ?_) #[kd,kd,kd,kd,kd,kd,kd,kd,kc,kc,kc,kc,kc,kc,kc,kc,kc] rfl rfl (zd HT_.1 (by kernel_rfl)) (fun _ _ _ h => h) (kf ⟨by rfl, rfl⟩) ?_ ?_; rotate_left; · simp only [kk, kz, ky, kj, ze, zf]; rfl
       refine zh (i := 8) (N := some 20) (v := undef) (a' := ?_) #[kd,kd,kd,kd,kd,kd,kd,kd,kd,kc,kc,kc,kc,kc,kc,kc,kc] rfl rfl (zd HT_.1 (by kernel_rfl)) (fun _ _ _ h => h) (kf ⟨by rfl, rfl⟩) ?_ ?_; rotate_left; · simp only [kk, kz, ky, kj, ze, zf]; rfl
       refine zh (i := 9) (N := some 21) (v := undef) (a' := ?_) #[kd,kd,kd,kd,kd,kd,kd,kd,kd,kd,kc,kc,kc,kc,kc,kc,kc] rfl rfl (zd HT_.1 (by kernel_rfl)) (fun _ _ _ h => h) (kf ⟨by rfl, rfl⟩) ?_ ?_; rotate_left; · simp only [kk, kz, ky, kj, ze, zf]; rfl
       refine zh (i := 10) (N := some 22) (v := undef) (a' := ?_) #[kd,kd,kd,kd,kd,kd,kd,kd,kd,kd,kd,kc,kc,kc,kc,kc,kc] rfl rfl (zd HT_.1 (by kernel_rfl)) (fun _ _ _ h => h) (kf ⟨by rfl, rfl⟩) ?_ ?_; rotate_left; · simp only [kk, kz, ky, kj, ze, zf]; rfl
       refine zh (i := 11) (N := some 23) (v := undef) (a' := ?_) #[kd,kd,kd,kd,kd,kd,kd,kd,kd,kd,kd,kd,kc,kc,kc,kc,kc] rfl rfl (zd HT_.1 (by kernel_rfl)) (fun _ _ _ h => h) (kf ⟨by rfl, rfl⟩) ?_ ?_; rotate_left; · simp only [kk, kz, ky, kj, ze, zf]; rfl
       refine zh (i := 12) (N := some 24) (v := undef) (a' := ?_) #[kd,kd,kd,kd,kd,kd,kd,kd,kd,kd,kd,kd,kd,kc,kc,kc,kc] rfl rfl (zd HT_.1 (by kernel_rfl)) (fun _ _ _ h => h) (kf ⟨by rfl, rfl⟩) ?_ ?_; rotate_left; · simp only [kk, kz, ky, kj, ze, zf]; rfl
       refine zh (i := 13) (N := some 25) (v := undef) (a' := ?_) #[kd,kd,kd,kd,kd,kd,kd,kd,kd,kd,kd,kd,kd,kd,kc,kc,kc] rfl rfl (zd HT_.1 (by kernel_rfl)) (fun _ _ _ h => h) (kf ⟨by rfl, rfl⟩) ?_ ?_; rotate_left; · simp only [kk, kz, ky, kj, ze, zf]; rfl
       refine zh (i := 14) (N := some 26) (v := undef) (a' := ?_) #[kd,kd,kd,kd,kd,kd,kd,kd,kd,kd,kd,kd,kd,kd,kd,kc,kc] rfl rfl (zd HT_.1 (by kernel_rfl)) (fun _ _ _ h => h) (kf ⟨by rfl, rfl⟩) ?_ ?_; rotate_left; · simp only [kk, kz, ky, kj, ze, zf]; rfl
       refine zh (i := 15) (N := some 27) (v := undef) (a' := ?_) #[kd,kd,kd,kd,kd,kd,kd,kd,kd,kd,kd,kd,kd,kd,kd,kd,kc] rfl rfl (zd HT_.1 (by kernel_rfl)) (fun _ _ _ h => h) (kf ⟨by rfl, rfl⟩) ?_ ?_; rotate_left; · simp only [kk, kz, ky, kj, ze, zf]; rfl
       refine zh (i := 16) (N := some 28) (v := ?_) (a' := ?_) #[kd,kd,kd,kd,kd,kd,kd,kd,kd,kd,kd,kd,kd,kd,kd,kd,kd] rfl rfl (zd HT_.1 (by kernel_rfl)) (fun _ _ _ h => h) (kh ⟨by rfl, ?_⟩) ?_ ?_; rotate_left; · intro w'; go_simp; with_reducible rfl
       rotate_left; · simp only [kk, kz, ky, kj, ze, zf]; rfl
       refine done_ (done_of HT_.1 (by kernel_rfl)) ?_; try go_wp2
       go_ret; exact ⟨by rfl, by exact HB.1⟩
     · rw [if_neg c4] at H; exact absurd H (by simp)
    · rw [if_neg c3] at H; exact absurd H (by simp)
   · rw [if_neg c2] at H; have c2b0 := decide_eq_false c2; clear c2; obtain rfl := Option.some.inj H; go_wp2; go_ret; exact ⟨by rfl, by exact HB.1⟩
-- NOT PRINTED: function 109 (slices_IndexFunc_impl_Prefix_impl_Prefix)
-- NOT PRINTED: function 74 (slices_ContainsFunc_impl_Prefix_impl_Prefix)
end Go.Proofs.Ytlnfcobloolnnaa.PFnUpdates
