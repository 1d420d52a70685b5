/- Go functions told by Lean functions, printed by a program. No condition but what each statement says. -/
import Derived.Test.YtakoaogbkajkcaaYFnTrieStepsx6
namespace Go.Proofs.Ytakoaogbkajkcaa.PFnTrieSteps
open Go.RowKit Go.Proofs.YtakoaogbkajkcaaW.PrintWords Go.Proofs.YtakoaogbkajkcaaW.PrintLast Go.Proofs.YtakoaogbkajkcaaW.PrintMore
open List renaming setIfInBounds_toArray → kz, set_cons_zero → kj, set_cons_succ → kk, map_toArray → ke, map_cons → kb, map_nil → kc
open Aside0 renaming mk → ky
open Act renaming put → kv
open Or renaming inl → kh
open Nat renaming ne_of_lt → kg, ne_of_gt → kf, le_trans → kx
open Option renaming bind_eq_some_iff → kd
open Option.some renaming inj → ko
open Bool renaming true → km, false → ku
set_option maxHeartbeats 8000000
set_option maxRecDepth 100000
open Go.Proofs.YtakoaogbkajkcaaW.PrintLast renaming i64_w → zr, i32_w → zs, any_of → zt, pure_ → zw, take_ofW → zJ, take_ → zM
open Go.Proofs.YtakoaogbkajkcaaW.PrintWords renaming blk_drew → zd, below_set → ze, below_drew1 → zj, blk_cell → zl, blk_frozen → zm, blk_far → zu, blk_below → zv, below_step → zx, blk_lt → zA, Aside0 → zC, below_size → zD, blk_kept → zE, box_event → zH, blk_put → zK, gate_dst → zL
open Go.Proofs.YtakoaogbkajkcaaW.PrintWords.Kd renaming R_drew → zn, C_kept_now → zq, R_below → zz, R_far → zB, R_ne → zF, R_types → zG, R_mono → zI
open Go.Proofs.YtakoaogbkajkcaaW.PrintWords.Kept renaming setCell → za, drew → zi, below → zy
attribute [local go_sem] max2_int min2_int max_two min_two max_three min_three max_four min_four
set_option linter.unusedVariables false
set_option linter.unusedSimpArgs false
/-! ### spec_l2Walk: function 72 -/
mutual
def spec_l2Walk.j0 : Nat → List (S86) → Int → List (S39) → Int → Int → Option ((List (S39)))
 | 0, _, _, _, _, _ => none
 | k + 1, x0, x1, x3, x131000, x131001 => if x131001 = 32 then (some x3) else ((spec_l1Halves.f x131000 x131001).bind fun bt136 => (if 0 ≤ x1 then (if x1 < (x0.length : Int) then (if ((rd_T86 x0 x1).f0) = 0 then (if ((rd_T86 x0 x1).f1) = 0 then (some x3) else ((spec_l2Walk.f k x0 ((rd_T86 x0 x1).f1) bt136.2.2.1 bt136.2.2.2 x3).bind fun t145 => (some t145))) else ((spec_l2Walk.f k x0 ((rd_T86 x0 x1).f0) bt136.1 bt136.2.1 x3).bind fun t149 => (if ((rd_T86 x0 x1).f1) = 0 then (some t149) else ((spec_l2Walk.f k x0 ((rd_T86 x0 x1).f1) bt136.2.2.1 bt136.2.2.2 t149).bind fun t154 => (some t154))))) else (none)) else (none)))
def spec_l2Walk.f : Nat → List (S86) → Int → Int → Int → List (S39) → Option ((List (S39)))
 | 0, _, _, _, _, _ => none
 | k + 1, l0, a1, a2_0, a2_1, l3 => if 0 ≤ a1 then (if a1 < (l0.length : Int) then (if (rd_T86 l0 a1).f2 = true then (if l3.length < 5864062014805 then (spec_l2Walk.j0 k l0 a1 (l3 ++ [(⟨(⟨a2_0, a2_1⟩ : S37), (rd_T86 l0 a1).f3⟩ : S39)]) a2_0 a2_1) else (none)) else (spec_l2Walk.j0 k l0 a1 l3 a2_0 a2_1)) else (none)) else (none)
end
def spec_l2Walk.T2 : Bool × List (List Nat × List Nat) := (true, [([], []), ([], []), ([], []), ([], []), ([2, 3], [2, 3]), ([4], [4]), ([5], [5]), ([1, 6], [1, 6]), ([7], [7]), ([0, 8], [0, 8]), ([9, 9, 0, 1, 2, 3, 4, 5, 6, 7, 8, 9], [0, 9])])
def spec_l2Walk.B2 : List Nat := [0, 0, 0, 0, 12, 28, 60, 126, 254, 511, 1023]
theorem spec_l2Walk.tab2 : rtab .any (opsOf Try.f72 2) = spec_l2Walk.T2 := by kernel_rfl
theorem spec_l2Walk.bits2 : waitsOk spec_l2Walk.T2.2 spec_l2Walk.B2 = true := by kernel_rfl
def spec_l2Walk.T7 : Bool × List (List Nat × List Nat) := (true, [([], []), ([], []), ([], []), ([1, 2], [1, 2]), ([3], [3]), ([4], [4]), ([], []), ([], []), ([0, 5, 6, 7], [0, 5, 6, 7]), ([8, 8, 0, 1, 2, 3, 4, 5, 6, 7, 8], [7, 8])])
def spec_l2Walk.B7 : List Nat := [0, 0, 0, 6, 14, 30, 0, 0, 255, 511]
theorem spec_l2Walk.tab7 : rtab .any (opsOf Try.f72 7) = spec_l2Walk.T7 := by kernel_rfl
theorem spec_l2Walk.bits7 : waitsOk spec_l2Walk.T7.2 spec_l2Walk.B7 = true := by kernel_rfl
def spec_l2Walk.T9 : Bool × List (List Nat × List Nat) := (true, [([], []), ([], []), ([], []), ([1, 2], [1, 2]), ([3], [3]), ([4], [4]), ([], []), ([], []), ([0, 5, 6, 7], [0, 5, 6, 7]), ([8, 8, 0, 1, 2, 3, 4, 5, 6, 7, 8], [7, 8])])
def spec_l2Walk.B9 : List Nat := [0, 0, 0, 6, 14, 30, 0, 0, 255, 511]
theorem spec_l2Walk.tab9 : rtab .any (opsOf Try.f72 9) = spec_l2Walk.T9 := by kernel_rfl
theorem spec_l2Walk.bits9 : waitsOk spec_l2Walk.T9.2 spec_l2Walk.B9 = true := by kernel_rfl
theorem spec_l2Walk.calls (k : Nat) : ∀ (A0 : Option Addr) (c0 : Nat) (l0 : List (S86)) (a1 : Int) (a2_0 : Int) (a2_1 : Int) (P3_ : Nat → Prop) (u9000_ : Value) (l3 : List (S39)) (r : List (S39)) (w0 w : World) (hB : Below w0.heap.size w0 w) (hr0 : ∀ W_, Kept w W_ (fun k_ => P3_ k_) → Kd.C k86 W_ A0 l0.length l0) (hc0 : l0.length ≤ c0) (ho3 : Kd.R k39 39 w w0.heap.size P3_ u9000_ l3) (h : spec_l2Walk.f k l0 a1 a2_0 a2_1 l3 = some r),
  Calls Try.prog 72 #[.slice A0 l0.length c0, .int .i64 a1, .agg #[.int .i64 a2_0, .int .i64 a2_1], u9000_] w fun e w' => ∃ v0_ : Value, e = .returned (v0_) ∧ Kd.R k39 39 w' w0.heap.size (fun k_ => (P3_ k_ ∨ w.heap.size ≤ k_)) v0_ r ∧ Below w0.heap.size w0 w' ∧ Kept w w' (fun k_ => P3_ k_) := by
 induction k using Nat.strongRecOn with
 | _ k ih =>
 intro A0 c0 l0 a1 a2_0 a2_1 P3_ u9000_ l3 r w0 w hB hr0 hc0 ho3 h
 cases k with
 | zero => exact absurd h (by simp [spec_l2Walk.f])
 | succ k =>
 simp only [spec_l2Walk.f] at h
 have hu37 := Try.underlying37
 have hu39 := Try.underlying39
 have HR0 := ky hr0
 have HC0 := ky hc0
 clear hr0 hc0
 have HO3 := ky (show Kd.R k39 39 w w0.heap.size (fun k_ => (P3_ k_ ∨ w.heap.size ≤ k_)) u9000_ l3 from zI ho3 (fun k_ hk => (.inl hk)))
 have HK := ky (Kept.refl w (fun k_ => P3_ k_))
 have HW0 := ky hB.size
 have HB := ky hB
 clear hB
 have H : (if 0 ≤ a1 then (if a1 < (l0.length : Int) then (if (rd_T86 l0 a1).f2 = true then (if l3.length < 5864062014805 then (spec_l2Walk.j0 k l0 a1 (l3 ++ [(⟨(⟨a2_0, a2_1⟩ : S37), (rd_T86 l0 a1).f3⟩ : S39)]) a2_0 a2_1) else (none)) else (spec_l2Walk.j0 k l0 a1 l3 a2_0 a2_1)) else (none)) else (none)) = some r := h
 clear h
 by_cases c5 : 0 ≤ a1
 ·
  rw [if_pos c5] at H
  have c5b0 : decide (0 ≤ a1) = true := decide_eq_true c5
  clear c5
  by_cases c6 : a1 < (l0.length : Int)
  ·
   rw [if_pos c6] at H
   have c6b0 : decide (a1 < (l0.length : Int)) = true := decide_eq_true c6
   clear c6
   have HC7 := ky H
   clear H
   go_enter Try.func72, Try.ntmps72
   go_upto_if 15 with (((with_reducible refine zL (N := 6) rfl ?_); refine zH rfl (N := 6) rfl (cs := #[.int .i64 a2_0, .int .i64 a2_1]) (t := 37) ?hr ?_; (case hr => go_simp; done); intro gb130 hg w8 hbox hb; replace HO3 := ky (zz HO3.1 hb); replace HK := ky (zy HK.1 hb); replace HB := ky (zx HB.1 hb); have zN := ky hbox; clear hb hbox hg; have p131 : 0 ≤ (a1 : Int) := of_decide_eq_true (by (with_reducible assumption)); have q131 : a1 < (l0.length : Int) := of_decide_eq_true (by (with_reducible assumption)); obtain ⟨ad131, e131, hx131_0, hx131_1, hx131_2, hx131_3⟩ := at_T86 (zq HR0.1 HK.1) a1 p131 q131; cases e131; replace p131 := eq_true p131; replace q131 := eq_true q131))
   (try simp only [kv, kz, kj, kk])
   go_cut [3] (fun v3 wc => ∃ (kq : Nat) (x3_6 : List (S39)), zC (spec_l2Walk.j0 kq l0 a1 x3_6 a2_0 a2_1 = some r) ∧ zC (kq ≤ k) ∧ zC (Kd.R k39 39 wc w0.heap.size (fun k_ => (P3_ k_ ∨ w.heap.size ≤ k_)) v3 x3_6) ∧ zC (wc.heap[gb130]? = some (.cells #[.int .i64 a2_0, .int .i64 a2_1] 37 (0, 0))) ∧ zC (Kept w wc (fun k_ => P3_ k_)) ∧ zC (Below w0.heap.size w0 wc))
   case first =>
    have H := HC7.1
    clear HC7
    obtain ⟨bq9, hbq9⟩ : ∃ b_ : Bool, b_ = ((rd_T86 l0 a1).f2) := ⟨_, rfl⟩
    replace H : (if bq9 = true then (if l3.length < 5864062014805 then (spec_l2Walk.j0 k l0 a1 (l3 ++ [(⟨(⟨a2_0, a2_1⟩ : S37), (rd_T86 l0 a1).f3⟩ : S39)]) a2_0 a2_1) else (none)) else (spec_l2Walk.j0 k l0 a1 l3 a2_0 a2_1)) = some r := by rw [← hbq9] at H; exact H
    have Nbq9 := ky hbq9
    clear hbq9
    (try rw [← Nbq9.1])
    by_cases c10 : bq9 = true
    ·
     subst c10
     have H1 : (if l3.length < 5864062014805 then (spec_l2Walk.j0 k l0 a1 (l3 ++ [(⟨(⟨a2_0, a2_1⟩ : S37), (rd_T86 l0 a1).f3⟩ : S39)]) a2_0 a2_1) else (none)) = some r := by rw [if_pos rfl] at H; exact H
     clear H
     have H := H1
     clear H1
     by_cases c11 : l3.length < 5864062014805
     ·
      rw [if_pos c11] at H
      have LMc11 := ky c11
      clear c11
      obtain ⟨y133, hy133⟩ : ∃ y_ : List (S39), y_ = (l3 ++ [(⟨(⟨a2_0, a2_1⟩ : S37), (rd_T86 l0 a1).f3⟩ : S39)]) := ⟨_, rfl⟩
      replace H : (spec_l2Walk.j0 k l0 a1 y133 a2_0 a2_1) = some r := by (rw [hy133]; with_reducible exact H)
      have Ny133 := ky hy133
      clear hy133
      have H' := ky H
      clear H
      try go_wp2
      replace HO3 := ky (zn HO3.1)
      replace zN := ky (zd zN.1)
      replace HK := ky (zi HK.1)
      replace HB := ky (zj HB.1)
      have p132 : 0 ≤ (a1 : Int) := of_decide_eq_true (by (with_reducible assumption))
      have q132 : a1 < (l0.length : Int) := of_decide_eq_true (by (with_reducible assumption))
      obtain ⟨ad132, e132, hx132_0, hx132_1, hx132_2, hx132_3⟩ := at_T86 (zq HR0.1 HK.1) a1 p132 q132
      have hw132_3 := hx132_3
      have hw132_2 := hx132_2
      have hw132_1 := hx132_1
      have hw132_0 := hx132_0
      (try rw [← Nbq9.1] at hx132_2)
      obtain rfl : ad131 = ad132 := (by injection e132)
      replace p132 := eq_true p132
      replace q132 := eq_true q132
      refine start_ (n := 11) (S := fun w' => w'.cell? ⟨gb130, 0, none⟩ = some (.int .i64 a2_0) ∧ w'.cell? ⟨gb130, 1, none⟩ = some (.int .i64 a2_1) ∧ w'.cell? (ad131.add ((a1).toNat * 4)) = some (.int .i64 ((rd_T86 l0 a1).f0)) ∧ w'.cell? ⟨(ad131.add ((a1).toNat * 4)).block, (ad131.add ((a1).toNat * 4)).off + 1, none⟩ = some (.int .i64 ((rd_T86 l0 a1).f1)) ∧ w'.cell? ⟨(ad131.add ((a1).toNat * 4)).block, (ad131.add ((a1).toNat * 4)).off + 2, none⟩ = some (.bool (true)) ∧ w'.cell? ⟨(ad131.add ((a1).toNat * 4)).block, (ad131.add ((a1).toNat * 4)).off + 3, none⟩ = some (.int .i64 ((rd_T86 l0 a1).f3))) (ds := [8, 9]) #[ku,ku,ku,ku,ku,ku,ku,ku,ku,ku,ku] (by kernel_rfl) rfl rfl ⟨(zl zN.1 0).trans rfl, (zl zN.1 1).trans rfl, hx132_0, hx132_1, hx132_2, hx132_3⟩ (fun hHeld => ?_); refine with_tabW spec_l2Walk.tab2 spec_l2Walk.bits2 (fun HT_ HW_ => ?_)
      generalize w8.drew = w12 at HO3 zN HK HB hx132_0 hx132_1 hx132_2 hx132_3 hHeld ⊢
      refine zw (i := 0) (N := some 16) (v := ?_) (a' := ?_) #[km,ku,ku,ku,ku,ku,ku,ku,ku,ku,ku] rfl rfl (zt HT_.1 (by kernel_rfl)) (fun _ _ _ h => h) (kh ⟨by rfl, ?_⟩) ?_ ?_
      rotate_left
      ·
       intro w'
       go_simp
       with_reducible rfl
      rotate_left
      ·
       simp only [kv, kz, kj, kk, zr, zs]
       rfl
      refine zw (i := 2) (N := some 18) (v := ?_) (a' := ?_) #[km,ku,km,ku,ku,ku,ku,ku,ku,ku,ku] rfl rfl (zt HT_.1 (by kernel_rfl)) (fun _ _ _ h => h) (kh ⟨by rfl, ?_⟩) ?_ ?_
      rotate_left
      ·
       intro w'
       go_simp
       with_reducible rfl
      rotate_left
      ·
       simp only [kv, kz, kj, kk, zr, zs]
       rfl
      refine zw (i := 3) (N := some 19) (v := ?_) (a' := ?_) #[km,ku,km,km,ku,ku,ku,ku,ku,ku,ku] rfl rfl (zt HT_.1 (by kernel_rfl)) (fun _ _ _ h => h) (kh ⟨by rfl, ?_⟩) ?_ ?_
      rotate_left
      ·
       intro w'
       go_simp
       with_reducible rfl
      rotate_left
      ·
       simp only [kv, kz, kj, kk, zr, zs]
       rfl
      refine zw (i := 4) (N := some 20) (v := ?_) (a' := ?_) #[km,ku,km,km,km,ku,ku,ku,ku,ku,ku] rfl rfl (zt HT_.1 (by kernel_rfl)) (fun _ _ _ h => h) (kh ⟨by rfl, ?_⟩) ?_ ?_
      rotate_left
      ·
       intro w'
       go_simp
       with_reducible rfl
      rotate_left
      ·
       simp only [kv, kz, kj, kk, zr, zs]
       rfl
      refine zw (i := 5) (N := some 21) (v := ?_) (a' := ?_) #[km,ku,km,km,km,km,ku,ku,ku,ku,ku] rfl rfl (zt HT_.1 (by kernel_rfl)) (fun _ _ _ h => h) (kh ⟨by rfl, ?_⟩) ?_ ?_
      rotate_left
      ·
       intro w'
       go_simp
       with_reducible rfl
      rotate_left
      ·
       simp only [kv, kz, kj, kk, zr, zs]
       rfl
      refine zM (i := 1) (N := some 17) (v := ?_) (a' := ?_) #[km,km,km,km,km,km,ku,ku,ku,ku,ku] rfl rfl (zJ HT_.1 HW_.1 (by kernel_rfl)) (fun _ _ _ h => h) (kh ⟨by rfl, ?_⟩) hHeld ?_ ?_
      rotate_left
      ·
       rintro w' ⟨s0, s1, s2, s3, s4, s5⟩
       go_simp
       with_reducible rfl
      rotate_left
      ·
       simp only [kv, kz, kj, kk, zr, zs]
       rfl
      refine zM (i := 6) (N := some 22) (v := ?_) (a' := ?_) #[km,km,km,km,km,km,km,ku,ku,ku,ku] rfl rfl (zJ HT_.1 HW_.1 (by kernel_rfl)) (fun _ _ _ h => h) (kh ⟨by rfl, ?_⟩) hHeld ?_ ?_
      rotate_left
      ·
       rintro w' ⟨s0, s1, s2, s3, s4, s5⟩
       go_simp
       with_reducible rfl
      rotate_left
      ·
       simp only [kv, kz, kj, kk, zr, zs]
       rfl
      refine zw (i := 7) (N := some 23) (v := ?_) (a' := ?_) #[km,km,km,km,km,km,km,km,ku,ku,ku] rfl rfl (zt HT_.1 (by kernel_rfl)) (fun _ _ _ h => h) (kh ⟨by rfl, ?_⟩) ?_ ?_
      rotate_left
      ·
       intro w'
       go_simp
       with_reducible rfl
      rotate_left
      ·
       simp only [kv, kz, kj, kk, zr, zs]
       rfl
      refine last_ (i := 8) (N := some 24) #[km,km,km,km,km,km,km,km,km,ku,ku] rfl rfl (one_of HT_.1 (by kernel_rfl)) (by decide) (fun K hK => ?_)
      refine value_ (w1 := ?_) (v := ?_) (by rfl) rfl ?_ ?_
      rotate_left 2
      ·
       go_simp
       constructor
       ·
        rfl
       ·
        rfl
      refine hK.out _ _ ?_
      clear hK K
      refine norm_ (a' := ?_) ?_ ?_
      rotate_left
      ·
       show kv _ (some 24) _ = _
       simp only [kv, kz, kj, kk, zr, zs]
       rfl
      refine last_ (i := 9) (N := some 25) #[km,km,km,km,km,km,km,km,km,km,ku] rfl rfl (one_of HT_.1 (by kernel_rfl)) (by decide) (fun K hK => ?_)
      refine Kd.R_append_step k39 (w0 := w0) w0.heap.size (by rfl) (.tmp 16) (.tmp 24) 25 39 (.agg #[(.int .i64 0), (.int .i64 0), (.int .i64 0)]) 24 rfl Try.underlying25 info39 rfl (by decide) (by omega) u9000_ l3 (⟨(⟨a2_0, a2_1⟩ : S37), (rd_T86 l0 a1).f3⟩ : S39) [.int .i64 a2_0, .int .i64 a2_1, .int .i64 ((rd_T86 l0 a1).f3)] (fun k_ => (P3_ k_ ∨ w.heap.size ≤ k_)) (fun _ => False) rfl rfl ?aP (fun _ hk => hk.elim) ?aF ?aO ?aB ?aS ?aL ?_
      (case aP => exact k39_mkM _ _ _ (⟨(⟨a2_0, a2_1⟩ : S37), (rd_T86 l0 a1).f3⟩ : S39))
      (case aB => exact HB.1)
      (case aF => exact (fun k_ hk => (.inr (kx (by exact HK.1.1) hk))))
      (case aO => exact HO3.1)
      (case aS => exact (zD HB.1))
      (case aL => have := LMc11.1; omega)
      intro v134 w13 ho hb hg hat
      rw [← Ny133.1] at ho
      replace zN := ky (blk_grown zN.1 hg (zF HO3.1 zN.1 (by decide)))
      replace HB := ky hb
      replace HK := ky (Kept.of_grown (S := (fun k_ => P3_ k_)) hg HK.1 (fun k_ e_ => (HO3.1.1 k_ e_)))
      have HO135 := ky ho
      clear ho hb hg hat
      refine hK.out _ _ ?_
      clear hK K
      refine norm_ (a' := ?_) ?_ ?_
      rotate_left
      ·
       show kv _ (some 25) _ = _
       simp only [kv, kz, kj, kk, zr, zs]
       rfl
      refine zw (i := 10) (N := some 3) (v := ?_) (a' := ?_) #[km,km,km,km,km,km,km,km,km,km,km] rfl rfl (zt HT_.1 (by kernel_rfl)) (fun _ _ _ h => h) (kh ⟨by rfl, ?_⟩) ?_ ?_
      rotate_left
      ·
       intro w'
       go_simp
       with_reducible rfl
      rotate_left
      ·
       simp only [kv, kz, kj, kk, zr, zs]
       rfl
      refine done_ (done_of HT_.1 (by kernel_rfl)) ?_
      try go_wp2
      go_meet
      case rel => (try rw [← Nbq9.1]); exact ⟨_, (y133), H', ⟨by omega⟩, ⟨by (try rw [← Nbq9.1]); exact HO135.1⟩, ⟨by (try rw [← Nbq9.1]); exact zN.1⟩, ⟨by exact HK.1⟩, ⟨by exact HB.1⟩⟩
     ·
      rw [if_neg c11] at H
      exact absurd H (by simp)
    ·
     replace c10 := Bool.eq_false_iff.mpr c10
     subst c10
     have H1 : (spec_l2Walk.j0 k l0 a1 l3 a2_0 a2_1) = some r := by rw [if_neg (show ¬ (false = true) by decide)] at H; exact H
     clear H
     have H := H1
     clear H1
     have H' := ky H
     clear H
     go_wp2
     go_meet
     case rel => (try rw [← Nbq9.1]); exact ⟨_, (l3), H', ⟨by omega⟩, ⟨by (try rw [← Nbq9.1]); exact HO3.1⟩, ⟨by (try rw [← Nbq9.1]); exact zN.1⟩, ⟨by exact HK.1⟩, ⟨by exact HB.1⟩⟩
   case rest =>
    clear HC7
    obtain ⟨kq, x3_6, HA, HJ6, HO_3, zN, HK, HB⟩ := hcut
    cases kq with
    | zero => exact absurd HA.1 (by simp [spec_l2Walk.j0])
    | succ kj6 =>
     have H := HA.1
     clear HA
     simp only [spec_l2Walk.j0] at H
     by_cases c14 : a2_1 = 32
     ·
      rw [if_pos c14] at H
      have c14b0 : (a2_1 == 32) = true := beq_iff_eq.mpr c14
      have c14b1 : (a2_1 != 32) = false := bne_eq_false_iff_eq.mpr c14
      clear c14
      obtain rfl := ko H
      have hcz15_0 : wc.cell? ⟨gb130, 0, none⟩ = some (.int .i64 a2_0) := (zl zN.1 0).trans rfl
      have hcz15_1 : wc.cell? ⟨gb130, 1, none⟩ = some (.int .i64 a2_1) := (zl zN.1 1).trans rfl
      have hfz15_0 := zm zN.1 0
      have hfz15_1 := zm zN.1 1
      go_wp2
      go_ret
      exact ⟨_, by rfl, by exact HO_3.1, by exact HB.1, by exact HK.1⟩
     ·
      rw [if_neg c14] at H
      have c14b0 : (a2_1 == 32) = false := beq_eq_false_iff_ne.mpr c14
      have c14b1 : (a2_1 != 32) = true := bne_iff_ne.mpr c14
      replace H := kd.mp H
      obtain ⟨⟨t136, t137, t138, t139⟩, A160, H⟩ := H
      replace H : (if 0 ≤ a1 then (if a1 < (l0.length : Int) then (if ((rd_T86 l0 a1).f0) = 0 then (if ((rd_T86 l0 a1).f1) = 0 then (some x3_6) else ((spec_l2Walk.f kj6 l0 ((rd_T86 l0 a1).f1) t138 t139 x3_6).bind fun t145 => (some t145))) else ((spec_l2Walk.f kj6 l0 ((rd_T86 l0 a1).f0) t136 t137 x3_6).bind fun t149 => (if ((rd_T86 l0 a1).f1) = 0 then (some t149) else ((spec_l2Walk.f kj6 l0 ((rd_T86 l0 a1).f1) t138 t139 t149).bind fun t154 => (some t154))))) else (none)) else (none)) = some r := H
      have A16 := ky A160
      clear A160
      by_cases c17 : 0 ≤ a1
      ·
       rw [if_pos c17] at H
       have c17b0 : decide (0 ≤ a1) = true := decide_eq_true c17
       clear c17
       by_cases c18 : a1 < (l0.length : Int)
       ·
        rw [if_pos c18] at H
        have c18b0 : decide (a1 < (l0.length : Int)) = true := decide_eq_true c18
        clear c18
        by_cases c19 : ((rd_T86 l0 a1).f0) = 0
        ·
         rw [if_pos c19] at H
         have c19b0 : (((rd_T86 l0 a1).f0) == 0) = true := beq_iff_eq.mpr c19
         have c19b1 : (((rd_T86 l0 a1).f0) != 0) = false := bne_eq_false_iff_eq.mpr c19
         clear c19
         by_cases c20 : ((rd_T86 l0 a1).f1) = 0
         ·
          rw [if_pos c20] at H
          have c20b0 : (((rd_T86 l0 a1).f1) == 0) = true := beq_iff_eq.mpr c20
          have c20b1 : (((rd_T86 l0 a1).f1) != 0) = false := bne_eq_false_iff_eq.mpr c20
          clear c20
          obtain rfl := ko H
          have hcz21_0 : wc.cell? ⟨gb130, 0, none⟩ = some (.int .i64 a2_0) := (zl zN.1 0).trans rfl
          have hcz21_1 : wc.cell? ⟨gb130, 1, none⟩ = some (.int .i64 a2_1) := (zl zN.1 1).trans rfl
          have hfz21_0 := zm zN.1 0
          have hfz21_1 := zm zN.1 1
          go_wp2_with (first | ((with_reducible refine gate_callee (f := 94) rfl ?_); refine goesL_ (some 32) rfl rfl Try.func94 (by kernel_rfl) rfl #[.agg #[.int .i64 a2_0, .int .i64 a2_1]] rfl (by (try simp only [ke, kb, kc]); rfl) ?_; (with_reducible refine (spec_l1Halves.calls a2_0 a2_1 t136 t137 t138 t139 _ A16.1).mono ?_); rintro e w22 ⟨rfl, hb⟩; refine ⟨_, rfl, ?_⟩; replace HO_3 := ky (zz HO_3.1 hb); replace zN := ky (zv zN.1 hb); replace HK := ky (zy HK.1 hb); replace HB := ky (zx HB.1 hb)) | ((with_reducible refine zL (N := 9) rfl ?_); refine zH rfl (N := 9) rfl (cs := #[.int .i64 0, .int .i64 0]) (t := 37) ?hr ?_; (case hr => go_simp; done); intro gb140 hg w23 hbox hb; replace HO_3 := ky (zz HO_3.1 hb); have zO := ky hbox; have zS := ky (by rw [hg]; exact (by exact HK.1.1) : w.heap.size ≤ gb140); replace HK := ky (zy HK.1 hb); have zY := ky (by rw [hg]; exact (zD HB.1) : w0.heap.size ≤ gb140); replace HB := ky (zx HB.1 hb); have zT := ky (by rw [hg]; exact kg (zA zN.1) : gb130 ≠ gb140); have zZ := ky (by rw [hg]; exact kf (zA zN.1) : gb140 ≠ gb130); replace zN := ky (zv zN.1 hb); clear hb hbox hg) | ((with_reducible refine zL (N := 10) rfl ?_); refine zH rfl (N := 10) rfl (cs := #[.int .i64 0, .int .i64 0]) (t := 37) ?hr ?_; (case hr => go_simp; done); intro gb141 hg w24 hbox hb; replace HO_3 := ky (zz HO_3.1 hb); have zP := ky hbox; have zX := ky (by rw [hg]; exact (by exact HK.1.1) : w.heap.size ≤ gb141); replace HK := ky (zy HK.1 hb); have qc := ky (by rw [hg]; exact (zD HB.1) : w0.heap.size ≤ gb141); replace HB := ky (zx HB.1 hb); have zU := ky (by rw [hg]; exact kg (zA zN.1) : gb130 ≠ gb141); have qa := ky (by rw [hg]; exact kf (zA zN.1) : gb141 ≠ gb130); replace zN := ky (zv zN.1 hb); have zV := ky (by rw [hg]; exact kg (zA zO.1) : gb140 ≠ gb141); have zW := ky (by rw [hg]; exact kf (zA zO.1) : gb141 ≠ gb140); replace zO := ky (zv zO.1 hb); clear hb hbox hg; have hnb25 := zZ.1; have hnc25 := zT.1; have hnb26 := zV.1; have hnc26 := zW.1; have hcz27_0 : w24.cell? ⟨gb140, 0, none⟩ = some (.int .i64 0) := (zl zO.1 0).trans rfl; have hcz27_1 : w24.cell? ⟨gb140, 1, none⟩ = some (.int .i64 0) := (zl zO.1 1).trans rfl; have hfz27_0 := zm zO.1 0; have hfz27_1 := zm zO.1 1; have hnb28 := qa.1; have hnc28 := zU.1; have hcz29_0 : w24.cell? ⟨gb141, 0, none⟩ = some (.int .i64 0) := (zl zP.1 0).trans rfl; have hcz29_1 : w24.cell? ⟨gb141, 1, none⟩ = some (.int .i64 0) := (zl zP.1 1).trans rfl; have hfz29_0 := zm zP.1 0; have hfz29_1 := zm zP.1 1; have p142 : 0 ≤ (a1 : Int) := of_decide_eq_true (by (with_reducible assumption)); have q142 : a1 < (l0.length : Int) := of_decide_eq_true (by (with_reducible assumption)); obtain ⟨ad142, e142, hx142_0, hx142_1, hx142_2, hx142_3⟩ := at_T86 (zq HR0.1 (show Kept w ((((w24.setCell ⟨gb140, 0, none⟩ (.int .i64 t136)).setCell ⟨gb140, 1, none⟩ (.int .i64 t137)).setCell ⟨gb141, 0, none⟩ (.int .i64 t138)).setCell ⟨gb141, 1, none⟩ (.int .i64 t139)) (fun k_ => P3_ k_) from by repeat ((with_reducible first | exact HK.1 | refine za ?_ (.inr zS.1) _ | refine za ?_ (.inr zX.1) _)))) a1 p142 q142; obtain rfl : ad131 = ad142 := (by injection e142); replace p142 := eq_true p142; replace q142 := eq_true q142; have p143 : 0 ≤ (a1 : Int) := of_decide_eq_true (by (with_reducible assumption)); have q143 : a1 < (l0.length : Int) := of_decide_eq_true (by (with_reducible assumption)); obtain ⟨ad143, e143, hx143_0, hx143_1, hx143_2, hx143_3⟩ := at_T86 (zq HR0.1 (show Kept w ((((w24.setCell ⟨gb140, 0, none⟩ (.int .i64 t136)).setCell ⟨gb140, 1, none⟩ (.int .i64 t137)).setCell ⟨gb141, 0, none⟩ (.int .i64 t138)).setCell ⟨gb141, 1, none⟩ (.int .i64 t139)) (fun k_ => P3_ k_) from by repeat ((with_reducible first | exact HK.1 | refine za ?_ (.inr zS.1) _ | refine za ?_ (.inr zX.1) _)))) a1 p143 q143; obtain rfl : ad131 = ad143 := (by injection e143); replace p143 := eq_true p143; replace q143 := eq_true q143))
          go_ret
          exact ⟨_, by rfl, by exact zI (zB (p := ⟨gb141, 1, none⟩) (zB (p := ⟨gb141, 0, none⟩) (zB (p := ⟨gb140, 1, none⟩) (zB (p := ⟨gb140, 0, none⟩) (zG (zG HO_3.1 zO.1 (by decide)) zP.1 (by decide)) (fun _ hk => hk.1.2) (.int .i64 t136)) (fun _ hk => hk.1.2) (.int .i64 t137)) (fun _ hk => hk.2) _) (fun _ hk => hk.2) _) (fun _ hk => hk.1.1), by repeat ((with_reducible first | exact HB.1 | refine ze ?_ zY.1 | refine ze ?_ qc.1)), by repeat ((with_reducible first | exact HK.1 | refine za ?_ (.inr zS.1) _ | refine za ?_ (.inr zX.1) _))⟩
         ·
          rw [if_neg c20] at H
          have c20b0 : (((rd_T86 l0 a1).f1) == 0) = false := beq_eq_false_iff_ne.mpr c20
          have c20b1 : (((rd_T86 l0 a1).f1) != 0) = true := bne_iff_ne.mpr c20
          replace H := kd.mp H
          obtain ⟨t145, A300, H⟩ := H
          replace H : (some t145) = some r := H
          have A30 := ky A300
          clear A300
          obtain rfl := ko H
          have hcz31_0 : wc.cell? ⟨gb130, 0, none⟩ = some (.int .i64 a2_0) := (zl zN.1 0).trans rfl
          have hcz31_1 : wc.cell? ⟨gb130, 1, none⟩ = some (.int .i64 a2_1) := (zl zN.1 1).trans rfl
          have hfz31_0 := zm zN.1 0
          have hfz31_1 := zm zN.1 1
          try go_wp2_with (first | ((with_reducible refine gate_callee (f := 94) rfl ?_); refine goesL_ (some 32) rfl rfl Try.func94 (by kernel_rfl) rfl #[.agg #[.int .i64 a2_0, .int .i64 a2_1]] rfl (by (try simp only [ke, kb, kc]); rfl) ?_; (with_reducible refine (spec_l1Halves.calls a2_0 a2_1 t136 t137 t138 t139 _ A16.1).mono ?_); rintro e w32 ⟨rfl, hb⟩; refine ⟨_, rfl, ?_⟩; replace HO_3 := ky (zz HO_3.1 hb); replace zN := ky (zv zN.1 hb); replace HK := ky (zy HK.1 hb); replace HB := ky (zx HB.1 hb)) | ((with_reducible refine zL (N := 9) rfl ?_); refine zH rfl (N := 9) rfl (cs := #[.int .i64 0, .int .i64 0]) (t := 37) ?hr ?_; (case hr => go_simp; done); intro gb140 hg w33 hbox hb; replace HO_3 := ky (zz HO_3.1 hb); have zO := ky hbox; have zS := ky (by rw [hg]; exact (by exact HK.1.1) : w.heap.size ≤ gb140); replace HK := ky (zy HK.1 hb); have zY := ky (by rw [hg]; exact (zD HB.1) : w0.heap.size ≤ gb140); replace HB := ky (zx HB.1 hb); have zT := ky (by rw [hg]; exact kg (zA zN.1) : gb130 ≠ gb140); have zZ := ky (by rw [hg]; exact kf (zA zN.1) : gb140 ≠ gb130); replace zN := ky (zv zN.1 hb); clear hb hbox hg) | ((with_reducible refine zL (N := 10) rfl ?_); refine zH rfl (N := 10) rfl (cs := #[.int .i64 0, .int .i64 0]) (t := 37) ?hr ?_; (case hr => go_simp; done); intro gb141 hg w34 hbox hb; replace HO_3 := ky (zz HO_3.1 hb); have zP := ky hbox; have zX := ky (by rw [hg]; exact (by exact HK.1.1) : w.heap.size ≤ gb141); replace HK := ky (zy HK.1 hb); have qc := ky (by rw [hg]; exact (zD HB.1) : w0.heap.size ≤ gb141); replace HB := ky (zx HB.1 hb); have zU := ky (by rw [hg]; exact kg (zA zN.1) : gb130 ≠ gb141); have qa := ky (by rw [hg]; exact kf (zA zN.1) : gb141 ≠ gb130); replace zN := ky (zv zN.1 hb); have zV := ky (by rw [hg]; exact kg (zA zO.1) : gb140 ≠ gb141); have zW := ky (by rw [hg]; exact kf (zA zO.1) : gb141 ≠ gb140); replace zO := ky (zv zO.1 hb); clear hb hbox hg; have hnb35 := zZ.1; have hnc35 := zT.1; have hnb36 := zV.1; have hnc36 := zW.1; have hcz37_0 : w34.cell? ⟨gb140, 0, none⟩ = some (.int .i64 0) := (zl zO.1 0).trans rfl; have hcz37_1 : w34.cell? ⟨gb140, 1, none⟩ = some (.int .i64 0) := (zl zO.1 1).trans rfl; have hfz37_0 := zm zO.1 0; have hfz37_1 := zm zO.1 1; have hnb38 := qa.1; have hnc38 := zU.1; have hcz39_0 : w34.cell? ⟨gb141, 0, none⟩ = some (.int .i64 0) := (zl zP.1 0).trans rfl; have hcz39_1 : w34.cell? ⟨gb141, 1, none⟩ = some (.int .i64 0) := (zl zP.1 1).trans rfl; have hfz39_0 := zm zP.1 0; have hfz39_1 := zm zP.1 1; have p142 : 0 ≤ (a1 : Int) := of_decide_eq_true (by (with_reducible assumption)); have q142 : a1 < (l0.length : Int) := of_decide_eq_true (by (with_reducible assumption)); obtain ⟨ad142, e142, hx142_0, hx142_1, hx142_2, hx142_3⟩ := at_T86 (zq HR0.1 (show Kept w ((((w34.setCell ⟨gb140, 0, none⟩ (.int .i64 t136)).setCell ⟨gb140, 1, none⟩ (.int .i64 t137)).setCell ⟨gb141, 0, none⟩ (.int .i64 t138)).setCell ⟨gb141, 1, none⟩ (.int .i64 t139)) (fun k_ => P3_ k_) from by repeat ((with_reducible first | exact HK.1 | refine za ?_ (.inr zS.1) _ | refine za ?_ (.inr zX.1) _)))) a1 p142 q142; obtain rfl : ad131 = ad142 := (by injection e142); replace p142 := eq_true p142; replace q142 := eq_true q142; have p143 : 0 ≤ (a1 : Int) := of_decide_eq_true (by (with_reducible assumption)); have q143 : a1 < (l0.length : Int) := of_decide_eq_true (by (with_reducible assumption)); obtain ⟨ad143, e143, hx143_0, hx143_1, hx143_2, hx143_3⟩ := at_T86 (zq HR0.1 (show Kept w ((((w34.setCell ⟨gb140, 0, none⟩ (.int .i64 t136)).setCell ⟨gb140, 1, none⟩ (.int .i64 t137)).setCell ⟨gb141, 0, none⟩ (.int .i64 t138)).setCell ⟨gb141, 1, none⟩ (.int .i64 t139)) (fun k_ => P3_ k_) from by repeat ((with_reducible first | exact HK.1 | refine za ?_ (.inr zS.1) _ | refine za ?_ (.inr zX.1) _)))) a1 p143 q143; obtain rfl : ad131 = ad143 := (by injection e143); replace p143 := eq_true p143; replace q143 := eq_true q143))
          have n0_ : zC (Kd.R k39 39 ((((w34.setCell ⟨gb140, 0, none⟩ (.int .i64 t136)).setCell ⟨gb140, 1, none⟩ (.int .i64 t137)).setCell ⟨gb141, 0, none⟩ (.int .i64 t138)).setCell ⟨gb141, 1, none⟩ (.int .i64 t139)) w0.heap.size (fun k_ => (P3_ k_ ∨ w.heap.size ≤ k_)) u3 x3_6) := ⟨by exact zI (zB (p := ⟨gb141, 1, none⟩) (zB (p := ⟨gb141, 0, none⟩) (zB (p := ⟨gb140, 1, none⟩) (zB (p := ⟨gb140, 0, none⟩) (zG (zG HO_3.1 zO.1 (by decide)) zP.1 (by decide)) (fun _ hk => hk.1.2) (.int .i64 t136)) (fun _ hk => hk.1.2) (.int .i64 t137)) (fun _ hk => hk.2) _) (fun _ hk => hk.2) _) (fun _ hk => hk.1.1)⟩
          have n1_ : zC (((((w34.setCell ⟨gb140, 0, none⟩ (.int .i64 t136)).setCell ⟨gb140, 1, none⟩ (.int .i64 t137)).setCell ⟨gb141, 0, none⟩ (.int .i64 t138)).setCell ⟨gb141, 1, none⟩ (.int .i64 t139)).heap[gb130]? = some (.cells #[.int .i64 a2_0, .int .i64 a2_1] 37 (0, 0))) := ⟨by refine zu ?_ zU.1 _; refine zu ?_ zU.1 _; refine zu ?_ zT.1 _; refine zu ?_ zT.1 _; exact zN.1⟩
          have n2_ : zC (((((w34.setCell ⟨gb140, 0, none⟩ (.int .i64 t136)).setCell ⟨gb140, 1, none⟩ (.int .i64 t137)).setCell ⟨gb141, 0, none⟩ (.int .i64 t138)).setCell ⟨gb141, 1, none⟩ (.int .i64 t139)).heap[gb140]? = some (.cells #[.int .i64 t136, .int .i64 t137] 37 (0, 0))) := ⟨by refine zu ?_ zV.1 _; refine zu ?_ zV.1 _; refine zK (cs := #[.int .i64 t136, .int .i64 0]) ?_ 1 _ rfl; refine zK (cs := #[.int .i64 0, .int .i64 0]) ?_ 0 _ rfl; exact zO.1⟩
          have n3_ : zC (((((w34.setCell ⟨gb140, 0, none⟩ (.int .i64 t136)).setCell ⟨gb140, 1, none⟩ (.int .i64 t137)).setCell ⟨gb141, 0, none⟩ (.int .i64 t138)).setCell ⟨gb141, 1, none⟩ (.int .i64 t139)).heap[gb141]? = some (.cells #[.int .i64 t138, .int .i64 t139] 37 (0, 0))) := ⟨by refine zK (cs := #[.int .i64 t138, .int .i64 0]) ?_ 1 _ rfl; refine zK (cs := #[.int .i64 0, .int .i64 0]) ?_ 0 _ rfl; refine zu ?_ zW.1 _; refine zu ?_ zW.1 _; exact zP.1⟩
          have n4_ : zC (Kept w ((((w34.setCell ⟨gb140, 0, none⟩ (.int .i64 t136)).setCell ⟨gb140, 1, none⟩ (.int .i64 t137)).setCell ⟨gb141, 0, none⟩ (.int .i64 t138)).setCell ⟨gb141, 1, none⟩ (.int .i64 t139)) (fun k_ => P3_ k_)) := ⟨by repeat ((with_reducible first | exact HK.1 | refine za ?_ (.inr zS.1) _ | refine za ?_ (.inr zX.1) _))⟩
          have n5_ : zC (Below w0.heap.size w0 ((((w34.setCell ⟨gb140, 0, none⟩ (.int .i64 t136)).setCell ⟨gb140, 1, none⟩ (.int .i64 t137)).setCell ⟨gb141, 0, none⟩ (.int .i64 t138)).setCell ⟨gb141, 1, none⟩ (.int .i64 t139))) := ⟨by repeat ((with_reducible first | exact HB.1 | refine ze ?_ zY.1 | refine ze ?_ qc.1))⟩
          generalize ((((w34.setCell ⟨gb140, 0, none⟩ (.int .i64 t136)).setCell ⟨gb140, 1, none⟩ (.int .i64 t137)).setCell ⟨gb141, 0, none⟩ (.int .i64 t138)).setCell ⟨gb141, 1, none⟩ (.int .i64 t139)) = w40 at n0_ n1_ n2_ n3_ n4_ n5_ ⊢
          have HO_3 := n0_
          have zN := n1_
          have zO := n2_
          have zP := n3_
          have HK := n4_
          have HB := n5_
          clear n0_ n1_ n2_ n3_ n4_ n5_
          replace HO_3 := ky (zn HO_3.1)
          replace zN := ky (zd zN.1)
          replace zO := ky (zd zO.1)
          replace zP := ky (zd zP.1)
          replace HK := ky (zi HK.1)
          replace HB := ky (zj HB.1)
          have p144 : 0 ≤ (a1 : Int) := of_decide_eq_true (by (with_reducible assumption))
          have q144 : a1 < (l0.length : Int) := of_decide_eq_true (by (with_reducible assumption))
          obtain ⟨ad144, e144, hx144_0, hx144_1, hx144_2, hx144_3⟩ := at_T86 (zq HR0.1 HK.1) a1 p144 q144
          have hw144_3 := hx144_3
          have hw144_2 := hx144_2
          have hw144_1 := hx144_1
          have hw144_0 := hx144_0
          obtain rfl : ad131 = ad144 := (by injection e144)
          replace p144 := eq_true p144
          replace q144 := eq_true q144
          obtain ⟨Ao42, co42, eo42⟩ := Kd.R_slice HO_3.1
          (subst eo42)
          refine start_ (n := 10) (S := fun w' => w'.cell? ⟨gb141, 0, none⟩ = some (.int .i64 t138) ∧ w'.cell? ⟨gb141, 1, none⟩ = some (.int .i64 t139) ∧ w'.cell? (ad131.add ((a1).toNat * 4)) = some (.int .i64 ((rd_T86 l0 a1).f0)) ∧ w'.cell? ⟨(ad131.add ((a1).toNat * 4)).block, (ad131.add ((a1).toNat * 4)).off + 1, none⟩ = some (.int .i64 ((rd_T86 l0 a1).f1)) ∧ w'.cell? ⟨(ad131.add ((a1).toNat * 4)).block, (ad131.add ((a1).toNat * 4)).off + 2, none⟩ = some (.bool ((rd_T86 l0 a1).f2)) ∧ w'.cell? ⟨(ad131.add ((a1).toNat * 4)).block, (ad131.add ((a1).toNat * 4)).off + 3, none⟩ = some (.int .i64 ((rd_T86 l0 a1).f3))) (ds := [8]) #[ku,ku,ku,ku,ku,ku,ku,ku,ku,ku] (by kernel_rfl) rfl rfl ⟨(zl zP.1 0).trans rfl, (zl zP.1 1).trans rfl, hx144_0, hx144_1, hx144_2, hx144_3⟩ (fun hHeld => ?_); refine with_tabW spec_l2Walk.tab9 spec_l2Walk.bits9 (fun HT_ HW_ => ?_)
          generalize w40.drew = w41 at HO_3 zN zO zP HK HB hx144_0 hx144_1 hx144_2 hx144_3 hHeld ⊢
          refine zw (i := 0) (N := some 56) (v := ?_) (a' := ?_) #[km,ku,ku,ku,ku,ku,ku,ku,ku,ku] rfl rfl (zt HT_.1 (by kernel_rfl)) (fun _ _ _ h => h) (kh ⟨by rfl, ?_⟩) ?_ ?_
          rotate_left
          ·
           intro w'
           go_simp
           with_reducible rfl
          rotate_left
          ·
           simp only [kv, kz, kj, kk, zr, zs]
           rfl
          refine zw (i := 1) (N := some 57) (v := ?_) (a' := ?_) #[km,km,ku,ku,ku,ku,ku,ku,ku,ku] rfl rfl (zt HT_.1 (by kernel_rfl)) (fun _ _ _ h => h) (kh ⟨by rfl, ?_⟩) ?_ ?_
          rotate_left
          ·
           intro w'
           go_simp
           with_reducible rfl
          rotate_left
          ·
           simp only [kv, kz, kj, kk, zr, zs]
           rfl
          refine zw (i := 2) (N := some 58) (v := ?_) (a' := ?_) #[km,km,km,ku,ku,ku,ku,ku,ku,ku] rfl rfl (zt HT_.1 (by kernel_rfl)) (fun _ _ _ h => h) (kh ⟨by rfl, ?_⟩) ?_ ?_
          rotate_left
          ·
           intro w'
           go_simp
           with_reducible rfl
          rotate_left
          ·
           simp only [kv, kz, kj, kk, zr, zs]
           rfl
          refine zw (i := 3) (N := some 59) (v := ?_) (a' := ?_) #[km,km,km,km,ku,ku,ku,ku,ku,ku] rfl rfl (zt HT_.1 (by kernel_rfl)) (fun _ _ _ h => h) (kh ⟨by rfl, ?_⟩) ?_ ?_
          rotate_left
          ·
           intro w'
           go_simp
           with_reducible rfl
          rotate_left
          ·
           simp only [kv, kz, kj, kk, zr, zs]
           rfl
          refine zw (i := 4) (N := some 60) (v := ?_) (a' := ?_) #[km,km,km,km,km,ku,ku,ku,ku,ku] rfl rfl (zt HT_.1 (by kernel_rfl)) (fun _ _ _ h => h) (kh ⟨by rfl, ?_⟩) ?_ ?_
          rotate_left
          ·
           intro w'
           go_simp
           with_reducible rfl
          rotate_left
          ·
           simp only [kv, kz, kj, kk, zr, zs]
           rfl
          refine zw (i := 7) (N := some 63) (v := ?_) (a' := ?_) #[km,km,km,km,km,ku,ku,km,ku,ku] rfl rfl (zt HT_.1 (by kernel_rfl)) (fun _ _ _ h => h) (kh ⟨by rfl, ?_⟩) ?_ ?_
          rotate_left
          ·
           intro w'
           go_simp
           with_reducible rfl
          rotate_left
          ·
           simp only [kv, kz, kj, kk, zr, zs]
           rfl
          refine zM (i := 5) (N := some 61) (v := ?_) (a' := ?_) #[km,km,km,km,km,km,ku,km,ku,ku] rfl rfl (zJ HT_.1 HW_.1 (by kernel_rfl)) (fun _ _ _ h => h) (kh ⟨by rfl, ?_⟩) hHeld ?_ ?_
          rotate_left
          ·
           rintro w' ⟨s0, s1, s2, s3, s4, s5⟩
           go_simp
           with_reducible rfl
          rotate_left
          ·
           simp only [kv, kz, kj, kk, zr, zs]
           rfl
          refine zM (i := 6) (N := some 62) (v := ?_) (a' := ?_) #[km,km,km,km,km,km,km,km,ku,ku] rfl rfl (zJ HT_.1 HW_.1 (by kernel_rfl)) (fun _ _ _ h => h) (kh ⟨by rfl, ?_⟩) hHeld ?_ ?_
          rotate_left
          ·
           rintro w' ⟨s0, s1, s2, s3, s4, s5⟩
           go_simp
           with_reducible rfl
          rotate_left
          ·
           simp only [kv, kz, kj, kk, zr, zs]
           rfl
          refine last_ (i := 8) (N := some 64) #[km,km,km,km,km,km,km,km,km,ku] rfl rfl (one_of HT_.1 (by kernel_rfl)) (by decide) (fun K hK => ?_)
          refine goes_ Try.func72 (by kernel_rfl) rfl #[.slice (some ad131) l0.length c0, .int .i64 ((rd_T86 l0 a1).f1), .agg #[.int .i64 t138, .int .i64 t139], .slice Ao42 x3_6.length co42] (by rfl) rfl rfl (by (try simp only [ke, kb, kc]); rfl) ?_
          with_reducible refine (ih kj6 (by have := HJ6.1; omega) _ _ l0 ((rd_T86 l0 a1).f1) t138 t139 (fun k_ => some k_ = (.slice Ao42 x3_6.length co42 : Value).ownBlock) (.slice Ao42 x3_6.length co42) x3_6 t145 w0 _ ?side1 ?side2 ?side3 ?side4 A30.1).mono ?_
          (case side1 => repeat (with_reducible exact HB.1))
          (case side2 => exact Kd.C_kept_call HR0.1 HK.1 (fun k_ hs_ => (fun e_ => (HO_3.1.1 k_ e_.symm)) hs_))
          (case side3 => exact HC0.1)
          (case side4 => exact Kd.R_tight rfl HO_3.1)
          rintro e w43 ⟨v146, rfl, ho0, hb, hkp⟩
          refine ⟨_, rfl, ?_⟩
          replace zN := ky (zE zN.1 hkp (fun hs_ => (fun e_ => (zF HO_3.1 zN.1 (by decide)) e_) hs_))
          replace zO := ky (zE zO.1 hkp (fun hs_ => (fun e_ => (zF HO_3.1 zO.1 (by decide)) e_) hs_))
          replace zP := ky (zE zP.1 hkp (fun hs_ => (fun e_ => (zF HO_3.1 zP.1 (by decide)) e_) hs_))
          have HO147 := ky (zI (ok' := fun k_ => (P3_ k_ ∨ w.heap.size ≤ k_)) ho0 (fun k_ hk_ => Or.elim hk_ (fun hs_ => (HO_3.1.1 k_ (hs_).symm)) (fun hn_ => (.inr (kx (by exact HK.1.1) hn_)))))
          replace HK := ky (Kept.then_ HK.1 hkp (fun k_ hs_ => (fun e_ => (HO_3.1.1 k_ e_.symm)) hs_))
          replace HB := ky hb
          refine hK.out _ _ ?_
          clear hK K
          refine norm_ (a' := ?_) ?_ ?_
          rotate_left
          ·
           show kv _ (some 64) _ = _
           simp only [kv, kz, kj, kk, zr, zs]
           rfl
          refine zw (i := 9) (N := some 3) (v := ?_) (a' := ?_) #[km,km,km,km,km,km,km,km,km,km] rfl rfl (zt HT_.1 (by kernel_rfl)) (fun _ _ _ h => h) (kh ⟨by rfl, ?_⟩) ?_ ?_
          rotate_left
          ·
           intro w'
           go_simp
           with_reducible rfl
          rotate_left
          ·
           simp only [kv, kz, kj, kk, zr, zs]
           rfl
          refine done_ (done_of HT_.1 (by kernel_rfl)) ?_
          try go_wp2
          go_ret
          exact ⟨_, by rfl, by exact HO147.1, by exact HB.1, by exact HK.1⟩
        ·
         rw [if_neg c19] at H
         have c19b0 : (((rd_T86 l0 a1).f0) == 0) = false := beq_eq_false_iff_ne.mpr c19
         have c19b1 : (((rd_T86 l0 a1).f0) != 0) = true := bne_iff_ne.mpr c19
         replace H := kd.mp H
         obtain ⟨t149, A440, H⟩ := H
         replace H : (if ((rd_T86 l0 a1).f1) = 0 then (some t149) else ((spec_l2Walk.f kj6 l0 ((rd_T86 l0 a1).f1) t138 t139 t149).bind fun t154 => (some t154))) = some r := H
         have A44 := ky A440
         clear A440
         by_cases c45 : ((rd_T86 l0 a1).f1) = 0
         ·
          rw [if_pos c45] at H
          have c45b0 : (((rd_T86 l0 a1).f1) == 0) = true := beq_iff_eq.mpr c45
          have c45b1 : (((rd_T86 l0 a1).f1) != 0) = false := bne_eq_false_iff_eq.mpr c45
          clear c45
          obtain rfl := ko H
          have hcz46_0 : wc.cell? ⟨gb130, 0, none⟩ = some (.int .i64 a2_0) := (zl zN.1 0).trans rfl
          have hcz46_1 : wc.cell? ⟨gb130, 1, none⟩ = some (.int .i64 a2_1) := (zl zN.1 1).trans rfl
          have hfz46_0 := zm zN.1 0
          have hfz46_1 := zm zN.1 1
          try go_wp2_with (first | ((with_reducible refine gate_callee (f := 94) rfl ?_); refine goesL_ (some 32) rfl rfl Try.func94 (by kernel_rfl) rfl #[.agg #[.int .i64 a2_0, .int .i64 a2_1]] rfl (by (try simp only [ke, kb, kc]); rfl) ?_; (with_reducible refine (spec_l1Halves.calls a2_0 a2_1 t136 t137 t138 t139 _ A16.1).mono ?_); rintro e w47 ⟨rfl, hb⟩; refine ⟨_, rfl, ?_⟩; replace HO_3 := ky (zz HO_3.1 hb); replace zN := ky (zv zN.1 hb); replace HK := ky (zy HK.1 hb); replace HB := ky (zx HB.1 hb)) | ((with_reducible refine zL (N := 9) rfl ?_); refine zH rfl (N := 9) rfl (cs := #[.int .i64 0, .int .i64 0]) (t := 37) ?hr ?_; (case hr => go_simp; done); intro gb140 hg w48 hbox hb; replace HO_3 := ky (zz HO_3.1 hb); have zO := ky hbox; have zS := ky (by rw [hg]; exact (by exact HK.1.1) : w.heap.size ≤ gb140); replace HK := ky (zy HK.1 hb); have zY := ky (by rw [hg]; exact (zD HB.1) : w0.heap.size ≤ gb140); replace HB := ky (zx HB.1 hb); have zT := ky (by rw [hg]; exact kg (zA zN.1) : gb130 ≠ gb140); have zZ := ky (by rw [hg]; exact kf (zA zN.1) : gb140 ≠ gb130); replace zN := ky (zv zN.1 hb); clear hb hbox hg) | ((with_reducible refine zL (N := 10) rfl ?_); refine zH rfl (N := 10) rfl (cs := #[.int .i64 0, .int .i64 0]) (t := 37) ?hr ?_; (case hr => go_simp; done); intro gb141 hg w49 hbox hb; replace HO_3 := ky (zz HO_3.1 hb); have zP := ky hbox; have zX := ky (by rw [hg]; exact (by exact HK.1.1) : w.heap.size ≤ gb141); replace HK := ky (zy HK.1 hb); have qc := ky (by rw [hg]; exact (zD HB.1) : w0.heap.size ≤ gb141); replace HB := ky (zx HB.1 hb); have zU := ky (by rw [hg]; exact kg (zA zN.1) : gb130 ≠ gb141); have qa := ky (by rw [hg]; exact kf (zA zN.1) : gb141 ≠ gb130); replace zN := ky (zv zN.1 hb); have zV := ky (by rw [hg]; exact kg (zA zO.1) : gb140 ≠ gb141); have zW := ky (by rw [hg]; exact kf (zA zO.1) : gb141 ≠ gb140); replace zO := ky (zv zO.1 hb); clear hb hbox hg; have hnb50 := zZ.1; have hnc50 := zT.1; have hnb51 := zV.1; have hnc51 := zW.1; have hcz52_0 : w49.cell? ⟨gb140, 0, none⟩ = some (.int .i64 0) := (zl zO.1 0).trans rfl; have hcz52_1 : w49.cell? ⟨gb140, 1, none⟩ = some (.int .i64 0) := (zl zO.1 1).trans rfl; have hfz52_0 := zm zO.1 0; have hfz52_1 := zm zO.1 1; have hnb53 := qa.1; have hnc53 := zU.1; have hcz54_0 : w49.cell? ⟨gb141, 0, none⟩ = some (.int .i64 0) := (zl zP.1 0).trans rfl; have hcz54_1 : w49.cell? ⟨gb141, 1, none⟩ = some (.int .i64 0) := (zl zP.1 1).trans rfl; have hfz54_0 := zm zP.1 0; have hfz54_1 := zm zP.1 1; have p142 : 0 ≤ (a1 : Int) := of_decide_eq_true (by (with_reducible assumption)); have q142 : a1 < (l0.length : Int) := of_decide_eq_true (by (with_reducible assumption)); obtain ⟨ad142, e142, hx142_0, hx142_1, hx142_2, hx142_3⟩ := at_T86 (zq HR0.1 (show Kept w ((((w49.setCell ⟨gb140, 0, none⟩ (.int .i64 t136)).setCell ⟨gb140, 1, none⟩ (.int .i64 t137)).setCell ⟨gb141, 0, none⟩ (.int .i64 t138)).setCell ⟨gb141, 1, none⟩ (.int .i64 t139)) (fun k_ => P3_ k_) from by repeat ((with_reducible first | exact HK.1 | refine za ?_ (.inr zS.1) _ | refine za ?_ (.inr zX.1) _)))) a1 p142 q142; obtain rfl : ad131 = ad142 := (by injection e142); replace p142 := eq_true p142; replace q142 := eq_true q142))
          have n0_ : zC (Kd.R k39 39 ((((w49.setCell ⟨gb140, 0, none⟩ (.int .i64 t136)).setCell ⟨gb140, 1, none⟩ (.int .i64 t137)).setCell ⟨gb141, 0, none⟩ (.int .i64 t138)).setCell ⟨gb141, 1, none⟩ (.int .i64 t139)) w0.heap.size (fun k_ => (P3_ k_ ∨ w.heap.size ≤ k_)) u3 x3_6) := ⟨by exact zI (zB (p := ⟨gb141, 1, none⟩) (zB (p := ⟨gb141, 0, none⟩) (zB (p := ⟨gb140, 1, none⟩) (zB (p := ⟨gb140, 0, none⟩) (zG (zG HO_3.1 zO.1 (by decide)) zP.1 (by decide)) (fun _ hk => hk.1.2) (.int .i64 t136)) (fun _ hk => hk.1.2) (.int .i64 t137)) (fun _ hk => hk.2) _) (fun _ hk => hk.2) _) (fun _ hk => hk.1.1)⟩
          have n1_ : zC (((((w49.setCell ⟨gb140, 0, none⟩ (.int .i64 t136)).setCell ⟨gb140, 1, none⟩ (.int .i64 t137)).setCell ⟨gb141, 0, none⟩ (.int .i64 t138)).setCell ⟨gb141, 1, none⟩ (.int .i64 t139)).heap[gb130]? = some (.cells #[.int .i64 a2_0, .int .i64 a2_1] 37 (0, 0))) := ⟨by refine zu ?_ zU.1 _; refine zu ?_ zU.1 _; refine zu ?_ zT.1 _; refine zu ?_ zT.1 _; exact zN.1⟩
          have n2_ : zC (((((w49.setCell ⟨gb140, 0, none⟩ (.int .i64 t136)).setCell ⟨gb140, 1, none⟩ (.int .i64 t137)).setCell ⟨gb141, 0, none⟩ (.int .i64 t138)).setCell ⟨gb141, 1, none⟩ (.int .i64 t139)).heap[gb140]? = some (.cells #[.int .i64 t136, .int .i64 t137] 37 (0, 0))) := ⟨by refine zu ?_ zV.1 _; refine zu ?_ zV.1 _; refine zK (cs := #[.int .i64 t136, .int .i64 0]) ?_ 1 _ rfl; refine zK (cs := #[.int .i64 0, .int .i64 0]) ?_ 0 _ rfl; exact zO.1⟩
          have n3_ : zC (((((w49.setCell ⟨gb140, 0, none⟩ (.int .i64 t136)).setCell ⟨gb140, 1, none⟩ (.int .i64 t137)).setCell ⟨gb141, 0, none⟩ (.int .i64 t138)).setCell ⟨gb141, 1, none⟩ (.int .i64 t139)).heap[gb141]? = some (.cells #[.int .i64 t138, .int .i64 t139] 37 (0, 0))) := ⟨by refine zK (cs := #[.int .i64 t138, .int .i64 0]) ?_ 1 _ rfl; refine zK (cs := #[.int .i64 0, .int .i64 0]) ?_ 0 _ rfl; refine zu ?_ zW.1 _; refine zu ?_ zW.1 _; exact zP.1⟩
          have n4_ : zC (Kept w ((((w49.setCell ⟨gb140, 0, none⟩ (.int .i64 t136)).setCell ⟨gb140, 1, none⟩ (.int .i64 t137)).setCell ⟨gb141, 0, none⟩ (.int .i64 t138)).setCell ⟨gb141, 1, none⟩ (.int .i64 t139)) (fun k_ => P3_ k_)) := ⟨by repeat ((with_reducible first | exact HK.1 | refine za ?_ (.inr zS.1) _ | refine za ?_ (.inr zX.1) _))⟩
          have n5_ : zC (Below w0.heap.size w0 ((((w49.setCell ⟨gb140, 0, none⟩ (.int .i64 t136)).setCell ⟨gb140, 1, none⟩ (.int .i64 t137)).setCell ⟨gb141, 0, none⟩ (.int .i64 t138)).setCell ⟨gb141, 1, none⟩ (.int .i64 t139))) := ⟨by repeat ((with_reducible first | exact HB.1 | refine ze ?_ zY.1 | refine ze ?_ qc.1))⟩
          generalize ((((w49.setCell ⟨gb140, 0, none⟩ (.int .i64 t136)).setCell ⟨gb140, 1, none⟩ (.int .i64 t137)).setCell ⟨gb141, 0, none⟩ (.int .i64 t138)).setCell ⟨gb141, 1, none⟩ (.int .i64 t139)) = w55 at n0_ n1_ n2_ n3_ n4_ n5_ ⊢
          have HO_3 := n0_
          have zN := n1_
          have zO := n2_
          have zP := n3_
          have HK := n4_
          have HB := n5_
          clear n0_ n1_ n2_ n3_ n4_ n5_
          replace HO_3 := ky (zn HO_3.1)
          replace zN := ky (zd zN.1)
          replace zO := ky (zd zO.1)
          replace zP := ky (zd zP.1)
          replace HK := ky (zi HK.1)
          replace HB := ky (zj HB.1)
          have p148 : 0 ≤ (a1 : Int) := of_decide_eq_true (by (with_reducible assumption))
          have q148 : a1 < (l0.length : Int) := of_decide_eq_true (by (with_reducible assumption))
          obtain ⟨ad148, e148, hx148_0, hx148_1, hx148_2, hx148_3⟩ := at_T86 (zq HR0.1 HK.1) a1 p148 q148
          have hw148_3 := hx148_3
          have hw148_2 := hx148_2
          have hw148_1 := hx148_1
          have hw148_0 := hx148_0
          obtain rfl : ad131 = ad148 := (by injection e148)
          replace p148 := eq_true p148
          replace q148 := eq_true q148
          obtain ⟨Ao57, co57, eo57⟩ := Kd.R_slice HO_3.1
          (subst eo57)
          refine start_ (n := 10) (S := fun w' => w'.cell? ⟨gb140, 0, none⟩ = some (.int .i64 t136) ∧ w'.cell? ⟨gb140, 1, none⟩ = some (.int .i64 t137) ∧ w'.cell? (ad131.add ((a1).toNat * 4)) = some (.int .i64 ((rd_T86 l0 a1).f0)) ∧ w'.cell? ⟨(ad131.add ((a1).toNat * 4)).block, (ad131.add ((a1).toNat * 4)).off + 1, none⟩ = some (.int .i64 ((rd_T86 l0 a1).f1)) ∧ w'.cell? ⟨(ad131.add ((a1).toNat * 4)).block, (ad131.add ((a1).toNat * 4)).off + 2, none⟩ = some (.bool ((rd_T86 l0 a1).f2)) ∧ w'.cell? ⟨(ad131.add ((a1).toNat * 4)).block, (ad131.add ((a1).toNat * 4)).off + 3, none⟩ = some (.int .i64 ((rd_T86 l0 a1).f3))) (ds := [8]) #[ku,ku,ku,ku,ku,ku,ku,ku,ku,ku] (by kernel_rfl) rfl rfl ⟨(zl zO.1 0).trans rfl, (zl zO.1 1).trans rfl, hx148_0, hx148_1, hx148_2, hx148_3⟩ (fun hHeld => ?_); refine with_tabW spec_l2Walk.tab7 spec_l2Walk.bits7 (fun HT_ HW_ => ?_)
          generalize w55.drew = w56 at HO_3 zN zO zP HK HB hx148_0 hx148_1 hx148_2 hx148_3 hHeld ⊢
          refine zw (i := 0) (N := some 41) (v := ?_) (a' := ?_) #[km,ku,ku,ku,ku,ku,ku,ku,ku,ku] rfl rfl (zt HT_.1 (by kernel_rfl)) (fun _ _ _ h => h) (kh ⟨by rfl, ?_⟩) ?_ ?_
          rotate_left
          ·
           intro w'
           go_simp
           with_reducible rfl
          rotate_left
          ·
           simp only [kv, kz, kj, kk, zr, zs]
           rfl
          refine zw (i := 1) (N := some 42) (v := ?_) (a' := ?_) #[km,km,ku,ku,ku,ku,ku,ku,ku,ku] rfl rfl (zt HT_.1 (by kernel_rfl)) (fun _ _ _ h => h) (kh ⟨by rfl, ?_⟩) ?_ ?_
          rotate_left
          ·
           intro w'
           go_simp
           with_reducible rfl
          rotate_left
          ·
           simp only [kv, kz, kj, kk, zr, zs]
           rfl
          refine zw (i := 2) (N := some 43) (v := ?_) (a' := ?_) #[km,km,km,ku,ku,ku,ku,ku,ku,ku] rfl rfl (zt HT_.1 (by kernel_rfl)) (fun _ _ _ h => h) (kh ⟨by rfl, ?_⟩) ?_ ?_
          rotate_left
          ·
           intro w'
           go_simp
           with_reducible rfl
          rotate_left
          ·
           simp only [kv, kz, kj, kk, zr, zs]
           rfl
          refine zw (i := 3) (N := some 44) (v := ?_) (a' := ?_) #[km,km,km,km,ku,ku,ku,ku,ku,ku] rfl rfl (zt HT_.1 (by kernel_rfl)) (fun _ _ _ h => h) (kh ⟨by rfl, ?_⟩) ?_ ?_
          rotate_left
          ·
           intro w'
           go_simp
           with_reducible rfl
          rotate_left
          ·
           simp only [kv, kz, kj, kk, zr, zs]
           rfl
          refine zw (i := 4) (N := some 45) (v := ?_) (a' := ?_) #[km,km,km,km,km,ku,ku,ku,ku,ku] rfl rfl (zt HT_.1 (by kernel_rfl)) (fun _ _ _ h => h) (kh ⟨by rfl, ?_⟩) ?_ ?_
          rotate_left
          ·
           intro w'
           go_simp
           with_reducible rfl
          rotate_left
          ·
           simp only [kv, kz, kj, kk, zr, zs]
           rfl
          refine zw (i := 7) (N := some 48) (v := ?_) (a' := ?_) #[km,km,km,km,km,ku,ku,km,ku,ku] rfl rfl (zt HT_.1 (by kernel_rfl)) (fun _ _ _ h => h) (kh ⟨by rfl, ?_⟩) ?_ ?_
          rotate_left
          ·
           intro w'
           go_simp
           with_reducible rfl
          rotate_left
          ·
           simp only [kv, kz, kj, kk, zr, zs]
           rfl
          refine zM (i := 5) (N := some 46) (v := ?_) (a' := ?_) #[km,km,km,km,km,km,ku,km,ku,ku] rfl rfl (zJ HT_.1 HW_.1 (by kernel_rfl)) (fun _ _ _ h => h) (kh ⟨by rfl, ?_⟩) hHeld ?_ ?_
          rotate_left
          ·
           rintro w' ⟨s0, s1, s2, s3, s4, s5⟩
           go_simp
           with_reducible rfl
          rotate_left
          ·
           simp only [kv, kz, kj, kk, zr, zs]
           rfl
          refine zM (i := 6) (N := some 47) (v := ?_) (a' := ?_) #[km,km,km,km,km,km,km,km,ku,ku] rfl rfl (zJ HT_.1 HW_.1 (by kernel_rfl)) (fun _ _ _ h => h) (kh ⟨by rfl, ?_⟩) hHeld ?_ ?_
          rotate_left
          ·
           rintro w' ⟨s0, s1, s2, s3, s4, s5⟩
           go_simp
           with_reducible rfl
          rotate_left
          ·
           simp only [kv, kz, kj, kk, zr, zs]
           rfl
          refine last_ (i := 8) (N := some 49) #[km,km,km,km,km,km,km,km,km,ku] rfl rfl (one_of HT_.1 (by kernel_rfl)) (by decide) (fun K hK => ?_)
          refine goes_ Try.func72 (by kernel_rfl) rfl #[.slice (some ad131) l0.length c0, .int .i64 ((rd_T86 l0 a1).f0), .agg #[.int .i64 t136, .int .i64 t137], .slice Ao57 x3_6.length co57] (by rfl) rfl rfl (by (try simp only [ke, kb, kc]); rfl) ?_
          with_reducible refine (ih kj6 (by have := HJ6.1; omega) _ _ l0 ((rd_T86 l0 a1).f0) t136 t137 (fun k_ => some k_ = (.slice Ao57 x3_6.length co57 : Value).ownBlock) (.slice Ao57 x3_6.length co57) x3_6 t149 w0 _ ?side1 ?side2 ?side3 ?side4 A44.1).mono ?_
          (case side1 => repeat (with_reducible exact HB.1))
          (case side2 => exact Kd.C_kept_call HR0.1 HK.1 (fun k_ hs_ => (fun e_ => (HO_3.1.1 k_ e_.symm)) hs_))
          (case side3 => exact HC0.1)
          (case side4 => exact Kd.R_tight rfl HO_3.1)
          rintro e w58 ⟨v150, rfl, ho0, hb, hkp⟩
          refine ⟨_, rfl, ?_⟩
          replace zN := ky (zE zN.1 hkp (fun hs_ => (fun e_ => (zF HO_3.1 zN.1 (by decide)) e_) hs_))
          replace zO := ky (zE zO.1 hkp (fun hs_ => (fun e_ => (zF HO_3.1 zO.1 (by decide)) e_) hs_))
          replace zP := ky (zE zP.1 hkp (fun hs_ => (fun e_ => (zF HO_3.1 zP.1 (by decide)) e_) hs_))
          have qb := ky (zI (ok' := fun k_ => (P3_ k_ ∨ w.heap.size ≤ k_)) ho0 (fun k_ hk_ => Or.elim hk_ (fun hs_ => (HO_3.1.1 k_ (hs_).symm)) (fun hn_ => (.inr (kx (by exact HK.1.1) hn_)))))
          replace HK := ky (Kept.then_ HK.1 hkp (fun k_ hs_ => (fun e_ => (HO_3.1.1 k_ e_.symm)) hs_))
          replace HB := ky hb
          refine hK.out _ _ ?_
          clear hK K
          refine norm_ (a' := ?_) ?_ ?_
          rotate_left
          ·
           show kv _ (some 49) _ = _
           simp only [kv, kz, kj, kk, zr, zs]
           rfl
          refine zw (i := 9) (N := some 3) (v := ?_) (a' := ?_) #[km,km,km,km,km,km,km,km,km,km] rfl rfl (zt HT_.1 (by kernel_rfl)) (fun _ _ _ h => h) (kh ⟨by rfl, ?_⟩) ?_ ?_
          rotate_left
          ·
           intro w'
           go_simp
           with_reducible rfl
          rotate_left
          ·
           simp only [kv, kz, kj, kk, zr, zs]
           rfl
          refine done_ (done_of HT_.1 (by kernel_rfl)) ?_
          have p152 : 0 ≤ (a1 : Int) := of_decide_eq_true (by (with_reducible assumption))
          have q152 : a1 < (l0.length : Int) := of_decide_eq_true (by (with_reducible assumption))
          obtain ⟨ad152, e152, hx152_0, hx152_1, hx152_2, hx152_3⟩ := at_T86 (zq HR0.1 HK.1) a1 p152 q152
          obtain rfl : ad131 = ad152 := (by injection e152)
          replace p152 := eq_true p152
          replace q152 := eq_true q152
          try go_wp2
          go_ret
          exact ⟨_, by rfl, by exact qb.1, by exact HB.1, by exact HK.1⟩
         ·
          rw [if_neg c45] at H
          have c45b0 : (((rd_T86 l0 a1).f1) == 0) = false := beq_eq_false_iff_ne.mpr c45
          have c45b1 : (((rd_T86 l0 a1).f1) != 0) = true := bne_iff_ne.mpr c45
          replace H := kd.mp H
          obtain ⟨t154, A590, H⟩ := H
          replace H : (some t154) = some r := H
          have A59 := ky A590
          clear A590
          obtain rfl := ko H
          have hcz60_0 : wc.cell? ⟨gb130, 0, none⟩ = some (.int .i64 a2_0) := (zl zN.1 0).trans rfl
          have hcz60_1 : wc.cell? ⟨gb130, 1, none⟩ = some (.int .i64 a2_1) := (zl zN.1 1).trans rfl
          have hfz60_0 := zm zN.1 0
          have hfz60_1 := zm zN.1 1
          try go_wp2_with (first | ((with_reducible refine gate_callee (f := 94) rfl ?_); refine goesL_ (some 32) rfl rfl Try.func94 (by kernel_rfl) rfl #[.agg #[.int .i64 a2_0, .int .i64 a2_1]] rfl (by (try simp only [ke, kb, kc]); rfl) ?_; (with_reducible refine (spec_l1Halves.calls a2_0 a2_1 t136 t137 t138 t139 _ A16.1).mono ?_); rintro e w61 ⟨rfl, hb⟩; refine ⟨_, rfl, ?_⟩; replace HO_3 := ky (zz HO_3.1 hb); replace zN := ky (zv zN.1 hb); replace HK := ky (zy HK.1 hb); replace HB := ky (zx HB.1 hb)) | ((with_reducible refine zL (N := 9) rfl ?_); refine zH rfl (N := 9) rfl (cs := #[.int .i64 0, .int .i64 0]) (t := 37) ?hr ?_; (case hr => go_simp; done); intro gb140 hg w62 hbox hb; replace HO_3 := ky (zz HO_3.1 hb); have zO := ky hbox; have zS := ky (by rw [hg]; exact (by exact HK.1.1) : w.heap.size ≤ gb140); replace HK := ky (zy HK.1 hb); have zY := ky (by rw [hg]; exact (zD HB.1) : w0.heap.size ≤ gb140); replace HB := ky (zx HB.1 hb); have zT := ky (by rw [hg]; exact kg (zA zN.1) : gb130 ≠ gb140); have zZ := ky (by rw [hg]; exact kf (zA zN.1) : gb140 ≠ gb130); replace zN := ky (zv zN.1 hb); clear hb hbox hg) | ((with_reducible refine zL (N := 10) rfl ?_); refine zH rfl (N := 10) rfl (cs := #[.int .i64 0, .int .i64 0]) (t := 37) ?hr ?_; (case hr => go_simp; done); intro gb141 hg w63 hbox hb; replace HO_3 := ky (zz HO_3.1 hb); have zP := ky hbox; have zX := ky (by rw [hg]; exact (by exact HK.1.1) : w.heap.size ≤ gb141); replace HK := ky (zy HK.1 hb); have qc := ky (by rw [hg]; exact (zD HB.1) : w0.heap.size ≤ gb141); replace HB := ky (zx HB.1 hb); have zU := ky (by rw [hg]; exact kg (zA zN.1) : gb130 ≠ gb141); have qa := ky (by rw [hg]; exact kf (zA zN.1) : gb141 ≠ gb130); replace zN := ky (zv zN.1 hb); have zV := ky (by rw [hg]; exact kg (zA zO.1) : gb140 ≠ gb141); have zW := ky (by rw [hg]; exact kf (zA zO.1) : gb141 ≠ gb140); replace zO := ky (zv zO.1 hb); clear hb hbox hg; have hnb64 := zZ.1; have hnc64 := zT.1; have hnb65 := zV.1; have hnc65 := zW.1; have hcz66_0 : w63.cell? ⟨gb140, 0, none⟩ = some (.int .i64 0) := (zl zO.1 0).trans rfl; have hcz66_1 : w63.cell? ⟨gb140, 1, none⟩ = some (.int .i64 0) := (zl zO.1 1).trans rfl; have hfz66_0 := zm zO.1 0; have hfz66_1 := zm zO.1 1; have hnb67 := qa.1; have hnc67 := zU.1; have hcz68_0 : w63.cell? ⟨gb141, 0, none⟩ = some (.int .i64 0) := (zl zP.1 0).trans rfl; have hcz68_1 : w63.cell? ⟨gb141, 1, none⟩ = some (.int .i64 0) := (zl zP.1 1).trans rfl; have hfz68_0 := zm zP.1 0; have hfz68_1 := zm zP.1 1; have p142 : 0 ≤ (a1 : Int) := of_decide_eq_true (by (with_reducible assumption)); have q142 : a1 < (l0.length : Int) := of_decide_eq_true (by (with_reducible assumption)); obtain ⟨ad142, e142, hx142_0, hx142_1, hx142_2, hx142_3⟩ := at_T86 (zq HR0.1 (show Kept w ((((w63.setCell ⟨gb140, 0, none⟩ (.int .i64 t136)).setCell ⟨gb140, 1, none⟩ (.int .i64 t137)).setCell ⟨gb141, 0, none⟩ (.int .i64 t138)).setCell ⟨gb141, 1, none⟩ (.int .i64 t139)) (fun k_ => P3_ k_) from by repeat ((with_reducible first | exact HK.1 | refine za ?_ (.inr zS.1) _ | refine za ?_ (.inr zX.1) _)))) a1 p142 q142; obtain rfl : ad131 = ad142 := (by injection e142); replace p142 := eq_true p142; replace q142 := eq_true q142))
          have n0_ : zC (Kd.R k39 39 ((((w63.setCell ⟨gb140, 0, none⟩ (.int .i64 t136)).setCell ⟨gb140, 1, none⟩ (.int .i64 t137)).setCell ⟨gb141, 0, none⟩ (.int .i64 t138)).setCell ⟨gb141, 1, none⟩ (.int .i64 t139)) w0.heap.size (fun k_ => (P3_ k_ ∨ w.heap.size ≤ k_)) u3 x3_6) := ⟨by exact zI (zB (p := ⟨gb141, 1, none⟩) (zB (p := ⟨gb141, 0, none⟩) (zB (p := ⟨gb140, 1, none⟩) (zB (p := ⟨gb140, 0, none⟩) (zG (zG HO_3.1 zO.1 (by decide)) zP.1 (by decide)) (fun _ hk => hk.1.2) (.int .i64 t136)) (fun _ hk => hk.1.2) (.int .i64 t137)) (fun _ hk => hk.2) _) (fun _ hk => hk.2) _) (fun _ hk => hk.1.1)⟩
          have n1_ : zC (((((w63.setCell ⟨gb140, 0, none⟩ (.int .i64 t136)).setCell ⟨gb140, 1, none⟩ (.int .i64 t137)).setCell ⟨gb141, 0, none⟩ (.int .i64 t138)).setCell ⟨gb141, 1, none⟩ (.int .i64 t139)).heap[gb130]? = some (.cells #[.int .i64 a2_0, .int .i64 a2_1] 37 (0, 0))) := ⟨by refine zu ?_ zU.1 _; refine zu ?_ zU.1 _; refine zu ?_ zT.1 _; refine zu ?_ zT.1 _; exact zN.1⟩
          have n2_ : zC (((((w63.setCell ⟨gb140, 0, none⟩ (.int .i64 t136)).setCell ⟨gb140, 1, none⟩ (.int .i64 t137)).setCell ⟨gb141, 0, none⟩ (.int .i64 t138)).setCell ⟨gb141, 1, none⟩ (.int .i64 t139)).heap[gb140]? = some (.cells #[.int .i64 t136, .int .i64 t137] 37 (0, 0))) := ⟨by refine zu ?_ zV.1 _; refine zu ?_ zV.1 _; refine zK (cs := #[.int .i64 t136, .int .i64 0]) ?_ 1 _ rfl; refine zK (cs := #[.int .i64 0, .int .i64 0]) ?_ 0 _ rfl; exact zO.1⟩
          have n3_ : zC (((((w63.setCell ⟨gb140, 0, none⟩ (.int .i64 t136)).setCell ⟨gb140, 1, none⟩ (.int .i64 t137)).setCell ⟨gb141, 0, none⟩ (.int .i64 t138)).setCell ⟨gb141, 1, none⟩ (.int .i64 t139)).heap[gb141]? = some (.cells #[.int .i64 t138, .int .i64 t139] 37 (0, 0))) := ⟨by refine zK (cs := #[.int .i64 t138, .int .i64 0]) ?_ 1 _ rfl; refine zK (cs := #[.int .i64 0, .int .i64 0]) ?_ 0 _ rfl; refine zu ?_ zW.1 _; refine zu ?_ zW.1 _; exact zP.1⟩
          have n4_ : zC (Kept w ((((w63.setCell ⟨gb140, 0, none⟩ (.int .i64 t136)).setCell ⟨gb140, 1, none⟩ (.int .i64 t137)).setCell ⟨gb141, 0, none⟩ (.int .i64 t138)).setCell ⟨gb141, 1, none⟩ (.int .i64 t139)) (fun k_ => P3_ k_)) := ⟨by repeat ((with_reducible first | exact HK.1 | refine za ?_ (.inr zS.1) _ | refine za ?_ (.inr zX.1) _))⟩
          have n5_ : zC (Below w0.heap.size w0 ((((w63.setCell ⟨gb140, 0, none⟩ (.int .i64 t136)).setCell ⟨gb140, 1, none⟩ (.int .i64 t137)).setCell ⟨gb141, 0, none⟩ (.int .i64 t138)).setCell ⟨gb141, 1, none⟩ (.int .i64 t139))) := ⟨by repeat ((with_reducible first | exact HB.1 | refine ze ?_ zY.1 | refine ze ?_ qc.1))⟩
          generalize ((((w63.setCell ⟨gb140, 0, none⟩ (.int .i64 t136)).setCell ⟨gb140, 1, none⟩ (.int .i64 t137)).setCell ⟨gb141, 0, none⟩ (.int .i64 t138)).setCell ⟨gb141, 1, none⟩ (.int .i64 t139)) = w69 at n0_ n1_ n2_ n3_ n4_ n5_ ⊢
          have HO_3 := n0_
          have zN := n1_
          have zO := n2_
          have zP := n3_
          have HK := n4_
          have HB := n5_
          clear n0_ n1_ n2_ n3_ n4_ n5_
          replace HO_3 := ky (zn HO_3.1)
          replace zN := ky (zd zN.1)
          replace zO := ky (zd zO.1)
          replace zP := ky (zd zP.1)
          replace HK := ky (zi HK.1)
          replace HB := ky (zj HB.1)
          have p148 : 0 ≤ (a1 : Int) := of_decide_eq_true (by (with_reducible assumption))
          have q148 : a1 < (l0.length : Int) := of_decide_eq_true (by (with_reducible assumption))
          obtain ⟨ad148, e148, hx148_0, hx148_1, hx148_2, hx148_3⟩ := at_T86 (zq HR0.1 HK.1) a1 p148 q148
          have hw148_3 := hx148_3
          have hw148_2 := hx148_2
          have hw148_1 := hx148_1
          have hw148_0 := hx148_0
          obtain rfl : ad131 = ad148 := (by injection e148)
          replace p148 := eq_true p148
          replace q148 := eq_true q148
          obtain ⟨Ao71, co71, eo71⟩ := Kd.R_slice HO_3.1
          (subst eo71)
          refine start_ (n := 10) (S := fun w' => w'.cell? ⟨gb140, 0, none⟩ = some (.int .i64 t136) ∧ w'.cell? ⟨gb140, 1, none⟩ = some (.int .i64 t137) ∧ w'.cell? (ad131.add ((a1).toNat * 4)) = some (.int .i64 ((rd_T86 l0 a1).f0)) ∧ w'.cell? ⟨(ad131.add ((a1).toNat * 4)).block, (ad131.add ((a1).toNat * 4)).off + 1, none⟩ = some (.int .i64 ((rd_T86 l0 a1).f1)) ∧ w'.cell? ⟨(ad131.add ((a1).toNat * 4)).block, (ad131.add ((a1).toNat * 4)).off + 2, none⟩ = some (.bool ((rd_T86 l0 a1).f2)) ∧ w'.cell? ⟨(ad131.add ((a1).toNat * 4)).block, (ad131.add ((a1).toNat * 4)).off + 3, none⟩ = some (.int .i64 ((rd_T86 l0 a1).f3))) (ds := [8]) #[ku,ku,ku,ku,ku,ku,ku,ku,ku,ku] (by kernel_rfl) rfl rfl ⟨(zl zO.1 0).trans rfl, (zl zO.1 1).trans rfl, hx148_0, hx148_1, hx148_2, hx148_3⟩ (fun hHeld => ?_); refine with_tabW spec_l2Walk.tab7 spec_l2Walk.bits7 (fun HT_ HW_ => ?_)
          generalize w69.drew = w70 at HO_3 zN zO zP HK HB hx148_0 hx148_1 hx148_2 hx148_3 hHeld ⊢
          refine zw (i := 0) (N := some 41) (v := ?_) (a' := ?_) #[km,ku,ku,ku,ku,ku,ku,ku,ku,ku] rfl rfl (zt HT_.1 (by kernel_rfl)) (fun _ _ _ h => h) (kh ⟨by rfl, ?_⟩) ?_ ?_
          rotate_left
          ·
           intro w'
           go_simp
           with_reducible rfl
          rotate_left
          ·
           simp only [kv, kz, kj, kk, zr, zs]
           rfl
          refine zw (i := 1) (N := some 42) (v := ?_) (a' := ?_) #[km,km,ku,ku,ku,ku,ku,ku,ku,ku] rfl rfl (zt HT_.1 (by kernel_rfl)) (fun _ _ _ h => h) (kh ⟨by rfl, ?_⟩) ?_ ?_
          rotate_left
          ·
           intro w'
           go_simp
           with_reducible rfl
          rotate_left
          ·
           simp only [kv, kz, kj, kk, zr, zs]
           rfl
          refine zw (i := 2) (N := some 43) (v := ?_) (a' := ?_) #[km,km,km,ku,ku,ku,ku,ku,ku,ku] rfl rfl (zt HT_.1 (by kernel_rfl)) (fun _ _ _ h => h) (kh ⟨by rfl, ?_⟩) ?_ ?_
          rotate_left
          ·
           intro w'
           go_simp
           with_reducible rfl
          rotate_left
          ·
           simp only [kv, kz, kj, kk, zr, zs]
           rfl
          refine zw (i := 3) (N := some 44) (v := ?_) (a' := ?_) #[km,km,km,km,ku,ku,ku,ku,ku,ku] rfl rfl (zt HT_.1 (by kernel_rfl)) (fun _ _ _ h => h) (kh ⟨by rfl, ?_⟩) ?_ ?_
          rotate_left
          ·
           intro w'
           go_simp
           with_reducible rfl
          rotate_left
          ·
           simp only [kv, kz, kj, kk, zr, zs]
           rfl
          refine zw (i := 4) (N := some 45) (v := ?_) (a' := ?_) #[km,km,km,km,km,ku,ku,ku,ku,ku] rfl rfl (zt HT_.1 (by kernel_rfl)) (fun _ _ _ h => h) (kh ⟨by rfl, ?_⟩) ?_ ?_
          rotate_left
          ·
           intro w'
           go_simp
           with_reducible rfl
          rotate_left
          ·
           simp only [kv, kz, kj, kk, zr, zs]
           rfl
          refine zw (i := 7) (N := some 48) (v := ?_) (a' := ?_) #[km,km,km,km,km,ku,ku,km,ku,ku] rfl rfl (zt HT_.1 (by kernel_rfl)) (fun _ _ _ h => h) (kh ⟨by rfl, ?_⟩) ?_ ?_
          rotate_left
          ·
           intro w'
           go_simp
           with_reducible rfl
          rotate_left
          ·
           simp only [kv, kz, kj, kk, zr, zs]
           rfl
          refine zM (i := 5) (N := some 46) (v := ?_) (a' := ?_) #[km,km,km,km,km,km,ku,km,ku,ku] rfl rfl (zJ HT_.1 HW_.1 (by kernel_rfl)) (fun _ _ _ h => h) (kh ⟨by rfl, ?_⟩) hHeld ?_ ?_
          rotate_left
          ·
           rintro w' ⟨s0, s1, s2, s3, s4, s5⟩
           go_simp
           with_reducible rfl
          rotate_left
          ·
           simp only [kv, kz, kj, kk, zr, zs]
           rfl
          refine zM (i := 6) (N := some 47) (v := ?_) (a' := ?_) #[km,km,km,km,km,km,km,km,ku,ku] rfl rfl (zJ HT_.1 HW_.1 (by kernel_rfl)) (fun _ _ _ h => h) (kh ⟨by rfl, ?_⟩) hHeld ?_ ?_
          rotate_left
          ·
           rintro w' ⟨s0, s1, s2, s3, s4, s5⟩
           go_simp
           with_reducible rfl
          rotate_left
          ·
           simp only [kv, kz, kj, kk, zr, zs]
           rfl
          refine last_ (i := 8) (N := some 49) #[km,km,km,km,km,km,km,km,km,ku] rfl rfl (one_of HT_.1 (by kernel_rfl)) (by decide) (fun K hK => ?_)
          refine goes_ Try.func72 (by kernel_rfl) rfl #[.slice (some ad131) l0.length c0, .int .i64 ((rd_T86 l0 a1).f0), .agg #[.int .i64 t136, .int .i64 t137], .slice Ao71 x3_6.length co71] (by rfl) rfl rfl (by (try simp only [ke, kb, kc]); rfl) ?_
          with_reducible refine (ih kj6 (by have := HJ6.1; omega) _ _ l0 ((rd_T86 l0 a1).f0) t136 t137 (fun k_ => some k_ = (.slice Ao71 x3_6.length co71 : Value).ownBlock) (.slice Ao71 x3_6.length co71) x3_6 t149 w0 _ ?side1 ?side2 ?side3 ?side4 A44.1).mono ?_
          (case side1 => repeat (with_reducible exact HB.1))
          (case side2 => exact Kd.C_kept_call HR0.1 HK.1 (fun k_ hs_ => (fun e_ => (HO_3.1.1 k_ e_.symm)) hs_))
          (case side3 => exact HC0.1)
          (case side4 => exact Kd.R_tight rfl HO_3.1)
          rintro e w72 ⟨v150, rfl, ho0, hb, hkp⟩
          refine ⟨_, rfl, ?_⟩
          replace zN := ky (zE zN.1 hkp (fun hs_ => (fun e_ => (zF HO_3.1 zN.1 (by decide)) e_) hs_))
          replace zO := ky (zE zO.1 hkp (fun hs_ => (fun e_ => (zF HO_3.1 zO.1 (by decide)) e_) hs_))
          replace zP := ky (zE zP.1 hkp (fun hs_ => (fun e_ => (zF HO_3.1 zP.1 (by decide)) e_) hs_))
          have qb := ky (zI (ok' := fun k_ => (P3_ k_ ∨ w.heap.size ≤ k_)) ho0 (fun k_ hk_ => Or.elim hk_ (fun hs_ => (HO_3.1.1 k_ (hs_).symm)) (fun hn_ => (.inr (kx (by exact HK.1.1) hn_)))))
          replace HK := ky (Kept.then_ HK.1 hkp (fun k_ hs_ => (fun e_ => (HO_3.1.1 k_ e_.symm)) hs_))
          replace HB := ky hb
          refine hK.out _ _ ?_
          clear hK K
          refine norm_ (a' := ?_) ?_ ?_
          rotate_left
          ·
           show kv _ (some 49) _ = _
           simp only [kv, kz, kj, kk, zr, zs]
           rfl
          refine zw (i := 9) (N := some 3) (v := ?_) (a' := ?_) #[km,km,km,km,km,km,km,km,km,km] rfl rfl (zt HT_.1 (by kernel_rfl)) (fun _ _ _ h => h) (kh ⟨by rfl, ?_⟩) ?_ ?_
          rotate_left
          ·
           intro w'
           go_simp
           with_reducible rfl
          rotate_left
          ·
           simp only [kv, kz, kj, kk, zr, zs]
           rfl
          refine done_ (done_of HT_.1 (by kernel_rfl)) ?_
          have p152 : 0 ≤ (a1 : Int) := of_decide_eq_true (by (with_reducible assumption))
          have q152 : a1 < (l0.length : Int) := of_decide_eq_true (by (with_reducible assumption))
          obtain ⟨ad152, e152, hx152_0, hx152_1, hx152_2, hx152_3⟩ := at_T86 (zq HR0.1 HK.1) a1 p152 q152
          obtain rfl : ad131 = ad152 := (by injection e152)
          replace p152 := eq_true p152
          replace q152 := eq_true q152
          try go_wp2
          replace qb := ky (zn qb.1)
          replace zN := ky (zd zN.1)
          replace zO := ky (zd zO.1)
          replace zP := ky (zd zP.1)
          replace HK := ky (zi HK.1)
          replace HB := ky (zj HB.1)
          have p153 : 0 ≤ (a1 : Int) := of_decide_eq_true (by (with_reducible assumption))
          have q153 : a1 < (l0.length : Int) := of_decide_eq_true (by (with_reducible assumption))
          obtain ⟨ad153, e153, hx153_0, hx153_1, hx153_2, hx153_3⟩ := at_T86 (zq HR0.1 HK.1) a1 p153 q153
          have hw153_3 := hx153_3
          have hw153_2 := hx153_2
          have hw153_1 := hx153_1
          have hw153_0 := hx153_0
          obtain rfl : ad131 = ad153 := (by injection e153)
          replace p153 := eq_true p153
          replace q153 := eq_true q153
          obtain ⟨Ao74, co74, eo74⟩ := Kd.R_slice qb.1
          (subst eo74)
          refine start_ (n := 10) (S := fun w' => w'.cell? ⟨gb141, 0, none⟩ = some (.int .i64 t138) ∧ w'.cell? ⟨gb141, 1, none⟩ = some (.int .i64 t139) ∧ w'.cell? (ad131.add ((a1).toNat * 4)) = some (.int .i64 ((rd_T86 l0 a1).f0)) ∧ w'.cell? ⟨(ad131.add ((a1).toNat * 4)).block, (ad131.add ((a1).toNat * 4)).off + 1, none⟩ = some (.int .i64 ((rd_T86 l0 a1).f1)) ∧ w'.cell? ⟨(ad131.add ((a1).toNat * 4)).block, (ad131.add ((a1).toNat * 4)).off + 2, none⟩ = some (.bool ((rd_T86 l0 a1).f2)) ∧ w'.cell? ⟨(ad131.add ((a1).toNat * 4)).block, (ad131.add ((a1).toNat * 4)).off + 3, none⟩ = some (.int .i64 ((rd_T86 l0 a1).f3))) (ds := [8]) #[ku,ku,ku,ku,ku,ku,ku,ku,ku,ku] (by kernel_rfl) rfl rfl ⟨(zl zP.1 0).trans rfl, (zl zP.1 1).trans rfl, hx153_0, hx153_1, hx153_2, hx153_3⟩ (fun hHeld => ?_); refine with_tabW spec_l2Walk.tab9 spec_l2Walk.bits9 (fun HT_ HW_ => ?_)
          generalize w72.drew = w73 at qb zN zO zP HK HB hx153_0 hx153_1 hx153_2 hx153_3 hHeld ⊢
          refine zw (i := 0) (N := some 56) (v := ?_) (a' := ?_) #[km,ku,ku,ku,ku,ku,ku,ku,ku,ku] rfl rfl (zt HT_.1 (by kernel_rfl)) (fun _ _ _ h => h) (kh ⟨by rfl, ?_⟩) ?_ ?_
          rotate_left
          ·
           intro w'
           go_simp
           with_reducible rfl
          rotate_left
          ·
           simp only [kv, kz, kj, kk, zr, zs]
           rfl
          refine zw (i := 1) (N := some 57) (v := ?_) (a' := ?_) #[km,km,ku,ku,ku,ku,ku,ku,ku,ku] rfl rfl (zt HT_.1 (by kernel_rfl)) (fun _ _ _ h => h) (kh ⟨by rfl, ?_⟩) ?_ ?_
          rotate_left
          ·
           intro w'
           go_simp
           with_reducible rfl
          rotate_left
          ·
           simp only [kv, kz, kj, kk, zr, zs]
           rfl
          refine zw (i := 2) (N := some 58) (v := ?_) (a' := ?_) #[km,km,km,ku,ku,ku,ku,ku,ku,ku] rfl rfl (zt HT_.1 (by kernel_rfl)) (fun _ _ _ h => h) (kh ⟨by rfl, ?_⟩) ?_ ?_
          rotate_left
          ·
           intro w'
           go_simp
           with_reducible rfl
          rotate_left
          ·
           simp only [kv, kz, kj, kk, zr, zs]
           rfl
          refine zw (i := 3) (N := some 59) (v := ?_) (a' := ?_) #[km,km,km,km,ku,ku,ku,ku,ku,ku] rfl rfl (zt HT_.1 (by kernel_rfl)) (fun _ _ _ h => h) (kh ⟨by rfl, ?_⟩) ?_ ?_
          rotate_left
          ·
           intro w'
           go_simp
           with_reducible rfl
          rotate_left
          ·
           simp only [kv, kz, kj, kk, zr, zs]
           rfl
          refine zw (i := 4) (N := some 60) (v := ?_) (a' := ?_) #[km,km,km,km,km,ku,ku,ku,ku,ku] rfl rfl (zt HT_.1 (by kernel_rfl)) (fun _ _ _ h => h) (kh ⟨by rfl, ?_⟩) ?_ ?_
          rotate_left
          ·
           intro w'
           go_simp
           with_reducible rfl
          rotate_left
          ·
           simp only [kv, kz, kj, kk, zr, zs]
           rfl
          refine zw (i := 7) (N := some 63) (v := ?_) (a' := ?_) #[km,km,km,km,km,ku,ku,km,ku,ku] rfl rfl (zt HT_.1 (by kernel_rfl)) (fun _ _ _ h => h) (kh ⟨by rfl, ?_⟩) ?_ ?_
          rotate_left
          ·
           intro w'
           go_simp
           with_reducible rfl
          rotate_left
          ·
           simp only [kv, kz, kj, kk, zr, zs]
           rfl
          refine zM (i := 5) (N := some 61) (v := ?_) (a' := ?_) #[km,km,km,km,km,km,ku,km,ku,ku] rfl rfl (zJ HT_.1 HW_.1 (by kernel_rfl)) (fun _ _ _ h => h) (kh ⟨by rfl, ?_⟩) hHeld ?_ ?_
          rotate_left
          ·
           rintro w' ⟨s0, s1, s2, s3, s4, s5⟩
           go_simp
           with_reducible rfl
          rotate_left
          ·
           simp only [kv, kz, kj, kk, zr, zs]
           rfl
          refine zM (i := 6) (N := some 62) (v := ?_) (a' := ?_) #[km,km,km,km,km,km,km,km,ku,ku] rfl rfl (zJ HT_.1 HW_.1 (by kernel_rfl)) (fun _ _ _ h => h) (kh ⟨by rfl, ?_⟩) hHeld ?_ ?_
          rotate_left
          ·
           rintro w' ⟨s0, s1, s2, s3, s4, s5⟩
           go_simp
           with_reducible rfl
          rotate_left
          ·
           simp only [kv, kz, kj, kk, zr, zs]
           rfl
          refine last_ (i := 8) (N := some 64) #[km,km,km,km,km,km,km,km,km,ku] rfl rfl (one_of HT_.1 (by kernel_rfl)) (by decide) (fun K hK => ?_)
          refine goes_ Try.func72 (by kernel_rfl) rfl #[.slice (some ad131) l0.length c0, .int .i64 ((rd_T86 l0 a1).f1), .agg #[.int .i64 t138, .int .i64 t139], .slice Ao74 t149.length co74] (by rfl) rfl rfl (by (try simp only [ke, kb, kc]); rfl) ?_
          with_reducible refine (ih kj6 (by have := HJ6.1; omega) _ _ l0 ((rd_T86 l0 a1).f1) t138 t139 (fun k_ => some k_ = (.slice Ao74 t149.length co74 : Value).ownBlock) (.slice Ao74 t149.length co74) t149 t154 w0 _ ?side1 ?side2 ?side3 ?side4 A59.1).mono ?_
          (case side1 => repeat (with_reducible exact HB.1))
          (case side2 => exact Kd.C_kept_call HR0.1 HK.1 (fun k_ hs_ => (fun e_ => (qb.1.1 k_ e_.symm)) hs_))
          (case side3 => exact HC0.1)
          (case side4 => exact Kd.R_tight rfl qb.1)
          rintro e w75 ⟨v155, rfl, ho0, hb, hkp⟩
          refine ⟨_, rfl, ?_⟩
          have HO156 := ky (zI (ok' := fun k_ => (P3_ k_ ∨ w.heap.size ≤ k_)) ho0 (fun k_ hk_ => Or.elim hk_ (fun hs_ => (qb.1.1 k_ (hs_).symm)) (fun hn_ => (.inr (kx (by exact HK.1.1) hn_)))))
          replace HK := ky (Kept.then_ HK.1 hkp (fun k_ hs_ => (fun e_ => (qb.1.1 k_ e_.symm)) hs_))
          replace HB := ky hb
          refine hK.out _ _ ?_
          clear hK K
          refine norm_ (a' := ?_) ?_ ?_
          rotate_left
          ·
           show kv _ (some 64) _ = _
           simp only [kv, kz, kj, kk, zr, zs]
           rfl
          refine zw (i := 9) (N := some 3) (v := ?_) (a' := ?_) #[km,km,km,km,km,km,km,km,km,km] rfl rfl (zt HT_.1 (by kernel_rfl)) (fun _ _ _ h => h) (kh ⟨by rfl, ?_⟩) ?_ ?_
          rotate_left
          ·
           intro w'
           go_simp
           with_reducible rfl
          rotate_left
          ·
           simp only [kv, kz, kj, kk, zr, zs]
           rfl
          refine done_ (done_of HT_.1 (by kernel_rfl)) ?_
          try go_wp2
          go_ret
          exact ⟨_, by rfl, by exact HO156.1, by exact HB.1, by exact HK.1⟩
       ·
        rw [if_neg c18] at H
        exact absurd H (by simp)
      ·
       rw [if_neg c17] at H
       exact absurd H (by simp)
  ·
   rw [if_neg c6] at H
   exact absurd H (by simp)
 ·
  rw [if_neg c5] at H
  exact absurd H (by simp)
end Go.Proofs.Ytakoaogbkajkcaa.PFnTrieSteps
