/- Written by this session's own program over the kit's print: Lean functions that tell what Go functions answer, each with a proof that the call does so. No condition but what each statement says. -/
import Derived.Test.YtkkchcalhomgcaaPFnExactTakeMsgx0
import Derived.Test.YtkkchcalhomgcaaPFnExactTakeMsgx5
import Derived.Test.YtkkchcalhomgcaaPFnExactTakeMsgx6
namespace Go.Proofs.Ytkkchcalhomgcaa.PFnExactTakeMsg
open Go.RowKit Go.Proofs.YtkkchcalhomgcaaW.PrintWords Go.Proofs.YtkkchcalhomgcaaW.PrintLast Go.Proofs.YtkkchcalhomgcaaW.PrintMore
open Go.Proofs.YtkkchcalhomgcaaW.PrintLast renaming goesL_ → zz, i64_w → zB, i32_w → zC, any_of → zD, pure_ → zF
open Go.Proofs.YtkkchcalhomgcaaW.PrintWords renaming pw_below_drewN → za, below_drew1 → zb, below_alloc → zc, blk_frozen → zd, blk_cell → ze, below_step → zf, below_size → zg, below_set → zh, gate_callee → zi, gate_guard → zj, box_event → zk, blk_drewN → zl, blk_below → zm, blk_alloc → zn, gate_dst → zo, blk_drew → zp, Aside0 → zE
open Go.Proofs.YtkkchcalhomgcaaW.PrintWords.Kd renaming R_drewN → zq, R_alloc → zr, R_drew → zs, C_drewN → zv, C_below → zw, C_alloc → zx, C_drew → zy
open Go.Proofs.YtkkchcalhomgcaaW.PrintWords.LeO renaming none → zt, bind → zu, ite → zA
attribute [local go_sem] max2_int min2_int max_two min_two max_three min_three max_four min_four   -- for this text's walks alone
set_option linter.unusedVariables false
set_option linter.unusedSimpArgs false

/-! ### impl_cutAll: function 66 -/
def impl_cutAll.l0 : Nat → ByteArray → List (S26) → Option ((List (S26)) × ByteArray × Int)
 | 0, _, _ => none
 | k + 1, x0, x5 => (impl_headFault.f k x0).bind fun t182 => (if t182 = 0 then (if (x0.size : Int) < 5 then (some (x5, x0, 0)) else (if 2 < (x0.size : Int) then (if (x0.size : Int) < (wrap64 (bt x0 2)) then (some (x5, x0, 0)) else (if 4 < (x0.size : Int) then (if 5 ≤ (wrap64 (bt x0 2)) then (if (wrap64 (bt x0 2)) ≤ (x0.size : Int) then (if x5.length < 5864062014805 then (if 0 ≤ (wrap64 (bt x0 2)) then (impl_cutAll.l0 k (x0.extract ((wrap64 (bt x0 2)) : Int).toNat x0.size) (x5 ++ [(⟨wrap64 (bt x0 4), x0.extract 5 ((wrap64 (bt x0 2)) : Int).toNat⟩ : S26)])) else (none)) else (none)) else (none)) else (none)) else (none))) else (none))) else (some (x5, (⟨#[]⟩ : ByteArray), t182)))
def impl_cutAll.f (k : Nat) (a0 : ByteArray) : Option ((List (S26)) × ByteArray × Int) := impl_cutAll.l0 k a0 (([] : List (S26)))
theorem impl_cutAll.mono_l : ∀ k, (∀ y0 y1, LeO (impl_cutAll.l0 k y0 y1) (impl_cutAll.l0 (k + 1) y0 y1))
 | 0 => fun _ _ r h => by simp [impl_cutAll.l0] at h
 | k + 1 => by
  have ih0 := impl_cutAll.mono_l k
  ·
   intro y0 y1
   unfold impl_cutAll.l0
   repeat' first
   | (with_reducible exact ih0 _ _)
   | (with_reducible exact impl_headFault.mono _ _)
   | (with_reducible exact LeO.refl _)
   | (with_reducible exact zt _)
   | (with_reducible refine zA ?_ ?_)
   | (with_reducible refine zu ?_ (fun _ => ?_))
   | exact ih0 _ _
   | exact impl_headFault.mono _ _
   | exact zt _
   | refine zA ?_ ?_
   | refine zu ?_ (fun _ => ?_)
theorem impl_cutAll.mono : ∀ a0 k, LeO (impl_cutAll.f k a0) (impl_cutAll.f (k + 1) a0) := by
 intro a0 k
 have ih0 := impl_cutAll.mono_l k
 unfold impl_cutAll.f
 repeat' first
   | (with_reducible exact ih0 _ _)
   | (with_reducible exact impl_headFault.mono _ _)
   | (with_reducible exact LeO.refl _)
   | (with_reducible exact zt _)
   | (with_reducible refine zA ?_ ?_)
   | (with_reducible refine zu ?_ (fun _ => ?_))
   | exact ih0 _ _
   | exact impl_headFault.mono _ _
   | exact zt _
   | refine zA ?_ ?_
   | refine zu ?_ (fun _ => ?_)
def impl_cutAll.T7 : Bool × List (List Nat × List Nat) := (true, [([], []), ([], []), ([1], [1]), ([2], [2]), ([], []), ([], []), ([5], [5]), ([6], [6]), ([4, 7], [4, 7]), ([3, 8], [3, 8]), ([9], [9]), ([0, 10], [0, 10]), ([11, 11, 0, 1, 2, 3, 4, 5, 6, 7, 8, 9, 10, 11], [0, 11])])
def impl_cutAll.B7 : List Nat := [0, 0, 2, 6, 0, 0, 32, 96, 240, 510, 1022, 2047, 4095]
theorem impl_cutAll.tab7 : rtab .any (opsOf Try.f66 7) = impl_cutAll.T7 := by kernel_rfl
theorem impl_cutAll.bits7 : waitsOk impl_cutAll.T7.2 impl_cutAll.B7 = true := by kernel_rfl
set_option maxHeartbeats 8000000 in
set_option maxRecDepth 100000 in
theorem impl_cutAll.calls (k : Nat) (a0 : ByteArray) (r1 : List (S26)) (r2 : ByteArray) (r3 : Int) (w : World) (h : impl_cutAll.f k a0 = some (r1, r2, r3)) :
  Calls Try.prog 66 #[.string a0] w fun e w' => ∃ v0_ : Value, e = .returned (.tuple #[v0_, .string r2, .int .i64 r3]) ∧ Kd.R k26 26 w' w.heap.size (fun _ => True) v0_ r1 ∧ Below w.heap.size w w' := by
 have hu26 := Try.underlying26
 have HB := Aside0.mk (Below.refl w.heap.size w)
 have H : (impl_cutAll.l0 k a0 (([] : List (S26)))) = some (r1, r2, r3) := h
 clear h
 obtain ⟨y179, hy179⟩ : ∃ y_ : List (S26), y_ = (([] : List (S26))) := ⟨_, rfl⟩
 replace H : (impl_cutAll.l0 k a0 y179) = some (r1, r2, r3) := by first | (rw [hy179]; with_reducible exact H) | (have H2_ := (Option.bind_some _ _).symm.trans H; rw [hy179]; with_reducible exact H2_) | (have H2_ := (Option.bind_some _ _).symm.trans H; with_reducible exact H2_) | with_reducible exact H | (rw [hy179]; exact H) | exact H
 have Ny179 := Aside0.mk hy179
 clear hy179
 have H' := Aside0.mk H
 clear H
 go_enter Try.func66, Try.ntmps66
 go_wp2_with (first | ((with_reducible refine zo (N := 7) rfl ?_); (try (refine zj (by rfl) ?_; dsimp only)); refine Kd.R_lit k26 _ 26 ?hg (N := 7) ?hd (xs := ([] : List (S26))) (inner := []) (ok := fun _ => True) (okp := fun _ => True) ?hr ?hp (fun _ hk => hk) trivial (Below.refl _ _) (Nat.le_refl _) (by simp) ?_; (case hd => rfl); (case hg => rfl); (case hr => first | (go_simp; done) | (go_simp; rfl)); (case hp => exact (Reps.none _ _)); intro v180 w2 ho3 hb hg_ hnew_; clear hg_ hnew_; (first | rw [← Ny179.1] at ho3 | (simp only [Int.reduceToNat] at ho3; rw [← Ny179.1] at ho3)); have n0_ := Aside0.mk (Kd.R_lower ho3 (zg (by repeat (first | (with_reducible first | exact HB.1 | apply zc | apply za | apply zb) | exact HB.1)))); have n1_ := Aside0.mk (zf (by repeat (first | (with_reducible first | exact HB.1 | apply zc | apply za | apply zb) | exact HB.1)) hb); clear HB; have HO181 := n0_; have HB := n1_; clear n0_ n1_; clear hb ho3))
 go_loopg [0, 5] k (fun kq v0 v5 w' => ∃ (x0_1 : ByteArray) (x5_1 : List (S26)), v0 = .string x0_1 ∧ zE (impl_cutAll.l0 kq x0_1 x5_1 = some (r1, r2, r3)) ∧ zE (kq ≤ k) ∧ zE (Kd.R k26 26 w' w.heap.size (fun _ => True) v5 x5_1) ∧ zE (Below w.heap.size w w'))
 case atStart => exact ⟨(a0), (y179), (by first | rfl | (simp; done) | (simp [*]; done)), H', ⟨Nat.le_refl _⟩, ⟨by (with_reducible repeat (first | apply zr | apply zq | apply zs)); exact HO181.1⟩, ⟨by repeat (first | (with_reducible first | exact HB.1 | apply zc | apply za | apply zb) | exact HB.1)⟩⟩
 case round =>
  clear H'
  (try clear p2)
  obtain ⟨x0_1, x5_1, rfl, HA, HK1, HO_5, HB⟩ := hrel
  cases gk with
  | zero => exact absurd HA.1 (by simp [impl_cutAll.l0])
  | succ k1 =>
   have H := HA.1
   clear HA
   simp only [impl_cutAll.l0] at H
   replace H := Option.bind_eq_some_iff.mp H
   obtain ⟨t182, A40, H⟩ := H
   replace H : (if t182 = 0 then (if (x0_1.size : Int) < 5 then (some (x5_1, x0_1, 0)) else (if 2 < (x0_1.size : Int) then (if (x0_1.size : Int) < (wrap64 (bt x0_1 2)) then (some (x5_1, x0_1, 0)) else (if 4 < (x0_1.size : Int) then (if 5 ≤ (wrap64 (bt x0_1 2)) then (if (wrap64 (bt x0_1 2)) ≤ (x0_1.size : Int) then (if x5_1.length < 5864062014805 then (if 0 ≤ (wrap64 (bt x0_1 2)) then (impl_cutAll.l0 k1 (x0_1.extract ((wrap64 (bt x0_1 2)) : Int).toNat x0_1.size) (x5_1 ++ [(⟨wrap64 (bt x0_1 4), x0_1.extract 5 ((wrap64 (bt x0_1 2)) : Int).toNat⟩ : S26)])) else (none)) else (none)) else (none)) else (none)) else (none))) else (none))) else (some (x5_1, (⟨#[]⟩ : ByteArray), t182))) = some (r1, r2, r3) := H
   have A4 := Aside0.mk A40
   clear A40
   by_cases c5 : t182 = 0
   ·
    rw [if_pos c5] at H
    have c5b0 : (t182 == 0) = true := beq_iff_eq.mpr c5
    have c5b1 : (t182 != 0) = false := bne_eq_false_iff_eq.mpr c5
    clear c5
    by_cases c6 : (x0_1.size : Int) < 5
    ·
     rw [if_pos c6] at H
     have c6b0 : decide ((x0_1.size : Int) < 5) = true := decide_eq_true c6
     have c6b1 : decide (x0_1.size < 5) = true := decide_eq_true (by omega)
     clear c6
     simp only [Option.some.injEq, Prod.mk.injEq] at H
     obtain ⟨rfl, rfl, rfl⟩ := H
     go_wp2_with (first | ((with_reducible refine zi (f := 104) rfl ?_); refine zz (some 9) rfl rfl Try.func104 (by kernel_rfl) rfl #[.string x0_1] rfl (by (try simp only [List.map_toArray, List.map_cons, List.map_nil]); first | done | rfl | (simp only [List.length_drop, List.length_take]; rfl)) ?_; (with_reducible refine (impl_headFault.calls k1 x0_1 t182 _ A4.1).mono ?_); rintro e w7 ⟨rfl, hb⟩; refine ⟨_, rfl, ?_⟩; have n0_ := Aside0.mk (Kd.R_below (by (with_reducible repeat (first | apply zr | apply zq | apply zs)); exact HO_5.1) hb); have n1_ := Aside0.mk (zf (by repeat (first | (with_reducible first | exact HB.1 | apply zc | apply za | apply zb) | exact HB.1)) hb); clear HO_5; clear HB; have HO_5 := n0_; have HB := n1_; clear n0_ n1_; (try clear hb); (try clear hb2); (try clear hk); (try clear hi)))
     go_ret3
     exact ⟨_, by first | rfl | (simp [errW_none, errW_some] <;> rfl) | (simp [*, errW_none, errW_some] <;> rfl), by (with_reducible repeat (first | apply zr | apply zq | apply zs)); exact HO_5.1, by repeat (first | (with_reducible first | exact HB.1 | apply zc | apply za | apply zb) | exact HB.1)⟩
    ·
     rw [if_neg c6] at H
     have c6b0 : decide ((x0_1.size : Int) < 5) = false := decide_eq_false c6
     have c6b1 : decide (x0_1.size < 5) = false := decide_eq_false (by omega)
     clear c6
     by_cases c8 : 2 < (x0_1.size : Int)
     ·
      rw [if_pos c8] at H
      have c8b0 : decide (2 < (x0_1.size : Int)) = true := decide_eq_true c8
      have c8b1 : decide (2 < x0_1.size) = true := decide_eq_true (by omega)
      clear c8
      by_cases c10 : (x0_1.size : Int) < (wrap64 (bt x0_1 2))
      ·
       rw [if_pos c10] at H
       have c10b0 : decide ((x0_1.size : Int) < (wrap64 (bt x0_1 2))) = true := decide_eq_true c10
       clear c10
       simp only [Option.some.injEq, Prod.mk.injEq] at H
       obtain ⟨rfl, rfl, rfl⟩ := H
       go_wp2_with (first | ((with_reducible refine zi (f := 104) rfl ?_); refine zz (some 9) rfl rfl Try.func104 (by kernel_rfl) rfl #[.string x0_1] rfl (by (try simp only [List.map_toArray, List.map_cons, List.map_nil]); first | done | rfl | (simp only [List.length_drop, List.length_take]; rfl)) ?_; (with_reducible refine (impl_headFault.calls k1 x0_1 t182 _ A4.1).mono ?_); rintro e w11 ⟨rfl, hb⟩; refine ⟨_, rfl, ?_⟩; have n0_ := Aside0.mk (Kd.R_below (by (with_reducible repeat (first | apply zr | apply zq | apply zs)); exact HO_5.1) hb); have n1_ := Aside0.mk (zf (by repeat (first | (with_reducible first | exact HB.1 | apply zc | apply za | apply zb) | exact HB.1)) hb); clear HO_5; clear HB; have HO_5 := n0_; have HB := n1_; clear n0_ n1_; (try clear hb); (try clear hb2); (try clear hk); (try clear hi); have p9 : 0 ≤ (2 : Int) := (by omega); have q9 : 2 < x0_1.size := (by have : (2 : Int) < (x0_1.size : Int) := of_decide_eq_true (by first | (with_reducible assumption) | assumption); omega); have hx9 : ∀ h : 2 < x0_1.size, ((x0_1[2]'h).toNat : Int) = bt x0_1 2 := bt_at x0_1 2; clear p9; have qi9 : (2 < (x0_1.size : Int)) = True := eq_true (of_decide_eq_true (by first | (with_reducible assumption) | assumption)); replace q9 := eq_true q9))
       go_ret3
       exact ⟨_, by first | rfl | (simp [errW_none, errW_some] <;> rfl) | (simp [*, errW_none, errW_some] <;> rfl), by (with_reducible repeat (first | apply zr | apply zq | apply zs)); exact HO_5.1, by repeat (first | (with_reducible first | exact HB.1 | apply zc | apply za | apply zb) | exact HB.1)⟩
      ·
       rw [if_neg c10] at H
       have c10b0 : decide ((x0_1.size : Int) < (wrap64 (bt x0_1 2))) = false := decide_eq_false c10
       clear c10
       by_cases c12 : 4 < (x0_1.size : Int)
       ·
        rw [if_pos c12] at H
        have c12b0 : decide (4 < (x0_1.size : Int)) = true := decide_eq_true c12
        have c12b1 : decide (4 < x0_1.size) = true := decide_eq_true (by omega)
        clear c12
        by_cases c15 : 5 ≤ (wrap64 (bt x0_1 2))
        ·
         rw [if_pos c15] at H
         have c15b0 := eq_true c15
         have c15b1 : decide (5 ≤ (wrap64 (bt x0_1 2))) = true := decide_eq_true c15
         clear c15
         by_cases c16 : (wrap64 (bt x0_1 2)) ≤ (x0_1.size : Int)
         ·
          rw [if_pos c16] at H
          have c16b0 := eq_true c16
          have c16b1 : decide ((wrap64 (bt x0_1 2)) ≤ (x0_1.size : Int)) = true := decide_eq_true c16
          clear c16
          by_cases c17 : x5_1.length < 5864062014805
          ·
           rw [if_pos c17] at H
           have LMc17 := Aside0.mk c17
           clear c17
           obtain ⟨y183, hy183⟩ : ∃ y_ : List (S26), y_ = (x5_1 ++ [(⟨wrap64 (bt x0_1 4), x0_1.extract 5 ((wrap64 (bt x0_1 2)) : Int).toNat⟩ : S26)]) := ⟨_, rfl⟩
           replace H : (if 0 ≤ (wrap64 (bt x0_1 2)) then (impl_cutAll.l0 k1 (x0_1.extract ((wrap64 (bt x0_1 2)) : Int).toNat x0_1.size) y183) else (none)) = some (r1, r2, r3) := by first | (rw [hy183]; with_reducible exact H) | (have H2_ := (Option.bind_some _ _).symm.trans H; rw [hy183]; with_reducible exact H2_) | (have H2_ := (Option.bind_some _ _).symm.trans H; with_reducible exact H2_) | with_reducible exact H | (rw [hy183]; exact H) | exact H
           have Ny183 := Aside0.mk hy183
           clear hy183
           obtain ⟨ji19, hji19⟩ : ∃ j_ : Int, (wrap64 (bt x0_1 2)) = j_ := ⟨_, rfl⟩
           replace H : (if 0 ≤ (ji19) then (impl_cutAll.l0 k1 (x0_1.extract ((ji19) : Int).toNat x0_1.size) y183) else (none)) = some (r1, r2, r3) := by first | (rw [hji19] at H; exact H) | (simp only [hji19] at H ⊢; exact H)
           (try rw [hji19] at c10b0)
           (try rw [hji19] at c15b0)
           (try rw [hji19] at c15b1)
           (try rw [hji19] at c16b0)
           (try rw [hji19] at c16b1)
           (try rw [hji19] at A4)
           (try rw [hji19] at Ny183)
           have hji19w : (IntKind.i64.wrap (bt x0_1 2)) = ji19 := (zB _).trans hji19
           by_cases c20 : 0 ≤ (ji19)
           ·
            rw [if_pos c20] at H
            have c20b0 := eq_true c20
            have c20b1 : decide (0 ≤ (ji19)) = true := decide_eq_true c20
            clear c20
            have c21b0 := eq_true (of_decide_eq_true (by first | (with_reducible assumption) | assumption) : (ji19) ≤ (x0_1.size : Int))
            have H' := Aside0.mk H
            clear H
            try go_wp2_with (first | ((with_reducible refine zi (f := 104) rfl ?_); refine zz (some 9) rfl rfl Try.func104 (by kernel_rfl) rfl #[.string x0_1] rfl (by (try simp only [List.map_toArray, List.map_cons, List.map_nil]); first | done | rfl | (simp only [List.length_drop, List.length_take]; rfl)) ?_; (with_reducible refine (impl_headFault.calls k1 x0_1 t182 _ A4.1).mono ?_); rintro e w22 ⟨rfl, hb⟩; refine ⟨_, rfl, ?_⟩; have n0_ := Aside0.mk (Kd.R_below (by (with_reducible repeat (first | apply zr | apply zq | apply zs)); exact HO_5.1) hb); have n1_ := Aside0.mk (zf (by repeat (first | (with_reducible first | exact HB.1 | apply zc | apply za | apply zb) | exact HB.1)) hb); clear HO_5; clear HB; have HO_5 := n0_; have HB := n1_; clear n0_ n1_; (try clear hb); (try clear hb2); (try clear hk); (try clear hi); have p9 : 0 ≤ (2 : Int) := (by omega); have q9 : 2 < x0_1.size := (by have : (2 : Int) < (x0_1.size : Int) := of_decide_eq_true (by first | (with_reducible assumption) | assumption); omega); have hx9 : ∀ h : 2 < x0_1.size, ((x0_1[2]'h).toNat : Int) = bt x0_1 2 := bt_at x0_1 2; clear p9; have qi9 : (2 < (x0_1.size : Int)) = True := eq_true (of_decide_eq_true (by first | (with_reducible assumption) | assumption)); replace q9 := eq_true q9))
            have n0_ := Aside0.mk (zs HO_5.1)
            have n1_ := Aside0.mk (zb HB.1)
            clear HO_5
            clear HB
            have HO_5 := n0_
            have HB := n1_
            clear n0_ n1_
            have p13 : 0 ≤ (4 : Int) := (by omega)
            have q13 : 4 < x0_1.size := (by have : (4 : Int) < (x0_1.size : Int) := of_decide_eq_true (by first | (with_reducible assumption) | assumption); omega)
            have hx13 : ∀ h : 4 < x0_1.size, ((x0_1[4]'h).toNat : Int) = bt x0_1 4 := bt_at x0_1 4
            clear p13
            have qi13 : (4 < (x0_1.size : Int)) = True := eq_true (of_decide_eq_true (by first | (with_reducible assumption) | assumption))
            replace q13 := eq_true q13
            have p14 : 0 ≤ (2 : Int) := (by omega)
            have q14 : 2 < x0_1.size := (by have : (2 : Int) < (x0_1.size : Int) := of_decide_eq_true (by first | (with_reducible assumption) | assumption); omega)
            have hx14 : ∀ h : 2 < x0_1.size, ((x0_1[2]'h).toNat : Int) = bt x0_1 2 := bt_at x0_1 2
            clear p14
            have qi14 : (2 < (x0_1.size : Int)) = True := eq_true (of_decide_eq_true (by first | (with_reducible assumption) | assumption))
            replace q14 := eq_true q14
            refine start_ (n := 13) (S := fun w' => True) (ds := []) #[false, false, false, false, false, false, false, false, false, false, false, false, false] (by kernel_rfl) rfl rfl trivial (fun hHeld => ?_); refine with_tabW impl_cutAll.tab7 impl_cutAll.bits7 (fun HT_ HW_ => ?_)
            generalize w22.drew = w23 at HO_5 HB hHeld ⊢
            refine zF (i := 0) (N := some 27) (v := ?_) (a' := ?_) #[true, false, false, false, false, false, false, false, false, false, false, false, false] rfl rfl (zD HT_.1 (by kernel_rfl)) (fun _ _ _ h => h) (Or.inl ⟨by rfl, ?_⟩) ?_ ?_
            rotate_left
            ·
             intro w'
             go_simp
             with_reducible rfl
            rotate_left
            ·
             simp only [Act.put, List.setIfInBounds_toArray, List.set_cons_zero, List.set_cons_succ, zB, zC]
             rfl
            refine zF (i := 1) (N := some 28) (v := ?_) (a' := ?_) #[true, true, false, false, false, false, false, false, false, false, false, false, false] rfl rfl (zD HT_.1 (by kernel_rfl)) (fun _ _ _ h => h) (Or.inl ⟨by rfl, ?_⟩) ?_ ?_
            rotate_left
            ·
             intro w'
             go_simp
             with_reducible rfl
            rotate_left
            ·
             simp only [Act.put, List.setIfInBounds_toArray, List.set_cons_zero, List.set_cons_succ, zB, zC]
             rfl
            refine zF (i := 4) (N := some 31) (v := ?_) (a' := ?_) #[true, true, false, false, true, false, false, false, false, false, false, false, false] rfl rfl (zD HT_.1 (by kernel_rfl)) (fun _ _ _ h => h) (Or.inl ⟨by rfl, ?_⟩) ?_ ?_
            rotate_left
            ·
             intro w'
             go_simp
             with_reducible rfl
            rotate_left
            ·
             simp only [Act.put, List.setIfInBounds_toArray, List.set_cons_zero, List.set_cons_succ, zB, zC]
             rfl
            refine zF (i := 5) (N := some 32) (v := ?_) (a' := ?_) #[true, true, false, false, true, true, false, false, false, false, false, false, false] rfl rfl (zD HT_.1 (by kernel_rfl)) (fun _ _ _ h => h) (Or.inl ⟨by rfl, ?_⟩) ?_ ?_
            rotate_left
            ·
             intro w'
             go_simp
             with_reducible rfl
            rotate_left
            ·
             simp only [Act.put, List.setIfInBounds_toArray, List.set_cons_zero, List.set_cons_succ, zB, zC]
             rfl
            refine take_ (i := 2) (N := some 29) (v := ?_) (a' := ?_) #[true, true, true, false, true, true, false, false, false, false, false, false, false] rfl rfl (take_ofW HT_.1 HW_.1 (by kernel_rfl)) (fun _ _ _ h => h) (Or.inl ⟨by rfl, ?_⟩) hHeld ?_ ?_
            rotate_left
            ·
             intro w' _
             go_simp
             with_reducible rfl
            rotate_left
            ·
             simp only [Act.put, List.setIfInBounds_toArray, List.set_cons_zero, List.set_cons_succ, zB, zC]
             rfl
            refine zF (i := 3) (N := some 30) (v := ?_) (a' := ?_) #[true, true, true, true, true, true, false, false, false, false, false, false, false] rfl rfl (zD HT_.1 (by kernel_rfl)) (fun _ _ _ h => h) (Or.inl ⟨by rfl, ?_⟩) ?_ ?_
            rotate_left
            ·
             intro w'
             go_simp
             with_reducible rfl
            rotate_left
            ·
             simp only [Act.put, List.setIfInBounds_toArray, List.set_cons_zero, List.set_cons_succ, zB, zC]
             rfl
            refine take_ (i := 6) (N := some 33) (v := ?_) (a' := ?_) #[true, true, true, true, true, true, true, false, false, false, false, false, false] rfl rfl (take_ofW HT_.1 HW_.1 (by kernel_rfl)) (fun _ _ _ h => h) (Or.inl ⟨by rfl, ?_⟩) hHeld ?_ ?_
            rotate_left
            ·
             intro w' _
             go_simp
             with_reducible rfl
            rotate_left
            ·
             simp only [Act.put, List.setIfInBounds_toArray, List.set_cons_zero, List.set_cons_succ, zB, zC]
             rfl
            refine zF (i := 7) (N := some 34) (v := ?_) (a' := ?_) #[true, true, true, true, true, true, true, true, false, false, false, false, false] rfl rfl (zD HT_.1 (by kernel_rfl)) (fun _ _ _ h => h) (Or.inl ⟨by rfl, ?_⟩) ?_ ?_
            rotate_left
            ·
             intro w'
             go_simp
             with_reducible rfl
            rotate_left
            ·
             simp only [Act.put, List.setIfInBounds_toArray, List.set_cons_zero, List.set_cons_succ, zB, zC]
             rfl
            refine zF (i := 8) (N := some 35) (v := ?_) (a' := ?_) #[true, true, true, true, true, true, true, true, true, false, false, false, false] rfl rfl (zD HT_.1 (by kernel_rfl)) (fun _ _ _ h => h) (Or.inl ⟨by rfl, ?_⟩) ?_ ?_
            rotate_left
            ·
             intro w'
             go_simp
             with_reducible rfl
            rotate_left
            ·
             simp only [Act.put, List.setIfInBounds_toArray, List.set_cons_zero, List.set_cons_succ, zB, zC]
             rfl
            refine zF (i := 9) (N := some 36) (v := ?_) (a' := ?_) #[true, true, true, true, true, true, true, true, true, true, false, false, false] rfl rfl (zD HT_.1 (by kernel_rfl)) (fun _ _ _ h => h) (Or.inl ⟨by rfl, ?_⟩) ?_ ?_
            rotate_left
            ·
             intro w'
             go_simp
             with_reducible rfl
            rotate_left
            ·
             simp only [Act.put, List.setIfInBounds_toArray, List.set_cons_zero, List.set_cons_succ, zB, zC]
             rfl
            refine one_ (i := 10) (N := some 37) #[true, true, true, true, true, true, true, true, true, true, true, false, false] rfl rfl (one_of HT_.1 (by kernel_rfl)) (by decide) (fun K hK => ?_)
            refine value_ (w1 := ?_) (v := ?_) (by rfl) rfl ?_ ?_
            rotate_left 2
            ·
             go_simp
             constructor
             ·
              rfl
             ·
              rfl
            refine hK.out _ _ trivial (fun hHeld => ?_)
            clear hK K
            refine norm_ (a' := ?_) ?_ ?_
            rotate_left
            ·
             show Act.put _ (some 37) _ = _
             simp only [Act.put, List.setIfInBounds_toArray, List.set_cons_zero, List.set_cons_succ, zB, zC]
             rfl
            refine one_ (i := 11) (N := some 38) #[true, true, true, true, true, true, true, true, true, true, true, true, false] rfl rfl (one_of HT_.1 (by kernel_rfl)) (by decide) (fun K hK => ?_)
            refine Kd.R_append_step k26 (w0 := w) w.heap.size (by rfl) (.tmp 27) (.tmp 37) 31 26 (.agg #[(.int .i64 0), (.string ⟨#[]⟩)]) 24 rfl Try.underlying31 info26 rfl (by decide) (by omega) u5 x5_1 (⟨wrap64 (bt x0_1 4), x0_1.extract 5 ((ji19) : Int).toNat⟩ : S26) [.int .i64 (wrap64 (bt x0_1 4)), .string (x0_1.extract 5 ((ji19) : Int).toNat)] (fun _ => True) (fun _ => False) rfl rfl ?aP (fun _ hk => hk.elim) ?aF ?aO ?aB ?aS ?aL ?_
            (case aP => exact k26_mkM _ _ _ (⟨wrap64 (bt x0_1 4), x0_1.extract 5 ((ji19) : Int).toNat⟩ : S26))
            (case aB => exact (by repeat (first | (with_reducible first | exact HB.1 | apply zc | apply za | apply zb) | exact HB.1)))
            (case aF => exact (fun _ _ => trivial))
            (case aO => exact (by (with_reducible repeat (first | apply zr | apply zq | apply zs)); exact HO_5.1))
            (case aS => exact (zg (by repeat (first | (with_reducible first | exact HB.1 | apply zc | apply za | apply zb) | exact HB.1))))
            (case aL => have := LMc17.1; omega)
            intro v184 w24 ho hb hg hat
            rw [← Ny183.1] at ho
            have n0_ := Aside0.mk (hb)
            have n1_ := Aside0.mk (ho)
            clear HB
            clear HO_5
            have HB := n0_
            have HO185 := n1_
            clear n0_ n1_
            clear ho hb hg hat
            refine hK.out _ _ trivial (fun hHeld => ?_)
            clear hK K
            refine norm_ (a' := ?_) ?_ ?_
            rotate_left
            ·
             show Act.put _ (some 38) _ = _
             simp only [Act.put, List.setIfInBounds_toArray, List.set_cons_zero, List.set_cons_succ, zB, zC]
             rfl
            refine zF (i := 12) (N := some 5) (v := ?_) (a' := ?_) #[true, true, true, true, true, true, true, true, true, true, true, true, true] rfl rfl (zD HT_.1 (by kernel_rfl)) (fun _ _ _ h => h) (Or.inl ⟨by rfl, ?_⟩) ?_ ?_
            rotate_left
            ·
             intro w'
             go_simp
             with_reducible rfl
            rotate_left
            ·
             simp only [Act.put, List.setIfInBounds_toArray, List.set_cons_zero, List.set_cons_succ, zB, zC]
             rfl
            refine done_ (done_of HT_.1 (by kernel_rfl)) ?_
            have p18 : 0 ≤ (2 : Int) := (by omega)
            have q18 : 2 < x0_1.size := (by have : (2 : Int) < (x0_1.size : Int) := of_decide_eq_true (by first | (with_reducible assumption) | assumption); omega)
            have hx18 : ∀ h : 2 < x0_1.size, ((x0_1[2]'h).toNat : Int) = bt x0_1 2 := bt_at x0_1 2
            clear p18
            have qi18 : (2 < (x0_1.size : Int)) = True := eq_true (of_decide_eq_true (by first | (with_reducible assumption) | assumption))
            replace q18 := eq_true q18
            try go_wp2
            go_roundg k1
            case measure => have := HK1.1; omega
            case rel => exact ⟨(x0_1.extract ((ji19) : Int).toNat x0_1.size), (y183), (by first | rfl | (simp; done) | (simp only [← hji19] <;> (first | rfl | simp)) | (simp [*]; done)), H', ⟨by have := HK1.1; omega⟩, ⟨by (with_reducible repeat (first | apply zr | apply zq | apply zs)); exact HO185.1⟩, ⟨by repeat (first | (with_reducible first | exact HB.1 | apply zc | apply za | apply zb) | exact HB.1)⟩⟩
           ·
            rw [if_neg c20] at H
            exact absurd H (by simp)
          ·
           rw [if_neg c17] at H
           exact absurd H (by simp)
         ·
          rw [if_neg c16] at H
          exact absurd H (by simp)
        ·
         rw [if_neg c15] at H
         exact absurd H (by simp)
       ·
        rw [if_neg c12] at H
        exact absurd H (by simp)
     ·
      rw [if_neg c8] at H
      exact absurd H (by simp)
   ·
    rw [if_neg c5] at H
    have c5b0 : (t182 == 0) = false := beq_eq_false_iff_ne.mpr c5
    have c5b1 : (t182 != 0) = true := bne_iff_ne.mpr c5
    simp only [Option.some.injEq, Prod.mk.injEq] at H
    obtain ⟨rfl, rfl, rfl⟩ := H
    go_wp2_with (first | ((with_reducible refine zi (f := 104) rfl ?_); refine zz (some 9) rfl rfl Try.func104 (by kernel_rfl) rfl #[.string x0_1] rfl (by (try simp only [List.map_toArray, List.map_cons, List.map_nil]); first | done | rfl | (simp only [List.length_drop, List.length_take]; rfl)) ?_; (with_reducible refine (impl_headFault.calls k1 x0_1 t182 _ A4.1).mono ?_); rintro e w25 ⟨rfl, hb⟩; refine ⟨_, rfl, ?_⟩; have n0_ := Aside0.mk (Kd.R_below (by (with_reducible repeat (first | apply zr | apply zq | apply zs)); exact HO_5.1) hb); have n1_ := Aside0.mk (zf (by repeat (first | (with_reducible first | exact HB.1 | apply zc | apply za | apply zb) | exact HB.1)) hb); clear HO_5; clear HB; have HO_5 := n0_; have HB := n1_; clear n0_ n1_; (try clear hb); (try clear hb2); (try clear hk); (try clear hi)))
    go_ret3
    exact ⟨_, by first | rfl | (simp [errW_none, errW_some] <;> rfl) | (simp [*, errW_none, errW_some] <;> rfl), by (with_reducible repeat (first | apply zr | apply zq | apply zs)); exact HO_5.1, by repeat (first | (with_reducible first | exact HB.1 | apply zc | apply za | apply zb) | exact HB.1)⟩

/-! ### impl_GoodMsg: function 18 -/
def impl_GoodMsg.f (a0_0 : Int) (a0_1 : ByteArray) : Option (Bool) := (impl_within.f a0_0 1 4).bind fun t187 => (if t187 = true then (if (a0_1.size : Int) ≤ 60 then (if a0_0 = 4 then (some (a0_1.toList == ([] : List UInt8))) else (some true)) else (some false)) else (some false))
set_option maxHeartbeats 8000000 in
set_option maxRecDepth 100000 in
theorem impl_GoodMsg.calls (a0_0 : Int) (a0_1 : ByteArray) (r : Bool) (w : World) (h : impl_GoodMsg.f a0_0 a0_1 = some r) :
  Calls Try.prog 18 #[.agg #[.int .i64 a0_0, .string a0_1]] w fun e w' => e = .returned (.bool r) ∧ Below w.heap.size w w' := by
 have hu26 := Try.underlying26
 have HB := Aside0.mk (Below.refl w.heap.size w)
 have H : ((impl_within.f a0_0 1 4).bind fun t187 => (if t187 = true then (if (a0_1.size : Int) ≤ 60 then (if a0_0 = 4 then (some (a0_1.toList == ([] : List UInt8))) else (some true)) else (some false)) else (some false))) = some r := h
 clear h
 replace H := Option.bind_eq_some_iff.mp H
 obtain ⟨t187, A20, H⟩ := H
 replace H : (if t187 = true then (if (a0_1.size : Int) ≤ 60 then (if a0_0 = 4 then (some (a0_1.toList == ([] : List UInt8))) else (some true)) else (some false)) else (some false)) = some r := H
 have A2 := Aside0.mk A20
 clear A20
 by_cases c3 : t187 = true
 ·
  subst c3
  have H1 : (if (a0_1.size : Int) ≤ 60 then (if a0_0 = 4 then (some (a0_1.toList == ([] : List UInt8))) else (some true)) else (some false)) = some r := by rw [if_pos rfl] at H; exact H
  clear H
  have H := H1
  clear H1
  by_cases c4 : (a0_1.size : Int) ≤ 60
  ·
   rw [if_pos c4] at H
   have c4b0 : decide ((a0_1.size : Int) ≤ 60) = true := decide_eq_true c4
   have c4b1 : decide (a0_1.size ≤ 60) = true := decide_eq_true (by omega)
   clear c4
   by_cases c5 : a0_0 = 4
   ·
    rw [if_pos c5] at H
    have c5b0 : (a0_0 == 4) = true := beq_iff_eq.mpr c5
    have c5b1 : (a0_0 != 4) = false := bne_eq_false_iff_eq.mpr c5
    clear c5
    obtain rfl := Option.some.inj H
    go_enter Try.func18, Try.ntmps18
    go_wp2_with (first | ((with_reducible refine zo (N := 1) rfl ?_); (try (refine zj (by rfl) ?_; dsimp only)); refine zk ?hg (N := 1) ?hd (cs := #[.int .i64 a0_0, .string a0_1]) (t := 26) ?hr ?_; (case hd => rfl); (case hg => rfl); (case hr => first | (go_simp; done) | (go_simp; rfl)); intro gb186 hg w6 hbox hb; have n0_ := Aside0.mk (zf (by repeat (first | (with_reducible first | exact HB.1 | apply zc | apply za | apply zb) | exact HB.1)) hb); have n1_ := Aside0.mk (hbox); have n2_ := Aside0.mk ((by rw [hg]; exact (zg (by repeat (first | (with_reducible first | exact HB.1 | apply zc | apply za | apply zb) | exact HB.1))) : w.heap.size ≤ gb186)); have n3_ := Aside0.mk ((by rw [hg]; exact (zg (by repeat (first | (with_reducible first | exact HB.1 | apply zc | apply za | apply zb) | exact HB.1))) : w.heap.size ≤ gb186)); clear HB; have HB := n0_; have zI := n1_; have GW186 := n2_; have zM := n3_; clear n0_ n1_ n2_ n3_; clear hb hbox hg; have hcz7_0 : w6.cell? ⟨gb186, 0, none⟩ = some (.int .i64 a0_0) := (ze zI.1 0).trans rfl; have hcz7_1 : w6.cell? ⟨gb186, 1, none⟩ = some (.string a0_1) := (ze zI.1 1).trans rfl; have hfz7_0 := zd zI.1 0; have hfz7_1 := zd zI.1 1) | ((with_reducible refine zi (f := 63) rfl ?_); refine zz (some 5) rfl rfl Try.func63 (by kernel_rfl) rfl #[.int .i64 a0_0, .int .i64 1, .int .i64 4] rfl (by (try simp only [List.map_toArray, List.map_cons, List.map_nil]); first | done | rfl | (simp only [List.length_drop, List.length_take]; rfl)) ?_; (with_reducible refine (impl_within.calls a0_0 1 4 true _ A2.1).mono ?_); rintro e w' ⟨rfl, ⟨nd, rfl⟩⟩; refine ⟨_, rfl, ?_⟩))
    go_ret
    exact ⟨by first | rfl | (simp [errW_none, errW_some] <;> rfl) | (simp [*, errW_none, errW_some] <;> rfl), by repeat (first | (with_reducible first | exact HB.1 | apply zc | apply za | apply zb | refine zh ?_ zM.1) | exact HB.1)⟩
   ·
    rw [if_neg c5] at H
    have c5b0 : (a0_0 == 4) = false := beq_eq_false_iff_ne.mpr c5
    have c5b1 : (a0_0 != 4) = true := bne_iff_ne.mpr c5
    obtain rfl := Option.some.inj H
    go_enter Try.func18, Try.ntmps18
    go_wp2_with (first | ((with_reducible refine zo (N := 1) rfl ?_); (try (refine zj (by rfl) ?_; dsimp only)); refine zk ?hg (N := 1) ?hd (cs := #[.int .i64 a0_0, .string a0_1]) (t := 26) ?hr ?_; (case hd => rfl); (case hg => rfl); (case hr => first | (go_simp; done) | (go_simp; rfl)); intro gb186 hg w8 hbox hb; have n0_ := Aside0.mk (zf (by repeat (first | (with_reducible first | exact HB.1 | apply zc | apply za | apply zb) | exact HB.1)) hb); have n1_ := Aside0.mk (hbox); have n2_ := Aside0.mk ((by rw [hg]; exact (zg (by repeat (first | (with_reducible first | exact HB.1 | apply zc | apply za | apply zb) | exact HB.1))) : w.heap.size ≤ gb186)); have n3_ := Aside0.mk ((by rw [hg]; exact (zg (by repeat (first | (with_reducible first | exact HB.1 | apply zc | apply za | apply zb) | exact HB.1))) : w.heap.size ≤ gb186)); clear HB; have HB := n0_; have zI := n1_; have GW186 := n2_; have zM := n3_; clear n0_ n1_ n2_ n3_; clear hb hbox hg; have hcz9_0 : w8.cell? ⟨gb186, 0, none⟩ = some (.int .i64 a0_0) := (ze zI.1 0).trans rfl; have hcz9_1 : w8.cell? ⟨gb186, 1, none⟩ = some (.string a0_1) := (ze zI.1 1).trans rfl; have hfz9_0 := zd zI.1 0; have hfz9_1 := zd zI.1 1) | ((with_reducible refine zi (f := 63) rfl ?_); refine zz (some 5) rfl rfl Try.func63 (by kernel_rfl) rfl #[.int .i64 a0_0, .int .i64 1, .int .i64 4] rfl (by (try simp only [List.map_toArray, List.map_cons, List.map_nil]); first | done | rfl | (simp only [List.length_drop, List.length_take]; rfl)) ?_; (with_reducible refine (impl_within.calls a0_0 1 4 true _ A2.1).mono ?_); rintro e w' ⟨rfl, ⟨nd, rfl⟩⟩; refine ⟨_, rfl, ?_⟩))
    go_ret
    exact ⟨by first | rfl | (simp [errW_none, errW_some] <;> rfl) | (simp [*, errW_none, errW_some] <;> rfl), by repeat (first | (with_reducible first | exact HB.1 | apply zc | apply za | apply zb | refine zh ?_ zM.1) | exact HB.1)⟩
  ·
   rw [if_neg c4] at H
   have c4b0 : decide ((a0_1.size : Int) ≤ 60) = false := decide_eq_false c4
   have c4b1 : decide (a0_1.size ≤ 60) = false := decide_eq_false (by omega)
   clear c4
   obtain rfl := Option.some.inj H
   go_enter Try.func18, Try.ntmps18
   go_wp2_with (first | ((with_reducible refine zo (N := 1) rfl ?_); (try (refine zj (by rfl) ?_; dsimp only)); refine zk ?hg (N := 1) ?hd (cs := #[.int .i64 a0_0, .string a0_1]) (t := 26) ?hr ?_; (case hd => rfl); (case hg => rfl); (case hr => first | (go_simp; done) | (go_simp; rfl)); intro gb186 hg w10 hbox hb; have n0_ := Aside0.mk (zf (by repeat (first | (with_reducible first | exact HB.1 | apply zc | apply za | apply zb) | exact HB.1)) hb); have n1_ := Aside0.mk (hbox); have n2_ := Aside0.mk ((by rw [hg]; exact (zg (by repeat (first | (with_reducible first | exact HB.1 | apply zc | apply za | apply zb) | exact HB.1))) : w.heap.size ≤ gb186)); have n3_ := Aside0.mk ((by rw [hg]; exact (zg (by repeat (first | (with_reducible first | exact HB.1 | apply zc | apply za | apply zb) | exact HB.1))) : w.heap.size ≤ gb186)); clear HB; have HB := n0_; have zI := n1_; have GW186 := n2_; have zM := n3_; clear n0_ n1_ n2_ n3_; clear hb hbox hg; have hcz11_0 : w10.cell? ⟨gb186, 0, none⟩ = some (.int .i64 a0_0) := (ze zI.1 0).trans rfl; have hcz11_1 : w10.cell? ⟨gb186, 1, none⟩ = some (.string a0_1) := (ze zI.1 1).trans rfl; have hfz11_0 := zd zI.1 0; have hfz11_1 := zd zI.1 1) | ((with_reducible refine zi (f := 63) rfl ?_); refine zz (some 5) rfl rfl Try.func63 (by kernel_rfl) rfl #[.int .i64 a0_0, .int .i64 1, .int .i64 4] rfl (by (try simp only [List.map_toArray, List.map_cons, List.map_nil]); first | done | rfl | (simp only [List.length_drop, List.length_take]; rfl)) ?_; (with_reducible refine (impl_within.calls a0_0 1 4 true _ A2.1).mono ?_); rintro e w' ⟨rfl, ⟨nd, rfl⟩⟩; refine ⟨_, rfl, ?_⟩))
   go_ret
   exact ⟨by first | rfl | (simp [errW_none, errW_some] <;> rfl) | (simp [*, errW_none, errW_some] <;> rfl), by repeat (first | (with_reducible first | exact HB.1 | apply zc | apply za | apply zb | refine zh ?_ zM.1) | exact HB.1)⟩
 ·
  replace c3 := Bool.eq_false_iff.mpr c3
  subst c3
  have H1 : (some false) = some r := by rw [if_neg (show ¬ (false = true) by decide)] at H; exact H
  clear H
  have H := H1
  clear H1
  obtain rfl := Option.some.inj H
  go_enter Try.func18, Try.ntmps18
  go_wp2_with (first | ((with_reducible refine zo (N := 1) rfl ?_); (try (refine zj (by rfl) ?_; dsimp only)); refine zk ?hg (N := 1) ?hd (cs := #[.int .i64 a0_0, .string a0_1]) (t := 26) ?hr ?_; (case hd => rfl); (case hg => rfl); (case hr => first | (go_simp; done) | (go_simp; rfl)); intro gb186 hg w12 hbox hb; have n0_ := Aside0.mk (zf (by repeat (first | (with_reducible first | exact HB.1 | apply zc | apply za | apply zb) | exact HB.1)) hb); have n1_ := Aside0.mk (hbox); have n2_ := Aside0.mk ((by rw [hg]; exact (zg (by repeat (first | (with_reducible first | exact HB.1 | apply zc | apply za | apply zb) | exact HB.1))) : w.heap.size ≤ gb186)); have n3_ := Aside0.mk ((by rw [hg]; exact (zg (by repeat (first | (with_reducible first | exact HB.1 | apply zc | apply za | apply zb) | exact HB.1))) : w.heap.size ≤ gb186)); clear HB; have HB := n0_; have zI := n1_; have GW186 := n2_; have zM := n3_; clear n0_ n1_ n2_ n3_; clear hb hbox hg; have hcz13_0 : w12.cell? ⟨gb186, 0, none⟩ = some (.int .i64 a0_0) := (ze zI.1 0).trans rfl; have hcz13_1 : w12.cell? ⟨gb186, 1, none⟩ = some (.string a0_1) := (ze zI.1 1).trans rfl; have hfz13_0 := zd zI.1 0; have hfz13_1 := zd zI.1 1) | ((with_reducible refine zi (f := 63) rfl ?_); refine zz (some 5) rfl rfl Try.func63 (by kernel_rfl) rfl #[.int .i64 a0_0, .int .i64 1, .int .i64 4] rfl (by (try simp only [List.map_toArray, List.map_cons, List.map_nil]); first | done | rfl | (simp only [List.length_drop, List.length_take]; rfl)) ?_; (with_reducible refine (impl_within.calls a0_0 1 4 false _ A2.1).mono ?_); rintro e w' ⟨rfl, ⟨nd, rfl⟩⟩; refine ⟨_, rfl, ?_⟩))
  go_ret
  exact ⟨by first | rfl | (simp [errW_none, errW_some] <;> rfl) | (simp [*, errW_none, errW_some] <;> rfl), by repeat (first | (with_reducible first | exact HB.1 | apply zc | apply za | apply zb | refine zh ?_ zM.1) | exact HB.1)⟩

/-! ### impl_GoodReader_1: function 71 -/
def impl_GoodReader_1.f (a0_0 : Int) (a0_1 : ByteArray) : Option (Bool) := (impl_GoodMsg.f a0_0 a0_1).bind fun t189 => (some (!t189))
set_option maxHeartbeats 8000000 in
set_option maxRecDepth 100000 in
theorem impl_GoodReader_1.calls (a0_0 : Int) (a0_1 : ByteArray) (r : Bool) (w : World) (h : impl_GoodReader_1.f a0_0 a0_1 = some r) :
  Calls Try.prog 71 #[.agg #[.int .i64 a0_0, .string a0_1]] w fun e w' => e = .returned (.bool r) ∧ Below w.heap.size w w' := by
 have hu26 := Try.underlying26
 have HB := Aside0.mk (Below.refl w.heap.size w)
 have H : ((impl_GoodMsg.f a0_0 a0_1).bind fun t189 => (some (!t189))) = some r := h
 clear h
 replace H := Option.bind_eq_some_iff.mp H
 obtain ⟨t189, A20, H⟩ := H
 replace H : (some (!t189)) = some r := H
 have A2 := Aside0.mk A20
 clear A20
 obtain rfl := Option.some.inj H
 go_enter Try.func71, Try.ntmps71
 go_wp2_with (first | ((with_reducible refine zo (N := 1) rfl ?_); refine zk ?hg (N := 1) ?hd (cs := #[.int .i64 a0_0, .string a0_1]) (t := 26) ?hr ?_; (case hd => rfl); (case hg => rfl); (case hr => first | (go_simp; done) | (go_simp; rfl)); intro gb188 hg w3 hbox hb; have n0_ := Aside0.mk (zf (by repeat (first | (with_reducible first | exact HB.1 | apply zc | apply za | apply zb) | exact HB.1)) hb); have n1_ := Aside0.mk (hbox); have n2_ := Aside0.mk ((by rw [hg]; exact (zg (by repeat (first | (with_reducible first | exact HB.1 | apply zc | apply za | apply zb) | exact HB.1))) : w.heap.size ≤ gb188)); have n3_ := Aside0.mk ((by rw [hg]; exact (zg (by repeat (first | (with_reducible first | exact HB.1 | apply zc | apply za | apply zb) | exact HB.1))) : w.heap.size ≤ gb188)); clear HB; have HB := n0_; have zN := n1_; have GW188 := n2_; have GE188 := n3_; clear n0_ n1_ n2_ n3_; clear hb hbox hg; have hcz4_0 : w3.cell? ⟨gb188, 0, none⟩ = some (.int .i64 a0_0) := (ze zN.1 0).trans rfl; have hcz4_1 : w3.cell? ⟨gb188, 1, none⟩ = some (.string a0_1) := (ze zN.1 1).trans rfl; have hfz4_0 := zd zN.1 0; have hfz4_1 := zd zN.1 1) | ((with_reducible refine zi (f := 18) rfl ?_); refine zz (some 4) rfl rfl Try.func18 (by kernel_rfl) rfl #[.agg #[.int .i64 a0_0, .string a0_1]] rfl (by (try simp only [List.map_toArray, List.map_cons, List.map_nil]); first | done | rfl | (simp only [List.length_drop, List.length_take]; rfl)) ?_; (with_reducible refine (impl_GoodMsg.calls a0_0 a0_1 t189 _ A2.1).mono ?_); rintro e w5 ⟨rfl, hb⟩; refine ⟨_, rfl, ?_⟩; have n0_ := Aside0.mk (zm (g := gb188) (o := .cells #[.int .i64 a0_0, .string a0_1] 26 (0, 0)) (by (with_reducible repeat (first | refine zl ?_ _ | refine zp ?_ | refine zn ?_ _)); exact zN.1) hb); have n1_ := Aside0.mk (zf (by repeat (first | (with_reducible first | exact HB.1 | apply zc | apply za | apply zb | refine zh ?_ GE188.1) | exact HB.1)) hb); clear zN; clear HB; have zN := n0_; have HB := n1_; clear n0_ n1_; (try clear hb); (try clear hb2); (try clear hk); (try clear hi)))
 go_ret
 exact ⟨by first | rfl | (simp [errW_none, errW_some] <;> rfl) | (simp [*, errW_none, errW_some] <;> rfl), by repeat (first | (with_reducible first | exact HB.1 | apply zc | apply za | apply zb | refine zh ?_ GE188.1) | exact HB.1)⟩

/-! ### slices_IndexFunc_impl_Msg_impl_Msg: function 105 -/
def slices_IndexFunc_impl_Msg_impl_Msg.l0 : Nat → List (S26) → Int → Int → Option (Int)
 | 0, _, _, _ => none
 | k + 1, x0, x7, x8 => if x8 < x7 then (if 0 ≤ x8 then (if x8 < (x0.length : Int) then ((impl_GoodReader_1.f ((rd_T26 x0 x8).f0) ((rd_T26 x0 x8).f1)).bind fun t191 => (if t191 = true then (some x8) else (slices_IndexFunc_impl_Msg_impl_Msg.l0 k x0 x7 (wrap64 (x8 + 1))))) else (none)) else (none)) else (some (-1))
def slices_IndexFunc_impl_Msg_impl_Msg.f (k : Nat) (l0 : List (S26))  : Option (Int) := slices_IndexFunc_impl_Msg_impl_Msg.l0 k l0 (l0.length : Int) 0
theorem slices_IndexFunc_impl_Msg_impl_Msg.mono_l : ∀ k, (∀ y0 y1 y2, LeO (slices_IndexFunc_impl_Msg_impl_Msg.l0 k y0 y1 y2) (slices_IndexFunc_impl_Msg_impl_Msg.l0 (k + 1) y0 y1 y2))
 | 0 => fun _ _ _ r h => by simp [slices_IndexFunc_impl_Msg_impl_Msg.l0] at h
 | k + 1 => by
  have ih0 := slices_IndexFunc_impl_Msg_impl_Msg.mono_l k
  ·
   intro y0 y1 y2
   unfold slices_IndexFunc_impl_Msg_impl_Msg.l0
   repeat' first
   | (with_reducible exact ih0 _ _ _)
   | (with_reducible exact LeO.refl _)
   | (with_reducible exact zt _)
   | (with_reducible refine zA ?_ ?_)
   | (with_reducible refine zu ?_ (fun _ => ?_))
   | exact ih0 _ _ _
   | exact zt _
   | refine zA ?_ ?_
   | refine zu ?_ (fun _ => ?_)
theorem slices_IndexFunc_impl_Msg_impl_Msg.mono : ∀ a0 k, LeO (slices_IndexFunc_impl_Msg_impl_Msg.f k a0) (slices_IndexFunc_impl_Msg_impl_Msg.f (k + 1) a0) := by
 intro a0 k
 have ih0 := slices_IndexFunc_impl_Msg_impl_Msg.mono_l k
 unfold slices_IndexFunc_impl_Msg_impl_Msg.f
 repeat' first
   | (with_reducible exact ih0 _ _ _)
   | (with_reducible exact LeO.refl _)
   | (with_reducible exact zt _)
   | (with_reducible refine zA ?_ ?_)
   | (with_reducible refine zu ?_ (fun _ => ?_))
   | exact ih0 _ _ _
   | exact zt _
   | refine zA ?_ ?_
   | refine zu ?_ (fun _ => ?_)
set_option maxHeartbeats 8000000 in
set_option maxRecDepth 100000 in
theorem slices_IndexFunc_impl_Msg_impl_Msg.calls (k : Nat) (A0 : Option Addr) (c0 : Nat) (l0 : List (S26))  (r : Int) (w : World) (hr0 : Kd.C k26 w A0 l0.length l0) (hc0 : l0.length ≤ c0) (h : slices_IndexFunc_impl_Msg_impl_Msg.f k l0 = some r) :
  Calls Try.prog 105 #[.slice A0 l0.length c0, .func (.func 71) #[] #[]] w fun e w' => e = .returned (.int .i64 r) ∧ Below w.heap.size w w' := by
 have hu26 := Try.underlying26
 have HR0 := Aside0.mk hr0
 have HC0 := Aside0.mk hc0
 clear hr0 hc0
 have HB := Aside0.mk (Below.refl w.heap.size w)
 have H : (slices_IndexFunc_impl_Msg_impl_Msg.l0 k l0 (l0.length : Int) 0) = some r := h
 clear h
 have H' := Aside0.mk H
 clear H
 go_enter Try.func105, Try.ntmps105
 go_wp2
 go_loopg [8] k (fun kq v8 w' => ∃ (x8_1 : Int), v8 = .int .i64 x8_1 ∧ zE (slices_IndexFunc_impl_Msg_impl_Msg.l0 kq l0 (l0.length : Int) x8_1 = some r) ∧ zE (kq ≤ k) ∧ zE (Below w.heap.size w w'))
 case atStart => exact ⟨(0), (by first | rfl | (simp; done) | (simp [*]; done)), H', ⟨Nat.le_refl _⟩, ⟨by repeat (first | (with_reducible first | exact HB.1 | apply zc | apply za | apply zb) | exact HB.1)⟩⟩
 case round =>
  clear H'
  (try clear c1); (try clear p2)
  obtain ⟨x8_1, rfl, HA, HK1, HB⟩ := hrel
  cases gk with
  | zero => exact absurd HA.1 (by simp [slices_IndexFunc_impl_Msg_impl_Msg.l0])
  | succ k1 =>
   have H := HA.1
   clear HA
   simp only [slices_IndexFunc_impl_Msg_impl_Msg.l0] at H
   by_cases c3 : x8_1 < (l0.length : Int)
   ·
    rw [if_pos c3] at H
    have c3b0 : decide (x8_1 < (l0.length : Int)) = true := decide_eq_true c3
    clear c3
    by_cases c4 : 0 ≤ x8_1
    ·
     rw [if_pos c4] at H
     have c4b0 : decide (0 ≤ x8_1) = true := decide_eq_true c4
     clear c4
     by_cases c5 : x8_1 < (l0.length : Int)
     ·
      rw [if_pos c5] at H
      have c5b0 : decide (x8_1 < (l0.length : Int)) = true := decide_eq_true c5
      clear c5
      replace H := Option.bind_eq_some_iff.mp H
      obtain ⟨t191, A60, H⟩ := H
      replace H : (if t191 = true then (some x8_1) else (slices_IndexFunc_impl_Msg_impl_Msg.l0 k1 l0 (l0.length : Int) (wrap64 (x8_1 + 1)))) = some r := H
      have A6 := Aside0.mk A60
      clear A60
      by_cases c7 : t191 = true
      ·
       subst c7
       have H1 : (some x8_1) = some r := by rw [if_pos rfl] at H; exact H
       clear H
       have H := H1
       clear H1
       obtain rfl := Option.some.inj H
       have p190 : 0 ≤ (x8_1 : Int) := of_decide_eq_true (by first | (with_reducible assumption) | assumption)
       have q190 : x8_1 < (l0.length : Int) := of_decide_eq_true (by first | (with_reducible assumption) | assumption)
       obtain ⟨ad190, e190, hx190_0, hx190_1⟩ := at_T26 HR0.1 x8_1 p190 q190
       cases e190
       replace hx190_0 := (HB.1.cell (World.block_lt_of_cell? w _ hx190_0)).trans hx190_0
       replace hx190_1 := (HB.1.cell (World.block_lt_of_cell? w _ hx190_1)).trans hx190_1
       replace p190 := eq_true p190
       replace q190 := eq_true q190
       go_wp2_with (first | (go_at_call 71; (with_reducible refine (impl_GoodReader_1.calls ((rd_T26 l0 x8_1).f0) ((rd_T26 l0 x8_1).f1) true _ A6.1).mono ?_); rintro e w8 ⟨rfl, hb⟩; have n0_ := Aside0.mk (zf (by repeat (first | (with_reducible first | exact HB.1 | apply zc | apply za | apply zb) | exact HB.1)) hb); clear HB; have HB := n0_; clear n0_; (try clear hb); (try clear hb2); (try clear hk); (try clear hi)))
       go_ret
       exact ⟨by first | rfl | (simp [errW_none, errW_some] <;> rfl) | (simp [*, errW_none, errW_some] <;> rfl), by repeat (first | (with_reducible first | exact HB.1 | apply zc | apply za | apply zb) | exact HB.1)⟩
      ·
       replace c7 := Bool.eq_false_iff.mpr c7
       subst c7
       have H1 : (slices_IndexFunc_impl_Msg_impl_Msg.l0 k1 l0 (l0.length : Int) (wrap64 (x8_1 + 1))) = some r := by rw [if_neg (show ¬ (false = true) by decide)] at H; exact H
       clear H
       have H := H1
       clear H1
       have H' := Aside0.mk H
       clear H
       have p190 : 0 ≤ (x8_1 : Int) := of_decide_eq_true (by first | (with_reducible assumption) | assumption)
       have q190 : x8_1 < (l0.length : Int) := of_decide_eq_true (by first | (with_reducible assumption) | assumption)
       obtain ⟨ad190, e190, hx190_0, hx190_1⟩ := at_T26 HR0.1 x8_1 p190 q190
       cases e190
       replace hx190_0 := (HB.1.cell (World.block_lt_of_cell? w _ hx190_0)).trans hx190_0
       replace hx190_1 := (HB.1.cell (World.block_lt_of_cell? w _ hx190_1)).trans hx190_1
       replace p190 := eq_true p190
       replace q190 := eq_true q190
       go_wp2_with (first | (go_at_call 71; (with_reducible refine (impl_GoodReader_1.calls ((rd_T26 l0 x8_1).f0) ((rd_T26 l0 x8_1).f1) false _ A6.1).mono ?_); rintro e w9 ⟨rfl, hb⟩; have n0_ := Aside0.mk (zf (by repeat (first | (with_reducible first | exact HB.1 | apply zc | apply za | apply zb) | exact HB.1)) hb); clear HB; have HB := n0_; clear n0_; (try clear hb); (try clear hb2); (try clear hk); (try clear hi)))
       go_roundg k1
       case measure => have := HK1.1; omega
       case rel => exact ⟨(wrap64 (x8_1 + 1)), (by first | rfl | (simp; done) | (simp [*]; done)), H', ⟨by have := HK1.1; omega⟩, ⟨by repeat (first | (with_reducible first | exact HB.1 | apply zc | apply za | apply zb) | exact HB.1)⟩⟩
     ·
      rw [if_neg c5] at H
      exact absurd H (by simp)
    ·
     rw [if_neg c4] at H
     exact absurd H (by simp)
   ·
    rw [if_neg c3] at H
    have c3b0 : decide (x8_1 < (l0.length : Int)) = false := decide_eq_false c3
    clear c3
    obtain rfl := Option.some.inj H
    go_wp2
    go_ret
    exact ⟨by first | rfl | (simp [errW_none, errW_some] <;> rfl) | (simp [*, errW_none, errW_some] <;> rfl), by repeat (first | (with_reducible first | exact HB.1 | apply zc | apply za | apply zb) | exact HB.1)⟩

/-! ### slices_ContainsFunc_impl_Msg_impl_Msg: function 70 -/
def slices_ContainsFunc_impl_Msg_impl_Msg.f (k : Nat) (l0 : List (S26))  : Option (Bool) := (slices_IndexFunc_impl_Msg_impl_Msg.f k l0).bind fun t192 => (some (decide (t192 ≥ 0)))
theorem slices_ContainsFunc_impl_Msg_impl_Msg.mono : ∀ a0 k, LeO (slices_ContainsFunc_impl_Msg_impl_Msg.f k a0) (slices_ContainsFunc_impl_Msg_impl_Msg.f (k + 1) a0) := by
 intro a0 k
 unfold slices_ContainsFunc_impl_Msg_impl_Msg.f
 repeat' first
   | (with_reducible exact slices_IndexFunc_impl_Msg_impl_Msg.mono _ _)
   | (with_reducible exact LeO.refl _)
   | (with_reducible exact zt _)
   | (with_reducible refine zA ?_ ?_)
   | (with_reducible refine zu ?_ (fun _ => ?_))
   | exact slices_IndexFunc_impl_Msg_impl_Msg.mono _ _
   | exact zt _
   | refine zA ?_ ?_
   | refine zu ?_ (fun _ => ?_)
set_option maxHeartbeats 8000000 in
set_option maxRecDepth 100000 in
theorem slices_ContainsFunc_impl_Msg_impl_Msg.calls (k : Nat) (A0 : Option Addr) (c0 : Nat) (l0 : List (S26))  (r : Bool) (w : World) (hr0 : Kd.C k26 w A0 l0.length l0) (hc0 : l0.length ≤ c0) (h : slices_ContainsFunc_impl_Msg_impl_Msg.f k l0 = some r) :
  Calls Try.prog 70 #[.slice A0 l0.length c0, .func (.func 71) #[] #[]] w fun e w' => e = .returned (.bool r) ∧ Below w.heap.size w w' := by
 have HR0 := Aside0.mk hr0
 have HC0 := Aside0.mk hc0
 clear hr0 hc0
 have HB := Aside0.mk (Below.refl w.heap.size w)
 have H : ((slices_IndexFunc_impl_Msg_impl_Msg.f k l0).bind fun t192 => (some (decide (t192 ≥ 0)))) = some r := h
 clear h
 replace H := Option.bind_eq_some_iff.mp H
 obtain ⟨t192, A30, H⟩ := H
 replace H : (some (decide (t192 ≥ 0))) = some r := H
 have A3 := Aside0.mk A30
 clear A30
 obtain rfl := Option.some.inj H
 go_enter Try.func70, Try.ntmps70
 go_wp2_with (first | ((with_reducible refine zi (f := 105) rfl ?_); refine zz (some 7) rfl rfl Try.func105 (by kernel_rfl) rfl #[.slice A0 l0.length c0, .func (.func 71) #[] #[]] rfl (by (try simp only [List.map_toArray, List.map_cons, List.map_nil]); first | done | rfl | (simp only [List.length_drop, List.length_take]; rfl)) ?_; (with_reducible refine (slices_IndexFunc_impl_Msg_impl_Msg.calls k _ _ l0  t192 _ ?side1 ?side2 A3.1).mono ?_); (case side1 => repeat (first | exact HR0.1 | (with_reducible refine zx ?_ _) | (with_reducible refine zv ?_ _) | (with_reducible refine zy ?_))); (case side2 => exact HC0.1); rintro e w4 ⟨rfl, hb⟩; refine ⟨_, rfl, ?_⟩; have n0_ := Aside0.mk (zf (by repeat (first | (with_reducible first | exact HB.1 | apply zc | apply za | apply zb) | exact HB.1)) hb); clear HB; have HB := n0_; clear n0_; (try clear hb); (try clear hb2); (try clear hk); (try clear hi)))
 go_ret
 exact ⟨by first | rfl | (simp [errW_none, errW_some] <;> rfl) | (simp [*, errW_none, errW_some] <;> rfl), by repeat (first | (with_reducible first | exact HB.1 | apply zc | apply za | apply zb) | exact HB.1)⟩

/-! ### impl_GoodReader: function 34 -/
def impl_GoodReader.f (k : Nat) (a0_0 : ByteArray) (l0_1 : List (S26)) (a0_2 : Int) : Option (Bool) := if (l0_1.length : Int) > 40 then (some false) else ((slices_ContainsFunc_impl_Msg_impl_Msg.f k l0_1).bind fun t194 => (if t194 = true then (some false) else ((impl_within.f a0_2 0 4).bind fun t195 => (if t195 = true then (if (a0_0.size : Int) > 300 then (some false) else ((impl_cutAll.f k a0_0).bind fun bt196 => (if (bt196.1.length : Int) = 0 then (if bt196.2.1.toList = a0_0.toList then (if bt196.2.2 = 0 then (if a0_2 = 0 then (some true) else (some (a0_0.toList == ([] : List UInt8)))) else (some false)) else (some false)) else (some false)))) else (some false)))))
theorem impl_GoodReader.mono : ∀ a0 a1 a2 k, LeO (impl_GoodReader.f k a0 a1 a2) (impl_GoodReader.f (k + 1) a0 a1 a2) := by
 intro a0 a1 a2 k
 unfold impl_GoodReader.f
 repeat' first
   | (with_reducible exact impl_cutAll.mono _ _)
   | (with_reducible exact slices_ContainsFunc_impl_Msg_impl_Msg.mono _ _)
   | (with_reducible exact LeO.refl _)
   | (with_reducible exact zt _)
   | (with_reducible refine zA ?_ ?_)
   | (with_reducible refine zu ?_ (fun _ => ?_))
   | exact impl_cutAll.mono _ _
   | exact slices_ContainsFunc_impl_Msg_impl_Msg.mono _ _
   | exact zt _
   | refine zA ?_ ?_
   | refine zu ?_ (fun _ => ?_)
set_option maxHeartbeats 8000000 in
set_option maxRecDepth 100000 in
theorem impl_GoodReader.calls (k : Nat) (a0_0 : ByteArray) (A0_1 : Option Addr) (c0_1 : Nat) (l0_1 : List (S26)) (a0_2 : Int) (r : Bool) (w : World) (hr0_1 : Kd.C k26 w A0_1 l0_1.length l0_1) (hc0_1 : l0_1.length ≤ c0_1) (h : impl_GoodReader.f k a0_0 l0_1 a0_2 = some r) :
  Calls Try.prog 34 #[.agg #[.string a0_0, .slice A0_1 l0_1.length c0_1, .int .i64 a0_2]] w fun e w' => e = .returned (.bool r) ∧ Below w.heap.size w w' := by
 have hu33 := Try.underlying33
 have zK := Aside0.mk hr0_1
 have HC0_1 := Aside0.mk hc0_1
 clear hr0_1 hc0_1
 have HB := Aside0.mk (Below.refl w.heap.size w)
 have H : (if (l0_1.length : Int) > 40 then (some false) else ((slices_ContainsFunc_impl_Msg_impl_Msg.f k l0_1).bind fun t194 => (if t194 = true then (some false) else ((impl_within.f a0_2 0 4).bind fun t195 => (if t195 = true then (if (a0_0.size : Int) > 300 then (some false) else ((impl_cutAll.f k a0_0).bind fun bt196 => (if (bt196.1.length : Int) = 0 then (if bt196.2.1.toList = a0_0.toList then (if bt196.2.2 = 0 then (if a0_2 = 0 then (some true) else (some (a0_0.toList == ([] : List UInt8)))) else (some false)) else (some false)) else (some false)))) else (some false)))))) = some r := h
 clear h
 by_cases c2 : (l0_1.length : Int) > 40
 ·
  rw [if_pos c2] at H
  have c2b0 : decide (40 < (l0_1.length : Int)) = true := decide_eq_true c2
  have c2b1 : decide (40 < l0_1.length) = true := decide_eq_true (by omega)
  clear c2
  obtain rfl := Option.some.inj H
  go_enter Try.func34, Try.ntmps34
  go_wp2_with (first | ((with_reducible refine zo (N := 1) rfl ?_); (try (refine zj (by rfl) ?_; dsimp only)); refine zk ?hg (N := 1) ?hd (cs := #[.string a0_0, .slice A0_1 l0_1.length c0_1, .int .i64 a0_2]) (t := 33) ?hr ?_; (case hd => rfl); (case hg => rfl); (case hr => first | (go_simp; done) | (go_simp; rfl)); intro gb193 hg w3 hbox hb; have n0_ := Aside0.mk (zf (by repeat (first | (with_reducible first | exact HB.1 | apply zc | apply za | apply zb) | exact HB.1)) hb); have n1_ := Aside0.mk (hbox); have n2_ := Aside0.mk ((by rw [hg]; exact (zg (by repeat (first | (with_reducible first | exact HB.1 | apply zc | apply za | apply zb) | exact HB.1))) : w.heap.size ≤ gb193)); have n3_ := Aside0.mk ((by rw [hg]; exact (zg (by repeat (first | (with_reducible first | exact HB.1 | apply zc | apply za | apply zb) | exact HB.1))) : w.heap.size ≤ gb193)); clear HB; have HB := n0_; have zG := n1_; have zL := n2_; have zH := n3_; clear n0_ n1_ n2_ n3_; clear hb hbox hg; have hcz4_0 : w3.cell? ⟨gb193, 0, none⟩ = some (.string a0_0) := (ze zG.1 0).trans rfl; have hcz4_1 : w3.cell? ⟨gb193, 1, none⟩ = some (.slice A0_1 l0_1.length c0_1) := (ze zG.1 1).trans rfl; have hcz4_2 : w3.cell? ⟨gb193, 2, none⟩ = some (.int .i64 a0_2) := (ze zG.1 2).trans rfl; have hfz4_0 := zd zG.1 0; have hfz4_1 := zd zG.1 1; have hfz4_2 := zd zG.1 2))
  go_ret
  exact ⟨by first | rfl | (simp [errW_none, errW_some] <;> rfl) | (simp [*, errW_none, errW_some] <;> rfl), by repeat (first | (with_reducible first | exact HB.1 | apply zc | apply za | apply zb | refine zh ?_ zH.1) | exact HB.1)⟩
 ·
  rw [if_neg c2] at H
  have c2b0 : decide (40 < (l0_1.length : Int)) = false := decide_eq_false c2
  have c2b1 : decide (40 < l0_1.length) = false := decide_eq_false (by omega)
  clear c2
  replace H := Option.bind_eq_some_iff.mp H
  obtain ⟨t194, A50, H⟩ := H
  replace H : (if t194 = true then (some false) else ((impl_within.f a0_2 0 4).bind fun t195 => (if t195 = true then (if (a0_0.size : Int) > 300 then (some false) else ((impl_cutAll.f k a0_0).bind fun bt196 => (if (bt196.1.length : Int) = 0 then (if bt196.2.1.toList = a0_0.toList then (if bt196.2.2 = 0 then (if a0_2 = 0 then (some true) else (some (a0_0.toList == ([] : List UInt8)))) else (some false)) else (some false)) else (some false)))) else (some false)))) = some r := H
  have A5 := Aside0.mk A50
  clear A50
  by_cases c6 : t194 = true
  ·
   subst c6
   have H1 : (some false) = some r := by rw [if_pos rfl] at H; exact H
   clear H
   have H := H1
   clear H1
   obtain rfl := Option.some.inj H
   go_enter Try.func34, Try.ntmps34
   go_wp2_with (first | ((with_reducible refine zo (N := 1) rfl ?_); (try (refine zj (by rfl) ?_; dsimp only)); refine zk ?hg (N := 1) ?hd (cs := #[.string a0_0, .slice A0_1 l0_1.length c0_1, .int .i64 a0_2]) (t := 33) ?hr ?_; (case hd => rfl); (case hg => rfl); (case hr => first | (go_simp; done) | (go_simp; rfl)); intro gb193 hg w7 hbox hb; have n0_ := Aside0.mk (zf (by repeat (first | (with_reducible first | exact HB.1 | apply zc | apply za | apply zb) | exact HB.1)) hb); have n1_ := Aside0.mk (hbox); have n2_ := Aside0.mk ((by rw [hg]; exact (zg (by repeat (first | (with_reducible first | exact HB.1 | apply zc | apply za | apply zb) | exact HB.1))) : w.heap.size ≤ gb193)); have n3_ := Aside0.mk ((by rw [hg]; exact (zg (by repeat (first | (with_reducible first | exact HB.1 | apply zc | apply za | apply zb) | exact HB.1))) : w.heap.size ≤ gb193)); clear HB; have HB := n0_; have zG := n1_; have zL := n2_; have zH := n3_; clear n0_ n1_ n2_ n3_; clear hb hbox hg; have hcz8_0 : w7.cell? ⟨gb193, 0, none⟩ = some (.string a0_0) := (ze zG.1 0).trans rfl; have hcz8_1 : w7.cell? ⟨gb193, 1, none⟩ = some (.slice A0_1 l0_1.length c0_1) := (ze zG.1 1).trans rfl; have hcz8_2 : w7.cell? ⟨gb193, 2, none⟩ = some (.int .i64 a0_2) := (ze zG.1 2).trans rfl; have hfz8_0 := zd zG.1 0; have hfz8_1 := zd zG.1 1; have hfz8_2 := zd zG.1 2) | (go_at_call 70; (with_reducible refine (slices_ContainsFunc_impl_Msg_impl_Msg.calls k _ _ l0_1  true _ ?side1 ?side2 A5.1).mono ?_); (case side1 => repeat (first | exact (zw zK.1 HB.1) | (with_reducible refine zx ?_ _) | (with_reducible refine zv ?_ _) | (with_reducible refine zy ?_))); (case side2 => exact HC0_1.1); rintro e w9 ⟨rfl, hb⟩; have n0_ := Aside0.mk (zm (g := gb193) (o := .cells #[.string a0_0, .slice A0_1 l0_1.length c0_1, .int .i64 a0_2] 33 (0, 0)) (by (with_reducible repeat (first | refine zl ?_ _ | refine zp ?_ | refine zn ?_ _)); exact zG.1) hb); have n1_ := Aside0.mk (zf (by repeat (first | (with_reducible first | exact HB.1 | apply zc | apply za | apply zb | refine zh ?_ zH.1) | exact HB.1)) hb); clear zG; clear HB; have zG := n0_; have HB := n1_; clear n0_ n1_; (try clear hb); (try clear hb2); (try clear hk); (try clear hi)))
   go_ret
   exact ⟨by first | rfl | (simp [errW_none, errW_some] <;> rfl) | (simp [*, errW_none, errW_some] <;> rfl), by repeat (first | (with_reducible first | exact HB.1 | apply zc | apply za | apply zb | refine zh ?_ zH.1) | exact HB.1)⟩
  ·
   replace c6 := Bool.eq_false_iff.mpr c6
   subst c6
   have H1 : ((impl_within.f a0_2 0 4).bind fun t195 => (if t195 = true then (if (a0_0.size : Int) > 300 then (some false) else ((impl_cutAll.f k a0_0).bind fun bt196 => (if (bt196.1.length : Int) = 0 then (if bt196.2.1.toList = a0_0.toList then (if bt196.2.2 = 0 then (if a0_2 = 0 then (some true) else (some (a0_0.toList == ([] : List UInt8)))) else (some false)) else (some false)) else (some false)))) else (some false))) = some r := by rw [if_neg (show ¬ (false = true) by decide)] at H; exact H
   clear H
   have H := H1
   clear H1
   replace H := Option.bind_eq_some_iff.mp H
   obtain ⟨t195, A100, H⟩ := H
   replace H : (if t195 = true then (if (a0_0.size : Int) > 300 then (some false) else ((impl_cutAll.f k a0_0).bind fun bt196 => (if (bt196.1.length : Int) = 0 then (if bt196.2.1.toList = a0_0.toList then (if bt196.2.2 = 0 then (if a0_2 = 0 then (some true) else (some (a0_0.toList == ([] : List UInt8)))) else (some false)) else (some false)) else (some false)))) else (some false)) = some r := H
   have A10 := Aside0.mk A100
   clear A100
   by_cases c11 : t195 = true
   ·
    subst c11
    have H1 : (if (a0_0.size : Int) > 300 then (some false) else ((impl_cutAll.f k a0_0).bind fun bt196 => (if (bt196.1.length : Int) = 0 then (if bt196.2.1.toList = a0_0.toList then (if bt196.2.2 = 0 then (if a0_2 = 0 then (some true) else (some (a0_0.toList == ([] : List UInt8)))) else (some false)) else (some false)) else (some false)))) = some r := by rw [if_pos rfl] at H; exact H
    clear H
    have H := H1
    clear H1
    by_cases c12 : (a0_0.size : Int) > 300
    ·
     rw [if_pos c12] at H
     have c12b0 : decide (300 < (a0_0.size : Int)) = true := decide_eq_true c12
     have c12b1 : decide (300 < a0_0.size) = true := decide_eq_true (by omega)
     clear c12
     obtain rfl := Option.some.inj H
     go_enter Try.func34, Try.ntmps34
     go_wp2_with (first | ((with_reducible refine zo (N := 1) rfl ?_); (try (refine zj (by rfl) ?_; dsimp only)); refine zk ?hg (N := 1) ?hd (cs := #[.string a0_0, .slice A0_1 l0_1.length c0_1, .int .i64 a0_2]) (t := 33) ?hr ?_; (case hd => rfl); (case hg => rfl); (case hr => first | (go_simp; done) | (go_simp; rfl)); intro gb193 hg w13 hbox hb; have n0_ := Aside0.mk (zf (by repeat (first | (with_reducible first | exact HB.1 | apply zc | apply za | apply zb) | exact HB.1)) hb); have n1_ := Aside0.mk (hbox); have n2_ := Aside0.mk ((by rw [hg]; exact (zg (by repeat (first | (with_reducible first | exact HB.1 | apply zc | apply za | apply zb) | exact HB.1))) : w.heap.size ≤ gb193)); have n3_ := Aside0.mk ((by rw [hg]; exact (zg (by repeat (first | (with_reducible first | exact HB.1 | apply zc | apply za | apply zb) | exact HB.1))) : w.heap.size ≤ gb193)); clear HB; have HB := n0_; have zG := n1_; have zL := n2_; have zH := n3_; clear n0_ n1_ n2_ n3_; clear hb hbox hg; have hcz14_0 : w13.cell? ⟨gb193, 0, none⟩ = some (.string a0_0) := (ze zG.1 0).trans rfl; have hcz14_1 : w13.cell? ⟨gb193, 1, none⟩ = some (.slice A0_1 l0_1.length c0_1) := (ze zG.1 1).trans rfl; have hcz14_2 : w13.cell? ⟨gb193, 2, none⟩ = some (.int .i64 a0_2) := (ze zG.1 2).trans rfl; have hfz14_0 := zd zG.1 0; have hfz14_1 := zd zG.1 1; have hfz14_2 := zd zG.1 2) | (go_at_call 70; (with_reducible refine (slices_ContainsFunc_impl_Msg_impl_Msg.calls k _ _ l0_1  false _ ?side1 ?side2 A5.1).mono ?_); (case side1 => repeat (first | exact (zw zK.1 HB.1) | (with_reducible refine zx ?_ _) | (with_reducible refine zv ?_ _) | (with_reducible refine zy ?_))); (case side2 => exact HC0_1.1); rintro e w15 ⟨rfl, hb⟩; have n0_ := Aside0.mk (zm (g := gb193) (o := .cells #[.string a0_0, .slice A0_1 l0_1.length c0_1, .int .i64 a0_2] 33 (0, 0)) (by (with_reducible repeat (first | refine zl ?_ _ | refine zp ?_ | refine zn ?_ _)); exact zG.1) hb); have n1_ := Aside0.mk (zf (by repeat (first | (with_reducible first | exact HB.1 | apply zc | apply za | apply zb | refine zh ?_ zH.1) | exact HB.1)) hb); clear zG; clear HB; have zG := n0_; have HB := n1_; clear n0_ n1_; (try clear hb); (try clear hb2); (try clear hk); (try clear hi); have hcz16_0 : w15.cell? ⟨gb193, 0, none⟩ = some (.string a0_0) := (ze zG.1 0).trans rfl; have hcz16_1 : w15.cell? ⟨gb193, 1, none⟩ = some (.slice A0_1 l0_1.length c0_1) := (ze zG.1 1).trans rfl; have hcz16_2 : w15.cell? ⟨gb193, 2, none⟩ = some (.int .i64 a0_2) := (ze zG.1 2).trans rfl; have hfz16_0 := zd zG.1 0; have hfz16_1 := zd zG.1 1; have hfz16_2 := zd zG.1 2) | (go_at_call 63; (with_reducible refine (impl_within.calls a0_2 0 4 true _ A10.1).mono ?_); rintro e w' ⟨rfl, ⟨nd, rfl⟩⟩))
     go_ret
     exact ⟨by first | rfl | (simp [errW_none, errW_some] <;> rfl) | (simp [*, errW_none, errW_some] <;> rfl), by repeat (first | (with_reducible first | exact HB.1 | apply zc | apply za | apply zb | refine zh ?_ zH.1) | exact HB.1)⟩
    ·
     rw [if_neg c12] at H
     have c12b0 : decide (300 < (a0_0.size : Int)) = false := decide_eq_false c12
     have c12b1 : decide (300 < a0_0.size) = false := decide_eq_false (by omega)
     clear c12
     replace H := Option.bind_eq_some_iff.mp H
     obtain ⟨⟨t196, t197, t198⟩, A170, H⟩ := H
     replace H : (if (t196.length : Int) = 0 then (if t197.toList = a0_0.toList then (if t198 = 0 then (if a0_2 = 0 then (some true) else (some (a0_0.toList == ([] : List UInt8)))) else (some false)) else (some false)) else (some false)) = some r := H
     have A17 := Aside0.mk A170
     clear A170
     by_cases c18 : (t196.length : Int) = 0
     ·
      rw [if_pos c18] at H
      have c18b0 : ((t196.length : Int) == 0) = true := beq_iff_eq.mpr c18
      have c18b1 : ((t196.length : Int) != 0) = false := bne_eq_false_iff_eq.mpr c18
      clear c18
      by_cases c19 : t197.toList = a0_0.toList
      ·
       rw [if_pos c19] at H
       have c19b0 : (t197.toList == a0_0.toList) = true := beq_iff_eq.mpr c19
       have c19b1 : (t197.toList != a0_0.toList) = false := bne_eq_false_iff_eq.mpr c19
       clear c19
       by_cases c20 : t198 = 0
       ·
        rw [if_pos c20] at H
        have c20b0 : (t198 == 0) = true := beq_iff_eq.mpr c20
        have c20b1 : (t198 != 0) = false := bne_eq_false_iff_eq.mpr c20
        clear c20
        by_cases c21 : a0_2 = 0
        ·
         rw [if_pos c21] at H
         have c21b0 : (a0_2 == 0) = true := beq_iff_eq.mpr c21
         have c21b1 : (a0_2 != 0) = false := bne_eq_false_iff_eq.mpr c21
         clear c21
         obtain rfl := Option.some.inj H
         go_enter Try.func34, Try.ntmps34
         go_wp2_with (first | ((with_reducible refine zo (N := 1) rfl ?_); (try (refine zj (by rfl) ?_; dsimp only)); refine zk ?hg (N := 1) ?hd (cs := #[.string a0_0, .slice A0_1 l0_1.length c0_1, .int .i64 a0_2]) (t := 33) ?hr ?_; (case hd => rfl); (case hg => rfl); (case hr => first | (go_simp; done) | (go_simp; rfl)); intro gb193 hg w22 hbox hb; have n0_ := Aside0.mk (zf (by repeat (first | (with_reducible first | exact HB.1 | apply zc | apply za | apply zb) | exact HB.1)) hb); have n1_ := Aside0.mk (hbox); have n2_ := Aside0.mk ((by rw [hg]; exact (zg (by repeat (first | (with_reducible first | exact HB.1 | apply zc | apply za | apply zb) | exact HB.1))) : w.heap.size ≤ gb193)); have n3_ := Aside0.mk ((by rw [hg]; exact (zg (by repeat (first | (with_reducible first | exact HB.1 | apply zc | apply za | apply zb) | exact HB.1))) : w.heap.size ≤ gb193)); clear HB; have HB := n0_; have zG := n1_; have zL := n2_; have zH := n3_; clear n0_ n1_ n2_ n3_; clear hb hbox hg; have hcz23_0 : w22.cell? ⟨gb193, 0, none⟩ = some (.string a0_0) := (ze zG.1 0).trans rfl; have hcz23_1 : w22.cell? ⟨gb193, 1, none⟩ = some (.slice A0_1 l0_1.length c0_1) := (ze zG.1 1).trans rfl; have hcz23_2 : w22.cell? ⟨gb193, 2, none⟩ = some (.int .i64 a0_2) := (ze zG.1 2).trans rfl; have hfz23_0 := zd zG.1 0; have hfz23_1 := zd zG.1 1; have hfz23_2 := zd zG.1 2) | (go_at_call 70; (with_reducible refine (slices_ContainsFunc_impl_Msg_impl_Msg.calls k _ _ l0_1  false _ ?side1 ?side2 A5.1).mono ?_); (case side1 => repeat (first | exact (zw zK.1 HB.1) | (with_reducible refine zx ?_ _) | (with_reducible refine zv ?_ _) | (with_reducible refine zy ?_))); (case side2 => exact HC0_1.1); rintro e w24 ⟨rfl, hb⟩; have n0_ := Aside0.mk (zm (g := gb193) (o := .cells #[.string a0_0, .slice A0_1 l0_1.length c0_1, .int .i64 a0_2] 33 (0, 0)) (by (with_reducible repeat (first | refine zl ?_ _ | refine zp ?_ | refine zn ?_ _)); exact zG.1) hb); have n1_ := Aside0.mk (zf (by repeat (first | (with_reducible first | exact HB.1 | apply zc | apply za | apply zb | refine zh ?_ zH.1) | exact HB.1)) hb); clear zG; clear HB; have zG := n0_; have HB := n1_; clear n0_ n1_; (try clear hb); (try clear hb2); (try clear hk); (try clear hi); have hcz25_0 : w24.cell? ⟨gb193, 0, none⟩ = some (.string a0_0) := (ze zG.1 0).trans rfl; have hcz25_1 : w24.cell? ⟨gb193, 1, none⟩ = some (.slice A0_1 l0_1.length c0_1) := (ze zG.1 1).trans rfl; have hcz25_2 : w24.cell? ⟨gb193, 2, none⟩ = some (.int .i64 a0_2) := (ze zG.1 2).trans rfl; have hfz25_0 := zd zG.1 0; have hfz25_1 := zd zG.1 1; have hfz25_2 := zd zG.1 2) | (go_at_call 63; (with_reducible refine (impl_within.calls a0_2 0 4 true _ A10.1).mono ?_); rintro e w' ⟨rfl, ⟨nd, rfl⟩⟩) | ((with_reducible refine zi (f := 66) rfl ?_); refine zz (some 30) rfl rfl Try.func66 (by kernel_rfl) rfl #[.string a0_0] rfl (by (try simp only [List.map_toArray, List.map_cons, List.map_nil]); first | done | rfl | (simp only [List.length_drop, List.length_take]; rfl)) ?_; (with_reducible refine (impl_cutAll.calls k a0_0 t196 t197 t198 _ A17.1).mono ?_); rintro e w26 ⟨v199, rfl, ho0, hb⟩; refine ⟨_, rfl, ?_⟩; have n0_ := Aside0.mk (Kd.R_lower ho0 (zg (by repeat (first | (with_reducible first | exact HB.1 | apply zc | apply za | apply zb | refine zh ?_ zH.1) | exact HB.1)))); have n1_ := Aside0.mk (zm (g := gb193) (o := .cells #[.string a0_0, .slice A0_1 l0_1.length c0_1, .int .i64 a0_2] 33 (0, 0)) (by (with_reducible repeat (first | refine zl ?_ _ | refine zp ?_ | refine zn ?_ _)); exact zG.1) hb); have n2_ := Aside0.mk (zf (by repeat (first | (with_reducible first | exact HB.1 | apply zc | apply za | apply zb | refine zh ?_ zH.1) | exact HB.1)) hb); clear zG; clear HB; have zJ := n0_; have zG := n1_; have HB := n2_; clear n0_ n1_ n2_; (try clear hb); (try clear hb2); (try clear hk); (try clear hi); (try clear ho0); obtain ⟨Ao27, co27, eo27⟩ := Kd.R_slice zJ.1; subst eo27; have hcz28_0 : w26.cell? ⟨gb193, 0, none⟩ = some (.string a0_0) := (ze zG.1 0).trans rfl; have hcz28_1 : w26.cell? ⟨gb193, 1, none⟩ = some (.slice A0_1 l0_1.length c0_1) := (ze zG.1 1).trans rfl; have hcz28_2 : w26.cell? ⟨gb193, 2, none⟩ = some (.int .i64 a0_2) := (ze zG.1 2).trans rfl; have hfz28_0 := zd zG.1 0; have hfz28_1 := zd zG.1 1; have hfz28_2 := zd zG.1 2))
         go_ret
         exact ⟨by first | rfl | (simp [errW_none, errW_some] <;> rfl) | (simp [*, errW_none, errW_some] <;> rfl), by repeat (first | (with_reducible first | exact HB.1 | apply zc | apply za | apply zb | refine zh ?_ zH.1) | exact HB.1)⟩
        ·
         rw [if_neg c21] at H
         have c21b0 : (a0_2 == 0) = false := beq_eq_false_iff_ne.mpr c21
         have c21b1 : (a0_2 != 0) = true := bne_iff_ne.mpr c21
         obtain rfl := Option.some.inj H
         go_enter Try.func34, Try.ntmps34
         go_wp2_with (first | ((with_reducible refine zo (N := 1) rfl ?_); (try (refine zj (by rfl) ?_; dsimp only)); refine zk ?hg (N := 1) ?hd (cs := #[.string a0_0, .slice A0_1 l0_1.length c0_1, .int .i64 a0_2]) (t := 33) ?hr ?_; (case hd => rfl); (case hg => rfl); (case hr => first | (go_simp; done) | (go_simp; rfl)); intro gb193 hg w29 hbox hb; have n0_ := Aside0.mk (zf (by repeat (first | (with_reducible first | exact HB.1 | apply zc | apply za | apply zb) | exact HB.1)) hb); have n1_ := Aside0.mk (hbox); have n2_ := Aside0.mk ((by rw [hg]; exact (zg (by repeat (first | (with_reducible first | exact HB.1 | apply zc | apply za | apply zb) | exact HB.1))) : w.heap.size ≤ gb193)); have n3_ := Aside0.mk ((by rw [hg]; exact (zg (by repeat (first | (with_reducible first | exact HB.1 | apply zc | apply za | apply zb) | exact HB.1))) : w.heap.size ≤ gb193)); clear HB; have HB := n0_; have zG := n1_; have zL := n2_; have zH := n3_; clear n0_ n1_ n2_ n3_; clear hb hbox hg; have hcz30_0 : w29.cell? ⟨gb193, 0, none⟩ = some (.string a0_0) := (ze zG.1 0).trans rfl; have hcz30_1 : w29.cell? ⟨gb193, 1, none⟩ = some (.slice A0_1 l0_1.length c0_1) := (ze zG.1 1).trans rfl; have hcz30_2 : w29.cell? ⟨gb193, 2, none⟩ = some (.int .i64 a0_2) := (ze zG.1 2).trans rfl; have hfz30_0 := zd zG.1 0; have hfz30_1 := zd zG.1 1; have hfz30_2 := zd zG.1 2) | (go_at_call 70; (with_reducible refine (slices_ContainsFunc_impl_Msg_impl_Msg.calls k _ _ l0_1  false _ ?side1 ?side2 A5.1).mono ?_); (case side1 => repeat (first | exact (zw zK.1 HB.1) | (with_reducible refine zx ?_ _) | (with_reducible refine zv ?_ _) | (with_reducible refine zy ?_))); (case side2 => exact HC0_1.1); rintro e w31 ⟨rfl, hb⟩; have n0_ := Aside0.mk (zm (g := gb193) (o := .cells #[.string a0_0, .slice A0_1 l0_1.length c0_1, .int .i64 a0_2] 33 (0, 0)) (by (with_reducible repeat (first | refine zl ?_ _ | refine zp ?_ | refine zn ?_ _)); exact zG.1) hb); have n1_ := Aside0.mk (zf (by repeat (first | (with_reducible first | exact HB.1 | apply zc | apply za | apply zb | refine zh ?_ zH.1) | exact HB.1)) hb); clear zG; clear HB; have zG := n0_; have HB := n1_; clear n0_ n1_; (try clear hb); (try clear hb2); (try clear hk); (try clear hi); have hcz32_0 : w31.cell? ⟨gb193, 0, none⟩ = some (.string a0_0) := (ze zG.1 0).trans rfl; have hcz32_1 : w31.cell? ⟨gb193, 1, none⟩ = some (.slice A0_1 l0_1.length c0_1) := (ze zG.1 1).trans rfl; have hcz32_2 : w31.cell? ⟨gb193, 2, none⟩ = some (.int .i64 a0_2) := (ze zG.1 2).trans rfl; have hfz32_0 := zd zG.1 0; have hfz32_1 := zd zG.1 1; have hfz32_2 := zd zG.1 2) | (go_at_call 63; (with_reducible refine (impl_within.calls a0_2 0 4 true _ A10.1).mono ?_); rintro e w' ⟨rfl, ⟨nd, rfl⟩⟩) | ((with_reducible refine zi (f := 66) rfl ?_); refine zz (some 30) rfl rfl Try.func66 (by kernel_rfl) rfl #[.string a0_0] rfl (by (try simp only [List.map_toArray, List.map_cons, List.map_nil]); first | done | rfl | (simp only [List.length_drop, List.length_take]; rfl)) ?_; (with_reducible refine (impl_cutAll.calls k a0_0 t196 t197 t198 _ A17.1).mono ?_); rintro e w33 ⟨v199, rfl, ho0, hb⟩; refine ⟨_, rfl, ?_⟩; have n0_ := Aside0.mk (Kd.R_lower ho0 (zg (by repeat (first | (with_reducible first | exact HB.1 | apply zc | apply za | apply zb | refine zh ?_ zH.1) | exact HB.1)))); have n1_ := Aside0.mk (zm (g := gb193) (o := .cells #[.string a0_0, .slice A0_1 l0_1.length c0_1, .int .i64 a0_2] 33 (0, 0)) (by (with_reducible repeat (first | refine zl ?_ _ | refine zp ?_ | refine zn ?_ _)); exact zG.1) hb); have n2_ := Aside0.mk (zf (by repeat (first | (with_reducible first | exact HB.1 | apply zc | apply za | apply zb | refine zh ?_ zH.1) | exact HB.1)) hb); clear zG; clear HB; have zJ := n0_; have zG := n1_; have HB := n2_; clear n0_ n1_ n2_; (try clear hb); (try clear hb2); (try clear hk); (try clear hi); (try clear ho0); obtain ⟨Ao34, co34, eo34⟩ := Kd.R_slice zJ.1; subst eo34; have hcz35_0 : w33.cell? ⟨gb193, 0, none⟩ = some (.string a0_0) := (ze zG.1 0).trans rfl; have hcz35_1 : w33.cell? ⟨gb193, 1, none⟩ = some (.slice A0_1 l0_1.length c0_1) := (ze zG.1 1).trans rfl; have hcz35_2 : w33.cell? ⟨gb193, 2, none⟩ = some (.int .i64 a0_2) := (ze zG.1 2).trans rfl; have hfz35_0 := zd zG.1 0; have hfz35_1 := zd zG.1 1; have hfz35_2 := zd zG.1 2))
         go_ret
         exact ⟨by first | rfl | (simp [errW_none, errW_some] <;> rfl) | (simp [*, errW_none, errW_some] <;> rfl), by repeat (first | (with_reducible first | exact HB.1 | apply zc | apply za | apply zb | refine zh ?_ zH.1) | exact HB.1)⟩
       ·
        rw [if_neg c20] at H
        have c20b0 : (t198 == 0) = false := beq_eq_false_iff_ne.mpr c20
        have c20b1 : (t198 != 0) = true := bne_iff_ne.mpr c20
        obtain rfl := Option.some.inj H
        go_enter Try.func34, Try.ntmps34
        go_wp2_with (first | ((with_reducible refine zo (N := 1) rfl ?_); (try (refine zj (by rfl) ?_; dsimp only)); refine zk ?hg (N := 1) ?hd (cs := #[.string a0_0, .slice A0_1 l0_1.length c0_1, .int .i64 a0_2]) (t := 33) ?hr ?_; (case hd => rfl); (case hg => rfl); (case hr => first | (go_simp; done) | (go_simp; rfl)); intro gb193 hg w36 hbox hb; have n0_ := Aside0.mk (zf (by repeat (first | (with_reducible first | exact HB.1 | apply zc | apply za | apply zb) | exact HB.1)) hb); have n1_ := Aside0.mk (hbox); have n2_ := Aside0.mk ((by rw [hg]; exact (zg (by repeat (first | (with_reducible first | exact HB.1 | apply zc | apply za | apply zb) | exact HB.1))) : w.heap.size ≤ gb193)); have n3_ := Aside0.mk ((by rw [hg]; exact (zg (by repeat (first | (with_reducible first | exact HB.1 | apply zc | apply za | apply zb) | exact HB.1))) : w.heap.size ≤ gb193)); clear HB; have HB := n0_; have zG := n1_; have zL := n2_; have zH := n3_; clear n0_ n1_ n2_ n3_; clear hb hbox hg; have hcz37_0 : w36.cell? ⟨gb193, 0, none⟩ = some (.string a0_0) := (ze zG.1 0).trans rfl; have hcz37_1 : w36.cell? ⟨gb193, 1, none⟩ = some (.slice A0_1 l0_1.length c0_1) := (ze zG.1 1).trans rfl; have hcz37_2 : w36.cell? ⟨gb193, 2, none⟩ = some (.int .i64 a0_2) := (ze zG.1 2).trans rfl; have hfz37_0 := zd zG.1 0; have hfz37_1 := zd zG.1 1; have hfz37_2 := zd zG.1 2) | (go_at_call 70; (with_reducible refine (slices_ContainsFunc_impl_Msg_impl_Msg.calls k _ _ l0_1  false _ ?side1 ?side2 A5.1).mono ?_); (case side1 => repeat (first | exact (zw zK.1 HB.1) | (with_reducible refine zx ?_ _) | (with_reducible refine zv ?_ _) | (with_reducible refine zy ?_))); (case side2 => exact HC0_1.1); rintro e w38 ⟨rfl, hb⟩; have n0_ := Aside0.mk (zm (g := gb193) (o := .cells #[.string a0_0, .slice A0_1 l0_1.length c0_1, .int .i64 a0_2] 33 (0, 0)) (by (with_reducible repeat (first | refine zl ?_ _ | refine zp ?_ | refine zn ?_ _)); exact zG.1) hb); have n1_ := Aside0.mk (zf (by repeat (first | (with_reducible first | exact HB.1 | apply zc | apply za | apply zb | refine zh ?_ zH.1) | exact HB.1)) hb); clear zG; clear HB; have zG := n0_; have HB := n1_; clear n0_ n1_; (try clear hb); (try clear hb2); (try clear hk); (try clear hi); have hcz39_0 : w38.cell? ⟨gb193, 0, none⟩ = some (.string a0_0) := (ze zG.1 0).trans rfl; have hcz39_1 : w38.cell? ⟨gb193, 1, none⟩ = some (.slice A0_1 l0_1.length c0_1) := (ze zG.1 1).trans rfl; have hcz39_2 : w38.cell? ⟨gb193, 2, none⟩ = some (.int .i64 a0_2) := (ze zG.1 2).trans rfl; have hfz39_0 := zd zG.1 0; have hfz39_1 := zd zG.1 1; have hfz39_2 := zd zG.1 2) | (go_at_call 63; (with_reducible refine (impl_within.calls a0_2 0 4 true _ A10.1).mono ?_); rintro e w' ⟨rfl, ⟨nd, rfl⟩⟩) | ((with_reducible refine zi (f := 66) rfl ?_); refine zz (some 30) rfl rfl Try.func66 (by kernel_rfl) rfl #[.string a0_0] rfl (by (try simp only [List.map_toArray, List.map_cons, List.map_nil]); first | done | rfl | (simp only [List.length_drop, List.length_take]; rfl)) ?_; (with_reducible refine (impl_cutAll.calls k a0_0 t196 t197 t198 _ A17.1).mono ?_); rintro e w40 ⟨v199, rfl, ho0, hb⟩; refine ⟨_, rfl, ?_⟩; have n0_ := Aside0.mk (Kd.R_lower ho0 (zg (by repeat (first | (with_reducible first | exact HB.1 | apply zc | apply za | apply zb | refine zh ?_ zH.1) | exact HB.1)))); have n1_ := Aside0.mk (zm (g := gb193) (o := .cells #[.string a0_0, .slice A0_1 l0_1.length c0_1, .int .i64 a0_2] 33 (0, 0)) (by (with_reducible repeat (first | refine zl ?_ _ | refine zp ?_ | refine zn ?_ _)); exact zG.1) hb); have n2_ := Aside0.mk (zf (by repeat (first | (with_reducible first | exact HB.1 | apply zc | apply za | apply zb | refine zh ?_ zH.1) | exact HB.1)) hb); clear zG; clear HB; have zJ := n0_; have zG := n1_; have HB := n2_; clear n0_ n1_ n2_; (try clear hb); (try clear hb2); (try clear hk); (try clear hi); (try clear ho0); obtain ⟨Ao41, co41, eo41⟩ := Kd.R_slice zJ.1; subst eo41; have hcz42_0 : w40.cell? ⟨gb193, 0, none⟩ = some (.string a0_0) := (ze zG.1 0).trans rfl; have hcz42_1 : w40.cell? ⟨gb193, 1, none⟩ = some (.slice A0_1 l0_1.length c0_1) := (ze zG.1 1).trans rfl; have hcz42_2 : w40.cell? ⟨gb193, 2, none⟩ = some (.int .i64 a0_2) := (ze zG.1 2).trans rfl; have hfz42_0 := zd zG.1 0; have hfz42_1 := zd zG.1 1; have hfz42_2 := zd zG.1 2))
        go_ret
        exact ⟨by first | rfl | (simp [errW_none, errW_some] <;> rfl) | (simp [*, errW_none, errW_some] <;> rfl), by repeat (first | (with_reducible first | exact HB.1 | apply zc | apply za | apply zb | refine zh ?_ zH.1) | exact HB.1)⟩
      ·
       rw [if_neg c19] at H
       have c19b0 : (t197.toList == a0_0.toList) = false := beq_eq_false_iff_ne.mpr c19
       have c19b1 : (t197.toList != a0_0.toList) = true := bne_iff_ne.mpr c19
       obtain rfl := Option.some.inj H
       go_enter Try.func34, Try.ntmps34
       go_wp2_with (first | ((with_reducible refine zo (N := 1) rfl ?_); (try (refine zj (by rfl) ?_; dsimp only)); refine zk ?hg (N := 1) ?hd (cs := #[.string a0_0, .slice A0_1 l0_1.length c0_1, .int .i64 a0_2]) (t := 33) ?hr ?_; (case hd => rfl); (case hg => rfl); (case hr => first | (go_simp; done) | (go_simp; rfl)); intro gb193 hg w43 hbox hb; have n0_ := Aside0.mk (zf (by repeat (first | (with_reducible first | exact HB.1 | apply zc | apply za | apply zb) | exact HB.1)) hb); have n1_ := Aside0.mk (hbox); have n2_ := Aside0.mk ((by rw [hg]; exact (zg (by repeat (first | (with_reducible first | exact HB.1 | apply zc | apply za | apply zb) | exact HB.1))) : w.heap.size ≤ gb193)); have n3_ := Aside0.mk ((by rw [hg]; exact (zg (by repeat (first | (with_reducible first | exact HB.1 | apply zc | apply za | apply zb) | exact HB.1))) : w.heap.size ≤ gb193)); clear HB; have HB := n0_; have zG := n1_; have zL := n2_; have zH := n3_; clear n0_ n1_ n2_ n3_; clear hb hbox hg; have hcz44_0 : w43.cell? ⟨gb193, 0, none⟩ = some (.string a0_0) := (ze zG.1 0).trans rfl; have hcz44_1 : w43.cell? ⟨gb193, 1, none⟩ = some (.slice A0_1 l0_1.length c0_1) := (ze zG.1 1).trans rfl; have hcz44_2 : w43.cell? ⟨gb193, 2, none⟩ = some (.int .i64 a0_2) := (ze zG.1 2).trans rfl; have hfz44_0 := zd zG.1 0; have hfz44_1 := zd zG.1 1; have hfz44_2 := zd zG.1 2) | (go_at_call 70; (with_reducible refine (slices_ContainsFunc_impl_Msg_impl_Msg.calls k _ _ l0_1  false _ ?side1 ?side2 A5.1).mono ?_); (case side1 => repeat (first | exact (zw zK.1 HB.1) | (with_reducible refine zx ?_ _) | (with_reducible refine zv ?_ _) | (with_reducible refine zy ?_))); (case side2 => exact HC0_1.1); rintro e w45 ⟨rfl, hb⟩; have n0_ := Aside0.mk (zm (g := gb193) (o := .cells #[.string a0_0, .slice A0_1 l0_1.length c0_1, .int .i64 a0_2] 33 (0, 0)) (by (with_reducible repeat (first | refine zl ?_ _ | refine zp ?_ | refine zn ?_ _)); exact zG.1) hb); have n1_ := Aside0.mk (zf (by repeat (first | (with_reducible first | exact HB.1 | apply zc | apply za | apply zb | refine zh ?_ zH.1) | exact HB.1)) hb); clear zG; clear HB; have zG := n0_; have HB := n1_; clear n0_ n1_; (try clear hb); (try clear hb2); (try clear hk); (try clear hi); have hcz46_0 : w45.cell? ⟨gb193, 0, none⟩ = some (.string a0_0) := (ze zG.1 0).trans rfl; have hcz46_1 : w45.cell? ⟨gb193, 1, none⟩ = some (.slice A0_1 l0_1.length c0_1) := (ze zG.1 1).trans rfl; have hcz46_2 : w45.cell? ⟨gb193, 2, none⟩ = some (.int .i64 a0_2) := (ze zG.1 2).trans rfl; have hfz46_0 := zd zG.1 0; have hfz46_1 := zd zG.1 1; have hfz46_2 := zd zG.1 2) | (go_at_call 63; (with_reducible refine (impl_within.calls a0_2 0 4 true _ A10.1).mono ?_); rintro e w' ⟨rfl, ⟨nd, rfl⟩⟩) | ((with_reducible refine zi (f := 66) rfl ?_); refine zz (some 30) rfl rfl Try.func66 (by kernel_rfl) rfl #[.string a0_0] rfl (by (try simp only [List.map_toArray, List.map_cons, List.map_nil]); first | done | rfl | (simp only [List.length_drop, List.length_take]; rfl)) ?_; (with_reducible refine (impl_cutAll.calls k a0_0 t196 t197 t198 _ A17.1).mono ?_); rintro e w47 ⟨v199, rfl, ho0, hb⟩; refine ⟨_, rfl, ?_⟩; have n0_ := Aside0.mk (Kd.R_lower ho0 (zg (by repeat (first | (with_reducible first | exact HB.1 | apply zc | apply za | apply zb | refine zh ?_ zH.1) | exact HB.1)))); have n1_ := Aside0.mk (zm (g := gb193) (o := .cells #[.string a0_0, .slice A0_1 l0_1.length c0_1, .int .i64 a0_2] 33 (0, 0)) (by (with_reducible repeat (first | refine zl ?_ _ | refine zp ?_ | refine zn ?_ _)); exact zG.1) hb); have n2_ := Aside0.mk (zf (by repeat (first | (with_reducible first | exact HB.1 | apply zc | apply za | apply zb | refine zh ?_ zH.1) | exact HB.1)) hb); clear zG; clear HB; have zJ := n0_; have zG := n1_; have HB := n2_; clear n0_ n1_ n2_; (try clear hb); (try clear hb2); (try clear hk); (try clear hi); (try clear ho0); obtain ⟨Ao48, co48, eo48⟩ := Kd.R_slice zJ.1; subst eo48; have hcz49_0 : w47.cell? ⟨gb193, 0, none⟩ = some (.string a0_0) := (ze zG.1 0).trans rfl; have hcz49_1 : w47.cell? ⟨gb193, 1, none⟩ = some (.slice A0_1 l0_1.length c0_1) := (ze zG.1 1).trans rfl; have hcz49_2 : w47.cell? ⟨gb193, 2, none⟩ = some (.int .i64 a0_2) := (ze zG.1 2).trans rfl; have hfz49_0 := zd zG.1 0; have hfz49_1 := zd zG.1 1; have hfz49_2 := zd zG.1 2))
       go_ret
       exact ⟨by first | rfl | (simp [errW_none, errW_some] <;> rfl) | (simp [*, errW_none, errW_some] <;> rfl), by repeat (first | (with_reducible first | exact HB.1 | apply zc | apply za | apply zb | refine zh ?_ zH.1) | exact HB.1)⟩
     ·
      rw [if_neg c18] at H
      have c18b0 : ((t196.length : Int) == 0) = false := beq_eq_false_iff_ne.mpr c18
      have c18b1 : ((t196.length : Int) != 0) = true := bne_iff_ne.mpr c18
      have c18b2 : ¬ (t196 = []) := fun h_ => c18 (by rw [h_]; rfl)
      obtain rfl := Option.some.inj H
      go_enter Try.func34, Try.ntmps34
      go_wp2_with (first | ((with_reducible refine zo (N := 1) rfl ?_); (try (refine zj (by rfl) ?_; dsimp only)); refine zk ?hg (N := 1) ?hd (cs := #[.string a0_0, .slice A0_1 l0_1.length c0_1, .int .i64 a0_2]) (t := 33) ?hr ?_; (case hd => rfl); (case hg => rfl); (case hr => first | (go_simp; done) | (go_simp; rfl)); intro gb193 hg w50 hbox hb; have n0_ := Aside0.mk (zf (by repeat (first | (with_reducible first | exact HB.1 | apply zc | apply za | apply zb) | exact HB.1)) hb); have n1_ := Aside0.mk (hbox); have n2_ := Aside0.mk ((by rw [hg]; exact (zg (by repeat (first | (with_reducible first | exact HB.1 | apply zc | apply za | apply zb) | exact HB.1))) : w.heap.size ≤ gb193)); have n3_ := Aside0.mk ((by rw [hg]; exact (zg (by repeat (first | (with_reducible first | exact HB.1 | apply zc | apply za | apply zb) | exact HB.1))) : w.heap.size ≤ gb193)); clear HB; have HB := n0_; have zG := n1_; have zL := n2_; have zH := n3_; clear n0_ n1_ n2_ n3_; clear hb hbox hg; have hcz51_0 : w50.cell? ⟨gb193, 0, none⟩ = some (.string a0_0) := (ze zG.1 0).trans rfl; have hcz51_1 : w50.cell? ⟨gb193, 1, none⟩ = some (.slice A0_1 l0_1.length c0_1) := (ze zG.1 1).trans rfl; have hcz51_2 : w50.cell? ⟨gb193, 2, none⟩ = some (.int .i64 a0_2) := (ze zG.1 2).trans rfl; have hfz51_0 := zd zG.1 0; have hfz51_1 := zd zG.1 1; have hfz51_2 := zd zG.1 2) | (go_at_call 70; (with_reducible refine (slices_ContainsFunc_impl_Msg_impl_Msg.calls k _ _ l0_1  false _ ?side1 ?side2 A5.1).mono ?_); (case side1 => repeat (first | exact (zw zK.1 HB.1) | (with_reducible refine zx ?_ _) | (with_reducible refine zv ?_ _) | (with_reducible refine zy ?_))); (case side2 => exact HC0_1.1); rintro e w52 ⟨rfl, hb⟩; have n0_ := Aside0.mk (zm (g := gb193) (o := .cells #[.string a0_0, .slice A0_1 l0_1.length c0_1, .int .i64 a0_2] 33 (0, 0)) (by (with_reducible repeat (first | refine zl ?_ _ | refine zp ?_ | refine zn ?_ _)); exact zG.1) hb); have n1_ := Aside0.mk (zf (by repeat (first | (with_reducible first | exact HB.1 | apply zc | apply za | apply zb | refine zh ?_ zH.1) | exact HB.1)) hb); clear zG; clear HB; have zG := n0_; have HB := n1_; clear n0_ n1_; (try clear hb); (try clear hb2); (try clear hk); (try clear hi); have hcz53_0 : w52.cell? ⟨gb193, 0, none⟩ = some (.string a0_0) := (ze zG.1 0).trans rfl; have hcz53_1 : w52.cell? ⟨gb193, 1, none⟩ = some (.slice A0_1 l0_1.length c0_1) := (ze zG.1 1).trans rfl; have hcz53_2 : w52.cell? ⟨gb193, 2, none⟩ = some (.int .i64 a0_2) := (ze zG.1 2).trans rfl; have hfz53_0 := zd zG.1 0; have hfz53_1 := zd zG.1 1; have hfz53_2 := zd zG.1 2) | (go_at_call 63; (with_reducible refine (impl_within.calls a0_2 0 4 true _ A10.1).mono ?_); rintro e w' ⟨rfl, ⟨nd, rfl⟩⟩) | ((with_reducible refine zi (f := 66) rfl ?_); refine zz (some 30) rfl rfl Try.func66 (by kernel_rfl) rfl #[.string a0_0] rfl (by (try simp only [List.map_toArray, List.map_cons, List.map_nil]); first | done | rfl | (simp only [List.length_drop, List.length_take]; rfl)) ?_; (with_reducible refine (impl_cutAll.calls k a0_0 t196 t197 t198 _ A17.1).mono ?_); rintro e w54 ⟨v199, rfl, ho0, hb⟩; refine ⟨_, rfl, ?_⟩; have n0_ := Aside0.mk (Kd.R_lower ho0 (zg (by repeat (first | (with_reducible first | exact HB.1 | apply zc | apply za | apply zb | refine zh ?_ zH.1) | exact HB.1)))); have n1_ := Aside0.mk (zm (g := gb193) (o := .cells #[.string a0_0, .slice A0_1 l0_1.length c0_1, .int .i64 a0_2] 33 (0, 0)) (by (with_reducible repeat (first | refine zl ?_ _ | refine zp ?_ | refine zn ?_ _)); exact zG.1) hb); have n2_ := Aside0.mk (zf (by repeat (first | (with_reducible first | exact HB.1 | apply zc | apply za | apply zb | refine zh ?_ zH.1) | exact HB.1)) hb); clear zG; clear HB; have zJ := n0_; have zG := n1_; have HB := n2_; clear n0_ n1_ n2_; (try clear hb); (try clear hb2); (try clear hk); (try clear hi); (try clear ho0); obtain ⟨Ao55, co55, eo55⟩ := Kd.R_slice zJ.1; subst eo55))
      go_ret
      exact ⟨by first | rfl | (simp [errW_none, errW_some] <;> rfl) | (simp [*, errW_none, errW_some] <;> rfl), by repeat (first | (with_reducible first | exact HB.1 | apply zc | apply za | apply zb | refine zh ?_ zH.1) | exact HB.1)⟩
   ·
    replace c11 := Bool.eq_false_iff.mpr c11
    subst c11
    have H1 : (some false) = some r := by rw [if_neg (show ¬ (false = true) by decide)] at H; exact H
    clear H
    have H := H1
    clear H1
    obtain rfl := Option.some.inj H
    go_enter Try.func34, Try.ntmps34
    go_wp2_with (first | ((with_reducible refine zo (N := 1) rfl ?_); (try (refine zj (by rfl) ?_; dsimp only)); refine zk ?hg (N := 1) ?hd (cs := #[.string a0_0, .slice A0_1 l0_1.length c0_1, .int .i64 a0_2]) (t := 33) ?hr ?_; (case hd => rfl); (case hg => rfl); (case hr => first | (go_simp; done) | (go_simp; rfl)); intro gb193 hg w56 hbox hb; have n0_ := Aside0.mk (zf (by repeat (first | (with_reducible first | exact HB.1 | apply zc | apply za | apply zb) | exact HB.1)) hb); have n1_ := Aside0.mk (hbox); have n2_ := Aside0.mk ((by rw [hg]; exact (zg (by repeat (first | (with_reducible first | exact HB.1 | apply zc | apply za | apply zb) | exact HB.1))) : w.heap.size ≤ gb193)); have n3_ := Aside0.mk ((by rw [hg]; exact (zg (by repeat (first | (with_reducible first | exact HB.1 | apply zc | apply za | apply zb) | exact HB.1))) : w.heap.size ≤ gb193)); clear HB; have HB := n0_; have zG := n1_; have zL := n2_; have zH := n3_; clear n0_ n1_ n2_ n3_; clear hb hbox hg; have hcz57_0 : w56.cell? ⟨gb193, 0, none⟩ = some (.string a0_0) := (ze zG.1 0).trans rfl; have hcz57_1 : w56.cell? ⟨gb193, 1, none⟩ = some (.slice A0_1 l0_1.length c0_1) := (ze zG.1 1).trans rfl; have hcz57_2 : w56.cell? ⟨gb193, 2, none⟩ = some (.int .i64 a0_2) := (ze zG.1 2).trans rfl; have hfz57_0 := zd zG.1 0; have hfz57_1 := zd zG.1 1; have hfz57_2 := zd zG.1 2) | (go_at_call 70; (with_reducible refine (slices_ContainsFunc_impl_Msg_impl_Msg.calls k _ _ l0_1  false _ ?side1 ?side2 A5.1).mono ?_); (case side1 => repeat (first | exact (zw zK.1 HB.1) | (with_reducible refine zx ?_ _) | (with_reducible refine zv ?_ _) | (with_reducible refine zy ?_))); (case side2 => exact HC0_1.1); rintro e w58 ⟨rfl, hb⟩; have n0_ := Aside0.mk (zm (g := gb193) (o := .cells #[.string a0_0, .slice A0_1 l0_1.length c0_1, .int .i64 a0_2] 33 (0, 0)) (by (with_reducible repeat (first | refine zl ?_ _ | refine zp ?_ | refine zn ?_ _)); exact zG.1) hb); have n1_ := Aside0.mk (zf (by repeat (first | (with_reducible first | exact HB.1 | apply zc | apply za | apply zb | refine zh ?_ zH.1) | exact HB.1)) hb); clear zG; clear HB; have zG := n0_; have HB := n1_; clear n0_ n1_; (try clear hb); (try clear hb2); (try clear hk); (try clear hi); have hcz59_0 : w58.cell? ⟨gb193, 0, none⟩ = some (.string a0_0) := (ze zG.1 0).trans rfl; have hcz59_1 : w58.cell? ⟨gb193, 1, none⟩ = some (.slice A0_1 l0_1.length c0_1) := (ze zG.1 1).trans rfl; have hcz59_2 : w58.cell? ⟨gb193, 2, none⟩ = some (.int .i64 a0_2) := (ze zG.1 2).trans rfl; have hfz59_0 := zd zG.1 0; have hfz59_1 := zd zG.1 1; have hfz59_2 := zd zG.1 2) | (go_at_call 63; (with_reducible refine (impl_within.calls a0_2 0 4 false _ A10.1).mono ?_); rintro e w' ⟨rfl, ⟨nd, rfl⟩⟩))
    go_ret
    exact ⟨by first | rfl | (simp [errW_none, errW_some] <;> rfl) | (simp [*, errW_none, errW_some] <;> rfl), by repeat (first | (with_reducible first | exact HB.1 | apply zc | apply za | apply zb | refine zh ?_ zH.1) | exact HB.1)⟩

def slices_Clone_impl_Msg_impl_Msg.f (l0 : List (S26)) : Option (List (S26)) := if l0.length ≤ 5864062014805 then some l0 else none
set_option maxHeartbeats 8000000 in
set_option maxRecDepth 100000 in
theorem slices_Clone_impl_Msg_impl_Msg.calls (A0 : Option Addr) (c0 : Nat) (l0 : List (S26)) (r : List (S26)) (w : World) (hr0 : Kd.C k26 w A0 l0.length l0) (hc0 : l0.length ≤ c0) (h : slices_Clone_impl_Msg_impl_Msg.f l0 = some r) :
  Calls Try.prog 72 #[.slice A0 l0.length c0] w fun e w' => ∃ v0_ : Value, e = .returned (v0_) ∧ Kd.R k26 26 w' w.heap.size (fun _ => True) v0_ r ∧ Below w.heap.size w w' := by
 have huT := Try.underlying31
 unfold slices_Clone_impl_Msg_impl_Msg.f at h
 by_cases hlim : l0.length ≤ 5864062014805
 case neg => rw [if_neg hlim] at h; cases h
 rw [if_pos hlim] at h
 obtain rfl := Option.some.inj h
 have qT : ∀ (w : World) (a : Option Addr) (n c n' c' : Nat), (binOp .eql 31 (.slice a n c) (.slice none n' c')).run Try.prog w = .ok (.bool a.isNone) w := fun w a n c n' c' => Go.Lib.run_eql_slice_nil w _ _ a n c n' c' huT
 cases A0 with
 | none =>
  have hn : l0.length = 0 := by
   rcases Nat.eq_zero_or_pos l0.length with h0 | h0
   ·
    exact h0
   ·
    obtain ⟨ad, h, _⟩ := hr0.2.2 h0
    cases h
  go_enter Try.func72, Try.ntmps72
  go_wp2
  go_ret
  have : l0 = [] := List.eq_nil_of_length_eq_zero hn
  subst this
  exact ⟨_, rfl, Kd.R_nil _ _ _ _ _, Below.refl _ _⟩
 | some ad =>
  have A : zE (Kd.C k26 w (some ad) l0.length l0) := Aside0.mk hr0
  clear hr0
  go_enter Try.func72, Try.ntmps72
  go_wp2_with (at_builtin; refine Kd.R_append_rows k26 (w0 := w) w.heap.size (by rfl) (.tmp 5) (.tmp 6) 31 26 (.agg #[(.int .i64 0), (.string ⟨#[]⟩)]) 24 rfl Try.underlying31 info26 rfl (by decide) (by omega) _ [] l0 _ _ _ (fun _ => True) (fun _ => False) rfl rfl ?aO ?aR (fun _ _ h => h) (fun _ h => h.elim) ?aF ?aB ?aS ?aL ?_)
  case aR => exact zw A.1 ((Below.refl _ w).alloc (Nat.le_refl _) _)
  case aO => exact ⟨fun k _ => trivial, [], World.ownsRow_made w #[] 0 (Nat.le_refl _) (Nat.zero_le _) (by simp), Reps.none _ _⟩
  case aB => exact (Below.refl _ w).alloc (Nat.le_refl _) _
  case aL => omega
  intro v1 w1 hown hb hg hat
  go_wp2
  go_ret
  exact ⟨_, rfl, hown, hb⟩

end Go.Proofs.Ytkkchcalhomgcaa.PFnExactTakeMsg
