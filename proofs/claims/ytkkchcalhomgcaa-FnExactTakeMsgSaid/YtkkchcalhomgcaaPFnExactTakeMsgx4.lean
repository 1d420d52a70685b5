/- Written by this session's own program over the kit's print: Lean functions that tell what Go functions answer, each with a proof that the call does so. No condition but what each statement says. -/
import Derived.Test.YtkkchcalhomgcaaPFnExactTakeMsgx0
import Derived.Test.YtkkchcalhomgcaaPFnExactTakeMsgx2
import Derived.Test.YtkkchcalhomgcaaPFnExactTakeMsgx3
namespace Go.Proofs.Ytkkchcalhomgcaa.PFnExactTakeMsg
open Go.RowKit Go.Proofs.YtkkchcalhomgcaaW.PrintWords Go.Proofs.YtkkchcalhomgcaaW.PrintLast Go.Proofs.YtkkchcalhomgcaaW.PrintMore
open Go.Proofs.YtkkchcalhomgcaaW.PrintLast renaming goesL_ → zr, i64_w → zw, i32_w → zx, any_of → zy, pure_ → zz
open Go.Proofs.YtkkchcalhomgcaaW.PrintWords renaming pw_below_drewN → za, below_drew1 → zb, below_alloc → zc, blk_frozen → zd, blk_cell → ze, below_set → zf, blk_drewN → zg, blk_alloc → zh, blk_drew → zi, gate_callee → zj, below_size → zk, below_step → zl, blk_below → zm, Aside0 → zv
open Go.Proofs.YtkkchcalhomgcaaW.PrintWords.Kd renaming R_lower → zn, R_drewN → zo, R_drew → zp, R_alloc → zq
open Go.Proofs.YtkkchcalhomgcaaW.PrintWords.LeO renaming none → zs, bind → zt, ite → zu
attribute [local go_sem] max2_int min2_int max_two min_two max_three min_three max_four min_four   -- for this text's walks alone
set_option linter.unusedVariables false
set_option linter.unusedSimpArgs false

/-! ### spec_l5Cut: function 65 -/
def spec_l5Cut.l0 : Nat → ByteArray → List (S26) → Option ((List (S26)) × ByteArray × Int)
 | 0, _, _ => none
 | k + 1, x0, x5 => if x0.toList = ([] : List UInt8) then (some (x5, (⟨#[]⟩ : ByteArray), 0)) else ((spec_l5Fault.f k x0).bind fun t148 => (if t148 = 0 then (if (x0.size : Int) < 5 then (some (x5, x0, 0)) else (if 2 < (x0.size : Int) then (if (x0.size : Int) < (wrap64 (bt x0 2)) then (some (x5, x0, 0)) else (if 4 < (x0.size : Int) then (if 5 ≤ (wrap64 (bt x0 2)) then (if (wrap64 (bt x0 2)) ≤ (x0.size : Int) then (if x5.length < 5864062014805 then (if 0 ≤ (wrap64 (bt x0 2)) then (spec_l5Cut.l0 k (x0.extract ((wrap64 (bt x0 2)) : Int).toNat x0.size) (x5 ++ [(⟨wrap64 (bt x0 4), x0.extract 5 ((wrap64 (bt x0 2)) : Int).toNat⟩ : S26)])) else (none)) else (none)) else (none)) else (none)) else (none))) else (none))) else (some (x5, (⟨#[]⟩ : ByteArray), t148))))
def spec_l5Cut.f (k : Nat) (a0 : ByteArray) : Option ((List (S26)) × ByteArray × Int) := spec_l5Cut.l0 k a0 ([] : List (S26))
theorem spec_l5Cut.mono_l : ∀ k, (∀ y0 y1, LeO (spec_l5Cut.l0 k y0 y1) (spec_l5Cut.l0 (k + 1) y0 y1))
 | 0 => fun _ _ r h => by simp [spec_l5Cut.l0] at h
 | k + 1 => by
  have ih0 := spec_l5Cut.mono_l k
  ·
   intro y0 y1
   unfold spec_l5Cut.l0
   repeat' first
   | (with_reducible exact ih0 _ _)
   | (with_reducible exact spec_l5Fault.mono _ _)
   | (with_reducible exact LeO.refl _)
   | (with_reducible exact zs _)
   | (with_reducible refine zu ?_ ?_)
   | (with_reducible refine zt ?_ (fun _ => ?_))
   | exact ih0 _ _
   | exact spec_l5Fault.mono _ _
   | exact zs _
   | refine zu ?_ ?_
   | refine zt ?_ (fun _ => ?_)
theorem spec_l5Cut.mono : ∀ a0 k, LeO (spec_l5Cut.f k a0) (spec_l5Cut.f (k + 1) a0) := by
 intro a0 k
 have ih0 := spec_l5Cut.mono_l k
 unfold spec_l5Cut.f
 repeat' first
   | (with_reducible exact ih0 _ _)
   | (with_reducible exact spec_l5Fault.mono _ _)
   | (with_reducible exact LeO.refl _)
   | (with_reducible exact zs _)
   | (with_reducible refine zu ?_ ?_)
   | (with_reducible refine zt ?_ (fun _ => ?_))
   | exact ih0 _ _
   | exact spec_l5Fault.mono _ _
   | exact zs _
   | refine zu ?_ ?_
   | refine zt ?_ (fun _ => ?_)
def spec_l5Cut.T9 : Bool × List (List Nat × List Nat) := (true, [([], []), ([], []), ([1], [1]), ([2], [2]), ([], []), ([], []), ([4, 5], [4, 5]), ([3, 6], [3, 6]), ([7], [7]), ([0, 8], [0, 8]), ([9, 9, 0, 1, 2, 3, 4, 5, 6, 7, 8, 9], [0, 9])])
def spec_l5Cut.B9 : List Nat := [0, 0, 2, 6, 0, 0, 48, 126, 254, 511, 1023]
theorem spec_l5Cut.tab9 : rtab .any (opsOf Try.f65 9) = spec_l5Cut.T9 := by kernel_rfl
theorem spec_l5Cut.bits9 : waitsOk spec_l5Cut.T9.2 spec_l5Cut.B9 = true := by kernel_rfl
set_option maxHeartbeats 8000000 in
set_option maxRecDepth 100000 in
theorem spec_l5Cut.calls (k : Nat) (a0 : ByteArray) (r1 : List (S26)) (r2 : ByteArray) (r3 : Int) (w : World) (h : spec_l5Cut.f k a0 = some (r1, r2, r3)) :
  Calls Try.prog 65 #[.string a0] w fun e w' => ∃ v0_ : Value, e = .returned (.tuple #[v0_, .string r2, .int .i64 r3]) ∧ Kd.R k26 26 w' w.heap.size (fun _ => True) v0_ r1 ∧ Below w.heap.size w w' := by
 have hu26 := Try.underlying26
 have HB := Aside0.mk (Below.refl w.heap.size w)
 have H : (spec_l5Cut.l0 k a0 ([] : List (S26))) = some (r1, r2, r3) := h
 clear h
 have H' := Aside0.mk H
 clear H
 go_enter Try.func65, Try.ntmps65
 go_wp2
 go_loopg [0, 5] k (fun kq v0 v5 w' => ∃ (x0_1 : ByteArray) (x5_1 : List (S26)), v0 = .string x0_1 ∧ zv (spec_l5Cut.l0 kq x0_1 x5_1 = some (r1, r2, r3)) ∧ zv (kq ≤ k) ∧ zv (Kd.R k26 26 w' w.heap.size (fun _ => True) v5 x5_1) ∧ zv (Below w.heap.size w w'))
 case atStart => exact ⟨(a0), (([] : List (S26))), (by first | rfl | (simp; done) | (simp [*]; done)), H', ⟨Nat.le_refl _⟩, ⟨by first | exact Kd.R_nil _ _ _ _ _ | exact Kd.N_nil _ _ _ _ _ | exact Kd.V_nil _ _ _ _ _ | exact Kd.Q_nil _ _ _ _ _ | exact Kd.S_nil _ _ _ _ _⟩, ⟨by repeat (first | (with_reducible first | exact HB.1 | apply zc | apply za | apply zb) | exact HB.1)⟩⟩
 case round =>
  clear H'
  obtain ⟨x0_1, x5_1, rfl, HA, HK1, HO_5, HB⟩ := hrel
  cases gk with
  | zero => exact absurd HA.1 (by simp [spec_l5Cut.l0])
  | succ k1 =>
   have H := HA.1
   clear HA
   simp only [spec_l5Cut.l0] at H
   by_cases c2 : x0_1.toList = ([] : List UInt8)
   ·
    rw [if_pos c2] at H
    have c2b0 : (x0_1.toList == ([] : List UInt8)) = true := beq_iff_eq.mpr c2
    have c2b1 : (x0_1.toList != ([] : List UInt8)) = false := bne_eq_false_iff_eq.mpr c2
    clear c2
    simp only [Option.some.injEq, Prod.mk.injEq] at H
    obtain ⟨rfl, rfl, rfl⟩ := H
    go_wp2
    go_ret3
    exact ⟨_, by first | rfl | (simp [errW_none, errW_some] <;> rfl) | (simp [*, errW_none, errW_some] <;> rfl), by (with_reducible repeat (first | apply zq | apply zo | apply zp)); exact HO_5.1, by repeat (first | (with_reducible first | exact HB.1 | apply zc | apply za | apply zb) | exact HB.1)⟩
   ·
    rw [if_neg c2] at H
    have c2b0 : (x0_1.toList == ([] : List UInt8)) = false := beq_eq_false_iff_ne.mpr c2
    have c2b1 : (x0_1.toList != ([] : List UInt8)) = true := bne_iff_ne.mpr c2
    replace H := Option.bind_eq_some_iff.mp H
    obtain ⟨t148, A30, H⟩ := H
    replace H : (if t148 = 0 then (if (x0_1.size : Int) < 5 then (some (x5_1, x0_1, 0)) else (if 2 < (x0_1.size : Int) then (if (x0_1.size : Int) < (wrap64 (bt x0_1 2)) then (some (x5_1, x0_1, 0)) else (if 4 < (x0_1.size : Int) then (if 5 ≤ (wrap64 (bt x0_1 2)) then (if (wrap64 (bt x0_1 2)) ≤ (x0_1.size : Int) then (if x5_1.length < 5864062014805 then (if 0 ≤ (wrap64 (bt x0_1 2)) then (spec_l5Cut.l0 k1 (x0_1.extract ((wrap64 (bt x0_1 2)) : Int).toNat x0_1.size) (x5_1 ++ [(⟨wrap64 (bt x0_1 4), x0_1.extract 5 ((wrap64 (bt x0_1 2)) : Int).toNat⟩ : S26)])) else (none)) else (none)) else (none)) else (none)) else (none))) else (none))) else (some (x5_1, (⟨#[]⟩ : ByteArray), t148))) = some (r1, r2, r3) := H
    have A3 := Aside0.mk A30
    clear A30
    by_cases c4 : t148 = 0
    ·
     rw [if_pos c4] at H
     have c4b0 : (t148 == 0) = true := beq_iff_eq.mpr c4
     have c4b1 : (t148 != 0) = false := bne_eq_false_iff_eq.mpr c4
     clear c4
     by_cases c5 : (x0_1.size : Int) < 5
     ·
      rw [if_pos c5] at H
      have c5b0 : decide ((x0_1.size : Int) < 5) = true := decide_eq_true c5
      have c5b1 : decide (x0_1.size < 5) = true := decide_eq_true (by omega)
      clear c5
      simp only [Option.some.injEq, Prod.mk.injEq] at H
      obtain ⟨rfl, rfl, rfl⟩ := H
      go_wp2_with (first | ((with_reducible refine zj (f := 103) rfl ?_); refine zr (some 11) rfl rfl Try.func103 (by kernel_rfl) rfl #[.string x0_1] rfl (by (try simp only [List.map_toArray, List.map_cons, List.map_nil]); first | done | rfl | (simp only [List.length_drop, List.length_take]; rfl)) ?_; (with_reducible refine (spec_l5Fault.calls k1 x0_1 t148 _ A3.1).mono ?_); rintro e w' ⟨rfl, ⟨nd, rfl⟩⟩; refine ⟨_, rfl, ?_⟩))
      go_ret3
      exact ⟨_, by first | rfl | (simp [errW_none, errW_some] <;> rfl) | (simp [*, errW_none, errW_some] <;> rfl), by (with_reducible repeat (first | apply zq | apply zo | apply zp)); exact HO_5.1, by repeat (first | (with_reducible first | exact HB.1 | apply zc | apply za | apply zb) | exact HB.1)⟩
     ·
      rw [if_neg c5] at H
      have c5b0 : decide ((x0_1.size : Int) < 5) = false := decide_eq_false c5
      have c5b1 : decide (x0_1.size < 5) = false := decide_eq_false (by omega)
      clear c5
      by_cases c6 : 2 < (x0_1.size : Int)
      ·
       rw [if_pos c6] at H
       have c6b0 : decide (2 < (x0_1.size : Int)) = true := decide_eq_true c6
       have c6b1 : decide (2 < x0_1.size) = true := decide_eq_true (by omega)
       clear c6
       by_cases c8 : (x0_1.size : Int) < (wrap64 (bt x0_1 2))
       ·
        rw [if_pos c8] at H
        have c8b0 : decide ((x0_1.size : Int) < (wrap64 (bt x0_1 2))) = true := decide_eq_true c8
        clear c8
        simp only [Option.some.injEq, Prod.mk.injEq] at H
        obtain ⟨rfl, rfl, rfl⟩ := H
        go_wp2_with (first | ((with_reducible refine zj (f := 103) rfl ?_); refine zr (some 11) rfl rfl Try.func103 (by kernel_rfl) rfl #[.string x0_1] rfl (by (try simp only [List.map_toArray, List.map_cons, List.map_nil]); first | done | rfl | (simp only [List.length_drop, List.length_take]; rfl)) ?_; (with_reducible refine (spec_l5Fault.calls k1 x0_1 t148 _ A3.1).mono ?_); rintro e w' ⟨rfl, ⟨nd, rfl⟩⟩; refine ⟨_, rfl, ?_⟩; have p7 : 0 ≤ (2 : Int) := (by omega); have q7 : 2 < x0_1.size := (by have : (2 : Int) < (x0_1.size : Int) := of_decide_eq_true (by first | (with_reducible assumption) | assumption); omega); have hx7 : ∀ h : 2 < x0_1.size, ((x0_1[2]'h).toNat : Int) = bt x0_1 2 := bt_at x0_1 2; clear p7; have qi7 : (2 < (x0_1.size : Int)) = True := eq_true (of_decide_eq_true (by first | (with_reducible assumption) | assumption)); replace q7 := eq_true q7))
        go_ret3
        exact ⟨_, by first | rfl | (simp [errW_none, errW_some] <;> rfl) | (simp [*, errW_none, errW_some] <;> rfl), by (with_reducible repeat (first | apply zq | apply zo | apply zp)); exact HO_5.1, by repeat (first | (with_reducible first | exact HB.1 | apply zc | apply za | apply zb) | exact HB.1)⟩
       ·
        rw [if_neg c8] at H
        have c8b0 : decide ((x0_1.size : Int) < (wrap64 (bt x0_1 2))) = false := decide_eq_false c8
        clear c8
        by_cases c10 : 4 < (x0_1.size : Int)
        ·
         rw [if_pos c10] at H
         have c10b0 : decide (4 < (x0_1.size : Int)) = true := decide_eq_true c10
         have c10b1 : decide (4 < x0_1.size) = true := decide_eq_true (by omega)
         clear c10
         by_cases c12 : 5 ≤ (wrap64 (bt x0_1 2))
         ·
          rw [if_pos c12] at H
          have c12b0 := eq_true c12
          have c12b1 : decide (5 ≤ (wrap64 (bt x0_1 2))) = true := decide_eq_true c12
          clear c12
          by_cases c13 : (wrap64 (bt x0_1 2)) ≤ (x0_1.size : Int)
          ·
           rw [if_pos c13] at H
           have c13b0 := eq_true c13
           have c13b1 : decide ((wrap64 (bt x0_1 2)) ≤ (x0_1.size : Int)) = true := decide_eq_true c13
           clear c13
           by_cases c14 : x5_1.length < 5864062014805
           ·
            rw [if_pos c14] at H
            have LMc14 := Aside0.mk c14
            clear c14
            obtain ⟨y149, hy149⟩ : ∃ y_ : List (S26), y_ = (x5_1 ++ [(⟨wrap64 (bt x0_1 4), x0_1.extract 5 ((wrap64 (bt x0_1 2)) : Int).toNat⟩ : S26)]) := ⟨_, rfl⟩
            replace H : (if 0 ≤ (wrap64 (bt x0_1 2)) then (spec_l5Cut.l0 k1 (x0_1.extract ((wrap64 (bt x0_1 2)) : Int).toNat x0_1.size) y149) else (none)) = some (r1, r2, r3) := by first | (rw [hy149]; with_reducible exact H) | (have H2_ := (Option.bind_some _ _).symm.trans H; rw [hy149]; with_reducible exact H2_) | (have H2_ := (Option.bind_some _ _).symm.trans H; with_reducible exact H2_) | with_reducible exact H | (rw [hy149]; exact H) | exact H
            have Ny149 := Aside0.mk hy149
            clear hy149
            obtain ⟨ji15, hji15⟩ : ∃ j_ : Int, (wrap64 (bt x0_1 2)) = j_ := ⟨_, rfl⟩
            replace H : (if 0 ≤ (ji15) then (spec_l5Cut.l0 k1 (x0_1.extract ((ji15) : Int).toNat x0_1.size) y149) else (none)) = some (r1, r2, r3) := by first | (rw [hji15] at H; exact H) | (simp only [hji15] at H ⊢; exact H)
            (try rw [hji15] at c8b0)
            (try rw [hji15] at c12b0)
            (try rw [hji15] at c12b1)
            (try rw [hji15] at c13b0)
            (try rw [hji15] at c13b1)
            (try rw [hji15] at A3)
            (try rw [hji15] at Ny149)
            have hji15w : (IntKind.i64.wrap (bt x0_1 2)) = ji15 := (zw _).trans hji15
            by_cases c16 : 0 ≤ (ji15)
            ·
             rw [if_pos c16] at H
             have c16b0 := eq_true c16
             have c16b1 : decide (0 ≤ (ji15)) = true := decide_eq_true c16
             clear c16
             have c17b0 := eq_true (of_decide_eq_true (by first | (with_reducible assumption) | assumption) : (ji15) ≤ (x0_1.size : Int))
             have H' := Aside0.mk H
             clear H
             try go_wp2_with (first | ((with_reducible refine zj (f := 103) rfl ?_); refine zr (some 11) rfl rfl Try.func103 (by kernel_rfl) rfl #[.string x0_1] rfl (by (try simp only [List.map_toArray, List.map_cons, List.map_nil]); first | done | rfl | (simp only [List.length_drop, List.length_take]; rfl)) ?_; (with_reducible refine (spec_l5Fault.calls k1 x0_1 t148 _ A3.1).mono ?_); rintro e w' ⟨rfl, ⟨nd, rfl⟩⟩; refine ⟨_, rfl, ?_⟩; have p7 : 0 ≤ (2 : Int) := (by omega); have q7 : 2 < x0_1.size := (by have : (2 : Int) < (x0_1.size : Int) := of_decide_eq_true (by first | (with_reducible assumption) | assumption); omega); have hx7 : ∀ h : 2 < x0_1.size, ((x0_1[2]'h).toNat : Int) = bt x0_1 2 := bt_at x0_1 2; clear p7; have qi7 : (2 < (x0_1.size : Int)) = True := eq_true (of_decide_eq_true (by first | (with_reducible assumption) | assumption)); replace q7 := eq_true q7; have p9 : 0 ≤ (2 : Int) := (by omega); have q9 : 2 < x0_1.size := (by have : (2 : Int) < (x0_1.size : Int) := of_decide_eq_true (by first | (with_reducible assumption) | assumption); omega); have hx9 : ∀ h : 2 < x0_1.size, ((x0_1[2]'h).toNat : Int) = bt x0_1 2 := bt_at x0_1 2; clear p9; have qi9 : (2 < (x0_1.size : Int)) = True := eq_true (of_decide_eq_true (by first | (with_reducible assumption) | assumption)); replace q9 := eq_true q9))
             (try (rw [drewN_self wr]; generalize hq_ : World.drewN wr _ = wr; have n0_ : zv (Kd.R k26 26 wr w.heap.size (fun _ => True) u5 x5_1) := ⟨by rw [← hq_]; exact (by (with_reducible repeat (first | apply zq | apply zo | apply zp)); exact HO_5.1)⟩; have n1_ : zv (Below w.heap.size w wr) := ⟨by rw [← hq_]; exact (by repeat (first | (with_reducible first | exact HB.1 | apply zc | apply za | apply zb) | exact HB.1))⟩; clear HO_5 HB hq_; have HO_5 := n0_; have HB := n1_; clear n0_ n1_))
             have n0_ := Aside0.mk (zp HO_5.1)
             have n1_ := Aside0.mk (zb HB.1)
             clear HO_5
             clear HB
             have HO_5 := n0_
             have HB := n1_
             clear n0_ n1_
             have p11 : 0 ≤ (4 : Int) := (by omega)
             have q11 : 4 < x0_1.size := (by have : (4 : Int) < (x0_1.size : Int) := of_decide_eq_true (by first | (with_reducible assumption) | assumption); omega)
             have hx11 : ∀ h : 4 < x0_1.size, ((x0_1[4]'h).toNat : Int) = bt x0_1 4 := bt_at x0_1 4
             clear p11
             have qi11 : (4 < (x0_1.size : Int)) = True := eq_true (of_decide_eq_true (by first | (with_reducible assumption) | assumption))
             replace q11 := eq_true q11
             refine start_ (n := 11) (S := fun w' => True) (ds := []) #[false, false, false, false, false, false, false, false, false, false, false] (by kernel_rfl) rfl rfl trivial (fun hHeld => ?_); refine with_tabW spec_l5Cut.tab9 spec_l5Cut.bits9 (fun HT_ HW_ => ?_)
             generalize wr.drew = w18 at HO_5 HB hHeld ⊢
             refine zz (i := 0) (N := some 32) (v := ?_) (a' := ?_) #[true, false, false, false, false, false, false, false, false, false, false] rfl rfl (zy HT_.1 (by kernel_rfl)) (fun _ _ _ h => h) (Or.inl ⟨by rfl, ?_⟩) ?_ ?_
             rotate_left
             ·
              intro w'
              go_simp
              with_reducible rfl
             rotate_left
             ·
              simp only [Act.put, List.setIfInBounds_toArray, List.set_cons_zero, List.set_cons_succ, zw, zx]
              rfl
             refine zz (i := 1) (N := some 33) (v := ?_) (a' := ?_) #[true, true, false, false, false, false, false, false, false, false, false] rfl rfl (zy HT_.1 (by kernel_rfl)) (fun _ _ _ h => h) (Or.inl ⟨by rfl, ?_⟩) ?_ ?_
             rotate_left
             ·
              intro w'
              go_simp
              with_reducible rfl
             rotate_left
             ·
              simp only [Act.put, List.setIfInBounds_toArray, List.set_cons_zero, List.set_cons_succ, zw, zx]
              rfl
             refine zz (i := 4) (N := some 36) (v := ?_) (a' := ?_) #[true, true, false, false, true, false, false, false, false, false, false] rfl rfl (zy HT_.1 (by kernel_rfl)) (fun _ _ _ h => h) (Or.inl ⟨by rfl, ?_⟩) ?_ ?_
             rotate_left
             ·
              intro w'
              go_simp
              with_reducible rfl
             rotate_left
             ·
              simp only [Act.put, List.setIfInBounds_toArray, List.set_cons_zero, List.set_cons_succ, zw, zx]
              rfl
             refine zz (i := 5) (N := some 37) (v := ?_) (a' := ?_) #[true, true, false, false, true, true, false, false, false, false, false] rfl rfl (zy HT_.1 (by kernel_rfl)) (fun _ _ _ h => h) (Or.inl ⟨by rfl, ?_⟩) ?_ ?_
             rotate_left
             ·
              intro w'
              go_simp
              with_reducible rfl
             rotate_left
             ·
              simp only [Act.put, List.setIfInBounds_toArray, List.set_cons_zero, List.set_cons_succ, zw, zx]
              rfl
             refine zz (i := 6) (N := some 38) (v := ?_) (a' := ?_) #[true, true, false, false, true, true, true, false, false, false, false] rfl rfl (zy HT_.1 (by kernel_rfl)) (fun _ _ _ h => h) (Or.inl ⟨by rfl, ?_⟩) ?_ ?_
             rotate_left
             ·
              intro w'
              go_simp
              with_reducible rfl
             rotate_left
             ·
              simp only [Act.put, List.setIfInBounds_toArray, List.set_cons_zero, List.set_cons_succ, zw, zx]
              rfl
             refine take_ (i := 2) (N := some 34) (v := ?_) (a' := ?_) #[true, true, true, false, true, true, true, false, false, false, false] rfl rfl (take_ofW HT_.1 HW_.1 (by kernel_rfl)) (fun _ _ _ h => h) (Or.inl ⟨by rfl, ?_⟩) hHeld ?_ ?_
             rotate_left
             ·
              intro w' _
              go_simp
              with_reducible rfl
             rotate_left
             ·
              simp only [Act.put, List.setIfInBounds_toArray, List.set_cons_zero, List.set_cons_succ, zw, zx]
              rfl
             refine zz (i := 3) (N := some 35) (v := ?_) (a' := ?_) #[true, true, true, true, true, true, true, false, false, false, false] rfl rfl (zy HT_.1 (by kernel_rfl)) (fun _ _ _ h => h) (Or.inl ⟨by rfl, ?_⟩) ?_ ?_
             rotate_left
             ·
              intro w'
              go_simp
              with_reducible rfl
             rotate_left
             ·
              simp only [Act.put, List.setIfInBounds_toArray, List.set_cons_zero, List.set_cons_succ, zw, zx]
              rfl
             refine zz (i := 7) (N := some 39) (v := ?_) (a' := ?_) #[true, true, true, true, true, true, true, true, false, false, false] rfl rfl (zy HT_.1 (by kernel_rfl)) (fun _ _ _ h => h) (Or.inl ⟨by rfl, ?_⟩) ?_ ?_
             rotate_left
             ·
              intro w'
              go_simp
              with_reducible rfl
             rotate_left
             ·
              simp only [Act.put, List.setIfInBounds_toArray, List.set_cons_zero, List.set_cons_succ, zw, zx]
              rfl
             refine one_ (i := 8) (N := some 40) #[true, true, true, true, true, true, true, true, true, false, false] rfl rfl (one_of HT_.1 (by kernel_rfl)) (by decide) (fun K hK => ?_)
             refine value_ (w1 := ?_) (v := ?_) (by rfl) rfl ?_ ?_
             rotate_left 2
             ·
              go_simp
              constructor
              ·
               rfl
              ·
               rfl
             refine hK.out _ _ trivial (fun hHeld => ?_)
             clear hK K
             refine norm_ (a' := ?_) ?_ ?_
             rotate_left
             ·
              show Act.put _ (some 40) _ = _
              simp only [Act.put, List.setIfInBounds_toArray, List.set_cons_zero, List.set_cons_succ, zw, zx]
              rfl
             refine one_ (i := 9) (N := some 41) #[true, true, true, true, true, true, true, true, true, true, false] rfl rfl (one_of HT_.1 (by kernel_rfl)) (by decide) (fun K hK => ?_)
             refine Kd.R_append_step k26 (w0 := w) w.heap.size (by rfl) (.tmp 32) (.tmp 40) 31 26 (.agg #[(.int .i64 0), (.string ⟨#[]⟩)]) 24 rfl Try.underlying31 info26 rfl (by decide) (by omega) u5 x5_1 (⟨wrap64 (bt x0_1 4), x0_1.extract 5 ((ji15) : Int).toNat⟩ : S26) [.int .i64 (wrap64 (bt x0_1 4)), .string (x0_1.extract 5 ((ji15) : Int).toNat)] (fun _ => True) (fun _ => False) rfl rfl ?aP (fun _ hk => hk.elim) ?aF ?aO ?aB ?aS ?aL ?_
             (case aP => exact k26_mkM _ _ _ (⟨wrap64 (bt x0_1 4), x0_1.extract 5 ((ji15) : Int).toNat⟩ : S26))
             (case aB => exact (by repeat (first | (with_reducible first | exact HB.1 | apply zc | apply za | apply zb) | exact HB.1)))
             (case aF => exact (fun _ _ => trivial))
             (case aO => exact (by (with_reducible repeat (first | apply zq | apply zo | apply zp)); exact HO_5.1))
             (case aS => exact (zk (by repeat (first | (with_reducible first | exact HB.1 | apply zc | apply za | apply zb) | exact HB.1))))
             (case aL => have := LMc14.1; omega)
             intro v150 w19 ho hb hg hat
             rw [← Ny149.1] at ho
             have n0_ := Aside0.mk (hb)
             have n1_ := Aside0.mk (ho)
             clear HB
             clear HO_5
             have HB := n0_
             have HO151 := n1_
             clear n0_ n1_
             clear ho hb hg hat
             refine hK.out _ _ trivial (fun hHeld => ?_)
             clear hK K
             refine norm_ (a' := ?_) ?_ ?_
             rotate_left
             ·
              show Act.put _ (some 41) _ = _
              simp only [Act.put, List.setIfInBounds_toArray, List.set_cons_zero, List.set_cons_succ, zw, zx]
              rfl
             refine zz (i := 10) (N := some 5) (v := ?_) (a' := ?_) #[true, true, true, true, true, true, true, true, true, true, true] rfl rfl (zy HT_.1 (by kernel_rfl)) (fun _ _ _ h => h) (Or.inl ⟨by rfl, ?_⟩) ?_ ?_
             rotate_left
             ·
              intro w'
              go_simp
              with_reducible rfl
             rotate_left
             ·
              simp only [Act.put, List.setIfInBounds_toArray, List.set_cons_zero, List.set_cons_succ, zw, zx]
              rfl
             refine done_ (done_of HT_.1 (by kernel_rfl)) ?_
             try go_wp2
             go_roundg k1
             case measure => have := HK1.1; omega
             case rel => exact ⟨(x0_1.extract ((ji15) : Int).toNat x0_1.size), (y149), (by first | rfl | (simp; done) | (simp only [← hji15] <;> (first | rfl | simp)) | (simp [*]; done)), H', ⟨by have := HK1.1; omega⟩, ⟨by (with_reducible repeat (first | apply zq | apply zo | apply zp)); exact HO151.1⟩, ⟨by repeat (first | (with_reducible first | exact HB.1 | apply zc | apply za | apply zb) | exact HB.1)⟩⟩
            ·
             rw [if_neg c16] at H
             exact absurd H (by simp)
           ·
            rw [if_neg c14] at H
            exact absurd H (by simp)
          ·
           rw [if_neg c13] at H
           exact absurd H (by simp)
         ·
          rw [if_neg c12] at H
          exact absurd H (by simp)
        ·
         rw [if_neg c10] at H
         exact absurd H (by simp)
      ·
       rw [if_neg c6] at H
       exact absurd H (by simp)
    ·
     rw [if_neg c4] at H
     have c4b0 : (t148 == 0) = false := beq_eq_false_iff_ne.mpr c4
     have c4b1 : (t148 != 0) = true := bne_iff_ne.mpr c4
     simp only [Option.some.injEq, Prod.mk.injEq] at H
     obtain ⟨rfl, rfl, rfl⟩ := H
     go_wp2_with (first | ((with_reducible refine zj (f := 103) rfl ?_); refine zr (some 11) rfl rfl Try.func103 (by kernel_rfl) rfl #[.string x0_1] rfl (by (try simp only [List.map_toArray, List.map_cons, List.map_nil]); first | done | rfl | (simp only [List.length_drop, List.length_take]; rfl)) ?_; (with_reducible refine (spec_l5Fault.calls k1 x0_1 t148 _ A3.1).mono ?_); rintro e w' ⟨rfl, ⟨nd, rfl⟩⟩; refine ⟨_, rfl, ?_⟩))
     go_ret3
     exact ⟨_, by first | rfl | (simp [errW_none, errW_some] <;> rfl) | (simp [*, errW_none, errW_some] <;> rfl), by (with_reducible repeat (first | apply zq | apply zo | apply zp)); exact HO_5.1, by repeat (first | (with_reducible first | exact HB.1 | apply zc | apply za | apply zb) | exact HB.1)⟩

/-! ### spec_GoodReader: function 32 -/
def spec_GoodReader.l0 : Nat → List (S26) → Int → Int → ByteArray → List (S26) → Int → Option (Bool)
 | 0, _, _, _, _, _, _ => none
 | k + 1, x9, x10, x11, x153000, x153001, x153002 => if x11 < x10 then (if 0 ≤ x11 then (if x11 < (x9.length : Int) then ((spec_GoodMsg.f ((rd_T26 x9 x11).f0) ((rd_T26 x9 x11).f1)).bind fun t155 => (if t155 = true then (spec_GoodReader.l0 k x9 x10 (wrap64 (x11 + 1)) x153000 x153001 x153002) else (some false))) else (none)) else (none)) else ((spec_l5Cut.f k x153000).bind fun bt156 => (if (x153001.length : Int) ≤ 40 then (if (bt156.1.length : Int) = 0 then (if bt156.2.1.toList = x153000.toList then (if bt156.2.2 = 0 then ((spec_l1In.f x153002 0 4).bind fun t161 => (if t161 = true then (if x153002 = 0 then (some true) else (some (x153000.toList == ([] : List UInt8)))) else (some false))) else (some false)) else (some false)) else (some false)) else (some false)))
def spec_GoodReader.f (k : Nat) (a0_0 : ByteArray) (l0_1 : List (S26)) (a0_2 : Int) : Option (Bool) := spec_GoodReader.l0 k l0_1 (l0_1.length : Int) 0 a0_0 l0_1 a0_2
theorem spec_GoodReader.mono_l : ∀ k, (∀ y0 y1 y2 y3 y4 y5, LeO (spec_GoodReader.l0 k y0 y1 y2 y3 y4 y5) (spec_GoodReader.l0 (k + 1) y0 y1 y2 y3 y4 y5))
 | 0 => fun _ _ _ _ _ _ r h => by simp [spec_GoodReader.l0] at h
 | k + 1 => by
  have ih0 := spec_GoodReader.mono_l k
  ·
   intro y0 y1 y2 y3 y4 y5
   unfold spec_GoodReader.l0
   repeat' first
   | (with_reducible exact ih0 _ _ _ _ _ _)
   | (with_reducible exact spec_l5Cut.mono _ _)
   | (with_reducible exact LeO.refl _)
   | (with_reducible exact zs _)
   | (with_reducible refine zu ?_ ?_)
   | (with_reducible refine zt ?_ (fun _ => ?_))
   | exact ih0 _ _ _ _ _ _
   | exact spec_l5Cut.mono _ _
   | exact zs _
   | refine zu ?_ ?_
   | refine zt ?_ (fun _ => ?_)
theorem spec_GoodReader.mono : ∀ a0 a1 a2 k, LeO (spec_GoodReader.f k a0 a1 a2) (spec_GoodReader.f (k + 1) a0 a1 a2) := by
 intro a0 a1 a2 k
 have ih0 := spec_GoodReader.mono_l k
 unfold spec_GoodReader.f
 repeat' first
   | (with_reducible exact ih0 _ _ _ _ _ _)
   | (with_reducible exact spec_l5Cut.mono _ _)
   | (with_reducible exact LeO.refl _)
   | (with_reducible exact zs _)
   | (with_reducible refine zu ?_ ?_)
   | (with_reducible refine zt ?_ (fun _ => ?_))
   | exact ih0 _ _ _ _ _ _
   | exact spec_l5Cut.mono _ _
   | exact zs _
   | refine zu ?_ ?_
   | refine zt ?_ (fun _ => ?_)
set_option maxHeartbeats 8000000 in
set_option maxRecDepth 100000 in
theorem spec_GoodReader.calls (k : Nat) (a0_0 : ByteArray) (A0_1 : Option Addr) (c0_1 : Nat) (l0_1 : List (S26)) (a0_2 : Int) (r : Bool) (w : World) (hr0_1 : Kd.C k26 w A0_1 l0_1.length l0_1) (hc0_1 : l0_1.length ≤ c0_1) (h : spec_GoodReader.f k a0_0 l0_1 a0_2 = some r) :
  Calls Try.prog 32 #[.agg #[.string a0_0, .slice A0_1 l0_1.length c0_1, .int .i64 a0_2]] w fun e w' => e = .returned (.bool r) ∧ Below w.heap.size w w' := by
 have hu33 := Try.underlying33
 have hu26 := Try.underlying26
 have HR0_1 := Aside0.mk hr0_1
 have HC0_1 := Aside0.mk hc0_1
 clear hr0_1 hc0_1
 have HB := Aside0.mk (Below.refl w.heap.size w)
 have H : (spec_GoodReader.l0 k l0_1 (l0_1.length : Int) 0 a0_0 l0_1 a0_2) = some r := h
 clear h
 have H' := Aside0.mk H
 clear H
 go_enter Try.func32, Try.ntmps32
 go_wp2_with (first | ((with_reducible refine gate_dst (N := 1) rfl ?_); (try (refine gate_guard (by rfl) ?_; dsimp only)); refine box_event ?hg (N := 1) ?hd (cs := #[.string a0_0, .slice A0_1 l0_1.length c0_1, .int .i64 a0_2]) (t := 33) ?hr ?_; (case hd => rfl); (case hg => rfl); (case hr => first | (go_simp; done) | (go_simp; rfl)); intro gb152 hg w2 hbox hb; have n0_ := Aside0.mk (zl (by repeat (first | (with_reducible first | exact HB.1 | apply zc | apply za | apply zb) | exact HB.1)) hb); have n1_ := Aside0.mk (hbox); have n2_ := Aside0.mk ((by rw [hg]; exact (zk (by repeat (first | (with_reducible first | exact HB.1 | apply zc | apply za | apply zb) | exact HB.1))) : w.heap.size ≤ gb152)); have n3_ := Aside0.mk ((by rw [hg]; exact (zk (by repeat (first | (with_reducible first | exact HB.1 | apply zc | apply za | apply zb) | exact HB.1))) : w.heap.size ≤ gb152)); clear HB; have HB := n0_; have zA := n1_; have GW152 := n2_; have zC := n3_; clear n0_ n1_ n2_ n3_; clear hb hbox hg; have hcz3_0 : w2.cell? ⟨gb152, 0, none⟩ = some (.string a0_0) := (ze zA.1 0).trans rfl; have hcz3_1 : w2.cell? ⟨gb152, 1, none⟩ = some (.slice A0_1 l0_1.length c0_1) := (ze zA.1 1).trans rfl; have hcz3_2 : w2.cell? ⟨gb152, 2, none⟩ = some (.int .i64 a0_2) := (ze zA.1 2).trans rfl; have hfz3_0 := zd zA.1 0; have hfz3_1 := zd zA.1 1; have hfz3_2 := zd zA.1 2))
 go_loopg [11] k (fun kq v11 w' => ∃ (zB : Int), v11 = .int .i64 zB ∧ zv (spec_GoodReader.l0 kq l0_1 (l0_1.length : Int) zB a0_0 l0_1 a0_2 = some r) ∧ zv (kq ≤ k) ∧ zv (w'.heap[gb152]? = some (.cells #[.string a0_0, (.slice A0_1 l0_1.length c0_1), .int .i64 a0_2] 33 (0, 0))) ∧ zv (Below w.heap.size w w'))
 case atStart => exact ⟨(0), (by first | rfl | (simp; done) | (simp [*]; done)), H', ⟨Nat.le_refl _⟩, ⟨by (with_reducible repeat (first | refine zg ?_ _ | refine zi ?_ | refine zh ?_ _)); exact zA.1⟩, ⟨by repeat (first | (with_reducible first | exact HB.1 | apply zc | apply za | apply zb | refine zf ?_ zC.1) | exact HB.1)⟩⟩
 case round =>
  clear H'
  (try clear p2); (try clear c3); (try clear hcz3_0); (try clear hcz3_1); (try clear hcz3_2); (try clear hfz3_0); (try clear hfz3_1); (try clear hfz3_2)
  obtain ⟨zB, rfl, HA, HK1, zA, HB⟩ := hrel
  cases gk with
  | zero => exact absurd HA.1 (by simp [spec_GoodReader.l0])
  | succ k1 =>
   have H := HA.1
   clear HA
   simp only [spec_GoodReader.l0] at H
   by_cases c4 : zB < (l0_1.length : Int)
   ·
    rw [if_pos c4] at H
    have c4b0 : decide (zB < (l0_1.length : Int)) = true := decide_eq_true c4
    clear c4
    by_cases c5 : 0 ≤ zB
    ·
     rw [if_pos c5] at H
     have c5b0 : decide (0 ≤ zB) = true := decide_eq_true c5
     clear c5
     by_cases c6 : zB < (l0_1.length : Int)
     ·
      rw [if_pos c6] at H
      have c6b0 : decide (zB < (l0_1.length : Int)) = true := decide_eq_true c6
      clear c6
      replace H := Option.bind_eq_some_iff.mp H
      obtain ⟨t155, A70, H⟩ := H
      replace H : (if t155 = true then (spec_GoodReader.l0 k1 l0_1 (l0_1.length : Int) (wrap64 (zB + 1)) a0_0 l0_1 a0_2) else (some false)) = some r := H
      have A7 := Aside0.mk A70
      clear A70
      by_cases c8 : t155 = true
      ·
       subst c8
       have H1 : (spec_GoodReader.l0 k1 l0_1 (l0_1.length : Int) (wrap64 (zB + 1)) a0_0 l0_1 a0_2) = some r := by rw [if_pos rfl] at H; exact H
       clear H
       have H := H1
       clear H1
       have H' := Aside0.mk H
       clear H
       have p153 : 0 ≤ (zB : Int) := of_decide_eq_true (by first | (with_reducible assumption) | assumption)
       have q153 : zB < (l0_1.length : Int) := of_decide_eq_true (by first | (with_reducible assumption) | assumption)
       obtain ⟨ad153, e153, hx153_0, hx153_1⟩ := at_T26 HR0_1.1 zB p153 q153
       cases e153
       replace hx153_0 := (HB.1.cell (World.block_lt_of_cell? w _ hx153_0)).trans hx153_0
       replace hx153_1 := (HB.1.cell (World.block_lt_of_cell? w _ hx153_1)).trans hx153_1
       replace p153 := eq_true p153
       replace q153 := eq_true q153
       go_wp2_with (first | ((with_reducible refine gate_dst (N := 4) rfl ?_); (try (refine gate_guard (by rfl) ?_; dsimp only)); refine box_event ?hg (N := 4) ?hd (cs := #[.int .i64 0, .string (⟨#[]⟩ : ByteArray)]) (t := 26) ?hr ?_; (case hd => rfl); (case hg => rfl); (case hr => first | (go_simp; done) | (go_simp; rfl)); intro gb154 hg w9 hbox hb; have n0_ := Aside0.mk (zm (g := gb152) (o := .cells #[.string a0_0, .slice (some ad153) l0_1.length c0_1, .int .i64 a0_2] 33 (0, 0)) (by (with_reducible repeat (first | refine zg ?_ _ | refine zi ?_ | refine zh ?_ _)); exact zA.1) hb); have n1_ := Aside0.mk (zl (by repeat (first | (with_reducible first | exact HB.1 | apply zc | apply za | apply zb | refine zf ?_ zC.1) | exact HB.1)) hb); have n2_ := Aside0.mk (hbox); have n3_ := Aside0.mk ((by rw [hg]; exact (zk (by repeat (first | (with_reducible first | exact HB.1 | apply zc | apply za | apply zb | refine zf ?_ zC.1) | exact HB.1))) : w.heap.size ≤ gb154)); have n4_ := Aside0.mk ((by rw [hg]; exact (zk (by repeat (first | (with_reducible first | exact HB.1 | apply zc | apply za | apply zb | refine zf ?_ zC.1) | exact HB.1))) : w.heap.size ≤ gb154)); have n5_ := Aside0.mk ((by rw [hg]; exact Nat.ne_of_lt (blk_lt (g := gb152) (o := .cells #[.string a0_0, .slice (some ad153) l0_1.length c0_1, .int .i64 a0_2] 33 (0, 0)) (by (with_reducible repeat (first | refine zg ?_ _ | refine zi ?_ | refine zh ?_ _)); exact zA.1)) : gb152 ≠ gb154)); have n6_ := Aside0.mk ((by rw [hg]; exact Nat.ne_of_gt (blk_lt (g := gb152) (o := .cells #[.string a0_0, .slice (some ad153) l0_1.length c0_1, .int .i64 a0_2] 33 (0, 0)) (by (with_reducible repeat (first | refine zg ?_ _ | refine zi ?_ | refine zh ?_ _)); exact zA.1)) : gb154 ≠ gb152)); clear zA; clear HB; have zA := n0_; have HB := n1_; have zE := n2_; have GW154 := n3_; have zG := n4_; have zD := n5_; have NB154_152 := n6_; clear n0_ n1_ n2_ n3_ n4_ n5_ n6_; clear hb hbox hg; have hnb10 := NB154_152.1; have hnc10 := zD.1; have hcz11_0 : w9.cell? ⟨gb154, 0, none⟩ = some (.int .i64 0) := (ze zE.1 0).trans rfl; have hcz11_1 : w9.cell? ⟨gb154, 1, none⟩ = some (.string (⟨#[]⟩ : ByteArray)) := (ze zE.1 1).trans rfl; have hfz11_0 := zd zE.1 0; have hfz11_1 := zd zE.1 1) | ((with_reducible refine zj (f := 16) rfl ?_); refine zr (some 16) rfl rfl Try.func16 (by kernel_rfl) rfl #[.agg #[.int .i64 ((rd_T26 l0_1 zB).f0), .string ((rd_T26 l0_1 zB).f1)]] rfl (by (try simp only [List.map_toArray, List.map_cons, List.map_nil]); first | done | rfl | (simp only [List.length_drop, List.length_take]; rfl)) ?_; (with_reducible refine (spec_GoodMsg.calls ((rd_T26 l0_1 zB).f0) ((rd_T26 l0_1 zB).f1) true _ A7.1).mono ?_); rintro e w12 ⟨rfl, hb⟩; refine ⟨_, rfl, ?_⟩; have n0_ := Aside0.mk (zm (g := gb152) (o := .cells #[.string a0_0, .slice (some ad153) l0_1.length c0_1, .int .i64 a0_2] 33 (0, 0)) (by (with_reducible repeat (first | refine zg ?_ _ | refine zi ?_ | refine zh ?_ _)); refine blk_far ?_ zD.1 _; (with_reducible repeat (first | refine zg ?_ _ | refine zi ?_ | refine zh ?_ _)); refine blk_far ?_ zD.1 _; (with_reducible repeat (first | refine zg ?_ _ | refine zi ?_ | refine zh ?_ _)); exact zA.1) hb); have n1_ := Aside0.mk (zm (g := gb154) (o := .cells #[.int .i64 ((rd_T26 l0_1 zB).f0), .string ((rd_T26 l0_1 zB).f1)] 26 (0, 0)) (by (with_reducible repeat (first | refine zg ?_ _ | refine zi ?_ | refine zh ?_ _)); refine blk_put (cs := #[.int .i64 ((rd_T26 l0_1 zB).f0), .string (⟨#[]⟩ : ByteArray)]) ?_ 1 _ rfl; (with_reducible repeat (first | refine zg ?_ _ | refine zi ?_ | refine zh ?_ _)); refine blk_put (cs := #[.int .i64 0, .string (⟨#[]⟩ : ByteArray)]) ?_ 0 _ rfl; (with_reducible repeat (first | refine zg ?_ _ | refine zi ?_ | refine zh ?_ _)); exact zE.1) hb); have n2_ := Aside0.mk (zl (by repeat (first | (with_reducible first | exact HB.1 | apply zc | apply za | apply zb | refine zf ?_ zC.1 | refine zf ?_ zG.1) | exact HB.1)) hb); clear zA; clear zE; clear HB; have zA := n0_; have zE := n1_; have HB := n2_; clear n0_ n1_ n2_; (try clear hb); (try clear hb2); (try clear hk); (try clear hi)))
       go_roundg k1
       case measure => have := HK1.1; omega
       case rel => exact ⟨(wrap64 (zB + 1)), (by first | rfl | (simp; done) | (simp [*]; done)), H', ⟨by have := HK1.1; omega⟩, ⟨by (with_reducible repeat (first | refine zg ?_ _ | refine zi ?_ | refine zh ?_ _)); exact zA.1⟩, ⟨by repeat (first | (with_reducible first | exact HB.1 | apply zc | apply za | apply zb | refine zf ?_ zC.1 | refine zf ?_ zG.1) | exact HB.1)⟩⟩
      ·
       replace c8 := Bool.eq_false_iff.mpr c8
       subst c8
       have H1 : (some false) = some r := by rw [if_neg (show ¬ (false = true) by decide)] at H; exact H
       clear H
       have H := H1
       clear H1
       obtain rfl := Option.some.inj H
       have p153 : 0 ≤ (zB : Int) := of_decide_eq_true (by first | (with_reducible assumption) | assumption)
       have q153 : zB < (l0_1.length : Int) := of_decide_eq_true (by first | (with_reducible assumption) | assumption)
       obtain ⟨ad153, e153, hx153_0, hx153_1⟩ := at_T26 HR0_1.1 zB p153 q153
       cases e153
       replace hx153_0 := (HB.1.cell (World.block_lt_of_cell? w _ hx153_0)).trans hx153_0
       replace hx153_1 := (HB.1.cell (World.block_lt_of_cell? w _ hx153_1)).trans hx153_1
       replace p153 := eq_true p153
       replace q153 := eq_true q153
       go_wp2_with (first | ((with_reducible refine gate_dst (N := 4) rfl ?_); (try (refine gate_guard (by rfl) ?_; dsimp only)); refine box_event ?hg (N := 4) ?hd (cs := #[.int .i64 0, .string (⟨#[]⟩ : ByteArray)]) (t := 26) ?hr ?_; (case hd => rfl); (case hg => rfl); (case hr => first | (go_simp; done) | (go_simp; rfl)); intro gb154 hg w13 hbox hb; have n0_ := Aside0.mk (zm (g := gb152) (o := .cells #[.string a0_0, .slice (some ad153) l0_1.length c0_1, .int .i64 a0_2] 33 (0, 0)) (by (with_reducible repeat (first | refine zg ?_ _ | refine zi ?_ | refine zh ?_ _)); exact zA.1) hb); have n1_ := Aside0.mk (zl (by repeat (first | (with_reducible first | exact HB.1 | apply zc | apply za | apply zb | refine zf ?_ zC.1) | exact HB.1)) hb); have n2_ := Aside0.mk (hbox); have n3_ := Aside0.mk ((by rw [hg]; exact (zk (by repeat (first | (with_reducible first | exact HB.1 | apply zc | apply za | apply zb | refine zf ?_ zC.1) | exact HB.1))) : w.heap.size ≤ gb154)); have n4_ := Aside0.mk ((by rw [hg]; exact (zk (by repeat (first | (with_reducible first | exact HB.1 | apply zc | apply za | apply zb | refine zf ?_ zC.1) | exact HB.1))) : w.heap.size ≤ gb154)); have n5_ := Aside0.mk ((by rw [hg]; exact Nat.ne_of_lt (blk_lt (g := gb152) (o := .cells #[.string a0_0, .slice (some ad153) l0_1.length c0_1, .int .i64 a0_2] 33 (0, 0)) (by (with_reducible repeat (first | refine zg ?_ _ | refine zi ?_ | refine zh ?_ _)); exact zA.1)) : gb152 ≠ gb154)); have n6_ := Aside0.mk ((by rw [hg]; exact Nat.ne_of_gt (blk_lt (g := gb152) (o := .cells #[.string a0_0, .slice (some ad153) l0_1.length c0_1, .int .i64 a0_2] 33 (0, 0)) (by (with_reducible repeat (first | refine zg ?_ _ | refine zi ?_ | refine zh ?_ _)); exact zA.1)) : gb154 ≠ gb152)); clear zA; clear HB; have zA := n0_; have HB := n1_; have zE := n2_; have GW154 := n3_; have zG := n4_; have zD := n5_; have NB154_152 := n6_; clear n0_ n1_ n2_ n3_ n4_ n5_ n6_; clear hb hbox hg; have hnb14 := NB154_152.1; have hnc14 := zD.1; have hcz15_0 : w13.cell? ⟨gb154, 0, none⟩ = some (.int .i64 0) := (ze zE.1 0).trans rfl; have hcz15_1 : w13.cell? ⟨gb154, 1, none⟩ = some (.string (⟨#[]⟩ : ByteArray)) := (ze zE.1 1).trans rfl; have hfz15_0 := zd zE.1 0; have hfz15_1 := zd zE.1 1) | ((with_reducible refine zj (f := 16) rfl ?_); refine zr (some 16) rfl rfl Try.func16 (by kernel_rfl) rfl #[.agg #[.int .i64 ((rd_T26 l0_1 zB).f0), .string ((rd_T26 l0_1 zB).f1)]] rfl (by (try simp only [List.map_toArray, List.map_cons, List.map_nil]); first | done | rfl | (simp only [List.length_drop, List.length_take]; rfl)) ?_; (with_reducible refine (spec_GoodMsg.calls ((rd_T26 l0_1 zB).f0) ((rd_T26 l0_1 zB).f1) false _ A7.1).mono ?_); rintro e w16 ⟨rfl, hb⟩; refine ⟨_, rfl, ?_⟩; have n0_ := Aside0.mk (zm (g := gb152) (o := .cells #[.string a0_0, .slice (some ad153) l0_1.length c0_1, .int .i64 a0_2] 33 (0, 0)) (by (with_reducible repeat (first | refine zg ?_ _ | refine zi ?_ | refine zh ?_ _)); refine blk_far ?_ zD.1 _; (with_reducible repeat (first | refine zg ?_ _ | refine zi ?_ | refine zh ?_ _)); refine blk_far ?_ zD.1 _; (with_reducible repeat (first | refine zg ?_ _ | refine zi ?_ | refine zh ?_ _)); exact zA.1) hb); have n1_ := Aside0.mk (zm (g := gb154) (o := .cells #[.int .i64 ((rd_T26 l0_1 zB).f0), .string ((rd_T26 l0_1 zB).f1)] 26 (0, 0)) (by (with_reducible repeat (first | refine zg ?_ _ | refine zi ?_ | refine zh ?_ _)); refine blk_put (cs := #[.int .i64 ((rd_T26 l0_1 zB).f0), .string (⟨#[]⟩ : ByteArray)]) ?_ 1 _ rfl; (with_reducible repeat (first | refine zg ?_ _ | refine zi ?_ | refine zh ?_ _)); refine blk_put (cs := #[.int .i64 0, .string (⟨#[]⟩ : ByteArray)]) ?_ 0 _ rfl; (with_reducible repeat (first | refine zg ?_ _ | refine zi ?_ | refine zh ?_ _)); exact zE.1) hb); have n2_ := Aside0.mk (zl (by repeat (first | (with_reducible first | exact HB.1 | apply zc | apply za | apply zb | refine zf ?_ zC.1 | refine zf ?_ zG.1) | exact HB.1)) hb); clear zA; clear zE; clear HB; have zA := n0_; have zE := n1_; have HB := n2_; clear n0_ n1_ n2_; (try clear hb); (try clear hb2); (try clear hk); (try clear hi)))
       go_ret
       exact ⟨by first | rfl | (simp [errW_none, errW_some] <;> rfl) | (simp [*, errW_none, errW_some] <;> rfl), by repeat (first | (with_reducible first | exact HB.1 | apply zc | apply za | apply zb | refine zf ?_ zC.1 | refine zf ?_ zG.1) | exact HB.1)⟩
     ·
      rw [if_neg c6] at H
      exact absurd H (by simp)
    ·
     rw [if_neg c5] at H
     exact absurd H (by simp)
   ·
    rw [if_neg c4] at H
    have c4b0 : decide (zB < (l0_1.length : Int)) = false := decide_eq_false c4
    clear c4
    replace H := Option.bind_eq_some_iff.mp H
    obtain ⟨⟨t156, t157, t158⟩, A170, H⟩ := H
    replace H : (if (l0_1.length : Int) ≤ 40 then (if (t156.length : Int) = 0 then (if t157.toList = a0_0.toList then (if t158 = 0 then ((spec_l1In.f a0_2 0 4).bind fun t161 => (if t161 = true then (if a0_2 = 0 then (some true) else (some (a0_0.toList == ([] : List UInt8)))) else (some false))) else (some false)) else (some false)) else (some false)) else (some false)) = some r := H
    have A17 := Aside0.mk A170
    clear A170
    by_cases c18 : (l0_1.length : Int) ≤ 40
    ·
     rw [if_pos c18] at H
     have c18b0 : decide ((l0_1.length : Int) ≤ 40) = true := decide_eq_true c18
     have c18b1 : decide (l0_1.length ≤ 40) = true := decide_eq_true (by omega)
     clear c18
     by_cases c19 : (t156.length : Int) = 0
     ·
      rw [if_pos c19] at H
      have c19b0 : ((t156.length : Int) == 0) = true := beq_iff_eq.mpr c19
      have c19b1 : ((t156.length : Int) != 0) = false := bne_eq_false_iff_eq.mpr c19
      clear c19
      by_cases c20 : t157.toList = a0_0.toList
      ·
       rw [if_pos c20] at H
       have c20b0 : (t157.toList == a0_0.toList) = true := beq_iff_eq.mpr c20
       have c20b1 : (t157.toList != a0_0.toList) = false := bne_eq_false_iff_eq.mpr c20
       clear c20
       by_cases c21 : t158 = 0
       ·
        rw [if_pos c21] at H
        have c21b0 : (t158 == 0) = true := beq_iff_eq.mpr c21
        have c21b1 : (t158 != 0) = false := bne_eq_false_iff_eq.mpr c21
        clear c21
        replace H := Option.bind_eq_some_iff.mp H
        obtain ⟨t161, A220, H⟩ := H
        replace H : (if t161 = true then (if a0_2 = 0 then (some true) else (some (a0_0.toList == ([] : List UInt8)))) else (some false)) = some r := H
        have A22 := Aside0.mk A220
        clear A220
        by_cases c23 : t161 = true
        ·
         subst c23
         have H1 : (if a0_2 = 0 then (some true) else (some (a0_0.toList == ([] : List UInt8)))) = some r := by rw [if_pos rfl] at H; exact H
         clear H
         have H := H1
         clear H1
         by_cases c24 : a0_2 = 0
         ·
          rw [if_pos c24] at H
          have c24b0 : (a0_2 == 0) = true := beq_iff_eq.mpr c24
          have c24b1 : (a0_2 != 0) = false := bne_eq_false_iff_eq.mpr c24
          clear c24
          obtain rfl := Option.some.inj H
          have hcz25_0 : wr.cell? ⟨gb152, 0, none⟩ = some (.string a0_0) := (ze zA.1 0).trans rfl
          have hcz25_1 : wr.cell? ⟨gb152, 1, none⟩ = some (.slice A0_1 l0_1.length c0_1) := (ze zA.1 1).trans rfl
          have hcz25_2 : wr.cell? ⟨gb152, 2, none⟩ = some (.int .i64 a0_2) := (ze zA.1 2).trans rfl
          have hfz25_0 := zd zA.1 0
          have hfz25_1 := zd zA.1 1
          have hfz25_2 := zd zA.1 2
          go_wp2_with (first | ((with_reducible refine zj (f := 65) rfl ?_); refine zr (some 22) rfl rfl Try.func65 (by kernel_rfl) rfl #[.string a0_0] rfl (by (try simp only [List.map_toArray, List.map_cons, List.map_nil]); first | done | rfl | (simp only [List.length_drop, List.length_take]; rfl)) ?_; (with_reducible refine (spec_l5Cut.calls k1 a0_0 t156 t157 t158 _ A17.1).mono ?_); rintro e w26 ⟨v159, rfl, ho0, hb⟩; refine ⟨_, rfl, ?_⟩; have n0_ := Aside0.mk (zn ho0 (zk (by repeat (first | (with_reducible first | exact HB.1 | apply zc | apply za | apply zb | refine zf ?_ zC.1) | exact HB.1)))); have n1_ := Aside0.mk (zm (g := gb152) (o := .cells #[.string a0_0, .slice A0_1 l0_1.length c0_1, .int .i64 a0_2] 33 (0, 0)) (by (with_reducible repeat (first | refine zg ?_ _ | refine zi ?_ | refine zh ?_ _)); exact zA.1) hb); have n2_ := Aside0.mk (zl (by repeat (first | (with_reducible first | exact HB.1 | apply zc | apply za | apply zb | refine zf ?_ zC.1) | exact HB.1)) hb); clear zA; clear HB; have zF := n0_; have zA := n1_; have HB := n2_; clear n0_ n1_ n2_; (try clear hb); (try clear hb2); (try clear hk); (try clear hi); (try clear ho0); have hcz27_0 : w26.cell? ⟨gb152, 0, none⟩ = some (.string a0_0) := (ze zA.1 0).trans rfl; have hcz27_1 : w26.cell? ⟨gb152, 1, none⟩ = some (.slice A0_1 l0_1.length c0_1) := (ze zA.1 1).trans rfl; have hcz27_2 : w26.cell? ⟨gb152, 2, none⟩ = some (.int .i64 a0_2) := (ze zA.1 2).trans rfl; have hfz27_0 := zd zA.1 0; have hfz27_1 := zd zA.1 1; have hfz27_2 := zd zA.1 2; obtain ⟨Ao28, co28, eo28⟩ := Kd.R_slice zF.1; subst eo28) | (go_at_call 62; (with_reducible refine (spec_l1In.calls a0_2 0 4 true _ A22.1).mono ?_); rintro e w' ⟨rfl, ⟨nd, rfl⟩⟩))
          go_ret
          exact ⟨by first | rfl | (simp [errW_none, errW_some] <;> rfl) | (simp [*, errW_none, errW_some] <;> rfl), by repeat (first | (with_reducible first | exact HB.1 | apply zc | apply za | apply zb | refine zf ?_ zC.1) | exact HB.1)⟩
         ·
          rw [if_neg c24] at H
          have c24b0 : (a0_2 == 0) = false := beq_eq_false_iff_ne.mpr c24
          have c24b1 : (a0_2 != 0) = true := bne_iff_ne.mpr c24
          obtain rfl := Option.some.inj H
          have hcz29_0 : wr.cell? ⟨gb152, 0, none⟩ = some (.string a0_0) := (ze zA.1 0).trans rfl
          have hcz29_1 : wr.cell? ⟨gb152, 1, none⟩ = some (.slice A0_1 l0_1.length c0_1) := (ze zA.1 1).trans rfl
          have hcz29_2 : wr.cell? ⟨gb152, 2, none⟩ = some (.int .i64 a0_2) := (ze zA.1 2).trans rfl
          have hfz29_0 := zd zA.1 0
          have hfz29_1 := zd zA.1 1
          have hfz29_2 := zd zA.1 2
          go_wp2_with (first | ((with_reducible refine zj (f := 65) rfl ?_); refine zr (some 22) rfl rfl Try.func65 (by kernel_rfl) rfl #[.string a0_0] rfl (by (try simp only [List.map_toArray, List.map_cons, List.map_nil]); first | done | rfl | (simp only [List.length_drop, List.length_take]; rfl)) ?_; (with_reducible refine (spec_l5Cut.calls k1 a0_0 t156 t157 t158 _ A17.1).mono ?_); rintro e w30 ⟨v159, rfl, ho0, hb⟩; refine ⟨_, rfl, ?_⟩; have n0_ := Aside0.mk (zn ho0 (zk (by repeat (first | (with_reducible first | exact HB.1 | apply zc | apply za | apply zb | refine zf ?_ zC.1) | exact HB.1)))); have n1_ := Aside0.mk (zm (g := gb152) (o := .cells #[.string a0_0, .slice A0_1 l0_1.length c0_1, .int .i64 a0_2] 33 (0, 0)) (by (with_reducible repeat (first | refine zg ?_ _ | refine zi ?_ | refine zh ?_ _)); exact zA.1) hb); have n2_ := Aside0.mk (zl (by repeat (first | (with_reducible first | exact HB.1 | apply zc | apply za | apply zb | refine zf ?_ zC.1) | exact HB.1)) hb); clear zA; clear HB; have zF := n0_; have zA := n1_; have HB := n2_; clear n0_ n1_ n2_; (try clear hb); (try clear hb2); (try clear hk); (try clear hi); (try clear ho0); have hcz31_0 : w30.cell? ⟨gb152, 0, none⟩ = some (.string a0_0) := (ze zA.1 0).trans rfl; have hcz31_1 : w30.cell? ⟨gb152, 1, none⟩ = some (.slice A0_1 l0_1.length c0_1) := (ze zA.1 1).trans rfl; have hcz31_2 : w30.cell? ⟨gb152, 2, none⟩ = some (.int .i64 a0_2) := (ze zA.1 2).trans rfl; have hfz31_0 := zd zA.1 0; have hfz31_1 := zd zA.1 1; have hfz31_2 := zd zA.1 2; obtain ⟨Ao32, co32, eo32⟩ := Kd.R_slice zF.1; subst eo32) | (go_at_call 62; (with_reducible refine (spec_l1In.calls a0_2 0 4 true _ A22.1).mono ?_); rintro e w' ⟨rfl, ⟨nd, rfl⟩⟩))
          go_ret
          exact ⟨by first | rfl | (simp [errW_none, errW_some] <;> rfl) | (simp [*, errW_none, errW_some] <;> rfl), by repeat (first | (with_reducible first | exact HB.1 | apply zc | apply za | apply zb | refine zf ?_ zC.1) | exact HB.1)⟩
        ·
         replace c23 := Bool.eq_false_iff.mpr c23
         subst c23
         have H1 : (some false) = some r := by rw [if_neg (show ¬ (false = true) by decide)] at H; exact H
         clear H
         have H := H1
         clear H1
         obtain rfl := Option.some.inj H
         have hcz33_0 : wr.cell? ⟨gb152, 0, none⟩ = some (.string a0_0) := (ze zA.1 0).trans rfl
         have hcz33_1 : wr.cell? ⟨gb152, 1, none⟩ = some (.slice A0_1 l0_1.length c0_1) := (ze zA.1 1).trans rfl
         have hcz33_2 : wr.cell? ⟨gb152, 2, none⟩ = some (.int .i64 a0_2) := (ze zA.1 2).trans rfl
         have hfz33_0 := zd zA.1 0
         have hfz33_1 := zd zA.1 1
         have hfz33_2 := zd zA.1 2
         go_wp2_with (first | ((with_reducible refine zj (f := 65) rfl ?_); refine zr (some 22) rfl rfl Try.func65 (by kernel_rfl) rfl #[.string a0_0] rfl (by (try simp only [List.map_toArray, List.map_cons, List.map_nil]); first | done | rfl | (simp only [List.length_drop, List.length_take]; rfl)) ?_; (with_reducible refine (spec_l5Cut.calls k1 a0_0 t156 t157 t158 _ A17.1).mono ?_); rintro e w34 ⟨v159, rfl, ho0, hb⟩; refine ⟨_, rfl, ?_⟩; have n0_ := Aside0.mk (zn ho0 (zk (by repeat (first | (with_reducible first | exact HB.1 | apply zc | apply za | apply zb | refine zf ?_ zC.1) | exact HB.1)))); have n1_ := Aside0.mk (zm (g := gb152) (o := .cells #[.string a0_0, .slice A0_1 l0_1.length c0_1, .int .i64 a0_2] 33 (0, 0)) (by (with_reducible repeat (first | refine zg ?_ _ | refine zi ?_ | refine zh ?_ _)); exact zA.1) hb); have n2_ := Aside0.mk (zl (by repeat (first | (with_reducible first | exact HB.1 | apply zc | apply za | apply zb | refine zf ?_ zC.1) | exact HB.1)) hb); clear zA; clear HB; have zF := n0_; have zA := n1_; have HB := n2_; clear n0_ n1_ n2_; (try clear hb); (try clear hb2); (try clear hk); (try clear hi); (try clear ho0); have hcz35_0 : w34.cell? ⟨gb152, 0, none⟩ = some (.string a0_0) := (ze zA.1 0).trans rfl; have hcz35_1 : w34.cell? ⟨gb152, 1, none⟩ = some (.slice A0_1 l0_1.length c0_1) := (ze zA.1 1).trans rfl; have hcz35_2 : w34.cell? ⟨gb152, 2, none⟩ = some (.int .i64 a0_2) := (ze zA.1 2).trans rfl; have hfz35_0 := zd zA.1 0; have hfz35_1 := zd zA.1 1; have hfz35_2 := zd zA.1 2; obtain ⟨Ao36, co36, eo36⟩ := Kd.R_slice zF.1; subst eo36) | (go_at_call 62; (with_reducible refine (spec_l1In.calls a0_2 0 4 false _ A22.1).mono ?_); rintro e w' ⟨rfl, ⟨nd, rfl⟩⟩))
         go_ret
         exact ⟨by first | rfl | (simp [errW_none, errW_some] <;> rfl) | (simp [*, errW_none, errW_some] <;> rfl), by repeat (first | (with_reducible first | exact HB.1 | apply zc | apply za | apply zb | refine zf ?_ zC.1) | exact HB.1)⟩
       ·
        rw [if_neg c21] at H
        have c21b0 : (t158 == 0) = false := beq_eq_false_iff_ne.mpr c21
        have c21b1 : (t158 != 0) = true := bne_iff_ne.mpr c21
        obtain rfl := Option.some.inj H
        have hcz37_0 : wr.cell? ⟨gb152, 0, none⟩ = some (.string a0_0) := (ze zA.1 0).trans rfl
        have hcz37_1 : wr.cell? ⟨gb152, 1, none⟩ = some (.slice A0_1 l0_1.length c0_1) := (ze zA.1 1).trans rfl
        have hcz37_2 : wr.cell? ⟨gb152, 2, none⟩ = some (.int .i64 a0_2) := (ze zA.1 2).trans rfl
        have hfz37_0 := zd zA.1 0
        have hfz37_1 := zd zA.1 1
        have hfz37_2 := zd zA.1 2
        go_wp2_with (first | ((with_reducible refine zj (f := 65) rfl ?_); refine zr (some 22) rfl rfl Try.func65 (by kernel_rfl) rfl #[.string a0_0] rfl (by (try simp only [List.map_toArray, List.map_cons, List.map_nil]); first | done | rfl | (simp only [List.length_drop, List.length_take]; rfl)) ?_; (with_reducible refine (spec_l5Cut.calls k1 a0_0 t156 t157 t158 _ A17.1).mono ?_); rintro e w38 ⟨v159, rfl, ho0, hb⟩; refine ⟨_, rfl, ?_⟩; have n0_ := Aside0.mk (zn ho0 (zk (by repeat (first | (with_reducible first | exact HB.1 | apply zc | apply za | apply zb | refine zf ?_ zC.1) | exact HB.1)))); have n1_ := Aside0.mk (zm (g := gb152) (o := .cells #[.string a0_0, .slice A0_1 l0_1.length c0_1, .int .i64 a0_2] 33 (0, 0)) (by (with_reducible repeat (first | refine zg ?_ _ | refine zi ?_ | refine zh ?_ _)); exact zA.1) hb); have n2_ := Aside0.mk (zl (by repeat (first | (with_reducible first | exact HB.1 | apply zc | apply za | apply zb | refine zf ?_ zC.1) | exact HB.1)) hb); clear zA; clear HB; have zF := n0_; have zA := n1_; have HB := n2_; clear n0_ n1_ n2_; (try clear hb); (try clear hb2); (try clear hk); (try clear hi); (try clear ho0); have hcz39_0 : w38.cell? ⟨gb152, 0, none⟩ = some (.string a0_0) := (ze zA.1 0).trans rfl; have hcz39_1 : w38.cell? ⟨gb152, 1, none⟩ = some (.slice A0_1 l0_1.length c0_1) := (ze zA.1 1).trans rfl; have hcz39_2 : w38.cell? ⟨gb152, 2, none⟩ = some (.int .i64 a0_2) := (ze zA.1 2).trans rfl; have hfz39_0 := zd zA.1 0; have hfz39_1 := zd zA.1 1; have hfz39_2 := zd zA.1 2; obtain ⟨Ao40, co40, eo40⟩ := Kd.R_slice zF.1; subst eo40))
        go_ret
        exact ⟨by first | rfl | (simp [errW_none, errW_some] <;> rfl) | (simp [*, errW_none, errW_some] <;> rfl), by repeat (first | (with_reducible first | exact HB.1 | apply zc | apply za | apply zb | refine zf ?_ zC.1) | exact HB.1)⟩
      ·
       rw [if_neg c20] at H
       have c20b0 : (t157.toList == a0_0.toList) = false := beq_eq_false_iff_ne.mpr c20
       have c20b1 : (t157.toList != a0_0.toList) = true := bne_iff_ne.mpr c20
       obtain rfl := Option.some.inj H
       have hcz41_0 : wr.cell? ⟨gb152, 0, none⟩ = some (.string a0_0) := (ze zA.1 0).trans rfl
       have hcz41_1 : wr.cell? ⟨gb152, 1, none⟩ = some (.slice A0_1 l0_1.length c0_1) := (ze zA.1 1).trans rfl
       have hcz41_2 : wr.cell? ⟨gb152, 2, none⟩ = some (.int .i64 a0_2) := (ze zA.1 2).trans rfl
       have hfz41_0 := zd zA.1 0
       have hfz41_1 := zd zA.1 1
       have hfz41_2 := zd zA.1 2
       go_wp2_with (first | ((with_reducible refine zj (f := 65) rfl ?_); refine zr (some 22) rfl rfl Try.func65 (by kernel_rfl) rfl #[.string a0_0] rfl (by (try simp only [List.map_toArray, List.map_cons, List.map_nil]); first | done | rfl | (simp only [List.length_drop, List.length_take]; rfl)) ?_; (with_reducible refine (spec_l5Cut.calls k1 a0_0 t156 t157 t158 _ A17.1).mono ?_); rintro e w42 ⟨v159, rfl, ho0, hb⟩; refine ⟨_, rfl, ?_⟩; have n0_ := Aside0.mk (zn ho0 (zk (by repeat (first | (with_reducible first | exact HB.1 | apply zc | apply za | apply zb | refine zf ?_ zC.1) | exact HB.1)))); have n1_ := Aside0.mk (zm (g := gb152) (o := .cells #[.string a0_0, .slice A0_1 l0_1.length c0_1, .int .i64 a0_2] 33 (0, 0)) (by (with_reducible repeat (first | refine zg ?_ _ | refine zi ?_ | refine zh ?_ _)); exact zA.1) hb); have n2_ := Aside0.mk (zl (by repeat (first | (with_reducible first | exact HB.1 | apply zc | apply za | apply zb | refine zf ?_ zC.1) | exact HB.1)) hb); clear zA; clear HB; have zF := n0_; have zA := n1_; have HB := n2_; clear n0_ n1_ n2_; (try clear hb); (try clear hb2); (try clear hk); (try clear hi); (try clear ho0); have hcz43_0 : w42.cell? ⟨gb152, 0, none⟩ = some (.string a0_0) := (ze zA.1 0).trans rfl; have hcz43_1 : w42.cell? ⟨gb152, 1, none⟩ = some (.slice A0_1 l0_1.length c0_1) := (ze zA.1 1).trans rfl; have hcz43_2 : w42.cell? ⟨gb152, 2, none⟩ = some (.int .i64 a0_2) := (ze zA.1 2).trans rfl; have hfz43_0 := zd zA.1 0; have hfz43_1 := zd zA.1 1; have hfz43_2 := zd zA.1 2; obtain ⟨Ao44, co44, eo44⟩ := Kd.R_slice zF.1; subst eo44))
       go_ret
       exact ⟨by first | rfl | (simp [errW_none, errW_some] <;> rfl) | (simp [*, errW_none, errW_some] <;> rfl), by repeat (first | (with_reducible first | exact HB.1 | apply zc | apply za | apply zb | refine zf ?_ zC.1) | exact HB.1)⟩
     ·
      rw [if_neg c19] at H
      have c19b0 : ((t156.length : Int) == 0) = false := beq_eq_false_iff_ne.mpr c19
      have c19b1 : ((t156.length : Int) != 0) = true := bne_iff_ne.mpr c19
      have c19b2 : ¬ (t156 = []) := fun h_ => c19 (by rw [h_]; rfl)
      obtain rfl := Option.some.inj H
      have hcz45_0 : wr.cell? ⟨gb152, 0, none⟩ = some (.string a0_0) := (ze zA.1 0).trans rfl
      have hcz45_1 : wr.cell? ⟨gb152, 1, none⟩ = some (.slice A0_1 l0_1.length c0_1) := (ze zA.1 1).trans rfl
      have hcz45_2 : wr.cell? ⟨gb152, 2, none⟩ = some (.int .i64 a0_2) := (ze zA.1 2).trans rfl
      have hfz45_0 := zd zA.1 0
      have hfz45_1 := zd zA.1 1
      have hfz45_2 := zd zA.1 2
      go_wp2_with (first | ((with_reducible refine zj (f := 65) rfl ?_); refine zr (some 22) rfl rfl Try.func65 (by kernel_rfl) rfl #[.string a0_0] rfl (by (try simp only [List.map_toArray, List.map_cons, List.map_nil]); first | done | rfl | (simp only [List.length_drop, List.length_take]; rfl)) ?_; (with_reducible refine (spec_l5Cut.calls k1 a0_0 t156 t157 t158 _ A17.1).mono ?_); rintro e w46 ⟨v159, rfl, ho0, hb⟩; refine ⟨_, rfl, ?_⟩; have n0_ := Aside0.mk (zn ho0 (zk (by repeat (first | (with_reducible first | exact HB.1 | apply zc | apply za | apply zb | refine zf ?_ zC.1) | exact HB.1)))); have n1_ := Aside0.mk (zm (g := gb152) (o := .cells #[.string a0_0, .slice A0_1 l0_1.length c0_1, .int .i64 a0_2] 33 (0, 0)) (by (with_reducible repeat (first | refine zg ?_ _ | refine zi ?_ | refine zh ?_ _)); exact zA.1) hb); have n2_ := Aside0.mk (zl (by repeat (first | (with_reducible first | exact HB.1 | apply zc | apply za | apply zb | refine zf ?_ zC.1) | exact HB.1)) hb); clear zA; clear HB; have zF := n0_; have zA := n1_; have HB := n2_; clear n0_ n1_ n2_; (try clear hb); (try clear hb2); (try clear hk); (try clear hi); (try clear ho0); have hcz47_0 : w46.cell? ⟨gb152, 0, none⟩ = some (.string a0_0) := (ze zA.1 0).trans rfl; have hcz47_1 : w46.cell? ⟨gb152, 1, none⟩ = some (.slice A0_1 l0_1.length c0_1) := (ze zA.1 1).trans rfl; have hcz47_2 : w46.cell? ⟨gb152, 2, none⟩ = some (.int .i64 a0_2) := (ze zA.1 2).trans rfl; have hfz47_0 := zd zA.1 0; have hfz47_1 := zd zA.1 1; have hfz47_2 := zd zA.1 2; obtain ⟨Ao48, co48, eo48⟩ := Kd.R_slice zF.1; subst eo48))
      go_ret
      exact ⟨by first | rfl | (simp [errW_none, errW_some] <;> rfl) | (simp [*, errW_none, errW_some] <;> rfl), by repeat (first | (with_reducible first | exact HB.1 | apply zc | apply za | apply zb | refine zf ?_ zC.1) | exact HB.1)⟩
    ·
     rw [if_neg c18] at H
     have c18b0 : decide ((l0_1.length : Int) ≤ 40) = false := decide_eq_false c18
     have c18b1 : decide (l0_1.length ≤ 40) = false := decide_eq_false (by omega)
     clear c18
     obtain rfl := Option.some.inj H
     have hcz49_0 : wr.cell? ⟨gb152, 0, none⟩ = some (.string a0_0) := (ze zA.1 0).trans rfl
     have hcz49_1 : wr.cell? ⟨gb152, 1, none⟩ = some (.slice A0_1 l0_1.length c0_1) := (ze zA.1 1).trans rfl
     have hcz49_2 : wr.cell? ⟨gb152, 2, none⟩ = some (.int .i64 a0_2) := (ze zA.1 2).trans rfl
     have hfz49_0 := zd zA.1 0
     have hfz49_1 := zd zA.1 1
     have hfz49_2 := zd zA.1 2
     go_wp2_with (first | ((with_reducible refine zj (f := 65) rfl ?_); refine zr (some 22) rfl rfl Try.func65 (by kernel_rfl) rfl #[.string a0_0] rfl (by (try simp only [List.map_toArray, List.map_cons, List.map_nil]); first | done | rfl | (simp only [List.length_drop, List.length_take]; rfl)) ?_; (with_reducible refine (spec_l5Cut.calls k1 a0_0 t156 t157 t158 _ A17.1).mono ?_); rintro e w50 ⟨v159, rfl, ho0, hb⟩; refine ⟨_, rfl, ?_⟩; have n0_ := Aside0.mk (zn ho0 (zk (by repeat (first | (with_reducible first | exact HB.1 | apply zc | apply za | apply zb | refine zf ?_ zC.1) | exact HB.1)))); have n1_ := Aside0.mk (zm (g := gb152) (o := .cells #[.string a0_0, .slice A0_1 l0_1.length c0_1, .int .i64 a0_2] 33 (0, 0)) (by (with_reducible repeat (first | refine zg ?_ _ | refine zi ?_ | refine zh ?_ _)); exact zA.1) hb); have n2_ := Aside0.mk (zl (by repeat (first | (with_reducible first | exact HB.1 | apply zc | apply za | apply zb | refine zf ?_ zC.1) | exact HB.1)) hb); clear zA; clear HB; have zF := n0_; have zA := n1_; have HB := n2_; clear n0_ n1_ n2_; (try clear hb); (try clear hb2); (try clear hk); (try clear hi); (try clear ho0); have hcz51_0 : w50.cell? ⟨gb152, 0, none⟩ = some (.string a0_0) := (ze zA.1 0).trans rfl; have hcz51_1 : w50.cell? ⟨gb152, 1, none⟩ = some (.slice A0_1 l0_1.length c0_1) := (ze zA.1 1).trans rfl; have hcz51_2 : w50.cell? ⟨gb152, 2, none⟩ = some (.int .i64 a0_2) := (ze zA.1 2).trans rfl; have hfz51_0 := zd zA.1 0; have hfz51_1 := zd zA.1 1; have hfz51_2 := zd zA.1 2))
     go_ret
     exact ⟨by first | rfl | (simp [errW_none, errW_some] <;> rfl) | (simp [*, errW_none, errW_some] <;> rfl), by repeat (first | (with_reducible first | exact HB.1 | apply zc | apply za | apply zb | refine zf ?_ zC.1) | exact HB.1)⟩

end Go.Proofs.Ytkkchcalhomgcaa.PFnExactTakeMsg
