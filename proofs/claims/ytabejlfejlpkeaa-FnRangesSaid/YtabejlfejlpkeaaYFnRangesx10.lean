/- Go functions told by Lean functions, printed by a program. No condition but what each statement says. -/
import Derived.Test.YtabejlfejlpkeaaYFnRangesx3
import Derived.Test.YtabejlfejlpkeaaYFnRangesx9
namespace Go.Proofs.Ytabejlfejlpkeaa.PFnRanges
open Go.RowKit Go.Proofs.YtabejlfejlpkeaaW.PrintWords Go.Proofs.YtabejlfejlpkeaaW.PrintLast Go.Proofs.YtabejlfejlpkeaaW.PrintMore
open List renaming setIfInBounds_toArray → kz, set_cons_zero → ky, set_cons_succ → kj
open Aside0 renaming mk → kk
open Act renaming put → kv
open Or renaming inl → kh
open Option renaming bind_eq_some_iff → kg
open Bool renaming true → kf, false → ke
set_option maxHeartbeats 8000000
set_option maxRecDepth 100000
open Go.Proofs.YtabejlfejlpkeaaW.PrintLast renaming i64_w → zg, any_of → zh, i32_w → zi, pure_ → zj
open Go.Proofs.YtabejlfejlpkeaaW.PrintWords renaming below_drew1 → zc, blk_cell → zk, blk_alloc → zl, blk_drew → zm, below_set → zo, Aside0 → zp
open Go.Proofs.YtabejlfejlpkeaaW.PrintWords.Kd renaming R_drew → za, R_mono → zq, R_below → zr, R_far → zs
attribute [local go_sem] max2_int min2_int max_two min_two max_three min_three max_four min_four
set_option linter.unusedVariables false
set_option linter.unusedSimpArgs false
/-! ### impl_spansOf: function 63 -/
mutual
def impl_spansOf.l0 : Nat → List (S74) → List (S45) → Int → Int → Option ((List (S74)))
 | 0, _, _, _, _ => none
 | k + 1, x4, x12, x13, x14 => if x14 < x13 then (if 0 ≤ x14 then (if x14 < (x12.length : Int) then (if (wrap64 ((x4.length : Int) - 1)) ≥ 0 then (if 0 ≤ (wrap64 ((x4.length : Int) - 1)) then (if (wrap64 ((x4.length : Int) - 1)) < (x4.length : Int) then (impl_spansOf.j1 k x4 (wrap64 ((x4.length : Int) - 1)) x12 x13 x14 (decide (((rd_T45 x12 x14).f0) ≤ (wrap64 (((rd_T74 x4 (wrap64 ((x4.length : Int) - 1))).f1) + 1)))) ((rd_T45 x12 x14).f0) ((rd_T45 x12 x14).f1)) else (none)) else (none)) else (impl_spansOf.j1 k x4 (wrap64 ((x4.length : Int) - 1)) x12 x13 x14 false ((rd_T45 x12 x14).f0) ((rd_T45 x12 x14).f1))) else (none)) else (none)) else (some x4)
def impl_spansOf.j1 : Nat → List (S74) → Int → List (S45) → Int → Int → Bool → Int → Int → Option ((List (S74)))
 | 0, _, _, _, _, _, _, _, _ => none
 | k + 1, x4, x7, x12, x13, x14, x33, x205000, x205001 => if x33 = true then (if 0 ≤ x7 then (if x7 < (x4.length : Int) then ((impl_Prefix_end.f x205000 x205001).bind fun t207 => (impl_spansOf.l0 k (x4.set (x7 : Int).toNat (⟨(rd_T74 x4 x7).f0, mx ((rd_T74 x4 x7).f1) t207⟩ : S74)) x12 x13 (wrap64 (x14 + 1)))) else (none)) else (none)) else ((impl_Prefix_end.f x205000 x205001).bind fun t209 => (if x4.length < 8796093022208 then (impl_spansOf.l0 k (x4 ++ [(⟨x205000, t209⟩ : S74)]) x12 x13 (wrap64 (x14 + 1))) else (none)))
end
def impl_spansOf.f (k : Nat) (l0 : List (S45)) : Option ((List (S74))) := (slices_SortedFunc.f l0).bind fun t197 => (impl_spansOf.l0 k (([] : List (S74))) t197 (t197.length : Int) 0)
def impl_spansOf.T7 : Bool × List (List Nat × List Nat) := (true, [([], []), ([0], [0]), ([1], [1]), ([2], [2]), ([3, 2], [2, 3]), ([2], [2]), ([2], [2]), ([5, 6, 2], [2, 5, 6]), ([7, 2], [2, 7]), ([8, 2], [2, 8]), ([9, 2], [2, 9]), ([4, 10, 2], [2, 4, 10]), ([2, 11], [2, 11])])
def impl_spansOf.B7 : List Nat := [0, 1, 3, 7, 15, 7, 7, 103, 231, 487, 999, 2047, 4095]
theorem impl_spansOf.tab7 : rtab .any (opsOf Try.f63 7) = impl_spansOf.T7 := by kernel_rfl
theorem impl_spansOf.bits7 : waitsOk impl_spansOf.T7.2 impl_spansOf.B7 = true := by kernel_rfl
def impl_spansOf.T8 : Bool × List (List Nat × List Nat) := (true, [([], []), ([], []), ([], []), ([], []), ([2, 3], [2, 3]), ([4], [4]), ([5], [5]), ([], []), ([7], [7]), ([6, 8], [6, 8]), ([0, 1, 0, 1, 2, 3, 4, 5, 6, 7, 8, 9], [0, 1]), ([10, 0, 1, 2, 3, 4, 5, 6, 7, 8, 9], [10]), ([11, 9, 8, 0, 1, 2, 3, 4, 5, 6, 7, 8, 9], [9, 11])])
def impl_spansOf.B8 : List Nat := [0, 0, 0, 0, 12, 28, 60, 0, 128, 508, 1023, 2047, 4095]
theorem impl_spansOf.tab8 : rtab .any (opsOf Try.f63 8) = impl_spansOf.T8 := by kernel_rfl
theorem impl_spansOf.bits8 : waitsOk impl_spansOf.T8.2 impl_spansOf.B8 = true := by kernel_rfl
def impl_spansOf.T9 : Bool × List (List Nat × List Nat) := (true, [([], []), ([], []), ([1], [1]), ([], []), ([3], [3]), ([2, 4], [2, 4]), ([5], [5]), ([0, 6, 4], [0, 6]), ([7, 7, 0, 1, 2, 3, 4, 5, 6, 7], [0, 7])])
def impl_spansOf.B9 : List Nat := [0, 0, 2, 0, 8, 30, 62, 127, 255]
theorem impl_spansOf.tab9 : rtab .any (opsOf Try.f63 9) = impl_spansOf.T9 := by kernel_rfl
theorem impl_spansOf.bits9 : waitsOk impl_spansOf.T9.2 impl_spansOf.B9 = true := by kernel_rfl
theorem impl_spansOf.calls (k : Nat) (A0 : Option Addr) (c0 : Nat) (l0 : List (S45)) (r : List (S74)) (w : World) (hr0 : Kd.C k45 w A0 l0.length l0) (hc0 : l0.length ≤ c0) (h : impl_spansOf.f k l0 = some r) :
  Calls Try.prog 63 #[.slice A0 l0.length c0] w fun e w' => ∃ v0_ : Value, e = .returned (v0_) ∧ Kd.R k74 74 w' w.heap.size (fun _ => True) v0_ r ∧ Below w.heap.size w w' := by
 have hu45 := Try.underlying45
 have hu74 := Try.underlying74
 have HR0 := kk hr0
 have HC0 := kk hc0
 clear hr0 hc0
 have HB := kk (Below.refl w.heap.size w)
 have H : ((slices_SortedFunc.f l0).bind fun t197 => (impl_spansOf.l0 k (([] : List (S74))) t197 (t197.length : Int) 0)) = some r := h
 clear h
 replace H := kg.mp H
 obtain ⟨t197, A20, H⟩ := H
 replace H : (impl_spansOf.l0 k (([] : List (S74))) t197 (t197.length : Int) 0) = some r := H
 have A2 := kk A20
 clear A20
 obtain ⟨y200, hy200⟩ : ∃ y_ : List (S74), y_ = (([] : List (S74))) := ⟨_, rfl⟩
 replace H : (impl_spansOf.l0 k y200 t197 (t197.length : Int) 0) = some r := by (rw [hy200]; with_reducible exact H)
 have Ny200 := kk hy200
 clear hy200
 have H' := kk H
 clear H
 go_enter Try.func63, Try.ntmps63
 go_wp2_with (first | (go_at_call 87; refine (sv_valuesC _ _ _ _).mono ?_; rintro e w' ⟨rfl, rfl⟩) | ((with_reducible refine gate_callee (f := 86) rfl ?_); refine goesL_ (some 10) rfl rfl Try.func86 (by kernel_rfl) rfl #[.func (.func 94) #[] #[.pointer (some ⟨w.heap.size, 0, none⟩)], .func (.func 80) #[] #[]] rfl (by (try simp only [List.map_toArray, List.map_cons, List.map_nil]); rfl) ?_; (with_reducible refine (slices_SortedFunc.calls _ _ l0  t197 _ ?side1 ?side2 A2.1).mono ?_); (case side1 => repeat (exact HR0.1)); (case side2 => exact HC0.1); rintro e w3 ⟨v198, rfl, ho0, hb⟩; refine ⟨_, rfl, ?_⟩; have zx := kk (Kd.R_lower ho0 (below_size HB.1)); replace HB := kk (below_step HB.1 hb)) | ((with_reducible refine gate_dst (N := 11) rfl ?_); refine Kd.R_lit k74 _ 74 rfl (N := 11) rfl (xs := ([] : List (S74))) (inner := []) (ok := fun _ => True) (okp := fun _ => True) ?hr ?hp (fun _ hk => hk) trivial (Below.refl _ _) (Nat.le_refl _) (by simp) ?_; (case hr => go_simp; done); (case hp => exact (Reps.none _ _)); intro v201 w4 ho5 hb hg_ hnew_; clear hg_ hnew_; (rw [← Ny200.1] at ho5); replace zx := kk (zr zx.1 hb); have HO202 := kk (Kd.R_lower ho5 (below_size HB.1)); replace HB := kk (below_step HB.1 hb); clear hb ho5; obtain ⟨Ao6, co6, eo6⟩ := Kd.R_slice zx.1; subst eo6))
 go_loopg [4, 14] k (fun kq v4 v14 w' => ∃ (x4_1 : List (S74)) (zt : Int), v14 = .int .i64 zt ∧ zp (impl_spansOf.l0 kq x4_1 t197 (t197.length : Int) zt = some r) ∧ zp (kq ≤ k) ∧ zp (Kd.R k74 74 w' w.heap.size (fun _ => True) v4 x4_1) ∧ zp (Kd.R k45 45 w' w.heap.size (fun _ => True) (.slice Ao6 t197.length co6) t197) ∧ zp (Below w.heap.size w w'))
 case atStart => exact ⟨(y200), (0), (by rfl), H', ⟨Nat.le_refl _⟩, ⟨by exact HO202.1⟩, ⟨by exact zx.1⟩, ⟨by exact HB.1⟩⟩
 case round =>
  clear H'
  obtain ⟨x4_1, zt, rfl, HA, HK1, HO_4, zv, HB⟩ := hrel
  cases gk with
  | zero => exact absurd HA.1 (by simp [impl_spansOf.l0])
  | succ k1 =>
   have H := HA.1
   clear HA
   simp only [impl_spansOf.l0] at H
   by_cases c7 : zt < (t197.length : Int)
   ·
    rw [if_pos c7] at H
    have c7b0 : decide (zt < (t197.length : Int)) = true := decide_eq_true c7
    clear c7
    by_cases c8 : 0 ≤ zt
    ·
     rw [if_pos c8] at H
     have c8b0 : decide (0 ≤ zt) = true := decide_eq_true c8
     clear c8
     by_cases c9 : zt < (t197.length : Int)
     ·
      rw [if_pos c9] at H
      have c9b0 : decide (zt < (t197.length : Int)) = true := decide_eq_true c9
      clear c9
      have HC10 := kk H
      clear H
      have p203 : 0 ≤ (zt : Int) := of_decide_eq_true (by (with_reducible assumption))
      have q203 : zt < (t197.length : Int) := of_decide_eq_true (by (with_reducible assumption))
      obtain ⟨ad203, e203, hx203_0, hx203_1⟩ := at_T45 (Kd.R_reads' zv.1).2.2 zt p203 q203
      cases e203
      replace p203 := eq_true p203
      replace q203 := eq_true q203
      go_upto_region 7 with (((with_reducible refine gate_dst (N := 6) rfl ?_); refine box_event rfl (N := 6) rfl (cs := #[.int .i64 0, .int .i64 0]) (t := 45) ?hr ?_; (case hr => go_simp; done); intro gb204 hg w11 hbox hb; replace HO_4 := kk (zr HO_4.1 hb); replace zv := kk (zr (Kd.R_elderB zv.1 gb204 (Nat.le_of_eq hg.symm)) hb); have zu := kk hbox; have zw := kk (by rw [hg]; exact (below_size HB.1) : w.heap.size ≤ gb204); replace HB := kk (below_step HB.1 hb); clear hb hbox hg; have hcz12_0 : w11.cell? ⟨gb204, 0, none⟩ = some (.int .i64 0) := (zk zu.1 0).trans rfl; have hcz12_1 : w11.cell? ⟨gb204, 1, none⟩ = some (.int .i64 0) := (zk zu.1 1).trans rfl; have hfz12_0 := blk_frozen zu.1 0; have hfz12_1 := blk_frozen zu.1 1; obtain ⟨Ao13, co13, eo13⟩ := Kd.R_slice HO_4.1; subst eo13))
      (try simp only [kv, kz, ky, kj])
      go_cut [33] (fun v33 wc => ∃ (kq : Nat) (x33_9 : Bool), v33 = .bool x33_9 ∧ zp (impl_spansOf.j1 kq x4_1 (wrap64 ((x4_1.length : Int) - 1)) t197 (t197.length : Int) zt x33_9 ((rd_T45 t197 zt).f0) ((rd_T45 t197 zt).f1) = some r) ∧ zp (kq ≤ k1) ∧ zp (Kd.R k74 74 wc w.heap.size (fun _ => True) (.slice Ao13 x4_1.length co13) x4_1) ∧ zp (Kd.R k45 45 wc w.heap.size (fun k_ => k_ ≠ gb204) (.slice (some ad203) t197.length co6) t197) ∧ zp (wc.heap[gb204]? = some (.cells #[.int .i64 ((rd_T45 t197 zt).f0), .int .i64 ((rd_T45 t197 zt).f1)] 45 (0, 0))) ∧ zp (Below w.heap.size w wc))
      case first =>
       have H := HC10.1
       clear HC10
       by_cases c14 : (wrap64 ((x4_1.length : Int) - 1)) ≥ 0
       ·
        rw [if_pos c14] at H
        have c14b0 : decide (0 ≤ (wrap64 ((x4_1.length : Int) - 1))) = true := decide_eq_true c14
        clear c14
        skip
        obtain ⟨ji15, hji15⟩ : ∃ j_ : Int, (wrap64 ((x4_1.length : Int) - 1)) = j_ := ⟨_, rfl⟩
        replace H : (if 0 ≤ (ji15) then (if (ji15) < (x4_1.length : Int) then (impl_spansOf.j1 k1 x4_1 ji15 t197 (t197.length : Int) zt (decide (((rd_T45 t197 zt).f0) ≤ (wrap64 (((rd_T74 x4_1 (ji15)).f1) + 1)))) ((rd_T45 t197 zt).f0) ((rd_T45 t197 zt).f1)) else (none)) else (none)) = some r := by (rw [hji15] at H; exact H)
        (try rw [hji15] at c14b0)
        have hji15w : (IntKind.i64.wrap ((x4_1.length : Int) - 1)) = ji15 := (zg _).trans hji15
        by_cases c16 : 0 ≤ (ji15)
        ·
         rw [if_pos c16] at H
         have c16b0 : decide (0 ≤ (ji15)) = true := decide_eq_true c16
         clear c16
         by_cases c17 : (ji15) < (x4_1.length : Int)
         ·
          rw [if_pos c17] at H
          have c17b0 : decide ((ji15) < (x4_1.length : Int)) = true := decide_eq_true c17
          clear c17
          have H' := kk H
          clear H
          try go_wp2
          have n0_ : zp (Kd.R k74 74 ((w11.setCell ⟨gb204, 0, none⟩ (.int .i64 ((rd_T45 t197 zt).f0))).setCell ⟨gb204, 1, none⟩ (.int .i64 ((rd_T45 t197 zt).f1))) w.heap.size (fun _ => True) (.slice Ao13 x4_1.length co13) x4_1) := ⟨by exact zq (zs (p := ⟨gb204, 1, none⟩) (zs (p := ⟨gb204, 0, none⟩) (Kd.R_types HO_4.1 zu.1 (by decide)) (fun _ hk => hk.2) _) (fun _ hk => hk.2) _) (fun _ hk => trivial)⟩
          have n1_ : zp (Kd.R k45 45 ((w11.setCell ⟨gb204, 0, none⟩ (.int .i64 ((rd_T45 t197 zt).f0))).setCell ⟨gb204, 1, none⟩ (.int .i64 ((rd_T45 t197 zt).f1))) w.heap.size (fun k_ => k_ ≠ gb204) (.slice (some ad203) t197.length co6) t197) := ⟨by exact zq (zs (p := ⟨gb204, 1, none⟩) (zs (p := ⟨gb204, 0, none⟩) (zq zv.1 (fun k_ hk => (⟨hk, hk.2⟩ : _ ∧ k_ ≠ gb204))) (fun _ hk => hk.2) _) (fun _ hk => hk.2) _) (fun _ hk => hk.1.2)⟩
          have n2_ : zp (((w11.setCell ⟨gb204, 0, none⟩ (.int .i64 ((rd_T45 t197 zt).f0))).setCell ⟨gb204, 1, none⟩ (.int .i64 ((rd_T45 t197 zt).f1))).heap[gb204]? = some (.cells #[.int .i64 ((rd_T45 t197 zt).f0), .int .i64 ((rd_T45 t197 zt).f1)] 45 (0, 0))) := ⟨by refine blk_put (cs := #[.int .i64 ((rd_T45 t197 zt).f0), .int .i64 0]) ?_ 1 _ rfl; refine blk_put (cs := #[.int .i64 0, .int .i64 0]) ?_ 0 _ rfl; exact zu.1⟩
          have n3_ : zp (Below w.heap.size w ((w11.setCell ⟨gb204, 0, none⟩ (.int .i64 ((rd_T45 t197 zt).f0))).setCell ⟨gb204, 1, none⟩ (.int .i64 ((rd_T45 t197 zt).f1)))) := ⟨by repeat ((with_reducible first | exact HB.1 | refine zo ?_ zw.1))⟩
          generalize ((w11.setCell ⟨gb204, 0, none⟩ (.int .i64 ((rd_T45 t197 zt).f0))).setCell ⟨gb204, 1, none⟩ (.int .i64 ((rd_T45 t197 zt).f1))) = w18 at n0_ n1_ n2_ n3_ ⊢
          have HO_4 := n0_
          have zv := n1_
          have zu := n2_
          have HB := n3_
          clear n0_ n1_ n2_ n3_
          replace HO_4 := kk (za HO_4.1)
          replace zv := kk (za zv.1)
          replace zu := kk (zm zu.1)
          replace HB := kk (zc HB.1)
          have p205 : 0 ≤ ((ji15) : Int) := of_decide_eq_true (by (with_reducible assumption))
          have q205 : (ji15) < (x4_1.length : Int) := of_decide_eq_true (by (with_reducible assumption))
          obtain ⟨ad205, e205, hx205_0, hx205_1⟩ := at_T74 (Kd.R_reads' HO_4.1).2.2 (ji15) p205 q205
          cases e205
          replace p205 := eq_true p205
          replace q205 := eq_true q205
          refine start_ (n := 13) (S := fun w' => w'.cell? ⟨gb204, 0, none⟩ = some (.int .i64 ((rd_T45 t197 zt).f0)) ∧ w'.cell? ⟨gb204, 1, none⟩ = some (.int .i64 ((rd_T45 t197 zt).f1)) ∧ w'.cell? (ad205.add (((ji15)).toNat * 2)) = some (.int .i64 ((rd_T74 x4_1 (ji15)).f0)) ∧ w'.cell? ⟨(ad205.add (((ji15)).toNat * 2)).block, (ad205.add (((ji15)).toNat * 2)).off + 1, none⟩ = some (.int .i64 ((rd_T74 x4_1 (ji15)).f1))) (ds := []) #[ke,ke,ke,ke,ke,ke,ke,ke,ke,ke,ke,ke,ke] (by kernel_rfl) rfl rfl ⟨(zk zu.1 0).trans rfl, (zk zu.1 1).trans rfl, hx205_0, hx205_1⟩ (fun hHeld => ?_); refine with_tabW impl_spansOf.tab7 impl_spansOf.bits7 (fun HT_ HW_ => ?_)
          generalize w18.drew = w19 at HO_4 zv zu HB hx205_0 hx205_1 hHeld ⊢
          refine zj (i := 0) (N := some 21) (v := ?_) (a' := ?_) #[kf,ke,ke,ke,ke,ke,ke,ke,ke,ke,ke,ke,ke] rfl rfl (zh HT_.1 (by kernel_rfl)) (fun _ _ _ h => h) (kh ⟨by rfl, ?_⟩) ?_ ?_
          rotate_left
          ·
           intro w'
           go_simp
           with_reducible rfl
          rotate_left
          ·
           simp only [kv, kz, ky, kj, zg, zi]
           rfl
          refine zj (i := 1) (N := some 22) (v := ?_) (a' := ?_) #[kf,kf,ke,ke,ke,ke,ke,ke,ke,ke,ke,ke,ke] rfl rfl (zh HT_.1 (by kernel_rfl)) (fun _ _ _ h => h) (kh ⟨by rfl, ?_⟩) ?_ ?_
          rotate_left
          ·
           intro w'
           go_simp
           with_reducible rfl
          rotate_left
          ·
           simp only [kv, kz, ky, kj, zg, zi]
           rfl
          refine zj (i := 2) (N := some 23) (v := ?_) (a' := ?_) #[kf,kf,kf,ke,ke,ke,ke,ke,ke,ke,ke,ke,ke] rfl rfl (zh HT_.1 (by kernel_rfl)) (fun _ _ _ h => h) (kh ⟨by rfl, ?_⟩) ?_ ?_
          rotate_left
          ·
           intro w'
           go_simp
           with_reducible rfl
          rotate_left
          ·
           simp only [kv, kz, ky, kj, zg, zi]
           rfl
          refine zj (i := 3) (N := some 24) (v := ?_) (a' := ?_) #[kf,kf,kf,kf,ke,ke,ke,ke,ke,ke,ke,ke,ke] rfl rfl (zh HT_.1 (by kernel_rfl)) (fun _ _ _ h => h) (kh ⟨by rfl, ?_⟩) ?_ ?_
          rotate_left
          ·
           intro w'
           go_simp
           with_reducible rfl
          rotate_left
          ·
           simp only [kv, kz, ky, kj, zg, zi]
           rfl
          refine zj (i := 5) (N := some 26) (v := ?_) (a' := ?_) #[kf,kf,kf,kf,ke,kf,ke,ke,ke,ke,ke,ke,ke] rfl rfl (zh HT_.1 (by kernel_rfl)) (fun _ _ _ h => h) (kh ⟨by rfl, ?_⟩) ?_ ?_
          rotate_left
          ·
           intro w'
           go_simp
           with_reducible rfl
          rotate_left
          ·
           simp only [kv, kz, ky, kj, zg, zi]
           rfl
          refine zj (i := 6) (N := some 27) (v := ?_) (a' := ?_) #[kf,kf,kf,kf,ke,kf,kf,ke,ke,ke,ke,ke,ke] rfl rfl (zh HT_.1 (by kernel_rfl)) (fun _ _ _ h => h) (kh ⟨by rfl, ?_⟩) ?_ ?_
          rotate_left
          ·
           intro w'
           go_simp
           with_reducible rfl
          rotate_left
          ·
           simp only [kv, kz, ky, kj, zg, zi]
           rfl
          refine zj (i := 7) (N := some 28) (v := ?_) (a' := ?_) #[kf,kf,kf,kf,ke,kf,kf,kf,ke,ke,ke,ke,ke] rfl rfl (zh HT_.1 (by kernel_rfl)) (fun _ _ _ h => h) (kh ⟨by rfl, ?_⟩) ?_ ?_
          rotate_left
          ·
           intro w'
           go_simp
           with_reducible rfl
          rotate_left
          ·
           simp only [kv, kz, ky, kj, zg, zi]
           rfl
          refine zj (i := 8) (N := some 29) (v := ?_) (a' := ?_) #[kf,kf,kf,kf,ke,kf,kf,kf,kf,ke,ke,ke,ke] rfl rfl (zh HT_.1 (by kernel_rfl)) (fun _ _ _ h => h) (kh ⟨by rfl, ?_⟩) ?_ ?_
          rotate_left
          ·
           intro w'
           go_simp
           with_reducible rfl
          rotate_left
          ·
           simp only [kv, kz, ky, kj, zg, zi]
           rfl
          refine take_ (i := 4) (N := some 25) (v := ?_) (a' := ?_) #[kf,kf,kf,kf,kf,kf,kf,kf,kf,ke,ke,ke,ke] rfl rfl (take_ofW HT_.1 HW_.1 (by kernel_rfl)) (fun _ _ _ h => h) (kh ⟨by rfl, ?_⟩) hHeld ?_ ?_
          rotate_left
          ·
           rintro w' ⟨s0, s1, s2, s3⟩
           go_simp
           with_reducible rfl
          rotate_left
          ·
           simp only [kv, kz, ky, kj, zg, zi]
           rfl
          refine take_ (i := 9) (N := some 30) (v := ?_) (a' := ?_) #[kf,kf,kf,kf,kf,kf,kf,kf,kf,kf,ke,ke,ke] rfl rfl (take_ofW HT_.1 HW_.1 (by kernel_rfl)) (fun _ _ _ h => h) (kh ⟨by rfl, ?_⟩) hHeld ?_ ?_
          rotate_left
          ·
           rintro w' ⟨s0, s1, s2, s3⟩
           go_simp
           with_reducible rfl
          rotate_left
          ·
           simp only [kv, kz, ky, kj, zg, zi]
           rfl
          refine zj (i := 10) (N := some 31) (v := ?_) (a' := ?_) #[kf,kf,kf,kf,kf,kf,kf,kf,kf,kf,kf,ke,ke] rfl rfl (zh HT_.1 (by kernel_rfl)) (fun _ _ _ h => h) (kh ⟨by rfl, ?_⟩) ?_ ?_
          rotate_left
          ·
           intro w'
           go_simp
           with_reducible rfl
          rotate_left
          ·
           simp only [kv, kz, ky, kj, zg, zi]
           rfl
          refine zj (i := 11) (N := some 32) (v := ?_) (a' := ?_) #[kf,kf,kf,kf,kf,kf,kf,kf,kf,kf,kf,kf,ke] rfl rfl (zh HT_.1 (by kernel_rfl)) (fun _ _ _ h => h) (kh ⟨by rfl, ?_⟩) ?_ ?_
          rotate_left
          ·
           intro w'
           go_simp
           with_reducible rfl
          rotate_left
          ·
           simp only [kv, kz, ky, kj, zg, zi]
           rfl
          refine zj (i := 12) (N := some 33) (v := ?_) (a' := ?_) #[kf,kf,kf,kf,kf,kf,kf,kf,kf,kf,kf,kf,kf] rfl rfl (zh HT_.1 (by kernel_rfl)) (fun _ _ _ h => h) (kh ⟨by rfl, ?_⟩) ?_ ?_
          rotate_left
          ·
           intro w'
           go_simp
           with_reducible rfl
          rotate_left
          ·
           simp only [kv, kz, ky, kj, zg, zi]
           rfl
          refine done_ (done_of HT_.1 (by kernel_rfl)) ?_
          try go_wp2
          (try simp only [← hji15])
          go_meet
          case rel => exact ⟨_, (decide (((rd_T45 t197 zt).f0) ≤ (wrap64 (((rd_T74 x4_1 (ji15)).f1) + 1)))), (by (simp only [← hji15] <;> (fail))), (by rw [hji15]; exact H'), ⟨by have := HK1.1; omega⟩, ⟨by exact HO_4.1⟩, ⟨by exact zv.1⟩, ⟨by exact zu.1⟩, ⟨by exact HB.1⟩⟩
         ·
          rw [if_neg c17] at H
          exact absurd H (by simp)
        ·
         rw [if_neg c16] at H
         exact absurd H (by simp)
       ·
        rw [if_neg c14] at H
        have c14b0 : decide (0 ≤ (wrap64 ((x4_1.length : Int) - 1))) = false := decide_eq_false c14
        clear c14
        skip
        have H' := kk H
        clear H
        try go_wp2
        have n0_ : zp (Kd.R k74 74 ((w11.setCell ⟨gb204, 0, none⟩ (.int .i64 ((rd_T45 t197 zt).f0))).setCell ⟨gb204, 1, none⟩ (.int .i64 ((rd_T45 t197 zt).f1))) w.heap.size (fun _ => True) (.slice Ao13 x4_1.length co13) x4_1) := ⟨by exact zq (zs (p := ⟨gb204, 1, none⟩) (zs (p := ⟨gb204, 0, none⟩) (Kd.R_types HO_4.1 zu.1 (by decide)) (fun _ hk => hk.2) _) (fun _ hk => hk.2) _) (fun _ hk => trivial)⟩
        have n1_ : zp (Kd.R k45 45 ((w11.setCell ⟨gb204, 0, none⟩ (.int .i64 ((rd_T45 t197 zt).f0))).setCell ⟨gb204, 1, none⟩ (.int .i64 ((rd_T45 t197 zt).f1))) w.heap.size (fun k_ => k_ ≠ gb204) (.slice (some ad203) t197.length co6) t197) := ⟨by exact zq (zs (p := ⟨gb204, 1, none⟩) (zs (p := ⟨gb204, 0, none⟩) (zq zv.1 (fun k_ hk => (⟨hk, hk.2⟩ : _ ∧ k_ ≠ gb204))) (fun _ hk => hk.2) _) (fun _ hk => hk.2) _) (fun _ hk => hk.1.2)⟩
        have n2_ : zp (((w11.setCell ⟨gb204, 0, none⟩ (.int .i64 ((rd_T45 t197 zt).f0))).setCell ⟨gb204, 1, none⟩ (.int .i64 ((rd_T45 t197 zt).f1))).heap[gb204]? = some (.cells #[.int .i64 ((rd_T45 t197 zt).f0), .int .i64 ((rd_T45 t197 zt).f1)] 45 (0, 0))) := ⟨by refine blk_put (cs := #[.int .i64 ((rd_T45 t197 zt).f0), .int .i64 0]) ?_ 1 _ rfl; refine blk_put (cs := #[.int .i64 0, .int .i64 0]) ?_ 0 _ rfl; exact zu.1⟩
        have n3_ : zp (Below w.heap.size w ((w11.setCell ⟨gb204, 0, none⟩ (.int .i64 ((rd_T45 t197 zt).f0))).setCell ⟨gb204, 1, none⟩ (.int .i64 ((rd_T45 t197 zt).f1)))) := ⟨by repeat ((with_reducible first | exact HB.1 | refine zo ?_ zw.1))⟩
        generalize ((w11.setCell ⟨gb204, 0, none⟩ (.int .i64 ((rd_T45 t197 zt).f0))).setCell ⟨gb204, 1, none⟩ (.int .i64 ((rd_T45 t197 zt).f1))) = w20 at n0_ n1_ n2_ n3_ ⊢
        have HO_4 := n0_
        have zv := n1_
        have zu := n2_
        have HB := n3_
        clear n0_ n1_ n2_ n3_
        replace HO_4 := kk (za HO_4.1)
        replace zv := kk (za zv.1)
        replace zu := kk (zm zu.1)
        replace HB := kk (zc HB.1)
        refine start_ (n := 13) (S := fun w' => True) (ds := []) #[ke,ke,ke,ke,ke,ke,ke,ke,ke,ke,ke,ke,ke] (by kernel_rfl) rfl rfl trivial (fun hHeld => ?_); refine with_tabW impl_spansOf.tab7 impl_spansOf.bits7 (fun HT_ HW_ => ?_)
        generalize w20.drew = w21 at HO_4 zv zu HB hHeld ⊢
        refine zj (i := 0) (N := some 21) (v := ?_) (a' := ?_) #[kf,ke,ke,ke,ke,ke,ke,ke,ke,ke,ke,ke,ke] rfl rfl (zh HT_.1 (by kernel_rfl)) (fun _ _ _ h => h) (kh ⟨by rfl, ?_⟩) ?_ ?_
        rotate_left
        ·
         intro w'
         go_simp
         with_reducible rfl
        rotate_left
        ·
         simp only [kv, kz, ky, kj, zg, zi]
         rfl
        refine zj (i := 1) (N := some 22) (v := ?_) (a' := ?_) #[kf,kf,ke,ke,ke,ke,ke,ke,ke,ke,ke,ke,ke] rfl rfl (zh HT_.1 (by kernel_rfl)) (fun _ _ _ h => h) (kh ⟨by rfl, ?_⟩) ?_ ?_
        rotate_left
        ·
         intro w'
         go_simp
         with_reducible rfl
        rotate_left
        ·
         simp only [kv, kz, ky, kj, zg, zi]
         rfl
        refine zj (i := 2) (N := some 23) (v := ?_) (a' := ?_) #[kf,kf,kf,ke,ke,ke,ke,ke,ke,ke,ke,ke,ke] rfl rfl (zh HT_.1 (by kernel_rfl)) (fun _ _ _ h => h) (kh ⟨by rfl, ?_⟩) ?_ ?_
        rotate_left
        ·
         intro w'
         go_simp
         with_reducible rfl
        rotate_left
        ·
         simp only [kv, kz, ky, kj, zg, zi]
         rfl
        refine zj (i := 3) (N := some 24) (v := undef) (a' := ?_) #[kf,kf,kf,kf,ke,ke,ke,ke,ke,ke,ke,ke,ke] rfl rfl (zh HT_.1 (by kernel_rfl)) (fun _ _ _ h => h) (Or.inr ⟨by rfl, rfl⟩) ?_ ?_
        rotate_left
        ·
         simp only [kv, kz, ky, kj, zg, zi]
         rfl
        refine zj (i := 4) (N := some 25) (v := undef) (a' := ?_) #[kf,kf,kf,kf,kf,ke,ke,ke,ke,ke,ke,ke,ke] rfl rfl (zh HT_.1 (by kernel_rfl)) (fun _ _ _ h => h) (Or.inr ⟨by rfl, rfl⟩) ?_ ?_
        rotate_left
        ·
         simp only [kv, kz, ky, kj, zg, zi]
         rfl
        refine zj (i := 5) (N := some 26) (v := undef) (a' := ?_) #[kf,kf,kf,kf,kf,kf,ke,ke,ke,ke,ke,ke,ke] rfl rfl (zh HT_.1 (by kernel_rfl)) (fun _ _ _ h => h) (Or.inr ⟨by rfl, rfl⟩) ?_ ?_
        rotate_left
        ·
         simp only [kv, kz, ky, kj, zg, zi]
         rfl
        refine zj (i := 6) (N := some 27) (v := undef) (a' := ?_) #[kf,kf,kf,kf,kf,kf,kf,ke,ke,ke,ke,ke,ke] rfl rfl (zh HT_.1 (by kernel_rfl)) (fun _ _ _ h => h) (Or.inr ⟨by rfl, rfl⟩) ?_ ?_
        rotate_left
        ·
         simp only [kv, kz, ky, kj, zg, zi]
         rfl
        refine zj (i := 7) (N := some 28) (v := undef) (a' := ?_) #[kf,kf,kf,kf,kf,kf,kf,kf,ke,ke,ke,ke,ke] rfl rfl (zh HT_.1 (by kernel_rfl)) (fun _ _ _ h => h) (Or.inr ⟨by rfl, rfl⟩) ?_ ?_
        rotate_left
        ·
         simp only [kv, kz, ky, kj, zg, zi]
         rfl
        refine zj (i := 8) (N := some 29) (v := undef) (a' := ?_) #[kf,kf,kf,kf,kf,kf,kf,kf,kf,ke,ke,ke,ke] rfl rfl (zh HT_.1 (by kernel_rfl)) (fun _ _ _ h => h) (Or.inr ⟨by rfl, rfl⟩) ?_ ?_
        rotate_left
        ·
         simp only [kv, kz, ky, kj, zg, zi]
         rfl
        refine zj (i := 9) (N := some 30) (v := undef) (a' := ?_) #[kf,kf,kf,kf,kf,kf,kf,kf,kf,kf,ke,ke,ke] rfl rfl (zh HT_.1 (by kernel_rfl)) (fun _ _ _ h => h) (Or.inr ⟨by rfl, rfl⟩) ?_ ?_
        rotate_left
        ·
         simp only [kv, kz, ky, kj, zg, zi]
         rfl
        refine zj (i := 10) (N := some 31) (v := undef) (a' := ?_) #[kf,kf,kf,kf,kf,kf,kf,kf,kf,kf,kf,ke,ke] rfl rfl (zh HT_.1 (by kernel_rfl)) (fun _ _ _ h => h) (Or.inr ⟨by rfl, rfl⟩) ?_ ?_
        rotate_left
        ·
         simp only [kv, kz, ky, kj, zg, zi]
         rfl
        refine zj (i := 11) (N := some 32) (v := undef) (a' := ?_) #[kf,kf,kf,kf,kf,kf,kf,kf,kf,kf,kf,kf,ke] rfl rfl (zh HT_.1 (by kernel_rfl)) (fun _ _ _ h => h) (Or.inr ⟨by rfl, rfl⟩) ?_ ?_
        rotate_left
        ·
         simp only [kv, kz, ky, kj, zg, zi]
         rfl
        refine zj (i := 12) (N := some 33) (v := ?_) (a' := ?_) #[kf,kf,kf,kf,kf,kf,kf,kf,kf,kf,kf,kf,kf] rfl rfl (zh HT_.1 (by kernel_rfl)) (fun _ _ _ h => h) (kh ⟨by rfl, ?_⟩) ?_ ?_
        rotate_left
        ·
         intro w'
         go_simp
         with_reducible rfl
        rotate_left
        ·
         simp only [kv, kz, ky, kj, zg, zi]
         rfl
        refine done_ (done_of HT_.1 (by kernel_rfl)) ?_
        try go_wp2
        go_meet
        case rel => exact ⟨_, (false), (by rfl), H', ⟨by have := HK1.1; omega⟩, ⟨by exact HO_4.1⟩, ⟨by exact zv.1⟩, ⟨by exact zu.1⟩, ⟨by exact HB.1⟩⟩
      case rest =>
       clear HC10
       obtain ⟨kq, x33_9, rfl, HA, HJ9, HO_4, zv, zu, HB⟩ := hcut
       cases kq with
       | zero => exact absurd HA.1 (by simp [impl_spansOf.j1])
       | succ kj9 =>
        have H := HA.1
        clear HA
        simp only [impl_spansOf.j1] at H
        by_cases c22 : x33_9 = true
        ·
         subst c22
         have H1 : (if 0 ≤ (wrap64 ((x4_1.length : Int) - 1)) then (if (wrap64 ((x4_1.length : Int) - 1)) < (x4_1.length : Int) then ((impl_Prefix_end.f ((rd_T45 t197 zt).f0) ((rd_T45 t197 zt).f1)).bind fun t207 => (impl_spansOf.l0 kj9 (x4_1.set ((wrap64 ((x4_1.length : Int) - 1)) : Int).toNat (⟨(rd_T74 x4_1 (wrap64 ((x4_1.length : Int) - 1))).f0, mx ((rd_T74 x4_1 (wrap64 ((x4_1.length : Int) - 1))).f1) t207⟩ : S74)) t197 (t197.length : Int) (wrap64 (zt + 1)))) else (none)) else (none)) = some r := by rw [if_pos rfl] at H; exact H
         clear H
         have H := H1
         clear H1
         obtain ⟨ji23, hji23⟩ : ∃ j_ : Int, (wrap64 ((x4_1.length : Int) - 1)) = j_ := ⟨_, rfl⟩
         replace H : (if 0 ≤ (ji23) then (if (ji23) < (x4_1.length : Int) then ((impl_Prefix_end.f ((rd_T45 t197 zt).f0) ((rd_T45 t197 zt).f1)).bind fun t207 => (impl_spansOf.l0 kj9 (x4_1.set ((ji23) : Int).toNat (⟨(rd_T74 x4_1 (ji23)).f0, mx ((rd_T74 x4_1 (ji23)).f1) t207⟩ : S74)) t197 (t197.length : Int) (wrap64 (zt + 1)))) else (none)) else (none)) = some r := by (rw [hji23] at H; exact H)
         have hji23w : (IntKind.i64.wrap ((x4_1.length : Int) - 1)) = ji23 := (zg _).trans hji23
         by_cases c24 : 0 ≤ (ji23)
         ·
          rw [if_pos c24] at H
          have c24b0 : decide (0 ≤ (ji23)) = true := decide_eq_true c24
          clear c24
          by_cases c25 : (ji23) < (x4_1.length : Int)
          ·
           rw [if_pos c25] at H
           have c25b0 : decide ((ji23) < (x4_1.length : Int)) = true := decide_eq_true c25
           clear c25
           replace H := kg.mp H
           obtain ⟨t207, A260, H⟩ := H
           replace H : (impl_spansOf.l0 kj9 (x4_1.set ((ji23) : Int).toNat (⟨(rd_T74 x4_1 (ji23)).f0, mx ((rd_T74 x4_1 (ji23)).f1) t207⟩ : S74)) t197 (t197.length : Int) (wrap64 (zt + 1))) = some r := H
           have A26 := kk A260
           clear A260
           obtain ⟨ji27, hji27⟩ : ∃ j_ : Int, (mx ((rd_T74 x4_1 (ji23)).f1) t207) = j_ := ⟨_, rfl⟩
           replace H : (impl_spansOf.l0 kj9 (x4_1.set ((ji23) : Int).toNat (⟨(rd_T74 x4_1 (ji23)).f0, ji27⟩ : S74)) t197 (t197.length : Int) (wrap64 (zt + 1))) = some r := by (rw [hji27] at H; exact H)
           (try rw [hji27] at A26)
           have hji27_ : (if ((rd_T74 x4_1 (ji23)).f1) < t207 then t207 else ((rd_T74 x4_1 (ji23)).f1)) = ji27 := hji27
           obtain ⟨y208, hy208⟩ : ∃ y_ : List (S74), y_ = (x4_1.set ((ji23) : Int).toNat (⟨(rd_T74 x4_1 (ji23)).f0, ji27⟩ : S74)) := ⟨_, rfl⟩
           replace H : (impl_spansOf.l0 kj9 y208 t197 (t197.length : Int) (wrap64 (zt + 1))) = some r := by (rw [hy208]; with_reducible exact H)
           have Ny208 := kk hy208
           clear hy208
           have H' := kk H
           clear H
           try go_wp2
           replace HO_4 := kk (za HO_4.1)
           replace zv := kk (za zv.1)
           replace zu := kk (zm zu.1)
           replace HB := kk (zc HB.1)
           have p206 : 0 ≤ ((ji23) : Int) := of_decide_eq_true (by (with_reducible assumption))
           have q206 : (ji23) < (x4_1.length : Int) := of_decide_eq_true (by (with_reducible assumption))
           obtain ⟨ad206, e206, hx206_0, hx206_1⟩ := at_T74 (Kd.R_reads' HO_4.1).2.2 (ji23) p206 q206
           cases e206
           replace p206 := eq_true p206
           replace q206 := eq_true q206
           refine start_ (n := 13) (S := fun w' => w'.cell? ⟨gb204, 0, none⟩ = some (.int .i64 ((rd_T45 t197 zt).f0)) ∧ w'.cell? ⟨gb204, 1, none⟩ = some (.int .i64 ((rd_T45 t197 zt).f1)) ∧ w'.cell? (ad206.add (((ji23)).toNat * 2)) = some (.int .i64 ((rd_T74 x4_1 (ji23)).f0)) ∧ w'.cell? ⟨(ad206.add (((ji23)).toNat * 2)).block, (ad206.add (((ji23)).toNat * 2)).off + 1, none⟩ = some (.int .i64 ((rd_T74 x4_1 (ji23)).f1))) (ds := [12]) #[ke,ke,ke,ke,ke,ke,ke,ke,ke,ke,ke,ke,ke] (by kernel_rfl) rfl rfl ⟨(zk zu.1 0).trans rfl, (zk zu.1 1).trans rfl, hx206_0, hx206_1⟩ (fun hHeld => ?_); refine with_tabW impl_spansOf.tab8 impl_spansOf.bits8 (fun HT_ HW_ => ?_)
           generalize wc.drew = w29 at HO_4 zv zu HB hx206_0 hx206_1 hHeld ⊢
           refine zj (i := 0) (N := some 34) (v := ?_) (a' := ?_) #[kf,ke,ke,ke,ke,ke,ke,ke,ke,ke,ke,ke,ke] rfl rfl (zh HT_.1 (by kernel_rfl)) (fun _ _ _ h => h) (kh ⟨by rfl, ?_⟩) ?_ ?_
           rotate_left
           ·
            intro w'
            go_simp
            with_reducible rfl
           rotate_left
           ·
            simp only [kv, kz, ky, kj, zg, zi]
            rfl
           refine zj (i := 1) (N := some 35) (v := ?_) (a' := ?_) #[kf,kf,ke,ke,ke,ke,ke,ke,ke,ke,ke,ke,ke] rfl rfl (zh HT_.1 (by kernel_rfl)) (fun _ _ _ h => h) (kh ⟨by rfl, ?_⟩) ?_ ?_
           rotate_left
           ·
            intro w'
            go_simp
            with_reducible rfl
           rotate_left
           ·
            simp only [kv, kz, ky, kj, zg, zi]
            rfl
           refine zj (i := 2) (N := some 36) (v := ?_) (a' := ?_) #[kf,kf,kf,ke,ke,ke,ke,ke,ke,ke,ke,ke,ke] rfl rfl (zh HT_.1 (by kernel_rfl)) (fun _ _ _ h => h) (kh ⟨by rfl, ?_⟩) ?_ ?_
           rotate_left
           ·
            intro w'
            go_simp
            with_reducible rfl
           rotate_left
           ·
            simp only [kv, kz, ky, kj, zg, zi]
            rfl
           refine zj (i := 3) (N := some 37) (v := ?_) (a' := ?_) #[kf,kf,kf,kf,ke,ke,ke,ke,ke,ke,ke,ke,ke] rfl rfl (zh HT_.1 (by kernel_rfl)) (fun _ _ _ h => h) (kh ⟨by rfl, ?_⟩) ?_ ?_
           rotate_left
           ·
            intro w'
            go_simp
            with_reducible rfl
           rotate_left
           ·
            simp only [kv, kz, ky, kj, zg, zi]
            rfl
           refine zj (i := 4) (N := some 38) (v := ?_) (a' := ?_) #[kf,kf,kf,kf,kf,ke,ke,ke,ke,ke,ke,ke,ke] rfl rfl (zh HT_.1 (by kernel_rfl)) (fun _ _ _ h => h) (kh ⟨by rfl, ?_⟩) ?_ ?_
           rotate_left
           ·
            intro w'
            go_simp
            with_reducible rfl
           rotate_left
           ·
            simp only [kv, kz, ky, kj, zg, zi]
            rfl
           refine zj (i := 5) (N := some 39) (v := ?_) (a' := ?_) #[kf,kf,kf,kf,kf,kf,ke,ke,ke,ke,ke,ke,ke] rfl rfl (zh HT_.1 (by kernel_rfl)) (fun _ _ _ h => h) (kh ⟨by rfl, ?_⟩) ?_ ?_
           rotate_left
           ·
            intro w'
            go_simp
            with_reducible rfl
           rotate_left
           ·
            simp only [kv, kz, ky, kj, zg, zi]
            rfl
           refine take_ (i := 6) (N := some 40) (v := ?_) (a' := ?_) #[kf,kf,kf,kf,kf,kf,kf,ke,ke,ke,ke,ke,ke] rfl rfl (take_ofW HT_.1 HW_.1 (by kernel_rfl)) (fun _ _ _ h => h) (kh ⟨by rfl, ?_⟩) hHeld ?_ ?_
           rotate_left
           ·
            rintro w' ⟨s0, s1, s2, s3⟩
            go_simp
            with_reducible rfl
           rotate_left
           ·
            simp only [kv, kz, ky, kj, zg, zi]
            rfl
           refine take_ (i := 7) (N := some 41) (v := ?_) (a' := ?_) #[kf,kf,kf,kf,kf,kf,kf,kf,ke,ke,ke,ke,ke] rfl rfl (take_ofW HT_.1 HW_.1 (by kernel_rfl)) (fun _ _ _ h => h) (kh ⟨by rfl, ?_⟩) hHeld ?_ ?_
           rotate_left
           ·
            rintro w' ⟨s0, s1, s2, s3⟩
            go_simp
            with_reducible rfl
           rotate_left
           ·
            simp only [kv, kz, ky, kj, zg, zi]
            rfl
           refine one_ (i := 8) (N := some 42) #[kf,kf,kf,kf,kf,kf,kf,kf,kf,ke,ke,ke,ke] rfl rfl (one_of HT_.1 (by kernel_rfl)) (by decide) (fun K hK => ?_)
           refine goes_ Try.func71 (by kernel_rfl) rfl #[.agg #[.int .i64 ((rd_T45 t197 zt).f0), .int .i64 ((rd_T45 t197 zt).f1)]] (by rfl) rfl rfl (by (try simp only [List.map_toArray, List.map_cons, List.map_nil]); rfl) ?_
           with_reducible refine (impl_Prefix_end.calls ((rd_T45 t197 zt).f0) ((rd_T45 t197 zt).f1) t207 _ A26.1).mono ?_
           rintro e w30 ⟨rfl, hb⟩
           have HS2_ := (hb.cell (World.block_lt_of_cell? _ _ (hHeld.2.2.1))).trans (hHeld.2.2.1)
           have HS3_ := (hb.cell (World.block_lt_of_cell? _ _ (hHeld.2.2.2))).trans (hHeld.2.2.2)
           refine ⟨_, rfl, ?_⟩
           replace HO_4 := kk (zr HO_4.1 hb)
           replace zv := kk (zr zv.1 hb)
           replace zu := kk (blk_below zu.1 hb)
           replace HB := kk (below_step HB.1 hb)
           have p28 : 0 ≤ ((ji23) : Int) := of_decide_eq_true (by (with_reducible assumption))
           have q28 : ((ji23) : Int) < ((x4_1.length : Int) : Int) := of_decide_eq_true (by (with_reducible assumption))
           obtain ⟨go28, co28, eo28, gb28, gl28, cl28, HG28⟩ := Kd.R_form HO_4.1 (by omega)
           (cases eo28)
           have GB28 := kk gb28
           have GG28 := kk HG28
           clear gb28 gl28 HG28
           (simp only [add_plain] at hx206_0)
           (simp only [add_plain] at hx206_1)
           obtain ⟨ce28, hcl28, hM28, hcc28, hfr28⟩ := Kd.R_elem HO_4.1 z74 ((ji23) : Int) p28 q28
           obtain rfl := k74_openM hM28
           have hx28_0 : World.cell? _ ⟨go28, ((ji23) : Int).toNat * 2, none⟩ = some (.int .i64 ((rd_T74 x4_1 (ji23)).f0)) := hcc28 0 _ rfl
           have hx28_1 : World.cell? _ ⟨go28, ((ji23) : Int).toNat * 2 + 1, none⟩ = some (.int .i64 ((rd_T74 x4_1 (ji23)).f1)) := hcc28 1 _ rfl
           have hf28_0 : World.frozen? _ ⟨go28, ((ji23) : Int).toNat * 2, none⟩ = false := hfr28 0
           have hf28_1 : World.frozen? _ ⟨go28, ((ji23) : Int).toNat * 2 + 1, none⟩ = false := hfr28 1
           clear hcl28 hcc28 hfr28 hM28
           replace p28 := eq_true p28
           replace q28 := eq_true q28
           obtain ⟨ce31, hcl31, hM31, hcc31, hfr31⟩ := Kd.R_elem HO_4.1 z74 ((ji23) : Int) (of_decide_eq_true (by (with_reducible assumption))) (by have h_ : ((ji23) : Int) < ((x4_1.length : Int) : Int) := of_decide_eq_true (by (with_reducible assumption)); exact h_)
           obtain rfl := k74_openM hM31
           have HP31 := (Kd.R_seg HO_4.1 ((ji23) : Int) (of_decide_eq_true (by (with_reducible assumption))) (by have h_ : ((ji23) : Int) < ((x4_1.length : Int) : Int) := of_decide_eq_true (by (with_reducible assumption)); exact h_) (seg := [.int .i64 ji27]) (j := 1) hcl31 hcc31 (show 2 ≤ 2 from by decide) (x' := (⟨(rd_T74 x4_1 (ji23)).f0, ji27⟩ : S74)) (k74_mkM _ _ _ (⟨(rd_T74 x4_1 (ji23)).f0, ji27⟩ : S74) ) (fun _ hk => hk)).1
           rw [← Ny208.1] at HP31
           have HQ31 := kk HP31
           clear hcl31 hcc31 hfr31 hM31 HP31
           refine hK.out _ _ ⟨(zk zu.1 0).trans rfl, (zk zu.1 1).trans rfl, HS2_, HS3_⟩ (fun hHeld => ?_)
           clear hK K
           refine norm_ (a' := ?_) ?_ ?_
           rotate_left
           ·
            show kv _ (some 42) _ = _
            simp only [kv, kz, ky, kj, zg, zi]
            rfl
           refine zj (i := 9) (N := some 43) (v := ?_) (a' := ?_) #[kf,kf,kf,kf,kf,kf,kf,kf,kf,kf,ke,ke,ke] rfl rfl (zh HT_.1 (by kernel_rfl)) (fun _ _ _ h => h) (kh ⟨by rfl, ?_⟩) ?_ ?_
           rotate_left
           ·
            intro w'
            go_simp
            with_reducible rfl
           rotate_left
           ·
            simp only [kv, kz, ky, kj, zg, zi]
            rfl
           refine zj (i := 10) (N := some 44) (v := ?_) (a' := ?_) #[kf,kf,kf,kf,kf,kf,kf,kf,kf,kf,kf,ke,ke] rfl rfl (zh HT_.1 (by kernel_rfl)) (fun _ _ _ h => h) (kh ⟨by rfl, ?_⟩) ?_ ?_
           rotate_left
           ·
            intro w'
            go_simp
            with_reducible rfl
           rotate_left
           ·
            simp only [kv, kz, ky, kj, zg, zi]
            rfl
           refine zj (i := 11) (N := some 45) (v := ?_) (a' := ?_) #[kf,kf,kf,kf,kf,kf,kf,kf,kf,kf,kf,kf,ke] rfl rfl (zh HT_.1 (by kernel_rfl)) (fun _ _ _ h => h) (kh ⟨by rfl, ?_⟩) ?_ ?_
           rotate_left
           ·
            intro w'
            go_simp
            with_reducible rfl
           rotate_left
           ·
            simp only [kv, kz, ky, kj, zg, zi]
            rfl
           refine last_ (i := 12) (N := none) #[kf,kf,kf,kf,kf,kf,kf,kf,kf,kf,kf,kf,kf] rfl rfl (one_of HT_.1 (by kernel_rfl)) (by decide) (fun K hK => ?_)
           refine skip_ (w1 := ?_) (by rfl) rfl ?_ ?_
           rotate_left
           ·
            go_simp
            rfl
           refine hK.out _ _ ?_
           clear hK K
           refine done_ (done_of HT_.1 (by kernel_rfl)) ?_
           try go_wp2
           go_roundg kj9
           case measure => have := HK1.1; have := HJ9.1; omega
           case rel => exact ⟨(y208), (wrap64 (zt + 1)), (by rfl), H', ⟨by have := HK1.1; have := HJ9.1; omega⟩, ⟨by exact HQ31.1⟩, ⟨by exact zq (zs (p := ⟨go28, ((ji23) : Int).toNat * 2 + 1, none⟩) (Kd.R_types zv.1 GG28.1 (by decide)) (fun _ hk => hk.2) _) (fun _ hk => trivial)⟩, ⟨by repeat ((with_reducible first | exact HB.1 | refine zo ?_ GB28.1))⟩⟩
          ·
           rw [if_neg c25] at H
           exact absurd H (by simp)
         ·
          rw [if_neg c24] at H
          exact absurd H (by simp)
        ·
         replace c22 := Bool.eq_false_iff.mpr c22
         subst c22
         have H1 : ((impl_Prefix_end.f ((rd_T45 t197 zt).f0) ((rd_T45 t197 zt).f1)).bind fun t209 => (if x4_1.length < 8796093022208 then (impl_spansOf.l0 kj9 (x4_1 ++ [(⟨((rd_T45 t197 zt).f0), t209⟩ : S74)]) t197 (t197.length : Int) (wrap64 (zt + 1))) else (none))) = some r := by rw [if_neg (show ¬ (false = true) by decide)] at H; exact H
         clear H
         have H := H1
         clear H1
         replace H := kg.mp H
         obtain ⟨t209, A320, H⟩ := H
         replace H : (if x4_1.length < 8796093022208 then (impl_spansOf.l0 kj9 (x4_1 ++ [(⟨((rd_T45 t197 zt).f0), t209⟩ : S74)]) t197 (t197.length : Int) (wrap64 (zt + 1))) else (none)) = some r := H
         have A32 := kk A320
         clear A320
         by_cases c33 : x4_1.length < 8796093022208
         ·
          rw [if_pos c33] at H
          have LMc33 := kk c33
          clear c33
          obtain ⟨y210, hy210⟩ : ∃ y_ : List (S74), y_ = (x4_1 ++ [(⟨((rd_T45 t197 zt).f0), t209⟩ : S74)]) := ⟨_, rfl⟩
          replace H : (impl_spansOf.l0 kj9 y210 t197 (t197.length : Int) (wrap64 (zt + 1))) = some r := by (rw [hy210]; with_reducible exact H)
          have Ny210 := kk hy210
          clear hy210
          have H' := kk H
          clear H
          try go_wp2
          replace HO_4 := kk (za HO_4.1)
          replace zv := kk (za zv.1)
          replace zu := kk (zm zu.1)
          replace HB := kk (zc HB.1)
          refine start_ (n := 9) (S := fun w' => w'.cell? ⟨gb204, 0, none⟩ = some (.int .i64 ((rd_T45 t197 zt).f0)) ∧ w'.cell? ⟨gb204, 1, none⟩ = some (.int .i64 ((rd_T45 t197 zt).f1))) (ds := []) #[ke,ke,ke,ke,ke,ke,ke,ke,ke] (by kernel_rfl) rfl rfl ⟨(zk zu.1 0).trans rfl, (zk zu.1 1).trans rfl⟩ (fun hHeld => ?_); refine with_tabW impl_spansOf.tab9 impl_spansOf.bits9 (fun HT_ HW_ => ?_)
          generalize wc.drew = w34 at HO_4 zv zu HB hHeld ⊢
          refine zj (i := 0) (N := some 46) (v := ?_) (a' := ?_) #[kf,ke,ke,ke,ke,ke,ke,ke,ke] rfl rfl (zh HT_.1 (by kernel_rfl)) (fun _ _ _ h => h) (kh ⟨by rfl, ?_⟩) ?_ ?_
          rotate_left
          ·
           intro w'
           go_simp
           with_reducible rfl
          rotate_left
          ·
           simp only [kv, kz, ky, kj, zg, zi]
           rfl
          refine zj (i := 1) (N := some 47) (v := ?_) (a' := ?_) #[kf,kf,ke,ke,ke,ke,ke,ke,ke] rfl rfl (zh HT_.1 (by kernel_rfl)) (fun _ _ _ h => h) (kh ⟨by rfl, ?_⟩) ?_ ?_
          rotate_left
          ·
           intro w'
           go_simp
           with_reducible rfl
          rotate_left
          ·
           simp only [kv, kz, ky, kj, zg, zi]
           rfl
          refine take_ (i := 2) (N := some 48) (v := ?_) (a' := ?_) #[kf,kf,kf,ke,ke,ke,ke,ke,ke] rfl rfl (take_ofW HT_.1 HW_.1 (by kernel_rfl)) (fun _ _ _ h => h) (kh ⟨by rfl, ?_⟩) hHeld ?_ ?_
          rotate_left
          ·
           rintro w' ⟨s0, s1⟩
           go_simp
           with_reducible rfl
          rotate_left
          ·
           simp only [kv, kz, ky, kj, zg, zi]
           rfl
          refine take_ (i := 3) (N := some 49) (v := ?_) (a' := ?_) #[kf,kf,kf,kf,ke,ke,ke,ke,ke] rfl rfl (take_ofW HT_.1 HW_.1 (by kernel_rfl)) (fun _ _ _ h => h) (kh ⟨by rfl, ?_⟩) hHeld ?_ ?_
          rotate_left
          ·
           rintro w' ⟨s0, s1⟩
           go_simp
           with_reducible rfl
          rotate_left
          ·
           simp only [kv, kz, ky, kj, zg, zi]
           rfl
          refine one_ (i := 4) (N := some 50) #[kf,kf,kf,kf,kf,ke,ke,ke,ke] rfl rfl (one_of HT_.1 (by kernel_rfl)) (by decide) (fun K hK => ?_)
          refine goes_ Try.func71 (by kernel_rfl) rfl #[.agg #[.int .i64 ((rd_T45 t197 zt).f0), .int .i64 ((rd_T45 t197 zt).f1)]] (by rfl) rfl rfl (by (try simp only [List.map_toArray, List.map_cons, List.map_nil]); rfl) ?_
          with_reducible refine (impl_Prefix_end.calls ((rd_T45 t197 zt).f0) ((rd_T45 t197 zt).f1) t209 _ A32.1).mono ?_
          rintro e w35 ⟨rfl, hb⟩
          refine ⟨_, rfl, ?_⟩
          replace HO_4 := kk (zr HO_4.1 hb)
          replace zv := kk (zr zv.1 hb)
          replace zu := kk (blk_below zu.1 hb)
          replace HB := kk (below_step HB.1 hb)
          refine hK.out _ _ ⟨(zk zu.1 0).trans rfl, (zk zu.1 1).trans rfl⟩ (fun hHeld => ?_)
          clear hK K
          refine norm_ (a' := ?_) ?_ ?_
          rotate_left
          ·
           show kv _ (some 50) _ = _
           simp only [kv, kz, ky, kj, zg, zi]
           rfl
          refine zj (i := 5) (N := some 51) (v := ?_) (a' := ?_) #[kf,kf,kf,kf,kf,kf,ke,ke,ke] rfl rfl (zh HT_.1 (by kernel_rfl)) (fun _ _ _ h => h) (kh ⟨by rfl, ?_⟩) ?_ ?_
          rotate_left
          ·
           intro w'
           go_simp
           with_reducible rfl
          rotate_left
          ·
           simp only [kv, kz, ky, kj, zg, zi]
           rfl
          refine one_ (i := 6) (N := some 52) #[kf,kf,kf,kf,kf,kf,kf,ke,ke] rfl rfl (one_of HT_.1 (by kernel_rfl)) (by decide) (fun K hK => ?_)
          refine value_ (w1 := ?_) (v := ?_) (by rfl) rfl ?_ ?_
          rotate_left 2
          ·
           go_simp
           constructor
           ·
            rfl
           ·
            rfl
          refine hK.out _ _ ⟨(zk (zl zu.1 _) 0).trans rfl, (zk (zl zu.1 _) 1).trans rfl⟩ (fun hHeld => ?_)
          clear hK K
          refine norm_ (a' := ?_) ?_ ?_
          rotate_left
          ·
           show kv _ (some 52) _ = _
           simp only [kv, kz, ky, kj, zg, zi]
           rfl
          refine one_ (i := 7) (N := some 53) #[kf,kf,kf,kf,kf,kf,kf,kf,ke] rfl rfl (one_of HT_.1 (by kernel_rfl)) (by decide) (fun K hK => ?_)
          refine Kd.R_append_step k74 (w0 := w) w.heap.size (by rfl) (.tmp 46) (.tmp 52) 75 74 (.agg #[(.int .i64 0), (.int .i64 0)]) 16 rfl Try.underlying75 info74 rfl (by decide) (by omega) (.slice Ao13 x4_1.length co13) x4_1 (⟨((rd_T45 t197 zt).f0), t209⟩ : S74) [.int .i64 ((rd_T45 t197 zt).f0), .int .i64 t209] (fun _ => True) (fun _ => False) rfl rfl ?aP (fun _ hk => hk.elim) ?aF ?aO ?aB ?aS ?aL ?_
          (case aP => exact k74_mkM _ _ _ (⟨((rd_T45 t197 zt).f0), t209⟩ : S74))
          (case aB => exact HB.1)
          (case aF => exact (fun _ _ => trivial))
          (case aO => exact HO_4.1)
          (case aS => exact (below_size HB.1))
          (case aL => have := LMc33.1; omega)
          intro v211 w36 ho hb hg hat
          rw [← Ny210.1] at ho
          replace zv := kk (Kd.R_over' zv.1 (Kd.R_typed HO_4.1) (by decide) hg)
          replace zu := kk (blk_grown zu.1 hg (Kd.R_ne HO_4.1 zu.1 (by decide)))
          replace HB := kk hb
          have HO212 := kk ho
          clear ho hb hg hat
          refine hK.out _ _ ⟨(zk zu.1 0).trans rfl, (zk zu.1 1).trans rfl⟩ (fun hHeld => ?_)
          clear hK K
          refine norm_ (a' := ?_) ?_ ?_
          rotate_left
          ·
           show kv _ (some 53) _ = _
           simp only [kv, kz, ky, kj, zg, zi]
           rfl
          refine zj (i := 8) (N := some 4) (v := ?_) (a' := ?_) #[kf,kf,kf,kf,kf,kf,kf,kf,kf] rfl rfl (zh HT_.1 (by kernel_rfl)) (fun _ _ _ h => h) (kh ⟨by rfl, ?_⟩) ?_ ?_
          rotate_left
          ·
           intro w'
           go_simp
           with_reducible rfl
          rotate_left
          ·
           simp only [kv, kz, ky, kj, zg, zi]
           rfl
          refine done_ (done_of HT_.1 (by kernel_rfl)) ?_
          try go_wp2
          go_roundg kj9
          case measure => have := HK1.1; have := HJ9.1; omega
          case rel => exact ⟨(y210), (wrap64 (zt + 1)), (by rfl), H', ⟨by have := HK1.1; have := HJ9.1; omega⟩, ⟨by exact HO212.1⟩, ⟨by exact zq zv.1 (fun _ hk => trivial)⟩, ⟨by exact HB.1⟩⟩
         ·
          rw [if_neg c33] at H
          exact absurd H (by simp)
     ·
      rw [if_neg c9] at H
      exact absurd H (by simp)
    ·
     rw [if_neg c8] at H
     exact absurd H (by simp)
   ·
    rw [if_neg c7] at H
    have c7b0 : decide (zt < (t197.length : Int)) = false := decide_eq_false c7
    clear c7
    obtain rfl := Option.some.inj H
    go_wp2
    go_ret
    exact ⟨_, by rfl, by exact HO_4.1, by exact HB.1⟩
end Go.Proofs.Ytabejlfejlpkeaa.PFnRanges
