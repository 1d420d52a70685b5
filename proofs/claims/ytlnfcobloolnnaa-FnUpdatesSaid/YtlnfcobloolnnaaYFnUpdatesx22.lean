/- Go functions told by Lean functions, printed by a program. No condition but what each statement says. -/
import Derived.Test.YtlnfcobloolnnaaYFnUpdatesx20
import Derived.Test.YtlnfcobloolnnaaYFnUpdatesx21
namespace Go.Proofs.Ytlnfcobloolnnaa.PFnUpdates
open Go.RowKit Go.Proofs.YtlnfcobloolnnaaW.PrintWords Go.Proofs.YtlnfcobloolnnaaW.PrintLast Go.Proofs.YtlnfcobloolnnaaW.PrintMore
open Aside0 renaming mk → kz
open List renaming setIfInBounds_toArray → ky, set_cons_zero → kk, set_cons_succ → kv, map_toArray → kh, map_cons → kg, map_nil → kf
open Option renaming bind_eq_some_iff → kj
open Act renaming put → ke
open Nat renaming ne_of_lt → kb, ne_of_gt → kd, le_trans → kc
open Bool renaming true → ko, false → kx
set_option maxHeartbeats 8000000
set_option maxRecDepth 100000
open Go.Proofs.YtlnfcobloolnnaaW.PrintLast renaming i64_w → zI, i32_w → zJ, goesL_ → zK
open Go.Proofs.YtlnfcobloolnnaaW.PrintWords renaming blk_alloc → za, blk_cell → zb, blk_drew → ze, below_set → zf, keep_far → zj, keep_drew → zq, below_drew1 → zr, blk_put → zu, Aside0 → zy, blk_far → zA, keep_size → zB, gate_callee → zC, blk_below → zD, blk_lt → zL
open Go.Proofs.YtlnfcobloolnnaaW.PrintWords.Kd renaming R_far → zg, R_drew → zk, R_mono → zm, R_keep → zw, R_types → zx, R_slice → zz, R_below → zE
open Go.Proofs.YtlnfcobloolnnaaW.PrintWords.KeepBut renaming trans → zt, blk → zv
attribute [local go_sem] max2_int min2_int max_two min_two max_three min_three max_four min_four
set_option linter.unusedVariables false
set_option linter.unusedSimpArgs false
/-! ### spec_l1Cur_update: function 98 -/
mutual
def spec_l1Cur_update.l0 : Nat → Int → List Int → Int → Int → List (S35) → Int → Int → Int → Int → Option ((List (S35)) × Int × List Int × Int × Int × Int × List Int × (List (S35)) × Int × Int)
 | 0, _, _, _, _, _, _, _, _, _ => none
 | k + 1, x4, qx, qD, qE, qk, qp, qq, qr, qs => if x4 > 0 then ((spec_l1Cur_fine.f qx qD qE).bind fun bt549 => ((spec_l4Put.f k qk bt549.1 bt549.2.1).bind fun t553 => (spec_l1Cur_update.l0 k (wrap64 (x4 - 1)) qx bt549.2.2.1 bt549.2.2.2 t553 qp qq qr qs))) else ((spec_l1Cur_pick.f qx qD qE 4).bind fun bt556 => (spec_l1Cur_update.l1 k bt556.1 qx bt556.2.1 bt556.2.2 qk qp qq qr qs ([] : List (S35))))
def spec_l1Cur_update.l1 : Nat → Int → List Int → Int → Int → List (S35) → Int → Int → Int → Int → List (S35) → Option ((List (S35)) × Int × List Int × Int × Int × Int × List Int × (List (S35)) × Int × Int)
 | 0, _, _, _, _, _, _, _, _, _, _ => none
 | k + 1, x5, qx, qD, qE, qk, qp, qq, qr, qs, qu => if x5 > 0 then ((spec_l1Cur_fine.f qx qD qE).bind fun bt559 => ((spec_l4In.f k qk bt559.1 bt559.2.1).bind fun t564 => (if t564 = true then (spec_l1Cur_update.l1 k (wrap64 (x5 - 1)) qx bt559.2.2.1 bt559.2.2.2 qk qp qq qr qs qu) else ((spec_l4Put.f k qu bt559.1 bt559.2.1).bind fun t565 => (spec_l1Cur_update.l1 k (wrap64 (x5 - 1)) qx bt559.2.2.1 bt559.2.2.2 qk qp qq qr qs t565))))) else (if (qu.length : Int) > 0 then (spec_l1Cur_update.j2 k true qx qD qE qk qp qq qr qs qu) else ((spec_l1Cur_one.f qx qD qE 20).bind fun bt568 => (spec_l1Cur_update.j2 k bt568.1 qx bt568.2.1 bt568.2.2 qk qp qq qr qs qu)))
def spec_l1Cur_update.j2 : Nat → Bool → List Int → Int → Int → List (S35) → Int → Int → Int → Int → List (S35) → Option ((List (S35)) × Int × List Int × Int × Int × Int × List Int × (List (S35)) × Int × Int)
 | 0, _, _, _, _, _, _, _, _, _, _ => none
 | k + 1, x45, qx, qD, qE, qk, qp, qq, qr, qs, qu => if x45 = true then ((spec_l1Cur_attrs.f k qx qD qE).bind fun bt571 => (spec_l1Cur_update.j3 k qx bt571.2.2.2.2.2.2.1 bt571.2.2.2.2.2.2.2 qk bt571.1 bt571.2.1 bt571.2.2.1 bt571.2.2.2.1 bt571.2.2.2.2.1 bt571.2.2.2.2.2.1 qu)) else (spec_l1Cur_update.j3 k qx qD qE qk qp ([] : List Int) qq qr qs ([] : List Int) qu)
def spec_l1Cur_update.j3 : Nat → List Int → Int → Int → List (S35) → Int → List Int → Int → Int → Int → List Int → List (S35) → Option ((List (S35)) × Int × List Int × Int × Int × Int × List Int × (List (S35)) × Int × Int)
 | 0, _, _, _, _, _, _, _, _, _, _, _ => none
 | k + 1, qx, qD, qE, qk, qp, x546002, qq, qr, qs, x546006, qu => (spec_l1Cur_one.f qx qD qE 30).bind fun bt583 => (if bt583.1 = true then ((spec_l1Cur_prefix.f qx bt583.2.1 bt583.2.2).bind fun bt586 => (if qk.length < 8796093022208 then (some ((qk ++ [(⟨bt586.1, bt586.2.1⟩ : S35)]), qp, x546002, qq, qr, qs, x546006, qu, bt586.2.2.1, bt586.2.2.2)) else (none))) else (some (qk, qp, x546002, qq, qr, qs, x546006, qu, bt583.2.1, bt583.2.2)))
end
def spec_l1Cur_update.f (k : Nat) (s0_0 : List Int) (s0_1 : Int) (s0_2 : Int) : Option ((List (S35)) × Int × List Int × Int × Int × Int × List Int × (List (S35)) × Int × Int) := (spec_l1Cur_pick.f s0_0 s0_1 s0_2 4).bind fun bt546 => (spec_l1Cur_update.l0 k bt546.1 s0_0 bt546.2.1 bt546.2.2 ([] : List (S35)) 0 0 0 0)
def spec_l1Cur_update.T15 : Bool × List (List Nat × List Nat) := (true, [([], []), ([0], [0]), ([], []), ([2], [2]), ([3], [3]), ([1, 4, 3], [1, 4]), ([0, 1, 2, 3, 4, 5], []), ([6, 5, 5, 0, 1, 2, 3, 4, 5], [5, 6])])
def spec_l1Cur_update.B15 : List Nat := [0, 1, 0, 4, 12, 31, 63, 127]
theorem spec_l1Cur_update.tab15 : rtab .any (opsOf Try.f98 15) = spec_l1Cur_update.T15 := by kernel_rfl
theorem spec_l1Cur_update.bits15 : waitsOk spec_l1Cur_update.T15.2 spec_l1Cur_update.B15 = true := by kernel_rfl
theorem spec_l1Cur_update.calls (k : Nat) (g : Nat) (s0_0 : List Int) (s0_1 : Int) (s0_2 : Int) (r1 : List (S35)) (r2 : Int) (r3 : List Int) (r4 : Int) (r5 : Int) (r6 : Int) (r7 : List Int) (r8 : List (S35)) (r9 : Int) (r10 : Int) (w0 w : World) (hI : IsS102 w0 w g s0_0 s0_1 s0_2) (hB : Below w0.heap.size w0 w) (h : spec_l1Cur_update.f k s0_0 s0_1 s0_2 = some (r1, r2, r3, r4, r5, r6, r7, r8, r9, r10)) :
  Calls Try.prog 98 #[.pointer (some ⟨g, 0, none⟩)] w fun e w' => ∃ v0_ v2_ v6_ v7_ : Value, e = .returned (.agg #[v0_, .int .i64 r2, v2_, .int .i64 r4, .int .i64 r5, .int .i64 r6, v6_, v7_]) ∧ Kd.R k35 35 w' w.heap.size (fun k_ => some k_ ≠ (v7_ : Value).ownBlock) v0_ r1 ∧ Kd.R (Kd.int .i64) 3 w' w.heap.size (fun k_ => some k_ ≠ (v6_ : Value).ownBlock) v2_ r3 ∧ Kd.R (Kd.int .i64) 3 w' w.heap.size (fun k_ => some k_ ≠ (v2_ : Value).ownBlock) v6_ r7 ∧ Kd.R k35 35 w' w.heap.size (fun k_ => some k_ ≠ (v0_ : Value).ownBlock) v7_ r8 ∧ IsS102 w0 w' g s0_0 r9 r10 ∧ Below w0.heap.size w0 w' ∧ KeepBut w w' g none := by
 have hu53 := Try.underlying53
 have hu35 := Try.underlying35
 have hu27 := Try.underlying27
 have HI0 := kz hI
 have HK := kz (KeepBut.refl w g none)
 have HL := kz hB.size
 clear hI
 have HW0 := kz hB.size
 have HB := kz hB
 clear hB
 have H : ((spec_l1Cur_pick.f s0_0 s0_1 s0_2 4).bind fun bt546 => (spec_l1Cur_update.l0 k bt546.1 s0_0 bt546.2.1 bt546.2.2 ([] : List (S35)) 0 0 0 0)) = some (r1, r2, r3, r4, r5, r6, r7, r8, r9, r10) := h
 clear h
 replace H := kj.mp H
 obtain ⟨⟨t546, t547, t548⟩, A20, H⟩ := H
 have A2 := kz A20
 clear A20
 have H' := kz H
 clear H
 go_enter Try.func98, Try.ntmps98
 go_wp2_with (first | ((with_reducible refine gate_dst (N := 2) rfl ?_); refine box_event ?hg (N := 2) ?hd (cs := #[.slice none 0 0, .int .i64 0, .slice none 0 0, .int .i64 0, .int .i64 0, .int .i64 0, .slice none 0 0, .slice none 0 0]) (t := 53) ?hr ?_; (case hd => rfl); (case hg => rfl); (case hr => (go_simp; done)); intro gb544 hg w3 hbox hb; replace HB := kz (below_step HB.1 hb); have zQ := kz hbox; have qd := kz ((by rw [hg]; exact (zB (w := w) (g := g) (row := none) HK.1) : w.heap.size ≤ gb544)); have qg := kz ((kc HW0.1 (by rw [hg]; exact (zB (w := w) (g := g) (row := none) HK.1) : w.heap.size ≤ gb544) : w0.heap.size ≤ gb544)); replace HK := kz (zt HK.1 (KeepBut.of_below hb g none) (.inl rfl)); have zU := kz ((by rw [hg]; exact kb (IsS102.lt (show IsS102 w0 _ g s0_0 s0_1 s0_2 from HI0.1)) : g ≠ gb544)); have qt := kz ((by rw [hg]; exact kd (IsS102.lt (show IsS102 w0 _ g s0_0 s0_1 s0_2 from HI0.1)) : gb544 ≠ g)); replace HI0 := kz (IsS102.below HI0.1 hb); clear hb hbox hg) | ((with_reducible refine gate_dst (N := 3) rfl ?_); refine box_event ?hg (N := 3) ?hd (cs := #[.slice none 0 0, .int .i64 0, .slice none 0 0, .int .i64 0, .int .i64 0, .int .i64 0, .slice none 0 0, .slice none 0 0]) (t := 53) ?hr ?_; (case hd => rfl); (case hg => rfl); (case hr => (go_simp; done)); intro gb545 hg w4 hbox hb; replace HB := kz (below_step HB.1 hb); have zM := kz hbox; have qe := kz ((by rw [hg]; exact (zB (w := w) (g := g) (row := none) HK.1) : w.heap.size ≤ gb545)); have qh := kz ((kc HW0.1 (by rw [hg]; exact (zB (w := w) (g := g) (row := none) HK.1) : w.heap.size ≤ gb545) : w0.heap.size ≤ gb545)); replace HK := kz (zt HK.1 (KeepBut.of_below hb g none) (.inl rfl)); have zZ := kz ((by rw [hg]; exact kb (zL (g := gb544) (o := .cells #[.slice none 0 0, .int .i64 0, .slice none 0 0, .int .i64 0, .int .i64 0, .int .i64 0, .slice none 0 0, .slice none 0 0] 53 (0, 0)) zQ.1) : gb544 ≠ gb545)); have ql := kz ((by rw [hg]; exact kd (zL (g := gb544) (o := .cells #[.slice none 0 0, .int .i64 0, .slice none 0 0, .int .i64 0, .int .i64 0, .int .i64 0, .slice none 0 0, .slice none 0 0] 53 (0, 0)) zQ.1) : gb545 ≠ gb544)); replace zQ := kz (zD (g := gb544) (o := .cells #[.slice none 0 0, .int .i64 0, .slice none 0 0, .int .i64 0, .int .i64 0, .int .i64 0, .slice none 0 0, .slice none 0 0] 53 (0, 0)) zQ.1 hb); have zS := kz ((by rw [hg]; exact kb (IsS102.lt (show IsS102 w0 _ g s0_0 s0_1 s0_2 from HI0.1)) : g ≠ gb545)); have qf := kz ((by rw [hg]; exact kd (IsS102.lt (show IsS102 w0 _ g s0_0 s0_1 s0_2 from HI0.1)) : gb545 ≠ g)); replace HI0 := kz (IsS102.below HI0.1 hb); clear hb hbox hg; have hnb5 := ql.1; have hnc5 := zZ.1; have hnb6 := qf.1; have hnc6 := zS.1; obtain ⟨hcz7_0, hcz7_1, hcz7_2, hcz7_3, hcz7_4, hcz7_5, hcz7_6, hcz7_7, hfz7_0, hfz7_1, hfz7_2, hfz7_3, hfz7_4, hfz7_5, hfz7_6, hfz7_7⟩ := bc8 zM.1) | ((with_reducible refine zC (f := 92) rfl ?_); refine zK (some 9) rfl rfl Try.func92 (by kernel_rfl) rfl #[.pointer (some ⟨g, 0, none⟩), .int .i64 4] rfl (by (try simp only [kh, kg, kf]); rfl) ?_; (with_reducible refine (spec_l1Cur_pick.calls g s0_0 s0_1 s0_2 4 t546 t547 t548 w0 _ ?side1 ?side2 A2.1).mono ?_); (case side1 => repeat ((with_reducible first | exact HI0.1 | refine IsS102.far ?_ zS.1 _))); (case side2 => repeat ((with_reducible first | exact HB.1 | refine zf ?_ qh.1))); rintro e w8 ⟨rfl, hi, hb, hk⟩; refine ⟨_, rfl, ?_⟩; replace zQ := kz (zv hk (g' := gb544) (o := .cells #[.slice none 0 0, .int .i64 0, .slice none 0 0, .int .i64 0, .int .i64 0, .int .i64 0, .slice none 0 0, .slice none 0 0] 53 (0, 0)) (by refine zA ?_ zZ.1 _; refine zA ?_ zZ.1 _; refine zA ?_ zZ.1 _; refine zA ?_ zZ.1 _; refine zA ?_ zZ.1 _; refine zA ?_ zZ.1 _; refine zA ?_ zZ.1 _; refine zA ?_ zZ.1 _; exact zQ.1) qt.1 (by simp)); replace zM := kz (zv hk (g' := gb545) (o := .cells #[.slice none 0 0, .int .i64 0, .slice none 0 0, .int .i64 0, .int .i64 0, .int .i64 0, .slice none 0 0, .slice none 0 0] 53 (0, 0)) (by refine zu (cs := #[.slice none 0 0, .int .i64 0, .slice none 0 0, .int .i64 0, .int .i64 0, .int .i64 0, .slice none 0 0, .slice none 0 0]) ?_ 7 _ rfl; refine zu (cs := #[.slice none 0 0, .int .i64 0, .slice none 0 0, .int .i64 0, .int .i64 0, .int .i64 0, .slice none 0 0, .slice none 0 0]) ?_ 6 _ rfl; refine zu (cs := #[.slice none 0 0, .int .i64 0, .slice none 0 0, .int .i64 0, .int .i64 0, .int .i64 0, .slice none 0 0, .slice none 0 0]) ?_ 5 _ rfl; refine zu (cs := #[.slice none 0 0, .int .i64 0, .slice none 0 0, .int .i64 0, .int .i64 0, .int .i64 0, .slice none 0 0, .slice none 0 0]) ?_ 4 _ rfl; refine zu (cs := #[.slice none 0 0, .int .i64 0, .slice none 0 0, .int .i64 0, .int .i64 0, .int .i64 0, .slice none 0 0, .slice none 0 0]) ?_ 3 _ rfl; refine zu (cs := #[.slice none 0 0, .int .i64 0, .slice none 0 0, .int .i64 0, .int .i64 0, .int .i64 0, .slice none 0 0, .slice none 0 0]) ?_ 2 _ rfl; refine zu (cs := #[.slice none 0 0, .int .i64 0, .slice none 0 0, .int .i64 0, .int .i64 0, .int .i64 0, .slice none 0 0, .slice none 0 0]) ?_ 1 _ rfl; refine zu (cs := #[.slice none 0 0, .int .i64 0, .slice none 0 0, .int .i64 0, .int .i64 0, .int .i64 0, .slice none 0 0, .slice none 0 0]) ?_ 0 _ rfl; exact zM.1) qf.1 (by simp)); replace HK := kz (zt (by repeat ((with_reducible first | exact HK.1 | refine zj ?_ qe.1 _))) hk (.inl rfl)); replace HB := kz hb; replace HI0 := kz hi; (try clear hb); (try clear hb2); (try clear hk); (try clear hi)))
 go_loopg [4] k (fun kq v4 w' => ∃ (x4_1 : Int) (qB : Int) (qC : Int) (zO : List (S35)) (u546000 : Value), v4 = .int .i64 x4_1 ∧ zy (spec_l1Cur_update.l0 kq x4_1 s0_0 qB qC zO 0 0 0 0 = some (r1, r2, r3, r4, r5, r6, r7, r8, r9, r10)) ∧ zy (kq ≤ k) ∧ zy (Kd.R k35 35 w' w.heap.size (fun _ => True) u546000 zO) ∧ zy (w'.heap[gb544]? = some (.cells #[(.slice none 0 0), .int .i64 0, (.slice none 0 0), .int .i64 0, .int .i64 0, .int .i64 0, (.slice none 0 0), (.slice none 0 0)] 53 (0, 0))) ∧ zy (w'.heap[gb545]? = some (.cells #[u546000, .int .i64 0, (.slice none 0 0), .int .i64 0, .int .i64 0, .int .i64 0, (.slice none 0 0), (.slice none 0 0)] 53 (0, 0))) ∧ zy (IsS102 w0 w' g s0_0 qB qC) ∧ zy (KeepBut w w' g none) ∧ zy (Below w0.heap.size w0 w'))
 case atStart => exact ⟨(t546), (t547), (t548), (([] : List (S35))), (.slice none 0 0), (by rfl), H', ⟨Nat.le_refl _⟩, ⟨by exact Kd.R_nil _ _ _ _ _⟩, ⟨by exact zQ.1⟩, ⟨by exact zM.1⟩, ⟨by exact HI0.1⟩, ⟨by exact HK.1⟩, ⟨by exact HB.1⟩⟩
 case round =>
  clear H'
  (try clear p2); (try clear c5); (try clear c6); (try clear hcz7_0); (try clear hcz7_1); (try clear hcz7_2); (try clear hcz7_3); (try clear hcz7_4); (try clear hcz7_5); (try clear hcz7_6); (try clear hcz7_7); (try clear hfz7_0); (try clear hfz7_1); (try clear hfz7_2); (try clear hfz7_3); (try clear hfz7_4); (try clear hfz7_5); (try clear hfz7_6); (try clear hfz7_7)
  obtain ⟨x4_1, qB, qC, zO, u546000, rfl, HA, HK1, zN, zQ, zM, HI0, HK, HB⟩ := hrel
  cases gk with
  | zero => exact absurd HA.1 (by simp [spec_l1Cur_update.l0])
  | succ k1 =>
   have H := HA.1
   clear HA
   simp only [spec_l1Cur_update.l0] at H
   by_cases c9 : x4_1 > 0
   ·
    rw [if_pos c9] at H
    have c9b0 := decide_eq_true c9
    clear c9
    replace H := kj.mp H
    obtain ⟨⟨t549, t550, t551, t552⟩, A100, H⟩ := H
    have A10 := kz A100
    clear A100
    replace H := kj.mp H
    obtain ⟨t553, A110, H⟩ := H
    have A11 := kz A110
    clear A110
    have H' := kz H
    clear H
    try go_wp2
    replace zN := kz (zk zN.1)
    replace zQ := kz (ze zQ.1)
    replace zM := kz (ze zM.1)
    replace HI0 := kz (IsS102.drew HI0.1)
    replace HK := kz (zq HK.1)
    replace HB := kz (zr HB.1)
    refine start_ (n := 7) (S := fun w' => w'.cell? ⟨gb545, 0, none⟩ = some (u546000) ∧ w'.cell? ⟨gb545, 1, none⟩ = some (.int .i64 0) ∧ w'.cell? ⟨gb545, 2, none⟩ = some (.slice none 0 0) ∧ w'.cell? ⟨gb545, 3, none⟩ = some (.int .i64 0) ∧ w'.cell? ⟨gb545, 4, none⟩ = some (.int .i64 0) ∧ w'.cell? ⟨gb545, 5, none⟩ = some (.int .i64 0) ∧ w'.cell? ⟨gb545, 6, none⟩ = some (.slice none 0 0) ∧ w'.cell? ⟨gb545, 7, none⟩ = some (.slice none 0 0)) (ds := [6]) #[kx,kx,kx,kx,kx,kx,kx] (by kernel_rfl) rfl rfl ⟨(zb zM.1 0).trans rfl, (zb zM.1 1).trans rfl, (zb zM.1 2).trans rfl, (zb zM.1 3).trans rfl, (zb zM.1 4).trans rfl, (zb zM.1 5).trans rfl, (zb zM.1 6).trans rfl, (zb zM.1 7).trans rfl⟩ (fun hHeld => ?_)
    generalize wr.drew = w12 at zN zQ zM HI0 HK HB hHeld ⊢
    refine pure_ (i := 0) (N := some 14) (v := ?_) (a' := ?_) #[ko,kx,kx,kx,kx,kx,kx] rfl rfl (by kernel_rfl) (fun _ _ _ h => h) (Or.inl ⟨by rfl, ?_⟩) ?_ ?_
    rotate_left
    ·
     intro w'
     go_simp
     with_reducible rfl
    rotate_left
    ·
     simp only [ke, ky, kk, kv, zI, zJ]
     rfl
    refine pure_ (i := 2) (N := some 16) (v := ?_) (a' := ?_) #[ko,kx,ko,kx,kx,kx,kx] rfl rfl (by kernel_rfl) (fun _ _ _ h => h) (Or.inl ⟨by rfl, ?_⟩) ?_ ?_
    rotate_left
    ·
     intro w'
     go_simp
     with_reducible rfl
    rotate_left
    ·
     simp only [ke, ky, kk, kv, zI, zJ]
     rfl
    refine take_ (i := 1) (N := some 15) (v := ?_) (a' := ?_) #[ko,ko,ko,kx,kx,kx,kx] rfl rfl (by kernel_rfl) (fun _ _ _ h => h) (Or.inl ⟨by rfl, ?_⟩) hHeld ?_ ?_
    rotate_left
    ·
     rintro w' ⟨s0, s1, s2, s3, s4, s5, s6, s7⟩
     go_simp
     with_reducible rfl
    rotate_left
    ·
     simp only [ke, ky, kk, kv, zI, zJ]
     rfl
    refine one_ (i := 3) (N := some 17) #[ko,ko,ko,ko,kx,kx,kx] rfl rfl (by kernel_rfl) (by decide) (fun K hK => ?_)
    refine goes_ Try.func93 (by kernel_rfl) rfl #[.pointer (some ⟨g, 0, none⟩)] (by rfl) rfl rfl (by (try simp only [kh, kg, kf]); rfl) ?_
    with_reducible refine (spec_l1Cur_fine.calls g s0_0 qB qC t549 t550 t551 t552 w0 _ ?side1 ?side2 A10.1).mono ?_
    (case side1 => repeat (with_reducible exact HI0.1))
    (case side2 => repeat (with_reducible exact HB.1))
    rintro e w13 ⟨rfl, hi, hb, hk⟩
    refine ⟨_, rfl, ?_⟩
    replace zN := kz (zm (zw (IsS102.apart (show IsS102 w0 _ g s0_0 qB qC from HI0.1) zN.1 (by decide)) hk (fun _ h => h.2)) (fun _ h => h.1))
    replace zQ := kz (zv hk (g' := gb544) (o := .cells #[.slice none 0 0, .int .i64 0, .slice none 0 0, .int .i64 0, .int .i64 0, .int .i64 0, .slice none 0 0, .slice none 0 0] 53 (0, 0)) zQ.1 qt.1 (by simp))
    replace zM := kz (zv hk (g' := gb545) (o := .cells #[u546000, .int .i64 0, .slice none 0 0, .int .i64 0, .int .i64 0, .int .i64 0, .slice none 0 0, .slice none 0 0] 53 (0, 0)) zM.1 qf.1 (by simp))
    replace HK := kz (zt HK.1 hk (.inl rfl))
    replace HB := kz hb
    replace HI0 := kz hi
    (try clear hb)
    (try clear hb2)
    (try clear hk)
    (try clear hi)
    obtain ⟨Ao14, co14, eo14⟩ := zz zN.1
    (subst eo14)
    refine hK.out _ _ ⟨(zb zM.1 0).trans rfl, (zb zM.1 1).trans rfl, (zb zM.1 2).trans rfl, (zb zM.1 3).trans rfl, (zb zM.1 4).trans rfl, (zb zM.1 5).trans rfl, (zb zM.1 6).trans rfl, (zb zM.1 7).trans rfl⟩ (fun hHeld => ?_)
    clear hK K
    refine norm_ (a' := ?_) ?_ ?_
    rotate_left
    ·
     show ke _ (some 17) _ = _
     simp only [ke, ky, kk, kv, zI, zJ]
     rfl
    refine one_ (i := 4) (N := some 18) #[ko,ko,ko,ko,ko,kx,kx] rfl rfl (by kernel_rfl) (by decide) (fun K hK => ?_)
    refine goes_ Try.func118 (by kernel_rfl) rfl #[.slice Ao14 zO.length co14, .agg #[.int .i64 t549, .int .i64 t550]] (by rfl) rfl rfl (by (try simp only [kh, kg, kf]); rfl) ?_
    with_reducible refine (spec_l4Put.calls k1 (fun k_ => some k_ = (.slice Ao14 zO.length co14 : Value).ownBlock) (.slice Ao14 zO.length co14) zO t549 t550 t553 w0 _ ?side1 ?side2 A11.1).mono ?_
    (case side1 => repeat (with_reducible exact HB.1))
    (case side2 => exact Kd.R_lower (Kd.R_tight rfl zN.1) HL.1)
    rintro e w15 ⟨v554, rfl, ho0, hb, hkp⟩
    refine ⟨_, rfl, ?_⟩
    replace zQ := kz (blk_kept zQ.1 hkp (fun hs_ => (fun e_ => (Kd.R_ne zN.1 zQ.1 (by decide)) e_) hs_))
    replace zM := kz (blk_kept zM.1 hkp (fun hs_ => (fun e_ => (Kd.R_ne zN.1 zM.1 (by decide)) e_) hs_))
    replace HI0 := kz (IsS102.kept HI0.1 hkp (fun hs_ => (fun e_ => (IsS102.own_ne HI0.1 zN.1 (by decide)) e_) hs_))
    have HO555 := kz (zm (ok' := fun k_ => True) (Kd.R_raise (d := k35) (b := w0.heap.size) (b' := w.heap.size) (fun _ _ _ _ h_ => h_) ho0 (fun k_ e_ => Or.elim (ho0.1 k_ e_) (fun hs_ => (fun e_ => Kd.R_base zN.1 k_ e_.symm) hs_) (fun hn_ => kc (zB (w := w) (g := g) (row := none) HK.1) hn_))) (fun k_ hk_ => trivial))
    replace HK := kz (Kept.keepG HK.1 hkp (fun k_ hs_ => (fun e_ => .inr (Kd.R_base zN.1 k_ e_.symm)) hs_))
    replace HB := kz hb
    (try clear hb)
    (try clear hkp)
    (try clear ho0)
    obtain ⟨Ao16, co16, eo16⟩ := zz HO555.1
    (subst eo16)
    refine hK.out _ _ ⟨(zb zM.1 0).trans rfl, (zb zM.1 1).trans rfl, (zb zM.1 2).trans rfl, (zb zM.1 3).trans rfl, (zb zM.1 4).trans rfl, (zb zM.1 5).trans rfl, (zb zM.1 6).trans rfl, (zb zM.1 7).trans rfl⟩ (fun hHeld => ?_)
    clear hK K
    refine norm_ (a' := ?_) ?_ ?_
    rotate_left
    ·
     show ke _ (some 18) _ = _
     simp only [ke, ky, kk, kv, zI, zJ]
     rfl
    refine pure_ (i := 5) (N := some 19) (v := ?_) (a' := ?_) #[ko,ko,ko,ko,ko,ko,kx] rfl rfl (by kernel_rfl) (fun _ _ _ h => h) (Or.inl ⟨by rfl, ?_⟩) ?_ ?_
    rotate_left
    ·
     intro w'
     go_simp
     with_reducible rfl
    rotate_left
    ·
     simp only [ke, ky, kk, kv, zI, zJ]
     rfl
    refine last_ (i := 6) (N := none) #[ko,ko,ko,ko,ko,ko,ko] rfl rfl (by kernel_rfl) (by decide) (fun K hK => ?_)
    have hs17 := bc8 zM.1
    have hns17_0 := zZ.1
    have hms17_0 := ql.1
    refine skip_ (w1 := ?_) (by rfl) rfl ?_ ?_
    rotate_left
    ·
     go_simp
     rfl
    refine hK.out _ _ ?_
    clear hK K
    refine done_ (by kernel_rfl) ?_
    try go_wp2
    go_roundg k1
    case measure => have := HK1.1; omega
    case rel => exact ⟨(wrap64 (x4_1 - 1)), (t551), (t552), (t553), (.slice Ao16 t553.length co16), (by rfl), H', ⟨by have := HK1.1; omega⟩, ⟨by exact zm (zg (p := ⟨gb545, 0, none⟩) (zx HO555.1 zM.1 (by decide)) (fun _ hk => hk.2) (.slice Ao16 t553.length co16)) (fun _ hk => trivial)⟩, ⟨by refine zA ?_ zZ.1 _; exact zQ.1⟩, ⟨by refine zu (cs := #[.slice Ao14 zO.length co14, .int .i64 0, .slice none 0 0, .int .i64 0, .int .i64 0, .int .i64 0, .slice none 0 0, .slice none 0 0]) ?_ 0 _ rfl; exact zM.1⟩, ⟨by repeat ((with_reducible first | exact HI0.1 | refine IsS102.far ?_ zS.1 _))⟩, ⟨by repeat ((with_reducible first | exact HK.1 | refine zj ?_ qe.1 _))⟩, ⟨by repeat ((with_reducible first | exact HB.1 | refine zf ?_ qh.1))⟩⟩
   ·
    rw [if_neg c9] at H
    have c9b0 := decide_eq_false c9
    clear c9
    replace H := kj.mp H
    obtain ⟨⟨t556, t557, t558⟩, A180, H⟩ := H
    have A18 := kz A180
    clear A180
    have H' := kz H
    clear H
    go_wp2_with (((with_reducible refine zC (f := 92) rfl ?_); refine zK (some 21) rfl rfl Try.func92 (by kernel_rfl) rfl #[.pointer (some ⟨g, 0, none⟩), .int .i64 4] rfl (by (try simp only [kh, kg, kf]); rfl) ?_; (with_reducible refine (spec_l1Cur_pick.calls g s0_0 qB qC 4 t556 t557 t558 w0 _ ?side1 ?side2 A18.1).mono ?_); (case side1 => repeat (with_reducible exact HI0.1)); (case side2 => repeat (with_reducible exact HB.1)); rintro e w19 ⟨rfl, hi, hb, hk⟩; refine ⟨_, rfl, ?_⟩; replace zN := kz (zm (zw (IsS102.apart (show IsS102 w0 _ g s0_0 qB qC from HI0.1) zN.1 (by decide)) hk (fun _ h => h.2)) (fun _ h => h.1)); replace zQ := kz (zv hk (g' := gb544) (o := .cells #[.slice none 0 0, .int .i64 0, .slice none 0 0, .int .i64 0, .int .i64 0, .int .i64 0, .slice none 0 0, .slice none 0 0] 53 (0, 0)) zQ.1 qt.1 (by simp)); replace zM := kz (zv hk (g' := gb545) (o := .cells #[u546000, .int .i64 0, .slice none 0 0, .int .i64 0, .int .i64 0, .int .i64 0, .slice none 0 0, .slice none 0 0] 53 (0, 0)) zM.1 qf.1 (by simp)); replace HK := kz (zt HK.1 hk (.inl rfl)); replace HB := kz hb; replace HI0 := kz hi; (try clear hb); (try clear hb2); (try clear hk); (try clear hi)))
    go_loopg [5] k1 (fun kq v5 w' => ∃ (x5_2 : Int) (qn : Int) (qo : Int) (zR : List (S35)) (u546007 : Value), v5 = .int .i64 x5_2 ∧ zy (spec_l1Cur_update.l1 kq x5_2 s0_0 qn qo zO 0 0 0 0 zR = some (r1, r2, r3, r4, r5, r6, r7, r8, r9, r10)) ∧ zy (kq ≤ k1) ∧ zy (Kd.R k35 35 w' w.heap.size (fun k_ => some k_ ≠ (u546007 : Value).ownBlock) u546000 zO) ∧ zy (Kd.R k35 35 w' w.heap.size (fun k_ => some k_ ≠ (u546000 : Value).ownBlock) u546007 zR) ∧ zy (w'.heap[gb544]? = some (.cells #[(.slice none 0 0), .int .i64 0, (.slice none 0 0), .int .i64 0, .int .i64 0, .int .i64 0, (.slice none 0 0), (.slice none 0 0)] 53 (0, 0))) ∧ zy (w'.heap[gb545]? = some (.cells #[u546000, .int .i64 0, (.slice none 0 0), .int .i64 0, .int .i64 0, .int .i64 0, (.slice none 0 0), u546007] 53 (0, 0))) ∧ zy (IsS102 w0 w' g s0_0 qn qo) ∧ zy (KeepBut w w' g none) ∧ zy (Below w0.heap.size w0 w'))
    case atStart => exact ⟨(t556), (t557), (t558), (([] : List (S35))), (.slice none 0 0), (by rfl), H', ⟨Nat.le_refl _⟩, ⟨by exact zm zN.1 (fun _ hk => (by simp [Value.ownBlock]))⟩, ⟨by exact Kd.R_nil _ _ _ _ _⟩, ⟨by exact zQ.1⟩, ⟨by exact zM.1⟩, ⟨by exact HI0.1⟩, ⟨by exact HK.1⟩, ⟨by exact HB.1⟩⟩
    case round =>
     clear H'
     (try clear c1); (try clear p2); (try clear c5); (try clear c6); (try clear p6); (try clear c9); (try clear c9b0); (try clear c11); (try clear hcz7_0); (try clear hcz7_1); (try clear hcz7_2); (try clear hcz7_3); (try clear hcz7_4); (try clear hcz7_5); (try clear hcz7_6); (try clear hcz7_7); (try clear hfz7_0); (try clear hfz7_1); (try clear hfz7_2); (try clear hfz7_3); (try clear hfz7_4); (try clear hfz7_5); (try clear hfz7_6); (try clear hfz7_7); (try clear p2)
     obtain ⟨x5_2, qn, qo, zR, u546007, rfl, HA, HK2, zN, zP, zQ, zM, HI0, HK, HB⟩ := hrel
     cases gk with
     | zero => exact absurd HA.1 (by simp [spec_l1Cur_update.l1])
     | succ k2 =>
      have H := HA.1
      clear HA
      simp only [spec_l1Cur_update.l1] at H
      by_cases c20 : x5_2 > 0
      ·
       rw [if_pos c20] at H
       have c20b0 := decide_eq_true c20
       clear c20
       replace H := kj.mp H
       obtain ⟨⟨t559, t560, t561, t562⟩, A210, H⟩ := H
       have A21 := kz A210
       clear A210
       replace H := kj.mp H
       obtain ⟨t564, A220, H⟩ := H
       have A22 := kz A220
       clear A220
       by_cases c23 : t564 = true
       ·
        subst c23
        rw [if_pos rfl] at H
        have H' := kz H
        clear H
        go_wp2_with (first | ((with_reducible refine zC (f := 93) rfl ?_); refine zK (some 27) rfl rfl Try.func93 (by kernel_rfl) rfl #[.pointer (some ⟨g, 0, none⟩)] rfl (by (try simp only [kh, kg, kf]); rfl) ?_; (with_reducible refine (spec_l1Cur_fine.calls g s0_0 qn qo t559 t560 t561 t562 w0 _ ?side1 ?side2 A21.1).mono ?_); (case side1 => repeat (with_reducible exact HI0.1)); (case side2 => repeat (with_reducible exact HB.1)); rintro e w24 ⟨rfl, hi, hb, hk⟩; refine ⟨_, rfl, ?_⟩; replace zN := kz (zm (zw (IsS102.apart (show IsS102 w0 _ g s0_0 qn qo from HI0.1) zN.1 (by decide)) hk (fun _ h => h.2)) (fun _ h => h.1)); replace zP := kz (zm (zw (IsS102.apart (show IsS102 w0 _ g s0_0 qn qo from HI0.1) zP.1 (by decide)) hk (fun _ h => h.2)) (fun _ h => h.1)); replace zQ := kz (zv hk (g' := gb544) (o := .cells #[.slice none 0 0, .int .i64 0, .slice none 0 0, .int .i64 0, .int .i64 0, .int .i64 0, .slice none 0 0, .slice none 0 0] 53 (0, 0)) zQ.1 qt.1 (by simp)); replace zM := kz (zv hk (g' := gb545) (o := .cells #[u546000, .int .i64 0, .slice none 0 0, .int .i64 0, .int .i64 0, .int .i64 0, .slice none 0 0, u546007] 53 (0, 0)) zM.1 qf.1 (by simp)); replace HK := kz (zt HK.1 hk (.inl rfl)); replace HB := kz hb; replace HI0 := kz hi; (try clear hb); (try clear hb2); (try clear hk); (try clear hi)) | ((with_reducible refine gate_dst (N := 6) rfl ?_); refine box_event ?hg (N := 6) ?hd (cs := #[.int .i64 0, .int .i64 0]) (t := 35) ?hr ?_; (case hd => rfl); (case hg => rfl); (case hr => (go_simp; done)); intro gb563 hg w25 hbox hb; replace zN := kz (zE (Kd.R_elderB zN.1 gb563 (Nat.le_of_eq hg.symm)) hb); replace zP := kz (zE (Kd.R_elderB zP.1 gb563 (Nat.le_of_eq hg.symm)) hb); replace HB := kz (below_step HB.1 hb); have qm := kz hbox; have qF := kz ((by rw [hg]; exact (zB (w := w) (g := g) (row := none) HK.1) : w.heap.size ≤ gb563)); have qG := kz ((kc HW0.1 (by rw [hg]; exact (zB (w := w) (g := g) (row := none) HK.1) : w.heap.size ≤ gb563) : w0.heap.size ≤ gb563)); replace HK := kz (zt HK.1 (KeepBut.of_below hb g none) (.inl rfl)); have qy := kz ((by rw [hg]; exact kb (zL (g := gb544) (o := .cells #[.slice none 0 0, .int .i64 0, .slice none 0 0, .int .i64 0, .int .i64 0, .int .i64 0, .slice none 0 0, .slice none 0 0] 53 (0, 0)) zQ.1) : gb544 ≠ gb563)); have NB563_544 := kz ((by rw [hg]; exact kd (zL (g := gb544) (o := .cells #[.slice none 0 0, .int .i64 0, .slice none 0 0, .int .i64 0, .int .i64 0, .int .i64 0, .slice none 0 0, .slice none 0 0] 53 (0, 0)) zQ.1) : gb563 ≠ gb544)); replace zQ := kz (zD (g := gb544) (o := .cells #[.slice none 0 0, .int .i64 0, .slice none 0 0, .int .i64 0, .int .i64 0, .int .i64 0, .slice none 0 0, .slice none 0 0] 53 (0, 0)) zQ.1 hb); have qz := kz ((by rw [hg]; exact kb (zL (g := gb545) (o := .cells #[u546000, .int .i64 0, .slice none 0 0, .int .i64 0, .int .i64 0, .int .i64 0, .slice none 0 0, u546007] 53 (0, 0)) zM.1) : gb545 ≠ gb563)); have NB563_545 := kz ((by rw [hg]; exact kd (zL (g := gb545) (o := .cells #[u546000, .int .i64 0, .slice none 0 0, .int .i64 0, .int .i64 0, .int .i64 0, .slice none 0 0, u546007] 53 (0, 0)) zM.1) : gb563 ≠ gb545)); replace zM := kz (zD (g := gb545) (o := .cells #[u546000, .int .i64 0, .slice none 0 0, .int .i64 0, .int .i64 0, .int .i64 0, .slice none 0 0, u546007] 53 (0, 0)) zM.1 hb); have qA := kz ((by rw [hg]; exact kb (IsS102.lt (show IsS102 w0 _ g s0_0 t561 t562 from HI0.1)) : g ≠ gb563)); have NB563_0 := kz ((by rw [hg]; exact kd (IsS102.lt (show IsS102 w0 _ g s0_0 t561 t562 from HI0.1)) : gb563 ≠ g)); replace HI0 := kz (IsS102.below HI0.1 hb); clear hb hbox hg; have hnb26 := NB563_544.1; have hnc26 := qy.1; have hnb27 := NB563_545.1; have hnc27 := qz.1; have hnb28 := NB563_0.1; have hnc28 := qA.1; obtain ⟨hcz29_0, hcz29_1, hfz29_0, hfz29_1⟩ := bc2 qm.1; have hnb30 := ql.1; have hnc30 := zZ.1; have hnb31 := qf.1; have hnc31 := zS.1; obtain ⟨hcz32_0, hcz32_1, hcz32_2, hcz32_3, hcz32_4, hcz32_5, hcz32_6, hcz32_7, hfz32_0, hfz32_1, hfz32_2, hfz32_3, hfz32_4, hfz32_5, hfz32_6, hfz32_7⟩ := bc8 zM.1; obtain ⟨Ao33, co33, eo33⟩ := zz zN.1; subst eo33) | ((with_reducible refine zC (f := 69) rfl ?_); refine zK (some 31) rfl rfl Try.func69 (by kernel_rfl) rfl #[.slice Ao33 zO.length co33, .agg #[.int .i64 t559, .int .i64 t560]] rfl (by (try simp only [kh, kg, kf]); rfl) ?_; (with_reducible refine (spec_l4In.calls k2 _ _ zO t559 t560 true _ ?side1 ?side2 A22.1).mono ?_); (case side1 => refine (Kd.R_reads' (e := 35) (base := w.heap.size) (ok := fun k_ => (some k_ ≠ (u546007 : Value).ownBlock ∧ k_ ≠ gb563)) (n := zO.length) (c := co33) ?_).2.2; exact (by exact (zm (zg (p := ⟨gb563, 1, none⟩) (zg (p := ⟨gb563, 0, none⟩) (zm zN.1 (fun k_ hk => (⟨hk, hk.2⟩ : _ ∧ k_ ≠ gb563))) (fun _ hk => hk.2) (.int .i64 t559)) (fun _ hk => hk.2) (.int .i64 t560)) (fun _ h_ => h_.1)))); (case side2 => exact (Kd.R_reads' zN.1).2.1); rintro e w34 ⟨rfl, hb⟩; refine ⟨_, rfl, ?_⟩; replace zN := kz (zE (by exact (zm (zg (p := ⟨gb563, 1, none⟩) (zg (p := ⟨gb563, 0, none⟩) (zm zN.1 (fun k_ hk => (⟨hk, hk.2⟩ : _ ∧ k_ ≠ gb563))) (fun _ hk => hk.2) (.int .i64 t559)) (fun _ hk => hk.2) (.int .i64 t560)) (fun _ h_ => h_.1))) hb); replace zP := kz (zE (by exact (zm (zg (p := ⟨gb563, 1, none⟩) (zg (p := ⟨gb563, 0, none⟩) (zm zP.1 (fun k_ hk => (⟨hk, hk.2⟩ : _ ∧ k_ ≠ gb563))) (fun _ hk => hk.2) (.int .i64 t559)) (fun _ hk => hk.2) (.int .i64 t560)) (fun _ h_ => h_.1))) hb); replace zQ := kz (zD (g := gb544) (o := .cells #[.slice none 0 0, .int .i64 0, .slice none 0 0, .int .i64 0, .int .i64 0, .int .i64 0, .slice none 0 0, .slice none 0 0] 53 (0, 0)) (by refine zA ?_ qy.1 _; refine zA ?_ qy.1 _; exact zQ.1) hb); replace zM := kz (zD (g := gb545) (o := .cells #[.slice Ao33 zO.length co33, .int .i64 0, .slice none 0 0, .int .i64 0, .int .i64 0, .int .i64 0, .slice none 0 0, u546007] 53 (0, 0)) (by refine zA ?_ qz.1 _; refine zA ?_ qz.1 _; exact zM.1) hb); replace HI0 := kz (IsS102.below (show IsS102 w0 ((w25.setCell ⟨gb563, 0, none⟩ (.int .i64 t559)).setCell ⟨gb563, 1, none⟩ (.int .i64 t560)) g s0_0 t561 t562 from by repeat ((with_reducible first | exact HI0.1 | refine IsS102.far ?_ qA.1 _))) hb); replace qm := kz (zD (g := gb563) (o := .cells #[.int .i64 t559, .int .i64 t560] 35 (0, 0)) (by refine zu (cs := #[.int .i64 t559, .int .i64 0]) ?_ 1 _ rfl; refine zu (cs := #[.int .i64 0, .int .i64 0]) ?_ 0 _ rfl; exact qm.1) hb); replace HK := kz (zt (by repeat ((with_reducible first | exact HK.1 | refine zj ?_ qF.1 _))) (KeepBut.of_below hb g none) (.inl rfl)); replace HB := kz (below_step (by repeat ((with_reducible first | exact HB.1 | refine zf ?_ qG.1))) hb); (try clear hb); (try clear hb2); (try clear hk); (try clear hi)))
        go_roundg k2
        case measure => have := HK1.1; have := HK2.1; omega
        case rel => exact ⟨(wrap64 (x5_2 - 1)), (t561), (t562), (zR), (u546007), (by rfl), H', ⟨by have := HK1.1; have := HK2.1; omega⟩, ⟨by exact zm zN.1 (fun _ hk => hk.1)⟩, ⟨by exact zm zP.1 (fun _ hk => hk.1)⟩, ⟨by exact zQ.1⟩, ⟨by exact zM.1⟩, ⟨by exact HI0.1⟩, ⟨by exact HK.1⟩, ⟨by exact HB.1⟩⟩
       ·
        replace c23 := Bool.eq_false_iff.mpr c23
        subst c23
        rw [if_neg (show ¬ (false = true) by decide)] at H
        replace H := kj.mp H
        obtain ⟨t565, A350, H⟩ := H
        have A35 := kz A350
        clear A350
        have H' := kz H
        clear H
        go_wp2_with (first | ((with_reducible refine zC (f := 93) rfl ?_); refine zK (some 27) rfl rfl Try.func93 (by kernel_rfl) rfl #[.pointer (some ⟨g, 0, none⟩)] rfl (by (try simp only [kh, kg, kf]); rfl) ?_; (with_reducible refine (spec_l1Cur_fine.calls g s0_0 qn qo t559 t560 t561 t562 w0 _ ?side1 ?side2 A21.1).mono ?_); (case side1 => repeat (with_reducible exact HI0.1)); (case side2 => repeat (with_reducible exact HB.1)); rintro e w36 ⟨rfl, hi, hb, hk⟩; refine ⟨_, rfl, ?_⟩; replace zN := kz (zm (zw (IsS102.apart (show IsS102 w0 _ g s0_0 qn qo from HI0.1) zN.1 (by decide)) hk (fun _ h => h.2)) (fun _ h => h.1)); replace zP := kz (zm (zw (IsS102.apart (show IsS102 w0 _ g s0_0 qn qo from HI0.1) zP.1 (by decide)) hk (fun _ h => h.2)) (fun _ h => h.1)); replace zQ := kz (zv hk (g' := gb544) (o := .cells #[.slice none 0 0, .int .i64 0, .slice none 0 0, .int .i64 0, .int .i64 0, .int .i64 0, .slice none 0 0, .slice none 0 0] 53 (0, 0)) zQ.1 qt.1 (by simp)); replace zM := kz (zv hk (g' := gb545) (o := .cells #[u546000, .int .i64 0, .slice none 0 0, .int .i64 0, .int .i64 0, .int .i64 0, .slice none 0 0, u546007] 53 (0, 0)) zM.1 qf.1 (by simp)); replace HK := kz (zt HK.1 hk (.inl rfl)); replace HB := kz hb; replace HI0 := kz hi; (try clear hb); (try clear hb2); (try clear hk); (try clear hi)) | ((with_reducible refine gate_dst (N := 6) rfl ?_); refine box_event ?hg (N := 6) ?hd (cs := #[.int .i64 0, .int .i64 0]) (t := 35) ?hr ?_; (case hd => rfl); (case hg => rfl); (case hr => (go_simp; done)); intro gb563 hg w37 hbox hb; replace zN := kz (zE (Kd.R_elderB zN.1 gb563 (Nat.le_of_eq hg.symm)) hb); replace zP := kz (zE (Kd.R_elderB zP.1 gb563 (Nat.le_of_eq hg.symm)) hb); replace HB := kz (below_step HB.1 hb); have qm := kz hbox; have qF := kz ((by rw [hg]; exact (zB (w := w) (g := g) (row := none) HK.1) : w.heap.size ≤ gb563)); have qG := kz ((kc HW0.1 (by rw [hg]; exact (zB (w := w) (g := g) (row := none) HK.1) : w.heap.size ≤ gb563) : w0.heap.size ≤ gb563)); replace HK := kz (zt HK.1 (KeepBut.of_below hb g none) (.inl rfl)); have qy := kz ((by rw [hg]; exact kb (zL (g := gb544) (o := .cells #[.slice none 0 0, .int .i64 0, .slice none 0 0, .int .i64 0, .int .i64 0, .int .i64 0, .slice none 0 0, .slice none 0 0] 53 (0, 0)) zQ.1) : gb544 ≠ gb563)); have NB563_544 := kz ((by rw [hg]; exact kd (zL (g := gb544) (o := .cells #[.slice none 0 0, .int .i64 0, .slice none 0 0, .int .i64 0, .int .i64 0, .int .i64 0, .slice none 0 0, .slice none 0 0] 53 (0, 0)) zQ.1) : gb563 ≠ gb544)); replace zQ := kz (zD (g := gb544) (o := .cells #[.slice none 0 0, .int .i64 0, .slice none 0 0, .int .i64 0, .int .i64 0, .int .i64 0, .slice none 0 0, .slice none 0 0] 53 (0, 0)) zQ.1 hb); have qz := kz ((by rw [hg]; exact kb (zL (g := gb545) (o := .cells #[u546000, .int .i64 0, .slice none 0 0, .int .i64 0, .int .i64 0, .int .i64 0, .slice none 0 0, u546007] 53 (0, 0)) zM.1) : gb545 ≠ gb563)); have NB563_545 := kz ((by rw [hg]; exact kd (zL (g := gb545) (o := .cells #[u546000, .int .i64 0, .slice none 0 0, .int .i64 0, .int .i64 0, .int .i64 0, .slice none 0 0, u546007] 53 (0, 0)) zM.1) : gb563 ≠ gb545)); replace zM := kz (zD (g := gb545) (o := .cells #[u546000, .int .i64 0, .slice none 0 0, .int .i64 0, .int .i64 0, .int .i64 0, .slice none 0 0, u546007] 53 (0, 0)) zM.1 hb); have qA := kz ((by rw [hg]; exact kb (IsS102.lt (show IsS102 w0 _ g s0_0 t561 t562 from HI0.1)) : g ≠ gb563)); have NB563_0 := kz ((by rw [hg]; exact kd (IsS102.lt (show IsS102 w0 _ g s0_0 t561 t562 from HI0.1)) : gb563 ≠ g)); replace HI0 := kz (IsS102.below HI0.1 hb); clear hb hbox hg; have hnb38 := NB563_544.1; have hnc38 := qy.1; have hnb39 := NB563_545.1; have hnc39 := qz.1; have hnb40 := NB563_0.1; have hnc40 := qA.1; obtain ⟨hcz41_0, hcz41_1, hfz41_0, hfz41_1⟩ := bc2 qm.1; have hnb42 := ql.1; have hnc42 := zZ.1; have hnb43 := qf.1; have hnc43 := zS.1; obtain ⟨hcz44_0, hcz44_1, hcz44_2, hcz44_3, hcz44_4, hcz44_5, hcz44_6, hcz44_7, hfz44_0, hfz44_1, hfz44_2, hfz44_3, hfz44_4, hfz44_5, hfz44_6, hfz44_7⟩ := bc8 zM.1; obtain ⟨Ao45, co45, eo45⟩ := zz zN.1; subst eo45) | ((with_reducible refine zC (f := 69) rfl ?_); refine zK (some 31) rfl rfl Try.func69 (by kernel_rfl) rfl #[.slice Ao45 zO.length co45, .agg #[.int .i64 t559, .int .i64 t560]] rfl (by (try simp only [kh, kg, kf]); rfl) ?_; (with_reducible refine (spec_l4In.calls k2 _ _ zO t559 t560 false _ ?side1 ?side2 A22.1).mono ?_); (case side1 => refine (Kd.R_reads' (e := 35) (base := w.heap.size) (ok := fun k_ => (some k_ ≠ (u546007 : Value).ownBlock ∧ k_ ≠ gb563)) (n := zO.length) (c := co45) ?_).2.2; exact (by exact (zm (zg (p := ⟨gb563, 1, none⟩) (zg (p := ⟨gb563, 0, none⟩) (zm zN.1 (fun k_ hk => (⟨hk, hk.2⟩ : _ ∧ k_ ≠ gb563))) (fun _ hk => hk.2) (.int .i64 t559)) (fun _ hk => hk.2) (.int .i64 t560)) (fun _ h_ => h_.1)))); (case side2 => exact (Kd.R_reads' zN.1).2.1); rintro e w46 ⟨rfl, hb⟩; refine ⟨_, rfl, ?_⟩; replace zN := kz (zE (by exact (zm (zg (p := ⟨gb563, 1, none⟩) (zg (p := ⟨gb563, 0, none⟩) (zm zN.1 (fun k_ hk => (⟨hk, hk.2⟩ : _ ∧ k_ ≠ gb563))) (fun _ hk => hk.2) (.int .i64 t559)) (fun _ hk => hk.2) (.int .i64 t560)) (fun _ h_ => h_.1))) hb); replace zP := kz (zE (by exact (zm (zg (p := ⟨gb563, 1, none⟩) (zg (p := ⟨gb563, 0, none⟩) (zm zP.1 (fun k_ hk => (⟨hk, hk.2⟩ : _ ∧ k_ ≠ gb563))) (fun _ hk => hk.2) (.int .i64 t559)) (fun _ hk => hk.2) (.int .i64 t560)) (fun _ h_ => h_.1))) hb); replace zQ := kz (zD (g := gb544) (o := .cells #[.slice none 0 0, .int .i64 0, .slice none 0 0, .int .i64 0, .int .i64 0, .int .i64 0, .slice none 0 0, .slice none 0 0] 53 (0, 0)) (by refine zA ?_ qy.1 _; refine zA ?_ qy.1 _; exact zQ.1) hb); replace zM := kz (zD (g := gb545) (o := .cells #[.slice Ao45 zO.length co45, .int .i64 0, .slice none 0 0, .int .i64 0, .int .i64 0, .int .i64 0, .slice none 0 0, u546007] 53 (0, 0)) (by refine zA ?_ qz.1 _; refine zA ?_ qz.1 _; exact zM.1) hb); replace HI0 := kz (IsS102.below (show IsS102 w0 ((w37.setCell ⟨gb563, 0, none⟩ (.int .i64 t559)).setCell ⟨gb563, 1, none⟩ (.int .i64 t560)) g s0_0 t561 t562 from by repeat ((with_reducible first | exact HI0.1 | refine IsS102.far ?_ qA.1 _))) hb); replace qm := kz (zD (g := gb563) (o := .cells #[.int .i64 t559, .int .i64 t560] 35 (0, 0)) (by refine zu (cs := #[.int .i64 t559, .int .i64 0]) ?_ 1 _ rfl; refine zu (cs := #[.int .i64 0, .int .i64 0]) ?_ 0 _ rfl; exact qm.1) hb); replace HK := kz (zt (by repeat ((with_reducible first | exact HK.1 | refine zj ?_ qF.1 _))) (KeepBut.of_below hb g none) (.inl rfl)); replace HB := kz (below_step (by repeat ((with_reducible first | exact HB.1 | refine zf ?_ qG.1))) hb); (try clear hb); (try clear hb2); (try clear hk); (try clear hi); obtain ⟨hcz47_0, hcz47_1, hcz47_2, hcz47_3, hcz47_4, hcz47_5, hcz47_6, hcz47_7, hfz47_0, hfz47_1, hfz47_2, hfz47_3, hfz47_4, hfz47_5, hfz47_6, hfz47_7⟩ := bc8 zM.1; obtain ⟨hcz48_0, hcz48_1, hfz48_0, hfz48_1⟩ := bc2 qm.1; obtain ⟨Ao49, co49, eo49⟩ := zz zP.1; subst eo49) | ((with_reducible refine zC (f := 118) rfl ?_); refine zK (some 36) rfl rfl Try.func118 (by kernel_rfl) rfl #[.slice Ao49 zR.length co49, .agg #[.int .i64 t559, .int .i64 t560]] rfl (by (try simp only [kh, kg, kf]); rfl) ?_; (with_reducible refine (spec_l4Put.calls k2 (fun k_ => some k_ = (.slice Ao49 zR.length co49 : Value).ownBlock) (.slice Ao49 zR.length co49) zR t559 t560 t565 w0 _ ?side1 ?side2 A35.1).mono ?_); (case side1 => repeat (with_reducible exact HB.1)); (case side2 => exact Kd.R_lower (Kd.R_tight rfl zP.1) HL.1); rintro e w50 ⟨v566, rfl, ho0, hb, hkp⟩; refine ⟨_, rfl, ?_⟩; replace zQ := kz (blk_kept zQ.1 hkp (fun hs_ => (fun e_ => (Kd.R_ne zP.1 zQ.1 (by decide)) e_) hs_)); replace zM := kz (blk_kept zM.1 hkp (fun hs_ => (fun e_ => (Kd.R_ne zP.1 zM.1 (by decide)) e_) hs_)); replace HI0 := kz (IsS102.kept HI0.1 hkp (fun hs_ => (fun e_ => (IsS102.own_ne HI0.1 zP.1 (by decide)) e_) hs_)); have HO567 := kz (zm (ok' := fun k_ => some k_ ≠ (.slice Ao45 zO.length co45 : Value).ownBlock ∧ k_ ≠ gb563) (Kd.R_raise (d := k35) (b := w0.heap.size) (b' := w.heap.size) (fun _ _ _ _ h_ => h_) ho0 (fun k_ e_ => Or.elim (ho0.1 k_ e_) (fun hs_ => (fun e_ => Kd.R_base zP.1 k_ e_.symm) hs_) (fun hn_ => kc (zB (w := w) (g := g) (row := none) HK.1) hn_))) (fun k_ hk_ => ⟨Or.elim hk_ (fun hs_ => fun e_ => (((zN.1).1 k_ e_.symm).1) hs_) (fun hn_ => (Kd.fresh' (Kd.R_lt zN.1) k_ hn_)), Or.elim hk_ (fun hs_ => fun e_ => (Kd.R_away zP.1 (fun _ hk => hk.2)) (by rw [← e_]; exact hs_)) (fun hn_ => (Kd.freshB (g := gb563) (o := .cells #[.int .i64 t559, .int .i64 t560] 35 (0, 0)) qm.1 k_ hn_))⟩)); replace zN := kz (zm (ok' := fun k_ => k_ ≠ gb563 ∧ some k_ ≠ (v566 : Value).ownBlock) (Kd.R_keptB (zN.1) hkp (fun k_ hk_ hs_ => (hk_.1) hs_)) (fun k_ hk_ => ⟨hk_.1.2, fun e_ => Or.elim (ho0.1 k_ e_.symm) (fun hs_ => hk_.2.1 hs_) (fun hn_ => Nat.not_le.2 hk_.2.2 hn_)⟩)); replace HK := kz (Kept.keepG HK.1 hkp (fun k_ hs_ => (fun e_ => .inr (Kd.R_base zP.1 k_ e_.symm)) hs_)); replace HB := kz hb; (try clear hb); (try clear hkp); (try clear ho0); obtain ⟨Ao51, co51, eo51⟩ := zz HO567.1; subst eo51; obtain ⟨hcz52_0, hcz52_1, hcz52_2, hcz52_3, hcz52_4, hcz52_5, hcz52_6, hcz52_7, hfz52_0, hfz52_1, hfz52_2, hfz52_3, hfz52_4, hfz52_5, hfz52_6, hfz52_7⟩ := bc8 zM.1))
        go_roundg k2
        case measure => have := HK1.1; have := HK2.1; omega
        case rel => exact ⟨(wrap64 (x5_2 - 1)), (t561), (t562), (t565), (.slice Ao51 t565.length co51), (by rfl), H', ⟨by have := HK1.1; have := HK2.1; omega⟩, ⟨by exact zm (zg (p := ⟨gb545, 7, none⟩) (zx zN.1 zM.1 (by decide)) (fun _ hk => hk.2) (.slice Ao51 t565.length co51)) (fun _ hk => hk.1.2)⟩, ⟨by exact zm (zg (p := ⟨gb545, 7, none⟩) (zx HO567.1 zM.1 (by decide)) (fun _ hk => hk.2) (.slice Ao51 t565.length co51)) (fun _ hk => hk.1.1)⟩, ⟨by refine zA ?_ zZ.1 _; exact zQ.1⟩, ⟨by refine zu (cs := #[.slice Ao45 zO.length co45, .int .i64 0, .slice none 0 0, .int .i64 0, .int .i64 0, .int .i64 0, .slice none 0 0, .slice Ao49 zR.length co49]) ?_ 7 _ rfl; exact zM.1⟩, ⟨by repeat ((with_reducible first | exact HI0.1 | refine IsS102.far ?_ zS.1 _))⟩, ⟨by repeat ((with_reducible first | exact HK.1 | refine zj ?_ qe.1 _))⟩, ⟨by repeat ((with_reducible first | exact HB.1 | refine zf ?_ qh.1))⟩⟩
      ·
       rw [if_neg c20] at H
       have c20b0 := decide_eq_false c20
       clear c20
       have HC53 := kz H
       clear H
       go_upto_region 12 with (fail)
       go_cut [45] (fun v45 wc => ∃ (kq : Nat) (x45_52 : Bool) (qv : Int) (qw : Int), v45 = .bool x45_52 ∧ zy (spec_l1Cur_update.j2 kq x45_52 s0_0 qv qw zO 0 0 0 0 zR = some (r1, r2, r3, r4, r5, r6, r7, r8, r9, r10)) ∧ zy (kq ≤ k2) ∧ zy (Kd.R k35 35 wc w.heap.size (fun k_ => some k_ ≠ (u546007 : Value).ownBlock) u546000 zO) ∧ zy (Kd.R k35 35 wc w.heap.size (fun k_ => some k_ ≠ (u546000 : Value).ownBlock) u546007 zR) ∧ zy (wc.heap[gb544]? = some (.cells #[(.slice none 0 0), .int .i64 0, (.slice none 0 0), .int .i64 0, .int .i64 0, .int .i64 0, (.slice none 0 0), (.slice none 0 0)] 53 (0, 0))) ∧ zy (wc.heap[gb545]? = some (.cells #[u546000, .int .i64 0, (.slice none 0 0), .int .i64 0, .int .i64 0, .int .i64 0, (.slice none 0 0), u546007] 53 (0, 0))) ∧ zy (IsS102 w0 wc g s0_0 qv qw) ∧ zy (KeepBut w wc g none) ∧ zy (Below w0.heap.size w0 wc))
       case first =>
        have H := HC53.1
        clear HC53
        by_cases c54 : (zR.length : Int) > 0
        ·
         rw [if_pos c54] at H
         have c54b0 := decide_eq_true c54
         have c54b1 : decide (0 < zR.length) = true := decide_eq_true (by omega)
         clear c54
         skip
         have H' := kz H
         clear H
         have hnb55 := ql.1
         have hnc55 := zZ.1
         have hnb56 := qf.1
         have hnc56 := zS.1
         obtain ⟨hcz57_0, hcz57_1, hcz57_2, hcz57_3, hcz57_4, hcz57_5, hcz57_6, hcz57_7, hfz57_0, hfz57_1, hfz57_2, hfz57_3, hfz57_4, hfz57_5, hfz57_6, hfz57_7⟩ := bc8 zM.1
         obtain ⟨Ao58, co58, eo58⟩ := zz zP.1
         subst eo58
         go_wp2
         go_meet
         case rel => exact ⟨_, (true), (qn), (qo), (by rfl), H', ⟨by have := HK1.1; have := HK2.1; omega⟩, ⟨by exact zN.1⟩, ⟨by exact zP.1⟩, ⟨by exact zQ.1⟩, ⟨by exact zM.1⟩, ⟨by exact HI0.1⟩, ⟨by exact HK.1⟩, ⟨by exact HB.1⟩⟩
        ·
         rw [if_neg c54] at H
         have c54b0 := decide_eq_false c54
         have c54b1 : decide (0 < zR.length) = false := decide_eq_false (by omega)
         clear c54
         skip
         replace H := kj.mp H
         obtain ⟨⟨t568, t569, t570⟩, A590, H⟩ := H
         have A59 := kz A590
         clear A590
         have H' := kz H
         clear H
         have hnb60 := ql.1
         have hnc60 := zZ.1
         have hnb61 := qf.1
         have hnc61 := zS.1
         obtain ⟨hcz62_0, hcz62_1, hcz62_2, hcz62_3, hcz62_4, hcz62_5, hcz62_6, hcz62_7, hfz62_0, hfz62_1, hfz62_2, hfz62_3, hfz62_4, hfz62_5, hfz62_6, hfz62_7⟩ := bc8 zM.1
         obtain ⟨Ao63, co63, eo63⟩ := zz zP.1
         subst eo63
         go_wp2_with ((go_at_call 94; (with_reducible refine (spec_l1Cur_one.calls g s0_0 qn qo 20 t568 t569 t570 w0 _ ?side1 ?side2 A59.1).mono ?_); (case side1 => repeat (with_reducible exact HI0.1)); (case side2 => repeat (with_reducible exact HB.1)); rintro e w64 ⟨rfl, hi, hb, hk⟩; replace zN := kz (zm (zw (IsS102.apart (show IsS102 w0 _ g s0_0 qn qo from HI0.1) zN.1 (by decide)) hk (fun _ h => h.2)) (fun _ h => h.1)); replace zP := kz (zm (zw (IsS102.apart (show IsS102 w0 _ g s0_0 qn qo from HI0.1) zP.1 (by decide)) hk (fun _ h => h.2)) (fun _ h => h.1)); replace zQ := kz (zv hk (g' := gb544) (o := .cells #[.slice none 0 0, .int .i64 0, .slice none 0 0, .int .i64 0, .int .i64 0, .int .i64 0, .slice none 0 0, .slice none 0 0] 53 (0, 0)) zQ.1 qt.1 (by simp)); replace zM := kz (zv hk (g' := gb545) (o := .cells #[u546000, .int .i64 0, .slice none 0 0, .int .i64 0, .int .i64 0, .int .i64 0, .slice none 0 0, .slice Ao63 zR.length co63] 53 (0, 0)) zM.1 qf.1 (by simp)); replace HK := kz (zt HK.1 hk (.inl rfl)); replace HB := kz hb; replace HI0 := kz hi; (try clear hb); (try clear hb2); (try clear hk); (try clear hi)))
         go_meet
         case rel => exact ⟨_, (t568), (t569), (t570), (by rfl), H', ⟨by have := HK1.1; have := HK2.1; omega⟩, ⟨by exact zN.1⟩, ⟨by exact zP.1⟩, ⟨by exact zQ.1⟩, ⟨by exact zM.1⟩, ⟨by exact HI0.1⟩, ⟨by exact HK.1⟩, ⟨by exact HB.1⟩⟩
       case rest =>
        clear HC53
        (try clear c1); (try clear c2); (try clear p2); (try clear c3); (try clear c4); (try clear c5); (try clear c6); (try clear p6); (try clear c9); (try clear c9b0); (try clear c11); (try clear c20); (try clear c20b0); (try clear c23); (try clear c26); (try clear c27); (try clear c28); (try clear c30); (try clear c31); (try clear c38); (try clear c39); (try clear c40); (try clear c42); (try clear c43); (try clear c54); (try clear c54b0); (try clear c54b1); (try clear c55); (try clear c56); (try clear c60); (try clear c61); (try clear p64); (try clear hcz29_0); (try clear hcz29_1); (try clear hcz32_0); (try clear hcz32_1); (try clear hcz32_2); (try clear hcz32_3); (try clear hcz32_4); (try clear hcz32_5); (try clear hcz32_6); (try clear hcz32_7); (try clear hcz41_0); (try clear hcz41_1); (try clear hcz44_0); (try clear hcz44_1); (try clear hcz44_2); (try clear hcz44_3); (try clear hcz44_4); (try clear hcz44_5); (try clear hcz44_6); (try clear hcz44_7); (try clear hcz47_0); (try clear hcz47_1); (try clear hcz47_2); (try clear hcz47_3); (try clear hcz47_4); (try clear hcz47_5); (try clear hcz47_6); (try clear hcz47_7); (try clear hcz48_0); (try clear hcz48_1); (try clear hcz52_0); (try clear hcz52_1); (try clear hcz52_2); (try clear hcz52_3); (try clear hcz52_4); (try clear hcz52_5); (try clear hcz52_6); (try clear hcz52_7); (try clear hcz57_0); (try clear hcz57_1); (try clear hcz57_2); (try clear hcz57_3); (try clear hcz57_4); (try clear hcz57_5); (try clear hcz57_6); (try clear hcz57_7); (try clear hcz62_0); (try clear hcz62_1); (try clear hcz62_2); (try clear hcz62_3); (try clear hcz62_4); (try clear hcz62_5); (try clear hcz62_6); (try clear hcz62_7); (try clear hcz7_0); (try clear hcz7_1); (try clear hcz7_2); (try clear hcz7_3); (try clear hcz7_4); (try clear hcz7_5); (try clear hcz7_6); (try clear hcz7_7); (try clear hfz29_0); (try clear hfz29_1); (try clear hfz32_0); (try clear hfz32_1); (try clear hfz32_2); (try clear hfz32_3); (try clear hfz32_4); (try clear hfz32_5); (try clear hfz32_6); (try clear hfz32_7); (try clear hfz41_0); (try clear hfz41_1); (try clear hfz44_0); (try clear hfz44_1); (try clear hfz44_2); (try clear hfz44_3); (try clear hfz44_4); (try clear hfz44_5); (try clear hfz44_6); (try clear hfz44_7); (try clear hfz47_0); (try clear hfz47_1); (try clear hfz47_2); (try clear hfz47_3); (try clear hfz47_4); (try clear hfz47_5); (try clear hfz47_6); (try clear hfz47_7); (try clear hfz48_0); (try clear hfz48_1); (try clear hfz52_0); (try clear hfz52_1); (try clear hfz52_2); (try clear hfz52_3); (try clear hfz52_4); (try clear hfz52_5); (try clear hfz52_6); (try clear hfz52_7); (try clear hfz57_0); (try clear hfz57_1); (try clear hfz57_2); (try clear hfz57_3); (try clear hfz57_4); (try clear hfz57_5); (try clear hfz57_6); (try clear hfz57_7); (try clear hfz62_0); (try clear hfz62_1); (try clear hfz62_2); (try clear hfz62_3); (try clear hfz62_4); (try clear hfz62_5); (try clear hfz62_6); (try clear hfz62_7); (try clear hfz7_0); (try clear hfz7_1); (try clear hfz7_2); (try clear hfz7_3); (try clear hfz7_4); (try clear hfz7_5); (try clear hfz7_6); (try clear hfz7_7); (try clear p2); (try clear p6)
        obtain ⟨kq, x45_52, qv, qw, rfl, HA, HJ52, zN, zP, zQ, zM, HI0, HK, HB⟩ := hcut
        cases kq with
        | zero => exact absurd HA.1 (by simp [spec_l1Cur_update.j2])
        | succ kj52 =>
         have H := HA.1
         clear HA
         simp only [spec_l1Cur_update.j2] at H
         have HC65 := kz H
         clear H
         go_upto_if 45 with (fail)
         go_cut [] (fun wc => ∃ (kq : Nat) (qi : Int) (qj : Int) (zT : Int) (zY : List Int) (zV : Int) (zW : Int) (zX : Int) (qa : List Int) (u546002 : Value) (u546006 : Value), zy (spec_l1Cur_update.j3 kq s0_0 qi qj zO zT zY zV zW zX qa zR = some (r1, r2, r3, r4, r5, r6, r7, r8, r9, r10)) ∧ zy (kq ≤ kj52) ∧ zy (Kd.R k35 35 wc w.heap.size (fun k_ => some k_ ≠ (u546007 : Value).ownBlock) u546000 zO) ∧ zy (Kd.R (Kd.int .i64) 3 wc w.heap.size (fun k_ => some k_ ≠ (u546006 : Value).ownBlock) u546002 zY) ∧ zy (Kd.R (Kd.int .i64) 3 wc w.heap.size (fun k_ => some k_ ≠ (u546002 : Value).ownBlock) u546006 qa) ∧ zy (Kd.R k35 35 wc w.heap.size (fun k_ => some k_ ≠ (u546000 : Value).ownBlock) u546007 zR) ∧ zy (wc.heap[gb544]? = some (.cells #[(.slice none 0 0), .int .i64 0, (.slice none 0 0), .int .i64 0, .int .i64 0, .int .i64 0, (.slice none 0 0), (.slice none 0 0)] 53 (0, 0))) ∧ zy (wc.heap[gb545]? = some (.cells #[u546000, .int .i64 zT, u546002, .int .i64 zV, .int .i64 zW, .int .i64 zX, u546006, u546007] 53 (0, 0))) ∧ zy (IsS102 w0 wc g s0_0 qi qj) ∧ zy (KeepBut w wc g none) ∧ zy (Below w0.heap.size w0 wc))
         case first =>
          have H := HC65.1
          clear HC65
          by_cases c66 : x45_52 = true
          ·
           subst c66
           rw [if_pos rfl] at H
           replace H := kj.mp H
           obtain ⟨⟨t571, t572, t575, t576, t577, t578, t581, t582⟩, A670, H⟩ := H
           have A67 := kz A670
           clear A670
           have H' := kz H
           clear H
           go_wp2_with (((with_reducible refine zC (f := 89) rfl ?_); refine zK (some 47) rfl rfl Try.func89 (by kernel_rfl) rfl #[.pointer (some ⟨g, 0, none⟩)] rfl (by (try simp only [kh, kg, kf]); rfl) ?_; (with_reducible refine (spec_l1Cur_attrs.calls kj52 g s0_0 qv qw t571 t572 t575 t576 t577 t578 t581 t582 w0 _ ?side1 ?side2 A67.1).mono ?_); (case side1 => repeat (with_reducible exact HI0.1)); (case side2 => repeat (with_reducible exact HB.1)); rintro e w68 ⟨v573, v579, rfl, ho0, ho1, hi, hb, hk⟩; refine ⟨_, rfl, ?_⟩; replace zN := kz (zm (zw (IsS102.apart (show IsS102 w0 _ g s0_0 qv qw from HI0.1) zN.1 (by decide)) hk (fun _ h => h.2)) (fun _ h => h.1)); replace zP := kz (zm (zw (IsS102.apart (show IsS102 w0 _ g s0_0 qv qw from HI0.1) zP.1 (by decide)) hk (fun _ h => h.2)) (fun _ h => h.1)); replace zQ := kz (zv hk (g' := gb544) (o := .cells #[.slice none 0 0, .int .i64 0, .slice none 0 0, .int .i64 0, .int .i64 0, .int .i64 0, .slice none 0 0, .slice none 0 0] 53 (0, 0)) zQ.1 qt.1 (by simp)); replace zM := kz (zv hk (g' := gb545) (o := .cells #[u546000, .int .i64 0, .slice none 0 0, .int .i64 0, .int .i64 0, .int .i64 0, .slice none 0 0, u546007] 53 (0, 0)) zM.1 qf.1 (by simp)); have HO574 := kz (Kd.R_lower ho0 (zB (w := w) (g := g) (row := none) HK.1)); have HO580 := kz (Kd.R_lower ho1 (zB (w := w) (g := g) (row := none) HK.1)); replace HK := kz (zt HK.1 hk (.inl rfl)); replace HB := kz hb; replace HI0 := kz hi; (try clear hb); (try clear hb2); (try clear hk); (try clear hi); (try clear ho0); (try clear ho1); have hnb69 := ql.1; have hnc69 := zZ.1; have hnb70 := qf.1; have hnc70 := zS.1; obtain ⟨hcz71_0, hcz71_1, hcz71_2, hcz71_3, hcz71_4, hcz71_5, hcz71_6, hcz71_7, hfz71_0, hfz71_1, hfz71_2, hfz71_3, hfz71_4, hfz71_5, hfz71_6, hfz71_7⟩ := bc8 zM.1; obtain ⟨Ao72, co72, eo72⟩ := zz HO574.1; subst eo72; obtain ⟨Ao73, co73, eo73⟩ := zz HO580.1; subst eo73))
           go_meet
           case rel => exact ⟨_, (t581), (t582), (t571), (t572), (t575), (t576), (t577), (t578), (.slice Ao72 t572.length co72), (.slice Ao73 t578.length co73), H', ⟨by have := HK1.1; have := HK2.1; have := HJ52.1; omega⟩, ⟨by exact zm (zg (p := ⟨gb545, 6, none⟩) (zg (p := ⟨gb545, 5, none⟩) (zg (p := ⟨gb545, 4, none⟩) (zg (p := ⟨gb545, 3, none⟩) (zg (p := ⟨gb545, 2, none⟩) (zg (p := ⟨gb545, 1, none⟩) (zx zN.1 zM.1 (by decide)) (fun _ hk => hk.2) (.int .i64 t571)) (fun _ hk => hk.2) (.slice Ao72 t572.length co72)) (fun _ hk => hk.2) (.int .i64 t575)) (fun _ hk => hk.2) (.int .i64 t576)) (fun _ hk => hk.2) (.int .i64 t577)) (fun _ hk => hk.2) (.slice Ao73 t578.length co73)) (fun _ hk => hk.1)⟩, ⟨by exact zm (zg (p := ⟨gb545, 6, none⟩) (zg (p := ⟨gb545, 5, none⟩) (zg (p := ⟨gb545, 4, none⟩) (zg (p := ⟨gb545, 3, none⟩) (zg (p := ⟨gb545, 2, none⟩) (zg (p := ⟨gb545, 1, none⟩) (zx HO574.1 zM.1 (by decide)) (fun _ hk => hk.2) (.int .i64 t571)) (fun _ hk => hk.2) (.slice Ao72 t572.length co72)) (fun _ hk => hk.2) (.int .i64 t575)) (fun _ hk => hk.2) (.int .i64 t576)) (fun _ hk => hk.2) (.int .i64 t577)) (fun _ hk => hk.2) (.slice Ao73 t578.length co73)) (fun _ hk => hk.1)⟩, ⟨by exact zm (zg (p := ⟨gb545, 6, none⟩) (zg (p := ⟨gb545, 5, none⟩) (zg (p := ⟨gb545, 4, none⟩) (zg (p := ⟨gb545, 3, none⟩) (zg (p := ⟨gb545, 2, none⟩) (zg (p := ⟨gb545, 1, none⟩) (zx HO580.1 zM.1 (by decide)) (fun _ hk => hk.2) (.int .i64 t571)) (fun _ hk => hk.2) (.slice Ao72 t572.length co72)) (fun _ hk => hk.2) (.int .i64 t575)) (fun _ hk => hk.2) (.int .i64 t576)) (fun _ hk => hk.2) (.int .i64 t577)) (fun _ hk => hk.2) (.slice Ao73 t578.length co73)) (fun _ hk => hk.1)⟩, ⟨by exact zm (zg (p := ⟨gb545, 6, none⟩) (zg (p := ⟨gb545, 5, none⟩) (zg (p := ⟨gb545, 4, none⟩) (zg (p := ⟨gb545, 3, none⟩) (zg (p := ⟨gb545, 2, none⟩) (zg (p := ⟨gb545, 1, none⟩) (zx zP.1 zM.1 (by decide)) (fun _ hk => hk.2) (.int .i64 t571)) (fun _ hk => hk.2) (.slice Ao72 t572.length co72)) (fun _ hk => hk.2) (.int .i64 t575)) (fun _ hk => hk.2) (.int .i64 t576)) (fun _ hk => hk.2) (.int .i64 t577)) (fun _ hk => hk.2) (.slice Ao73 t578.length co73)) (fun _ hk => hk.1)⟩, ⟨by refine zA ?_ zZ.1 _; refine zA ?_ zZ.1 _; refine zA ?_ zZ.1 _; refine zA ?_ zZ.1 _; refine zA ?_ zZ.1 _; refine zA ?_ zZ.1 _; exact zQ.1⟩, ⟨by refine zu (cs := #[u546000, .int .i64 t571, .slice Ao72 t572.length co72, .int .i64 t575, .int .i64 t576, .int .i64 t577, .slice none 0 0, u546007]) ?_ 6 _ rfl; refine zu (cs := #[u546000, .int .i64 t571, .slice Ao72 t572.length co72, .int .i64 t575, .int .i64 t576, .int .i64 0, .slice none 0 0, u546007]) ?_ 5 _ rfl; refine zu (cs := #[u546000, .int .i64 t571, .slice Ao72 t572.length co72, .int .i64 t575, .int .i64 0, .int .i64 0, .slice none 0 0, u546007]) ?_ 4 _ rfl; refine zu (cs := #[u546000, .int .i64 t571, .slice Ao72 t572.length co72, .int .i64 0, .int .i64 0, .int .i64 0, .slice none 0 0, u546007]) ?_ 3 _ rfl; refine zu (cs := #[u546000, .int .i64 t571, .slice none 0 0, .int .i64 0, .int .i64 0, .int .i64 0, .slice none 0 0, u546007]) ?_ 2 _ rfl; refine zu (cs := #[u546000, .int .i64 0, .slice none 0 0, .int .i64 0, .int .i64 0, .int .i64 0, .slice none 0 0, u546007]) ?_ 1 _ rfl; exact zM.1⟩, ⟨by repeat ((with_reducible first | exact HI0.1 | refine IsS102.far ?_ zS.1 _))⟩, ⟨by repeat ((with_reducible first | exact HK.1 | refine zj ?_ qe.1 _))⟩, ⟨by repeat ((with_reducible first | exact HB.1 | refine zf ?_ qh.1))⟩⟩
          ·
           replace c66 := Bool.eq_false_iff.mpr c66
           subst c66
           rw [if_neg (show ¬ (false = true) by decide)] at H
           have H' := kz H
           clear H
           go_wp2
           go_meet
           case rel => exact ⟨_, (qv), (qw), (0), (([] : List Int)), (0), (0), (0), (([] : List Int)), (.slice none 0 0), (.slice none 0 0), H', ⟨by have := HK1.1; have := HK2.1; have := HJ52.1; omega⟩, ⟨by exact zN.1⟩, ⟨by exact Kd.R_nil _ _ _ _ _⟩, ⟨by exact Kd.R_nil _ _ _ _ _⟩, ⟨by exact zP.1⟩, ⟨by exact zQ.1⟩, ⟨by exact zM.1⟩, ⟨by exact HI0.1⟩, ⟨by exact HK.1⟩, ⟨by exact HB.1⟩⟩
         case rest =>
          clear HC65
          (try clear c1); (try clear c2); (try clear p2); (try clear c3); (try clear c4); (try clear c5); (try clear c6); (try clear p6); (try clear c7); (try clear c8); (try clear c9); (try clear c9b0); (try clear c11); (try clear c20); (try clear c20b0); (try clear c23); (try clear c26); (try clear c27); (try clear c28); (try clear c30); (try clear c31); (try clear c38); (try clear c39); (try clear c40); (try clear c42); (try clear c43); (try clear c54); (try clear c54b0); (try clear c54b1); (try clear c55); (try clear c56); (try clear c60); (try clear c61); (try clear p64); (try clear c66); (try clear c69); (try clear c70); (try clear hcz29_0); (try clear hcz29_1); (try clear hcz32_0); (try clear hcz32_1); (try clear hcz32_2); (try clear hcz32_3); (try clear hcz32_4); (try clear hcz32_5); (try clear hcz32_6); (try clear hcz32_7); (try clear hcz41_0); (try clear hcz41_1); (try clear hcz44_0); (try clear hcz44_1); (try clear hcz44_2); (try clear hcz44_3); (try clear hcz44_4); (try clear hcz44_5); (try clear hcz44_6); (try clear hcz44_7); (try clear hcz47_0); (try clear hcz47_1); (try clear hcz47_2); (try clear hcz47_3); (try clear hcz47_4); (try clear hcz47_5); (try clear hcz47_6); (try clear hcz47_7); (try clear hcz48_0); (try clear hcz48_1); (try clear hcz52_0); (try clear hcz52_1); (try clear hcz52_2); (try clear hcz52_3); (try clear hcz52_4); (try clear hcz52_5); (try clear hcz52_6); (try clear hcz52_7); (try clear hcz57_0); (try clear hcz57_1); (try clear hcz57_2); (try clear hcz57_3); (try clear hcz57_4); (try clear hcz57_5); (try clear hcz57_6); (try clear hcz57_7); (try clear hcz62_0); (try clear hcz62_1); (try clear hcz62_2); (try clear hcz62_3); (try clear hcz62_4); (try clear hcz62_5); (try clear hcz62_6); (try clear hcz62_7); (try clear hcz71_0); (try clear hcz71_1); (try clear hcz71_2); (try clear hcz71_3); (try clear hcz71_4); (try clear hcz71_5); (try clear hcz71_6); (try clear hcz71_7); (try clear hcz7_0); (try clear hcz7_1); (try clear hcz7_2); (try clear hcz7_3); (try clear hcz7_4); (try clear hcz7_5); (try clear hcz7_6); (try clear hcz7_7); (try clear hfz29_0); (try clear hfz29_1); (try clear hfz32_0); (try clear hfz32_1); (try clear hfz32_2); (try clear hfz32_3); (try clear hfz32_4); (try clear hfz32_5); (try clear hfz32_6); (try clear hfz32_7); (try clear hfz41_0); (try clear hfz41_1); (try clear hfz44_0); (try clear hfz44_1); (try clear hfz44_2); (try clear hfz44_3); (try clear hfz44_4); (try clear hfz44_5); (try clear hfz44_6); (try clear hfz44_7); (try clear hfz47_0); (try clear hfz47_1); (try clear hfz47_2); (try clear hfz47_3); (try clear hfz47_4); (try clear hfz47_5); (try clear hfz47_6); (try clear hfz47_7); (try clear hfz48_0); (try clear hfz48_1); (try clear hfz52_0); (try clear hfz52_1); (try clear hfz52_2); (try clear hfz52_3); (try clear hfz52_4); (try clear hfz52_5); (try clear hfz52_6); (try clear hfz52_7); (try clear hfz57_0); (try clear hfz57_1); (try clear hfz57_2); (try clear hfz57_3); (try clear hfz57_4); (try clear hfz57_5); (try clear hfz57_6); (try clear hfz57_7); (try clear hfz62_0); (try clear hfz62_1); (try clear hfz62_2); (try clear hfz62_3); (try clear hfz62_4); (try clear hfz62_5); (try clear hfz62_6); (try clear hfz62_7); (try clear hfz71_0); (try clear hfz71_1); (try clear hfz71_2); (try clear hfz71_3); (try clear hfz71_4); (try clear hfz71_5); (try clear hfz71_6); (try clear hfz71_7); (try clear hfz7_0); (try clear hfz7_1); (try clear hfz7_2); (try clear hfz7_3); (try clear hfz7_4); (try clear hfz7_5); (try clear hfz7_6); (try clear hfz7_7); (try clear p2); (try clear p6); (try clear p64)
          obtain ⟨kq, qi, qj, zT, zY, zV, zW, zX, qa, u546002, u546006, HA, HJ64, zN, qb, qc, zP, zQ, zM, HI0, HK, HB⟩ := hcut
          cases kq with
          | zero => exact absurd HA.1 (by simp [spec_l1Cur_update.j3])
          | succ kj64 =>
           have H := HA.1
           clear HA
           simp only [spec_l1Cur_update.j3] at H
           replace H := kj.mp H
           obtain ⟨⟨t583, t584, t585⟩, A740, H⟩ := H
           have A74 := kz A740
           clear A740
           by_cases c75 : t583 = true
           ·
            subst c75
            rw [if_pos rfl] at H
            replace H := kj.mp H
            obtain ⟨⟨t586, t587, t588, t589⟩, A760, H⟩ := H
            have A76 := kz A760
            clear A760
            by_cases c77 : zO.length < 8796093022208
            ·
             rw [if_pos c77] at H
             have LMc77 := kz c77
             clear c77
             obtain ⟨y590, hy590⟩ : ∃ y_ : List (S35), y_ = (zO ++ [(⟨t586, t587⟩ : S35)]) := ⟨_, rfl⟩
             replace H : (some (y590, zT, zY, zV, zW, zX, qa, zR, t588, t589)) = some (r1, r2, r3, r4, r5, r6, r7, r8, r9, r10) := by (rw [hy590]; with_reducible exact H)
             have Ny590 := kz hy590
             clear hy590
             simp only [Option.some.injEq, Prod.mk.injEq] at H
             obtain ⟨rfl, rfl, rfl, rfl, rfl, rfl, rfl, rfl, rfl, rfl⟩ := H
             try go_wp2_with (((with_reducible refine zC (f := 94) rfl ?_); refine zK (some 50) rfl rfl Try.func94 (by kernel_rfl) rfl #[.pointer (some ⟨g, 0, none⟩), .int .i64 30] rfl (by (try simp only [kh, kg, kf]); rfl) ?_; (with_reducible refine (spec_l1Cur_one.calls g s0_0 qi qj 30 true t584 t585 w0 _ ?side1 ?side2 A74.1).mono ?_); (case side1 => repeat (with_reducible exact HI0.1)); (case side2 => repeat (with_reducible exact HB.1)); rintro e w78 ⟨rfl, hi, hb, hk⟩; refine ⟨_, rfl, ?_⟩; replace zN := kz (zm (zw (IsS102.apart (show IsS102 w0 _ g s0_0 qi qj from HI0.1) zN.1 (by decide)) hk (fun _ h => h.2)) (fun _ h => h.1)); replace qb := kz (zm (zw (IsS102.apart (show IsS102 w0 _ g s0_0 qi qj from HI0.1) qb.1 (by decide)) hk (fun _ h => h.2)) (fun _ h => h.1)); replace qc := kz (zm (zw (IsS102.apart (show IsS102 w0 _ g s0_0 qi qj from HI0.1) qc.1 (by decide)) hk (fun _ h => h.2)) (fun _ h => h.1)); replace zP := kz (zm (zw (IsS102.apart (show IsS102 w0 _ g s0_0 qi qj from HI0.1) zP.1 (by decide)) hk (fun _ h => h.2)) (fun _ h => h.1)); replace zQ := kz (zv hk (g' := gb544) (o := .cells #[.slice none 0 0, .int .i64 0, .slice none 0 0, .int .i64 0, .int .i64 0, .int .i64 0, .slice none 0 0, .slice none 0 0] 53 (0, 0)) zQ.1 qt.1 (by simp)); replace zM := kz (zv hk (g' := gb545) (o := .cells #[u546000, .int .i64 zT, u546002, .int .i64 zV, .int .i64 zW, .int .i64 zX, u546006, u546007] 53 (0, 0)) zM.1 qf.1 (by simp)); replace HK := kz (zt HK.1 hk (.inl rfl)); replace HB := kz hb; replace HI0 := kz hi; (try clear hb); (try clear hb2); (try clear hk); (try clear hi)))
             replace zN := kz (zk zN.1)
             replace qb := kz (zk qb.1)
             replace qc := kz (zk qc.1)
             replace zP := kz (zk zP.1)
             replace zQ := kz (ze zQ.1)
             replace zM := kz (ze zM.1)
             replace HI0 := kz (IsS102.drew HI0.1)
             replace HK := kz (zq HK.1)
             replace HB := kz (zr HB.1)
             refine start_ (n := 8) (S := fun w' => w'.cell? ⟨gb545, 0, none⟩ = some (u546000) ∧ w'.cell? ⟨gb545, 1, none⟩ = some (.int .i64 zT) ∧ w'.cell? ⟨gb545, 2, none⟩ = some (u546002) ∧ w'.cell? ⟨gb545, 3, none⟩ = some (.int .i64 zV) ∧ w'.cell? ⟨gb545, 4, none⟩ = some (.int .i64 zW) ∧ w'.cell? ⟨gb545, 5, none⟩ = some (.int .i64 zX) ∧ w'.cell? ⟨gb545, 6, none⟩ = some (u546006) ∧ w'.cell? ⟨gb545, 7, none⟩ = some (u546007)) (ds := [7]) #[kx,kx,kx,kx,kx,kx,kx,kx] (by kernel_rfl) rfl rfl ⟨(zb zM.1 0).trans rfl, (zb zM.1 1).trans rfl, (zb zM.1 2).trans rfl, (zb zM.1 3).trans rfl, (zb zM.1 4).trans rfl, (zb zM.1 5).trans rfl, (zb zM.1 6).trans rfl, (zb zM.1 7).trans rfl⟩ (fun hHeld => ?_); refine with_tabW spec_l1Cur_update.tab15 spec_l1Cur_update.bits15 (fun HT_ HW_ => ?_)
             generalize w78.drew = w79 at zN qb qc zP zQ zM HI0 HK HB hHeld ⊢
             refine pure_ (i := 0) (N := some 51) (v := ?_) (a' := ?_) #[ko,kx,kx,kx,kx,kx,kx,kx] rfl rfl (any_of HT_.1 (by kernel_rfl)) (fun _ _ _ h => h) (Or.inl ⟨by rfl, ?_⟩) ?_ ?_
             rotate_left
             ·
              intro w'
              go_simp
              with_reducible rfl
             rotate_left
             ·
              simp only [ke, ky, kk, kv, zI, zJ]
              rfl
             refine pure_ (i := 2) (N := some 53) (v := ?_) (a' := ?_) #[ko,kx,ko,kx,kx,kx,kx,kx] rfl rfl (any_of HT_.1 (by kernel_rfl)) (fun _ _ _ h => h) (Or.inl ⟨by rfl, ?_⟩) ?_ ?_
             rotate_left
             ·
              intro w'
              go_simp
              with_reducible rfl
             rotate_left
             ·
              simp only [ke, ky, kk, kv, zI, zJ]
              rfl
             refine take_ (i := 1) (N := some 52) (v := ?_) (a' := ?_) #[ko,ko,ko,kx,kx,kx,kx,kx] rfl rfl (take_ofW HT_.1 HW_.1 (by kernel_rfl)) (fun _ _ _ h => h) (Or.inl ⟨by rfl, ?_⟩) hHeld ?_ ?_
             rotate_left
             ·
              rintro w' ⟨s0, s1, s2, s3, s4, s5, s6, s7⟩
              go_simp
              with_reducible rfl
             rotate_left
             ·
              simp only [ke, ky, kk, kv, zI, zJ]
              rfl
             refine one_ (i := 3) (N := some 54) #[ko,ko,ko,ko,kx,kx,kx,kx] rfl rfl (one_of HT_.1 (by kernel_rfl)) (by decide) (fun K hK => ?_)
             refine goes_ Try.func116 (by kernel_rfl) rfl #[.pointer (some ⟨g, 0, none⟩)] (by rfl) rfl rfl (by (try simp only [kh, kg, kf]); rfl) ?_
             with_reducible refine (spec_l1Cur_prefix.calls g s0_0 t584 t585 t586 t587 t588 t589 w0 _ ?side1 ?side2 A76.1).mono ?_
             (case side1 => repeat (with_reducible exact HI0.1))
             (case side2 => repeat (with_reducible exact HB.1))
             rintro e w80 ⟨rfl, hi, hb, hk⟩
             refine ⟨_, rfl, ?_⟩
             replace zN := kz (zm (zw (IsS102.apart (show IsS102 w0 _ g s0_0 t584 t585 from HI0.1) zN.1 (by decide)) hk (fun _ h => h.2)) (fun _ h => h.1))
             replace qb := kz (zm (zw (IsS102.apart (show IsS102 w0 _ g s0_0 t584 t585 from HI0.1) qb.1 (by decide)) hk (fun _ h => h.2)) (fun _ h => h.1))
             replace qc := kz (zm (zw (IsS102.apart (show IsS102 w0 _ g s0_0 t584 t585 from HI0.1) qc.1 (by decide)) hk (fun _ h => h.2)) (fun _ h => h.1))
             replace zP := kz (zm (zw (IsS102.apart (show IsS102 w0 _ g s0_0 t584 t585 from HI0.1) zP.1 (by decide)) hk (fun _ h => h.2)) (fun _ h => h.1))
             replace zQ := kz (zv hk (g' := gb544) (o := .cells #[.slice none 0 0, .int .i64 0, .slice none 0 0, .int .i64 0, .int .i64 0, .int .i64 0, .slice none 0 0, .slice none 0 0] 53 (0, 0)) zQ.1 qt.1 (by simp))
             replace zM := kz (zv hk (g' := gb545) (o := .cells #[u546000, .int .i64 zT, u546002, .int .i64 zV, .int .i64 zW, .int .i64 zX, u546006, u546007] 53 (0, 0)) zM.1 qf.1 (by simp))
             replace HK := kz (zt HK.1 hk (.inl rfl))
             replace HB := kz hb
             replace HI0 := kz hi
             (try clear hb)
             (try clear hb2)
             (try clear hk)
             (try clear hi)
             refine hK.out _ _ ⟨(zb zM.1 0).trans rfl, (zb zM.1 1).trans rfl, (zb zM.1 2).trans rfl, (zb zM.1 3).trans rfl, (zb zM.1 4).trans rfl, (zb zM.1 5).trans rfl, (zb zM.1 6).trans rfl, (zb zM.1 7).trans rfl⟩ (fun hHeld => ?_)
             clear hK K
             refine norm_ (a' := ?_) ?_ ?_
             rotate_left
             ·
              show ke _ (some 54) _ = _
              simp only [ke, ky, kk, kv, zI, zJ]
              rfl
             refine one_ (i := 4) (N := some 55) #[ko,ko,ko,ko,ko,kx,kx,kx] rfl rfl (one_of HT_.1 (by kernel_rfl)) (by decide) (fun K hK => ?_)
             refine value_ (w1 := ?_) (v := ?_) (by rfl) rfl ?_ ?_
             rotate_left 2
             ·
              go_simp
              constructor
              ·
               rfl
              ·
               rfl
             refine hK.out _ _ ⟨(zb (za zM.1 _) 0).trans rfl, (zb (za zM.1 _) 1).trans rfl, (zb (za zM.1 _) 2).trans rfl, (zb (za zM.1 _) 3).trans rfl, (zb (za zM.1 _) 4).trans rfl, (zb (za zM.1 _) 5).trans rfl, (zb (za zM.1 _) 6).trans rfl, (zb (za zM.1 _) 7).trans rfl⟩ (fun hHeld => ?_)
             clear hK K
             refine norm_ (a' := ?_) ?_ ?_
             rotate_left
             ·
              show ke _ (some 55) _ = _
              simp only [ke, ky, kk, kv, zI, zJ]
              rfl
             refine one_ (i := 5) (N := some 56) #[ko,ko,ko,ko,ko,ko,kx,kx] rfl rfl (one_of HT_.1 (by kernel_rfl)) (by decide) (fun K hK => ?_)
             refine Kd.R_append_step k35 w.heap.size (by rfl) (.tmp 52) (.tmp 55) 51 35 (.agg #[(.int .i64 0), (.int .i64 0)]) 16 rfl Try.underlying51 info35 rfl (by decide) (by omega) u546000 zO (⟨t586, t587⟩ : S35) [.int .i64 t586, .int .i64 t587] (fun k_ => some k_ ≠ (u546007 : Value).ownBlock) (fun _ => False) rfl rfl ?aP (fun _ hk => hk.elim) ?aF ?aO (Below.refl _ _) ?aS ?aL ?_
             (case aP => exact k35_mkM _ _ _ (⟨t586, t587⟩ : S35))
             (case aF => exact (fun k_ hk => Kd.fresh' (Kd.R_lt zP.1) k_ hk))
             (case aO => exact zN.1)
             (case aS => exact (zB (w := w) (g := g) (row := none) HK.1))
             (case aL => have := LMc77.1; omega)
             intro v591 w81 ho hb hg hat
             rw [← Ny590.1] at ho
             replace qb := kz (Kd.R_over' qb.1 (Kd.R_typed zN.1) (by decide) hg)
             replace qc := kz (Kd.R_over' qc.1 (Kd.R_typed zN.1) (by decide) hg)
             replace zP := kz (Kd.R_after (ok := (fun _ => True)) (by exact zm zP.1 (fun _ hk => ⟨trivial, hk⟩)) hg hat)
             replace zQ := kz (blk_grown (g := gb544) (o := .cells #[.slice none 0 0, .int .i64 0, .slice none 0 0, .int .i64 0, .int .i64 0, .int .i64 0, .slice none 0 0, .slice none 0 0] 53 (0, 0)) zQ.1 hg (Kd.R_ne zN.1 zQ.1 (by decide)))
             replace zM := kz (blk_grown (g := gb545) (o := .cells #[u546000, .int .i64 zT, u546002, .int .i64 zV, .int .i64 zW, .int .i64 zX, u546006, u546007] 53 (0, 0)) zM.1 hg (Kd.R_ne zN.1 zM.1 (by decide)))
             replace HI0 := kz (IsS102.grown (show IsS102 w0 _ g s0_0 t588 t589 from HI0.1) hg (IsS102.own_ne HI0.1 zN.1 (by decide)))
             replace HB := kz (below_weaken HB.1 HL.1 hb)
             replace HK := kz (zt HK.1 (KeepBut.of_grown hg g) (Kd.R_base2 zN.1))
             have HO592 := kz ho
             clear ho hb hg hat
             obtain ⟨Ao82, co82, eo82⟩ := zz HO592.1
             (subst eo82)
             refine hK.out _ _ ⟨(zb zM.1 0).trans rfl, (zb zM.1 1).trans rfl, (zb zM.1 2).trans rfl, (zb zM.1 3).trans rfl, (zb zM.1 4).trans rfl, (zb zM.1 5).trans rfl, (zb zM.1 6).trans rfl, (zb zM.1 7).trans rfl⟩ (fun hHeld => ?_)
             clear hK K
             refine norm_ (a' := ?_) ?_ ?_
             rotate_left
             ·
              show ke _ (some 56) _ = _
              simp only [ke, ky, kk, kv, zI, zJ]
              rfl
             refine pure_ (i := 6) (N := some 57) (v := ?_) (a' := ?_) #[ko,ko,ko,ko,ko,ko,ko,kx] rfl rfl (any_of HT_.1 (by kernel_rfl)) (fun _ _ _ h => h) (Or.inl ⟨by rfl, ?_⟩) ?_ ?_
             rotate_left
             ·
              intro w'
              go_simp
              with_reducible rfl
             rotate_left
             ·
              simp only [ke, ky, kk, kv, zI, zJ]
              rfl
             refine last_ (i := 7) (N := none) #[ko,ko,ko,ko,ko,ko,ko,ko] rfl rfl (one_of HT_.1 (by kernel_rfl)) (by decide) (fun K hK => ?_)
             have hs83 := bc8 zM.1
             have hns83_0 := zZ.1
             have hms83_0 := ql.1
             refine skip_ (w1 := ?_) (by rfl) rfl ?_ ?_
             rotate_left
             ·
              go_simp
              rfl
             refine hK.out _ _ ?_
             clear hK K
             refine done_ (done_of HT_.1 (by kernel_rfl)) ?_
             have hnb84 := ql.1
             have hnc84 := zZ.1
             have hnb85 := qf.1
             have hnc85 := zS.1
             have hcz86_0 := bc8 zM.1
             have hnb87 := qt.1
             have hnc87 := zU.1
             have hcz88_0 := bc8 zQ.1
             obtain ⟨Ao89, co89, eo89⟩ := zz qb.1
             subst eo89
             obtain ⟨Ao90, co90, eo90⟩ := zz qc.1
             subst eo90
             obtain ⟨Ao91, co91, eo91⟩ := zz zP.1
             subst eo91
             try go_wp2
             refine bodyPost_ret (results_cell_row rfl _ _ gb544 53 #[.slice Ao82 y590.length co82, .int .i64 zT, .slice Ao89 zY.length co89, .int .i64 zV, .int .i64 zW, .int .i64 zX, .slice Ao90 qa.length co90, .slice Ao91 zR.length co91] (0, 0) _ rfl (by refine zu (cs := #[.slice Ao82 y590.length co82, .int .i64 zT, .slice Ao89 zY.length co89, .int .i64 zV, .int .i64 zW, .int .i64 zX, .slice Ao90 qa.length co90, .slice none 0 0]) ?_ 7 _ rfl; refine zu (cs := #[.slice Ao82 y590.length co82, .int .i64 zT, .slice Ao89 zY.length co89, .int .i64 zV, .int .i64 zW, .int .i64 zX, .slice none 0 0, .slice none 0 0]) ?_ 6 _ rfl; refine zu (cs := #[.slice Ao82 y590.length co82, .int .i64 zT, .slice Ao89 zY.length co89, .int .i64 zV, .int .i64 zW, .int .i64 0, .slice none 0 0, .slice none 0 0]) ?_ 5 _ rfl; refine zu (cs := #[.slice Ao82 y590.length co82, .int .i64 zT, .slice Ao89 zY.length co89, .int .i64 zV, .int .i64 0, .int .i64 0, .slice none 0 0, .slice none 0 0]) ?_ 4 _ rfl; refine zu (cs := #[.slice Ao82 y590.length co82, .int .i64 zT, .slice Ao89 zY.length co89, .int .i64 0, .int .i64 0, .int .i64 0, .slice none 0 0, .slice none 0 0]) ?_ 3 _ rfl; refine zu (cs := #[.slice Ao82 y590.length co82, .int .i64 zT, .slice none 0 0, .int .i64 0, .int .i64 0, .int .i64 0, .slice none 0 0, .slice none 0 0]) ?_ 2 _ rfl; refine zu (cs := #[.slice Ao82 y590.length co82, .int .i64 0, .slice none 0 0, .int .i64 0, .int .i64 0, .int .i64 0, .slice none 0 0, .slice none 0 0]) ?_ 1 _ rfl; refine zu (cs := #[.slice none 0 0, .int .i64 0, .slice none 0 0, .int .i64 0, .int .i64 0, .int .i64 0, .slice none 0 0, .slice none 0 0]) ?_ 0 _ rfl; refine zA ?_ zZ.1 _; exact zQ.1) Try.underlying53 rfl (by kernel_rfl)) rfl ?_
             exact ⟨_, _, _, _, by rfl, by exact zm (zg (p := ⟨gb544, 7, none⟩) (zg (p := ⟨gb544, 6, none⟩) (zg (p := ⟨gb544, 5, none⟩) (zg (p := ⟨gb544, 4, none⟩) (zg (p := ⟨gb544, 3, none⟩) (zg (p := ⟨gb544, 2, none⟩) (zg (p := ⟨gb544, 1, none⟩) (zg (p := ⟨gb544, 0, none⟩) (zg (p := ⟨gb545, 0, none⟩) (zx (zx HO592.1 zM.1 (by decide)) zQ.1 (by decide)) (fun _ hk => hk.1.2) (.slice Ao82 y590.length co82)) (fun _ hk => hk.2) (.slice Ao82 y590.length co82)) (fun _ hk => hk.2) (.int .i64 zT)) (fun _ hk => hk.2) (.slice Ao89 zY.length co89)) (fun _ hk => hk.2) (.int .i64 zV)) (fun _ hk => hk.2) (.int .i64 zW)) (fun _ hk => hk.2) (.int .i64 zX)) (fun _ hk => hk.2) (.slice Ao90 qa.length co90)) (fun _ hk => hk.2) (.slice Ao91 zR.length co91)) (fun _ hk => hk.1.1), by exact zm (zg (p := ⟨gb544, 7, none⟩) (zg (p := ⟨gb544, 6, none⟩) (zg (p := ⟨gb544, 5, none⟩) (zg (p := ⟨gb544, 4, none⟩) (zg (p := ⟨gb544, 3, none⟩) (zg (p := ⟨gb544, 2, none⟩) (zg (p := ⟨gb544, 1, none⟩) (zg (p := ⟨gb544, 0, none⟩) (zg (p := ⟨gb545, 0, none⟩) (zx (zx qb.1 zM.1 (by decide)) zQ.1 (by decide)) (fun _ hk => hk.1.2) (.slice Ao82 y590.length co82)) (fun _ hk => hk.2) (.slice Ao82 y590.length co82)) (fun _ hk => hk.2) (.int .i64 zT)) (fun _ hk => hk.2) (.slice Ao89 zY.length co89)) (fun _ hk => hk.2) (.int .i64 zV)) (fun _ hk => hk.2) (.int .i64 zW)) (fun _ hk => hk.2) (.int .i64 zX)) (fun _ hk => hk.2) (.slice Ao90 qa.length co90)) (fun _ hk => hk.2) (.slice Ao91 zR.length co91)) (fun _ hk => hk.1.1), by exact zm (zg (p := ⟨gb544, 7, none⟩) (zg (p := ⟨gb544, 6, none⟩) (zg (p := ⟨gb544, 5, none⟩) (zg (p := ⟨gb544, 4, none⟩) (zg (p := ⟨gb544, 3, none⟩) (zg (p := ⟨gb544, 2, none⟩) (zg (p := ⟨gb544, 1, none⟩) (zg (p := ⟨gb544, 0, none⟩) (zg (p := ⟨gb545, 0, none⟩) (zx (zx qc.1 zM.1 (by decide)) zQ.1 (by decide)) (fun _ hk => hk.1.2) (.slice Ao82 y590.length co82)) (fun _ hk => hk.2) (.slice Ao82 y590.length co82)) (fun _ hk => hk.2) (.int .i64 zT)) (fun _ hk => hk.2) (.slice Ao89 zY.length co89)) (fun _ hk => hk.2) (.int .i64 zV)) (fun _ hk => hk.2) (.int .i64 zW)) (fun _ hk => hk.2) (.int .i64 zX)) (fun _ hk => hk.2) (.slice Ao90 qa.length co90)) (fun _ hk => hk.2) (.slice Ao91 zR.length co91)) (fun _ hk => hk.1.1), by exact zm (zg (p := ⟨gb544, 7, none⟩) (zg (p := ⟨gb544, 6, none⟩) (zg (p := ⟨gb544, 5, none⟩) (zg (p := ⟨gb544, 4, none⟩) (zg (p := ⟨gb544, 3, none⟩) (zg (p := ⟨gb544, 2, none⟩) (zg (p := ⟨gb544, 1, none⟩) (zg (p := ⟨gb544, 0, none⟩) (zg (p := ⟨gb545, 0, none⟩) (zx (zx zP.1 zM.1 (by decide)) zQ.1 (by decide)) (fun _ hk => hk.1.2) (.slice Ao82 y590.length co82)) (fun _ hk => hk.2) (.slice Ao82 y590.length co82)) (fun _ hk => hk.2) (.int .i64 zT)) (fun _ hk => hk.2) (.slice Ao89 zY.length co89)) (fun _ hk => hk.2) (.int .i64 zV)) (fun _ hk => hk.2) (.int .i64 zW)) (fun _ hk => hk.2) (.int .i64 zX)) (fun _ hk => hk.2) (.slice Ao90 qa.length co90)) (fun _ hk => hk.2) (.slice Ao91 zR.length co91)) (fun _ hk => hk.1.1.2), by repeat ((with_reducible first | exact HI0.1 | refine IsS102.far ?_ zU.1 _ | refine IsS102.far ?_ zS.1 _)), by repeat ((with_reducible first | exact HB.1 | refine zf ?_ qg.1 | refine zf ?_ qh.1)), by repeat ((with_reducible first | exact HK.1 | refine zj ?_ qd.1 _ | refine zj ?_ qe.1 _))⟩
            ·
             rw [if_neg c77] at H
             exact absurd H (by simp)
           ·
            replace c75 := Bool.eq_false_iff.mpr c75
            subst c75
            rw [if_neg (show ¬ (false = true) by decide)] at H
            simp only [Option.some.injEq, Prod.mk.injEq] at H
            obtain ⟨rfl, rfl, rfl, rfl, rfl, rfl, rfl, rfl, rfl, rfl⟩ := H
            go_wp2_with (((with_reducible refine zC (f := 94) rfl ?_); refine zK (some 50) rfl rfl Try.func94 (by kernel_rfl) rfl #[.pointer (some ⟨g, 0, none⟩), .int .i64 30] rfl (by (try simp only [kh, kg, kf]); rfl) ?_; (with_reducible refine (spec_l1Cur_one.calls g s0_0 qi qj 30 false t584 t585 w0 _ ?side1 ?side2 A74.1).mono ?_); (case side1 => repeat (with_reducible exact HI0.1)); (case side2 => repeat (with_reducible exact HB.1)); rintro e w92 ⟨rfl, hi, hb, hk⟩; refine ⟨_, rfl, ?_⟩; replace zN := kz (zm (zw (IsS102.apart (show IsS102 w0 _ g s0_0 qi qj from HI0.1) zN.1 (by decide)) hk (fun _ h => h.2)) (fun _ h => h.1)); replace qb := kz (zm (zw (IsS102.apart (show IsS102 w0 _ g s0_0 qi qj from HI0.1) qb.1 (by decide)) hk (fun _ h => h.2)) (fun _ h => h.1)); replace qc := kz (zm (zw (IsS102.apart (show IsS102 w0 _ g s0_0 qi qj from HI0.1) qc.1 (by decide)) hk (fun _ h => h.2)) (fun _ h => h.1)); replace zP := kz (zm (zw (IsS102.apart (show IsS102 w0 _ g s0_0 qi qj from HI0.1) zP.1 (by decide)) hk (fun _ h => h.2)) (fun _ h => h.1)); replace zQ := kz (zv hk (g' := gb544) (o := .cells #[.slice none 0 0, .int .i64 0, .slice none 0 0, .int .i64 0, .int .i64 0, .int .i64 0, .slice none 0 0, .slice none 0 0] 53 (0, 0)) zQ.1 qt.1 (by simp)); replace zM := kz (zv hk (g' := gb545) (o := .cells #[u546000, .int .i64 zT, u546002, .int .i64 zV, .int .i64 zW, .int .i64 zX, u546006, u546007] 53 (0, 0)) zM.1 qf.1 (by simp)); replace HK := kz (zt HK.1 hk (.inl rfl)); replace HB := kz hb; replace HI0 := kz hi; (try clear hb); (try clear hb2); (try clear hk); (try clear hi); have hnb93 := ql.1; have hnc93 := zZ.1; have hnb94 := qf.1; have hnc94 := zS.1; have hcz95_0 := bc8 zM.1; obtain ⟨Ao96, co96, eo96⟩ := zz zN.1; subst eo96; have hnb97 := qt.1; have hnc97 := zU.1; have hcz98_0 := bc8 zQ.1; obtain ⟨Ao99, co99, eo99⟩ := zz qb.1; subst eo99; obtain ⟨Ao100, co100, eo100⟩ := zz qc.1; subst eo100; obtain ⟨Ao101, co101, eo101⟩ := zz zP.1; subst eo101))
            refine bodyPost_ret (results_cell_row rfl _ _ gb544 53 #[.slice Ao96 zO.length co96, .int .i64 zT, .slice Ao99 zY.length co99, .int .i64 zV, .int .i64 zW, .int .i64 zX, .slice Ao100 qa.length co100, .slice Ao101 zR.length co101] (0, 0) _ rfl (by refine zu (cs := #[.slice Ao96 zO.length co96, .int .i64 zT, .slice Ao99 zY.length co99, .int .i64 zV, .int .i64 zW, .int .i64 zX, .slice Ao100 qa.length co100, .slice none 0 0]) ?_ 7 _ rfl; refine zu (cs := #[.slice Ao96 zO.length co96, .int .i64 zT, .slice Ao99 zY.length co99, .int .i64 zV, .int .i64 zW, .int .i64 zX, .slice none 0 0, .slice none 0 0]) ?_ 6 _ rfl; refine zu (cs := #[.slice Ao96 zO.length co96, .int .i64 zT, .slice Ao99 zY.length co99, .int .i64 zV, .int .i64 zW, .int .i64 0, .slice none 0 0, .slice none 0 0]) ?_ 5 _ rfl; refine zu (cs := #[.slice Ao96 zO.length co96, .int .i64 zT, .slice Ao99 zY.length co99, .int .i64 zV, .int .i64 0, .int .i64 0, .slice none 0 0, .slice none 0 0]) ?_ 4 _ rfl; refine zu (cs := #[.slice Ao96 zO.length co96, .int .i64 zT, .slice Ao99 zY.length co99, .int .i64 0, .int .i64 0, .int .i64 0, .slice none 0 0, .slice none 0 0]) ?_ 3 _ rfl; refine zu (cs := #[.slice Ao96 zO.length co96, .int .i64 zT, .slice none 0 0, .int .i64 0, .int .i64 0, .int .i64 0, .slice none 0 0, .slice none 0 0]) ?_ 2 _ rfl; refine zu (cs := #[.slice Ao96 zO.length co96, .int .i64 0, .slice none 0 0, .int .i64 0, .int .i64 0, .int .i64 0, .slice none 0 0, .slice none 0 0]) ?_ 1 _ rfl; refine zu (cs := #[.slice none 0 0, .int .i64 0, .slice none 0 0, .int .i64 0, .int .i64 0, .int .i64 0, .slice none 0 0, .slice none 0 0]) ?_ 0 _ rfl; exact zQ.1) Try.underlying53 rfl (by kernel_rfl)) rfl ?_
            exact ⟨_, _, _, _, by rfl, by exact zm (zg (p := ⟨gb544, 7, none⟩) (zg (p := ⟨gb544, 6, none⟩) (zg (p := ⟨gb544, 5, none⟩) (zg (p := ⟨gb544, 4, none⟩) (zg (p := ⟨gb544, 3, none⟩) (zg (p := ⟨gb544, 2, none⟩) (zg (p := ⟨gb544, 1, none⟩) (zg (p := ⟨gb544, 0, none⟩) (zx zN.1 zQ.1 (by decide)) (fun _ hk => hk.2) (.slice Ao96 zO.length co96)) (fun _ hk => hk.2) (.int .i64 zT)) (fun _ hk => hk.2) (.slice Ao99 zY.length co99)) (fun _ hk => hk.2) (.int .i64 zV)) (fun _ hk => hk.2) (.int .i64 zW)) (fun _ hk => hk.2) (.int .i64 zX)) (fun _ hk => hk.2) (.slice Ao100 qa.length co100)) (fun _ hk => hk.2) (.slice Ao101 zR.length co101)) (fun _ hk => hk.1), by exact zm (zg (p := ⟨gb544, 7, none⟩) (zg (p := ⟨gb544, 6, none⟩) (zg (p := ⟨gb544, 5, none⟩) (zg (p := ⟨gb544, 4, none⟩) (zg (p := ⟨gb544, 3, none⟩) (zg (p := ⟨gb544, 2, none⟩) (zg (p := ⟨gb544, 1, none⟩) (zg (p := ⟨gb544, 0, none⟩) (zx qb.1 zQ.1 (by decide)) (fun _ hk => hk.2) (.slice Ao96 zO.length co96)) (fun _ hk => hk.2) (.int .i64 zT)) (fun _ hk => hk.2) (.slice Ao99 zY.length co99)) (fun _ hk => hk.2) (.int .i64 zV)) (fun _ hk => hk.2) (.int .i64 zW)) (fun _ hk => hk.2) (.int .i64 zX)) (fun _ hk => hk.2) (.slice Ao100 qa.length co100)) (fun _ hk => hk.2) (.slice Ao101 zR.length co101)) (fun _ hk => hk.1), by exact zm (zg (p := ⟨gb544, 7, none⟩) (zg (p := ⟨gb544, 6, none⟩) (zg (p := ⟨gb544, 5, none⟩) (zg (p := ⟨gb544, 4, none⟩) (zg (p := ⟨gb544, 3, none⟩) (zg (p := ⟨gb544, 2, none⟩) (zg (p := ⟨gb544, 1, none⟩) (zg (p := ⟨gb544, 0, none⟩) (zx qc.1 zQ.1 (by decide)) (fun _ hk => hk.2) (.slice Ao96 zO.length co96)) (fun _ hk => hk.2) (.int .i64 zT)) (fun _ hk => hk.2) (.slice Ao99 zY.length co99)) (fun _ hk => hk.2) (.int .i64 zV)) (fun _ hk => hk.2) (.int .i64 zW)) (fun _ hk => hk.2) (.int .i64 zX)) (fun _ hk => hk.2) (.slice Ao100 qa.length co100)) (fun _ hk => hk.2) (.slice Ao101 zR.length co101)) (fun _ hk => hk.1), by exact zm (zg (p := ⟨gb544, 7, none⟩) (zg (p := ⟨gb544, 6, none⟩) (zg (p := ⟨gb544, 5, none⟩) (zg (p := ⟨gb544, 4, none⟩) (zg (p := ⟨gb544, 3, none⟩) (zg (p := ⟨gb544, 2, none⟩) (zg (p := ⟨gb544, 1, none⟩) (zg (p := ⟨gb544, 0, none⟩) (zx zP.1 zQ.1 (by decide)) (fun _ hk => hk.2) (.slice Ao96 zO.length co96)) (fun _ hk => hk.2) (.int .i64 zT)) (fun _ hk => hk.2) (.slice Ao99 zY.length co99)) (fun _ hk => hk.2) (.int .i64 zV)) (fun _ hk => hk.2) (.int .i64 zW)) (fun _ hk => hk.2) (.int .i64 zX)) (fun _ hk => hk.2) (.slice Ao100 qa.length co100)) (fun _ hk => hk.2) (.slice Ao101 zR.length co101)) (fun _ hk => hk.1), by repeat ((with_reducible first | exact HI0.1 | refine IsS102.far ?_ zU.1 _)), by repeat ((with_reducible first | exact HB.1 | refine zf ?_ qg.1)), by repeat ((with_reducible first | exact HK.1 | refine zj ?_ qd.1 _))⟩
end Go.Proofs.Ytlnfcobloolnnaa.PFnUpdates
