/- Go functions told by Lean functions, printed by a program. No condition but what each statement says. -/
import Derived.Test.YtkollihfejkklaaYFnHalvesx2
namespace Go.Proofs.Ytkollihfejkklaa.PFnHalves
open Go.RowKit Go.Proofs.YtkollihfejkklaaW.PrintWords Go.Proofs.YtkollihfejkklaaW.PrintLast Go.Proofs.YtkollihfejkklaaW.PrintMore
open Aside0 renaming mk → kz
open List renaming map_toArray → ky, map_cons → kv, map_nil → kg, setIfInBounds_toArray → ke, set_cons_zero → kb, set_cons_succ → kd
open Int renaming tmod → kj
open Option renaming bind_eq_some_iff → kk
open Option.some renaming injEq → kh
open Try renaming underlying26 → kf, func54 → km, prog → ku, func56 → kt, func55 → kr
open Nat renaming ne_of_lt → kc, ne_of_gt → ko, le_refl → kx, le_trans → ks
open Act renaming put → kp
open Bool renaming true → kn, false → kl
set_option maxHeartbeats 8000000
set_option maxRecDepth 100000
open Go.Proofs.YtkollihfejkklaaW.PrintLast renaming goesL_ → zJ, i64_w → zV, i32_w → zW
open Go.Proofs.YtkollihfejkklaaW.PrintWords renaming pw_below_drewN → za, below_set → zb, blk_drewN → zc, below_drew1 → ze, blk_drew → zg, blk_frozen → zi, keep_drewN → zj, blk_cell → zm, keep_far → zn, below_step → zt, blk_below → zv, gate_callee → zx, below_size → zz, gate_dst → zB, blk_put → zC, keep_size → zD, box_event → zE, blk_lt → zN, blk_far → zP, far_slice → zS
open Go.Proofs.YtkollihfejkklaaW.PrintWords.Kd renaming int → zs, R_mono → zy, R_reads' → zF, R_keep → zG, R_far → zH, R_types → zI, R_below → zK, R_slice → zQ, R_lower → zR, R_lit → zU
open Go.Proofs.YtkollihfejkklaaW.PrintWords.KeepBut renaming set_ → zh, trans → zp, of_below → zw, blk → zA
open Go.Proofs.YtkollihfejkklaaW.PrintWords.Reps renaming one → zo, none → zT
attribute [local go_sem] max2_int min2_int max_two min_two max_three min_three max_four min_four
set_option linter.unusedVariables false
set_option linter.unusedSimpArgs false
/-! ### impl_Prefix_sibling: function 45 -/
def impl_Prefix_sibling.f (a0_0 : Int) (a0_1 : Int) : Option (Int × Int) := (impl_sizeOf.f a0_1).bind fun t179 => (some (Go.bits .xor .i64 a0_0 t179, a0_1))
def impl_Prefix_sibling.T1 : Bool × List (List Nat × List Nat) := (true, [([], []), ([0], [0]), ([], []), ([2], [2]), ([3], [3]), ([1, 4], [1, 4]), ([], []), ([6], [6]), ([5, 7], [5, 7]), ([8, 4, 0, 1, 2, 3, 4, 5, 6, 7, 8], [8])])
def impl_Prefix_sibling.B1 : List Nat := [0, 1, 0, 4, 12, 31, 0, 64, 255, 511]
theorem impl_Prefix_sibling.tab1 : rtab .any (opsOf Try.f45 1) = impl_Prefix_sibling.T1 := by kernel_rfl
theorem impl_Prefix_sibling.bits1 : waitsOk impl_Prefix_sibling.T1.2 impl_Prefix_sibling.B1 = true := by kernel_rfl
theorem impl_Prefix_sibling.calls (a0_0 : Int) (a0_1 : Int) (r1 : Int) (r2 : Int) (w : World) (h : impl_Prefix_sibling.f a0_0 a0_1 = some (r1, r2)) :
  Calls ku 45 #[.agg #[.int .i64 a0_0, .int .i64 a0_1]] w fun e w' => e = .returned (.agg #[.int .i64 r1, .int .i64 r2]) ∧ Below w.heap.size w w' := by
 have hu26 := kf
 have HB := kz (Below.refl w.heap.size w)
 have H : ((impl_sizeOf.f a0_1).bind fun t179 => (some (Go.bits .xor .i64 a0_0 t179, a0_1))) = some (r1, r2) := h
 clear h
 replace H := kk.mp H
 obtain ⟨t179, A20, H⟩ := H
 replace H : (some (Go.bits .xor .i64 a0_0 t179, a0_1)) = some (r1, r2) := H
 have A2 := kz A20
 clear A20
 simp only [kh, Prod.mk.injEq] at H
 obtain ⟨rfl, rfl⟩ := H
 go_enter Try.func45, Try.ntmps45
 try go_wp2_with (first | ((with_reducible refine zB (N := 1) rfl ?_); refine zE ?hg (N := 1) ?hd (cs := #[.int .i64 a0_0, .int .i64 a0_1]) (t := 26) ?hr ?_; (case hd => rfl); (case hg => rfl); (case hr => (go_simp; done)); intro gb177 hg w3 hbox hb; replace HB := kz (zt HB.1 hb); have qo := kz hbox; clear hb hbox hg) | ((with_reducible refine zB (N := 2) rfl ?_); refine zE ?hg (N := 2) ?hd (cs := #[.int .i64 0, .int .i64 0]) (t := 26) ?hr ?_; (case hd => rfl); (case hg => rfl); (case hr => (go_simp; done)); intro gb178 hg w4 hbox hb; have qt := kz hbox; have GE178 := kz ((by rw [hg]; exact (zz HB.1) : w.heap.size ≤ gb178)); replace HB := kz (zt HB.1 hb); have qn := kz ((by rw [hg]; exact kc (zN (g := gb177) (o := .cells #[.int .i64 a0_0, .int .i64 a0_1] 26 (0, 0)) qo.1) : gb177 ≠ gb178)); have NB178_177 := kz ((by rw [hg]; exact ko (zN (g := gb177) (o := .cells #[.int .i64 a0_0, .int .i64 a0_1] 26 (0, 0)) qo.1) : gb178 ≠ gb177)); replace qo := kz (zv (g := gb177) (o := .cells #[.int .i64 a0_0, .int .i64 a0_1] 26 (0, 0)) qo.1 hb); clear hb hbox hg))
 replace qo := kz (zg qo.1)
 replace qt := kz (zg qt.1)
 replace HB := kz (ze HB.1)
 refine start_ (n := 10) (S := fun w' => w'.cell? ⟨gb177, 0, none⟩ = some (.int .i64 a0_0) ∧ w'.cell? ⟨gb177, 1, none⟩ = some (.int .i64 a0_1)) (ds := []) #[kl,kl,kl,kl,kl,kl,kl,kl,kl,kl] (by kernel_rfl) rfl rfl ⟨(zm qo.1 0).trans rfl, (zm qo.1 1).trans rfl⟩ (fun hHeld => ?_); refine with_tabW impl_Prefix_sibling.tab1 impl_Prefix_sibling.bits1 (fun HT_ HW_ => ?_)
 generalize w4.drew = w5 at qo qt HB hHeld ⊢
 refine pure_ (i := 0) (N := some 3) (v := ?_) (a' := ?_) #[kn,kl,kl,kl,kl,kl,kl,kl,kl,kl] rfl rfl (any_of HT_.1 (by kernel_rfl)) (fun _ _ _ h => h) (Or.inl ⟨by rfl, ?_⟩) ?_ ?_
 rotate_left
 ·
  intro w'
  go_simp
  with_reducible rfl
 rotate_left
 ·
  simp only [kp, ke, kb, kd, zV, zW]
  rfl
 refine pure_ (i := 2) (N := some 5) (v := ?_) (a' := ?_) #[kn,kl,kn,kl,kl,kl,kl,kl,kl,kl] rfl rfl (any_of HT_.1 (by kernel_rfl)) (fun _ _ _ h => h) (Or.inl ⟨by rfl, ?_⟩) ?_ ?_
 rotate_left
 ·
  intro w'
  go_simp
  with_reducible rfl
 rotate_left
 ·
  simp only [kp, ke, kb, kd, zV, zW]
  rfl
 refine pure_ (i := 6) (N := some 9) (v := ?_) (a' := ?_) #[kn,kl,kn,kl,kl,kl,kn,kl,kl,kl] rfl rfl (any_of HT_.1 (by kernel_rfl)) (fun _ _ _ h => h) (Or.inl ⟨by rfl, ?_⟩) ?_ ?_
 rotate_left
 ·
  intro w'
  go_simp
  with_reducible rfl
 rotate_left
 ·
  simp only [kp, ke, kb, kd, zV, zW]
  rfl
 refine take_ (i := 1) (N := some 4) (v := ?_) (a' := ?_) #[kn,kn,kn,kl,kl,kl,kn,kl,kl,kl] rfl rfl (take_ofW HT_.1 HW_.1 (by kernel_rfl)) (fun _ _ _ h => h) (Or.inl ⟨by rfl, ?_⟩) hHeld ?_ ?_
 rotate_left
 ·
  rintro w' ⟨s0, s1⟩
  go_simp
  with_reducible rfl
 rotate_left
 ·
  simp only [kp, ke, kb, kd, zV, zW]
  rfl
 refine take_ (i := 3) (N := some 6) (v := ?_) (a' := ?_) #[kn,kn,kn,kn,kl,kl,kn,kl,kl,kl] rfl rfl (take_ofW HT_.1 HW_.1 (by kernel_rfl)) (fun _ _ _ h => h) (Or.inl ⟨by rfl, ?_⟩) hHeld ?_ ?_
 rotate_left
 ·
  rintro w' ⟨s0, s1⟩
  go_simp
  with_reducible rfl
 rotate_left
 ·
  simp only [kp, ke, kb, kd, zV, zW]
  rfl
 refine take_ (i := 7) (N := some 10) (v := ?_) (a' := ?_) #[kn,kn,kn,kn,kl,kl,kn,kn,kl,kl] rfl rfl (take_ofW HT_.1 HW_.1 (by kernel_rfl)) (fun _ _ _ h => h) (Or.inl ⟨by rfl, ?_⟩) hHeld ?_ ?_
 rotate_left
 ·
  rintro w' ⟨s0, s1⟩
  go_simp
  with_reducible rfl
 rotate_left
 ·
  simp only [kp, ke, kb, kd, zV, zW]
  rfl
 refine one_ (i := 4) (N := some 7) #[kn,kn,kn,kn,kn,kl,kn,kn,kl,kl] rfl rfl (one_of HT_.1 (by kernel_rfl)) (by decide) (fun K hK => ?_)
 refine goes_ Try.func36 (by kernel_rfl) rfl #[.int .i64 a0_1] (by rfl) rfl rfl (by (try simp only [ky, kv, kg]); rfl) ?_
 with_reducible refine (impl_sizeOf.calls a0_1 t179 _ A2.1).mono ?_
 rintro e w' ⟨rfl, ⟨nd, rfl⟩⟩
 refine ⟨_, rfl, ?_⟩
 refine hK.out _ _ ⟨(zm qo.1 0).trans rfl, (zm qo.1 1).trans rfl⟩ (fun hHeld => ?_)
 clear hK K
 refine norm_ (a' := ?_) ?_ ?_
 rotate_left
 ·
  show kp _ (some 7) _ = _
  simp only [kp, ke, kb, kd, zV, zW]
  rfl
 refine pure_ (i := 5) (N := some 8) (v := ?_) (a' := ?_) #[kn,kn,kn,kn,kn,kn,kn,kn,kl,kl] rfl rfl (any_of HT_.1 (by kernel_rfl)) (fun _ _ _ h => h) (Or.inl ⟨by rfl, ?_⟩) ?_ ?_
 rotate_left
 ·
  intro w'
  go_simp
  with_reducible rfl
 rotate_left
 ·
  simp only [kp, ke, kb, kd, zV, zW]
  rfl
 refine pure_ (i := 8) (N := some 11) (v := ?_) (a' := ?_) #[kn,kn,kn,kn,kn,kn,kn,kn,kn,kl] rfl rfl (any_of HT_.1 (by kernel_rfl)) (fun _ _ _ h => h) (Or.inl ⟨by rfl, ?_⟩) ?_ ?_
 rotate_left
 ·
  intro w'
  go_simp
  with_reducible rfl
 rotate_left
 ·
  simp only [kp, ke, kb, kd, zV, zW]
  rfl
 refine one_ (i := 9) (N := none) #[kn,kn,kn,kn,kn,kn,kn,kn,kn,kn] rfl rfl (one_of HT_.1 (by kernel_rfl)) (by decide) (fun K hK => ?_)
 have hs6 : w5.cell? ⟨gb178, 0, none⟩ = some (.int .i64 0) := (zm qt.1 0).trans rfl
 have hfs6 := zi qt.1 0
 have hns6_0 := qn.1
 have hms6_0 := NB178_177.1
 have hs7 : w5.cell? ⟨gb178, 1, none⟩ = some (.int .i64 0) := (zm qt.1 1).trans rfl
 have hfs7 := zi qt.1 1
 have hns7_0 := qn.1
 have hms7_0 := NB178_177.1
 refine skip_ (w1 := ?_) (by rfl) rfl ?_ ?_
 rotate_left
 ·
  go_simp
  rfl
 refine hK.out _ _ ⟨((cell_far (p := ⟨gb178, _, none⟩) qn.1 _).trans (((cell_far (p := ⟨gb178, _, none⟩) qn.1 _).trans (hHeld.1)))), ((cell_far (p := ⟨gb178, _, none⟩) qn.1 _).trans (((cell_far (p := ⟨gb178, _, none⟩) qn.1 _).trans (hHeld.2))))⟩ (fun hHeld => ?_)
 clear hK K
 refine done_ (done_of HT_.1 (by kernel_rfl)) ?_
 try go_wp2
 refine bodyPost_ret (results_cell_row rfl _ _ gb178 26 #[.int .i64 (Go.bits .xor .i64 a0_0 t179), .int .i64 a0_1] (0, 0) _ rfl (by refine zC (cs := #[.int .i64 (Go.bits .xor .i64 a0_0 t179), .int .i64 0]) ?_ 1 _ rfl; refine zC (cs := #[.int .i64 0, .int .i64 0]) ?_ 0 _ rfl; (with_reducible repeat (refine zc ?_ _)); exact qt.1) kf rfl (by kernel_rfl)) rfl ?_
 exact ⟨by rfl, by repeat ((with_reducible first | exact HB.1 | apply za | refine zb ?_ GE178.1))⟩
/-! ### impl_SiblingOf: function 25 -/
def impl_SiblingOf.f (a0_0 : Int) (a0_1 : Int) : Option (Int × Int × Bool) := (impl_GoodPrefix.f a0_0 a0_1).bind fun t182 => (if t182 = true then (if a0_1 = 0 then (some (0, 0, false)) else ((impl_Prefix_sibling.f a0_0 a0_1).bind fun bt183 => (some (bt183.1, bt183.2, true)))) else (some (0, 0, false)))
theorem impl_SiblingOf.calls (a0_0 : Int) (a0_1 : Int) (r1 : Int) (r2 : Int) (r3 : Bool) (w : World) (h : impl_SiblingOf.f a0_0 a0_1 = some (r1, r2, r3)) :
  Calls ku 25 #[.agg #[.int .i64 a0_0, .int .i64 a0_1]] w fun e w' => e = .returned (.tuple #[.agg #[.int .i64 r1, .int .i64 r2], .bool r3]) ∧ Below w.heap.size w w' := by
 have hu26 := kf
 have HB := kz (Below.refl w.heap.size w)
 have H : ((impl_GoodPrefix.f a0_0 a0_1).bind fun t182 => (if t182 = true then (if a0_1 = 0 then (some (0, 0, false)) else ((impl_Prefix_sibling.f a0_0 a0_1).bind fun bt183 => (some (bt183.1, bt183.2, true)))) else (some (0, 0, false)))) = some (r1, r2, r3) := h
 clear h
 replace H := kk.mp H
 obtain ⟨t182, A20, H⟩ := H
 replace H : (if t182 = true then (if a0_1 = 0 then (some (0, 0, false)) else ((impl_Prefix_sibling.f a0_0 a0_1).bind fun bt183 => (some (bt183.1, bt183.2, true)))) else (some (0, 0, false))) = some (r1, r2, r3) := H
 have A2 := kz A20
 clear A20
 by_cases c3 : t182 = true
 ·
  subst c3
  have H1 : (if a0_1 = 0 then (some (0, 0, false)) else ((impl_Prefix_sibling.f a0_0 a0_1).bind fun bt183 => (some (bt183.1, bt183.2, true)))) = some (r1, r2, r3) := by rw [if_pos rfl] at H; exact H
  clear H
  have H := H1
  clear H1
  by_cases c4 : a0_1 = 0
  ·
   rw [if_pos c4] at H
   have c4b0 : (a0_1 == 0) = true := beq_iff_eq.mpr c4
   have c4b1 : (a0_1 != 0) = false := bne_eq_false_iff_eq.mpr c4
   clear c4
   simp only [kh, Prod.mk.injEq] at H
   obtain ⟨rfl, rfl, rfl⟩ := H
   go_enter Try.func25, Try.ntmps25
   go_wp2_with (first | ((with_reducible refine zB (N := 1) rfl ?_); refine zE ?hg (N := 1) ?hd (cs := #[.int .i64 a0_0, .int .i64 a0_1]) (t := 26) ?hr ?_; (case hd => rfl); (case hg => rfl); (case hr => (go_simp; done)); intro gb180 hg w5 hbox hb; replace HB := kz (zt HB.1 hb); have qc := kz hbox; clear hb hbox hg) | ((with_reducible refine zB (N := 2) rfl ?_); refine zE ?hg (N := 2) ?hd (cs := #[.int .i64 0, .int .i64 0]) (t := 26) ?hr ?_; (case hd => rfl); (case hg => rfl); (case hr => (go_simp; done)); intro gb181 hg w6 hbox hb; have qg := kz hbox; have qu := kz ((by rw [hg]; exact (zz HB.1) : w.heap.size ≤ gb181)); replace HB := kz (zt HB.1 hb); have qp := kz ((by rw [hg]; exact kc (zN (g := gb180) (o := .cells #[.int .i64 a0_0, .int .i64 a0_1] 26 (0, 0)) qc.1) : gb180 ≠ gb181)); have qq := kz ((by rw [hg]; exact ko (zN (g := gb180) (o := .cells #[.int .i64 a0_0, .int .i64 a0_1] 26 (0, 0)) qc.1) : gb181 ≠ gb180)); replace qc := kz (zv (g := gb180) (o := .cells #[.int .i64 a0_0, .int .i64 a0_1] 26 (0, 0)) qc.1 hb); clear hb hbox hg; have hnb7 := qp.1; have hnc7 := qq.1; have hcz8_0 : w6.cell? ⟨gb180, 0, none⟩ = some (.int .i64 a0_0) := (zm qc.1 0).trans rfl; have hcz8_1 : w6.cell? ⟨gb180, 1, none⟩ = some (.int .i64 a0_1) := (zm qc.1 1).trans rfl; have hfz8_0 := zi qc.1 0; have hfz8_1 := zi qc.1 1) | ((with_reducible refine zx (f := 14) rfl ?_); refine zJ (some 5) rfl rfl Try.func14 (by kernel_rfl) rfl #[.agg #[.int .i64 a0_0, .int .i64 a0_1]] rfl (by (try simp only [ky, kv, kg]); rfl) ?_; (with_reducible refine (impl_GoodPrefix.calls a0_0 a0_1 true _ A2.1).mono ?_); rintro e w9 ⟨rfl, hb⟩; refine ⟨_, rfl, ?_⟩; replace qc := kz (zv (g := gb180) (o := .cells #[.int .i64 a0_0, .int .i64 a0_1] 26 (0, 0)) qc.1 hb); replace qg := kz (zv (g := gb181) (o := .cells #[.int .i64 0, .int .i64 0] 26 (0, 0)) qg.1 hb); replace HB := kz (zt HB.1 hb); (try clear hb); (try clear hb2); (try clear hk); (try clear hi); have hcz10_0 : w9.cell? ⟨gb180, 0, none⟩ = some (.int .i64 a0_0) := (zm qc.1 0).trans rfl; have hcz10_1 : w9.cell? ⟨gb180, 1, none⟩ = some (.int .i64 a0_1) := (zm qc.1 1).trans rfl; have hfz10_0 := zi qc.1 0; have hfz10_1 := zi qc.1 1; have hcz11_0 : w9.cell? ⟨gb181, 0, none⟩ = some (.int .i64 0) := (zm qg.1 0).trans rfl; have hcz11_1 : w9.cell? ⟨gb181, 1, none⟩ = some (.int .i64 0) := (zm qg.1 1).trans rfl; have hfz11_0 := zi qg.1 0; have hfz11_1 := zi qg.1 1))
   refine bodyPost_ret (results_ct rfl _ _ gb181 26 #[.int .i64 0, .int .i64 0] (0, 0) _ rfl (by refine zC (cs := #[.int .i64 0, .int .i64 0]) ?_ 1 _ rfl; refine zC (cs := #[.int .i64 0, .int .i64 0]) ?_ 0 _ rfl; exact qg.1) kf rfl (by kernel_rfl)) rfl ?_
   exact ⟨by rfl, by repeat ((with_reducible first | exact HB.1 | refine zb ?_ qu.1))⟩
  ·
   rw [if_neg c4] at H
   have c4b0 : (a0_1 == 0) = false := beq_eq_false_iff_ne.mpr c4
   have c4b1 : (a0_1 != 0) = true := bne_iff_ne.mpr c4
   replace H := kk.mp H
   obtain ⟨⟨t183, t184⟩, A120, H⟩ := H
   replace H : (some (t183, t184, true)) = some (r1, r2, r3) := H
   have A12 := kz A120
   clear A120
   simp only [kh, Prod.mk.injEq] at H
   obtain ⟨rfl, rfl, rfl⟩ := H
   go_enter Try.func25, Try.ntmps25
   go_wp2_with (first | ((with_reducible refine zB (N := 1) rfl ?_); refine zE ?hg (N := 1) ?hd (cs := #[.int .i64 a0_0, .int .i64 a0_1]) (t := 26) ?hr ?_; (case hd => rfl); (case hg => rfl); (case hr => (go_simp; done)); intro gb180 hg w13 hbox hb; replace HB := kz (zt HB.1 hb); have qc := kz hbox; clear hb hbox hg) | ((with_reducible refine zB (N := 2) rfl ?_); refine zE ?hg (N := 2) ?hd (cs := #[.int .i64 0, .int .i64 0]) (t := 26) ?hr ?_; (case hd => rfl); (case hg => rfl); (case hr => (go_simp; done)); intro gb181 hg w14 hbox hb; have qg := kz hbox; have qu := kz ((by rw [hg]; exact (zz HB.1) : w.heap.size ≤ gb181)); replace HB := kz (zt HB.1 hb); have qp := kz ((by rw [hg]; exact kc (zN (g := gb180) (o := .cells #[.int .i64 a0_0, .int .i64 a0_1] 26 (0, 0)) qc.1) : gb180 ≠ gb181)); have qq := kz ((by rw [hg]; exact ko (zN (g := gb180) (o := .cells #[.int .i64 a0_0, .int .i64 a0_1] 26 (0, 0)) qc.1) : gb181 ≠ gb180)); replace qc := kz (zv (g := gb180) (o := .cells #[.int .i64 a0_0, .int .i64 a0_1] 26 (0, 0)) qc.1 hb); clear hb hbox hg; have hnb15 := qp.1; have hnc15 := qq.1; have hcz16_0 : w14.cell? ⟨gb180, 0, none⟩ = some (.int .i64 a0_0) := (zm qc.1 0).trans rfl; have hcz16_1 : w14.cell? ⟨gb180, 1, none⟩ = some (.int .i64 a0_1) := (zm qc.1 1).trans rfl; have hfz16_0 := zi qc.1 0; have hfz16_1 := zi qc.1 1) | ((with_reducible refine zx (f := 14) rfl ?_); refine zJ (some 5) rfl rfl Try.func14 (by kernel_rfl) rfl #[.agg #[.int .i64 a0_0, .int .i64 a0_1]] rfl (by (try simp only [ky, kv, kg]); rfl) ?_; (with_reducible refine (impl_GoodPrefix.calls a0_0 a0_1 true _ A2.1).mono ?_); rintro e w17 ⟨rfl, hb⟩; refine ⟨_, rfl, ?_⟩; replace qc := kz (zv (g := gb180) (o := .cells #[.int .i64 a0_0, .int .i64 a0_1] 26 (0, 0)) qc.1 hb); replace qg := kz (zv (g := gb181) (o := .cells #[.int .i64 0, .int .i64 0] 26 (0, 0)) qg.1 hb); replace HB := kz (zt HB.1 hb); (try clear hb); (try clear hb2); (try clear hk); (try clear hi); have hcz18_0 : w17.cell? ⟨gb180, 0, none⟩ = some (.int .i64 a0_0) := (zm qc.1 0).trans rfl; have hcz18_1 : w17.cell? ⟨gb180, 1, none⟩ = some (.int .i64 a0_1) := (zm qc.1 1).trans rfl; have hfz18_0 := zi qc.1 0; have hfz18_1 := zi qc.1 1) | ((with_reducible refine zx (f := 45) rfl ?_); refine zJ (some 14) rfl rfl Try.func45 (by kernel_rfl) rfl #[.agg #[.int .i64 a0_0, .int .i64 a0_1]] rfl (by (try simp only [ky, kv, kg]); rfl) ?_; (with_reducible refine (impl_Prefix_sibling.calls a0_0 a0_1 t183 t184 _ A12.1).mono ?_); rintro e w19 ⟨rfl, hb⟩; refine ⟨_, rfl, ?_⟩; replace qc := kz (zv (g := gb180) (o := .cells #[.int .i64 a0_0, .int .i64 a0_1] 26 (0, 0)) qc.1 hb); replace qg := kz (zv (g := gb181) (o := .cells #[.int .i64 0, .int .i64 0] 26 (0, 0)) qg.1 hb); replace HB := kz (zt HB.1 hb); (try clear hb); (try clear hb2); (try clear hk); (try clear hi); have hcz20_0 : w19.cell? ⟨gb181, 0, none⟩ = some (.int .i64 0) := (zm qg.1 0).trans rfl; have hcz20_1 : w19.cell? ⟨gb181, 1, none⟩ = some (.int .i64 0) := (zm qg.1 1).trans rfl; have hfz20_0 := zi qg.1 0; have hfz20_1 := zi qg.1 1))
   refine bodyPost_ret (results_ct rfl _ _ gb181 26 #[.int .i64 t183, .int .i64 t184] (0, 0) _ rfl (by refine zC (cs := #[.int .i64 t183, .int .i64 0]) ?_ 1 _ rfl; refine zC (cs := #[.int .i64 0, .int .i64 0]) ?_ 0 _ rfl; exact qg.1) kf rfl (by kernel_rfl)) rfl ?_
   exact ⟨by rfl, by repeat ((with_reducible first | exact HB.1 | refine zb ?_ qu.1))⟩
 ·
  replace c3 := Bool.eq_false_iff.mpr c3
  subst c3
  have H1 : (some (0, 0, false)) = some (r1, r2, r3) := by rw [if_neg (show ¬ (false = true) by decide)] at H; exact H
  clear H
  have H := H1
  clear H1
  simp only [kh, Prod.mk.injEq] at H
  obtain ⟨rfl, rfl, rfl⟩ := H
  go_enter Try.func25, Try.ntmps25
  go_wp2_with (first | ((with_reducible refine zB (N := 1) rfl ?_); refine zE ?hg (N := 1) ?hd (cs := #[.int .i64 a0_0, .int .i64 a0_1]) (t := 26) ?hr ?_; (case hd => rfl); (case hg => rfl); (case hr => (go_simp; done)); intro gb180 hg w21 hbox hb; replace HB := kz (zt HB.1 hb); have qc := kz hbox; clear hb hbox hg) | ((with_reducible refine zB (N := 2) rfl ?_); refine zE ?hg (N := 2) ?hd (cs := #[.int .i64 0, .int .i64 0]) (t := 26) ?hr ?_; (case hd => rfl); (case hg => rfl); (case hr => (go_simp; done)); intro gb181 hg w22 hbox hb; have qg := kz hbox; have qu := kz ((by rw [hg]; exact (zz HB.1) : w.heap.size ≤ gb181)); replace HB := kz (zt HB.1 hb); have qp := kz ((by rw [hg]; exact kc (zN (g := gb180) (o := .cells #[.int .i64 a0_0, .int .i64 a0_1] 26 (0, 0)) qc.1) : gb180 ≠ gb181)); have qq := kz ((by rw [hg]; exact ko (zN (g := gb180) (o := .cells #[.int .i64 a0_0, .int .i64 a0_1] 26 (0, 0)) qc.1) : gb181 ≠ gb180)); replace qc := kz (zv (g := gb180) (o := .cells #[.int .i64 a0_0, .int .i64 a0_1] 26 (0, 0)) qc.1 hb); clear hb hbox hg; have hnb23 := qp.1; have hnc23 := qq.1; have hcz24_0 : w22.cell? ⟨gb180, 0, none⟩ = some (.int .i64 a0_0) := (zm qc.1 0).trans rfl; have hcz24_1 : w22.cell? ⟨gb180, 1, none⟩ = some (.int .i64 a0_1) := (zm qc.1 1).trans rfl; have hfz24_0 := zi qc.1 0; have hfz24_1 := zi qc.1 1) | ((with_reducible refine zx (f := 14) rfl ?_); refine zJ (some 5) rfl rfl Try.func14 (by kernel_rfl) rfl #[.agg #[.int .i64 a0_0, .int .i64 a0_1]] rfl (by (try simp only [ky, kv, kg]); rfl) ?_; (with_reducible refine (impl_GoodPrefix.calls a0_0 a0_1 false _ A2.1).mono ?_); rintro e w25 ⟨rfl, hb⟩; refine ⟨_, rfl, ?_⟩; replace qg := kz (zv (g := gb181) (o := .cells #[.int .i64 0, .int .i64 0] 26 (0, 0)) qg.1 hb); replace HB := kz (zt HB.1 hb); (try clear hb); (try clear hb2); (try clear hk); (try clear hi); have hcz26_0 : w25.cell? ⟨gb181, 0, none⟩ = some (.int .i64 0) := (zm qg.1 0).trans rfl; have hcz26_1 : w25.cell? ⟨gb181, 1, none⟩ = some (.int .i64 0) := (zm qg.1 1).trans rfl; have hfz26_0 := zi qg.1 0; have hfz26_1 := zi qg.1 1))
  refine bodyPost_ret (results_ct rfl _ _ gb181 26 #[.int .i64 0, .int .i64 0] (0, 0) _ rfl (by refine zC (cs := #[.int .i64 0, .int .i64 0]) ?_ 1 _ rfl; refine zC (cs := #[.int .i64 0, .int .i64 0]) ?_ 0 _ rfl; exact qg.1) kf rfl (by kernel_rfl)) rfl ?_
  exact ⟨by rfl, by repeat ((with_reducible first | exact HB.1 | refine zb ?_ qu.1))⟩
/-- A state of type 63 at block g of W; what its slices lead to came in by w0. -/
def IsS63 (w0 W : World) (g : Nat) (f0 : List Int) (f1 : Int) (f2 : Int) : Prop := ∃ A0 c0, W.heap[g]? = some (.cells #[.slice A0 f0.length c0, .int .i64 f1, .int .u64 f2] 63 (0, 0)) ∧ w0.heap.size ≤ g ∧ Kd.C (zs .u8) w0 A0 f0.length f0
theorem IsS63.grown {w0 W : World} {g : Nat} {f0 : List Int} {f1 : Int} {f2 : Int} {W1 : World} {row : Option Nat} (h : IsS63 w0 W g f0 f1 f2) (hw : W.grownBy W1 row) (hne : some g ≠ row) : IsS63 w0 W1 g f0 f1 f2 := by
 obtain ⟨A0, c0, hb, hg, hr0⟩ := h
 exact ⟨A0, c0, blk_grown hb hw hne, hg, hr0⟩
theorem IsS63.below {w0 W : World} {g : Nat} {f0 : List Int} {f1 : Int} {f2 : Int} {W1 : World} (h : IsS63 w0 W g f0 f1 f2) (hw : Below W.heap.size W W1) : IsS63 w0 W1 g f0 f1 f2 := h.grown (grown_of_below hw none) (by simp)
theorem IsS63.drewN {w0 W : World} {g : Nat} {f0 : List Int} {f1 : Int} {f2 : Int} (h : IsS63 w0 W g f0 f1 f2) (m : Nat) : IsS63 w0 (W.drewN m) g f0 f1 f2 := h
theorem IsS63.apart {w0 W : World} {g : Nat} {f0 : List Int} {f1 : Int} {f2 : Int} {α : Type} {d : Kd α} {e : Nat} {base : Nat} {ok : Nat → Prop} {v : Value} {xs : List α} (h : IsS63 w0 W g f0 f1 f2) (ho : d.R e W base ok v xs) (ht : ∀ q, q ∈ e :: d.E → q ≠ 63) : d.R e W base (fun k => ok k ∧ k ≠ g) v xs := by
 obtain ⟨A0, c0, hb, hg, hr0⟩ := h
 exact zI ho hb ht
theorem IsS63.own_ne {w0 W : World} {g : Nat} {f0 : List Int} {f1 : Int} {f2 : Int} {α : Type} {d : Kd α} {e : Nat} {base : Nat} {ok : Nat → Prop} {v : Value} {xs : List α} (h : IsS63 w0 W g f0 f1 f2) (ho : d.R e W base ok v xs) (ht : e ≠ 63) : some g ≠ v.ownBlock := by
 obtain ⟨A0, c0, hb, hg, hr0⟩ := h
 exact Kd.R_ne ho hb ht
theorem IsS63.lt {w0 W : World} {g : Nat} {f0 : List Int} {f1 : Int} {f2 : Int} (h : IsS63 w0 W g f0 f1 f2) : g < W.heap.size := by
 obtain ⟨A0, c0, hb, hg, hr0⟩ := h
 exact zN hb
theorem IsS63.ge {w0 W : World} {g : Nat} {f0 : List Int} {f1 : Int} {f2 : Int} (h : IsS63 w0 W g f0 f1 f2) : w0.heap.size ≤ g := by
 obtain ⟨A0, c0, hb, hg, hr0⟩ := h
 exact hg
theorem IsS63.far {w0 W : World} {g : Nat} {f0 : List Int} {f1 : Int} {f2 : Int} {p : Addr} (h : IsS63 w0 W g f0 f1 f2) (hne : g ≠ p.block) (u : Value) : IsS63 w0 (W.setCell p u) g f0 f1 f2 := by
 obtain ⟨A0, c0, hb, hg, hr0⟩ := h
 exact ⟨A0, c0, zP hb hne u, hg, hr0⟩
theorem cellS63_0 {W : World} {g : Nat} {A0 : Option Addr} {c0 : Nat} {f0 : List Int} {f1 : Int} {f2 : Int} (h : W.heap[g]? = some (.cells #[.slice A0 f0.length c0, .int .i64 f1, .int .u64 f2] 63 (0, 0))) : W.cell? ⟨g, 0, none⟩ = some (.slice A0 f0.length c0) := (zm h 0).trans rfl
theorem cellS63_1 {W : World} {g : Nat} {A0 : Option Addr} {c0 : Nat} {f0 : List Int} {f1 : Int} {f2 : Int} (h : W.heap[g]? = some (.cells #[.slice A0 f0.length c0, .int .i64 f1, .int .u64 f2] 63 (0, 0))) : W.cell? ⟨g, 1, none⟩ = some (.int .i64 f1) := (zm h 1).trans rfl
theorem IsS63.set_1 {w0 W : World} {g : Nat} {f0 : List Int} {f1 : Int} {f2 : Int} (h : IsS63 w0 W g f0 f1 f2) (x : Int) : IsS63 w0 (W.setCell ⟨g, 1, none⟩ (.int .i64 x)) g f0 x f2 := by
 obtain ⟨A0, c0, hb, hg, hr0⟩ := h
 exact ⟨A0, c0, by simpa using blk_set hb 1 (.int .i64 x), hg, hr0⟩
theorem cellS63_2 {W : World} {g : Nat} {A0 : Option Addr} {c0 : Nat} {f0 : List Int} {f1 : Int} {f2 : Int} (h : W.heap[g]? = some (.cells #[.slice A0 f0.length c0, .int .i64 f1, .int .u64 f2] 63 (0, 0))) : W.cell? ⟨g, 2, none⟩ = some (.int .u64 f2) := (zm h 2).trans rfl
theorem IsS63.set_2 {w0 W : World} {g : Nat} {f0 : List Int} {f1 : Int} {f2 : Int} (h : IsS63 w0 W g f0 f1 f2) (x : Int) : IsS63 w0 (W.setCell ⟨g, 2, none⟩ (.int .u64 x)) g f0 f1 x := by
 obtain ⟨A0, c0, hb, hg, hr0⟩ := h
 exact ⟨A0, c0, by simpa using blk_set hb 2 (.int .u64 x), hg, hr0⟩
/-! ### spec_l1Cur_next: function 56 -/
def spec_l1Cur_next.f (s0_0 : List Int) (s0_1 : Int) (s0_2 : Int) : Option (Int × Int × Int) := if s0_1 < (s0_0.length : Int) then (if 0 ≤ s0_1 then (if (wrap64 (s0_1 + 1)) ≤ (s0_0.length : Int) then (some (wrap64 (rd s0_0 s0_1), wrap64 (s0_1 + 1), IntKind.u64.wrap ((IntKind.u64.wrap ((IntKind.u64.wrap (s0_2 * 6364136223846793005)) + (IntKind.u64.wrap (wrap64 (rd s0_0 s0_1))))) + 1442695040888963407))) else (some (wrap64 (Go.bits .and .u64 ((IntKind.u64.wrap ((IntKind.u64.wrap ((IntKind.u64.wrap (s0_2 * 6364136223846793005)) + (IntKind.u64.wrap (wrap64 (rd s0_0 s0_1))))) + 1442695040888963407)) / 1099511627776) 255), wrap64 (s0_1 + 1), IntKind.u64.wrap ((IntKind.u64.wrap ((IntKind.u64.wrap (s0_2 * 6364136223846793005)) + (IntKind.u64.wrap (wrap64 (rd s0_0 s0_1))))) + 1442695040888963407)))) else (none)) else (if (wrap64 (s0_1 + 1)) ≤ (s0_0.length : Int) then (some (0, wrap64 (s0_1 + 1), IntKind.u64.wrap ((IntKind.u64.wrap ((IntKind.u64.wrap (s0_2 * 6364136223846793005)))) + 1442695040888963407))) else (some (wrap64 (Go.bits .and .u64 ((IntKind.u64.wrap ((IntKind.u64.wrap ((IntKind.u64.wrap (s0_2 * 6364136223846793005)))) + 1442695040888963407)) / 1099511627776) 255), wrap64 (s0_1 + 1), IntKind.u64.wrap ((IntKind.u64.wrap ((IntKind.u64.wrap (s0_2 * 6364136223846793005)))) + 1442695040888963407))))
theorem spec_l1Cur_next.calls (g : Nat) (s0_0 : List Int) (s0_1 : Int) (s0_2 : Int) (r1 : Int) (r2 : Int) (r3 : Int) (w0 w : World) (hI : IsS63 w0 w g s0_0 s0_1 s0_2) (hB : Below w0.heap.size w0 w) (h : spec_l1Cur_next.f s0_0 s0_1 s0_2 = some (r1, r2, r3)) :
  Calls ku 56 #[.pointer (some ⟨g, 0, none⟩)] w fun e w' => e = .returned (.int .i64 r1) ∧ IsS63 w0 w' g s0_0 r2 r3 ∧ Below w0.heap.size w0 w' ∧ KeepBut w w' g none := by
 have HI0 := kz hI
 have HK := kz (KeepBut.refl w g none)
 have HL := kz hB.size
 clear hI
 have HW0 := kz hB.size
 have HB := kz hB
 clear hB
 have H : (if s0_1 < (s0_0.length : Int) then (if 0 ≤ s0_1 then (if (wrap64 (s0_1 + 1)) ≤ (s0_0.length : Int) then (some (wrap64 (rd s0_0 s0_1), wrap64 (s0_1 + 1), IntKind.u64.wrap ((IntKind.u64.wrap ((IntKind.u64.wrap (s0_2 * 6364136223846793005)) + (IntKind.u64.wrap (wrap64 (rd s0_0 s0_1))))) + 1442695040888963407))) else (some (wrap64 (Go.bits .and .u64 ((IntKind.u64.wrap ((IntKind.u64.wrap ((IntKind.u64.wrap (s0_2 * 6364136223846793005)) + (IntKind.u64.wrap (wrap64 (rd s0_0 s0_1))))) + 1442695040888963407)) / 1099511627776) 255), wrap64 (s0_1 + 1), IntKind.u64.wrap ((IntKind.u64.wrap ((IntKind.u64.wrap (s0_2 * 6364136223846793005)) + (IntKind.u64.wrap (wrap64 (rd s0_0 s0_1))))) + 1442695040888963407)))) else (none)) else (if (wrap64 (s0_1 + 1)) ≤ (s0_0.length : Int) then (some (0, wrap64 (s0_1 + 1), IntKind.u64.wrap ((IntKind.u64.wrap ((IntKind.u64.wrap (s0_2 * 6364136223846793005)))) + 1442695040888963407))) else (some (wrap64 (Go.bits .and .u64 ((IntKind.u64.wrap ((IntKind.u64.wrap ((IntKind.u64.wrap (s0_2 * 6364136223846793005)))) + 1442695040888963407)) / 1099511627776) 255), wrap64 (s0_1 + 1), IntKind.u64.wrap ((IntKind.u64.wrap ((IntKind.u64.wrap (s0_2 * 6364136223846793005)))) + 1442695040888963407))))) = some (r1, r2, r3) := h
 clear h
 by_cases c2 : s0_1 < (s0_0.length : Int)
 ·
  rw [if_pos c2] at H
  have c2b0 : decide (s0_1 < (s0_0.length : Int)) = true := decide_eq_true c2
  clear c2
  by_cases c3 : 0 ≤ s0_1
  ·
   rw [if_pos c3] at H
   have c3b0 : decide (0 ≤ s0_1) = true := decide_eq_true c3
   clear c3
   by_cases c4 : (wrap64 (s0_1 + 1)) ≤ (s0_0.length : Int)
   ·
    rw [if_pos c4] at H
    have c4b0 : decide ((wrap64 (s0_1 + 1)) ≤ (s0_0.length : Int)) = true := decide_eq_true c4
    clear c4
    simp only [kh, Prod.mk.injEq] at H
    obtain ⟨rfl, rfl, rfl⟩ := H
    obtain ⟨ASz5_0, cSz5_0, HGz5, hgz5, HSz5_0⟩ := HI0.1
    have hcz5_0 := cellS63_0 HGz5
    have hcz5_1 := cellS63_1 HGz5
    have hcz5_2 := cellS63_2 HGz5
    have hfz5_1 := zi HGz5 1
    have hfz5_2 := zi HGz5 2
    clear HGz5 hgz5
    have p185 : 0 ≤ (s0_1 : Int) := of_decide_eq_true (by (with_reducible assumption))
    have q185 : s0_1 < (s0_0.length : Int) := of_decide_eq_true (by (with_reducible assumption))
    obtain ⟨ad185, e185, hx185_0⟩ := Kd.at_int HSz5_0 s0_1 p185 q185
    cases e185
    replace hx185_0 := pw_cell_below HB.1 hx185_0
    replace p185 := eq_true p185
    replace q185 := eq_true q185
    go_enter kt, Try.ntmps56
    go_wp2
    repeat (go_quiet (fail); try go_wp2)
    go_ret
    exact ⟨by rfl, by repeat ((with_reducible first | exact HI0.1 | apply IsS63.drewN | apply IsS63.set_1 | apply IsS63.set_2)), by repeat ((with_reducible first | exact HB.1 | apply za | refine zb ?_ (IsS63.ge HI0.1))), by repeat ((with_reducible first | exact HK.1 | apply zh | apply zj))⟩
   ·
    rw [if_neg c4] at H
    have c4b0 : decide ((wrap64 (s0_1 + 1)) ≤ (s0_0.length : Int)) = false := decide_eq_false c4
    clear c4
    simp only [kh, Prod.mk.injEq] at H
    obtain ⟨rfl, rfl, rfl⟩ := H
    obtain ⟨ASz6_0, cSz6_0, HGz6, hgz6, HSz6_0⟩ := HI0.1
    have hcz6_0 := cellS63_0 HGz6
    have hcz6_1 := cellS63_1 HGz6
    have hcz6_2 := cellS63_2 HGz6
    have hfz6_1 := zi HGz6 1
    have hfz6_2 := zi HGz6 2
    clear HGz6 hgz6
    have p185 : 0 ≤ (s0_1 : Int) := of_decide_eq_true (by (with_reducible assumption))
    have q185 : s0_1 < (s0_0.length : Int) := of_decide_eq_true (by (with_reducible assumption))
    obtain ⟨ad185, e185, hx185_0⟩ := Kd.at_int HSz6_0 s0_1 p185 q185
    cases e185
    replace hx185_0 := pw_cell_below HB.1 hx185_0
    replace p185 := eq_true p185
    replace q185 := eq_true q185
    go_enter kt, Try.ntmps56
    go_wp2
    repeat (go_quiet (fail); try go_wp2)
    go_ret
    exact ⟨by rfl, by repeat ((with_reducible first | exact HI0.1 | apply IsS63.drewN | apply IsS63.set_1 | apply IsS63.set_2)), by repeat ((with_reducible first | exact HB.1 | apply za | refine zb ?_ (IsS63.ge HI0.1))), by repeat ((with_reducible first | exact HK.1 | apply zh | apply zj))⟩
  ·
   rw [if_neg c3] at H
   exact absurd H (by simp)
 ·
  rw [if_neg c2] at H
  have c2b0 : decide (s0_1 < (s0_0.length : Int)) = false := decide_eq_false c2
  clear c2
  by_cases c7 : (wrap64 (s0_1 + 1)) ≤ (s0_0.length : Int)
  ·
   rw [if_pos c7] at H
   have c7b0 : decide ((wrap64 (s0_1 + 1)) ≤ (s0_0.length : Int)) = true := decide_eq_true c7
   clear c7
   simp only [kh, Prod.mk.injEq] at H
   obtain ⟨rfl, rfl, rfl⟩ := H
   obtain ⟨ASz8_0, cSz8_0, HGz8, hgz8, HSz8_0⟩ := HI0.1
   have hcz8_0 := cellS63_0 HGz8
   have hcz8_1 := cellS63_1 HGz8
   have hcz8_2 := cellS63_2 HGz8
   have hfz8_1 := zi HGz8 1
   have hfz8_2 := zi HGz8 2
   clear HGz8 hgz8
   go_enter kt, Try.ntmps56
   go_wp2
   repeat (go_quiet (fail); try go_wp2)
   go_ret
   exact ⟨by rfl, by repeat ((with_reducible first | exact HI0.1 | apply IsS63.drewN | apply IsS63.set_1 | apply IsS63.set_2)), by repeat ((with_reducible first | exact HB.1 | apply za | refine zb ?_ (IsS63.ge HI0.1))), by repeat ((with_reducible first | exact HK.1 | apply zh | apply zj))⟩
  ·
   rw [if_neg c7] at H
   have c7b0 : decide ((wrap64 (s0_1 + 1)) ≤ (s0_0.length : Int)) = false := decide_eq_false c7
   clear c7
   simp only [kh, Prod.mk.injEq] at H
   obtain ⟨rfl, rfl, rfl⟩ := H
   obtain ⟨ASz9_0, cSz9_0, HGz9, hgz9, HSz9_0⟩ := HI0.1
   have hcz9_0 := cellS63_0 HGz9
   have hcz9_1 := cellS63_1 HGz9
   have hcz9_2 := cellS63_2 HGz9
   have hfz9_1 := zi HGz9 1
   have hfz9_2 := zi HGz9 2
   clear HGz9 hgz9
   go_enter kt, Try.ntmps56
   go_wp2
   repeat (go_quiet (fail); try go_wp2)
   go_ret
   exact ⟨by rfl, by repeat ((with_reducible first | exact HI0.1 | apply IsS63.drewN | apply IsS63.set_1 | apply IsS63.set_2)), by repeat ((with_reducible first | exact HB.1 | apply za | refine zb ?_ (IsS63.ge HI0.1))), by repeat ((with_reducible first | exact HK.1 | apply zh | apply zj))⟩
/-! ### spec_l1Cur_pick: function 55 -/
def spec_l1Cur_pick.f (s0_0 : List Int) (s0_1 : Int) (s0_2 : Int) (a1 : Int) : Option (Int × Int × Int) := if a1 ≤ 1 then (some (0, s0_1, s0_2)) else ((spec_l1Cur_next.f s0_0 s0_1 s0_2).bind fun bt186 => (if a1 > 200 then ((spec_l1Cur_next.f s0_0 bt186.2.1 bt186.2.2).bind fun bt189 => (if a1 = 0 then (none) else (some (kj (wrap64 ((wrap64 (bt186.1 * 256)) + bt189.1)) a1, bt189.2.1, bt189.2.2)))) else (if a1 = 0 then (none) else (some (kj bt186.1 a1, bt186.2.1, bt186.2.2)))))
theorem spec_l1Cur_pick.calls (g : Nat) (s0_0 : List Int) (s0_1 : Int) (s0_2 : Int) (a1 : Int) (r1 : Int) (r2 : Int) (r3 : Int) (w0 w : World) (hI : IsS63 w0 w g s0_0 s0_1 s0_2) (hB : Below w0.heap.size w0 w) (h : spec_l1Cur_pick.f s0_0 s0_1 s0_2 a1 = some (r1, r2, r3)) :
  Calls ku 55 #[.pointer (some ⟨g, 0, none⟩), .int .i64 a1] w fun e w' => e = .returned (.int .i64 r1) ∧ IsS63 w0 w' g s0_0 r2 r3 ∧ Below w0.heap.size w0 w' ∧ KeepBut w w' g none := by
 have HI0 := kz hI
 have HK := kz (KeepBut.refl w g none)
 have HL := kz hB.size
 clear hI
 have HW0 := kz hB.size
 have HB := kz hB
 clear hB
 have H : (if a1 ≤ 1 then (some (0, s0_1, s0_2)) else ((spec_l1Cur_next.f s0_0 s0_1 s0_2).bind fun bt186 => (if a1 > 200 then ((spec_l1Cur_next.f s0_0 bt186.2.1 bt186.2.2).bind fun bt189 => (if a1 = 0 then (none) else (some (kj (wrap64 ((wrap64 (bt186.1 * 256)) + bt189.1)) a1, bt189.2.1, bt189.2.2)))) else (if a1 = 0 then (none) else (some (kj bt186.1 a1, bt186.2.1, bt186.2.2)))))) = some (r1, r2, r3) := h
 clear h
 by_cases c3 : a1 ≤ 1
 ·
  rw [if_pos c3] at H
  have c3b0 : decide (a1 ≤ 1) = true := decide_eq_true c3
  clear c3
  simp only [kh, Prod.mk.injEq] at H
  obtain ⟨rfl, rfl, rfl⟩ := H
  go_enter kr, Try.ntmps55
  go_wp2
  go_ret
  exact ⟨by rfl, by exact HI0.1, by exact HB.1, by exact HK.1⟩
 ·
  rw [if_neg c3] at H
  have c3b0 : decide (a1 ≤ 1) = false := decide_eq_false c3
  clear c3
  replace H := kk.mp H
  obtain ⟨⟨t186, t187, t188⟩, A40, H⟩ := H
  replace H : (if a1 > 200 then ((spec_l1Cur_next.f s0_0 t187 t188).bind fun bt189 => (if a1 = 0 then (none) else (some (kj (wrap64 ((wrap64 (t186 * 256)) + bt189.1)) a1, bt189.2.1, bt189.2.2)))) else (if a1 = 0 then (none) else (some (kj t186 a1, t187, t188)))) = some (r1, r2, r3) := H
  have A4 := kz A40
  clear A40
  by_cases c5 : a1 > 200
  ·
   rw [if_pos c5] at H
   have c5b0 : decide (200 < a1) = true := decide_eq_true c5
   clear c5
   replace H := kk.mp H
   obtain ⟨⟨t189, t190, t191⟩, A60, H⟩ := H
   replace H : (if a1 = 0 then (none) else (some (kj (wrap64 ((wrap64 (t186 * 256)) + t189)) a1, t190, t191))) = some (r1, r2, r3) := H
   have A6 := kz A60
   clear A60
   by_cases c7 : a1 = 0
   ·
    rw [if_pos c7] at H
    exact absurd H (by simp)
   ·
    rw [if_neg c7] at H
    have c7b0 : (a1 == 0) = false := beq_eq_false_iff_ne.mpr c7
    have c7b1 : (a1 != 0) = true := bne_iff_ne.mpr c7
    simp only [kh, Prod.mk.injEq] at H
    obtain ⟨rfl, rfl, rfl⟩ := H
    go_enter kr, Try.ntmps55
    go_wp2_with (first | ((with_reducible refine zx (f := 56) rfl ?_); refine zJ (some 9) rfl rfl kt (by kernel_rfl) rfl #[.pointer (some ⟨g, 0, none⟩)] rfl (by (try simp only [ky, kv, kg]); rfl) ?_; (with_reducible refine (spec_l1Cur_next.calls g s0_0 s0_1 s0_2 t186 t187 t188 w0 _ ?side1 ?side2 A4.1).mono ?_); (case side1 => repeat (with_reducible exact HI0.1)); (case side2 => repeat (with_reducible exact HB.1)); rintro e w8 ⟨rfl, hi, hb, hk⟩; refine ⟨_, rfl, ?_⟩; replace HK := kz (zp HK.1 hk (.inl rfl)); replace HB := kz hb; replace HI0 := kz hi; (try clear hb); (try clear hb2); (try clear hk); (try clear hi)) | ((with_reducible refine zx (f := 56) rfl ?_); refine zJ (some 15) rfl rfl kt (by kernel_rfl) rfl #[.pointer (some ⟨g, 0, none⟩)] rfl (by (try simp only [ky, kv, kg]); rfl) ?_; (with_reducible refine (spec_l1Cur_next.calls g s0_0 t187 t188 t189 t190 t191 w0 _ ?side1 ?side2 A6.1).mono ?_); (case side1 => repeat (with_reducible exact HI0.1)); (case side2 => repeat (with_reducible exact HB.1)); rintro e w9 ⟨rfl, hi, hb, hk⟩; refine ⟨_, rfl, ?_⟩; replace HK := kz (zp HK.1 hk (.inl rfl)); replace HB := kz hb; replace HI0 := kz hi; (try clear hb); (try clear hb2); (try clear hk); (try clear hi)))
    go_ret
    exact ⟨by rfl, by exact HI0.1, by exact HB.1, by exact HK.1⟩
  ·
   rw [if_neg c5] at H
   have c5b0 : decide (200 < a1) = false := decide_eq_false c5
   clear c5
   by_cases c10 : a1 = 0
   ·
    rw [if_pos c10] at H
    exact absurd H (by simp)
   ·
    rw [if_neg c10] at H
    have c10b0 : (a1 == 0) = false := beq_eq_false_iff_ne.mpr c10
    have c10b1 : (a1 != 0) = true := bne_iff_ne.mpr c10
    simp only [kh, Prod.mk.injEq] at H
    obtain ⟨rfl, rfl, rfl⟩ := H
    go_enter kr, Try.ntmps55
    go_wp2_with (((with_reducible refine zx (f := 56) rfl ?_); refine zJ (some 9) rfl rfl kt (by kernel_rfl) rfl #[.pointer (some ⟨g, 0, none⟩)] rfl (by (try simp only [ky, kv, kg]); rfl) ?_; (with_reducible refine (spec_l1Cur_next.calls g s0_0 s0_1 s0_2 t186 t187 t188 w0 _ ?side1 ?side2 A4.1).mono ?_); (case side1 => repeat (with_reducible exact HI0.1)); (case side2 => repeat (with_reducible exact HB.1)); rintro e w11 ⟨rfl, hi, hb, hk⟩; refine ⟨_, rfl, ?_⟩; replace HK := kz (zp HK.1 hk (.inl rfl)); replace HB := kz hb; replace HI0 := kz hi; (try clear hb); (try clear hb2); (try clear hk); (try clear hi)))
    go_ret
    exact ⟨by rfl, by exact HI0.1, by exact HB.1, by exact HK.1⟩
/-! ### spec_l1Cur_among: function 54 -/
def spec_l1Cur_among.f (s0_0 : List Int) (s0_1 : Int) (s0_2 : Int) (l1 : List Int) : Option (Int × Int × Int) := (spec_l1Cur_pick.f s0_0 s0_1 s0_2 (l1.length : Int)).bind fun bt192 => (if 0 ≤ bt192.1 then (if bt192.1 < (l1.length : Int) then (some (rd l1 bt192.1, bt192.2.1, bt192.2.2)) else (none)) else (none))
theorem spec_l1Cur_among.calls (g : Nat) (s0_0 : List Int) (s0_1 : Int) (s0_2 : Int) (A1 : Option Addr) (c1 : Nat) (l1 : List Int) (r1 : Int) (r2 : Int) (r3 : Int) (w0 w : World) (hI : IsS63 w0 w g s0_0 s0_1 s0_2) (hB : Below w0.heap.size w0 w) (hr1 : Kd.C (zs .i64) w A1 l1.length l1) (hc1 : l1.length ≤ c1) (hf1 : ∀ ad, A1 = some ad → 0 < l1.length → ad.block ≠ g) (h : spec_l1Cur_among.f s0_0 s0_1 s0_2 l1 = some (r1, r2, r3)) :
  Calls ku 54 #[.pointer (some ⟨g, 0, none⟩), .slice A1 l1.length c1] w fun e w' => e = .returned (.int .i64 r1) ∧ IsS63 w0 w' g s0_0 r2 r3 ∧ Below w0.heap.size w0 w' ∧ KeepBut w w' g none := by
 have HR1 := kz hr1
 have HC1 := kz hc1
 clear hr1 hc1
 have HI0 := kz hI
 have HK := kz (KeepBut.refl w g none)
 have HL := kz hB.size
 clear hI
 have HW0 := kz hB.size
 have HB := kz hB
 clear hB
 have H : ((spec_l1Cur_pick.f s0_0 s0_1 s0_2 (l1.length : Int)).bind fun bt192 => (if 0 ≤ bt192.1 then (if bt192.1 < (l1.length : Int) then (some (rd l1 bt192.1, bt192.2.1, bt192.2.2)) else (none)) else (none))) = some (r1, r2, r3) := h
 clear h
 replace H := kk.mp H
 obtain ⟨⟨t192, t193, t194⟩, A30, H⟩ := H
 replace H : (if 0 ≤ t192 then (if t192 < (l1.length : Int) then (some (rd l1 t192, t193, t194)) else (none)) else (none)) = some (r1, r2, r3) := H
 have A3 := kz A30
 clear A30
 by_cases c4 : 0 ≤ t192
 ·
  rw [if_pos c4] at H
  have c4b0 : decide (0 ≤ t192) = true := decide_eq_true c4
  clear c4
  by_cases c5 : t192 < (l1.length : Int)
  ·
   rw [if_pos c5] at H
   have c5b0 : decide (t192 < (l1.length : Int)) = true := decide_eq_true c5
   clear c5
   simp only [kh, Prod.mk.injEq] at H
   obtain ⟨rfl, rfl, rfl⟩ := H
   go_enter km, Try.ntmps54
   go_wp2_with (((with_reducible refine zx (f := 55) rfl ?_); refine zJ (some 9) rfl rfl kr (by kernel_rfl) rfl #[.pointer (some ⟨g, 0, none⟩), .int .i64 (l1.length : Int)] rfl (by (try simp only [ky, kv, kg]); rfl) ?_; (with_reducible refine (spec_l1Cur_pick.calls g s0_0 s0_1 s0_2 (l1.length : Int) t192 t193 t194 w0 _ ?side1 ?side2 A3.1).mono ?_); (case side1 => repeat (with_reducible exact HI0.1)); (case side2 => repeat (with_reducible exact HB.1)); rintro e w6 ⟨rfl, hi, hb, hk⟩; refine ⟨_, rfl, ?_⟩; replace HK := kz (zp HK.1 hk (.inl rfl)); replace HB := kz hb; replace HI0 := kz hi; (try clear hb); (try clear hb2); (try clear hk); (try clear hi); have p195 : 0 ≤ (t192 : Int) := of_decide_eq_true (by (with_reducible assumption)); have q195 : t192 < (l1.length : Int) := of_decide_eq_true (by (with_reducible assumption)); obtain ⟨ad195, e195, hx195_0⟩ := Kd.at_int HR1.1 t192 p195 q195; cases e195; replace hx195_0 := keep_cell HK.1 hx195_0 (by (rw [add_block]; exact hf1 _ rfl (by omega))); replace p195 := eq_true p195; replace q195 := eq_true q195))
   go_ret
   exact ⟨by rfl, by exact HI0.1, by exact HB.1, by exact HK.1⟩
  ·
   rw [if_neg c5] at H
   exact absurd H (by simp)
 ·
  rw [if_neg c4] at H
  exact absurd H (by simp)
/-! ### spec_l1Cur_prefix: function 52 -/
def spec_l1Cur_prefix.f (s0_0 : List Int) (s0_1 : Int) (s0_2 : Int) : Option (Int × Int × Int × Int) := (spec_l1Cur_among.f s0_0 s0_1 s0_2 (([0, 1, 2, 3, 4, 8, 8, 16, 24, 31, 32] : List Int))).bind fun bt200 => ((spec_l1Cur_among.f s0_0 bt200.2.1 bt200.2.2 (([0, 167772160, 167837696, 3232235520, 2147483648, 4294967295, 3758096384, 167772165] : List Int))).bind fun bt207 => ((spec_l1Size.f 0 bt200.1).bind fun t210 => (if t210 = 0 then (none) else ((spec_l1Cur_pick.f s0_0 bt207.2.1 bt207.2.2 30).bind fun bt211 => (if bt211.1 = 0 then (some (wrap64 ((wrap64 (bt207.1 - (kj bt207.1 t210))) + 1), bt200.1, bt211.2.1, bt211.2.2)) else (if bt211.1 = 1 then ((spec_l1Cur_among.f s0_0 bt211.2.1 bt211.2.2 (([(-1), 33] : List Int))).bind fun bt217 => (some (wrap64 (bt207.1 - (kj bt207.1 t210)), bt217.1, bt217.2.1, bt217.2.2))) else (some (wrap64 (bt207.1 - (kj bt207.1 t210)), bt200.1, bt211.2.1, bt211.2.2))))))))
theorem spec_l1Cur_prefix.calls (g : Nat) (s0_0 : List Int) (s0_1 : Int) (s0_2 : Int) (r1 : Int) (r2 : Int) (r3 : Int) (r4 : Int) (w0 w : World) (hI : IsS63 w0 w g s0_0 s0_1 s0_2) (hB : Below w0.heap.size w0 w) (h : spec_l1Cur_prefix.f s0_0 s0_1 s0_2 = some (r1, r2, r3, r4)) :
  Calls ku 52 #[.pointer (some ⟨g, 0, none⟩)] w fun e w' => e = .returned (.agg #[.int .i64 r1, .int .i64 r2]) ∧ IsS63 w0 w' g s0_0 r3 r4 ∧ Below w0.heap.size w0 w' ∧ KeepBut w w' g none := by
 have hu26 := kf
 have HI0 := kz hI
 have HK := kz (KeepBut.refl w g none)
 have HL := kz hB.size
 clear hI
 have HW0 := kz hB.size
 have HB := kz hB
 clear hB
 have H : ((spec_l1Cur_among.f s0_0 s0_1 s0_2 (([0, 1, 2, 3, 4, 8, 8, 16, 24, 31, 32] : List Int))).bind fun bt200 => ((spec_l1Cur_among.f s0_0 bt200.2.1 bt200.2.2 (([0, 167772160, 167837696, 3232235520, 2147483648, 4294967295, 3758096384, 167772165] : List Int))).bind fun bt207 => ((spec_l1Size.f 0 bt200.1).bind fun t210 => (if t210 = 0 then (none) else ((spec_l1Cur_pick.f s0_0 bt207.2.1 bt207.2.2 30).bind fun bt211 => (if bt211.1 = 0 then (some (wrap64 ((wrap64 (bt207.1 - (kj bt207.1 t210))) + 1), bt200.1, bt211.2.1, bt211.2.2)) else (if bt211.1 = 1 then ((spec_l1Cur_among.f s0_0 bt211.2.1 bt211.2.2 (([(-1), 33] : List Int))).bind fun bt217 => (some (wrap64 (bt207.1 - (kj bt207.1 t210)), bt217.1, bt217.2.1, bt217.2.2))) else (some (wrap64 (bt207.1 - (kj bt207.1 t210)), bt200.1, bt211.2.1, bt211.2.2))))))))) = some (r1, r2, r3, r4) := h
 clear h
 obtain ⟨y197, hy197⟩ : ∃ y_ : List Int, y_ = (([0, 1, 2, 3, 4, 8, 8, 16, 24, 31, 32] : List Int)) := ⟨_, rfl⟩
 replace H : ((spec_l1Cur_among.f s0_0 s0_1 s0_2 y197).bind fun bt200 => ((spec_l1Cur_among.f s0_0 bt200.2.1 bt200.2.2 (([0, 167772160, 167837696, 3232235520, 2147483648, 4294967295, 3758096384, 167772165] : List Int))).bind fun bt207 => ((spec_l1Size.f 0 bt200.1).bind fun t210 => (if t210 = 0 then (none) else ((spec_l1Cur_pick.f s0_0 bt207.2.1 bt207.2.2 30).bind fun bt211 => (if bt211.1 = 0 then (some (wrap64 ((wrap64 (bt207.1 - (kj bt207.1 t210))) + 1), bt200.1, bt211.2.1, bt211.2.2)) else (if bt211.1 = 1 then ((spec_l1Cur_among.f s0_0 bt211.2.1 bt211.2.2 (([(-1), 33] : List Int))).bind fun bt217 => (some (wrap64 (bt207.1 - (kj bt207.1 t210)), bt217.1, bt217.2.1, bt217.2.2))) else (some (wrap64 (bt207.1 - (kj bt207.1 t210)), bt200.1, bt211.2.1, bt211.2.2))))))))) = some (r1, r2, r3, r4) := by (rw [hy197]; with_reducible exact H)
 have Ny197 := kz hy197
 clear hy197
 replace H := kk.mp H
 obtain ⟨⟨t200, t201, t202⟩, A20, H⟩ := H
 replace H : ((spec_l1Cur_among.f s0_0 t201 t202 (([0, 167772160, 167837696, 3232235520, 2147483648, 4294967295, 3758096384, 167772165] : List Int))).bind fun bt207 => ((spec_l1Size.f 0 t200).bind fun t210 => (if t210 = 0 then (none) else ((spec_l1Cur_pick.f s0_0 bt207.2.1 bt207.2.2 30).bind fun bt211 => (if bt211.1 = 0 then (some (wrap64 ((wrap64 (bt207.1 - (kj bt207.1 t210))) + 1), t200, bt211.2.1, bt211.2.2)) else (if bt211.1 = 1 then ((spec_l1Cur_among.f s0_0 bt211.2.1 bt211.2.2 (([(-1), 33] : List Int))).bind fun bt217 => (some (wrap64 (bt207.1 - (kj bt207.1 t210)), bt217.1, bt217.2.1, bt217.2.2))) else (some (wrap64 (bt207.1 - (kj bt207.1 t210)), t200, bt211.2.1, bt211.2.2)))))))) = some (r1, r2, r3, r4) := H
 have A2 := kz A20
 clear A20
 obtain ⟨y204, hy204⟩ : ∃ y_ : List Int, y_ = (([0, 167772160, 167837696, 3232235520, 2147483648, 4294967295, 3758096384, 167772165] : List Int)) := ⟨_, rfl⟩
 replace H : ((spec_l1Cur_among.f s0_0 t201 t202 y204).bind fun bt207 => ((spec_l1Size.f 0 t200).bind fun t210 => (if t210 = 0 then (none) else ((spec_l1Cur_pick.f s0_0 bt207.2.1 bt207.2.2 30).bind fun bt211 => (if bt211.1 = 0 then (some (wrap64 ((wrap64 (bt207.1 - (kj bt207.1 t210))) + 1), t200, bt211.2.1, bt211.2.2)) else (if bt211.1 = 1 then ((spec_l1Cur_among.f s0_0 bt211.2.1 bt211.2.2 (([(-1), 33] : List Int))).bind fun bt217 => (some (wrap64 (bt207.1 - (kj bt207.1 t210)), bt217.1, bt217.2.1, bt217.2.2))) else (some (wrap64 (bt207.1 - (kj bt207.1 t210)), t200, bt211.2.1, bt211.2.2)))))))) = some (r1, r2, r3, r4) := by (rw [hy204]; with_reducible exact H)
 have Ny204 := kz hy204
 clear hy204
 replace H := kk.mp H
 obtain ⟨⟨t207, t208, t209⟩, A30, H⟩ := H
 replace H : ((spec_l1Size.f 0 t200).bind fun t210 => (if t210 = 0 then (none) else ((spec_l1Cur_pick.f s0_0 t208 t209 30).bind fun bt211 => (if bt211.1 = 0 then (some (wrap64 ((wrap64 (t207 - (kj t207 t210))) + 1), t200, bt211.2.1, bt211.2.2)) else (if bt211.1 = 1 then ((spec_l1Cur_among.f s0_0 bt211.2.1 bt211.2.2 (([(-1), 33] : List Int))).bind fun bt217 => (some (wrap64 (t207 - (kj t207 t210)), bt217.1, bt217.2.1, bt217.2.2))) else (some (wrap64 (t207 - (kj t207 t210)), t200, bt211.2.1, bt211.2.2))))))) = some (r1, r2, r3, r4) := H
 have A3 := kz A30
 clear A30
 replace H := kk.mp H
 obtain ⟨t210, A40, H⟩ := H
 replace H : (if t210 = 0 then (none) else ((spec_l1Cur_pick.f s0_0 t208 t209 30).bind fun bt211 => (if bt211.1 = 0 then (some (wrap64 ((wrap64 (t207 - (kj t207 t210))) + 1), t200, bt211.2.1, bt211.2.2)) else (if bt211.1 = 1 then ((spec_l1Cur_among.f s0_0 bt211.2.1 bt211.2.2 (([(-1), 33] : List Int))).bind fun bt217 => (some (wrap64 (t207 - (kj t207 t210)), bt217.1, bt217.2.1, bt217.2.2))) else (some (wrap64 (t207 - (kj t207 t210)), t200, bt211.2.1, bt211.2.2)))))) = some (r1, r2, r3, r4) := H
 have A4 := kz A40
 clear A40
 by_cases c5 : t210 = 0
 ·
  rw [if_pos c5] at H
  exact absurd H (by simp)
 ·
  rw [if_neg c5] at H
  have c5b0 : (t210 == 0) = false := beq_eq_false_iff_ne.mpr c5
  have c5b1 : (t210 != 0) = true := bne_iff_ne.mpr c5
  replace H := kk.mp H
  obtain ⟨⟨t211, t212, t213⟩, A60, H⟩ := H
  replace H : (if t211 = 0 then (some (wrap64 ((wrap64 (t207 - (kj t207 t210))) + 1), t200, t212, t213)) else (if t211 = 1 then ((spec_l1Cur_among.f s0_0 t212 t213 (([(-1), 33] : List Int))).bind fun bt217 => (some (wrap64 (t207 - (kj t207 t210)), bt217.1, bt217.2.1, bt217.2.2))) else (some (wrap64 (t207 - (kj t207 t210)), t200, t212, t213)))) = some (r1, r2, r3, r4) := H
  have A6 := kz A60
  clear A60
  by_cases c7 : t211 = 0
  ·
   rw [if_pos c7] at H
   have c7b0 : (t211 == 0) = true := beq_iff_eq.mpr c7
   have c7b1 : (t211 != 0) = false := bne_eq_false_iff_eq.mpr c7
   clear c7
   simp only [kh, Prod.mk.injEq] at H
   obtain ⟨rfl, rfl, rfl, rfl⟩ := H
   go_enter Try.func52, Try.ntmps52
   go_wp2_with (first | ((with_reducible refine zB (N := 2) rfl ?_); refine zE ?hg (N := 2) ?hd (cs := #[.int .i64 0, .int .i64 0]) (t := 26) ?hr ?_; (case hd => rfl); (case hg => rfl); (case hr => (go_simp; done)); intro gb196 hg w8 hbox hb; replace HB := kz (zt HB.1 hb); have zZ := kz hbox; have qe := kz ((by rw [hg]; exact (zD (w := w) (g := g) (row := none) HK.1) : w.heap.size ≤ gb196)); have qh := kz ((ks HW0.1 (by rw [hg]; exact (zD (w := w) (g := g) (row := none) HK.1) : w.heap.size ≤ gb196) : w0.heap.size ≤ gb196)); replace HK := kz (zp HK.1 (zw hb g none) (.inl rfl)); have zY := kz ((by rw [hg]; exact kc (IsS63.lt (show IsS63 w0 _ g s0_0 s0_1 s0_2 from HI0.1)) : g ≠ gb196)); have qi := kz ((by rw [hg]; exact ko (IsS63.lt (show IsS63 w0 _ g s0_0 s0_1 s0_2 from HI0.1)) : gb196 ≠ g)); replace HI0 := kz (IsS63.below HI0.1 hb); clear hb hbox hg) | ((with_reducible refine zB (N := 7) rfl ?_); refine zU (zs .i64) _ 3 ?hg (N := 7) ?hd (xs := ([0, 1, 2, 3, 4, 8, 8, 16, 24, 31, 32] : List Int)) (inner := [.int .i64 0, .int .i64 1, .int .i64 2, .int .i64 3, .int .i64 4, .int .i64 8, .int .i64 8, .int .i64 16, .int .i64 24, .int .i64 31, .int .i64 32]) (ok := fun _ => True) (okp := fun _ => True) ?hr ?hp (fun _ hk => hk) trivial (Below.refl _ _) (kx _) (by simp) ?_; (case hd => rfl); (case hg => rfl); (case hr => (go_simp; done)); (case hp => exact (zo (show Kd.M (zs .i64) _ _ _ 0 [.int .i64 0] from rfl) (zo (show Kd.M (zs .i64) _ _ _ 1 [.int .i64 1] from rfl) (zo (show Kd.M (zs .i64) _ _ _ 2 [.int .i64 2] from rfl) (zo (show Kd.M (zs .i64) _ _ _ 3 [.int .i64 3] from rfl) (zo (show Kd.M (zs .i64) _ _ _ 4 [.int .i64 4] from rfl) (zo (show Kd.M (zs .i64) _ _ _ 8 [.int .i64 8] from rfl) (zo (show Kd.M (zs .i64) _ _ _ 8 [.int .i64 8] from rfl) (zo (show Kd.M (zs .i64) _ _ _ 16 [.int .i64 16] from rfl) (zo (show Kd.M (zs .i64) _ _ _ 24 [.int .i64 24] from rfl) (zo (show Kd.M (zs .i64) _ _ _ 31 [.int .i64 31] from rfl) (zo (show Kd.M (zs .i64) _ _ _ 32 [.int .i64 32] from rfl) (zT _ _))))))))))))); intro v198 w9 ho10 hb hg_ hnew_; clear hg_ hnew_; (rw [← Ny197.1] at ho10); have qa := kz (zR ho10 (zD (w := w) (g := g) (row := none) HK.1)); replace HI0 := kz (IsS63.below HI0.1 hb); replace zZ := kz (zv (g := gb196) (o := .cells #[.int .i64 0, .int .i64 0] 26 (0, 0)) zZ.1 hb); replace HK := kz (zp HK.1 (zw hb g none) (.inl rfl)); replace HB := kz (zt HB.1 hb); clear hb ho10; obtain ⟨Ao11, co11, eo11⟩ := zQ qa.1; subst eo11) | ((with_reducible refine zx (f := 54) rfl ?_); refine zJ (some 8) rfl rfl km (by kernel_rfl) rfl #[.pointer (some ⟨g, 0, none⟩), .slice Ao11 y197.length co11] rfl (by (try simp only [ky, kv, kg]); rfl) ?_; (with_reducible refine (spec_l1Cur_among.calls g s0_0 s0_1 s0_2 _ _ y197 t200 t201 t202 w0 _ ?side1 ?side2 ?side3 ?side4 ?side5 A2.1).mono ?_); (case side1 => repeat (with_reducible exact HI0.1)); (case side2 => repeat (with_reducible exact HB.1)); (case side3 => repeat (exact (zF qa.1).2.2)); (case side4 => exact (zF qa.1).2.1); (case side5 => exact zS (IsS63.own_ne HI0.1 qa.1 (by decide))); rintro e w12 ⟨rfl, hi, hb, hk⟩; refine ⟨_, rfl, ?_⟩; replace zZ := kz (zA hk (g' := gb196) (o := .cells #[.int .i64 0, .int .i64 0] 26 (0, 0)) zZ.1 qi.1 (by simp)); replace qa := kz (zy (zG (IsS63.apart (show IsS63 w0 _ g s0_0 s0_1 s0_2 from HI0.1) qa.1 (by decide)) hk (fun _ h => h.2)) (fun _ h => h.1)); replace HK := kz (zp HK.1 hk (.inl rfl)); replace HB := kz hb; replace HI0 := kz hi; (try clear hb); (try clear hb2); (try clear hk); (try clear hi)) | ((with_reducible refine zB (N := 4) rfl ?_); refine zE ?hg (N := 4) ?hd (cs := #[.int .i64 0, .int .i64 0]) (t := 26) ?hr ?_; (case hd => rfl); (case hg => rfl); (case hr => (go_simp; done)); intro gb203 hg w13 hbox hb; replace qa := kz (zK qa.1 hb); replace HB := kz (zt HB.1 hb); have zX := kz hbox; have qj := kz ((by rw [hg]; exact (zD (w := w) (g := g) (row := none) HK.1) : w.heap.size ≤ gb203)); have ql := kz ((ks HW0.1 (by rw [hg]; exact (zD (w := w) (g := g) (row := none) HK.1) : w.heap.size ≤ gb203) : w0.heap.size ≤ gb203)); replace HK := kz (zp HK.1 (zw hb g none) (.inl rfl)); have qf := kz ((by rw [hg]; exact kc (zN (g := gb196) (o := .cells #[.int .i64 0, .int .i64 0] 26 (0, 0)) zZ.1) : gb196 ≠ gb203)); have qr := kz ((by rw [hg]; exact ko (zN (g := gb196) (o := .cells #[.int .i64 0, .int .i64 0] 26 (0, 0)) zZ.1) : gb203 ≠ gb196)); replace zZ := kz (zv (g := gb196) (o := .cells #[.int .i64 0, .int .i64 0] 26 (0, 0)) zZ.1 hb); have qb := kz ((by rw [hg]; exact kc (IsS63.lt (show IsS63 w0 _ g s0_0 t201 t202 from HI0.1)) : g ≠ gb203)); have qk := kz ((by rw [hg]; exact ko (IsS63.lt (show IsS63 w0 _ g s0_0 t201 t202 from HI0.1)) : gb203 ≠ g)); replace HI0 := kz (IsS63.below HI0.1 hb); clear hb hbox hg; have hnb14 := qr.1; have hnc14 := qf.1; have hnb15 := qk.1; have hnc15 := qb.1; have hcz16_0 : w13.cell? ⟨gb203, 0, none⟩ = some (.int .i64 0) := (zm zX.1 0).trans rfl; have hcz16_1 : w13.cell? ⟨gb203, 1, none⟩ = some (.int .i64 0) := (zm zX.1 1).trans rfl; have hfz16_0 := zi zX.1 0; have hfz16_1 := zi zX.1 1) | ((with_reducible refine zB (N := 12) rfl ?_); refine zU (zs .i64) _ 3 ?hg (N := 12) ?hd (xs := ([0, 167772160, 167837696, 3232235520, 2147483648, 4294967295, 3758096384, 167772165] : List Int)) (inner := [.int .i64 0, .int .i64 167772160, .int .i64 167837696, .int .i64 3232235520, .int .i64 2147483648, .int .i64 4294967295, .int .i64 3758096384, .int .i64 167772165]) (ok := fun _ => True) (okp := fun _ => True) ?hr ?hp (fun _ hk => hk) trivial (Below.refl _ _) (kx _) (by simp) ?_; (case hd => rfl); (case hg => rfl); (case hr => (go_simp; done)); (case hp => exact (zo (show Kd.M (zs .i64) _ _ _ 0 [.int .i64 0] from rfl) (zo (show Kd.M (zs .i64) _ _ _ 167772160 [.int .i64 167772160] from rfl) (zo (show Kd.M (zs .i64) _ _ _ 167837696 [.int .i64 167837696] from rfl) (zo (show Kd.M (zs .i64) _ _ _ 3232235520 [.int .i64 3232235520] from rfl) (zo (show Kd.M (zs .i64) _ _ _ 2147483648 [.int .i64 2147483648] from rfl) (zo (show Kd.M (zs .i64) _ _ _ 4294967295 [.int .i64 4294967295] from rfl) (zo (show Kd.M (zs .i64) _ _ _ 3758096384 [.int .i64 3758096384] from rfl) (zo (show Kd.M (zs .i64) _ _ _ 167772165 [.int .i64 167772165] from rfl) (zT _ _)))))))))); intro v205 w17 ho18 hb hg_ hnew_; clear hg_ hnew_; (rw [← Ny204.1] at ho18); have qd := kz (zR (Kd.R_new' ho18 (Kd.R_lt (by exact (zy (zH (p := ⟨gb203, 1, none⟩) (zH (p := ⟨gb203, 0, none⟩) (zI qa.1 zX.1 (by decide)) (fun _ hk => hk.2) (.int .i64 0)) (fun _ hk => hk.2) (.int .i64 t200)) (fun _ h_ => h_.1))))) (zD (w := w) (g := g) (row := none) (by repeat ((with_reducible first | exact HK.1 | refine zn ?_ qj.1 _))))); replace qa := kz (Kd.R_elder' (by exact (zy (zH (p := ⟨gb203, 1, none⟩) (zH (p := ⟨gb203, 0, none⟩) (zI qa.1 zX.1 (by decide)) (fun _ hk => hk.2) (.int .i64 0)) (fun _ hk => hk.2) (.int .i64 t200)) (fun _ h_ => h_.1))) (Kd.R_base ho18) hb); replace HI0 := kz (IsS63.below (show IsS63 w0 ((w13.setCell ⟨gb203, 0, none⟩ (.int .i64 0)).setCell ⟨gb203, 1, none⟩ (.int .i64 t200)) g s0_0 t201 t202 from by repeat ((with_reducible first | exact HI0.1 | refine IsS63.far ?_ qb.1 _))) hb); replace zZ := kz (zv (g := gb196) (o := .cells #[.int .i64 0, .int .i64 0] 26 (0, 0)) (by refine zP ?_ qf.1 _; refine zP ?_ qf.1 _; exact zZ.1) hb); replace zX := kz (zv (g := gb203) (o := .cells #[.int .i64 0, .int .i64 t200] 26 (0, 0)) (by refine zC (cs := #[.int .i64 0, .int .i64 0]) ?_ 1 _ rfl; refine zC (cs := #[.int .i64 0, .int .i64 0]) ?_ 0 _ rfl; exact zX.1) hb); replace HK := kz (zp (by repeat ((with_reducible first | exact HK.1 | refine zn ?_ qj.1 _))) (zw hb g none) (.inl rfl)); replace HB := kz (zt (by repeat ((with_reducible first | exact HB.1 | refine zb ?_ ql.1))) hb); clear hb ho18; obtain ⟨Ao19, co19, eo19⟩ := zQ qd.1; subst eo19) | ((with_reducible refine zx (f := 54) rfl ?_); refine zJ (some 13) rfl rfl km (by kernel_rfl) rfl #[.pointer (some ⟨g, 0, none⟩), .slice Ao19 y204.length co19] rfl (by (try simp only [ky, kv, kg]); rfl) ?_; (with_reducible refine (spec_l1Cur_among.calls g s0_0 t201 t202 _ _ y204 t207 t208 t209 w0 _ ?side1 ?side2 ?side3 ?side4 ?side5 A3.1).mono ?_); (case side1 => repeat (with_reducible exact HI0.1)); (case side2 => repeat (with_reducible exact HB.1)); (case side3 => repeat (exact (zF qd.1).2.2)); (case side4 => exact (zF qd.1).2.1); (case side5 => exact zS (IsS63.own_ne HI0.1 qd.1 (by decide))); rintro e w20 ⟨rfl, hi, hb, hk⟩; refine ⟨_, rfl, ?_⟩; replace zZ := kz (zA hk (g' := gb196) (o := .cells #[.int .i64 0, .int .i64 0] 26 (0, 0)) zZ.1 qi.1 (by simp)); replace qa := kz (zy (zG (IsS63.apart (show IsS63 w0 _ g s0_0 t201 t202 from HI0.1) qa.1 (by decide)) hk (fun _ h => h.2)) (fun _ h => h.1)); replace zX := kz (zA hk (g' := gb203) (o := .cells #[.int .i64 0, .int .i64 t200] 26 (0, 0)) zX.1 qk.1 (by simp)); replace qd := kz (zy (zG (IsS63.apart (show IsS63 w0 _ g s0_0 t201 t202 from HI0.1) qd.1 (by decide)) hk (fun _ h => h.2)) (fun _ h => h.1)); replace HK := kz (zp HK.1 hk (.inl rfl)); replace HB := kz hb; replace HI0 := kz hi; (try clear hb); (try clear hb2); (try clear hk); (try clear hi); have hcz21_0 : w20.cell? ⟨gb203, 0, none⟩ = some (.int .i64 0) := (zm zX.1 0).trans rfl; have hcz21_1 : w20.cell? ⟨gb203, 1, none⟩ = some (.int .i64 t200) := (zm zX.1 1).trans rfl; have hfz21_0 := zi zX.1 0; have hfz21_1 := zi zX.1 1) | ((with_reducible refine zx (f := 33) rfl ?_); refine zJ (some 17) rfl rfl Try.func33 (by kernel_rfl) rfl #[.agg #[.int .i64 0, .int .i64 t200]] rfl (by (try simp only [ky, kv, kg]); rfl) ?_; (with_reducible refine (spec_l1Size.calls 0 t200 t210 _ A4.1).mono ?_); rintro e w22 ⟨rfl, hb⟩; refine ⟨_, rfl, ?_⟩; replace qa := kz (zK qa.1 hb); replace qd := kz (zK qd.1 hb); replace HI0 := kz (IsS63.below HI0.1 hb); replace zZ := kz (zv (g := gb196) (o := .cells #[.int .i64 0, .int .i64 0] 26 (0, 0)) zZ.1 hb); replace zX := kz (zv (g := gb203) (o := .cells #[.int .i64 0, .int .i64 t200] 26 (0, 0)) zX.1 hb); replace HK := kz (zp HK.1 (zw hb g none) (.inl rfl)); replace HB := kz (zt HB.1 hb); (try clear hb); (try clear hb2); (try clear hk); (try clear hi); have hcz23_0 : w22.cell? ⟨gb203, 0, none⟩ = some (.int .i64 0) := (zm zX.1 0).trans rfl; have hcz23_1 : w22.cell? ⟨gb203, 1, none⟩ = some (.int .i64 t200) := (zm zX.1 1).trans rfl; have hfz23_0 := zi zX.1 0; have hfz23_1 := zi zX.1 1) | ((with_reducible refine zx (f := 55) rfl ?_); refine zJ (some 22) rfl rfl kr (by kernel_rfl) rfl #[.pointer (some ⟨g, 0, none⟩), .int .i64 30] rfl (by (try simp only [ky, kv, kg]); rfl) ?_; (with_reducible refine (spec_l1Cur_pick.calls g s0_0 t208 t209 30 t211 t212 t213 w0 _ ?side1 ?side2 A6.1).mono ?_); (case side1 => repeat ((with_reducible first | exact HI0.1 | refine IsS63.far ?_ qb.1 _))); (case side2 => repeat ((with_reducible first | exact HB.1 | refine zb ?_ ql.1))); rintro e w24 ⟨rfl, hi, hb, hk⟩; refine ⟨_, rfl, ?_⟩; replace zZ := kz (zA hk (g' := gb196) (o := .cells #[.int .i64 0, .int .i64 0] 26 (0, 0)) (by refine zP ?_ qf.1 _; exact zZ.1) qi.1 (by simp)); replace qa := kz (zy (zG (IsS63.apart (show IsS63 w0 _ g s0_0 t208 t209 from by repeat ((with_reducible first | exact HI0.1 | refine IsS63.far ?_ qb.1 _))) (by exact (zy (zH (p := ⟨gb203, 0, none⟩) (zI qa.1 zX.1 (by decide)) (fun _ hk => hk.2) (.int .i64 (wrap64 (t207 - (kj t207 t210))))) (fun _ h_ => h_.1))) (by decide)) hk (fun _ h => h.2)) (fun _ h => h.1)); replace qd := kz (zy (zG (IsS63.apart (show IsS63 w0 _ g s0_0 t208 t209 from by repeat ((with_reducible first | exact HI0.1 | refine IsS63.far ?_ qb.1 _))) (by exact (zy (zH (p := ⟨gb203, 0, none⟩) (zI qd.1 zX.1 (by decide)) (fun _ hk => hk.2) (.int .i64 (wrap64 (t207 - (kj t207 t210))))) (fun _ h_ => h_.1))) (by decide)) hk (fun _ h => h.2)) (fun _ h => h.1)); replace zX := kz (zA hk (g' := gb203) (o := .cells #[.int .i64 (wrap64 (t207 - (kj t207 t210))), .int .i64 t200] 26 (0, 0)) (by refine zC (cs := #[.int .i64 0, .int .i64 t200]) ?_ 0 _ rfl; exact zX.1) qk.1 (by simp)); replace HK := kz (zp (by repeat ((with_reducible first | exact HK.1 | refine zn ?_ qj.1 _))) hk (.inl rfl)); replace HB := kz hb; replace HI0 := kz hi; (try clear hb); (try clear hb2); (try clear hk); (try clear hi); have hcz25_0 : w24.cell? ⟨gb203, 0, none⟩ = some (.int .i64 (wrap64 (t207 - (kj t207 t210)))) := (zm zX.1 0).trans rfl; have hcz25_1 : w24.cell? ⟨gb203, 1, none⟩ = some (.int .i64 t200) := (zm zX.1 1).trans rfl; have hfz25_0 := zi zX.1 0; have hfz25_1 := zi zX.1 1; have hnb26 := qi.1; have hnc26 := zY.1; have hcz27_0 : w24.cell? ⟨gb196, 0, none⟩ = some (.int .i64 0) := (zm zZ.1 0).trans rfl; have hcz27_1 : w24.cell? ⟨gb196, 1, none⟩ = some (.int .i64 0) := (zm zZ.1 1).trans rfl; have hfz27_0 := zi zZ.1 0; have hfz27_1 := zi zZ.1 1))
   refine bodyPost_ret (results_cell_row rfl _ _ gb196 26 #[.int .i64 (wrap64 ((wrap64 (t207 - (kj t207 t210))) + 1)), .int .i64 t200] (0, 0) _ rfl (by refine zC (cs := #[.int .i64 (wrap64 ((wrap64 (t207 - (kj t207 t210))) + 1)), .int .i64 0]) ?_ 1 _ rfl; refine zC (cs := #[.int .i64 0, .int .i64 0]) ?_ 0 _ rfl; refine zP ?_ qf.1 _; exact zZ.1) kf rfl (by kernel_rfl)) rfl ?_
   exact ⟨by rfl, by repeat ((with_reducible first | exact HI0.1 | refine IsS63.far ?_ zY.1 _ | refine IsS63.far ?_ qb.1 _)), by repeat ((with_reducible first | exact HB.1 | refine zb ?_ qh.1 | refine zb ?_ ql.1)), by repeat ((with_reducible first | exact HK.1 | refine zn ?_ qe.1 _ | refine zn ?_ qj.1 _))⟩
  ·
   rw [if_neg c7] at H
   have c7b0 : (t211 == 0) = false := beq_eq_false_iff_ne.mpr c7
   have c7b1 : (t211 != 0) = true := bne_iff_ne.mpr c7
   by_cases c28 : t211 = 1
   ·
    rw [if_pos c28] at H
    have c28b0 : (t211 == 1) = true := beq_iff_eq.mpr c28
    have c28b1 : (t211 != 1) = false := bne_eq_false_iff_eq.mpr c28
    clear c28
    obtain ⟨y214, hy214⟩ : ∃ y_ : List Int, y_ = (([(-1), 33] : List Int)) := ⟨_, rfl⟩
    replace H : ((spec_l1Cur_among.f s0_0 t212 t213 y214).bind fun bt217 => (some (wrap64 (t207 - (kj t207 t210)), bt217.1, bt217.2.1, bt217.2.2))) = some (r1, r2, r3, r4) := by (rw [hy214]; with_reducible exact H)
    have Ny214 := kz hy214
    clear hy214
    replace H := kk.mp H
    obtain ⟨⟨t217, t218, t219⟩, A290, H⟩ := H
    replace H : (some (wrap64 (t207 - (kj t207 t210)), t217, t218, t219)) = some (r1, r2, r3, r4) := H
    have A29 := kz A290
    clear A290
    simp only [kh, Prod.mk.injEq] at H
    obtain ⟨rfl, rfl, rfl, rfl⟩ := H
    go_enter Try.func52, Try.ntmps52
    go_wp2_with (first | ((with_reducible refine zB (N := 2) rfl ?_); refine zE ?hg (N := 2) ?hd (cs := #[.int .i64 0, .int .i64 0]) (t := 26) ?hr ?_; (case hd => rfl); (case hg => rfl); (case hr => (go_simp; done)); intro gb196 hg w30 hbox hb; replace HB := kz (zt HB.1 hb); have zZ := kz hbox; have qe := kz ((by rw [hg]; exact (zD (w := w) (g := g) (row := none) HK.1) : w.heap.size ≤ gb196)); have qh := kz ((ks HW0.1 (by rw [hg]; exact (zD (w := w) (g := g) (row := none) HK.1) : w.heap.size ≤ gb196) : w0.heap.size ≤ gb196)); replace HK := kz (zp HK.1 (zw hb g none) (.inl rfl)); have zY := kz ((by rw [hg]; exact kc (IsS63.lt (show IsS63 w0 _ g s0_0 s0_1 s0_2 from HI0.1)) : g ≠ gb196)); have qi := kz ((by rw [hg]; exact ko (IsS63.lt (show IsS63 w0 _ g s0_0 s0_1 s0_2 from HI0.1)) : gb196 ≠ g)); replace HI0 := kz (IsS63.below HI0.1 hb); clear hb hbox hg) | ((with_reducible refine zB (N := 7) rfl ?_); refine zU (zs .i64) _ 3 ?hg (N := 7) ?hd (xs := ([0, 1, 2, 3, 4, 8, 8, 16, 24, 31, 32] : List Int)) (inner := [.int .i64 0, .int .i64 1, .int .i64 2, .int .i64 3, .int .i64 4, .int .i64 8, .int .i64 8, .int .i64 16, .int .i64 24, .int .i64 31, .int .i64 32]) (ok := fun _ => True) (okp := fun _ => True) ?hr ?hp (fun _ hk => hk) trivial (Below.refl _ _) (kx _) (by simp) ?_; (case hd => rfl); (case hg => rfl); (case hr => (go_simp; done)); (case hp => exact (zo (show Kd.M (zs .i64) _ _ _ 0 [.int .i64 0] from rfl) (zo (show Kd.M (zs .i64) _ _ _ 1 [.int .i64 1] from rfl) (zo (show Kd.M (zs .i64) _ _ _ 2 [.int .i64 2] from rfl) (zo (show Kd.M (zs .i64) _ _ _ 3 [.int .i64 3] from rfl) (zo (show Kd.M (zs .i64) _ _ _ 4 [.int .i64 4] from rfl) (zo (show Kd.M (zs .i64) _ _ _ 8 [.int .i64 8] from rfl) (zo (show Kd.M (zs .i64) _ _ _ 8 [.int .i64 8] from rfl) (zo (show Kd.M (zs .i64) _ _ _ 16 [.int .i64 16] from rfl) (zo (show Kd.M (zs .i64) _ _ _ 24 [.int .i64 24] from rfl) (zo (show Kd.M (zs .i64) _ _ _ 31 [.int .i64 31] from rfl) (zo (show Kd.M (zs .i64) _ _ _ 32 [.int .i64 32] from rfl) (zT _ _))))))))))))); intro v198 w31 ho32 hb hg_ hnew_; clear hg_ hnew_; (rw [← Ny197.1] at ho32); have qa := kz (zR ho32 (zD (w := w) (g := g) (row := none) HK.1)); replace HI0 := kz (IsS63.below HI0.1 hb); replace zZ := kz (zv (g := gb196) (o := .cells #[.int .i64 0, .int .i64 0] 26 (0, 0)) zZ.1 hb); replace HK := kz (zp HK.1 (zw hb g none) (.inl rfl)); replace HB := kz (zt HB.1 hb); clear hb ho32; obtain ⟨Ao33, co33, eo33⟩ := zQ qa.1; subst eo33) | ((with_reducible refine zx (f := 54) rfl ?_); refine zJ (some 8) rfl rfl km (by kernel_rfl) rfl #[.pointer (some ⟨g, 0, none⟩), .slice Ao33 y197.length co33] rfl (by (try simp only [ky, kv, kg]); rfl) ?_; (with_reducible refine (spec_l1Cur_among.calls g s0_0 s0_1 s0_2 _ _ y197 t200 t201 t202 w0 _ ?side1 ?side2 ?side3 ?side4 ?side5 A2.1).mono ?_); (case side1 => repeat (with_reducible exact HI0.1)); (case side2 => repeat (with_reducible exact HB.1)); (case side3 => repeat (exact (zF qa.1).2.2)); (case side4 => exact (zF qa.1).2.1); (case side5 => exact zS (IsS63.own_ne HI0.1 qa.1 (by decide))); rintro e w34 ⟨rfl, hi, hb, hk⟩; refine ⟨_, rfl, ?_⟩; replace zZ := kz (zA hk (g' := gb196) (o := .cells #[.int .i64 0, .int .i64 0] 26 (0, 0)) zZ.1 qi.1 (by simp)); replace qa := kz (zy (zG (IsS63.apart (show IsS63 w0 _ g s0_0 s0_1 s0_2 from HI0.1) qa.1 (by decide)) hk (fun _ h => h.2)) (fun _ h => h.1)); replace HK := kz (zp HK.1 hk (.inl rfl)); replace HB := kz hb; replace HI0 := kz hi; (try clear hb); (try clear hb2); (try clear hk); (try clear hi)) | ((with_reducible refine zB (N := 4) rfl ?_); refine zE ?hg (N := 4) ?hd (cs := #[.int .i64 0, .int .i64 0]) (t := 26) ?hr ?_; (case hd => rfl); (case hg => rfl); (case hr => (go_simp; done)); intro gb203 hg w35 hbox hb; replace qa := kz (zK qa.1 hb); replace HB := kz (zt HB.1 hb); have zX := kz hbox; have qj := kz ((by rw [hg]; exact (zD (w := w) (g := g) (row := none) HK.1) : w.heap.size ≤ gb203)); have ql := kz ((ks HW0.1 (by rw [hg]; exact (zD (w := w) (g := g) (row := none) HK.1) : w.heap.size ≤ gb203) : w0.heap.size ≤ gb203)); replace HK := kz (zp HK.1 (zw hb g none) (.inl rfl)); have qf := kz ((by rw [hg]; exact kc (zN (g := gb196) (o := .cells #[.int .i64 0, .int .i64 0] 26 (0, 0)) zZ.1) : gb196 ≠ gb203)); have qr := kz ((by rw [hg]; exact ko (zN (g := gb196) (o := .cells #[.int .i64 0, .int .i64 0] 26 (0, 0)) zZ.1) : gb203 ≠ gb196)); replace zZ := kz (zv (g := gb196) (o := .cells #[.int .i64 0, .int .i64 0] 26 (0, 0)) zZ.1 hb); have qb := kz ((by rw [hg]; exact kc (IsS63.lt (show IsS63 w0 _ g s0_0 t201 t202 from HI0.1)) : g ≠ gb203)); have qk := kz ((by rw [hg]; exact ko (IsS63.lt (show IsS63 w0 _ g s0_0 t201 t202 from HI0.1)) : gb203 ≠ g)); replace HI0 := kz (IsS63.below HI0.1 hb); clear hb hbox hg; have hnb36 := qr.1; have hnc36 := qf.1; have hnb37 := qk.1; have hnc37 := qb.1; have hcz38_0 : w35.cell? ⟨gb203, 0, none⟩ = some (.int .i64 0) := (zm zX.1 0).trans rfl; have hcz38_1 : w35.cell? ⟨gb203, 1, none⟩ = some (.int .i64 0) := (zm zX.1 1).trans rfl; have hfz38_0 := zi zX.1 0; have hfz38_1 := zi zX.1 1) | ((with_reducible refine zB (N := 12) rfl ?_); refine zU (zs .i64) _ 3 ?hg (N := 12) ?hd (xs := ([0, 167772160, 167837696, 3232235520, 2147483648, 4294967295, 3758096384, 167772165] : List Int)) (inner := [.int .i64 0, .int .i64 167772160, .int .i64 167837696, .int .i64 3232235520, .int .i64 2147483648, .int .i64 4294967295, .int .i64 3758096384, .int .i64 167772165]) (ok := fun _ => True) (okp := fun _ => True) ?hr ?hp (fun _ hk => hk) trivial (Below.refl _ _) (kx _) (by simp) ?_; (case hd => rfl); (case hg => rfl); (case hr => (go_simp; done)); (case hp => exact (zo (show Kd.M (zs .i64) _ _ _ 0 [.int .i64 0] from rfl) (zo (show Kd.M (zs .i64) _ _ _ 167772160 [.int .i64 167772160] from rfl) (zo (show Kd.M (zs .i64) _ _ _ 167837696 [.int .i64 167837696] from rfl) (zo (show Kd.M (zs .i64) _ _ _ 3232235520 [.int .i64 3232235520] from rfl) (zo (show Kd.M (zs .i64) _ _ _ 2147483648 [.int .i64 2147483648] from rfl) (zo (show Kd.M (zs .i64) _ _ _ 4294967295 [.int .i64 4294967295] from rfl) (zo (show Kd.M (zs .i64) _ _ _ 3758096384 [.int .i64 3758096384] from rfl) (zo (show Kd.M (zs .i64) _ _ _ 167772165 [.int .i64 167772165] from rfl) (zT _ _)))))))))); intro v205 w39 ho40 hb hg_ hnew_; clear hg_ hnew_; (rw [← Ny204.1] at ho40); have qd := kz (zR (Kd.R_new' ho40 (Kd.R_lt (by exact (zy (zH (p := ⟨gb203, 1, none⟩) (zH (p := ⟨gb203, 0, none⟩) (zI qa.1 zX.1 (by decide)) (fun _ hk => hk.2) (.int .i64 0)) (fun _ hk => hk.2) (.int .i64 t200)) (fun _ h_ => h_.1))))) (zD (w := w) (g := g) (row := none) (by repeat ((with_reducible first | exact HK.1 | refine zn ?_ qj.1 _))))); replace qa := kz (Kd.R_elder' (by exact (zy (zH (p := ⟨gb203, 1, none⟩) (zH (p := ⟨gb203, 0, none⟩) (zI qa.1 zX.1 (by decide)) (fun _ hk => hk.2) (.int .i64 0)) (fun _ hk => hk.2) (.int .i64 t200)) (fun _ h_ => h_.1))) (Kd.R_base ho40) hb); replace HI0 := kz (IsS63.below (show IsS63 w0 ((w35.setCell ⟨gb203, 0, none⟩ (.int .i64 0)).setCell ⟨gb203, 1, none⟩ (.int .i64 t200)) g s0_0 t201 t202 from by repeat ((with_reducible first | exact HI0.1 | refine IsS63.far ?_ qb.1 _))) hb); replace zZ := kz (zv (g := gb196) (o := .cells #[.int .i64 0, .int .i64 0] 26 (0, 0)) (by refine zP ?_ qf.1 _; refine zP ?_ qf.1 _; exact zZ.1) hb); replace zX := kz (zv (g := gb203) (o := .cells #[.int .i64 0, .int .i64 t200] 26 (0, 0)) (by refine zC (cs := #[.int .i64 0, .int .i64 0]) ?_ 1 _ rfl; refine zC (cs := #[.int .i64 0, .int .i64 0]) ?_ 0 _ rfl; exact zX.1) hb); replace HK := kz (zp (by repeat ((with_reducible first | exact HK.1 | refine zn ?_ qj.1 _))) (zw hb g none) (.inl rfl)); replace HB := kz (zt (by repeat ((with_reducible first | exact HB.1 | refine zb ?_ ql.1))) hb); clear hb ho40; obtain ⟨Ao41, co41, eo41⟩ := zQ qd.1; subst eo41) | ((with_reducible refine zx (f := 54) rfl ?_); refine zJ (some 13) rfl rfl km (by kernel_rfl) rfl #[.pointer (some ⟨g, 0, none⟩), .slice Ao41 y204.length co41] rfl (by (try simp only [ky, kv, kg]); rfl) ?_; (with_reducible refine (spec_l1Cur_among.calls g s0_0 t201 t202 _ _ y204 t207 t208 t209 w0 _ ?side1 ?side2 ?side3 ?side4 ?side5 A3.1).mono ?_); (case side1 => repeat (with_reducible exact HI0.1)); (case side2 => repeat (with_reducible exact HB.1)); (case side3 => repeat (exact (zF qd.1).2.2)); (case side4 => exact (zF qd.1).2.1); (case side5 => exact zS (IsS63.own_ne HI0.1 qd.1 (by decide))); rintro e w42 ⟨rfl, hi, hb, hk⟩; refine ⟨_, rfl, ?_⟩; replace zZ := kz (zA hk (g' := gb196) (o := .cells #[.int .i64 0, .int .i64 0] 26 (0, 0)) zZ.1 qi.1 (by simp)); replace qa := kz (zy (zG (IsS63.apart (show IsS63 w0 _ g s0_0 t201 t202 from HI0.1) qa.1 (by decide)) hk (fun _ h => h.2)) (fun _ h => h.1)); replace zX := kz (zA hk (g' := gb203) (o := .cells #[.int .i64 0, .int .i64 t200] 26 (0, 0)) zX.1 qk.1 (by simp)); replace qd := kz (zy (zG (IsS63.apart (show IsS63 w0 _ g s0_0 t201 t202 from HI0.1) qd.1 (by decide)) hk (fun _ h => h.2)) (fun _ h => h.1)); replace HK := kz (zp HK.1 hk (.inl rfl)); replace HB := kz hb; replace HI0 := kz hi; (try clear hb); (try clear hb2); (try clear hk); (try clear hi); have hcz43_0 : w42.cell? ⟨gb203, 0, none⟩ = some (.int .i64 0) := (zm zX.1 0).trans rfl; have hcz43_1 : w42.cell? ⟨gb203, 1, none⟩ = some (.int .i64 t200) := (zm zX.1 1).trans rfl; have hfz43_0 := zi zX.1 0; have hfz43_1 := zi zX.1 1) | ((with_reducible refine zx (f := 33) rfl ?_); refine zJ (some 17) rfl rfl Try.func33 (by kernel_rfl) rfl #[.agg #[.int .i64 0, .int .i64 t200]] rfl (by (try simp only [ky, kv, kg]); rfl) ?_; (with_reducible refine (spec_l1Size.calls 0 t200 t210 _ A4.1).mono ?_); rintro e w44 ⟨rfl, hb⟩; refine ⟨_, rfl, ?_⟩; replace qa := kz (zK qa.1 hb); replace qd := kz (zK qd.1 hb); replace HI0 := kz (IsS63.below HI0.1 hb); replace zZ := kz (zv (g := gb196) (o := .cells #[.int .i64 0, .int .i64 0] 26 (0, 0)) zZ.1 hb); replace zX := kz (zv (g := gb203) (o := .cells #[.int .i64 0, .int .i64 t200] 26 (0, 0)) zX.1 hb); replace HK := kz (zp HK.1 (zw hb g none) (.inl rfl)); replace HB := kz (zt HB.1 hb); (try clear hb); (try clear hb2); (try clear hk); (try clear hi); have hcz45_0 : w44.cell? ⟨gb203, 0, none⟩ = some (.int .i64 0) := (zm zX.1 0).trans rfl; have hcz45_1 : w44.cell? ⟨gb203, 1, none⟩ = some (.int .i64 t200) := (zm zX.1 1).trans rfl; have hfz45_0 := zi zX.1 0; have hfz45_1 := zi zX.1 1) | ((with_reducible refine zx (f := 55) rfl ?_); refine zJ (some 22) rfl rfl kr (by kernel_rfl) rfl #[.pointer (some ⟨g, 0, none⟩), .int .i64 30] rfl (by (try simp only [ky, kv, kg]); rfl) ?_; (with_reducible refine (spec_l1Cur_pick.calls g s0_0 t208 t209 30 t211 t212 t213 w0 _ ?side1 ?side2 A6.1).mono ?_); (case side1 => repeat ((with_reducible first | exact HI0.1 | refine IsS63.far ?_ qb.1 _))); (case side2 => repeat ((with_reducible first | exact HB.1 | refine zb ?_ ql.1))); rintro e w46 ⟨rfl, hi, hb, hk⟩; refine ⟨_, rfl, ?_⟩; replace zZ := kz (zA hk (g' := gb196) (o := .cells #[.int .i64 0, .int .i64 0] 26 (0, 0)) (by refine zP ?_ qf.1 _; exact zZ.1) qi.1 (by simp)); replace qa := kz (zy (zG (IsS63.apart (show IsS63 w0 _ g s0_0 t208 t209 from by repeat ((with_reducible first | exact HI0.1 | refine IsS63.far ?_ qb.1 _))) (by exact (zy (zH (p := ⟨gb203, 0, none⟩) (zI qa.1 zX.1 (by decide)) (fun _ hk => hk.2) (.int .i64 (wrap64 (t207 - (kj t207 t210))))) (fun _ h_ => h_.1))) (by decide)) hk (fun _ h => h.2)) (fun _ h => h.1)); replace qd := kz (zy (zG (IsS63.apart (show IsS63 w0 _ g s0_0 t208 t209 from by repeat ((with_reducible first | exact HI0.1 | refine IsS63.far ?_ qb.1 _))) (by exact (zy (zH (p := ⟨gb203, 0, none⟩) (zI qd.1 zX.1 (by decide)) (fun _ hk => hk.2) (.int .i64 (wrap64 (t207 - (kj t207 t210))))) (fun _ h_ => h_.1))) (by decide)) hk (fun _ h => h.2)) (fun _ h => h.1)); replace zX := kz (zA hk (g' := gb203) (o := .cells #[.int .i64 (wrap64 (t207 - (kj t207 t210))), .int .i64 t200] 26 (0, 0)) (by refine zC (cs := #[.int .i64 0, .int .i64 t200]) ?_ 0 _ rfl; exact zX.1) qk.1 (by simp)); replace HK := kz (zp (by repeat ((with_reducible first | exact HK.1 | refine zn ?_ qj.1 _))) hk (.inl rfl)); replace HB := kz hb; replace HI0 := kz hi; (try clear hb); (try clear hb2); (try clear hk); (try clear hi)) | ((with_reducible refine zB (N := 32) rfl ?_); refine zU (zs .i64) _ 3 ?hg (N := 32) ?hd (xs := ([(-1), 33] : List Int)) (inner := [.int .i64 (-1), .int .i64 33]) (ok := fun _ => True) (okp := fun _ => True) ?hr ?hp (fun _ hk => hk) trivial (Below.refl _ _) (kx _) (by simp) ?_; (case hd => rfl); (case hg => rfl); (case hr => (go_simp; done)); (case hp => exact (zo (show Kd.M (zs .i64) _ _ _ (-1) [.int .i64 (-1)] from rfl) (zo (show Kd.M (zs .i64) _ _ _ 33 [.int .i64 33] from rfl) (zT _ _)))); intro v215 w47 ho48 hb hg_ hnew_; clear hg_ hnew_; (rw [← Ny214.1] at ho48); have qx := kz (zR (Kd.R_new' (Kd.R_new' ho48 (Kd.R_lt qa.1)) (Kd.R_lt qd.1)) (zD (w := w) (g := g) (row := none) HK.1)); replace qa := kz (Kd.R_elder' qa.1 (Kd.R_base ho48) hb); replace qd := kz (Kd.R_elder' qd.1 (Kd.R_base ho48) hb); replace HI0 := kz (IsS63.below HI0.1 hb); replace zZ := kz (zv (g := gb196) (o := .cells #[.int .i64 0, .int .i64 0] 26 (0, 0)) zZ.1 hb); replace zX := kz (zv (g := gb203) (o := .cells #[.int .i64 (wrap64 (t207 - (kj t207 t210))), .int .i64 t200] 26 (0, 0)) zX.1 hb); replace HK := kz (zp HK.1 (zw hb g none) (.inl rfl)); replace HB := kz (zt HB.1 hb); clear hb ho48; obtain ⟨Ao49, co49, eo49⟩ := zQ qx.1; subst eo49) | ((with_reducible refine zx (f := 54) rfl ?_); refine zJ (some 33) rfl rfl km (by kernel_rfl) rfl #[.pointer (some ⟨g, 0, none⟩), .slice Ao49 y214.length co49] rfl (by (try simp only [ky, kv, kg]); rfl) ?_; (with_reducible refine (spec_l1Cur_among.calls g s0_0 t212 t213 _ _ y214 t217 t218 t219 w0 _ ?side1 ?side2 ?side3 ?side4 ?side5 A29.1).mono ?_); (case side1 => repeat (with_reducible exact HI0.1)); (case side2 => repeat (with_reducible exact HB.1)); (case side3 => repeat (exact (zF qx.1).2.2)); (case side4 => exact (zF qx.1).2.1); (case side5 => exact zS (IsS63.own_ne HI0.1 qx.1 (by decide))); rintro e w50 ⟨rfl, hi, hb, hk⟩; refine ⟨_, rfl, ?_⟩; replace zZ := kz (zA hk (g' := gb196) (o := .cells #[.int .i64 0, .int .i64 0] 26 (0, 0)) zZ.1 qi.1 (by simp)); replace qa := kz (zy (zG (IsS63.apart (show IsS63 w0 _ g s0_0 t212 t213 from HI0.1) qa.1 (by decide)) hk (fun _ h => h.2)) (fun _ h => h.1)); replace zX := kz (zA hk (g' := gb203) (o := .cells #[.int .i64 (wrap64 (t207 - (kj t207 t210))), .int .i64 t200] 26 (0, 0)) zX.1 qk.1 (by simp)); replace qd := kz (zy (zG (IsS63.apart (show IsS63 w0 _ g s0_0 t212 t213 from HI0.1) qd.1 (by decide)) hk (fun _ h => h.2)) (fun _ h => h.1)); replace HK := kz (zp HK.1 hk (.inl rfl)); replace HB := kz hb; replace HI0 := kz hi; (try clear hb); (try clear hb2); (try clear hk); (try clear hi); have hcz51_0 : w50.cell? ⟨gb203, 0, none⟩ = some (.int .i64 (wrap64 (t207 - (kj t207 t210)))) := (zm zX.1 0).trans rfl; have hcz51_1 : w50.cell? ⟨gb203, 1, none⟩ = some (.int .i64 t200) := (zm zX.1 1).trans rfl; have hfz51_0 := zi zX.1 0; have hfz51_1 := zi zX.1 1; have hnb52 := qi.1; have hnc52 := zY.1; have hcz53_0 : w50.cell? ⟨gb196, 0, none⟩ = some (.int .i64 0) := (zm zZ.1 0).trans rfl; have hcz53_1 : w50.cell? ⟨gb196, 1, none⟩ = some (.int .i64 0) := (zm zZ.1 1).trans rfl; have hfz53_0 := zi zZ.1 0; have hfz53_1 := zi zZ.1 1))
    refine bodyPost_ret (results_cell_row rfl _ _ gb196 26 #[.int .i64 (wrap64 (t207 - (kj t207 t210))), .int .i64 t217] (0, 0) _ rfl (by refine zC (cs := #[.int .i64 (wrap64 (t207 - (kj t207 t210))), .int .i64 0]) ?_ 1 _ rfl; refine zC (cs := #[.int .i64 0, .int .i64 0]) ?_ 0 _ rfl; refine zP ?_ qf.1 _; exact zZ.1) kf rfl (by kernel_rfl)) rfl ?_
    exact ⟨by rfl, by repeat ((with_reducible first | exact HI0.1 | refine IsS63.far ?_ zY.1 _ | refine IsS63.far ?_ qb.1 _)), by repeat ((with_reducible first | exact HB.1 | refine zb ?_ qh.1 | refine zb ?_ ql.1)), by repeat ((with_reducible first | exact HK.1 | refine zn ?_ qe.1 _ | refine zn ?_ qj.1 _))⟩
   ·
    rw [if_neg c28] at H
    have c28b0 : (t211 == 1) = false := beq_eq_false_iff_ne.mpr c28
    have c28b1 : (t211 != 1) = true := bne_iff_ne.mpr c28
    simp only [kh, Prod.mk.injEq] at H
    obtain ⟨rfl, rfl, rfl, rfl⟩ := H
    go_enter Try.func52, Try.ntmps52
    go_wp2_with (first | ((with_reducible refine zB (N := 2) rfl ?_); refine zE ?hg (N := 2) ?hd (cs := #[.int .i64 0, .int .i64 0]) (t := 26) ?hr ?_; (case hd => rfl); (case hg => rfl); (case hr => (go_simp; done)); intro gb196 hg w54 hbox hb; replace HB := kz (zt HB.1 hb); have zZ := kz hbox; have qe := kz ((by rw [hg]; exact (zD (w := w) (g := g) (row := none) HK.1) : w.heap.size ≤ gb196)); have qh := kz ((ks HW0.1 (by rw [hg]; exact (zD (w := w) (g := g) (row := none) HK.1) : w.heap.size ≤ gb196) : w0.heap.size ≤ gb196)); replace HK := kz (zp HK.1 (zw hb g none) (.inl rfl)); have zY := kz ((by rw [hg]; exact kc (IsS63.lt (show IsS63 w0 _ g s0_0 s0_1 s0_2 from HI0.1)) : g ≠ gb196)); have qi := kz ((by rw [hg]; exact ko (IsS63.lt (show IsS63 w0 _ g s0_0 s0_1 s0_2 from HI0.1)) : gb196 ≠ g)); replace HI0 := kz (IsS63.below HI0.1 hb); clear hb hbox hg) | ((with_reducible refine zB (N := 7) rfl ?_); refine zU (zs .i64) _ 3 ?hg (N := 7) ?hd (xs := ([0, 1, 2, 3, 4, 8, 8, 16, 24, 31, 32] : List Int)) (inner := [.int .i64 0, .int .i64 1, .int .i64 2, .int .i64 3, .int .i64 4, .int .i64 8, .int .i64 8, .int .i64 16, .int .i64 24, .int .i64 31, .int .i64 32]) (ok := fun _ => True) (okp := fun _ => True) ?hr ?hp (fun _ hk => hk) trivial (Below.refl _ _) (kx _) (by simp) ?_; (case hd => rfl); (case hg => rfl); (case hr => (go_simp; done)); (case hp => exact (zo (show Kd.M (zs .i64) _ _ _ 0 [.int .i64 0] from rfl) (zo (show Kd.M (zs .i64) _ _ _ 1 [.int .i64 1] from rfl) (zo (show Kd.M (zs .i64) _ _ _ 2 [.int .i64 2] from rfl) (zo (show Kd.M (zs .i64) _ _ _ 3 [.int .i64 3] from rfl) (zo (show Kd.M (zs .i64) _ _ _ 4 [.int .i64 4] from rfl) (zo (show Kd.M (zs .i64) _ _ _ 8 [.int .i64 8] from rfl) (zo (show Kd.M (zs .i64) _ _ _ 8 [.int .i64 8] from rfl) (zo (show Kd.M (zs .i64) _ _ _ 16 [.int .i64 16] from rfl) (zo (show Kd.M (zs .i64) _ _ _ 24 [.int .i64 24] from rfl) (zo (show Kd.M (zs .i64) _ _ _ 31 [.int .i64 31] from rfl) (zo (show Kd.M (zs .i64) _ _ _ 32 [.int .i64 32] from rfl) (zT _ _))))))))))))); intro v198 w55 ho56 hb hg_ hnew_; clear hg_ hnew_; (rw [← Ny197.1] at ho56); have qa := kz (zR ho56 (zD (w := w) (g := g) (row := none) HK.1)); replace HI0 := kz (IsS63.below HI0.1 hb); replace zZ := kz (zv (g := gb196) (o := .cells #[.int .i64 0, .int .i64 0] 26 (0, 0)) zZ.1 hb); replace HK := kz (zp HK.1 (zw hb g none) (.inl rfl)); replace HB := kz (zt HB.1 hb); clear hb ho56; obtain ⟨Ao57, co57, eo57⟩ := zQ qa.1; subst eo57) | ((with_reducible refine zx (f := 54) rfl ?_); refine zJ (some 8) rfl rfl km (by kernel_rfl) rfl #[.pointer (some ⟨g, 0, none⟩), .slice Ao57 y197.length co57] rfl (by (try simp only [ky, kv, kg]); rfl) ?_; (with_reducible refine (spec_l1Cur_among.calls g s0_0 s0_1 s0_2 _ _ y197 t200 t201 t202 w0 _ ?side1 ?side2 ?side3 ?side4 ?side5 A2.1).mono ?_); (case side1 => repeat (with_reducible exact HI0.1)); (case side2 => repeat (with_reducible exact HB.1)); (case side3 => repeat (exact (zF qa.1).2.2)); (case side4 => exact (zF qa.1).2.1); (case side5 => exact zS (IsS63.own_ne HI0.1 qa.1 (by decide))); rintro e w58 ⟨rfl, hi, hb, hk⟩; refine ⟨_, rfl, ?_⟩; replace zZ := kz (zA hk (g' := gb196) (o := .cells #[.int .i64 0, .int .i64 0] 26 (0, 0)) zZ.1 qi.1 (by simp)); replace qa := kz (zy (zG (IsS63.apart (show IsS63 w0 _ g s0_0 s0_1 s0_2 from HI0.1) qa.1 (by decide)) hk (fun _ h => h.2)) (fun _ h => h.1)); replace HK := kz (zp HK.1 hk (.inl rfl)); replace HB := kz hb; replace HI0 := kz hi; (try clear hb); (try clear hb2); (try clear hk); (try clear hi)) | ((with_reducible refine zB (N := 4) rfl ?_); refine zE ?hg (N := 4) ?hd (cs := #[.int .i64 0, .int .i64 0]) (t := 26) ?hr ?_; (case hd => rfl); (case hg => rfl); (case hr => (go_simp; done)); intro gb203 hg w59 hbox hb; replace qa := kz (zK qa.1 hb); replace HB := kz (zt HB.1 hb); have zX := kz hbox; have qj := kz ((by rw [hg]; exact (zD (w := w) (g := g) (row := none) HK.1) : w.heap.size ≤ gb203)); have ql := kz ((ks HW0.1 (by rw [hg]; exact (zD (w := w) (g := g) (row := none) HK.1) : w.heap.size ≤ gb203) : w0.heap.size ≤ gb203)); replace HK := kz (zp HK.1 (zw hb g none) (.inl rfl)); have qf := kz ((by rw [hg]; exact kc (zN (g := gb196) (o := .cells #[.int .i64 0, .int .i64 0] 26 (0, 0)) zZ.1) : gb196 ≠ gb203)); have qr := kz ((by rw [hg]; exact ko (zN (g := gb196) (o := .cells #[.int .i64 0, .int .i64 0] 26 (0, 0)) zZ.1) : gb203 ≠ gb196)); replace zZ := kz (zv (g := gb196) (o := .cells #[.int .i64 0, .int .i64 0] 26 (0, 0)) zZ.1 hb); have qb := kz ((by rw [hg]; exact kc (IsS63.lt (show IsS63 w0 _ g s0_0 t201 t202 from HI0.1)) : g ≠ gb203)); have qk := kz ((by rw [hg]; exact ko (IsS63.lt (show IsS63 w0 _ g s0_0 t201 t202 from HI0.1)) : gb203 ≠ g)); replace HI0 := kz (IsS63.below HI0.1 hb); clear hb hbox hg; have hnb60 := qr.1; have hnc60 := qf.1; have hnb61 := qk.1; have hnc61 := qb.1; have hcz62_0 : w59.cell? ⟨gb203, 0, none⟩ = some (.int .i64 0) := (zm zX.1 0).trans rfl; have hcz62_1 : w59.cell? ⟨gb203, 1, none⟩ = some (.int .i64 0) := (zm zX.1 1).trans rfl; have hfz62_0 := zi zX.1 0; have hfz62_1 := zi zX.1 1) | ((with_reducible refine zB (N := 12) rfl ?_); refine zU (zs .i64) _ 3 ?hg (N := 12) ?hd (xs := ([0, 167772160, 167837696, 3232235520, 2147483648, 4294967295, 3758096384, 167772165] : List Int)) (inner := [.int .i64 0, .int .i64 167772160, .int .i64 167837696, .int .i64 3232235520, .int .i64 2147483648, .int .i64 4294967295, .int .i64 3758096384, .int .i64 167772165]) (ok := fun _ => True) (okp := fun _ => True) ?hr ?hp (fun _ hk => hk) trivial (Below.refl _ _) (kx _) (by simp) ?_; (case hd => rfl); (case hg => rfl); (case hr => (go_simp; done)); (case hp => exact (zo (show Kd.M (zs .i64) _ _ _ 0 [.int .i64 0] from rfl) (zo (show Kd.M (zs .i64) _ _ _ 167772160 [.int .i64 167772160] from rfl) (zo (show Kd.M (zs .i64) _ _ _ 167837696 [.int .i64 167837696] from rfl) (zo (show Kd.M (zs .i64) _ _ _ 3232235520 [.int .i64 3232235520] from rfl) (zo (show Kd.M (zs .i64) _ _ _ 2147483648 [.int .i64 2147483648] from rfl) (zo (show Kd.M (zs .i64) _ _ _ 4294967295 [.int .i64 4294967295] from rfl) (zo (show Kd.M (zs .i64) _ _ _ 3758096384 [.int .i64 3758096384] from rfl) (zo (show Kd.M (zs .i64) _ _ _ 167772165 [.int .i64 167772165] from rfl) (zT _ _)))))))))); intro v205 w63 ho64 hb hg_ hnew_; clear hg_ hnew_; (rw [← Ny204.1] at ho64); have qd := kz (zR (Kd.R_new' ho64 (Kd.R_lt (by exact (zy (zH (p := ⟨gb203, 1, none⟩) (zH (p := ⟨gb203, 0, none⟩) (zI qa.1 zX.1 (by decide)) (fun _ hk => hk.2) (.int .i64 0)) (fun _ hk => hk.2) (.int .i64 t200)) (fun _ h_ => h_.1))))) (zD (w := w) (g := g) (row := none) (by repeat ((with_reducible first | exact HK.1 | refine zn ?_ qj.1 _))))); replace HI0 := kz (IsS63.below (show IsS63 w0 ((w59.setCell ⟨gb203, 0, none⟩ (.int .i64 0)).setCell ⟨gb203, 1, none⟩ (.int .i64 t200)) g s0_0 t201 t202 from by repeat ((with_reducible first | exact HI0.1 | refine IsS63.far ?_ qb.1 _))) hb); replace zZ := kz (zv (g := gb196) (o := .cells #[.int .i64 0, .int .i64 0] 26 (0, 0)) (by refine zP ?_ qf.1 _; refine zP ?_ qf.1 _; exact zZ.1) hb); replace zX := kz (zv (g := gb203) (o := .cells #[.int .i64 0, .int .i64 t200] 26 (0, 0)) (by refine zC (cs := #[.int .i64 0, .int .i64 0]) ?_ 1 _ rfl; refine zC (cs := #[.int .i64 0, .int .i64 0]) ?_ 0 _ rfl; exact zX.1) hb); replace HK := kz (zp (by repeat ((with_reducible first | exact HK.1 | refine zn ?_ qj.1 _))) (zw hb g none) (.inl rfl)); replace HB := kz (zt (by repeat ((with_reducible first | exact HB.1 | refine zb ?_ ql.1))) hb); clear hb ho64; obtain ⟨Ao65, co65, eo65⟩ := zQ qd.1; subst eo65) | ((with_reducible refine zx (f := 54) rfl ?_); refine zJ (some 13) rfl rfl km (by kernel_rfl) rfl #[.pointer (some ⟨g, 0, none⟩), .slice Ao65 y204.length co65] rfl (by (try simp only [ky, kv, kg]); rfl) ?_; (with_reducible refine (spec_l1Cur_among.calls g s0_0 t201 t202 _ _ y204 t207 t208 t209 w0 _ ?side1 ?side2 ?side3 ?side4 ?side5 A3.1).mono ?_); (case side1 => repeat (with_reducible exact HI0.1)); (case side2 => repeat (with_reducible exact HB.1)); (case side3 => repeat (exact (zF qd.1).2.2)); (case side4 => exact (zF qd.1).2.1); (case side5 => exact zS (IsS63.own_ne HI0.1 qd.1 (by decide))); rintro e w66 ⟨rfl, hi, hb, hk⟩; refine ⟨_, rfl, ?_⟩; replace zZ := kz (zA hk (g' := gb196) (o := .cells #[.int .i64 0, .int .i64 0] 26 (0, 0)) zZ.1 qi.1 (by simp)); replace zX := kz (zA hk (g' := gb203) (o := .cells #[.int .i64 0, .int .i64 t200] 26 (0, 0)) zX.1 qk.1 (by simp)); replace HK := kz (zp HK.1 hk (.inl rfl)); replace HB := kz hb; replace HI0 := kz hi; (try clear hb); (try clear hb2); (try clear hk); (try clear hi); have hcz67_0 : w66.cell? ⟨gb203, 0, none⟩ = some (.int .i64 0) := (zm zX.1 0).trans rfl; have hcz67_1 : w66.cell? ⟨gb203, 1, none⟩ = some (.int .i64 t200) := (zm zX.1 1).trans rfl; have hfz67_0 := zi zX.1 0; have hfz67_1 := zi zX.1 1) | ((with_reducible refine zx (f := 33) rfl ?_); refine zJ (some 17) rfl rfl Try.func33 (by kernel_rfl) rfl #[.agg #[.int .i64 0, .int .i64 t200]] rfl (by (try simp only [ky, kv, kg]); rfl) ?_; (with_reducible refine (spec_l1Size.calls 0 t200 t210 _ A4.1).mono ?_); rintro e w68 ⟨rfl, hb⟩; refine ⟨_, rfl, ?_⟩; replace HI0 := kz (IsS63.below HI0.1 hb); replace zZ := kz (zv (g := gb196) (o := .cells #[.int .i64 0, .int .i64 0] 26 (0, 0)) zZ.1 hb); replace zX := kz (zv (g := gb203) (o := .cells #[.int .i64 0, .int .i64 t200] 26 (0, 0)) zX.1 hb); replace HK := kz (zp HK.1 (zw hb g none) (.inl rfl)); replace HB := kz (zt HB.1 hb); (try clear hb); (try clear hb2); (try clear hk); (try clear hi); have hcz69_0 : w68.cell? ⟨gb203, 0, none⟩ = some (.int .i64 0) := (zm zX.1 0).trans rfl; have hcz69_1 : w68.cell? ⟨gb203, 1, none⟩ = some (.int .i64 t200) := (zm zX.1 1).trans rfl; have hfz69_0 := zi zX.1 0; have hfz69_1 := zi zX.1 1) | ((with_reducible refine zx (f := 55) rfl ?_); refine zJ (some 22) rfl rfl kr (by kernel_rfl) rfl #[.pointer (some ⟨g, 0, none⟩), .int .i64 30] rfl (by (try simp only [ky, kv, kg]); rfl) ?_; (with_reducible refine (spec_l1Cur_pick.calls g s0_0 t208 t209 30 t211 t212 t213 w0 _ ?side1 ?side2 A6.1).mono ?_); (case side1 => repeat ((with_reducible first | exact HI0.1 | refine IsS63.far ?_ qb.1 _))); (case side2 => repeat ((with_reducible first | exact HB.1 | refine zb ?_ ql.1))); rintro e w70 ⟨rfl, hi, hb, hk⟩; refine ⟨_, rfl, ?_⟩; replace zZ := kz (zA hk (g' := gb196) (o := .cells #[.int .i64 0, .int .i64 0] 26 (0, 0)) (by refine zP ?_ qf.1 _; exact zZ.1) qi.1 (by simp)); replace zX := kz (zA hk (g' := gb203) (o := .cells #[.int .i64 (wrap64 (t207 - (kj t207 t210))), .int .i64 t200] 26 (0, 0)) (by refine zC (cs := #[.int .i64 0, .int .i64 t200]) ?_ 0 _ rfl; exact zX.1) qk.1 (by simp)); replace HK := kz (zp (by repeat ((with_reducible first | exact HK.1 | refine zn ?_ qj.1 _))) hk (.inl rfl)); replace HB := kz hb; replace HI0 := kz hi; (try clear hb); (try clear hb2); (try clear hk); (try clear hi); have hcz71_0 : w70.cell? ⟨gb203, 0, none⟩ = some (.int .i64 (wrap64 (t207 - (kj t207 t210)))) := (zm zX.1 0).trans rfl; have hcz71_1 : w70.cell? ⟨gb203, 1, none⟩ = some (.int .i64 t200) := (zm zX.1 1).trans rfl; have hfz71_0 := zi zX.1 0; have hfz71_1 := zi zX.1 1; have hnb72 := qi.1; have hnc72 := zY.1; have hcz73_0 : w70.cell? ⟨gb196, 0, none⟩ = some (.int .i64 0) := (zm zZ.1 0).trans rfl; have hcz73_1 : w70.cell? ⟨gb196, 1, none⟩ = some (.int .i64 0) := (zm zZ.1 1).trans rfl; have hfz73_0 := zi zZ.1 0; have hfz73_1 := zi zZ.1 1))
    refine bodyPost_ret (results_cell_row rfl _ _ gb196 26 #[.int .i64 (wrap64 (t207 - (kj t207 t210))), .int .i64 t200] (0, 0) _ rfl (by refine zC (cs := #[.int .i64 (wrap64 (t207 - (kj t207 t210))), .int .i64 0]) ?_ 1 _ rfl; refine zC (cs := #[.int .i64 0, .int .i64 0]) ?_ 0 _ rfl; exact zZ.1) kf rfl (by kernel_rfl)) rfl ?_
    exact ⟨by rfl, by repeat ((with_reducible first | exact HI0.1 | refine IsS63.far ?_ zY.1 _)), by repeat ((with_reducible first | exact HB.1 | refine zb ?_ qh.1)), by repeat ((with_reducible first | exact HK.1 | refine zn ?_ qe.1 _))⟩
/-! ### spec_DrawGoodPrefix: function 48 -/
def spec_DrawGoodPrefix.f (l0 : List Int) : Option (Int × Int) := (spec_l1Cur_prefix.f l0 0 0).bind fun bt222 => (some (bt222.1, bt222.2.1))
theorem spec_DrawGoodPrefix.calls (A0 : Option Addr) (c0 : Nat) (l0 : List Int) (r1 : Int) (r2 : Int) (w : World) (hr0 : Kd.C (zs .u8) w A0 l0.length l0) (hc0 : l0.length ≤ c0) (h : spec_DrawGoodPrefix.f l0 = some (r1, r2)) :
  Calls ku 48 #[.slice A0 l0.length c0] w fun e w' => e = .returned (.agg #[.int .i64 r1, .int .i64 r2]) ∧ Below w.heap.size w w' := by
 have hu26 := kf
 have hu63 := Try.underlying63
 have HR0 := kz hr0
 have HC0 := kz hc0
 clear hr0 hc0
 have HB := kz (Below.refl w.heap.size w)
 have H : ((spec_l1Cur_prefix.f l0 0 0).bind fun bt222 => (some (bt222.1, bt222.2.1))) = some (r1, r2) := h
 clear h
 replace H := kk.mp H
 obtain ⟨⟨t222, t223, t224, t225⟩, A20, H⟩ := H
 replace H : (some (t222, t223)) = some (r1, r2) := H
 have A2 := kz A20
 clear A20
 simp only [kh, Prod.mk.injEq] at H
 obtain ⟨rfl, rfl⟩ := H
 go_enter Try.func48, Try.ntmps48
 go_wp2_with (first | ((with_reducible refine zB (N := 2) rfl ?_); refine zE ?hg (N := 2) ?hd (cs := #[.int .i64 0, .int .i64 0]) (t := 26) ?hr ?_; (case hd => rfl); (case hg => rfl); (case hr => (go_simp; done)); intro gb220 hg w3 hbox hb; have qs := kz hbox; have qz := kz ((by rw [hg]; exact (zz HB.1) : w.heap.size ≤ gb220)); replace HB := kz (zt HB.1 hb); clear hb hbox hg) | ((with_reducible refine zB (N := 6) rfl ?_); refine zE ?hg (N := 6) ?hd (cs := #[.slice A0 l0.length c0, .int .i64 0, .int .u64 0]) (t := 63) ?hr ?_; (case hd => rfl); (case hg => rfl); (case hr => (go_simp; done)); intro gb221 hg w4 hbox hb; have BK221 := kz hbox; have GW221 := kz ((by rw [hg]; exact (zz HB.1) : w.heap.size ≤ gb221)); replace HB := kz (zt HB.1 hb); have NB220_221 := kz ((by rw [hg]; exact kc (zN (g := gb220) (o := .cells #[.int .i64 0, .int .i64 0] 26 (0, 0)) qs.1) : gb220 ≠ gb221)); have NB221_220 := kz ((by rw [hg]; exact ko (zN (g := gb220) (o := .cells #[.int .i64 0, .int .i64 0] 26 (0, 0)) qs.1) : gb221 ≠ gb220)); replace qs := kz (zv (g := gb220) (o := .cells #[.int .i64 0, .int .i64 0] 26 (0, 0)) qs.1 hb); clear hb hbox hg) | ((with_reducible refine zx (f := 52) rfl ?_); have qy := kz (show IsS63 w _ gb221 l0 0 0 from by exact ⟨_, _, BK221.1, GW221.1, HR0.1⟩); refine zJ (some 8) rfl rfl Try.func52 (by kernel_rfl) rfl #[.pointer (some ⟨gb221, 0, none⟩)] rfl (by (try simp only [ky, kv, kg]); rfl) ?_; (with_reducible refine (spec_l1Cur_prefix.calls gb221 l0 0 0 t222 t223 t224 t225 w _ ?side1 ?side2 A2.1).mono ?_); (case side1 => repeat (with_reducible exact qy.1)); (case side2 => repeat (with_reducible exact HB.1)); rintro e w5 ⟨rfl, hi, hb, hk⟩; refine ⟨_, rfl, ?_⟩; replace qs := kz (zA hk (g' := gb220) (o := .cells #[.int .i64 0, .int .i64 0] 26 (0, 0)) qs.1 NB220_221.1 (by simp)); replace HB := kz hb; (try clear hb); (try clear hb2); (try clear hk); (try clear hi); have hnb6 := NB220_221.1; have hnc6 := NB221_220.1; have hcz7_0 : w5.cell? ⟨gb220, 0, none⟩ = some (.int .i64 0) := (zm qs.1 0).trans rfl; have hcz7_1 : w5.cell? ⟨gb220, 1, none⟩ = some (.int .i64 0) := (zm qs.1 1).trans rfl; have hfz7_0 := zi qs.1 0; have hfz7_1 := zi qs.1 1))
 refine bodyPost_ret (results_cell_row rfl _ _ gb220 26 #[.int .i64 t222, .int .i64 t223] (0, 0) _ rfl (by refine zC (cs := #[.int .i64 t222, .int .i64 0]) ?_ 1 _ rfl; refine zC (cs := #[.int .i64 0, .int .i64 0]) ?_ 0 _ rfl; exact qs.1) kf rfl (by kernel_rfl)) rfl ?_
 exact ⟨by rfl, by repeat ((with_reducible first | exact HB.1 | refine zb ?_ qz.1))⟩
/-! ### spec_DrawHalvesOf: function 28 -/
def spec_DrawHalvesOf.f (l0 : List Int) : Option (Int × Int) := (spec_DrawGoodPrefix.f l0).bind fun bt227 => (some (bt227.1, bt227.2))
theorem spec_DrawHalvesOf.calls (A0 : Option Addr) (c0 : Nat) (l0 : List Int) (r1 : Int) (r2 : Int) (w : World) (hr0 : Kd.C (zs .u8) w A0 l0.length l0) (hc0 : l0.length ≤ c0) (h : spec_DrawHalvesOf.f l0 = some (r1, r2)) :
  Calls ku 28 #[.slice A0 l0.length c0] w fun e w' => e = .returned (.agg #[.int .i64 r1, .int .i64 r2]) ∧ Below w.heap.size w w' := by
 have hu26 := kf
 have HR0 := kz hr0
 have HC0 := kz hc0
 clear hr0 hc0
 have HB := kz (Below.refl w.heap.size w)
 have H : ((spec_DrawGoodPrefix.f l0).bind fun bt227 => (some (bt227.1, bt227.2))) = some (r1, r2) := h
 clear h
 replace H := kk.mp H
 obtain ⟨⟨t227, t228⟩, A20, H⟩ := H
 replace H : (some (t227, t228)) = some (r1, r2) := H
 have A2 := kz A20
 clear A20
 simp only [kh, Prod.mk.injEq] at H
 obtain ⟨rfl, rfl⟩ := H
 go_enter Try.func28, Try.ntmps28
 go_wp2_with (first | ((with_reducible refine zB (N := 2) rfl ?_); refine zE ?hg (N := 2) ?hd (cs := #[.int .i64 0, .int .i64 0]) (t := 26) ?hr ?_; (case hd => rfl); (case hg => rfl); (case hr => (go_simp; done)); intro gb226 hg w3 hbox hb; have qv := kz hbox; have GE226 := kz ((by rw [hg]; exact (zz HB.1) : w.heap.size ≤ gb226)); replace HB := kz (zt HB.1 hb); clear hb hbox hg) | ((with_reducible refine zx (f := 48) rfl ?_); refine zJ (some 4) rfl rfl Try.func48 (by kernel_rfl) rfl #[.slice A0 l0.length c0] rfl (by (try simp only [ky, kv, kg]); rfl) ?_; (with_reducible refine (spec_DrawGoodPrefix.calls _ _ l0 t227 t228 _ ?side1 ?side2 A2.1).mono ?_); (case side1 => repeat (exact (Kd.C_below HR0.1 HB.1))); (case side2 => exact HC0.1); rintro e w4 ⟨rfl, hb⟩; refine ⟨_, rfl, ?_⟩; replace qv := kz (zv (g := gb226) (o := .cells #[.int .i64 0, .int .i64 0] 26 (0, 0)) qv.1 hb); replace HB := kz (zt HB.1 hb); (try clear hb); (try clear hb2); (try clear hk); (try clear hi); have hcz5_0 : w4.cell? ⟨gb226, 0, none⟩ = some (.int .i64 0) := (zm qv.1 0).trans rfl; have hcz5_1 : w4.cell? ⟨gb226, 1, none⟩ = some (.int .i64 0) := (zm qv.1 1).trans rfl; have hfz5_0 := zi qv.1 0; have hfz5_1 := zi qv.1 1))
 refine bodyPost_ret (results_cell_row rfl _ _ gb226 26 #[.int .i64 t227, .int .i64 t228] (0, 0) _ rfl (by refine zC (cs := #[.int .i64 t227, .int .i64 0]) ?_ 1 _ rfl; refine zC (cs := #[.int .i64 0, .int .i64 0]) ?_ 0 _ rfl; exact qv.1) kf rfl (by kernel_rfl)) rfl ?_
 exact ⟨by rfl, by repeat ((with_reducible first | exact HB.1 | refine zb ?_ GE226.1))⟩
/-! ### laws_numberOf: function 29 -/
def laws_numberOf.l0 : Nat → Int → List Int → Int → Int → Option (Int)
 | 0, _, _, _, _ => none
 | k + 1, x3, x6, x7, x8 => if x8 < x7 then (if 0 ≤ x8 then (if x8 < (x6.length : Int) then (laws_numberOf.l0 k (kj (wrap64 ((wrap64 (31 * x3)) + (wrap64 (rd x6 x8)))) 1000003) x6 x7 (wrap64 (x8 + 1))) else (none)) else (none)) else (some x3)
def laws_numberOf.f (k : Nat) (l0 : List Int) : Option (Int) := laws_numberOf.l0 k 0 l0 (l0.length : Int) 0
theorem laws_numberOf.mono_l : ∀ k, (∀ y0 y1 y2 y3, LeO (laws_numberOf.l0 k y0 y1 y2 y3) (laws_numberOf.l0 (k + 1) y0 y1 y2 y3))
 | 0 => fun _ _ _ _ r h => by simp [laws_numberOf.l0] at h
 | k + 1 => by
  have ih0 := laws_numberOf.mono_l k
  ·
   intro y0 y1 y2 y3
   unfold laws_numberOf.l0
   repeat' first
   | (with_reducible exact ih0 _ _ _ _)
   | (with_reducible exact LeO.refl _)
   | (with_reducible refine LeO.ite ?_ ?_)
theorem laws_numberOf.calls (k : Nat) (A0 : Option Addr) (c0 : Nat) (l0 : List Int) (r : Int) (w : World) (hr0 : Kd.C (zs .u8) w A0 l0.length l0) (hc0 : l0.length ≤ c0) (h : laws_numberOf.f k l0 = some r) :
  Calls ku 29 #[.slice A0 l0.length c0] w fun e w' => e = .returned (.int .i64 r) ∧ Drawn0 w w' := by
 have HR0 := kz hr0
 have HC0 := kz hc0
 clear hr0 hc0
 have H : (laws_numberOf.l0 k 0 l0 (l0.length : Int) 0) = some r := h
 clear h
 have H' := kz H
 clear H
 go_enter Try.func29, Try.ntmps29
 go_wp2
 go_loopg [3, 8] k (fun kq v3 v8 w' => ∃ (x3_1 : Int) (x8_1 : Int), v3 = .int .i64 x3_1 ∧ v8 = .int .i64 x8_1 ∧ Aside0 (laws_numberOf.l0 kq x3_1 l0 (l0.length : Int) x8_1 = some r) ∧ Aside0 (kq ≤ k) ∧ Drawn0 w w')
 case atStart => exact ⟨(0), (0), (by rfl), (by rfl), H', ⟨kx _⟩, by repeat (exact Drawn0.refl _)⟩
 case round =>
  clear H'
  obtain ⟨x3_1, x8_1, rfl, rfl, HA, HK1, ⟨m1, rfl⟩⟩ := hrel
  cases gk with
  | zero => exact absurd HA.1 (by simp [laws_numberOf.l0])
  | succ k1 =>
   have H := HA.1
   clear HA
   simp only [laws_numberOf.l0] at H
   by_cases c2 : x8_1 < (l0.length : Int)
   ·
    rw [if_pos c2] at H
    have c2b0 : decide (x8_1 < (l0.length : Int)) = true := decide_eq_true c2
    clear c2
    by_cases c3 : 0 ≤ x8_1
    ·
     rw [if_pos c3] at H
     have c3b0 : decide (0 ≤ x8_1) = true := decide_eq_true c3
     clear c3
     by_cases c4 : x8_1 < (l0.length : Int)
     ·
      rw [if_pos c4] at H
      have c4b0 : decide (x8_1 < (l0.length : Int)) = true := decide_eq_true c4
      clear c4
      have H' := kz H
      clear H
      have p229 : 0 ≤ (x8_1 : Int) := of_decide_eq_true (by (with_reducible assumption))
      have q229 : x8_1 < (l0.length : Int) := of_decide_eq_true (by (with_reducible assumption))
      obtain ⟨ad229, e229, hx229_0⟩ := Kd.at_int HR0.1 x8_1 p229 q229
      cases e229
      replace p229 := eq_true p229
      replace q229 := eq_true q229
      go_wp2
      go_roundg k1
      case measure => have := HK1.1; omega
      case rel => exact ⟨(kj (wrap64 ((wrap64 (31 * x3_1)) + (wrap64 (rd l0 x8_1)))) 1000003), (wrap64 (x8_1 + 1)), (by rfl), (by rfl), H', ⟨by have := HK1.1; omega⟩, by repeat (first | exact Drawn0.refl _ | apply Drawn0.step)⟩
     ·
      rw [if_neg c4] at H
      exact absurd H (by simp)
    ·
     rw [if_neg c3] at H
     exact absurd H (by simp)
   ·
    rw [if_neg c2] at H
    have c2b0 : decide (x8_1 < (l0.length : Int)) = false := decide_eq_false c2
    clear c2
    obtain rfl := Option.some.inj H
    go_wp2
    go_ret
    exact ⟨by rfl, by repeat (first | exact Drawn0.refl _ | apply Drawn0.step)⟩
/-! ### spec_DrawParentOf: function 30 -/
def spec_DrawParentOf.f (l0 : List Int) : Option (Int × Int) := (spec_DrawGoodPrefix.f l0).bind fun bt231 => (some (bt231.1, bt231.2))
theorem spec_DrawParentOf.calls (A0 : Option Addr) (c0 : Nat) (l0 : List Int) (r1 : Int) (r2 : Int) (w : World) (hr0 : Kd.C (zs .u8) w A0 l0.length l0) (hc0 : l0.length ≤ c0) (h : spec_DrawParentOf.f l0 = some (r1, r2)) :
  Calls ku 30 #[.slice A0 l0.length c0] w fun e w' => e = .returned (.agg #[.int .i64 r1, .int .i64 r2]) ∧ Below w.heap.size w w' := by
 have hu26 := kf
 have HR0 := kz hr0
 have HC0 := kz hc0
 clear hr0 hc0
 have HB := kz (Below.refl w.heap.size w)
 have H : ((spec_DrawGoodPrefix.f l0).bind fun bt231 => (some (bt231.1, bt231.2))) = some (r1, r2) := h
 clear h
 replace H := kk.mp H
 obtain ⟨⟨t231, t232⟩, A20, H⟩ := H
 replace H : (some (t231, t232)) = some (r1, r2) := H
 have A2 := kz A20
 clear A20
 simp only [kh, Prod.mk.injEq] at H
 obtain ⟨rfl, rfl⟩ := H
 go_enter Try.func30, Try.ntmps30
 go_wp2_with (first | ((with_reducible refine zB (N := 2) rfl ?_); refine zE ?hg (N := 2) ?hd (cs := #[.int .i64 0, .int .i64 0]) (t := 26) ?hr ?_; (case hd => rfl); (case hg => rfl); (case hr => (go_simp; done)); intro gb230 hg w3 hbox hb; have qw := kz hbox; have GE230 := kz ((by rw [hg]; exact (zz HB.1) : w.heap.size ≤ gb230)); replace HB := kz (zt HB.1 hb); clear hb hbox hg) | ((with_reducible refine zx (f := 48) rfl ?_); refine zJ (some 4) rfl rfl Try.func48 (by kernel_rfl) rfl #[.slice A0 l0.length c0] rfl (by (try simp only [ky, kv, kg]); rfl) ?_; (with_reducible refine (spec_DrawGoodPrefix.calls _ _ l0 t231 t232 _ ?side1 ?side2 A2.1).mono ?_); (case side1 => repeat (exact (Kd.C_below HR0.1 HB.1))); (case side2 => exact HC0.1); rintro e w4 ⟨rfl, hb⟩; refine ⟨_, rfl, ?_⟩; replace qw := kz (zv (g := gb230) (o := .cells #[.int .i64 0, .int .i64 0] 26 (0, 0)) qw.1 hb); replace HB := kz (zt HB.1 hb); (try clear hb); (try clear hb2); (try clear hk); (try clear hi); have hcz5_0 : w4.cell? ⟨gb230, 0, none⟩ = some (.int .i64 0) := (zm qw.1 0).trans rfl; have hcz5_1 : w4.cell? ⟨gb230, 1, none⟩ = some (.int .i64 0) := (zm qw.1 1).trans rfl; have hfz5_0 := zi qw.1 0; have hfz5_1 := zi qw.1 1))
 refine bodyPost_ret (results_cell_row rfl _ _ gb230 26 #[.int .i64 t231, .int .i64 t232] (0, 0) _ rfl (by refine zC (cs := #[.int .i64 t231, .int .i64 0]) ?_ 1 _ rfl; refine zC (cs := #[.int .i64 0, .int .i64 0]) ?_ 0 _ rfl; exact qw.1) kf rfl (by kernel_rfl)) rfl ?_
 exact ⟨by rfl, by repeat ((with_reducible first | exact HB.1 | refine zb ?_ GE230.1))⟩
end Go.Proofs.Ytkollihfejkklaa.PFnHalves
