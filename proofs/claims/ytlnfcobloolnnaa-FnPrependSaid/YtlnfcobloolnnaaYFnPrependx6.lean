/- Go functions told by Lean functions, printed by a program. No condition but what each statement says. -/
import Derived.Test.YtlnfcobloolnnaaYFnPrependx3
import Derived.Test.YtlnfcobloolnnaaYFnPrependx5
namespace Go.Proofs.Ytlnfcobloolnnaa.PFnPrepend
open Go.RowKit Go.Proofs.YtlnfcobloolnnaaW.PrintWords Go.Proofs.YtlnfcobloolnnaaW.PrintLast Go.Proofs.YtlnfcobloolnnaaW.PrintMore
open Aside0 renaming mk → kz
open List renaming setIfInBounds_toArray → ky, set_cons_zero → kj, set_cons_succ → kk
open Nat renaming ne_of_lt → kv, ne_of_gt → kh
open Option.some renaming injEq → kg
open Try renaming underlying35 → kf
open Act renaming put → ke
open Bool renaming true → kb, false → kd
set_option maxHeartbeats 8000000
set_option maxRecDepth 100000
open Go.Proofs.YtlnfcobloolnnaaW.PrintLast renaming i64_w → zB, i32_w → zC
open Go.Proofs.YtlnfcobloolnnaaW.PrintWords renaming blk_drewN → za, blk_alloc → zb, pw_below_drewN → zc, blk_drew → zd, below_set → ze, below_drew1 → zf, below_alloc → zg, blk_frozen → zh, blk_cell → zi, below_size → zj, blk_below → zk, blk_lt → zm, Aside0 → zn, below_step → zo, keep_drewN → zr, keep_alloc → zs, cell_far → zt, blk_put → zu, keep_drew → zw, gate_guard → zx, blk_far → zy, box_event → zz, gate_dst → zA
open Go.Proofs.YtlnfcobloolnnaaW.PrintWords.KeepBut renaming set_ → zl
open Go.Proofs.YtlnfcobloolnnaaW.PrintWords.LeO renaming none → zp, bind → zq, ite → zv
attribute [local go_sem] max2_int min2_int max_two min_two max_three min_three max_four min_four
set_option linter.unusedVariables false
set_option linter.unusedSimpArgs false

/-! ### spec_TakePrefix: function 20 -/
def spec_TakePrefix.j0 : Nat → ByteArray → Int → Bool → Option (Int × Int × Int × Bool)
 | 0, _, _, _ => none
 | k + 1, x0, x1, x21 => if x21 = true then (some (0, 0, 0, false)) else ((spec_l4R_prefix.f k x0 x1 0).bind fun bt177 => (if bt177.2.2.2.2 = 0 then ((spec_GoodPrefix.f bt177.1 bt177.2.1).bind fun t183 => (if t183 = true then (some (bt177.1, bt177.2.1, bt177.2.2.2.1, true)) else (some (0, 0, 0, false)))) else (some (0, 0, 0, false))))
def spec_TakePrefix.f (k : Nat) (a0 : ByteArray) (a1 : Int) : Option (Int × Int × Int × Bool) := if (a0.size : Int) > 1000 then (spec_TakePrefix.j0 k a0 a1 true) else (if a1 < 0 then (spec_TakePrefix.j0 k a0 a1 true) else (spec_TakePrefix.j0 k a0 a1 (decide (a1 ≥ (a0.size : Int)))))
theorem spec_TakePrefix.mono_l : ∀ k, (∀ y0 y1 y2, LeO (spec_TakePrefix.j0 k y0 y1 y2) (spec_TakePrefix.j0 (k + 1) y0 y1 y2))
 | 0 => fun _ _ _ r h => by simp [spec_TakePrefix.j0] at h
 | k + 1 => by
  have ih0 := spec_TakePrefix.mono_l k
  ·
   intro y0 y1 y2; unfold spec_TakePrefix.j0; repeat' first
   | (with_reducible exact spec_l4R_prefix.mono _ _ _ _)
   | (with_reducible exact LeO.refl _)
   | (with_reducible refine zv ?_ ?_)
   | (with_reducible refine zq ?_ (fun _ => ?_))
theorem spec_TakePrefix.mono : ∀ a0 a1 k, LeO (spec_TakePrefix.f k a0 a1) (spec_TakePrefix.f (k + 1) a0 a1) := by
 intro a0 a1 k; have ih0 := spec_TakePrefix.mono_l k; unfold spec_TakePrefix.f
 repeat' first
   | (with_reducible exact ih0 _ _ _)
   | (with_reducible refine zv ?_ ?_)
def spec_TakePrefix.T7 : Bool × List (List Nat × List Nat) := (true, [([], []), ([], []), ([1], [1]), ([2], [2]), ([3], [3]), ([0, 0], [0]), ([4, 5, 0, 1, 2, 3, 4, 5], [4]), ([6, 0, 1, 2, 3, 4, 5, 6], [])])
def spec_TakePrefix.B7 : List Nat := [0, 0, 2, 6, 14, 1, 63, 127]
theorem spec_TakePrefix.tab7 : rtab .any (opsOf Try.f20 7) = spec_TakePrefix.T7 := by kernel_rfl
theorem spec_TakePrefix.bits7 : waitsOk spec_TakePrefix.T7.2 spec_TakePrefix.B7 = true := by kernel_rfl
theorem spec_TakePrefix.calls (k : Nat) (a0 : ByteArray) (a1 : Int) (r1 : Int) (r2 : Int) (r3 : Int) (r4 : Bool) (w : World) (h : spec_TakePrefix.f k a0 a1 = some (r1, r2, r3, r4)) :
  Calls Try.prog 20 #[.string a0, .int .i64 a1] w fun e w' => e = .returned (.tuple #[.agg #[.int .i64 r1, .int .i64 r2], .int .i64 r3, .bool r4]) ∧ Below w.heap.size w w' := by
 have hu35 := kf; have hu81 := Try.underlying81; have HB := kz (Below.refl w.heap.size w); have H : (if (a0.size : Int) > 1000 then (spec_TakePrefix.j0 k a0 a1 true) else (if a1 < 0 then (spec_TakePrefix.j0 k a0 a1 true) else (spec_TakePrefix.j0 k a0 a1 (decide (a1 ≥ (a0.size : Int)))))) = some (r1, r2, r3, r4) := h; clear h; have HC3 := kz H; clear H; go_enter Try.func20, Try.ntmps20; go_upto_region 1 with (((with_reducible refine zA (N := 4) rfl ?_); (try (refine zx (by rfl) ?_; dsimp only)); refine zz ?hg (N := 4) ?hd (cs := #[.int .i64 0, .int .i64 0]) (t := 35) ?hr ?_; (case hd => rfl); (case hg => rfl); (case hr => (go_simp; done)); intro gb175 hg w4 hbox hb; have zD := kz hbox; have zH := kz ((by rw [hg]; exact (zj HB.1) : w.heap.size ≤ gb175)); replace HB := kz (zo HB.1 hb); clear hb hbox hg))
 (try simp only [ke, ky, kj, kk]); go_cut [21] (fun v21 wc => ∃ (kq : Nat) (x21_2 : Bool), v21 = .bool x21_2 ∧ zn (spec_TakePrefix.j0 kq a0 a1 x21_2 = some (r1, r2, r3, r4)) ∧ zn (kq ≤ k) ∧ zn (wc.heap[gb175]? = some (.cells #[.int .i64 0, .int .i64 0] 35 (0, 0))) ∧ zn (Below w.heap.size w wc))
 case first =>
  have H := HC3.1; clear HC3; by_cases c5 : (a0.size : Int) > 1000; · rw [if_pos c5] at H; have c5b0 : decide (1000 < (a0.size : Int)) = true := decide_eq_true c5; have c5b1 : decide (1000 < a0.size) = true := decide_eq_true (by omega); clear c5; skip; have H' := kz H; clear H; go_wp2; go_meet; case rel => exact ⟨_, (true), (by rfl), H', ⟨by omega⟩, ⟨by exact zD.1⟩, ⟨by exact HB.1⟩⟩
  ·
   rw [if_neg c5] at H; have c5b0 : decide (1000 < (a0.size : Int)) = false := decide_eq_false c5; have c5b1 : decide (1000 < a0.size) = false := decide_eq_false (by omega); clear c5; skip; by_cases c6 : a1 < 0; · rw [if_pos c6] at H; have c6b0 : decide (a1 < 0) = true := decide_eq_true c6; clear c6; have H' := kz H; clear H; go_wp2; go_meet; case rel => exact ⟨_, (true), (by rfl), H', ⟨by omega⟩, ⟨by exact zD.1⟩, ⟨by exact HB.1⟩⟩
   · rw [if_neg c6] at H; have c6b0 : decide (a1 < 0) = false := decide_eq_false c6; clear c6; have H' := kz H; clear H; go_wp2; go_meet; case rel => exact ⟨_, (decide (a1 ≥ (a0.size : Int))), (by rfl), H', ⟨by omega⟩, ⟨by exact zD.1⟩, ⟨by exact HB.1⟩⟩
 case rest =>
  clear HC3; obtain ⟨kq, x21_2, rfl, HA, HJ2, zD, HB⟩ := hcut; cases kq with
  | zero => exact absurd HA.1 (by simp [spec_TakePrefix.j0])
  | succ kj2 =>
   have H := HA.1; clear HA; simp only [spec_TakePrefix.j0] at H; by_cases c7 : x21_2 = true
   ·
    subst c7; have H1 : (some (0, 0, 0, false)) = some (r1, r2, r3, r4) := by rw [if_pos rfl] at H; exact H
    clear H; have H := H1; clear H1; simp only [kg, Prod.mk.injEq] at H; obtain ⟨rfl, rfl, rfl, rfl⟩ := H; have hcz8_0 : wc.cell? ⟨gb175, 0, none⟩ = some (.int .i64 0) := (zi zD.1 0).trans rfl; have hcz8_1 : wc.cell? ⟨gb175, 1, none⟩ = some (.int .i64 0) := (zi zD.1 1).trans rfl; have hfz8_0 := zh zD.1 0; have hfz8_1 := zh zD.1 1; go_wp2; refine bodyPost_ret (results_ctt rfl _ _ gb175 35 #[.int .i64 0, .int .i64 0] (0, 0) _ rfl (by refine zu (cs := #[.int .i64 0, .int .i64 0]) ?_ 1 _ rfl; refine zu (cs := #[.int .i64 0, .int .i64 0]) ?_ 0 _ rfl; exact zD.1) kf rfl (by kernel_rfl)) rfl ?_; exact ⟨by rfl, by repeat ((with_reducible first | exact HB.1 | refine ze ?_ zH.1))⟩
   ·
    replace c7 := Bool.eq_false_iff.mpr c7; subst c7; have H1 : ((spec_l4R_prefix.f kj2 a0 a1 0).bind fun bt177 => (if bt177.2.2.2.2 = 0 then ((spec_GoodPrefix.f bt177.1 bt177.2.1).bind fun t183 => (if t183 = true then (some (bt177.1, bt177.2.1, bt177.2.2.2.1, true)) else (some (0, 0, 0, false)))) else (some (0, 0, 0, false)))) = some (r1, r2, r3, r4) := by rw [if_neg (show ¬ (false = true) by decide)] at H; exact H
    clear H; have H := H1; clear H1; replace H := Option.bind_eq_some_iff.mp H; obtain ⟨⟨t177, t178, t179, t180, t181⟩, A90, H⟩ := H; replace H : (if t181 = 0 then ((spec_GoodPrefix.f t177 t178).bind fun t183 => (if t183 = true then (some (t177, t178, t180, true)) else (some (0, 0, 0, false)))) else (some (0, 0, 0, false))) = some (r1, r2, r3, r4) := H; have A9 := kz A90; clear A90; by_cases c10 : t181 = 0
    ·
     rw [if_pos c10] at H; have c10b0 : (t181 == 0) = true := beq_iff_eq.mpr c10; have c10b1 : (t181 != 0) = false := bne_eq_false_iff_eq.mpr c10; clear c10; replace H := Option.bind_eq_some_iff.mp H; obtain ⟨t183, A110, H⟩ := H; replace H : (if t183 = true then (some (t177, t178, t180, true)) else (some (0, 0, 0, false))) = some (r1, r2, r3, r4) := H; have A11 := kz A110; clear A110; by_cases c12 : t183 = true
     ·
      subst c12; have H1 : (some (t177, t178, t180, true)) = some (r1, r2, r3, r4) := by rw [if_pos rfl] at H; exact H
      clear H; have H := H1; clear H1; simp only [kg, Prod.mk.injEq] at H; obtain ⟨rfl, rfl, rfl, rfl⟩ := H
      try go_wp2_with (first | ((with_reducible refine zA (N := 26) rfl ?_); (try (refine zx (by rfl) ?_; dsimp only)); refine zz ?hg (N := 26) ?hd (cs := #[.string a0, .int .i64 a1, .int .i64 0]) (t := 81) ?hr ?_; (case hd => rfl); (case hg => rfl); (case hr => (go_simp; done)); intro gb176 hg w13 hbox hb; have zE := kz hbox; have zW := kz ((by rw [hg]; exact (zj HB.1) : w.heap.size ≤ gb176)); replace HB := kz (zo HB.1 hb); have zK := kz ((by rw [hg]; exact kv (zm (g := gb175) (o := .cells #[.int .i64 0, .int .i64 0] 35 (0, 0)) zD.1) : gb175 ≠ gb176)); have zF := kz ((by rw [hg]; exact kh (zm (g := gb175) (o := .cells #[.int .i64 0, .int .i64 0] 35 (0, 0)) zD.1) : gb176 ≠ gb175)); replace zD := kz (zk (g := gb175) (o := .cells #[.int .i64 0, .int .i64 0] 35 (0, 0)) zD.1 hb); clear hb hbox hg) | ((with_reducible refine gate_callee (f := 60) rfl ?_); have zP := kz (show IsS81 w _ gb176 a0 a1 0 from by exact ⟨by exact zE.1, zW.1⟩); refine goesL_ (some 28) rfl rfl Try.func60 (by kernel_rfl) rfl #[.pointer (some ⟨gb176, 0, none⟩)] rfl (by (try simp only [List.map_toArray, List.map_cons, List.map_nil]); rfl) ?_; (with_reducible refine (spec_l4R_prefix.calls kj2 gb176 a0 a1 0 t177 t178 t179 t180 t181 w _ ?side1 ?side2 A9.1).mono ?_); (case side1 => repeat (with_reducible exact zP.1)); (case side2 => repeat (with_reducible exact HB.1)); rintro e w14 ⟨rfl, hi, hb, hk⟩; refine ⟨_, rfl, ?_⟩; replace zD := kz (KeepBut.blk hk (g' := gb175) (o := .cells #[.int .i64 0, .int .i64 0] 35 (0, 0)) zD.1 zK.1 (by simp)); replace HB := kz hb; replace zE := kz ((And.left hi)); (try clear hi)) | ((with_reducible refine zA (N := 8) rfl ?_); (try (refine zx (by rfl) ?_; dsimp only)); refine zz ?hg (N := 8) ?hd (cs := #[.int .i64 0, .int .i64 0]) (t := 35) ?hr ?_; (case hd => rfl); (case hg => rfl); (case hr => (go_simp; done)); intro gb182 hg w15 hbox hb; have zJ := kz hbox; have zU := kz ((by rw [hg]; exact (zj HB.1) : w.heap.size ≤ gb182)); replace HB := kz (zo HB.1 hb); have zG := kz ((by rw [hg]; exact kv (zm (g := gb175) (o := .cells #[.int .i64 0, .int .i64 0] 35 (0, 0)) zD.1) : gb175 ≠ gb182)); have zI := kz ((by rw [hg]; exact kh (zm (g := gb175) (o := .cells #[.int .i64 0, .int .i64 0] 35 (0, 0)) zD.1) : gb182 ≠ gb175)); replace zD := kz (zk (g := gb175) (o := .cells #[.int .i64 0, .int .i64 0] 35 (0, 0)) zD.1 hb); have zL := kz ((by rw [hg]; exact kv (zm (g := gb176) (o := .cells #[.string t179, .int .i64 t180, .int .i64 t181] 81 (0, 0)) zE.1) : gb176 ≠ gb182)); have zQ := kz ((by rw [hg]; exact kh (zm (g := gb176) (o := .cells #[.string t179, .int .i64 t180, .int .i64 t181] 81 (0, 0)) zE.1) : gb182 ≠ gb176)); replace zE := kz (zk (g := gb176) (o := .cells #[.string t179, .int .i64 t180, .int .i64 t181] 81 (0, 0)) zE.1 hb); clear hb hbox hg; have hnb16 := zI.1; have hnc16 := zG.1; have hnb17 := zQ.1; have hnc17 := zL.1; have hcz18_0 : w15.cell? ⟨gb182, 0, none⟩ = some (.int .i64 0) := (zi zJ.1 0).trans rfl; have hcz18_1 : w15.cell? ⟨gb182, 1, none⟩ = some (.int .i64 0) := (zi zJ.1 1).trans rfl; have hfz18_0 := zh zJ.1 0; have hfz18_1 := zh zJ.1 1; have hnb19 := zF.1; have hnc19 := zK.1; have hcz20_0 : w15.cell? ⟨gb176, 0, none⟩ = some (.string t179) := (zi zE.1 0).trans rfl; have hcz20_1 : w15.cell? ⟨gb176, 1, none⟩ = some (.int .i64 t180) := (zi zE.1 1).trans rfl; have hcz20_2 : w15.cell? ⟨gb176, 2, none⟩ = some (.int .i64 t181) := (zi zE.1 2).trans rfl; have hfz20_0 := zh zE.1 0; have hfz20_1 := zh zE.1 1; have hfz20_2 := zh zE.1 2) | (go_at_call 56; (with_reducible refine (spec_GoodPrefix.calls t177 t178 true _ A11.1).mono ?_); rintro e w21 ⟨rfl, hb⟩; replace zD := kz (zk (g := gb175) (o := .cells #[.int .i64 0, .int .i64 0] 35 (0, 0)) (by refine zy ?_ zG.1 _; refine zy ?_ zG.1 _; exact zD.1) hb); replace zE := kz (zk (g := gb176) (o := .cells #[.string t179, .int .i64 t180, .int .i64 t181] 81 (0, 0)) (by refine zy ?_ zL.1 _; refine zy ?_ zL.1 _; exact zE.1) hb); replace zJ := kz (zk (g := gb182) (o := .cells #[.int .i64 t177, .int .i64 t178] 35 (0, 0)) (by refine zu (cs := #[.int .i64 t177, .int .i64 0]) ?_ 1 _ rfl; refine zu (cs := #[.int .i64 0, .int .i64 0]) ?_ 0 _ rfl; exact zJ.1) hb); replace HB := kz (zo (by repeat ((with_reducible first | exact HB.1 | refine ze ?_ zU.1))) hb); (try clear hi)))
      replace zD := kz (zd zD.1); replace zE := kz (zd zE.1); replace zJ := kz (zd zJ.1); replace HB := kz (zf HB.1); refine start_ (n := 8) (S := fun w' => w'.cell? ⟨gb182, 0, none⟩ = some (.int .i64 t177) ∧ w'.cell? ⟨gb182, 1, none⟩ = some (.int .i64 t178) ∧ w'.cell? ⟨gb176, 0, none⟩ = some (.string t179) ∧ w'.cell? ⟨gb176, 1, none⟩ = some (.int .i64 t180) ∧ w'.cell? ⟨gb176, 2, none⟩ = some (.int .i64 t181)) (ds := []) #[kd,kd,kd,kd,kd,kd,kd,kd] (by kernel_rfl) rfl rfl ⟨(zi zJ.1 0).trans rfl, (zi zJ.1 1).trans rfl, (zi zE.1 0).trans rfl, (zi zE.1 1).trans rfl, (zi zE.1 2).trans rfl⟩ (fun hHeld => ?_); refine with_tabW spec_TakePrefix.tab7 spec_TakePrefix.bits7 (fun HT_ HW_ => ?_); generalize w21.drew = w22 at zD zE zJ HB hHeld ⊢; refine pure_ (i := 1) (N := some 41) (v := ?_) (a' := ?_) #[kd,kb,kd,kd,kd,kd,kd,kd] rfl rfl (any_of HT_.1 (by kernel_rfl)) (fun _ _ _ h => h) (Or.inl ⟨by rfl, ?_⟩) ?_ ?_; rotate_left; · intro w'; go_simp; with_reducible rfl
      rotate_left; · simp only [ke, ky, kj, kk, zB, zC]; rfl
      refine pure_ (i := 2) (N := some 42) (v := ?_) (a' := ?_) #[kd,kb,kb,kd,kd,kd,kd,kd] rfl rfl (any_of HT_.1 (by kernel_rfl)) (fun _ _ _ h => h) (Or.inl ⟨by rfl, ?_⟩) ?_ ?_; rotate_left; · intro w'; go_simp; with_reducible rfl
      rotate_left; · simp only [ke, ky, kj, kk, zB, zC]; rfl
      refine pure_ (i := 3) (N := some 43) (v := ?_) (a' := ?_) #[kd,kb,kb,kb,kd,kd,kd,kd] rfl rfl (any_of HT_.1 (by kernel_rfl)) (fun _ _ _ h => h) (Or.inl ⟨by rfl, ?_⟩) ?_ ?_; rotate_left; · intro w'; go_simp; with_reducible rfl
      rotate_left; · simp only [ke, ky, kj, kk, zB, zC]; rfl
      refine take_ (i := 0) (N := some 40) (v := ?_) (a' := ?_) #[kb,kb,kb,kb,kd,kd,kd,kd] rfl rfl (take_ofW HT_.1 HW_.1 (by kernel_rfl)) (fun _ _ _ h => h) (Or.inl ⟨by rfl, ?_⟩) hHeld ?_ ?_; rotate_left; · rintro w' ⟨s0, s1, s2, s3, s4⟩; go_simp; with_reducible rfl
      rotate_left; · simp only [ke, ky, kj, kk, zB, zC]; rfl
      refine take_ (i := 4) (N := some 44) (v := ?_) (a' := ?_) #[kb,kb,kb,kb,kb,kd,kd,kd] rfl rfl (take_ofW HT_.1 HW_.1 (by kernel_rfl)) (fun _ _ _ h => h) (Or.inl ⟨by rfl, ?_⟩) hHeld ?_ ?_; rotate_left; · rintro w' ⟨s0, s1, s2, s3, s4⟩; go_simp; with_reducible rfl
      rotate_left; · simp only [ke, ky, kj, kk, zB, zC]; rfl
      refine one_ (i := 5) (N := none) #[kb,kb,kb,kb,kb,kb,kd,kd] rfl rfl (one_of HT_.1 (by kernel_rfl)) (by decide) (fun K hK => ?_); have hs23 : w22.cell? ⟨gb175, 0, none⟩ = some (.int .i64 0) := (zi zD.1 0).trans rfl; have hfs23 := zh zD.1 0; have hns23_1 := zF.1; have hns23_2 := zI.1; have hms23_1 := zK.1; have hms23_2 := zG.1; have hs24 : w22.cell? ⟨gb175, 1, none⟩ = some (.int .i64 0) := (zi zD.1 1).trans rfl; have hfs24 := zh zD.1 1; have hns24_1 := zF.1; have hns24_2 := zI.1; have hms24_1 := zK.1; have hms24_2 := zG.1; refine skip_ (w1 := ?_) (by rfl) rfl ?_ ?_; rotate_left; · go_simp; rfl
      refine hK.out _ _ ⟨((zt (p := ⟨gb175, _, none⟩) zI.1 _).trans (((zt (p := ⟨gb175, _, none⟩) zI.1 _).trans (hHeld.1)))), ((zt (p := ⟨gb175, _, none⟩) zI.1 _).trans (((zt (p := ⟨gb175, _, none⟩) zI.1 _).trans (hHeld.2.1)))), ((zt (p := ⟨gb175, _, none⟩) zF.1 _).trans (((zt (p := ⟨gb175, _, none⟩) zF.1 _).trans (hHeld.2.2.1)))), ((zt (p := ⟨gb175, _, none⟩) zF.1 _).trans (((zt (p := ⟨gb175, _, none⟩) zF.1 _).trans (hHeld.2.2.2.1)))), ((zt (p := ⟨gb175, _, none⟩) zF.1 _).trans (((zt (p := ⟨gb175, _, none⟩) zF.1 _).trans (hHeld.2.2.2.2))))⟩ (fun hHeld => ?_); clear hK K; refine pure_ (i := 6) (N := some 5) (v := ?_) (a' := ?_) #[kb,kb,kb,kb,kb,kb,kb,kd] rfl rfl (any_of HT_.1 (by kernel_rfl)) (fun _ _ _ h => h) (Or.inl ⟨by rfl, ?_⟩) ?_ ?_; rotate_left; · intro w'; go_simp; with_reducible rfl
      rotate_left; · simp only [ke, ky, kj, kk, zB, zC]; rfl
      refine pure_ (i := 7) (N := some 6) (v := ?_) (a' := ?_) #[kb,kb,kb,kb,kb,kb,kb,kb] rfl rfl (any_of HT_.1 (by kernel_rfl)) (fun _ _ _ h => h) (Or.inl ⟨by rfl, ?_⟩) ?_ ?_; rotate_left; · intro w'; go_simp; with_reducible rfl
      rotate_left; · simp only [ke, ky, kj, kk, zB, zC]; rfl
      refine done_ (done_of HT_.1 (by kernel_rfl)) ?_; try go_wp2
      refine bodyPost_ret (results_ctt rfl _ _ gb175 35 #[.int .i64 t177, .int .i64 t178] (0, 0) _ rfl (by refine zu (cs := #[.int .i64 t177, .int .i64 0]) ?_ 1 _ rfl; refine zu (cs := #[.int .i64 0, .int .i64 0]) ?_ 0 _ rfl; exact zD.1) kf rfl (by kernel_rfl)) rfl ?_; exact ⟨by rfl, by repeat ((with_reducible first | exact HB.1 | refine ze ?_ zH.1))⟩
     ·
      replace c12 := Bool.eq_false_iff.mpr c12; subst c12; have H1 : (some (0, 0, 0, false)) = some (r1, r2, r3, r4) := by rw [if_neg (show ¬ (false = true) by decide)] at H; exact H
      clear H; have H := H1; clear H1; simp only [kg, Prod.mk.injEq] at H; obtain ⟨rfl, rfl, rfl, rfl⟩ := H
      go_wp2_with (first | ((with_reducible refine zA (N := 26) rfl ?_); (try (refine zx (by rfl) ?_; dsimp only)); refine zz ?hg (N := 26) ?hd (cs := #[.string a0, .int .i64 a1, .int .i64 0]) (t := 81) ?hr ?_; (case hd => rfl); (case hg => rfl); (case hr => (go_simp; done)); intro gb176 hg w25 hbox hb; have zE := kz hbox; have zW := kz ((by rw [hg]; exact (zj HB.1) : w.heap.size ≤ gb176)); replace HB := kz (zo HB.1 hb); have zK := kz ((by rw [hg]; exact kv (zm (g := gb175) (o := .cells #[.int .i64 0, .int .i64 0] 35 (0, 0)) zD.1) : gb175 ≠ gb176)); have zF := kz ((by rw [hg]; exact kh (zm (g := gb175) (o := .cells #[.int .i64 0, .int .i64 0] 35 (0, 0)) zD.1) : gb176 ≠ gb175)); replace zD := kz (zk (g := gb175) (o := .cells #[.int .i64 0, .int .i64 0] 35 (0, 0)) zD.1 hb); clear hb hbox hg) | ((with_reducible refine gate_callee (f := 60) rfl ?_); have zP := kz (show IsS81 w _ gb176 a0 a1 0 from by exact ⟨by exact zE.1, zW.1⟩); refine goesL_ (some 28) rfl rfl Try.func60 (by kernel_rfl) rfl #[.pointer (some ⟨gb176, 0, none⟩)] rfl (by (try simp only [List.map_toArray, List.map_cons, List.map_nil]); rfl) ?_; (with_reducible refine (spec_l4R_prefix.calls kj2 gb176 a0 a1 0 t177 t178 t179 t180 t181 w _ ?side1 ?side2 A9.1).mono ?_); (case side1 => repeat (with_reducible exact zP.1)); (case side2 => repeat (with_reducible exact HB.1)); rintro e w26 ⟨rfl, hi, hb, hk⟩; refine ⟨_, rfl, ?_⟩; replace zD := kz (KeepBut.blk hk (g' := gb175) (o := .cells #[.int .i64 0, .int .i64 0] 35 (0, 0)) zD.1 zK.1 (by simp)); replace HB := kz hb; replace zE := kz ((And.left hi)); (try clear hi)) | ((with_reducible refine zA (N := 8) rfl ?_); (try (refine zx (by rfl) ?_; dsimp only)); refine zz ?hg (N := 8) ?hd (cs := #[.int .i64 0, .int .i64 0]) (t := 35) ?hr ?_; (case hd => rfl); (case hg => rfl); (case hr => (go_simp; done)); intro gb182 hg w27 hbox hb; have zJ := kz hbox; have zU := kz ((by rw [hg]; exact (zj HB.1) : w.heap.size ≤ gb182)); replace HB := kz (zo HB.1 hb); have zG := kz ((by rw [hg]; exact kv (zm (g := gb175) (o := .cells #[.int .i64 0, .int .i64 0] 35 (0, 0)) zD.1) : gb175 ≠ gb182)); have zI := kz ((by rw [hg]; exact kh (zm (g := gb175) (o := .cells #[.int .i64 0, .int .i64 0] 35 (0, 0)) zD.1) : gb182 ≠ gb175)); replace zD := kz (zk (g := gb175) (o := .cells #[.int .i64 0, .int .i64 0] 35 (0, 0)) zD.1 hb); have zL := kz ((by rw [hg]; exact kv (zm (g := gb176) (o := .cells #[.string t179, .int .i64 t180, .int .i64 t181] 81 (0, 0)) zE.1) : gb176 ≠ gb182)); have zQ := kz ((by rw [hg]; exact kh (zm (g := gb176) (o := .cells #[.string t179, .int .i64 t180, .int .i64 t181] 81 (0, 0)) zE.1) : gb182 ≠ gb176)); replace zE := kz (zk (g := gb176) (o := .cells #[.string t179, .int .i64 t180, .int .i64 t181] 81 (0, 0)) zE.1 hb); clear hb hbox hg; have hnb28 := zI.1; have hnc28 := zG.1; have hnb29 := zQ.1; have hnc29 := zL.1; have hcz30_0 : w27.cell? ⟨gb182, 0, none⟩ = some (.int .i64 0) := (zi zJ.1 0).trans rfl; have hcz30_1 : w27.cell? ⟨gb182, 1, none⟩ = some (.int .i64 0) := (zi zJ.1 1).trans rfl; have hfz30_0 := zh zJ.1 0; have hfz30_1 := zh zJ.1 1; have hnb31 := zF.1; have hnc31 := zK.1; have hcz32_0 : w27.cell? ⟨gb176, 0, none⟩ = some (.string t179) := (zi zE.1 0).trans rfl; have hcz32_1 : w27.cell? ⟨gb176, 1, none⟩ = some (.int .i64 t180) := (zi zE.1 1).trans rfl; have hcz32_2 : w27.cell? ⟨gb176, 2, none⟩ = some (.int .i64 t181) := (zi zE.1 2).trans rfl; have hfz32_0 := zh zE.1 0; have hfz32_1 := zh zE.1 1; have hfz32_2 := zh zE.1 2) | (go_at_call 56; (with_reducible refine (spec_GoodPrefix.calls t177 t178 false _ A11.1).mono ?_); rintro e w33 ⟨rfl, hb⟩; replace zD := kz (zk (g := gb175) (o := .cells #[.int .i64 0, .int .i64 0] 35 (0, 0)) (by refine zy ?_ zG.1 _; refine zy ?_ zG.1 _; exact zD.1) hb); replace zE := kz (zk (g := gb176) (o := .cells #[.string t179, .int .i64 t180, .int .i64 t181] 81 (0, 0)) (by refine zy ?_ zL.1 _; refine zy ?_ zL.1 _; exact zE.1) hb); replace zJ := kz (zk (g := gb182) (o := .cells #[.int .i64 t177, .int .i64 t178] 35 (0, 0)) (by refine zu (cs := #[.int .i64 t177, .int .i64 0]) ?_ 1 _ rfl; refine zu (cs := #[.int .i64 0, .int .i64 0]) ?_ 0 _ rfl; exact zJ.1) hb); replace HB := kz (zo (by repeat ((with_reducible first | exact HB.1 | refine ze ?_ zU.1))) hb); have hcz34_0 : w33.cell? ⟨gb175, 0, none⟩ = some (.int .i64 0) := (zi zD.1 0).trans rfl; have hcz34_1 : w33.cell? ⟨gb175, 1, none⟩ = some (.int .i64 0) := (zi zD.1 1).trans rfl; have hfz34_0 := zh zD.1 0; have hfz34_1 := zh zD.1 1))
      refine bodyPost_ret (results_ctt rfl _ _ gb175 35 #[.int .i64 0, .int .i64 0] (0, 0) _ rfl (by refine zu (cs := #[.int .i64 0, .int .i64 0]) ?_ 1 _ rfl; refine zu (cs := #[.int .i64 0, .int .i64 0]) ?_ 0 _ rfl; exact zD.1) kf rfl (by kernel_rfl)) rfl ?_; exact ⟨by rfl, by repeat ((with_reducible first | exact HB.1 | refine ze ?_ zH.1))⟩
    ·
     rw [if_neg c10] at H; have c10b0 : (t181 == 0) = false := beq_eq_false_iff_ne.mpr c10; have c10b1 : (t181 != 0) = true := bne_iff_ne.mpr c10; simp only [kg, Prod.mk.injEq] at H; obtain ⟨rfl, rfl, rfl, rfl⟩ := H
     go_wp2_with (first | ((with_reducible refine zA (N := 26) rfl ?_); (try (refine zx (by rfl) ?_; dsimp only)); refine zz ?hg (N := 26) ?hd (cs := #[.string a0, .int .i64 a1, .int .i64 0]) (t := 81) ?hr ?_; (case hd => rfl); (case hg => rfl); (case hr => (go_simp; done)); intro gb176 hg w35 hbox hb; have zE := kz hbox; have zW := kz ((by rw [hg]; exact (zj HB.1) : w.heap.size ≤ gb176)); replace HB := kz (zo HB.1 hb); have zK := kz ((by rw [hg]; exact kv (zm (g := gb175) (o := .cells #[.int .i64 0, .int .i64 0] 35 (0, 0)) zD.1) : gb175 ≠ gb176)); have zF := kz ((by rw [hg]; exact kh (zm (g := gb175) (o := .cells #[.int .i64 0, .int .i64 0] 35 (0, 0)) zD.1) : gb176 ≠ gb175)); replace zD := kz (zk (g := gb175) (o := .cells #[.int .i64 0, .int .i64 0] 35 (0, 0)) zD.1 hb); clear hb hbox hg) | ((with_reducible refine gate_callee (f := 60) rfl ?_); have zP := kz (show IsS81 w _ gb176 a0 a1 0 from by exact ⟨by exact zE.1, zW.1⟩); refine goesL_ (some 28) rfl rfl Try.func60 (by kernel_rfl) rfl #[.pointer (some ⟨gb176, 0, none⟩)] rfl (by (try simp only [List.map_toArray, List.map_cons, List.map_nil]); rfl) ?_; (with_reducible refine (spec_l4R_prefix.calls kj2 gb176 a0 a1 0 t177 t178 t179 t180 t181 w _ ?side1 ?side2 A9.1).mono ?_); (case side1 => repeat (with_reducible exact zP.1)); (case side2 => repeat (with_reducible exact HB.1)); rintro e w36 ⟨rfl, hi, hb, hk⟩; refine ⟨_, rfl, ?_⟩; replace zD := kz (KeepBut.blk hk (g' := gb175) (o := .cells #[.int .i64 0, .int .i64 0] 35 (0, 0)) zD.1 zK.1 (by simp)); replace HB := kz hb; replace zE := kz ((And.left hi)); (try clear hi)) | ((with_reducible refine zA (N := 8) rfl ?_); (try (refine zx (by rfl) ?_; dsimp only)); refine zz ?hg (N := 8) ?hd (cs := #[.int .i64 0, .int .i64 0]) (t := 35) ?hr ?_; (case hd => rfl); (case hg => rfl); (case hr => (go_simp; done)); intro gb182 hg w37 hbox hb; have zJ := kz hbox; have zU := kz ((by rw [hg]; exact (zj HB.1) : w.heap.size ≤ gb182)); replace HB := kz (zo HB.1 hb); have zG := kz ((by rw [hg]; exact kv (zm (g := gb175) (o := .cells #[.int .i64 0, .int .i64 0] 35 (0, 0)) zD.1) : gb175 ≠ gb182)); have zI := kz ((by rw [hg]; exact kh (zm (g := gb175) (o := .cells #[.int .i64 0, .int .i64 0] 35 (0, 0)) zD.1) : gb182 ≠ gb175)); replace zD := kz (zk (g := gb175) (o := .cells #[.int .i64 0, .int .i64 0] 35 (0, 0)) zD.1 hb); have zL := kz ((by rw [hg]; exact kv (zm (g := gb176) (o := .cells #[.string t179, .int .i64 t180, .int .i64 t181] 81 (0, 0)) zE.1) : gb176 ≠ gb182)); have zQ := kz ((by rw [hg]; exact kh (zm (g := gb176) (o := .cells #[.string t179, .int .i64 t180, .int .i64 t181] 81 (0, 0)) zE.1) : gb182 ≠ gb176)); replace zE := kz (zk (g := gb176) (o := .cells #[.string t179, .int .i64 t180, .int .i64 t181] 81 (0, 0)) zE.1 hb); clear hb hbox hg; have hnb38 := zI.1; have hnc38 := zG.1; have hnb39 := zQ.1; have hnc39 := zL.1; have hcz40_0 : w37.cell? ⟨gb182, 0, none⟩ = some (.int .i64 0) := (zi zJ.1 0).trans rfl; have hcz40_1 : w37.cell? ⟨gb182, 1, none⟩ = some (.int .i64 0) := (zi zJ.1 1).trans rfl; have hfz40_0 := zh zJ.1 0; have hfz40_1 := zh zJ.1 1; have hnb41 := zF.1; have hnc41 := zK.1; have hcz42_0 : w37.cell? ⟨gb176, 0, none⟩ = some (.string t179) := (zi zE.1 0).trans rfl; have hcz42_1 : w37.cell? ⟨gb176, 1, none⟩ = some (.int .i64 t180) := (zi zE.1 1).trans rfl; have hcz42_2 : w37.cell? ⟨gb176, 2, none⟩ = some (.int .i64 t181) := (zi zE.1 2).trans rfl; have hfz42_0 := zh zE.1 0; have hfz42_1 := zh zE.1 1; have hfz42_2 := zh zE.1 2; have hcz43_0 : w37.cell? ⟨gb175, 0, none⟩ = some (.int .i64 0) := (zi zD.1 0).trans rfl; have hcz43_1 : w37.cell? ⟨gb175, 1, none⟩ = some (.int .i64 0) := (zi zD.1 1).trans rfl; have hfz43_0 := zh zD.1 0; have hfz43_1 := zh zD.1 1))
     refine bodyPost_ret (results_ctt rfl _ _ gb175 35 #[.int .i64 0, .int .i64 0] (0, 0) _ rfl (by refine zu (cs := #[.int .i64 0, .int .i64 0]) ?_ 1 _ rfl; refine zu (cs := #[.int .i64 0, .int .i64 0]) ?_ 0 _ rfl; refine zy ?_ zG.1 _; refine zy ?_ zG.1 _; exact zD.1) kf rfl (by kernel_rfl)) rfl ?_; exact ⟨by rfl, by repeat ((with_reducible first | exact HB.1 | refine ze ?_ zH.1 | refine ze ?_ zU.1))⟩

/-- A state of type 85 at block g of W; what its slices lead to came in by w0. -/
def IsS85 (w0 W : World) (g : Nat) (f0 : ByteArray) (f1 : Int) (f2 : Int) : Prop := W.heap[g]? = some (.cells #[.string f0, .int .i64 f1, .int .i64 f2] 85 (0, 0)) ∧ w0.heap.size ≤ g
theorem IsS85.grown {w0 W : World} {g : Nat} {f0 : ByteArray} {f1 : Int} {f2 : Int} {W1 : World} {row : Option Nat} (h : IsS85 w0 W g f0 f1 f2) (hw : W.grownBy W1 row) (hne : some g ≠ row) : IsS85 w0 W1 g f0 f1 f2 := by
 obtain ⟨hb, hg⟩ := h; exact ⟨blk_grown hb hw hne, hg⟩
theorem IsS85.own_neN {w0 W : World} {g : Nat} {f0 : ByteArray} {f1 : Int} {f2 : Int} {α : Type} {d : Kd α} {e : Nat} {base : Nat} {ok : Nat → Prop} {v : Value} {xs : List α} (h : IsS85 w0 W g f0 f1 f2) (ho : Kd.N d e W base ok v xs) (ht : e ≠ 85) : some g ≠ v.ownBlock := by
 obtain ⟨hb, hg⟩ := h; exact Kd.N_ne ho hb ht
theorem IsS85.fresh {w0 W : World} {g : Nat} {f0 : ByteArray} {f1 : Int} {f2 : Int} (h : IsS85 w0 W g f0 f1 f2) : ∀ k, W.heap.size ≤ k → k ≠ g := by
 obtain ⟨hb, hg⟩ := h; exact Kd.freshB hb
theorem IsS85.kept {w0 W : World} {g : Nat} {f0 : ByteArray} {f1 : Int} {f2 : Int} {W1 : World} {S : Nat → Prop} (h : IsS85 w0 W g f0 f1 f2) (hk : Kept W W1 S) (hne : ¬ S g) : IsS85 w0 W1 g f0 f1 f2 := by
 obtain ⟨hb, hg⟩ := h; exact ⟨blk_kept hb hk hne, hg⟩
theorem IsS85.below {w0 W : World} {g : Nat} {f0 : ByteArray} {f1 : Int} {f2 : Int} {W1 : World} (h : IsS85 w0 W g f0 f1 f2) (hw : Below W.heap.size W W1) : IsS85 w0 W1 g f0 f1 f2 := h.grown (grown_of_below hw none) (by simp)
theorem IsS85.alloc {w0 W : World} {g : Nat} {f0 : ByteArray} {f1 : Int} {f2 : Int} (h : IsS85 w0 W g f0 f1 f2) (o : Obj) : IsS85 w0 (W.alloc o) g f0 f1 f2 := h.below (zg (Below.refl _ _) o)
theorem IsS85.drewN {w0 W : World} {g : Nat} {f0 : ByteArray} {f1 : Int} {f2 : Int} (h : IsS85 w0 W g f0 f1 f2) (m : Nat) : IsS85 w0 (W.drewN m) g f0 f1 f2 := h
theorem IsS85.drew {w0 W : World} {g : Nat} {f0 : ByteArray} {f1 : Int} {f2 : Int} (h : IsS85 w0 W g f0 f1 f2) : IsS85 w0 W.drew g f0 f1 f2 := h
theorem IsS85.at_ {w0 W : World} {g : Nat} {f0 : ByteArray} {f1 : Int} {f2 : Int} {w' : World} {m : Nat} (hq : W.drewN m = w') (h : IsS85 w0 W g f0 f1 f2) : IsS85 w0 w' g f0 f1 f2 := by subst hq; exact IsS85.drewN h m
theorem IsS85.apart {w0 W : World} {g : Nat} {f0 : ByteArray} {f1 : Int} {f2 : Int} {α : Type} {d : Kd α} {e : Nat} {base : Nat} {ok : Nat → Prop} {v : Value} {xs : List α} (h : IsS85 w0 W g f0 f1 f2) (ho : d.R e W base ok v xs) (ht : ∀ q, q ∈ e :: d.E → q ≠ 85) : d.R e W base (fun k => ok k ∧ k ≠ g) v xs := by
 obtain ⟨hb, hg⟩ := h; exact Kd.R_types ho hb ht
theorem IsS85.own_ne {w0 W : World} {g : Nat} {f0 : ByteArray} {f1 : Int} {f2 : Int} {α : Type} {d : Kd α} {e : Nat} {base : Nat} {ok : Nat → Prop} {v : Value} {xs : List α} (h : IsS85 w0 W g f0 f1 f2) (ho : d.R e W base ok v xs) (ht : e ≠ 85) : some g ≠ v.ownBlock := by
 obtain ⟨hb, hg⟩ := h; exact Kd.R_ne ho hb ht
theorem IsS85.apartQ {w0 W : World} {g : Nat} {f0 : ByteArray} {f1 : Int} {f2 : Int} {α : Type} {d : Kd α} {e : Nat} {base : Nat} {ok : Nat → Prop} {v : Value} {xs : List α} (h : IsS85 w0 W g f0 f1 f2) (ho : d.Q e W base ok v xs) (ht : ∀ q, q ∈ e :: d.E → q ≠ 85) : d.Q e W base (fun k => ok k ∧ k ≠ g) v xs := by
 obtain ⟨hb, hg⟩ := h; exact Kd.Q_types ho hb ht
theorem IsS85.own_neQ {w0 W : World} {g : Nat} {f0 : ByteArray} {f1 : Int} {f2 : Int} {α : Type} {d : Kd α} {e : Nat} {base : Nat} {ok : Nat → Prop} {v : Value} {xs : List α} (h : IsS85 w0 W g f0 f1 f2) (ho : d.Q e W base ok v xs) (ht : e ≠ 85) : some g ≠ v.ownBlock := by
 obtain ⟨hb, hg⟩ := h; exact Kd.Q_ne ho hb ht
theorem IsS85.apartS {w0 W : World} {g : Nat} {f0 : ByteArray} {f1 : Int} {f2 : Int} {α : Type} {d : Kd α} {e : Nat} {base : Nat} {ok : Nat → Prop} {v : Value} {xs : List α} (h : IsS85 w0 W g f0 f1 f2) (ho : d.S e W base ok v xs) (ht : ∀ q, q ∈ e :: d.E → q ≠ 85) : d.S e W base (fun k => ok k ∧ k ≠ g) v xs := by
 obtain ⟨hb, hg⟩ := h; exact Kd.S_types ho hb ht
theorem IsS85.own_neS {w0 W : World} {g : Nat} {f0 : ByteArray} {f1 : Int} {f2 : Int} {α : Type} {d : Kd α} {e : Nat} {base : Nat} {ok : Nat → Prop} {v : Value} {xs : List α} (h : IsS85 w0 W g f0 f1 f2) (ho : d.S e W base ok v xs) (ht : e ≠ 85) : some g ≠ v.ownBlock := by
 obtain ⟨hb, hg⟩ := h; exact Kd.S_ne ho hb ht
theorem IsS85.lt {w0 W : World} {g : Nat} {f0 : ByteArray} {f1 : Int} {f2 : Int} (h : IsS85 w0 W g f0 f1 f2) : g < W.heap.size := by
 obtain ⟨hb, hg⟩ := h; exact zm hb
theorem IsS85.ge {w0 W : World} {g : Nat} {f0 : ByteArray} {f1 : Int} {f2 : Int} (h : IsS85 w0 W g f0 f1 f2) : w0.heap.size ≤ g := by
 obtain ⟨hb, hg⟩ := h; exact hg
theorem IsS85.ne_blk {w0 W : World} {g : Nat} {f0 : ByteArray} {f1 : Int} {f2 : Int} {a : Nat} {cs : Array Value} {t : TypeId} {fr : Nat × Nat} (h : IsS85 w0 W g f0 f1 f2) (hb2 : W.heap[a]? = some (.cells cs t fr)) (ht : t ≠ 85) : g ≠ a := by
 obtain ⟨hb, hg⟩ := h; rintro rfl; rw [hb] at hb2; injection hb2 with hb2
 injection hb2 with _ ht2
 exact ht ht2.symm
theorem IsS85.far {w0 W : World} {g : Nat} {f0 : ByteArray} {f1 : Int} {f2 : Int} {p : Addr} (h : IsS85 w0 W g f0 f1 f2) (hne : g ≠ p.block) (u : Value) : IsS85 w0 (W.setCell p u) g f0 f1 f2 := by
 obtain ⟨hb, hg⟩ := h; exact ⟨zy hb hne u, hg⟩
theorem cellS85_0 {W : World} {g : Nat} {f0 : ByteArray} {f1 : Int} {f2 : Int} (h : W.heap[g]? = some (.cells #[.string f0, .int .i64 f1, .int .i64 f2] 85 (0, 0))) : W.cell? ⟨g, 0, none⟩ = some (.string f0) := (zi h 0).trans rfl
theorem IsS85.set_0 {w0 W : World} {g : Nat} {f0 : ByteArray} {f1 : Int} {f2 : Int} (h : IsS85 w0 W g f0 f1 f2) (x : ByteArray) : IsS85 w0 (W.setCell ⟨g, 0, none⟩ (.string x)) g x f1 f2 := by
 obtain ⟨hb, hg⟩ := h; exact ⟨by simpa using blk_set hb 0 (.string x), hg⟩
theorem cellS85_1 {W : World} {g : Nat} {f0 : ByteArray} {f1 : Int} {f2 : Int} (h : W.heap[g]? = some (.cells #[.string f0, .int .i64 f1, .int .i64 f2] 85 (0, 0))) : W.cell? ⟨g, 1, none⟩ = some (.int .i64 f1) := (zi h 1).trans rfl
theorem IsS85.set_1 {w0 W : World} {g : Nat} {f0 : ByteArray} {f1 : Int} {f2 : Int} (h : IsS85 w0 W g f0 f1 f2) (x : Int) : IsS85 w0 (W.setCell ⟨g, 1, none⟩ (.int .i64 x)) g f0 x f2 := by
 obtain ⟨hb, hg⟩ := h; exact ⟨by simpa using blk_set hb 1 (.int .i64 x), hg⟩
theorem cellS85_2 {W : World} {g : Nat} {f0 : ByteArray} {f1 : Int} {f2 : Int} (h : W.heap[g]? = some (.cells #[.string f0, .int .i64 f1, .int .i64 f2] 85 (0, 0))) : W.cell? ⟨g, 2, none⟩ = some (.int .i64 f2) := (zi h 2).trans rfl
theorem IsS85.set_2 {w0 W : World} {g : Nat} {f0 : ByteArray} {f1 : Int} {f2 : Int} (h : IsS85 w0 W g f0 f1 f2) (x : Int) : IsS85 w0 (W.setCell ⟨g, 2, none⟩ (.int .i64 x)) g f0 f1 x := by
 obtain ⟨hb, hg⟩ := h; exact ⟨by simpa using blk_set hb 2 (.int .i64 x), hg⟩
theorem IsS85.new (w0 W : World) (f0 : ByteArray) (f1 : Int) (f2 : Int) (hB : Below w0.heap.size w0 W) : IsS85 w0 (W.alloc (.cells #[.string f0, .int .i64 f1, .int .i64 f2] 85)) W.heap.size f0 f1 f2 := ⟨by simpa using heap_alloc_new W _, hB.size⟩

/-! ### impl_input_number: function 85 -/
mutual
def impl_input_number.j0 : Nat → Int → Bool → ByteArray → Int → Int → Option (Int × ByteArray × Int × Int)
 | 0, _, _, _, _, _ => none
 | k + 1, x1, x24, zS, zR, zT => if x24 = true then (impl_input_number.j1 k x1 zS zR 1) else (impl_input_number.j1 k x1 zS zR zT)
def impl_input_number.j1 : Nat → Int → ByteArray → Int → Int → Option (Int × ByteArray × Int × Int)
 | 0, _, _, _, _ => none
 | k + 1, x1, zS, zR, zT => if zT = 0 then (impl_input_number.l0 k 0 x1 0 zS zR zT) else (some (0, zS, zR, zT))
def impl_input_number.l0 : Nat → Int → Int → Int → ByteArray → Int → Int → Option (Int × ByteArray × Int × Int)
 | 0, _, _, _, _, _, _ => none
 | k + 1, x5, x33, x34, zS, zR, zT => if x34 < x33 then (if 0 ≤ zR then (if zR < (zS.size : Int) then (impl_input_number.l0 k (Go.bits .or .i64 (wrap64 (x5 * 256)) (wrap64 (bt zS zR))) x33 (wrap64 (x34 + 1)) zS (wrap64 (zR + 1)) zT) else (none)) else (none)) else (some (x5, zS, zR, zT))
end
def impl_input_number.f (k : Nat) (s0_0 : ByteArray) (s0_1 : Int) (s0_2 : Int) (a1 : Int) : Option (Int × ByteArray × Int × Int) := if s0_2 = 0 then (impl_input_number.j0 k a1 (decide ((wrap64 (s0_1 + a1)) > (s0_0.size : Int))) s0_0 s0_1 s0_2) else (impl_input_number.j0 k a1 false s0_0 s0_1 s0_2)
theorem impl_input_number.mono_l : ∀ k, (∀ y0 y1 y2 y3 y4, LeO (impl_input_number.j0 k y0 y1 y2 y3 y4) (impl_input_number.j0 (k + 1) y0 y1 y2 y3 y4)) ∧ (∀ y0 y1 y2 y3, LeO (impl_input_number.j1 k y0 y1 y2 y3) (impl_input_number.j1 (k + 1) y0 y1 y2 y3)) ∧ (∀ y0 y1 y2 y3 y4 y5, LeO (impl_input_number.l0 k y0 y1 y2 y3 y4 y5) (impl_input_number.l0 (k + 1) y0 y1 y2 y3 y4 y5))
 | 0 => ⟨fun _ _ _ _ _ r h => by simp [impl_input_number.j0] at h, fun _ _ _ _ r h => by simp [impl_input_number.j1] at h, fun _ _ _ _ _ _ r h => by simp [impl_input_number.l0] at h⟩
 | k + 1 => by
  obtain ⟨ih0, ih1, ih2⟩ := impl_input_number.mono_l k; refine ⟨?_, ?_, ?_⟩
  ·
   intro y0 y1 y2 y3 y4; unfold impl_input_number.j0; repeat' first
   | (with_reducible exact ih1 _ _ _ _)
   | (with_reducible refine zv ?_ ?_)
  ·
   intro y0 y1 y2 y3; unfold impl_input_number.j1; repeat' first
   | (with_reducible exact ih2 _ _ _ _ _ _)
   | (with_reducible exact LeO.refl _)
   | (with_reducible refine zv ?_ ?_)
  ·
   intro y0 y1 y2 y3 y4 y5; unfold impl_input_number.l0; repeat' first
   | (with_reducible exact ih2 _ _ _ _ _ _)
   | (with_reducible exact LeO.refl _)
   | (with_reducible refine zv ?_ ?_)
theorem impl_input_number.mono : ∀ a0 a1 a2 a3 k, LeO (impl_input_number.f k a0 a1 a2 a3) (impl_input_number.f (k + 1) a0 a1 a2 a3) := by
 intro a0 a1 a2 a3 k; obtain ⟨ih0, ih1, ih2⟩ := impl_input_number.mono_l k; unfold impl_input_number.f
 repeat' first
   | (with_reducible exact ih0 _ _ _ _ _)
   | (with_reducible refine zv ?_ ?_)
theorem impl_input_number.calls (k : Nat) (g : Nat) (s0_0 : ByteArray) (s0_1 : Int) (s0_2 : Int) (a1 : Int) (r1 : Int) (r2 : ByteArray) (r3 : Int) (r4 : Int) (w0 w : World) (hI : IsS85 w0 w g s0_0 s0_1 s0_2) (hB : Below w0.heap.size w0 w) (h : impl_input_number.f k s0_0 s0_1 s0_2 a1 = some (r1, r2, r3, r4)) :
  Calls Try.prog 85 #[.pointer (some ⟨g, 0, none⟩), .int .i64 a1] w fun e w' => e = .returned (.int .i64 r1) ∧ IsS85 w0 w' g r2 r3 r4 ∧ Below w0.heap.size w0 w' ∧ KeepBut w w' g none := by
 have HI0 := kz hI; have HK := kz (KeepBut.refl w g none); have HL := kz hB.size; clear hI; have HW0 := kz hB.size; have HB := kz hB; clear hB; have H : (if s0_2 = 0 then (impl_input_number.j0 k a1 (decide ((wrap64 (s0_1 + a1)) > (s0_0.size : Int))) s0_0 s0_1 s0_2) else (impl_input_number.j0 k a1 false s0_0 s0_1 s0_2)) = some (r1, r2, r3, r4) := h; clear h; have HC3 := kz H; clear H; go_enter Try.func85, Try.ntmps85; go_upto_region 1 with (fail)
 repeat (go_quiet (fail); go_upto_region 1 with (fail))
 go_cut [24] (fun v24 wc => ∃ (kq : Nat) (x24_2 : Bool), v24 = .bool x24_2 ∧ zn (impl_input_number.j0 kq a1 x24_2 s0_0 s0_1 s0_2 = some (r1, r2, r3, r4)) ∧ zn (kq ≤ k) ∧ zn (IsS85 w0 wc g s0_0 s0_1 s0_2) ∧ zn (KeepBut w wc g none) ∧ zn (Below w0.heap.size w0 wc))
 case first =>
  have H := HC3.1; clear HC3; by_cases c4 : s0_2 = 0
  ·
   rw [if_pos c4] at H; have c4b0 : (s0_2 == 0) = true := beq_iff_eq.mpr c4; have c4b1 : (s0_2 != 0) = false := bne_eq_false_iff_eq.mpr c4; clear c4; skip; have H' := kz H; clear H; obtain ⟨HGz5, hgz5⟩ := HI0.1; have hcz5_0 := cellS85_0 HGz5; have hcz5_1 := cellS85_1 HGz5; have hcz5_2 := cellS85_2 HGz5; have hfz5_0 := zh HGz5 0; have hfz5_1 := zh HGz5 1; have hfz5_2 := zh HGz5 2; clear HGz5 hgz5; go_wp2; repeat (go_quiet (fail); try go_wp2)
   go_meet; case rel => exact ⟨_, (decide ((wrap64 (s0_1 + a1)) > (s0_0.size : Int))), (by rfl), H', ⟨by omega⟩, ⟨by repeat ((with_reducible first | exact HI0.1 | apply IsS85.drewN))⟩, ⟨by repeat ((with_reducible first | exact HK.1 | apply zr))⟩, ⟨by repeat ((with_reducible first | exact HB.1 | apply zc))⟩⟩
  ·
   rw [if_neg c4] at H; have c4b0 : (s0_2 == 0) = false := beq_eq_false_iff_ne.mpr c4; have c4b1 : (s0_2 != 0) = true := bne_iff_ne.mpr c4; skip; have H' := kz H; clear H; obtain ⟨HGz6, hgz6⟩ := HI0.1; have hcz6_0 := cellS85_0 HGz6; have hcz6_1 := cellS85_1 HGz6; have hcz6_2 := cellS85_2 HGz6; have hfz6_0 := zh HGz6 0; have hfz6_1 := zh HGz6 1; have hfz6_2 := zh HGz6 2; clear HGz6 hgz6; go_wp2; repeat (go_quiet (fail); try go_wp2)
   go_meet; case rel => exact ⟨_, (false), (by rfl), H', ⟨by omega⟩, ⟨by repeat ((with_reducible first | exact HI0.1 | apply IsS85.drewN))⟩, ⟨by repeat ((with_reducible first | exact HK.1 | apply zr))⟩, ⟨by repeat ((with_reducible first | exact HB.1 | apply zc))⟩⟩
 case rest =>
  clear HC3; obtain ⟨kq, x24_2, rfl, HA, HJ2, HI0, HK, HB⟩ := hcut; cases kq with
  | zero => exact absurd HA.1 (by simp [impl_input_number.j0])
  | succ kj2 =>
   have H := HA.1; clear HA; simp only [impl_input_number.j0] at H; have HC7 := kz H; clear H; go_upto_if 24 with (fail)
   repeat (go_quiet (fail); go_upto_if 24 with (fail))
   go_cut [] (fun wc => ∃ (kq : Nat) (zO : Int), zn (impl_input_number.j1 kq a1 s0_0 s0_1 zO = some (r1, r2, r3, r4)) ∧ zn (kq ≤ kj2) ∧ zn (IsS85 w0 wc g s0_0 s0_1 zO) ∧ zn (KeepBut w wc g none) ∧ zn (Below w0.heap.size w0 wc))
   case first =>
    have H := HC7.1; clear HC7; by_cases c8 : x24_2 = true
    ·
     subst c8; have H1 : (impl_input_number.j1 kj2 a1 s0_0 s0_1 1) = some (r1, r2, r3, r4) := by rw [if_pos rfl] at H; exact H
     clear H; have H := H1; clear H1; have H' := kz H; clear H; obtain ⟨HGz9, hgz9⟩ := HI0.1; have hcz9_0 := cellS85_0 HGz9; have hcz9_1 := cellS85_1 HGz9; have hcz9_2 := cellS85_2 HGz9; have hfz9_0 := zh HGz9 0; have hfz9_1 := zh HGz9 1; have hfz9_2 := zh HGz9 2; clear HGz9 hgz9; go_wp2; repeat (go_quiet (fail); try go_wp2)
     go_meet; case rel => exact ⟨_, (1), H', ⟨by have := HJ2.1; omega⟩, ⟨by repeat ((with_reducible first | exact HI0.1 | apply IsS85.set_2))⟩, ⟨by repeat ((with_reducible first | exact HK.1 | apply zl))⟩, ⟨by repeat ((with_reducible first | exact HB.1 | refine ze ?_ (IsS85.ge HI0.1)))⟩⟩
    ·
     replace c8 := Bool.eq_false_iff.mpr c8; subst c8; have H1 : (impl_input_number.j1 kj2 a1 s0_0 s0_1 s0_2) = some (r1, r2, r3, r4) := by rw [if_neg (show ¬ (false = true) by decide)] at H; exact H
     clear H; have H := H1; clear H1; have H' := kz H; clear H; go_wp2; repeat (go_quiet (fail); try go_wp2)
     go_meet; case rel => exact ⟨_, (s0_2), H', ⟨by have := HJ2.1; omega⟩, ⟨by exact HI0.1⟩, ⟨by exact HK.1⟩, ⟨by exact HB.1⟩⟩
   case rest =>
    clear HC7; obtain ⟨kq, zO, HA, HJ6, HI0, HK, HB⟩ := hcut; cases kq with
    | zero => exact absurd HA.1 (by simp [impl_input_number.j1])
    | succ kj6 =>
     have H := HA.1; clear HA; simp only [impl_input_number.j1] at H; by_cases c10 : zO = 0
     ·
      rw [if_pos c10] at H; have c10b0 : (zO == 0) = true := beq_iff_eq.mpr c10; have c10b1 : (zO != 0) = false := bne_eq_false_iff_eq.mpr c10; clear c10; have H' := kz H; clear H; obtain ⟨HGz11, hgz11⟩ := HI0.1; have hcz11_0 := cellS85_0 HGz11; have hcz11_1 := cellS85_1 HGz11; have hcz11_2 := cellS85_2 HGz11; have hfz11_0 := zh HGz11 0; have hfz11_1 := zh HGz11 1; have hfz11_2 := zh HGz11 2; clear HGz11 hgz11; go_wp2; repeat (go_quiet (fail); try go_wp2)
      go_loopg [5, 34] kj6 (fun kq v5 v34 w' => ∃ (x5_3 : Int) (zV : Int) (zM : Int), v5 = .int .i64 x5_3 ∧ v34 = .int .i64 zV ∧ zn (impl_input_number.l0 kq x5_3 a1 zV s0_0 zM zO = some (r1, r2, r3, r4)) ∧ zn (kq ≤ kj6) ∧ zn (IsS85 w0 w' g s0_0 zM zO) ∧ zn (KeepBut w w' g none) ∧ zn (Below w0.heap.size w0 w')); case atStart => exact ⟨(0), (0), (s0_1), (by rfl), (by rfl), H', ⟨Nat.le_refl _⟩, ⟨by exact HI0.1⟩, ⟨by exact HK.1⟩, ⟨by exact HB.1⟩⟩
      case round =>
       clear H'; obtain ⟨x5_3, zV, zM, rfl, rfl, HA, HK3, HI0, HK, HB⟩ := hrel; cases gk with
       | zero => exact absurd HA.1 (by simp [impl_input_number.l0])
       | succ k3 =>
        have H := HA.1; clear HA; simp only [impl_input_number.l0] at H; by_cases c12 : zV < a1
        ·
         rw [if_pos c12] at H; have c12b0 : decide (zV < a1) = true := decide_eq_true c12; clear c12; by_cases c13 : 0 ≤ zM
         ·
          rw [if_pos c13] at H; have c13b0 : decide (0 ≤ zM) = true := decide_eq_true c13; clear c13; by_cases c14 : zM < (s0_0.size : Int)
          ·
           rw [if_pos c14] at H; have c14b0 : decide (zM < (s0_0.size : Int)) = true := decide_eq_true c14; clear c14; have H' := kz H; clear H; obtain ⟨HGz16, hgz16⟩ := HI0.1; have hcz16_0 := cellS85_0 HGz16; have hcz16_1 := cellS85_1 HGz16; have hcz16_2 := cellS85_2 HGz16; have hfz16_0 := zh HGz16 0; have hfz16_1 := zh HGz16 1; have hfz16_2 := zh HGz16 2; clear HGz16 hgz16; have p15 : 0 ≤ (zM : Int) := of_decide_eq_true (by (with_reducible assumption)); have q15 : zM < (s0_0.size : Int) := of_decide_eq_true (by (with_reducible assumption)); have hx15 := bt_at s0_0 zM; replace p15 := eq_true p15; replace q15 := eq_true q15; go_wp2; repeat (go_quiet (fail); try go_wp2)
           go_roundg k3; case measure => have := HJ2.1; have := HJ6.1; have := HK3.1; omega
           case rel => exact ⟨(Go.bits .or .i64 (wrap64 (x5_3 * 256)) (wrap64 (bt s0_0 zM))), (wrap64 (zV + 1)), (wrap64 (zM + 1)), (by rfl), (by rfl), H', ⟨by have := HJ2.1; have := HJ6.1; have := HK3.1; omega⟩, ⟨by repeat ((with_reducible first | exact HI0.1 | apply IsS85.drewN | apply IsS85.set_1))⟩, ⟨by repeat ((with_reducible first | exact HK.1 | apply zl | apply zr))⟩, ⟨by repeat ((with_reducible first | exact HB.1 | apply zc | refine ze ?_ (IsS85.ge HI0.1)))⟩⟩
          · rw [if_neg c14] at H; exact absurd H (by simp)
         · rw [if_neg c13] at H; exact absurd H (by simp)
        ·
         rw [if_neg c12] at H; have c12b0 : decide (zV < a1) = false := decide_eq_false c12; clear c12; simp only [kg, Prod.mk.injEq] at H; obtain ⟨rfl, rfl, rfl, rfl⟩ := H; go_wp2; repeat (go_quiet (fail); try go_wp2)
         go_ret; exact ⟨by rfl, by exact HI0.1, by exact HB.1, by exact HK.1⟩
     ·
      rw [if_neg c10] at H; have c10b0 : (zO == 0) = false := beq_eq_false_iff_ne.mpr c10; have c10b1 : (zO != 0) = true := bne_iff_ne.mpr c10; simp only [kg, Prod.mk.injEq] at H; obtain ⟨rfl, rfl, rfl, rfl⟩ := H; obtain ⟨HGz17, hgz17⟩ := HI0.1; have hcz17_0 := cellS85_0 HGz17; have hcz17_1 := cellS85_1 HGz17; have hcz17_2 := cellS85_2 HGz17; have hfz17_0 := zh HGz17 0; have hfz17_1 := zh HGz17 1; have hfz17_2 := zh HGz17 2; clear HGz17 hgz17; go_wp2; repeat (go_quiet (fail); try go_wp2)
      go_ret; exact ⟨by rfl, by exact HI0.1, by exact HB.1, by exact HK.1⟩

end Go.Proofs.Ytlnfcobloolnnaa.PFnPrepend
