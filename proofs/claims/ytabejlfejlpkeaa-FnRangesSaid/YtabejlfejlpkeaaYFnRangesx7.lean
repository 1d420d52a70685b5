/- Go functions told by Lean functions, printed by a program. No condition but what each statement says. -/
import Derived.Test.YtabejlfejlpkeaaYFnRangesx6
namespace Go.Proofs.Ytabejlfejlpkeaa.PFnRanges
open Go.RowKit Go.Proofs.YtabejlfejlpkeaaW.PrintWords Go.Proofs.YtabejlfejlpkeaaW.PrintLast Go.Proofs.YtabejlfejlpkeaaW.PrintMore
open Aside0 renaming mk → kz
open List renaming setIfInBounds_toArray → ky, set_cons_zero → kj, set_cons_succ → kk, map_toArray → kh, map_cons → kf, map_nil → ke
open Option renaming bind_eq_some_iff → kv
open Act renaming put → kg
open Bool renaming eq_false_iff → kb, true → kx, false → km
open Option.some renaming injEq → kd
open Or renaming inl → kc, elim → ko
set_option maxHeartbeats 8000000
set_option maxRecDepth 100000
open Go.Proofs.YtabejlfejlpkeaaW.PrintLast renaming i64_w → zt, i32_w → zu, pure_ → zA
open Go.Proofs.YtabejlfejlpkeaaW.PrintWords renaming pw_below_drewN → zd, blk_drew → ze, below_drew1 → zf, below_set → zh, blk_cell → zi, blk_frozen → zp, Aside0 → zr, blk_far → zy
open Go.Proofs.YtabejlfejlpkeaaW.PrintWords.Kd renaming R_drew → zo, R_away → zq, R_mono → zs, freshB → zv
open Go.Proofs.YtabejlfejlpkeaaW.PrintWords.Kept renaming setCell → za, drew → zl
open Go.Proofs.YtabejlfejlpkeaaW.PrintWords.LeO renaming bind → zx, ite → zz
attribute [local go_sem] max2_int min2_int max_two min_two max_three min_three max_four min_four
set_option linter.unusedVariables false
set_option linter.unusedSimpArgs false
/-! ### spec_l3Range: function 59 -/
mutual
def spec_l3Range.j0 : Nat → Int → Int → List (S45) → Int → Bool → Int → Int → Option ((List (S45)))
 | 0, _, _, _, _, _, _, _ => none
 | k + 1, x1, x2, x3, x9, x26, zH, zI => if x26 = true then (some x3) else (if zH ≥ x1 then (spec_l3Range.j1 k x1 x2 x3 (decide (x9 ≤ x2)) zH zI) else (spec_l3Range.j1 k x1 x2 x3 false zH zI))
def spec_l3Range.j1 : Nat → Int → Int → List (S45) → Bool → Int → Int → Option ((List (S45)))
 | 0, _, _, _, _, _, _ => none
 | k + 1, x1, x2, x3, x36, zH, zI => if x36 = true then (if x3.length < 8796093022208 then (some (x3 ++ [(⟨zH, zI⟩ : S45)])) else (none)) else ((spec_l1Halves.f zH zI).bind fun bt160 => ((spec_l3Range.f k bt160.1 bt160.2.1 x1 x2 x3).bind fun t166 => ((spec_l3Range.f k bt160.2.2.1 bt160.2.2.2 x1 x2 t166).bind fun t169 => (some t169))))
def spec_l3Range.f : Nat → Int → Int → Int → Int → List (S45) → Option ((List (S45)))
 | 0, _, _, _, _, _ => none
 | k + 1, a0_0, a0_1, a1, a2, l3 => (spec_l1Size.f a0_0 a0_1).bind fun t156 => (if (wrap64 ((wrap64 (a0_0 + t156)) - 1)) < a1 then (spec_l3Range.j0 k a1 a2 l3 (wrap64 ((wrap64 (a0_0 + t156)) - 1)) true a0_0 a0_1) else (spec_l3Range.j0 k a1 a2 l3 (wrap64 ((wrap64 (a0_0 + t156)) - 1)) (decide (a0_0 > a2)) a0_0 a0_1))
end
theorem spec_l3Range.mono_l : ∀ k, (∀ y0 y1 y2 y3 y4, LeO (spec_l3Range.f k y0 y1 y2 y3 y4) (spec_l3Range.f (k + 1) y0 y1 y2 y3 y4)) ∧ (∀ y0 y1 y2 y3 y4 y5 y6, LeO (spec_l3Range.j0 k y0 y1 y2 y3 y4 y5 y6) (spec_l3Range.j0 (k + 1) y0 y1 y2 y3 y4 y5 y6)) ∧ (∀ y0 y1 y2 y3 y4 y5, LeO (spec_l3Range.j1 k y0 y1 y2 y3 y4 y5) (spec_l3Range.j1 (k + 1) y0 y1 y2 y3 y4 y5))
 | 0 => ⟨fun _ _ _ _ _ r h => by simp [spec_l3Range.f] at h, fun _ _ _ _ _ _ _ r h => by simp [spec_l3Range.j0] at h, fun _ _ _ _ _ _ r h => by simp [spec_l3Range.j1] at h⟩
 | k + 1 => by
  obtain ⟨ih0, ih1, ih2⟩ := spec_l3Range.mono_l k
  refine ⟨?_, ?_, ?_⟩
  ·
   intro y0 y1 y2 y3 y4
   unfold spec_l3Range.f
   repeat' first
   | (with_reducible exact ih1 _ _ _ _ _ _ _)
   | (with_reducible exact LeO.refl _)
   | (with_reducible refine zz ?_ ?_)
   | (with_reducible refine zx ?_ (fun _ => ?_))
  ·
   intro y0 y1 y2 y3 y4 y5 y6
   unfold spec_l3Range.j0
   repeat' first
   | (with_reducible exact ih2 _ _ _ _ _ _)
   | (with_reducible exact LeO.refl _)
   | (with_reducible refine zz ?_ ?_)
  ·
   intro y0 y1 y2 y3 y4 y5
   unfold spec_l3Range.j1
   repeat' first
   | (with_reducible exact ih0 _ _ _ _ _)
   | (with_reducible exact LeO.refl _)
   | (with_reducible refine zz ?_ ?_)
   | (with_reducible refine zx ?_ (fun _ => ?_))
theorem spec_l3Range.mono : ∀ a0 a1 a2 a3 a4 k, LeO (spec_l3Range.f k a0 a1 a2 a3 a4) (spec_l3Range.f (k + 1) a0 a1 a2 a3 a4) := by
 intro a0 a1 a2 a3 a4 k
 obtain ⟨ih0, ih1, ih2⟩ := spec_l3Range.mono_l k
 exact ih0 a0 a1 a2 a3 a4
def spec_l3Range.T7 : Bool × List (List Nat × List Nat) := (true, [([], []), ([], []), ([], []), ([], []), ([], []), ([], []), ([], []), ([3, 4, 5, 6], [3, 4, 5, 6]), ([0, 1, 2, 7, 7], [0, 1, 2, 7]), ([8, 8, 0, 1, 2, 3, 4, 5, 6, 7, 8], [8])])
def spec_l3Range.B7 : List Nat := [0, 0, 0, 0, 0, 0, 0, 120, 255, 511]
theorem spec_l3Range.tab7 : rtab .any (opsOf Try.f59 7) = spec_l3Range.T7 := by kernel_rfl
theorem spec_l3Range.bits7 : waitsOk spec_l3Range.T7.2 spec_l3Range.B7 = true := by kernel_rfl
theorem spec_l3Range.calls (k : Nat) : ∀ (a0_0 : Int) (a0_1 : Int) (a1 : Int) (a2 : Int) (P3_ : Nat → Prop) (u9000_ : Value) (l3 : List (S45)) (r : List (S45)) (w0 w : World) (hB : Below w0.heap.size w0 w) (ho3 : Kd.R k45 45 w w0.heap.size P3_ u9000_ l3) (h : spec_l3Range.f k a0_0 a0_1 a1 a2 l3 = some r),
  Calls Try.prog 59 #[.agg #[.int .i64 a0_0, .int .i64 a0_1], .int .i64 a1, .int .i64 a2, u9000_] w fun e w' => ∃ v0_ : Value, e = .returned (v0_) ∧ Kd.R k45 45 w' w0.heap.size (fun k_ => (P3_ k_ ∨ w.heap.size ≤ k_)) v0_ r ∧ Below w0.heap.size w0 w' ∧ Kept w w' (fun k_ => P3_ k_) := by
 induction k using Nat.strongRecOn with
 | _ k ih =>
 intro a0_0 a0_1 a1 a2 P3_ u9000_ l3 r w0 w hB ho3 h
 cases k with
 | zero => exact absurd h (by simp [spec_l3Range.f])
 | succ k =>
 simp only [spec_l3Range.f] at h
 have hu45 := Try.underlying45
 have HO3 := kz (show Kd.R k45 45 w w0.heap.size (fun k_ => (P3_ k_ ∨ w.heap.size ≤ k_)) u9000_ l3 from zs ho3 (fun k_ hk => (.inl hk)))
 have HK := kz (Kept.refl w (fun k_ => P3_ k_))
 have HW0 := kz hB.size
 have HB := kz hB
 clear hB
 have H : ((spec_l1Size.f a0_0 a0_1).bind fun t156 => (if (wrap64 ((wrap64 (a0_0 + t156)) - 1)) < a1 then (spec_l3Range.j0 k a1 a2 l3 (wrap64 ((wrap64 (a0_0 + t156)) - 1)) true a0_0 a0_1) else (spec_l3Range.j0 k a1 a2 l3 (wrap64 ((wrap64 (a0_0 + t156)) - 1)) (decide (a0_0 > a2)) a0_0 a0_1))) = some r := h
 clear h
 replace H := kv.mp H
 obtain ⟨t156, A50, H⟩ := H
 replace H : (if (wrap64 ((wrap64 (a0_0 + t156)) - 1)) < a1 then (spec_l3Range.j0 k a1 a2 l3 (wrap64 ((wrap64 (a0_0 + t156)) - 1)) true a0_0 a0_1) else (spec_l3Range.j0 k a1 a2 l3 (wrap64 ((wrap64 (a0_0 + t156)) - 1)) (decide (a0_0 > a2)) a0_0 a0_1)) = some r := H
 have A5 := kz A50
 clear A50
 have HC6 := kz H
 clear H
 go_enter Try.func59, Try.ntmps59
 try go_wp2_with (((with_reducible refine gate_dst (N := 4) rfl ?_); refine box_event rfl (N := 4) rfl (cs := #[.int .i64 a0_0, .int .i64 a0_1]) (t := 45) ?hr ?_; (case hr => go_simp; done); intro gb155 hg w7 hbox hb; replace HO3 := kz (Kd.R_below (Kd.R_elderB HO3.1 gb155 (Nat.le_of_eq hg.symm)) hb); replace HK := kz (Kept.below HK.1 hb); replace HB := kz (below_step HB.1 hb); have zB := kz hbox; clear hb hbox hg))
 replace HO3 := kz (zo HO3.1)
 replace zB := kz (ze zB.1)
 replace HK := kz (zl HK.1)
 replace HB := kz (zf HB.1)
 refine start_ (n := 7) (S := fun w' => w'.cell? ⟨gb155, 0, none⟩ = some (.int .i64 a0_0) ∧ w'.cell? ⟨gb155, 1, none⟩ = some (.int .i64 a0_1)) (ds := []) #[km,km,km,km,km,km,km] (by kernel_rfl) rfl rfl ⟨(zi zB.1 0).trans rfl, (zi zB.1 1).trans rfl⟩ (fun hHeld => ?_)
 generalize w7.drew = w8 at HO3 zB HK HB hHeld ⊢
 refine zA (i := 0) (N := some 12) (v := ?_) (a' := ?_) #[kx,km,km,km,km,km,km] rfl rfl (by kernel_rfl) (fun _ _ _ h => h) (kc ⟨by rfl, ?_⟩) ?_ ?_
 rotate_left
 ·
  intro w'
  go_simp
  with_reducible rfl
 rotate_left
 ·
  simp only [kg, ky, kj, kk, zt, zu]
  rfl
 refine take_ (i := 1) (N := some 13) (v := ?_) (a' := ?_) #[kx,kx,km,km,km,km,km] rfl rfl (by kernel_rfl) (fun _ _ _ h => h) (kc ⟨by rfl, ?_⟩) hHeld ?_ ?_
 rotate_left
 ·
  rintro w' ⟨s0, s1⟩
  go_simp
  with_reducible rfl
 rotate_left
 ·
  simp only [kg, ky, kj, kk, zt, zu]
  rfl
 refine take_ (i := 2) (N := some 14) (v := ?_) (a' := ?_) #[kx,kx,kx,km,km,km,km] rfl rfl (by kernel_rfl) (fun _ _ _ h => h) (kc ⟨by rfl, ?_⟩) hHeld ?_ ?_
 rotate_left
 ·
  rintro w' ⟨s0, s1⟩
  go_simp
  with_reducible rfl
 rotate_left
 ·
  simp only [kg, ky, kj, kk, zt, zu]
  rfl
 refine one_ (i := 3) (N := some 15) #[kx,kx,kx,kx,km,km,km] rfl rfl (by kernel_rfl) (by decide) (fun K hK => ?_)
 refine goes_ Try.func62 (by kernel_rfl) rfl #[.agg #[.int .i64 a0_0, .int .i64 a0_1]] (by rfl) rfl rfl (by (try simp only [kh, kf, ke]); rfl) ?_
 with_reducible refine (spec_l1Size.calls a0_0 a0_1 t156 _ A5.1).mono ?_
 rintro e w9 ⟨rfl, hb⟩
 refine ⟨_, rfl, ?_⟩
 replace HO3 := kz (Kd.R_below HO3.1 hb)
 replace zB := kz (blk_below zB.1 hb)
 replace HK := kz (Kept.below HK.1 hb)
 replace HB := kz (below_step HB.1 hb)
 refine hK.out _ _ ⟨(zi zB.1 0).trans rfl, (zi zB.1 1).trans rfl⟩ (fun hHeld => ?_)
 clear hK K
 refine norm_ (a' := ?_) ?_ ?_
 rotate_left
 ·
  show kg _ (some 15) _ = _
  simp only [kg, ky, kj, kk, zt, zu]
  rfl
 refine zA (i := 4) (N := some 16) (v := ?_) (a' := ?_) #[kx,kx,kx,kx,kx,km,km] rfl rfl (by kernel_rfl) (fun _ _ _ h => h) (kc ⟨by rfl, ?_⟩) ?_ ?_
 rotate_left
 ·
  intro w'
  go_simp
  with_reducible rfl
 rotate_left
 ·
  simp only [kg, ky, kj, kk, zt, zu]
  rfl
 refine zA (i := 5) (N := some 17) (v := ?_) (a' := ?_) #[kx,kx,kx,kx,kx,kx,km] rfl rfl (by kernel_rfl) (fun _ _ _ h => h) (kc ⟨by rfl, ?_⟩) ?_ ?_
 rotate_left
 ·
  intro w'
  go_simp
  with_reducible rfl
 rotate_left
 ·
  simp only [kg, ky, kj, kk, zt, zu]
  rfl
 refine zA (i := 6) (N := some 9) (v := ?_) (a' := ?_) #[kx,kx,kx,kx,kx,kx,kx] rfl rfl (by kernel_rfl) (fun _ _ _ h => h) (kc ⟨by rfl, ?_⟩) ?_ ?_
 rotate_left
 ·
  intro w'
  go_simp
  with_reducible rfl
 rotate_left
 ·
  simp only [kg, ky, kj, kk, zt, zu]
  rfl
 refine done_ (by kernel_rfl) ?_
 go_upto_region 2 with (fail)
 go_cut [26] (fun v26 wc => ∃ (kq : Nat) (x26_5 : Bool), v26 = .bool x26_5 ∧ zr (spec_l3Range.j0 kq a1 a2 l3 (wrap64 ((wrap64 (a0_0 + t156)) - 1)) x26_5 a0_0 a0_1 = some r) ∧ zr (kq ≤ k) ∧ zr (Kd.R k45 45 wc w0.heap.size (fun k_ => (P3_ k_ ∨ w.heap.size ≤ k_) ∧ k_ ≠ gb155) u9000_ l3) ∧ zr (wc.heap[gb155]? = some (.cells #[.int .i64 a0_0, .int .i64 a0_1] 45 (0, 0))) ∧ zr (Kept w wc (fun k_ => P3_ k_)) ∧ zr (Below w0.heap.size w0 wc))
 case first =>
  have H := HC6.1
  clear HC6
  by_cases c10 : (wrap64 ((wrap64 (a0_0 + t156)) - 1)) < a1
  ·
   rw [if_pos c10] at H
   have c10b0 : decide ((wrap64 ((wrap64 (a0_0 + t156)) - 1)) < a1) = true := decide_eq_true c10
   clear c10
   skip
   have H' := kz H
   clear H
   go_wp2
   go_meet
   case rel => exact ⟨_, (true), (by rfl), H', ⟨by omega⟩, ⟨by exact HO3.1⟩, ⟨by exact zB.1⟩, ⟨by exact HK.1⟩, ⟨by exact HB.1⟩⟩
  ·
   rw [if_neg c10] at H
   have c10b0 : decide ((wrap64 ((wrap64 (a0_0 + t156)) - 1)) < a1) = false := decide_eq_false c10
   clear c10
   skip
   have H' := kz H
   clear H
   have hcz11_0 : w9.cell? ⟨gb155, 0, none⟩ = some (.int .i64 a0_0) := (zi zB.1 0).trans rfl
   have hcz11_1 : w9.cell? ⟨gb155, 1, none⟩ = some (.int .i64 a0_1) := (zi zB.1 1).trans rfl
   have hfz11_0 := zp zB.1 0
   have hfz11_1 := zp zB.1 1
   go_wp2
   go_meet
   case rel => exact ⟨_, (decide (a0_0 > a2)), (by rfl), H', ⟨by omega⟩, ⟨by exact HO3.1⟩, ⟨by exact zB.1⟩, ⟨by exact HK.1⟩, ⟨by exact HB.1⟩⟩
 case rest =>
  clear HC6
  obtain ⟨kq, x26_5, rfl, HA, HJ5, HO_3, zB, HK, HB⟩ := hcut
  cases kq with
  | zero => exact absurd HA.1 (by simp [spec_l3Range.j0])
  | succ kj5 =>
   have H := HA.1
   clear HA
   simp only [spec_l3Range.j0] at H
   by_cases c12 : x26_5 = true
   ·
    subst c12
    have H1 : (some l3) = some r := by rw [if_pos rfl] at H; exact H
    clear H
    have H := H1
    clear H1
    obtain rfl := Option.some.inj H
    go_wp2
    go_ret
    exact ⟨_, by rfl, by exact zs HO_3.1 (fun _ hk => hk.1), by exact HB.1, by exact HK.1⟩
   ·
    replace c12 := kb.mpr c12
    subst c12
    have H1 : (if a0_0 ≥ a1 then (spec_l3Range.j1 kj5 a1 a2 l3 (decide ((wrap64 ((wrap64 (a0_0 + t156)) - 1)) ≤ a2)) a0_0 a0_1) else (spec_l3Range.j1 kj5 a1 a2 l3 false a0_0 a0_1)) = some r := by rw [if_neg (show ¬ (false = true) by decide)] at H; exact H
    clear H
    have H := H1
    clear H1
    have HC13 := kz H
    clear H
    go_upto_region 4 with (fail)
    go_cut [36] (fun v36 wc => ∃ (kq : Nat) (x36_12 : Bool), v36 = .bool x36_12 ∧ zr (spec_l3Range.j1 kq a1 a2 l3 x36_12 a0_0 a0_1 = some r) ∧ zr (kq ≤ kj5) ∧ zr (Kd.R k45 45 wc w0.heap.size (fun k_ => (P3_ k_ ∨ w.heap.size ≤ k_) ∧ k_ ≠ gb155) u9000_ l3) ∧ zr (wc.heap[gb155]? = some (.cells #[.int .i64 a0_0, .int .i64 a0_1] 45 (0, 0))) ∧ zr (Kept w wc (fun k_ => P3_ k_)) ∧ zr (Below w0.heap.size w0 wc))
    case first =>
     have H := HC13.1
     clear HC13
     by_cases c14 : a0_0 ≥ a1
     ·
      rw [if_pos c14] at H
      have c14b0 : decide (a1 ≤ a0_0) = true := decide_eq_true c14
      clear c14
      skip
      have H' := kz H
      clear H
      have hcz15_0 : wc.cell? ⟨gb155, 0, none⟩ = some (.int .i64 a0_0) := (zi zB.1 0).trans rfl
      have hcz15_1 : wc.cell? ⟨gb155, 1, none⟩ = some (.int .i64 a0_1) := (zi zB.1 1).trans rfl
      have hfz15_0 := zp zB.1 0
      have hfz15_1 := zp zB.1 1
      go_wp2
      go_meet
      case rel => exact ⟨_, (decide ((wrap64 ((wrap64 (a0_0 + t156)) - 1)) ≤ a2)), (by rfl), H', ⟨by have := HJ5.1; omega⟩, ⟨by exact HO_3.1⟩, ⟨by exact zB.1⟩, ⟨by exact HK.1⟩, ⟨by exact HB.1⟩⟩
     ·
      rw [if_neg c14] at H
      have c14b0 : decide (a1 ≤ a0_0) = false := decide_eq_false c14
      clear c14
      skip
      have H' := kz H
      clear H
      have hcz16_0 : wc.cell? ⟨gb155, 0, none⟩ = some (.int .i64 a0_0) := (zi zB.1 0).trans rfl
      have hcz16_1 : wc.cell? ⟨gb155, 1, none⟩ = some (.int .i64 a0_1) := (zi zB.1 1).trans rfl
      have hfz16_0 := zp zB.1 0
      have hfz16_1 := zp zB.1 1
      go_wp2
      go_meet
      case rel => exact ⟨_, (false), (by rfl), H', ⟨by have := HJ5.1; omega⟩, ⟨by exact HO_3.1⟩, ⟨by exact zB.1⟩, ⟨by exact HK.1⟩, ⟨by exact HB.1⟩⟩
    case rest =>
     clear HC13
     obtain ⟨kq, x36_12, rfl, HA, HJ12, HO_3, zB, HK, HB⟩ := hcut
     cases kq with
     | zero => exact absurd HA.1 (by simp [spec_l3Range.j1])
     | succ kj12 =>
      have H := HA.1
      clear HA
      simp only [spec_l3Range.j1] at H
      by_cases c17 : x36_12 = true
      ·
       subst c17
       have H1 : (if l3.length < 8796093022208 then (some (l3 ++ [(⟨a0_0, a0_1⟩ : S45)])) else (none)) = some r := by rw [if_pos rfl] at H; exact H
       clear H
       have H := H1
       clear H1
       by_cases c18 : l3.length < 8796093022208
       ·
        rw [if_pos c18] at H
        have LMc18 := kz c18
        clear c18
        obtain ⟨y157, hy157⟩ : ∃ y_ : List (S45), y_ = (l3 ++ [(⟨a0_0, a0_1⟩ : S45)]) := ⟨_, rfl⟩
        replace H : (some y157) = some r := by (rw [hy157]; with_reducible exact H)
        have Ny157 := kz hy157
        clear hy157
        obtain rfl := Option.some.inj H
        have hcz19_0 : wc.cell? ⟨gb155, 0, none⟩ = some (.int .i64 a0_0) := (zi zB.1 0).trans rfl
        have hcz19_1 : wc.cell? ⟨gb155, 1, none⟩ = some (.int .i64 a0_1) := (zi zB.1 1).trans rfl
        have hfz19_0 := zp zB.1 0
        have hfz19_1 := zp zB.1 1
        go_wp2_with (((with_reducible refine gate_builtin (b := .append) (xs := #[.tmp 37, .tmp 39]) rfl ?_); at_builtin; refine Kd.R_append k45 (w0 := w0) w0.heap.size rfl (.tmp 37) (.tmp 39) 25 45 (.agg #[(.int .i64 0), (.int .i64 0)]) 16 rfl Try.underlying25 info45 rfl (by decide) (by omega) u9000_ l3 (⟨a0_0, a0_1⟩ : S45) [.int .i64 a0_0, .int .i64 a0_1] (fun k_ => (P3_ k_ ∨ w.heap.size ≤ k_) ∧ k_ ≠ gb155) (fun _ => False) rfl rfl ?aP (fun _ hk => hk.elim) ?aF ?aO ?aB ?aS ?aL ?_; (case aP => exact k45_mkM _ _ _ (⟨a0_0, a0_1⟩ : S45)); (case aB => exact HB.1); (case aF => exact (fun k_ hk => ⟨(.inr (Nat.le_trans (by exact HK.1.1) hk)), zv zB.1 k_ hk⟩)); (case aO => exact HO_3.1); (case aS => exact (below_size HB.1)); (case aL => have := LMc18.1; omega); intro v158 w20 ho hb hg hat; rw [← Ny157.1] at ho; replace zB := kz (blk_grown zB.1 hg (zq HO_3.1 (fun _ hk => hk.2))); replace HB := kz hb; replace HK := kz (Kept.of_grown (S := (fun k_ => P3_ k_)) hg HK.1 (fun k_ e_ => (HO_3.1.1 k_ e_).1)); have HO159 := kz ho; clear ho hb hg hat))
        go_ret
        exact ⟨_, by rfl, by exact zs HO159.1 (fun _ hk => hk.1), by exact HB.1, by exact HK.1⟩
       ·
        rw [if_neg c18] at H
        exact absurd H (by simp)
      ·
       replace c17 := kb.mpr c17
       subst c17
       have H1 : ((spec_l1Halves.f a0_0 a0_1).bind fun bt160 => ((spec_l3Range.f kj12 bt160.1 bt160.2.1 a1 a2 l3).bind fun t166 => ((spec_l3Range.f kj12 bt160.2.2.1 bt160.2.2.2 a1 a2 t166).bind fun t169 => (some t169)))) = some r := by rw [if_neg (show ¬ (false = true) by decide)] at H; exact H
       clear H
       have H := H1
       clear H1
       replace H := kv.mp H
       obtain ⟨⟨t160, t161, t162, t163⟩, A210, H⟩ := H
       replace H : ((spec_l3Range.f kj12 t160 t161 a1 a2 l3).bind fun t166 => ((spec_l3Range.f kj12 t162 t163 a1 a2 t166).bind fun t169 => (some t169))) = some r := H
       have A21 := kz A210
       clear A210
       replace H := kv.mp H
       obtain ⟨t166, A220, H⟩ := H
       replace H : ((spec_l3Range.f kj12 t162 t163 a1 a2 t166).bind fun t169 => (some t169)) = some r := H
       have A22 := kz A220
       clear A220
       replace H := kv.mp H
       obtain ⟨t169, A230, H⟩ := H
       replace H : (some t169) = some r := H
       have A23 := kz A230
       clear A230
       obtain rfl := Option.some.inj H
       have hcz24_0 : wc.cell? ⟨gb155, 0, none⟩ = some (.int .i64 a0_0) := (zi zB.1 0).trans rfl
       have hcz24_1 : wc.cell? ⟨gb155, 1, none⟩ = some (.int .i64 a0_1) := (zi zB.1 1).trans rfl
       have hfz24_0 := zp zB.1 0
       have hfz24_1 := zp zB.1 1
       try go_wp2_with (first | ((with_reducible refine gate_callee (f := 78) rfl ?_); refine goesL_ (some 43) rfl rfl Try.func78 (by kernel_rfl) rfl #[.agg #[.int .i64 a0_0, .int .i64 a0_1]] rfl (by (try simp only [kh, kf, ke]); rfl) ?_; (with_reducible refine (spec_l1Halves.calls a0_0 a0_1 t160 t161 t162 t163 _ A21.1).mono ?_); rintro e w25 ⟨rfl, hb⟩; refine ⟨_, rfl, ?_⟩; replace HO_3 := kz (Kd.R_below HO_3.1 hb); replace zB := kz (blk_below zB.1 hb); replace HK := kz (Kept.below HK.1 hb); replace HB := kz (below_step HB.1 hb)) | ((with_reducible refine gate_dst (N := 10) rfl ?_); refine box_event rfl (N := 10) rfl (cs := #[.int .i64 0, .int .i64 0]) (t := 45) ?hr ?_; (case hr => go_simp; done); intro gb164 hg w26 hbox hb; replace HO_3 := kz (Kd.R_below (Kd.R_elderB HO_3.1 gb164 (Nat.le_of_eq hg.symm)) hb); have zC := kz hbox; have zJ := kz (by rw [hg]; exact (by exact HK.1.1) : w.heap.size ≤ gb164); replace HK := kz (Kept.below HK.1 hb); have zK := kz (by rw [hg]; exact (below_size HB.1) : w0.heap.size ≤ gb164); replace HB := kz (below_step HB.1 hb); have NB155_164 := kz (by rw [hg]; exact Nat.ne_of_lt (blk_lt zB.1) : gb155 ≠ gb164); have NB164_155 := kz (by rw [hg]; exact Nat.ne_of_gt (blk_lt zB.1) : gb164 ≠ gb155); replace zB := kz (blk_below zB.1 hb); clear hb hbox hg) | ((with_reducible refine gate_dst (N := 11) rfl ?_); refine box_event rfl (N := 11) rfl (cs := #[.int .i64 0, .int .i64 0]) (t := 45) ?hr ?_; (case hr => go_simp; done); intro gb165 hg w27 hbox hb; replace HO_3 := kz (Kd.R_below (Kd.R_elderB HO_3.1 gb165 (Nat.le_of_eq hg.symm)) hb); have zD := kz hbox; have zL := kz (by rw [hg]; exact (by exact HK.1.1) : w.heap.size ≤ gb165); replace HK := kz (Kept.below HK.1 hb); have GE165 := kz (by rw [hg]; exact (below_size HB.1) : w0.heap.size ≤ gb165); replace HB := kz (below_step HB.1 hb); have NB155_165 := kz (by rw [hg]; exact Nat.ne_of_lt (blk_lt zB.1) : gb155 ≠ gb165); have NB165_155 := kz (by rw [hg]; exact Nat.ne_of_gt (blk_lt zB.1) : gb165 ≠ gb155); replace zB := kz (blk_below zB.1 hb); have NB164_165 := kz (by rw [hg]; exact Nat.ne_of_lt (blk_lt zC.1) : gb164 ≠ gb165); have NB165_164 := kz (by rw [hg]; exact Nat.ne_of_gt (blk_lt zC.1) : gb165 ≠ gb164); replace zC := kz (blk_below zC.1 hb); clear hb hbox hg; have hnb28 := NB164_155.1; have hnc28 := NB155_164.1; have hnb29 := NB164_165.1; have hnc29 := NB165_164.1; have hcz30_0 : w27.cell? ⟨gb164, 0, none⟩ = some (.int .i64 0) := (zi zC.1 0).trans rfl; have hcz30_1 : w27.cell? ⟨gb164, 1, none⟩ = some (.int .i64 0) := (zi zC.1 1).trans rfl; have hfz30_0 := zp zC.1 0; have hfz30_1 := zp zC.1 1; have hnb31 := NB165_155.1; have hnc31 := NB155_165.1; have hcz32_0 : w27.cell? ⟨gb165, 0, none⟩ = some (.int .i64 0) := (zi zD.1 0).trans rfl; have hcz32_1 : w27.cell? ⟨gb165, 1, none⟩ = some (.int .i64 0) := (zi zD.1 1).trans rfl; have hfz32_0 := zp zD.1 0; have hfz32_1 := zp zD.1 1))
       have n0_ : zr (Kd.R k45 45 ((((w27.setCell ⟨gb164, 0, none⟩ (.int .i64 t160)).setCell ⟨gb164, 1, none⟩ (.int .i64 t161)).setCell ⟨gb165, 0, none⟩ (.int .i64 t162)).setCell ⟨gb165, 1, none⟩ (.int .i64 t163)) w0.heap.size (fun k_ => (P3_ k_ ∨ w.heap.size ≤ k_) ∧ k_ ≠ gb155 ∧ k_ ≠ gb164 ∧ k_ ≠ gb165) u9000_ l3) := ⟨by exact zs (Kd.R_far (p := ⟨gb165, 1, none⟩) (Kd.R_far (p := ⟨gb165, 0, none⟩) (Kd.R_far (p := ⟨gb164, 1, none⟩) (Kd.R_far (p := ⟨gb164, 0, none⟩) (zs (zs HO_3.1 (fun k_ hk => (⟨hk, hk.1.2⟩ : _ ∧ k_ ≠ gb164))) (fun k_ hk => (⟨hk, hk.1.2⟩ : _ ∧ k_ ≠ gb165))) (fun _ hk => hk.1.2) (.int .i64 t160)) (fun _ hk => hk.1.2) (.int .i64 t161)) (fun _ hk => hk.2) _) (fun _ hk => hk.2) _) (fun _ hk => ⟨hk.1.1.1.1.1, ⟨hk.1.1.1.1.2, ⟨hk.1.1.1.2, hk.1.1.2⟩⟩⟩)⟩
       have n1_ : zr (((((w27.setCell ⟨gb164, 0, none⟩ (.int .i64 t160)).setCell ⟨gb164, 1, none⟩ (.int .i64 t161)).setCell ⟨gb165, 0, none⟩ (.int .i64 t162)).setCell ⟨gb165, 1, none⟩ (.int .i64 t163)).heap[gb155]? = some (.cells #[.int .i64 a0_0, .int .i64 a0_1] 45 (0, 0))) := ⟨by refine zy ?_ NB155_165.1 _; refine zy ?_ NB155_165.1 _; refine zy ?_ NB155_164.1 _; refine zy ?_ NB155_164.1 _; exact zB.1⟩
       have n2_ : zr (((((w27.setCell ⟨gb164, 0, none⟩ (.int .i64 t160)).setCell ⟨gb164, 1, none⟩ (.int .i64 t161)).setCell ⟨gb165, 0, none⟩ (.int .i64 t162)).setCell ⟨gb165, 1, none⟩ (.int .i64 t163)).heap[gb164]? = some (.cells #[.int .i64 t160, .int .i64 t161] 45 (0, 0))) := ⟨by refine zy ?_ NB164_165.1 _; refine zy ?_ NB164_165.1 _; refine blk_put (cs := #[.int .i64 t160, .int .i64 0]) ?_ 1 _ rfl; refine blk_put (cs := #[.int .i64 0, .int .i64 0]) ?_ 0 _ rfl; exact zC.1⟩
       have n3_ : zr (((((w27.setCell ⟨gb164, 0, none⟩ (.int .i64 t160)).setCell ⟨gb164, 1, none⟩ (.int .i64 t161)).setCell ⟨gb165, 0, none⟩ (.int .i64 t162)).setCell ⟨gb165, 1, none⟩ (.int .i64 t163)).heap[gb165]? = some (.cells #[.int .i64 t162, .int .i64 t163] 45 (0, 0))) := ⟨by refine blk_put (cs := #[.int .i64 t162, .int .i64 0]) ?_ 1 _ rfl; refine blk_put (cs := #[.int .i64 0, .int .i64 0]) ?_ 0 _ rfl; refine zy ?_ NB165_164.1 _; refine zy ?_ NB165_164.1 _; exact zD.1⟩
       have n4_ : zr (Kept w ((((w27.setCell ⟨gb164, 0, none⟩ (.int .i64 t160)).setCell ⟨gb164, 1, none⟩ (.int .i64 t161)).setCell ⟨gb165, 0, none⟩ (.int .i64 t162)).setCell ⟨gb165, 1, none⟩ (.int .i64 t163)) (fun k_ => P3_ k_)) := ⟨by repeat ((with_reducible first | exact HK.1 | refine za ?_ (.inr zJ.1) _ | refine za ?_ (.inr zL.1) _))⟩
       have n5_ : zr (Below w0.heap.size w0 ((((w27.setCell ⟨gb164, 0, none⟩ (.int .i64 t160)).setCell ⟨gb164, 1, none⟩ (.int .i64 t161)).setCell ⟨gb165, 0, none⟩ (.int .i64 t162)).setCell ⟨gb165, 1, none⟩ (.int .i64 t163))) := ⟨by repeat ((with_reducible first | exact HB.1 | refine zh ?_ zK.1 | refine zh ?_ GE165.1))⟩
       generalize ((((w27.setCell ⟨gb164, 0, none⟩ (.int .i64 t160)).setCell ⟨gb164, 1, none⟩ (.int .i64 t161)).setCell ⟨gb165, 0, none⟩ (.int .i64 t162)).setCell ⟨gb165, 1, none⟩ (.int .i64 t163)) = w33 at n0_ n1_ n2_ n3_ n4_ n5_ ⊢
       have HO_3 := n0_
       have zB := n1_
       have zC := n2_
       have zD := n3_
       have HK := n4_
       have HB := n5_
       clear n0_ n1_ n2_ n3_ n4_ n5_
       replace HO_3 := kz (zo HO_3.1)
       replace zB := kz (ze zB.1)
       replace zC := kz (ze zC.1)
       replace zD := kz (ze zD.1)
       replace HK := kz (zl HK.1)
       replace HB := kz (zf HB.1)
       obtain ⟨Ao35, co35, eo35⟩ := Kd.R_slice HO_3.1
       (subst eo35)
       refine start_ (n := 10) (S := fun w' => w'.cell? ⟨gb165, 0, none⟩ = some (.int .i64 t162) ∧ w'.cell? ⟨gb165, 1, none⟩ = some (.int .i64 t163) ∧ w'.cell? ⟨gb164, 0, none⟩ = some (.int .i64 t160) ∧ w'.cell? ⟨gb164, 1, none⟩ = some (.int .i64 t161)) (ds := []) #[km,km,km,km,km,km,km,km,km,km] (by kernel_rfl) rfl rfl ⟨(zi zD.1 0).trans rfl, (zi zD.1 1).trans rfl, (zi zC.1 0).trans rfl, (zi zC.1 1).trans rfl⟩ (fun hHeld => ?_); refine with_tabW spec_l3Range.tab7 spec_l3Range.bits7 (fun HT_ HW_ => ?_)
       generalize w33.drew = w34 at HO_3 zB zC zD HK HB hHeld ⊢
       refine zA (i := 1) (N := some 47) (v := ?_) (a' := ?_) #[km,kx,km,km,km,km,km,km,km,km] rfl rfl (any_of HT_.1 (by kernel_rfl)) (fun _ _ _ h => h) (kc ⟨by rfl, ?_⟩) ?_ ?_
       rotate_left
       ·
        intro w'
        go_simp
        with_reducible rfl
       rotate_left
       ·
        simp only [kg, ky, kj, kk, zt, zu]
        rfl
       refine zA (i := 2) (N := some 48) (v := ?_) (a' := ?_) #[km,kx,kx,km,km,km,km,km,km,km] rfl rfl (any_of HT_.1 (by kernel_rfl)) (fun _ _ _ h => h) (kc ⟨by rfl, ?_⟩) ?_ ?_
       rotate_left
       ·
        intro w'
        go_simp
        with_reducible rfl
       rotate_left
       ·
        simp only [kg, ky, kj, kk, zt, zu]
        rfl
       refine zA (i := 4) (N := some 50) (v := ?_) (a' := ?_) #[km,kx,kx,km,kx,km,km,km,km,km] rfl rfl (any_of HT_.1 (by kernel_rfl)) (fun _ _ _ h => h) (kc ⟨by rfl, ?_⟩) ?_ ?_
       rotate_left
       ·
        intro w'
        go_simp
        with_reducible rfl
       rotate_left
       ·
        simp only [kg, ky, kj, kk, zt, zu]
        rfl
       refine zA (i := 5) (N := some 51) (v := ?_) (a' := ?_) #[km,kx,kx,km,kx,kx,km,km,km,km] rfl rfl (any_of HT_.1 (by kernel_rfl)) (fun _ _ _ h => h) (kc ⟨by rfl, ?_⟩) ?_ ?_
       rotate_left
       ·
        intro w'
        go_simp
        with_reducible rfl
       rotate_left
       ·
        simp only [kg, ky, kj, kk, zt, zu]
        rfl
       refine zA (i := 6) (N := some 52) (v := ?_) (a' := ?_) #[km,kx,kx,km,kx,kx,kx,km,km,km] rfl rfl (any_of HT_.1 (by kernel_rfl)) (fun _ _ _ h => h) (kc ⟨by rfl, ?_⟩) ?_ ?_
       rotate_left
       ·
        intro w'
        go_simp
        with_reducible rfl
       rotate_left
       ·
        simp only [kg, ky, kj, kk, zt, zu]
        rfl
       refine take_ (i := 0) (N := some 46) (v := ?_) (a' := ?_) #[kx,kx,kx,km,kx,kx,kx,km,km,km] rfl rfl (take_ofW HT_.1 HW_.1 (by kernel_rfl)) (fun _ _ _ h => h) (kc ⟨by rfl, ?_⟩) hHeld ?_ ?_
       rotate_left
       ·
        rintro w' ⟨s0, s1, s2, s3⟩
        go_simp
        with_reducible rfl
       rotate_left
       ·
        simp only [kg, ky, kj, kk, zt, zu]
        rfl
       refine take_ (i := 3) (N := some 49) (v := ?_) (a' := ?_) #[kx,kx,kx,kx,kx,kx,kx,km,km,km] rfl rfl (take_ofW HT_.1 HW_.1 (by kernel_rfl)) (fun _ _ _ h => h) (kc ⟨by rfl, ?_⟩) hHeld ?_ ?_
       rotate_left
       ·
        rintro w' ⟨s0, s1, s2, s3⟩
        go_simp
        with_reducible rfl
       rotate_left
       ·
        simp only [kg, ky, kj, kk, zt, zu]
        rfl
       refine one_ (i := 7) (N := some 53) #[kx,kx,kx,kx,kx,kx,kx,kx,km,km] rfl rfl (one_of HT_.1 (by kernel_rfl)) (by decide) (fun K hK => ?_)
       refine goes_ Try.func59 (by kernel_rfl) rfl #[.agg #[.int .i64 t160, .int .i64 t161], .int .i64 a1, .int .i64 a2, .slice Ao35 l3.length co35] (by rfl) rfl rfl (by (try simp only [kh, kf, ke]); rfl) ?_
       with_reducible refine (ih kj12 (by have := HJ5.1; have := HJ12.1; omega) t160 t161 a1 a2 (fun k_ => some k_ = (.slice Ao35 l3.length co35 : Value).ownBlock) (.slice Ao35 l3.length co35) l3 t166 w0 _ ?side1 ?side2 A22.1).mono ?_
       (case side1 => repeat (with_reducible exact HB.1))
       (case side2 => exact Kd.R_tight rfl HO_3.1)
       rintro e w36 ⟨v167, rfl, ho0, hb, hkp⟩
       refine ⟨_, rfl, ?_⟩
       have zG := kz (zs (ok' := fun k_ => (P3_ k_ ∨ w.heap.size ≤ k_) ∧ k_ ≠ gb155 ∧ k_ ≠ gb164 ∧ k_ ≠ gb165) ho0 (fun k_ hk_ => ⟨ko hk_ (fun hs_ => (HO_3.1.1 k_ (hs_).symm).1) (fun hn_ => (.inr (Nat.le_trans (by exact HK.1.1) hn_))), ko hk_ (fun hs_ => fun e_ => (zq HO_3.1 (fun _ hk => hk.2.1)) (by rw [← e_]; exact hs_)) (fun hn_ => (zv zB.1 k_ hn_)), ko hk_ (fun hs_ => fun e_ => (zq HO_3.1 (fun _ hk => hk.2.2.1)) (by rw [← e_]; exact hs_)) (fun hn_ => (zv zC.1 k_ hn_)), ko hk_ (fun hs_ => fun e_ => (zq HO_3.1 (fun _ hk => hk.2.2.2)) (by rw [← e_]; exact hs_)) (fun hn_ => (zv zD.1 k_ hn_))⟩))
       replace zB := kz (blk_kept zB.1 hkp (fun hs_ => (fun e_ => (zq HO_3.1 (fun _ hk => hk.2.1)) e_) hs_))
       replace zC := kz (blk_kept zC.1 hkp (fun hs_ => (fun e_ => (zq HO_3.1 (fun _ hk => hk.2.2.1)) e_) hs_))
       replace zD := kz (blk_kept zD.1 hkp (fun hs_ => (fun e_ => (zq HO_3.1 (fun _ hk => hk.2.2.2)) e_) hs_))
       replace HK := kz (Kept.then_ HK.1 hkp (fun k_ hs_ => (fun e_ => (HO_3.1.1 k_ e_.symm).1) hs_))
       replace HB := kz hb
       obtain ⟨Ao37, co37, eo37⟩ := Kd.R_slice zG.1
       (subst eo37)
       refine hK.out _ _ ⟨(zi zD.1 0).trans rfl, (zi zD.1 1).trans rfl, (zi zC.1 0).trans rfl, (zi zC.1 1).trans rfl⟩ (fun hHeld => ?_)
       clear hK K
       refine norm_ (a' := ?_) ?_ ?_
       rotate_left
       ·
        show kg _ (some 53) _ = _
        simp only [kg, ky, kj, kk, zt, zu]
        rfl
       refine one_ (i := 8) (N := some 54) #[kx,kx,kx,kx,kx,kx,kx,kx,kx,km] rfl rfl (one_of HT_.1 (by kernel_rfl)) (by decide) (fun K hK => ?_)
       refine goes_ Try.func59 (by kernel_rfl) rfl #[.agg #[.int .i64 t162, .int .i64 t163], .int .i64 a1, .int .i64 a2, .slice Ao37 t166.length co37] (by rfl) rfl rfl (by (try simp only [kh, kf, ke]); rfl) ?_
       with_reducible refine (ih kj12 (by have := HJ5.1; have := HJ12.1; omega) t162 t163 a1 a2 (fun k_ => some k_ = (.slice Ao37 t166.length co37 : Value).ownBlock) (.slice Ao37 t166.length co37) t166 t169 w0 _ ?side1 ?side2 A23.1).mono ?_
       (case side1 => repeat (with_reducible exact HB.1))
       (case side2 => exact Kd.R_tight rfl zG.1)
       rintro e w38 ⟨v170, rfl, ho0, hb, hkp⟩
       refine ⟨_, rfl, ?_⟩
       have HO171 := kz (zs (ok' := fun k_ => (P3_ k_ ∨ w.heap.size ≤ k_) ∧ k_ ≠ gb155 ∧ k_ ≠ gb164 ∧ k_ ≠ gb165) ho0 (fun k_ hk_ => ⟨ko hk_ (fun hs_ => (zG.1.1 k_ (hs_).symm).1) (fun hn_ => (.inr (Nat.le_trans (by exact HK.1.1) hn_))), ko hk_ (fun hs_ => fun e_ => (zq zG.1 (fun _ hk => hk.2.1)) (by rw [← e_]; exact hs_)) (fun hn_ => (zv zB.1 k_ hn_)), ko hk_ (fun hs_ => fun e_ => (zq zG.1 (fun _ hk => hk.2.2.1)) (by rw [← e_]; exact hs_)) (fun hn_ => (zv zC.1 k_ hn_)), ko hk_ (fun hs_ => fun e_ => (zq zG.1 (fun _ hk => hk.2.2.2)) (by rw [← e_]; exact hs_)) (fun hn_ => (zv zD.1 k_ hn_))⟩))
       replace zC := kz (blk_kept zC.1 hkp (fun hs_ => (fun e_ => (zq zG.1 (fun _ hk => hk.2.2.1)) e_) hs_))
       replace zD := kz (blk_kept zD.1 hkp (fun hs_ => (fun e_ => (zq zG.1 (fun _ hk => hk.2.2.2)) e_) hs_))
       replace HK := kz (Kept.then_ HK.1 hkp (fun k_ hs_ => (fun e_ => (zG.1.1 k_ e_.symm).1) hs_))
       replace HB := kz hb
       refine hK.out _ _ ⟨(zi zD.1 0).trans rfl, (zi zD.1 1).trans rfl, (zi zC.1 0).trans rfl, (zi zC.1 1).trans rfl⟩ (fun hHeld => ?_)
       clear hK K
       refine norm_ (a' := ?_) ?_ ?_
       rotate_left
       ·
        show kg _ (some 54) _ = _
        simp only [kg, ky, kj, kk, zt, zu]
        rfl
       refine zA (i := 9) (N := some 8) (v := ?_) (a' := ?_) #[kx,kx,kx,kx,kx,kx,kx,kx,kx,kx] rfl rfl (any_of HT_.1 (by kernel_rfl)) (fun _ _ _ h => h) (kc ⟨by rfl, ?_⟩) ?_ ?_
       rotate_left
       ·
        intro w'
        go_simp
        with_reducible rfl
       rotate_left
       ·
        simp only [kg, ky, kj, kk, zt, zu]
        rfl
       refine done_ (done_of HT_.1 (by kernel_rfl)) ?_
       try go_wp2
       go_ret
       exact ⟨_, by rfl, by exact zs HO171.1 (fun _ hk => hk.1), by exact HB.1, by exact HK.1⟩
/-! ### spec_RangeOf: function 20 -/
def spec_RangeOf.f (k : Nat) (a0 : Int) (a1 : Int) : Option ((List (S45)) × Bool) := (spec_l1Addr.f a0).bind fun t172 => (if t172 = true then ((spec_l1Addr.f a1).bind fun t173 => (if t173 = true then (if a0 > a1 then (some (([] : List (S45)), false)) else ((spec_l3Range.f k 0 0 a0 a1 ([] : List (S45))).bind fun t174 => (some (t174, true)))) else (some (([] : List (S45)), false)))) else (some (([] : List (S45)), false)))
theorem spec_RangeOf.calls (k : Nat) (a0 : Int) (a1 : Int) (r1 : List (S45)) (r2 : Bool) (w : World) (h : spec_RangeOf.f k a0 a1 = some (r1, r2)) :
  Calls Try.prog 20 #[.int .i64 a0, .int .i64 a1] w fun e w' => ∃ v0_ : Value, e = .returned (.tuple #[v0_, .bool r2]) ∧ Kd.R k45 45 w' w.heap.size (fun _ => True) v0_ r1 ∧ Below w.heap.size w w' := by
 have hu45 := Try.underlying45
 have HB := kz (Below.refl w.heap.size w)
 have H : ((spec_l1Addr.f a0).bind fun t172 => (if t172 = true then ((spec_l1Addr.f a1).bind fun t173 => (if t173 = true then (if a0 > a1 then (some (([] : List (S45)), false)) else ((spec_l3Range.f k 0 0 a0 a1 ([] : List (S45))).bind fun t174 => (some (t174, true)))) else (some (([] : List (S45)), false)))) else (some (([] : List (S45)), false)))) = some (r1, r2) := h
 clear h
 replace H := kv.mp H
 obtain ⟨t172, A30, H⟩ := H
 replace H : (if t172 = true then ((spec_l1Addr.f a1).bind fun t173 => (if t173 = true then (if a0 > a1 then (some (([] : List (S45)), false)) else ((spec_l3Range.f k 0 0 a0 a1 ([] : List (S45))).bind fun t174 => (some (t174, true)))) else (some (([] : List (S45)), false)))) else (some (([] : List (S45)), false))) = some (r1, r2) := H
 have A3 := kz A30
 clear A30
 by_cases c4 : t172 = true
 ·
  subst c4
  have H1 : ((spec_l1Addr.f a1).bind fun t173 => (if t173 = true then (if a0 > a1 then (some (([] : List (S45)), false)) else ((spec_l3Range.f k 0 0 a0 a1 ([] : List (S45))).bind fun t174 => (some (t174, true)))) else (some (([] : List (S45)), false)))) = some (r1, r2) := by rw [if_pos rfl] at H; exact H
  clear H
  have H := H1
  clear H1
  replace H := kv.mp H
  obtain ⟨t173, A50, H⟩ := H
  replace H : (if t173 = true then (if a0 > a1 then (some (([] : List (S45)), false)) else ((spec_l3Range.f k 0 0 a0 a1 ([] : List (S45))).bind fun t174 => (some (t174, true)))) else (some (([] : List (S45)), false))) = some (r1, r2) := H
  have A5 := kz A50
  clear A50
  by_cases c6 : t173 = true
  ·
   subst c6
   have H1 : (if a0 > a1 then (some (([] : List (S45)), false)) else ((spec_l3Range.f k 0 0 a0 a1 ([] : List (S45))).bind fun t174 => (some (t174, true)))) = some (r1, r2) := by rw [if_pos rfl] at H; exact H
   clear H
   have H := H1
   clear H1
   by_cases c7 : a0 > a1
   ·
    rw [if_pos c7] at H
    have c7b0 : decide (a1 < a0) = true := decide_eq_true c7
    clear c7
    simp only [kd, Prod.mk.injEq] at H
    obtain ⟨rfl, rfl⟩ := H
    go_enter Try.func20, Try.ntmps20
    go_wp2_with (first | ((with_reducible refine gate_callee (f := 52) rfl ?_); refine goesL_ (some 7) rfl rfl Try.func52 (by kernel_rfl) rfl #[.int .i64 a0] rfl (by (try simp only [kh, kf, ke]); rfl) ?_; (with_reducible refine (spec_l1Addr.calls a0 true _ A3.1).mono ?_); rintro e w' ⟨rfl, ⟨nd, rfl⟩⟩; refine ⟨_, rfl, ?_⟩) | (go_at_call 52; (with_reducible refine (spec_l1Addr.calls a1 true _ A5.1).mono ?_); rintro e w' ⟨rfl, ⟨nd, rfl⟩⟩))
    go_ret2
    exact ⟨_, by rfl, by exact Kd.R_nil _ _ _ _ _, by repeat ((with_reducible first | exact HB.1 | apply zd))⟩
   ·
    rw [if_neg c7] at H
    have c7b0 : decide (a1 < a0) = false := decide_eq_false c7
    clear c7
    replace H := kv.mp H
    obtain ⟨t174, A80, H⟩ := H
    replace H : (some (t174, true)) = some (r1, r2) := H
    have A8 := kz A80
    clear A80
    simp only [kd, Prod.mk.injEq] at H
    obtain ⟨rfl, rfl⟩ := H
    go_enter Try.func20, Try.ntmps20
    go_wp2_with (first | ((with_reducible refine gate_callee (f := 52) rfl ?_); refine goesL_ (some 7) rfl rfl Try.func52 (by kernel_rfl) rfl #[.int .i64 a0] rfl (by (try simp only [kh, kf, ke]); rfl) ?_; (with_reducible refine (spec_l1Addr.calls a0 true _ A3.1).mono ?_); rintro e w' ⟨rfl, ⟨nd, rfl⟩⟩; refine ⟨_, rfl, ?_⟩) | (go_at_call 52; (with_reducible refine (spec_l1Addr.calls a1 true _ A5.1).mono ?_); rintro e w' ⟨rfl, ⟨nd, rfl⟩⟩) | ((with_reducible refine gate_callee (f := 59) rfl ?_); refine goesL_ (some 22) rfl rfl Try.func59 (by kernel_rfl) rfl #[.agg #[.int .i64 0, .int .i64 0], .int .i64 a0, .int .i64 a1, .slice none 0 0] rfl (by (try simp only [kh, kf, ke]); rfl) ?_; (refine (spec_l3Range.calls k 0 0 a0 a1 (fun k_ => some k_ = (.slice none 0 0 : Value).ownBlock) (.slice none 0 0) ([] : List (S45)) t174 w _ ?side1 ?side2 A8.1).mono ?_); (case side1 => repeat ((with_reducible first | exact HB.1 | apply zd))); (case side2 => exact Kd.R_nil _ _ _ _ _); rintro e w9 ⟨v175, rfl, ho0, hb, hkp⟩; refine ⟨_, rfl, ?_⟩; have HO176 := kz (zs (ok' := fun k_ => True) ho0 (fun k_ hk_ => trivial)); replace HB := kz hb))
    go_ret2
    exact ⟨_, by rfl, by exact HO176.1, by exact HB.1⟩
  ·
   replace c6 := kb.mpr c6
   subst c6
   have H1 : (some (([] : List (S45)), false)) = some (r1, r2) := by rw [if_neg (show ¬ (false = true) by decide)] at H; exact H
   clear H
   have H := H1
   clear H1
   simp only [kd, Prod.mk.injEq] at H
   obtain ⟨rfl, rfl⟩ := H
   go_enter Try.func20, Try.ntmps20
   go_wp2_with (first | ((with_reducible refine gate_callee (f := 52) rfl ?_); refine goesL_ (some 7) rfl rfl Try.func52 (by kernel_rfl) rfl #[.int .i64 a0] rfl (by (try simp only [kh, kf, ke]); rfl) ?_; (with_reducible refine (spec_l1Addr.calls a0 true _ A3.1).mono ?_); rintro e w' ⟨rfl, ⟨nd, rfl⟩⟩; refine ⟨_, rfl, ?_⟩) | (go_at_call 52; (with_reducible refine (spec_l1Addr.calls a1 false _ A5.1).mono ?_); rintro e w' ⟨rfl, ⟨nd, rfl⟩⟩))
   go_ret2
   exact ⟨_, by rfl, by exact Kd.R_nil _ _ _ _ _, by repeat ((with_reducible first | exact HB.1 | apply zd))⟩
 ·
  replace c4 := kb.mpr c4
  subst c4
  have H1 : (some (([] : List (S45)), false)) = some (r1, r2) := by rw [if_neg (show ¬ (false = true) by decide)] at H; exact H
  clear H
  have H := H1
  clear H1
  simp only [kd, Prod.mk.injEq] at H
  obtain ⟨rfl, rfl⟩ := H
  go_enter Try.func20, Try.ntmps20
  go_wp2_with (((with_reducible refine gate_callee (f := 52) rfl ?_); refine goesL_ (some 7) rfl rfl Try.func52 (by kernel_rfl) rfl #[.int .i64 a0] rfl (by (try simp only [kh, kf, ke]); rfl) ?_; (with_reducible refine (spec_l1Addr.calls a0 false _ A3.1).mono ?_); rintro e w' ⟨rfl, ⟨nd, rfl⟩⟩; refine ⟨_, rfl, ?_⟩))
  go_ret2
  exact ⟨_, by rfl, by exact Kd.R_nil _ _ _ _ _, by repeat ((with_reducible first | exact HB.1 | apply zd))⟩
end Go.Proofs.Ytabejlfejlpkeaa.PFnRanges
