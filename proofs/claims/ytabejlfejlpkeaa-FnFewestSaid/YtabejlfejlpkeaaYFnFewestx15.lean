/- Go functions told by Lean functions, printed by a program. No condition but what each statement says. -/
import Derived.Test.YtabejlfejlpkeaaYFnFewestx2
import Derived.Test.YtabejlfejlpkeaaYFnFewestx10
import Derived.Test.YtabejlfejlpkeaaYFnFewestx12
import Derived.Test.YtabejlfejlpkeaaYFnFewestx14
namespace Go.Proofs.Ytabejlfejlpkeaa.PFnFewest
open Go.RowKit Go.Proofs.YtabejlfejlpkeaaW.PrintWords Go.Proofs.YtabejlfejlpkeaaW.PrintLast Go.Proofs.YtabejlfejlpkeaaW.PrintMore
open Aside0 renaming mk → kz
open Option renaming bind_eq_some_iff → ky
open List renaming map_toArray → kj, map_cons → kv, map_nil → kh
open Option.some renaming injEq → kk
open Bool renaming eq_false_iff → kg
set_option maxHeartbeats 8000000
set_option maxRecDepth 100000
open Go.Proofs.YtabejlfejlpkeaaW.PrintLast renaming goesL_ → zy
open Go.Proofs.YtabejlfejlpkeaaW.PrintWords renaming pw_below_drewN → za, below_drew1 → zb, below_alloc → zc, below_step → zf, below_size → zl, gate_callee → zr, Aside0 → zt
open Go.Proofs.YtabejlfejlpkeaaW.PrintWords.Kd renaming C_drewN → zd, C_alloc → ze, C_drew → zg, C_below → zh, R_drewN → zi, R_alloc → zj, R_drew → zk, R_lower → zm, R_slice → zp, R_reads' → zs, R_elder' → zu, R_new' → zw, R_base → zx, R_lt → zz
open Go.Proofs.YtabejlfejlpkeaaW.PrintWords.LeO renaming none → zn, bind → zo, ite → zq, refl → zv
attribute [local go_sem] max2_int min2_int max_two min_two max_three min_three max_four min_four
set_option linter.unusedVariables false
set_option linter.unusedSimpArgs false

attribute [local go_sem high] eqA45 eqA74
/-! ### impl_CountAddrs: function 25 -/
def impl_CountAddrs.l0 : Nat → Int → List (S74) → Int → Int → Option (Int × Bool)
 | 0, _, _, _, _ => none
 | k + 1, x4, x11, x12, x13 => if x13 < x12 then (if 0 ≤ x13 then (if x13 < (x11.length : Int) then (impl_CountAddrs.l0 k (wrap64 (x4 + (wrap64 ((wrap64 (((rd_T74 x11 x13).f1) - ((rd_T74 x11 x13).f0))) + 1)))) x11 x12 (wrap64 (x13 + 1))) else (none)) else (none)) else (some (x4, true))
def impl_CountAddrs.f (k : Nat) (l0 : List (S45)) : Option (Int × Bool) := (impl_arePrefixes.f k l0).bind fun t281 => (if t281 = true then ((impl_spansOf.f k l0).bind fun t282 => (impl_CountAddrs.l0 k 0 t282 (t282.length : Int) 0)) else (some (0, false)))
theorem impl_CountAddrs.mono_l : ∀ k, (∀ y0 y1 y2 y3, LeO (impl_CountAddrs.l0 k y0 y1 y2 y3) (impl_CountAddrs.l0 (k + 1) y0 y1 y2 y3))
 | 0 => fun _ _ _ _ r h => by simp [impl_CountAddrs.l0] at h
 | k + 1 => by
  have ih0 := impl_CountAddrs.mono_l k
  ·
   intro y0 y1 y2 y3; unfold impl_CountAddrs.l0; repeat' first
   | (with_reducible exact ih0 _ _ _ _)
   | (with_reducible exact zv _)
   | (with_reducible refine zq ?_ ?_)
theorem impl_CountAddrs.mono : ∀ a0 k, LeO (impl_CountAddrs.f k a0) (impl_CountAddrs.f (k + 1) a0) := by
 intro a0 k; have ih0 := impl_CountAddrs.mono_l k; unfold impl_CountAddrs.f
 repeat' first
   | (with_reducible exact ih0 _ _ _ _)
   | (with_reducible exact impl_arePrefixes.mono _ _)
   | (with_reducible exact impl_spansOf.mono _ _)
   | (with_reducible exact zv _)
   | (with_reducible refine zq ?_ ?_)
   | (with_reducible refine zo ?_ (fun _ => ?_))
theorem impl_CountAddrs.calls (k : Nat) (A0 : Option Addr) (c0 : Nat) (l0 : List (S45)) (r1 : Int) (r2 : Bool) (w : World) (hr0 : Kd.C k45 w A0 l0.length l0) (hc0 : l0.length ≤ c0) (h : impl_CountAddrs.f k l0 = some (r1, r2)) :
  Calls Try.prog 25 #[.slice A0 l0.length c0] w fun e w' => e = .returned (.tuple #[.int .i64 r1, .bool r2]) ∧ Below w.heap.size w w' := by
 have hu74 := Try.underlying74; have HR0 := kz hr0; have HC0 := kz hc0; clear hr0 hc0; have HB := kz (Below.refl w.heap.size w); have H : ((impl_arePrefixes.f k l0).bind fun t281 => (if t281 = true then ((impl_spansOf.f k l0).bind fun t282 => (impl_CountAddrs.l0 k 0 t282 (t282.length : Int) 0)) else (some (0, false)))) = some (r1, r2) := h; clear h; replace H := ky.mp H; obtain ⟨t281, A20, H⟩ := H; replace H : (if t281 = true then ((impl_spansOf.f k l0).bind fun t282 => (impl_CountAddrs.l0 k 0 t282 (t282.length : Int) 0)) else (some (0, false))) = some (r1, r2) := H; have A2 := kz A20; clear A20; by_cases c3 : t281 = true
 ·
  subst c3; have H1 : ((impl_spansOf.f k l0).bind fun t282 => (impl_CountAddrs.l0 k 0 t282 (t282.length : Int) 0)) = some (r1, r2) := by rw [if_pos rfl] at H; exact H
  clear H; have H := H1; clear H1; replace H := ky.mp H; obtain ⟨t282, A40, H⟩ := H; replace H : (impl_CountAddrs.l0 k 0 t282 (t282.length : Int) 0) = some (r1, r2) := H; have A4 := kz A40; clear A40; have H' := kz H; clear H; go_enter Try.func25, Try.ntmps25; go_wp2_with (first | ((with_reducible refine zr (f := 54) rfl ?_); refine zy (some 8) rfl rfl Try.func54 (by kernel_rfl) rfl #[.slice A0 l0.length c0] rfl (by (try simp only [kj, kv, kh]); rfl) ?_; (with_reducible refine (impl_arePrefixes.calls k _ _ l0 true _ ?side1 ?side2 A2.1).mono ?_); (case side1 => repeat (exact HR0.1)); (case side2 => exact HC0.1); rintro e w5 ⟨rfl, hb⟩; refine ⟨_, rfl, ?_⟩; replace HB := kz (zf HB.1 hb); (try clear hi)) | ((with_reducible refine zr (f := 63) rfl ?_); refine zy (some 11) rfl rfl Try.func63 (by kernel_rfl) rfl #[.slice A0 l0.length c0] rfl (by (try simp only [kj, kv, kh]); rfl) ?_; (with_reducible refine (impl_spansOf.calls k _ _ l0 t282 _ ?side1 ?side2 A4.1).mono ?_); (case side1 => repeat (exact (zh HR0.1 HB.1))); (case side2 => exact HC0.1); rintro e w6 ⟨v283, rfl, ho0, hb⟩; refine ⟨_, rfl, ?_⟩; have HO284 := kz (zm ho0 (zl HB.1)); replace HB := kz (zf HB.1 hb); obtain ⟨Ao7, co7, eo7⟩ := zp HO284.1; subst eo7)); go_loopg [4, 13] k (fun kq v4 v13 w' => ∃ (x4_1 : Int) (zA : Int), v4 = .int .i64 x4_1 ∧ v13 = .int .i64 zA ∧ zt (impl_CountAddrs.l0 kq x4_1 t282 (t282.length : Int) zA = some (r1, r2)) ∧ zt (kq ≤ k) ∧ zt (Kd.R k74 74 w' w.heap.size (fun _ => True) (.slice Ao7 t282.length co7) t282) ∧ zt (Below w.heap.size w w')); case atStart => exact ⟨(0), (0), (by rfl), (by rfl), H', ⟨Nat.le_refl _⟩, ⟨by exact HO284.1⟩, ⟨by exact HB.1⟩⟩
  case round =>
   clear H'; obtain ⟨x4_1, zA, rfl, rfl, HA, HK1, zF, HB⟩ := hrel; cases gk with
   | zero => exact absurd HA.1 (by simp [impl_CountAddrs.l0])
   | succ k1 =>
    have H := HA.1; clear HA; simp only [impl_CountAddrs.l0] at H; by_cases c8 : zA < (t282.length : Int)
    ·
     rw [if_pos c8] at H; have c8b0 : decide (zA < (t282.length : Int)) = true := decide_eq_true c8; clear c8; by_cases c9 : 0 ≤ zA
     ·
      rw [if_pos c9] at H; have c9b0 : decide (0 ≤ zA) = true := decide_eq_true c9; clear c9; by_cases c10 : zA < (t282.length : Int)
      ·
       rw [if_pos c10] at H; have c10b0 : decide (zA < (t282.length : Int)) = true := decide_eq_true c10; clear c10; have H' := kz H; clear H; have p285 : 0 ≤ (zA : Int) := of_decide_eq_true (by (with_reducible assumption)); have q285 : zA < (t282.length : Int) := of_decide_eq_true (by (with_reducible assumption)); obtain ⟨ad285, e285, hx285_0, hx285_1⟩ := at_T74 (zs zF.1).2.2 zA p285 q285; cases e285; replace p285 := eq_true p285; replace q285 := eq_true q285; go_wp2_with (((with_reducible refine gate_dst (N := 6) rfl ?_); refine box_event ?hg (N := 6) ?hd (cs := #[.int .i64 0, .int .i64 0]) (t := 74) ?hr ?_; (case hd => rfl); (case hg => rfl); (case hr => (go_simp; done)); intro gb286 hg w11 hbox hb; replace zF := kz (Kd.R_below (Kd.R_elderB zF.1 gb286 (Nat.le_of_eq hg.symm)) hb); have BK286 := kz hbox; have GE286 := kz ((by rw [hg]; exact (zl HB.1) : w.heap.size ≤ gb286)); replace HB := kz (zf HB.1 hb); clear hb hbox hg; have hcz12_0 : w11.cell? ⟨gb286, 0, none⟩ = some (.int .i64 0) := (blk_cell BK286.1 0).trans rfl; have hcz12_1 : w11.cell? ⟨gb286, 1, none⟩ = some (.int .i64 0) := (blk_cell BK286.1 1).trans rfl; have hfz12_0 := blk_frozen BK286.1 0; have hfz12_1 := blk_frozen BK286.1 1)); go_roundg k1; case measure => have := HK1.1; omega
       case rel => exact ⟨(wrap64 (x4_1 + (wrap64 ((wrap64 (((rd_T74 t282 zA).f1) - ((rd_T74 t282 zA).f0))) + 1)))), (wrap64 (zA + 1)), (by rfl), (by rfl), H', ⟨by have := HK1.1; omega⟩, ⟨by exact Kd.R_mono (Kd.R_far (p := ⟨gb286, 1, none⟩) (Kd.R_far (p := ⟨gb286, 0, none⟩) (Kd.R_mono zF.1 (fun k_ hk => (⟨hk, hk.2⟩ : _ ∧ k_ ≠ gb286))) (fun _ hk => hk.2) (.int .i64 ((rd_T74 t282 zA).f0))) (fun _ hk => hk.2) (.int .i64 ((rd_T74 t282 zA).f1))) (fun _ hk => trivial)⟩, ⟨by repeat ((with_reducible first | exact HB.1 | refine below_set ?_ GE286.1))⟩⟩
      · rw [if_neg c10] at H; exact absurd H (by simp)
     · rw [if_neg c9] at H; exact absurd H (by simp)
    · rw [if_neg c8] at H; have c8b0 : decide (zA < (t282.length : Int)) = false := decide_eq_false c8; clear c8; simp only [kk, Prod.mk.injEq] at H; obtain ⟨rfl, rfl⟩ := H; go_wp2; go_ret2; exact ⟨by rfl, by exact HB.1⟩
 ·
  replace c3 := kg.mpr c3; subst c3; have H1 : (some (0, false)) = some (r1, r2) := by rw [if_neg (show ¬ (false = true) by decide)] at H; exact H
  clear H; have H := H1; clear H1; simp only [kk, Prod.mk.injEq] at H; obtain ⟨rfl, rfl⟩ := H; go_enter Try.func25, Try.ntmps25; go_wp2_with (((with_reducible refine zr (f := 54) rfl ?_); refine zy (some 8) rfl rfl Try.func54 (by kernel_rfl) rfl #[.slice A0 l0.length c0] rfl (by (try simp only [kj, kv, kh]); rfl) ?_; (with_reducible refine (impl_arePrefixes.calls k _ _ l0 false _ ?side1 ?side2 A2.1).mono ?_); (case side1 => repeat (exact HR0.1)); (case side2 => exact HC0.1); rintro e w13 ⟨rfl, hb⟩; refine ⟨_, rfl, ?_⟩; replace HB := kz (zf HB.1 hb); (try clear hi))); go_ret2; exact ⟨by rfl, by exact HB.1⟩

/-! ### spec_SameAddrs: function 26 -/
mutual
def spec_SameAddrs.j0 : Nat → List (S45) → List (S45) → Bool → Option (Bool × Bool)
 | 0, _, _, _ => none
 | k + 1, x0, x1, x16 => if x16 = true then (some (false, false)) else ((spec_l3Fewest.f k x0).bind fun t289 => ((spec_l3Fewest.f k x1).bind fun t292 => (if (t289.length : Int) = (t292.length : Int) then (spec_SameAddrs.l0 k t289 t292 (t289.length : Int) 0) else (some (false, true)))))
def spec_SameAddrs.l0 : Nat → List (S45) → List (S45) → Int → Int → Option (Bool × Bool)
 | 0, _, _, _, _ => none
 | k + 1, x6, x7, x27, x28 => if x28 < x27 then (if 0 ≤ x28 then (if x28 < (x6.length : Int) then (if x28 < (x7.length : Int) then (if (!(((rd_T45 x6 x28).f0) == ((rd_T45 x7 x28).f0)) || (!(((rd_T45 x6 x28).f1) == ((rd_T45 x7 x28).f1)))) = true then (some (false, true)) else (spec_SameAddrs.l0 k x6 x7 x27 (wrap64 (x28 + 1)))) else (none)) else (none)) else (none)) else (some (true, true))
end
def spec_SameAddrs.f (k : Nat) (l0 : List (S45)) (l1 : List (S45)) : Option (Bool × Bool) := (spec_l3Good.f k l0).bind fun t287 => (if t287 = true then ((spec_l3Good.f k l1).bind fun t288 => (spec_SameAddrs.j0 k l0 l1 (!t288))) else (spec_SameAddrs.j0 k l0 l1 true))
theorem spec_SameAddrs.mono_l : ∀ k, (∀ y0 y1 y2, LeO (spec_SameAddrs.j0 k y0 y1 y2) (spec_SameAddrs.j0 (k + 1) y0 y1 y2)) ∧ (∀ y0 y1 y2 y3, LeO (spec_SameAddrs.l0 k y0 y1 y2 y3) (spec_SameAddrs.l0 (k + 1) y0 y1 y2 y3))
 | 0 => ⟨fun _ _ _ r h => by simp [spec_SameAddrs.j0] at h, fun _ _ _ _ r h => by simp [spec_SameAddrs.l0] at h⟩
 | k + 1 => by
  obtain ⟨ih0, ih1⟩ := spec_SameAddrs.mono_l k; refine ⟨?_, ?_⟩
  ·
   intro y0 y1 y2; unfold spec_SameAddrs.j0; repeat' first
   | (with_reducible exact ih1 _ _ _ _)
   | (with_reducible exact spec_l3Fewest.mono _ _)
   | (with_reducible exact zv _)
   | (with_reducible refine zq ?_ ?_)
   | (with_reducible refine zo ?_ (fun _ => ?_))
  ·
   intro y0 y1 y2 y3; unfold spec_SameAddrs.l0; repeat' first
   | (with_reducible exact ih1 _ _ _ _)
   | (with_reducible exact zv _)
   | (with_reducible refine zq ?_ ?_)
theorem spec_SameAddrs.mono : ∀ a0 a1 k, LeO (spec_SameAddrs.f k a0 a1) (spec_SameAddrs.f (k + 1) a0 a1) := by
 intro a0 a1 k; obtain ⟨ih0, ih1⟩ := spec_SameAddrs.mono_l k; unfold spec_SameAddrs.f
 repeat' first
   | (with_reducible exact ih0 _ _ _)
   | (with_reducible exact spec_l3Good.mono _ _)
   | (with_reducible refine zq ?_ ?_)
   | (with_reducible refine zo ?_ (fun _ => ?_))
theorem spec_SameAddrs.calls (k : Nat) (A0 : Option Addr) (c0 : Nat) (l0 : List (S45)) (A1 : Option Addr) (c1 : Nat) (l1 : List (S45)) (r1 : Bool) (r2 : Bool) (w : World) (hr0 : Kd.C k45 w A0 l0.length l0) (hc0 : l0.length ≤ c0) (hr1 : Kd.C k45 w A1 l1.length l1) (hc1 : l1.length ≤ c1) (h : spec_SameAddrs.f k l0 l1 = some (r1, r2)) :
  Calls Try.prog 26 #[.slice A0 l0.length c0, .slice A1 l1.length c1] w fun e w' => e = .returned (.tuple #[.bool r1, .bool r2]) ∧ Below w.heap.size w w' := by
 have hu45 := Try.underlying45; have HR0 := kz hr0; have HC0 := kz hc0; clear hr0 hc0; have HR1 := kz hr1; have HC1 := kz hc1; clear hr1 hc1; have HB := kz (Below.refl w.heap.size w); have H : ((spec_l3Good.f k l0).bind fun t287 => (if t287 = true then ((spec_l3Good.f k l1).bind fun t288 => (spec_SameAddrs.j0 k l0 l1 (!t288))) else (spec_SameAddrs.j0 k l0 l1 true))) = some (r1, r2) := h; clear h; have HC3 := kz H; clear H; go_enter Try.func26, Try.ntmps26; go_upto_region 1 with (fail)
 repeat (go_quiet (fail); go_upto_region 1 with (fail))
 go_cut [16] (fun v16 wc => ∃ (kq : Nat) (x16_2 : Bool), v16 = .bool x16_2 ∧ zt (spec_SameAddrs.j0 kq l0 l1 x16_2 = some (r1, r2)) ∧ zt (kq ≤ k) ∧ zt (Below w.heap.size w wc))
 case first =>
  have H := HC3.1; clear HC3; replace H := ky.mp H; obtain ⟨t287, A40, H⟩ := H; replace H : (if t287 = true then ((spec_l3Good.f k l1).bind fun t288 => (spec_SameAddrs.j0 k l0 l1 (!t288))) else (spec_SameAddrs.j0 k l0 l1 true)) = some (r1, r2) := H; have A4 := kz A40; clear A40; by_cases c5 : t287 = true
  ·
   subst c5; have H1 : ((spec_l3Good.f k l1).bind fun t288 => (spec_SameAddrs.j0 k l0 l1 (!t288))) = some (r1, r2) := by rw [if_pos rfl] at H; exact H
   clear H; have H := H1; clear H1; replace H := ky.mp H; obtain ⟨t288, A60, H⟩ := H; replace H : (spec_SameAddrs.j0 k l0 l1 (!t288)) = some (r1, r2) := H; have A6 := kz A60; clear A60; have H' := kz H; clear H; go_wp2_with (first | (go_at_call 44; (with_reducible refine (spec_l3Good.calls k _ _ l0 true _ ?side1 ?side2 A4.1).mono ?_); (case side1 => repeat (exact (zh HR0.1 HB.1))); (case side2 => exact HC0.1); rintro e w7 ⟨rfl, hb⟩; replace HB := kz (zf HB.1 hb); (try clear hi)) | (go_at_call 44; (with_reducible refine (spec_l3Good.calls k _ _ l1 t288 _ ?side1 ?side2 A6.1).mono ?_); (case side1 => repeat (exact (zh HR1.1 HB.1))); (case side2 => exact HC1.1); rintro e w8 ⟨rfl, hb⟩; replace HB := kz (zf HB.1 hb); (try clear hi))); repeat (go_quiet (fail); try go_wp2_with (fail))
   go_meet; case rel => exact ⟨_, (!t288), (by rfl), H', ⟨by omega⟩, ⟨by exact HB.1⟩⟩
  ·
   replace c5 := kg.mpr c5; subst c5; have H1 : (spec_SameAddrs.j0 k l0 l1 true) = some (r1, r2) := by rw [if_neg (show ¬ (false = true) by decide)] at H; exact H
   clear H; have H := H1; clear H1; have H' := kz H; clear H; go_wp2_with ((go_at_call 44; (with_reducible refine (spec_l3Good.calls k _ _ l0 false _ ?side1 ?side2 A4.1).mono ?_); (case side1 => repeat (exact (zh HR0.1 HB.1))); (case side2 => exact HC0.1); rintro e w9 ⟨rfl, hb⟩; replace HB := kz (zf HB.1 hb); (try clear hi))); repeat (go_quiet (fail); try go_wp2_with (fail))
   go_meet; case rel => exact ⟨_, (true), (by rfl), H', ⟨by omega⟩, ⟨by exact HB.1⟩⟩
 case rest =>
  clear HC3; obtain ⟨kq, x16_2, rfl, HA, HJ2, HB⟩ := hcut; cases kq with
  | zero => exact absurd HA.1 (by simp [spec_SameAddrs.j0])
  | succ kj2 =>
   have H := HA.1; clear HA; simp only [spec_SameAddrs.j0] at H; by_cases c10 : x16_2 = true
   ·
    subst c10; have H1 : (some (false, false)) = some (r1, r2) := by rw [if_pos rfl] at H; exact H
    clear H; have H := H1; clear H1; simp only [kk, Prod.mk.injEq] at H; obtain ⟨rfl, rfl⟩ := H; go_wp2; repeat (go_quiet (fail); try go_wp2)
    go_ret2; exact ⟨by rfl, by exact HB.1⟩
   ·
    replace c10 := kg.mpr c10; subst c10; have H1 : ((spec_l3Fewest.f kj2 l0).bind fun t289 => ((spec_l3Fewest.f kj2 l1).bind fun t292 => (if (t289.length : Int) = (t292.length : Int) then (spec_SameAddrs.l0 kj2 t289 t292 (t289.length : Int) 0) else (some (false, true))))) = some (r1, r2) := by rw [if_neg (show ¬ (false = true) by decide)] at H; exact H
    clear H; have H := H1; clear H1; replace H := ky.mp H; obtain ⟨t289, A110, H⟩ := H; replace H : ((spec_l3Fewest.f kj2 l1).bind fun t292 => (if (t289.length : Int) = (t292.length : Int) then (spec_SameAddrs.l0 kj2 t289 t292 (t289.length : Int) 0) else (some (false, true)))) = some (r1, r2) := H; have A11 := kz A110; clear A110; replace H := ky.mp H; obtain ⟨t292, A120, H⟩ := H; replace H : (if (t289.length : Int) = (t292.length : Int) then (spec_SameAddrs.l0 kj2 t289 t292 (t289.length : Int) 0) else (some (false, true))) = some (r1, r2) := H; have A12 := kz A120; clear A120; by_cases c13 : (t289.length : Int) = (t292.length : Int)
    ·
     rw [if_pos c13] at H; have c13b0 : ((t289.length : Int) == (t292.length : Int)) = true := beq_iff_eq.mpr c13; have c13b1 : ((t289.length : Int) != (t292.length : Int)) = false := bne_eq_false_iff_eq.mpr c13; have c13b2 : (t289.length == t292.length) = true := by (simp at c13 ⊢; omega)
     clear c13; have H' := kz H; clear H; go_wp2_with (first | (go_at_call 61; (with_reducible refine (spec_l3Fewest.calls kj2 _ _ l0 t289 _ ?side1 ?side2 A11.1).mono ?_); (case side1 => repeat (exact (zh HR0.1 HB.1))); (case side2 => exact HC0.1); rintro e w14 ⟨v290, rfl, ho0, hb⟩; have zC := kz (zm ho0 (zl HB.1)); replace HB := kz (zf HB.1 hb); (try clear ho0)) | (go_at_call 61; (with_reducible refine (spec_l3Fewest.calls kj2 _ _ l1 t292 _ ?side1 ?side2 A12.1).mono ?_); (case side1 => repeat (exact (zh HR1.1 HB.1))); (case side2 => exact HC1.1); rintro e w15 ⟨v293, rfl, ho0, hb⟩; have zD := kz (zm (zw ho0 (zz zC.1)) (zl HB.1)); replace zC := kz (zu zC.1 (zx ho0) hb); replace HB := kz (zf HB.1 hb); obtain ⟨Ao16, co16, eo16⟩ := zp zC.1; subst eo16; obtain ⟨Ao17, co17, eo17⟩ := zp zD.1; subst eo17)); repeat (go_quiet (fail); try go_wp2_with (fail))
     go_loopg [28] kj2 (fun kq v28 w' => ∃ (zB : Int), v28 = .int .i64 zB ∧ zt (spec_SameAddrs.l0 kq t289 t292 (t289.length : Int) zB = some (r1, r2)) ∧ zt (kq ≤ kj2) ∧ zt (Kd.R k45 45 w' w.heap.size (fun k_ => some k_ ≠ ((.slice Ao17 t292.length co17) : Value).ownBlock) (.slice Ao16 t289.length co16) t289) ∧ zt (Kd.R k45 45 w' w.heap.size (fun k_ => some k_ ≠ ((.slice Ao16 t289.length co16) : Value).ownBlock) (.slice Ao17 t292.length co17) t292) ∧ zt (Below w.heap.size w w')); case atStart => exact ⟨(0), (by rfl), H', ⟨Nat.le_refl _⟩, ⟨by exact Kd.R_mono zC.1 (fun _ hk => hk.2)⟩, ⟨by exact Kd.R_mono zD.1 (fun _ hk => hk.2)⟩, ⟨by exact HB.1⟩⟩
     case round =>
      clear H'; obtain ⟨zB, rfl, HA, HK2, HO_6, HO_7, HB⟩ := hrel; cases gk with
      | zero => exact absurd HA.1 (by simp [spec_SameAddrs.l0])
      | succ k2 =>
       have H := HA.1; clear HA; simp only [spec_SameAddrs.l0] at H; by_cases c18 : zB < (t289.length : Int)
       ·
        rw [if_pos c18] at H; have c18b0 : decide (zB < (t289.length : Int)) = true := decide_eq_true c18; clear c18; by_cases c19 : 0 ≤ zB
        ·
         rw [if_pos c19] at H; have c19b0 : decide (0 ≤ zB) = true := decide_eq_true c19; clear c19; by_cases c20 : zB < (t289.length : Int)
         ·
          rw [if_pos c20] at H; have c20b0 : decide (zB < (t289.length : Int)) = true := decide_eq_true c20; clear c20; by_cases c21 : zB < (t292.length : Int)
          ·
           rw [if_pos c21] at H; have c21b0 : decide (zB < (t292.length : Int)) = true := decide_eq_true c21; clear c21; by_cases c22 : (!(((rd_T45 t289 zB).f0) == ((rd_T45 t292 zB).f0)) || (!(((rd_T45 t289 zB).f1) == ((rd_T45 t292 zB).f1)))) = true
           ·
            rw [if_pos c22] at H; have c22b0 : (!(((rd_T45 t289 zB).f0) == ((rd_T45 t292 zB).f0)) || (!(((rd_T45 t289 zB).f1) == ((rd_T45 t292 zB).f1)))) = true := c22; clear c22; simp only [kk, Prod.mk.injEq] at H; obtain ⟨rfl, rfl⟩ := H; have p295 : 0 ≤ (zB : Int) := of_decide_eq_true (by (with_reducible assumption)); have q295 : zB < (t289.length : Int) := of_decide_eq_true (by (with_reducible assumption)); obtain ⟨ad295, e295, hx295_0, hx295_1⟩ := at_T45 (zs HO_6.1).2.2 zB p295 q295; cases e295; replace p295 := eq_true p295; replace q295 := eq_true q295; have p296 : 0 ≤ (zB : Int) := of_decide_eq_true (by (with_reducible assumption)); have q296 : zB < (t292.length : Int) := of_decide_eq_true (by (with_reducible assumption)); obtain ⟨ad296, e296, hx296_0, hx296_1⟩ := at_T45 (zs HO_7.1).2.2 zB p296 q296; cases e296; replace p296 := eq_true p296; replace q296 := eq_true q296; go_wp2; repeat (go_quiet (fail); try go_wp2)
            go_ret2; exact ⟨by rfl, by repeat ((with_reducible first | exact HB.1 | apply za))⟩
           ·
            rw [if_neg c22] at H; have c22b0 : (!(((rd_T45 t289 zB).f0) == ((rd_T45 t292 zB).f0)) || (!(((rd_T45 t289 zB).f1) == ((rd_T45 t292 zB).f1)))) = false := by simpa using c22
            clear c22; have H' := kz H; clear H; have p295 : 0 ≤ (zB : Int) := of_decide_eq_true (by (with_reducible assumption)); have q295 : zB < (t289.length : Int) := of_decide_eq_true (by (with_reducible assumption)); obtain ⟨ad295, e295, hx295_0, hx295_1⟩ := at_T45 (zs HO_6.1).2.2 zB p295 q295; cases e295; replace p295 := eq_true p295; replace q295 := eq_true q295; have p296 : 0 ≤ (zB : Int) := of_decide_eq_true (by (with_reducible assumption)); have q296 : zB < (t292.length : Int) := of_decide_eq_true (by (with_reducible assumption)); obtain ⟨ad296, e296, hx296_0, hx296_1⟩ := at_T45 (zs HO_7.1).2.2 zB p296 q296; cases e296; replace p296 := eq_true p296; replace q296 := eq_true q296; go_wp2; repeat (go_quiet (fail); try go_wp2)
            go_roundg k2; case measure => have := HJ2.1; have := HK2.1; omega
            case rel => exact ⟨(wrap64 (zB + 1)), (by rfl), H', ⟨by have := HJ2.1; have := HK2.1; omega⟩, ⟨by (with_reducible repeat (apply zi)); exact HO_6.1⟩, ⟨by (with_reducible repeat (apply zi)); exact HO_7.1⟩, ⟨by repeat ((with_reducible first | exact HB.1 | apply za))⟩⟩
          · rw [if_neg c21] at H; exact absurd H (by simp)
         · rw [if_neg c20] at H; exact absurd H (by simp)
        · rw [if_neg c19] at H; exact absurd H (by simp)
       ·
        rw [if_neg c18] at H; have c18b0 : decide (zB < (t289.length : Int)) = false := decide_eq_false c18; clear c18; simp only [kk, Prod.mk.injEq] at H; obtain ⟨rfl, rfl⟩ := H; go_wp2; repeat (go_quiet (fail); try go_wp2)
        go_ret2; exact ⟨by rfl, by exact HB.1⟩
    ·
     rw [if_neg c13] at H; have c13b0 : ((t289.length : Int) == (t292.length : Int)) = false := beq_eq_false_iff_ne.mpr c13; have c13b1 : ((t289.length : Int) != (t292.length : Int)) = true := bne_iff_ne.mpr c13; have c13b2 : (t289.length == t292.length) = false := by (simp at c13 ⊢; omega)
     simp only [kk, Prod.mk.injEq] at H; obtain ⟨rfl, rfl⟩ := H; go_wp2_with (first | (go_at_call 61; (with_reducible refine (spec_l3Fewest.calls kj2 _ _ l0 t289 _ ?side1 ?side2 A11.1).mono ?_); (case side1 => repeat (exact (zh HR0.1 HB.1))); (case side2 => exact HC0.1); rintro e w23 ⟨v290, rfl, ho0, hb⟩; have zC := kz (zm ho0 (zl HB.1)); replace HB := kz (zf HB.1 hb); (try clear ho0)) | (go_at_call 61; (with_reducible refine (spec_l3Fewest.calls kj2 _ _ l1 t292 _ ?side1 ?side2 A12.1).mono ?_); (case side1 => repeat (exact (zh HR1.1 HB.1))); (case side2 => exact HC1.1); rintro e w24 ⟨v293, rfl, ho0, hb⟩; have zD := kz (zm (zw ho0 (zz zC.1)) (zl HB.1)); replace zC := kz (zu zC.1 (zx ho0) hb); replace HB := kz (zf HB.1 hb); obtain ⟨Ao25, co25, eo25⟩ := zp zC.1; subst eo25; obtain ⟨Ao26, co26, eo26⟩ := zp zD.1; subst eo26)); repeat (go_quiet (fail); try go_wp2_with (fail))
     go_ret2; exact ⟨by rfl, by exact HB.1⟩

/-! ### slices_Equal_impl_span_impl_span: function 64 -/
def slices_Equal_impl_span_impl_span.l0 : Nat → List (S74) → List (S74) → Int → Int → Option (Bool)
 | 0, _, _, _, _ => none
 | k + 1, x0, x1, x12, x13 => if x13 < x12 then (if 0 ≤ x13 then (if x13 < (x0.length : Int) then (if x13 < (x1.length : Int) then (if (!(((rd_T74 x0 x13).f0) == ((rd_T74 x1 x13).f0)) || (!(((rd_T74 x0 x13).f1) == ((rd_T74 x1 x13).f1)))) = true then (some false) else (slices_Equal_impl_span_impl_span.l0 k x0 x1 x12 (wrap64 (x13 + 1)))) else (none)) else (none)) else (none)) else (some true)
def slices_Equal_impl_span_impl_span.f (k : Nat) (l0 : List (S74)) (l1 : List (S74)) : Option (Bool) := if (l0.length : Int) = (l1.length : Int) then (slices_Equal_impl_span_impl_span.l0 k l0 l1 (l0.length : Int) 0) else (some false)
theorem slices_Equal_impl_span_impl_span.mono_l : ∀ k, (∀ y0 y1 y2 y3, LeO (slices_Equal_impl_span_impl_span.l0 k y0 y1 y2 y3) (slices_Equal_impl_span_impl_span.l0 (k + 1) y0 y1 y2 y3))
 | 0 => fun _ _ _ _ r h => by simp [slices_Equal_impl_span_impl_span.l0] at h
 | k + 1 => by
  have ih0 := slices_Equal_impl_span_impl_span.mono_l k
  ·
   intro y0 y1 y2 y3; unfold slices_Equal_impl_span_impl_span.l0; repeat' first
   | (with_reducible exact ih0 _ _ _ _)
   | (with_reducible exact zv _)
   | (with_reducible refine zq ?_ ?_)
theorem slices_Equal_impl_span_impl_span.mono : ∀ a0 a1 k, LeO (slices_Equal_impl_span_impl_span.f k a0 a1) (slices_Equal_impl_span_impl_span.f (k + 1) a0 a1) := by
 intro a0 a1 k; have ih0 := slices_Equal_impl_span_impl_span.mono_l k; unfold slices_Equal_impl_span_impl_span.f
 repeat' first
   | (with_reducible exact ih0 _ _ _ _)
   | (with_reducible exact zv _)
   | (with_reducible refine zq ?_ ?_)
theorem slices_Equal_impl_span_impl_span.calls (k : Nat) (A0 : Option Addr) (c0 : Nat) (l0 : List (S74)) (A1 : Option Addr) (c1 : Nat) (l1 : List (S74)) (r : Bool) (w : World) (hr0 : Kd.C k74 w A0 l0.length l0) (hc0 : l0.length ≤ c0) (hr1 : Kd.C k74 w A1 l1.length l1) (hc1 : l1.length ≤ c1) (h : slices_Equal_impl_span_impl_span.f k l0 l1 = some r) :
  Calls Try.prog 64 #[.slice A0 l0.length c0, .slice A1 l1.length c1] w fun e w' => e = .returned (.bool r) ∧ Drawn0 w w' := by
 have hu74 := Try.underlying74; have HR0 := kz hr0; have HC0 := kz hc0; clear hr0 hc0; have HR1 := kz hr1; have HC1 := kz hc1; clear hr1 hc1; have H : (if (l0.length : Int) = (l1.length : Int) then (slices_Equal_impl_span_impl_span.l0 k l0 l1 (l0.length : Int) 0) else (some false)) = some r := h; clear h; by_cases c3 : (l0.length : Int) = (l1.length : Int)
 ·
  rw [if_pos c3] at H; have c3b0 : ((l0.length : Int) == (l1.length : Int)) = true := beq_iff_eq.mpr c3; have c3b1 : ((l0.length : Int) != (l1.length : Int)) = false := bne_eq_false_iff_eq.mpr c3; have c3b2 : (l0.length == l1.length) = true := by (simp at c3 ⊢; omega)
  clear c3; have H' := kz H; clear H; go_enter Try.func64, Try.ntmps64; go_wp2; repeat (go_quiet (fail); try go_wp2)
  go_loopg [13] k (fun kq v13 w' => ∃ (zA : Int), v13 = .int .i64 zA ∧ zt (slices_Equal_impl_span_impl_span.l0 kq l0 l1 (l0.length : Int) zA = some r) ∧ zt (kq ≤ k) ∧ Drawn0 w w'); case atStart => exact ⟨(0), (by rfl), H', ⟨Nat.le_refl _⟩, by repeat (exact Drawn0.refl _)⟩
  case round =>
   clear H'; obtain ⟨zA, rfl, HA, HK1, ⟨m1, rfl⟩⟩ := hrel; cases gk with
   | zero => exact absurd HA.1 (by simp [slices_Equal_impl_span_impl_span.l0])
   | succ k1 =>
    have H := HA.1; clear HA; simp only [slices_Equal_impl_span_impl_span.l0] at H; by_cases c4 : zA < (l0.length : Int)
    ·
     rw [if_pos c4] at H; have c4b0 : decide (zA < (l0.length : Int)) = true := decide_eq_true c4; clear c4; by_cases c5 : 0 ≤ zA
     ·
      rw [if_pos c5] at H; have c5b0 : decide (0 ≤ zA) = true := decide_eq_true c5; clear c5; by_cases c6 : zA < (l0.length : Int)
      ·
       rw [if_pos c6] at H; have c6b0 : decide (zA < (l0.length : Int)) = true := decide_eq_true c6; clear c6; by_cases c7 : zA < (l1.length : Int)
       ·
        rw [if_pos c7] at H; have c7b0 : decide (zA < (l1.length : Int)) = true := decide_eq_true c7; clear c7; by_cases c8 : (!(((rd_T74 l0 zA).f0) == ((rd_T74 l1 zA).f0)) || (!(((rd_T74 l0 zA).f1) == ((rd_T74 l1 zA).f1)))) = true
        ·
         rw [if_pos c8] at H; have c8b0 : (!(((rd_T74 l0 zA).f0) == ((rd_T74 l1 zA).f0)) || (!(((rd_T74 l0 zA).f1) == ((rd_T74 l1 zA).f1)))) = true := c8; clear c8; obtain rfl := Option.some.inj H; have p297 : 0 ≤ (zA : Int) := of_decide_eq_true (by (with_reducible assumption)); have q297 : zA < (l0.length : Int) := of_decide_eq_true (by (with_reducible assumption)); obtain ⟨ad297, e297, hx297_0, hx297_1⟩ := at_T74 HR0.1 zA p297 q297; cases e297; replace p297 := eq_true p297; replace q297 := eq_true q297; have p298 : 0 ≤ (zA : Int) := of_decide_eq_true (by (with_reducible assumption)); have q298 : zA < (l1.length : Int) := of_decide_eq_true (by (with_reducible assumption)); obtain ⟨ad298, e298, hx298_0, hx298_1⟩ := at_T74 HR1.1 zA p298 q298; cases e298; replace p298 := eq_true p298; replace q298 := eq_true q298; go_wp2; repeat (go_quiet (fail); try go_wp2)
         go_ret; exact ⟨by rfl, by repeat (first | exact Drawn0.refl _ | apply Drawn0.step)⟩
        ·
         rw [if_neg c8] at H; have c8b0 : (!(((rd_T74 l0 zA).f0) == ((rd_T74 l1 zA).f0)) || (!(((rd_T74 l0 zA).f1) == ((rd_T74 l1 zA).f1)))) = false := by simpa using c8
         clear c8; have H' := kz H; clear H; have p297 : 0 ≤ (zA : Int) := of_decide_eq_true (by (with_reducible assumption)); have q297 : zA < (l0.length : Int) := of_decide_eq_true (by (with_reducible assumption)); obtain ⟨ad297, e297, hx297_0, hx297_1⟩ := at_T74 HR0.1 zA p297 q297; cases e297; replace p297 := eq_true p297; replace q297 := eq_true q297; have p298 : 0 ≤ (zA : Int) := of_decide_eq_true (by (with_reducible assumption)); have q298 : zA < (l1.length : Int) := of_decide_eq_true (by (with_reducible assumption)); obtain ⟨ad298, e298, hx298_0, hx298_1⟩ := at_T74 HR1.1 zA p298 q298; cases e298; replace p298 := eq_true p298; replace q298 := eq_true q298; go_wp2; repeat (go_quiet (fail); try go_wp2)
         go_roundg k1; case measure => have := HK1.1; omega
         case rel => exact ⟨(wrap64 (zA + 1)), (by rfl), H', ⟨by have := HK1.1; omega⟩, by repeat (first | exact Drawn0.refl _ | apply Drawn0.step)⟩
       · rw [if_neg c7] at H; exact absurd H (by simp)
      · rw [if_neg c6] at H; exact absurd H (by simp)
     · rw [if_neg c5] at H; exact absurd H (by simp)
    ·
     rw [if_neg c4] at H; have c4b0 : decide (zA < (l0.length : Int)) = false := decide_eq_false c4; clear c4; obtain rfl := Option.some.inj H; go_wp2; repeat (go_quiet (fail); try go_wp2)
     go_ret; exact ⟨by rfl, by repeat (first | exact Drawn0.refl _ | apply Drawn0.step)⟩
 ·
  rw [if_neg c3] at H; have c3b0 : ((l0.length : Int) == (l1.length : Int)) = false := beq_eq_false_iff_ne.mpr c3; have c3b1 : ((l0.length : Int) != (l1.length : Int)) = true := bne_iff_ne.mpr c3; have c3b2 : (l0.length == l1.length) = false := by (simp at c3 ⊢; omega)
  obtain rfl := Option.some.inj H; go_enter Try.func64, Try.ntmps64; go_wp2; repeat (go_quiet (fail); try go_wp2)
  go_ret; exact ⟨by rfl, by repeat (exact Drawn0.refl _)⟩

/-! ### impl_SameAddrs: function 27 -/
def impl_SameAddrs.j0 : Nat → List (S45) → List (S45) → Bool → Option (Bool × Bool)
 | 0, _, _, _ => none
 | k + 1, x0, x1, x13 => if x13 = true then (some (false, false)) else ((impl_spansOf.f k x0).bind fun t301 => ((impl_spansOf.f k x1).bind fun t304 => ((slices_Equal_impl_span_impl_span.f k t301 t304).bind fun t307 => (some (t307, true)))))
def impl_SameAddrs.f (k : Nat) (l0 : List (S45)) (l1 : List (S45)) : Option (Bool × Bool) := (impl_arePrefixes.f k l0).bind fun t299 => (if t299 = true then ((impl_arePrefixes.f k l1).bind fun t300 => (impl_SameAddrs.j0 k l0 l1 (!t300))) else (impl_SameAddrs.j0 k l0 l1 true))
theorem impl_SameAddrs.mono_l : ∀ k, (∀ y0 y1 y2, LeO (impl_SameAddrs.j0 k y0 y1 y2) (impl_SameAddrs.j0 (k + 1) y0 y1 y2))
 | 0 => fun _ _ _ r h => by simp [impl_SameAddrs.j0] at h
 | k + 1 => by
  have ih0 := impl_SameAddrs.mono_l k
  ·
   intro y0 y1 y2; unfold impl_SameAddrs.j0; repeat' first
   | (with_reducible exact impl_spansOf.mono _ _)
   | (with_reducible exact slices_Equal_impl_span_impl_span.mono _ _ _)
   | (with_reducible exact zv _)
   | (with_reducible refine zq ?_ ?_)
   | (with_reducible refine zo ?_ (fun _ => ?_))
theorem impl_SameAddrs.mono : ∀ a0 a1 k, LeO (impl_SameAddrs.f k a0 a1) (impl_SameAddrs.f (k + 1) a0 a1) := by
 intro a0 a1 k; have ih0 := impl_SameAddrs.mono_l k; unfold impl_SameAddrs.f
 repeat' first
   | (with_reducible exact ih0 _ _ _)
   | (with_reducible exact impl_arePrefixes.mono _ _)
   | (with_reducible refine zq ?_ ?_)
   | (with_reducible refine zo ?_ (fun _ => ?_))
theorem impl_SameAddrs.calls (k : Nat) (A0 : Option Addr) (c0 : Nat) (l0 : List (S45)) (A1 : Option Addr) (c1 : Nat) (l1 : List (S45)) (r1 : Bool) (r2 : Bool) (w : World) (hr0 : Kd.C k45 w A0 l0.length l0) (hc0 : l0.length ≤ c0) (hr1 : Kd.C k45 w A1 l1.length l1) (hc1 : l1.length ≤ c1) (h : impl_SameAddrs.f k l0 l1 = some (r1, r2)) :
  Calls Try.prog 27 #[.slice A0 l0.length c0, .slice A1 l1.length c1] w fun e w' => e = .returned (.tuple #[.bool r1, .bool r2]) ∧ Below w.heap.size w w' := by
 have HR0 := kz hr0; have HC0 := kz hc0; clear hr0 hc0; have HR1 := kz hr1; have HC1 := kz hc1; clear hr1 hc1; have HB := kz (Below.refl w.heap.size w); have H : ((impl_arePrefixes.f k l0).bind fun t299 => (if t299 = true then ((impl_arePrefixes.f k l1).bind fun t300 => (impl_SameAddrs.j0 k l0 l1 (!t300))) else (impl_SameAddrs.j0 k l0 l1 true))) = some (r1, r2) := h; clear h; have HC3 := kz H; clear H; go_enter Try.func27, Try.ntmps27; go_upto_region 1 with (fail)
 go_cut [13] (fun v13 wc => ∃ (kq : Nat) (x13_2 : Bool), v13 = .bool x13_2 ∧ zt (impl_SameAddrs.j0 kq l0 l1 x13_2 = some (r1, r2)) ∧ zt (kq ≤ k) ∧ zt (Below w.heap.size w wc))
 case first =>
  have H := HC3.1; clear HC3; replace H := ky.mp H; obtain ⟨t299, A40, H⟩ := H; replace H : (if t299 = true then ((impl_arePrefixes.f k l1).bind fun t300 => (impl_SameAddrs.j0 k l0 l1 (!t300))) else (impl_SameAddrs.j0 k l0 l1 true)) = some (r1, r2) := H; have A4 := kz A40; clear A40; by_cases c5 : t299 = true
  ·
   subst c5; have H1 : ((impl_arePrefixes.f k l1).bind fun t300 => (impl_SameAddrs.j0 k l0 l1 (!t300))) = some (r1, r2) := by rw [if_pos rfl] at H; exact H
   clear H; have H := H1; clear H1; replace H := ky.mp H; obtain ⟨t300, A60, H⟩ := H; replace H : (impl_SameAddrs.j0 k l0 l1 (!t300)) = some (r1, r2) := H; have A6 := kz A60; clear A60; have H' := kz H; clear H; go_wp2_with (first | ((with_reducible refine zr (f := 54) rfl ?_); refine zy (some 7) rfl rfl Try.func54 (by kernel_rfl) rfl #[.slice A0 l0.length c0] rfl (by (try simp only [kj, kv, kh]); rfl) ?_; (with_reducible refine (impl_arePrefixes.calls k _ _ l0 true _ ?side1 ?side2 A4.1).mono ?_); (case side1 => repeat (exact (zh HR0.1 HB.1))); (case side2 => exact HC0.1); rintro e w7 ⟨rfl, hb⟩; refine ⟨_, rfl, ?_⟩; replace HB := kz (zf HB.1 hb); (try clear hi)) | (go_at_call 54; (with_reducible refine (impl_arePrefixes.calls k _ _ l1 t300 _ ?side1 ?side2 A6.1).mono ?_); (case side1 => repeat (exact (zh HR1.1 HB.1))); (case side2 => exact HC1.1); rintro e w8 ⟨rfl, hb⟩; replace HB := kz (zf HB.1 hb); (try clear hi))); go_meet; case rel => exact ⟨_, (!t300), (by rfl), H', ⟨by omega⟩, ⟨by exact HB.1⟩⟩
  ·
   replace c5 := kg.mpr c5; subst c5; have H1 : (impl_SameAddrs.j0 k l0 l1 true) = some (r1, r2) := by rw [if_neg (show ¬ (false = true) by decide)] at H; exact H
   clear H; have H := H1; clear H1; have H' := kz H; clear H; go_wp2_with (((with_reducible refine zr (f := 54) rfl ?_); refine zy (some 7) rfl rfl Try.func54 (by kernel_rfl) rfl #[.slice A0 l0.length c0] rfl (by (try simp only [kj, kv, kh]); rfl) ?_; (with_reducible refine (impl_arePrefixes.calls k _ _ l0 false _ ?side1 ?side2 A4.1).mono ?_); (case side1 => repeat (exact (zh HR0.1 HB.1))); (case side2 => exact HC0.1); rintro e w9 ⟨rfl, hb⟩; refine ⟨_, rfl, ?_⟩; replace HB := kz (zf HB.1 hb); (try clear hi))); go_meet; case rel => exact ⟨_, (true), (by rfl), H', ⟨by omega⟩, ⟨by exact HB.1⟩⟩
 case rest =>
  clear HC3; obtain ⟨kq, x13_2, rfl, HA, HJ2, HB⟩ := hcut; cases kq with
  | zero => exact absurd HA.1 (by simp [impl_SameAddrs.j0])
  | succ kj2 =>
   have H := HA.1; clear HA; simp only [impl_SameAddrs.j0] at H; by_cases c10 : x13_2 = true
   ·
    subst c10; have H1 : (some (false, false)) = some (r1, r2) := by rw [if_pos rfl] at H; exact H
    clear H; have H := H1; clear H1; simp only [kk, Prod.mk.injEq] at H; obtain ⟨rfl, rfl⟩ := H; go_wp2; go_ret2; exact ⟨by rfl, by exact HB.1⟩
   ·
    replace c10 := kg.mpr c10; subst c10; have H1 : ((impl_spansOf.f kj2 l0).bind fun t301 => ((impl_spansOf.f kj2 l1).bind fun t304 => ((slices_Equal_impl_span_impl_span.f kj2 t301 t304).bind fun t307 => (some (t307, true))))) = some (r1, r2) := by rw [if_neg (show ¬ (false = true) by decide)] at H; exact H
    clear H; have H := H1; clear H1; replace H := ky.mp H; obtain ⟨t301, A110, H⟩ := H; replace H : ((impl_spansOf.f kj2 l1).bind fun t304 => ((slices_Equal_impl_span_impl_span.f kj2 t301 t304).bind fun t307 => (some (t307, true)))) = some (r1, r2) := H; have A11 := kz A110; clear A110; replace H := ky.mp H; obtain ⟨t304, A120, H⟩ := H; replace H : ((slices_Equal_impl_span_impl_span.f kj2 t301 t304).bind fun t307 => (some (t307, true))) = some (r1, r2) := H; have A12 := kz A120; clear A120; replace H := ky.mp H; obtain ⟨t307, A130, H⟩ := H; replace H : (some (t307, true)) = some (r1, r2) := H; have A13 := kz A130; clear A130; simp only [kk, Prod.mk.injEq] at H; obtain ⟨rfl, rfl⟩ := H; go_wp2_with (first | ((with_reducible refine zr (f := 63) rfl ?_); refine zy (some 15) rfl rfl Try.func63 (by kernel_rfl) rfl #[.slice A0 l0.length c0] rfl (by (try simp only [kj, kv, kh]); rfl) ?_; (with_reducible refine (impl_spansOf.calls kj2 _ _ l0 t301 _ ?side1 ?side2 A11.1).mono ?_); (case side1 => repeat (exact (zh HR0.1 HB.1))); (case side2 => exact HC0.1); rintro e w14 ⟨v302, rfl, ho0, hb⟩; refine ⟨_, rfl, ?_⟩; have zE := kz (zm ho0 (zl HB.1)); replace HB := kz (zf HB.1 hb); (try clear ho0)) | ((with_reducible refine zr (f := 63) rfl ?_); refine zy (some 17) rfl rfl Try.func63 (by kernel_rfl) rfl #[.slice A1 l1.length c1] rfl (by (try simp only [kj, kv, kh]); rfl) ?_; (with_reducible refine (impl_spansOf.calls kj2 _ _ l1 t304 _ ?side1 ?side2 A12.1).mono ?_); (case side1 => repeat (exact (zh HR1.1 HB.1))); (case side2 => exact HC1.1); rintro e w15 ⟨v305, rfl, ho0, hb⟩; refine ⟨_, rfl, ?_⟩; have HO306 := kz (zm (zw ho0 (zz zE.1)) (zl HB.1)); replace zE := kz (zu zE.1 (zx ho0) hb); replace HB := kz (zf HB.1 hb); obtain ⟨Ao16, co16, eo16⟩ := zp zE.1; subst eo16; obtain ⟨Ao17, co17, eo17⟩ := zp HO306.1; subst eo17) | ((with_reducible refine zr (f := 64) rfl ?_); refine zy (some 18) rfl rfl Try.func64 (by kernel_rfl) rfl #[.slice Ao16 t301.length co16, .slice Ao17 t304.length co17] rfl (by (try simp only [kj, kv, kh]); rfl) ?_; (with_reducible refine (slices_Equal_impl_span_impl_span.calls kj2 _ _ t301 _ _ t304 t307 _ ?side1 ?side2 ?side3 ?side4 A13.1).mono ?_); (case side1 => repeat (exact (zs zE.1).2.2)); (case side2 => exact (zs zE.1).2.1); (case side3 => repeat (exact (zs HO306.1).2.2)); (case side4 => exact (zs HO306.1).2.1); rintro e w' ⟨rfl, ⟨nd, rfl⟩⟩; refine ⟨_, rfl, ?_⟩)); go_ret2; exact ⟨by rfl, by repeat ((with_reducible first | exact HB.1 | apply za))⟩

/-! ### spec_FewestOf: function 28 -/
def spec_FewestOf.f (k : Nat) (l0 : List (S45)) : Option ((List (S45)) × Bool) := (spec_l3Good.f k l0).bind fun t308 => (if t308 = true then ((spec_l3Fewest.f k l0).bind fun t309 => (some (t309, true))) else (some (([] : List (S45)), false)))
theorem spec_FewestOf.mono : ∀ a0 k, LeO (spec_FewestOf.f k a0) (spec_FewestOf.f (k + 1) a0) := by
 intro a0 k; unfold spec_FewestOf.f
 repeat' first
   | (with_reducible exact spec_l3Fewest.mono _ _)
   | (with_reducible exact spec_l3Good.mono _ _)
   | (with_reducible exact zv _)
   | (with_reducible refine zq ?_ ?_)
   | (with_reducible refine zo ?_ (fun _ => ?_))
theorem spec_FewestOf.calls (k : Nat) (A0 : Option Addr) (c0 : Nat) (l0 : List (S45)) (r1 : List (S45)) (r2 : Bool) (w : World) (hr0 : Kd.C k45 w A0 l0.length l0) (hc0 : l0.length ≤ c0) (h : spec_FewestOf.f k l0 = some (r1, r2)) :
  Calls Try.prog 28 #[.slice A0 l0.length c0] w fun e w' => ∃ v0_ : Value, e = .returned (.tuple #[v0_, .bool r2]) ∧ Kd.R k45 45 w' w.heap.size (fun _ => True) v0_ r1 ∧ Below w.heap.size w w' := by
 have HR0 := kz hr0; have HC0 := kz hc0; clear hr0 hc0; have HB := kz (Below.refl w.heap.size w); have H : ((spec_l3Good.f k l0).bind fun t308 => (if t308 = true then ((spec_l3Fewest.f k l0).bind fun t309 => (some (t309, true))) else (some (([] : List (S45)), false)))) = some (r1, r2) := h; clear h; replace H := ky.mp H; obtain ⟨t308, A20, H⟩ := H; replace H : (if t308 = true then ((spec_l3Fewest.f k l0).bind fun t309 => (some (t309, true))) else (some (([] : List (S45)), false))) = some (r1, r2) := H; have A2 := kz A20; clear A20; by_cases c3 : t308 = true
 ·
  subst c3; have H1 : ((spec_l3Fewest.f k l0).bind fun t309 => (some (t309, true))) = some (r1, r2) := by rw [if_pos rfl] at H; exact H
  clear H; have H := H1; clear H1; replace H := ky.mp H; obtain ⟨t309, A40, H⟩ := H; replace H : (some (t309, true)) = some (r1, r2) := H; have A4 := kz A40; clear A40; simp only [kk, Prod.mk.injEq] at H; obtain ⟨rfl, rfl⟩ := H; go_enter Try.func28, Try.ntmps28; go_wp2_with (first | ((with_reducible refine zr (f := 44) rfl ?_); refine zy (some 5) rfl rfl Try.func44 (by kernel_rfl) rfl #[.slice A0 l0.length c0] rfl (by (try simp only [kj, kv, kh]); rfl) ?_; (with_reducible refine (spec_l3Good.calls k _ _ l0 true _ ?side1 ?side2 A2.1).mono ?_); (case side1 => repeat (exact HR0.1)); (case side2 => exact HC0.1); rintro e w5 ⟨rfl, hb⟩; refine ⟨_, rfl, ?_⟩; replace HB := kz (zf HB.1 hb); (try clear hi)) | ((with_reducible refine zr (f := 61) rfl ?_); refine zy (some 8) rfl rfl Try.func61 (by kernel_rfl) rfl #[.slice A0 l0.length c0] rfl (by (try simp only [kj, kv, kh]); rfl) ?_; (with_reducible refine (spec_l3Fewest.calls k _ _ l0 t309 _ ?side1 ?side2 A4.1).mono ?_); (case side1 => repeat (exact (zh HR0.1 HB.1))); (case side2 => exact HC0.1); rintro e w6 ⟨v310, rfl, ho0, hb⟩; refine ⟨_, rfl, ?_⟩; have HO311 := kz (zm ho0 (zl HB.1)); replace HB := kz (zf HB.1 hb); (try clear ho0))); go_ret2; exact ⟨_, by rfl, by exact HO311.1, by exact HB.1⟩
 ·
  replace c3 := kg.mpr c3; subst c3; have H1 : (some (([] : List (S45)), false)) = some (r1, r2) := by rw [if_neg (show ¬ (false = true) by decide)] at H; exact H
  clear H; have H := H1; clear H1; simp only [kk, Prod.mk.injEq] at H; obtain ⟨rfl, rfl⟩ := H; go_enter Try.func28, Try.ntmps28; go_wp2_with (((with_reducible refine zr (f := 44) rfl ?_); refine zy (some 5) rfl rfl Try.func44 (by kernel_rfl) rfl #[.slice A0 l0.length c0] rfl (by (try simp only [kj, kv, kh]); rfl) ?_; (with_reducible refine (spec_l3Good.calls k _ _ l0 false _ ?side1 ?side2 A2.1).mono ?_); (case side1 => repeat (exact HR0.1)); (case side2 => exact HC0.1); rintro e w7 ⟨rfl, hb⟩; refine ⟨_, rfl, ?_⟩; replace HB := kz (zf HB.1 hb); (try clear hi))); go_ret2; exact ⟨_, by rfl, by exact Kd.R_nil _ _ _ _ _, by exact HB.1⟩

end Go.Proofs.Ytabejlfejlpkeaa.PFnFewest
