/- Go functions told by Lean functions, printed by a program. No condition but what each statement says. -/
import Derived.Test.YtabejlfejlpkeaaYFnFewestx3
import Derived.Test.YtabejlfejlpkeaaYFnFewestx8
namespace Go.Proofs.Ytabejlfejlpkeaa.PFnFewest
open Go.RowKit Go.Proofs.YtabejlfejlpkeaaW.PrintWords Go.Proofs.YtabejlfejlpkeaaW.PrintLast Go.Proofs.YtabejlfejlpkeaaW.PrintMore
open Aside0 renaming mk → kz
open Option renaming bind_eq_some_iff → ky
open Option.some renaming inj → kj
open Bool renaming eq_false_iff → kk
open List renaming map_toArray → kv, map_cons → kh, map_nil → kf
open Try renaming prog → kg, underlying45 → ke
set_option maxHeartbeats 8000000
set_option maxRecDepth 100000
open Go.Proofs.YtabejlfejlpkeaaW.PrintWords renaming pw_below_drewN → za, below_drew1 → zb, below_alloc → zc, below_step → zd, blk_frozen → zh, blk_cell → zi, box_event → zk, blk_drewN → zl, blk_alloc → zm, Aside0 → zn, gate_dst → zo, blk_drew → zp
open Go.Proofs.YtabejlfejlpkeaaW.PrintWords.LeO renaming bind → ze, none → zf, ite → zg, refl → zj
attribute [local go_sem] max2_int min2_int max_two min_two max_three min_three max_four min_four
set_option linter.unusedVariables false
set_option linter.unusedSimpArgs false

/-! ### spec_SetHas: function 18 -/
mutual
def spec_SetHas.j0 : Nat → List (S45) → Int → Bool → Option (Bool × Bool)
 | 0, _, _, _ => none
 | k + 1, x0, x1, x15 => if x15 = true then (some (false, false)) else (spec_SetHas.l0 k x1 x0 (x0.length : Int) 0)
def spec_SetHas.l0 : Nat → Int → List (S45) → Int → Int → Option (Bool × Bool)
 | 0, _, _, _, _ => none
 | k + 1, x1, x16, x17, x18 => if x18 < x17 then (if 0 ≤ x18 then (if x18 < (x16.length : Int) then ((spec_l1HasAddr.f ((rd_T45 x16 x18).f0) ((rd_T45 x16 x18).f1) x1).bind fun t189 => (if t189 = true then (some (true, true)) else (spec_SetHas.l0 k x1 x16 x17 (wrap64 (x18 + 1))))) else (none)) else (none)) else (some (false, true))
end
def spec_SetHas.f (k : Nat) (l0 : List (S45)) (a1 : Int) : Option (Bool × Bool) := (spec_l3Good.f k l0).bind fun t185 => (if t185 = true then ((spec_l1Addr.f a1).bind fun t186 => (spec_SetHas.j0 k l0 a1 (!t186))) else (spec_SetHas.j0 k l0 a1 true))
theorem spec_SetHas.mono_l : ∀ k, (∀ y0 y1 y2, LeO (spec_SetHas.j0 k y0 y1 y2) (spec_SetHas.j0 (k + 1) y0 y1 y2)) ∧ (∀ y0 y1 y2 y3, LeO (spec_SetHas.l0 k y0 y1 y2 y3) (spec_SetHas.l0 (k + 1) y0 y1 y2 y3))
 | 0 => ⟨fun _ _ _ r h => by simp [spec_SetHas.j0] at h, fun _ _ _ _ r h => by simp [spec_SetHas.l0] at h⟩
 | k + 1 => by
  obtain ⟨ih0, ih1⟩ := spec_SetHas.mono_l k; refine ⟨?_, ?_⟩
  ·
   intro y0 y1 y2; unfold spec_SetHas.j0; repeat' first
   | (with_reducible exact ih1 _ _ _ _)
   | (with_reducible exact zj _)
   | (with_reducible refine zg ?_ ?_)
  ·
   intro y0 y1 y2 y3; unfold spec_SetHas.l0; repeat' first
   | (with_reducible exact ih1 _ _ _ _)
   | (with_reducible exact zj _)
   | (with_reducible refine zg ?_ ?_)
   | (with_reducible refine ze ?_ (fun _ => ?_))
theorem spec_SetHas.mono : ∀ a0 a1 k, LeO (spec_SetHas.f k a0 a1) (spec_SetHas.f (k + 1) a0 a1) := by
 intro a0 a1 k; obtain ⟨ih0, ih1⟩ := spec_SetHas.mono_l k; unfold spec_SetHas.f
 repeat' first
   | (with_reducible exact ih0 _ _ _)
   | (with_reducible exact spec_l3Good.mono _ _)
   | (with_reducible exact zj _)
   | (with_reducible refine zg ?_ ?_)
   | (with_reducible refine ze ?_ (fun _ => ?_))
theorem spec_SetHas.calls (k : Nat) (A0 : Option Addr) (c0 : Nat) (l0 : List (S45)) (a1 : Int) (r1 : Bool) (r2 : Bool) (w : World) (hr0 : Kd.C k45 w A0 l0.length l0) (hc0 : l0.length ≤ c0) (h : spec_SetHas.f k l0 a1 = some (r1, r2)) :
  Calls kg 18 #[.slice A0 l0.length c0, .int .i64 a1] w fun e w' => e = .returned (.tuple #[.bool r1, .bool r2]) ∧ Below w.heap.size w w' := by
 have hu45 := ke; have HR0 := kz hr0; have HC0 := kz hc0; clear hr0 hc0; have HB := kz (Below.refl w.heap.size w); have H : ((spec_l3Good.f k l0).bind fun t185 => (if t185 = true then ((spec_l1Addr.f a1).bind fun t186 => (spec_SetHas.j0 k l0 a1 (!t186))) else (spec_SetHas.j0 k l0 a1 true))) = some (r1, r2) := h; clear h; have HC3 := kz H; clear H; go_enter Try.func18, Try.ntmps18; go_upto_region 1 with (fail)
 go_cut [15] (fun v15 wc => ∃ (kq : Nat) (x15_2 : Bool), v15 = .bool x15_2 ∧ zn (spec_SetHas.j0 kq l0 a1 x15_2 = some (r1, r2)) ∧ zn (kq ≤ k) ∧ zn (Below w.heap.size w wc))
 case first =>
  have H := HC3.1; clear HC3; replace H := ky.mp H; obtain ⟨t185, A40, H⟩ := H; replace H : (if t185 = true then ((spec_l1Addr.f a1).bind fun t186 => (spec_SetHas.j0 k l0 a1 (!t186))) else (spec_SetHas.j0 k l0 a1 true)) = some (r1, r2) := H; have A4 := kz A40; clear A40; by_cases c5 : t185 = true
  ·
   subst c5; have H1 : ((spec_l1Addr.f a1).bind fun t186 => (spec_SetHas.j0 k l0 a1 (!t186))) = some (r1, r2) := by rw [if_pos rfl] at H; exact H
   clear H; have H := H1; clear H1; replace H := ky.mp H; obtain ⟨t186, A60, H⟩ := H; replace H : (spec_SetHas.j0 k l0 a1 (!t186)) = some (r1, r2) := H; have A6 := kz A60; clear A60; have H' := kz H; clear H; go_wp2_with (first | ((with_reducible refine gate_callee (f := 44) rfl ?_); refine goesL_ (some 9) rfl rfl Try.func44 (by kernel_rfl) rfl #[.slice A0 l0.length c0] rfl (by (try simp only [kv, kh, kf]); rfl) ?_; (with_reducible refine (spec_l3Good.calls k _ _ l0 true _ ?side1 ?side2 A4.1).mono ?_); (case side1 => repeat (exact (Kd.C_below HR0.1 HB.1))); (case side2 => exact HC0.1); rintro e w7 ⟨rfl, hb⟩; refine ⟨_, rfl, ?_⟩; replace HB := kz (zd HB.1 hb); (try clear hi)) | (go_at_call 52; (with_reducible refine (spec_l1Addr.calls a1 t186 _ A6.1).mono ?_); rintro e w' ⟨rfl, ⟨nd, rfl⟩⟩)); go_meet; case rel => exact ⟨_, (!t186), (by rfl), H', ⟨by omega⟩, ⟨by repeat ((with_reducible first | exact HB.1 | apply za))⟩⟩
  ·
   replace c5 := kk.mpr c5; subst c5; have H1 : (spec_SetHas.j0 k l0 a1 true) = some (r1, r2) := by rw [if_neg (show ¬ (false = true) by decide)] at H; exact H
   clear H; have H := H1; clear H1; have H' := kz H; clear H; go_wp2_with (((with_reducible refine gate_callee (f := 44) rfl ?_); refine goesL_ (some 9) rfl rfl Try.func44 (by kernel_rfl) rfl #[.slice A0 l0.length c0] rfl (by (try simp only [kv, kh, kf]); rfl) ?_; (with_reducible refine (spec_l3Good.calls k _ _ l0 false _ ?side1 ?side2 A4.1).mono ?_); (case side1 => repeat (exact (Kd.C_below HR0.1 HB.1))); (case side2 => exact HC0.1); rintro e w8 ⟨rfl, hb⟩; refine ⟨_, rfl, ?_⟩; replace HB := kz (zd HB.1 hb); (try clear hi))); go_meet; case rel => exact ⟨_, (true), (by rfl), H', ⟨by omega⟩, ⟨by exact HB.1⟩⟩
 case rest =>
  clear HC3; obtain ⟨kq, x15_2, rfl, HA, HJ2, HB⟩ := hcut; cases kq with
  | zero => exact absurd HA.1 (by simp [spec_SetHas.j0])
  | succ kj2 =>
   have H := HA.1; clear HA; simp only [spec_SetHas.j0] at H; by_cases c9 : x15_2 = true
   ·
    subst c9; have H1 : (some (false, false)) = some (r1, r2) := by rw [if_pos rfl] at H; exact H
    clear H; have H := H1; clear H1; simp only [Option.some.injEq, Prod.mk.injEq] at H; obtain ⟨rfl, rfl⟩ := H; go_wp2; go_ret2; exact ⟨by rfl, by exact HB.1⟩
   ·
    replace c9 := kk.mpr c9; subst c9; have H1 : (spec_SetHas.l0 kj2 a1 l0 (l0.length : Int) 0) = some (r1, r2) := by rw [if_neg (show ¬ (false = true) by decide)] at H; exact H
    clear H; have H := H1; clear H1; have H' := kz H; clear H; go_wp2; go_loopg [18] kj2 (fun kq v18 w' => ∃ (zq : Int), v18 = .int .i64 zq ∧ zn (spec_SetHas.l0 kq a1 l0 (l0.length : Int) zq = some (r1, r2)) ∧ zn (kq ≤ kj2) ∧ zn (Below w.heap.size w w')); case atStart => exact ⟨(0), (by rfl), H', ⟨Nat.le_refl _⟩, ⟨by exact HB.1⟩⟩
    case round =>
     clear H'; obtain ⟨zq, rfl, HA, HK2, HB⟩ := hrel; cases gk with
     | zero => exact absurd HA.1 (by simp [spec_SetHas.l0])
     | succ k2 =>
      have H := HA.1; clear HA; simp only [spec_SetHas.l0] at H; by_cases c10 : zq < (l0.length : Int)
      ·
       rw [if_pos c10] at H; have c10b0 : decide (zq < (l0.length : Int)) = true := decide_eq_true c10; clear c10; by_cases c11 : 0 ≤ zq
       ·
        rw [if_pos c11] at H; have c11b0 : decide (0 ≤ zq) = true := decide_eq_true c11; clear c11; by_cases c12 : zq < (l0.length : Int)
        ·
         rw [if_pos c12] at H; have c12b0 : decide (zq < (l0.length : Int)) = true := decide_eq_true c12; clear c12; replace H := ky.mp H; obtain ⟨t189, A130, H⟩ := H; replace H : (if t189 = true then (some (true, true)) else (spec_SetHas.l0 k2 a1 l0 (l0.length : Int) (wrap64 (zq + 1)))) = some (r1, r2) := H; have A13 := kz A130; clear A130; by_cases c14 : t189 = true
         ·
          subst c14; have H1 : (some (true, true)) = some (r1, r2) := by rw [if_pos rfl] at H; exact H
          clear H; have H := H1; clear H1; simp only [Option.some.injEq, Prod.mk.injEq] at H; obtain ⟨rfl, rfl⟩ := H; have p187 : 0 ≤ (zq : Int) := of_decide_eq_true (by (with_reducible assumption)); have q187 : zq < (l0.length : Int) := of_decide_eq_true (by (with_reducible assumption)); obtain ⟨ad187, e187, hx187_0, hx187_1⟩ := at_T45 HR0.1 zq p187 q187; cases e187; replace hx187_0 := (HB.1.cell (World.block_lt_of_cell? w _ hx187_0)).trans hx187_0; replace hx187_1 := (HB.1.cell (World.block_lt_of_cell? w _ hx187_1)).trans hx187_1; replace p187 := eq_true p187; replace q187 := eq_true q187; go_wp2_with (first | ((with_reducible refine zo (N := 7) rfl ?_); refine zk ?hg (N := 7) ?hd (cs := #[.int .i64 0, .int .i64 0]) (t := 45) ?hr ?_; (case hd => rfl); (case hg => rfl); (case hr => (go_simp; done)); intro gb188 hg w15 hbox hb; have zr := kz hbox; have zt := kz ((by rw [hg]; exact (below_size HB.1) : w.heap.size ≤ gb188)); replace HB := kz (zd HB.1 hb); clear hb hbox hg; have hcz16_0 : w15.cell? ⟨gb188, 0, none⟩ = some (.int .i64 0) := (zi zr.1 0).trans rfl; have hcz16_1 : w15.cell? ⟨gb188, 1, none⟩ = some (.int .i64 0) := (zi zr.1 1).trans rfl; have hfz16_0 := zh zr.1 0; have hfz16_1 := zh zr.1 1) | ((with_reducible refine gate_callee (f := 53) rfl ?_); refine goesL_ (some 24) rfl rfl Try.func53 (by kernel_rfl) rfl #[.agg #[.int .i64 ((rd_T45 l0 zq).f0), .int .i64 ((rd_T45 l0 zq).f1)], .int .i64 a1] rfl (by (try simp only [kv, kh, kf]); rfl) ?_; (with_reducible refine (spec_l1HasAddr.calls ((rd_T45 l0 zq).f0) ((rd_T45 l0 zq).f1) a1 true _ A13.1).mono ?_); rintro e w17 ⟨rfl, hb⟩; refine ⟨_, rfl, ?_⟩; replace zr := kz (blk_below (g := gb188) (o := .cells #[.int .i64 ((rd_T45 l0 zq).f0), .int .i64 ((rd_T45 l0 zq).f1)] 45 (0, 0)) (by refine blk_put (cs := #[.int .i64 ((rd_T45 l0 zq).f0), .int .i64 0]) ?_ 1 _ rfl; refine blk_put (cs := #[.int .i64 0, .int .i64 0]) ?_ 0 _ rfl; exact zr.1) hb); replace HB := kz (zd (by repeat ((with_reducible first | exact HB.1 | refine below_set ?_ zt.1))) hb); (try clear hi))); go_ret2; exact ⟨by rfl, by exact HB.1⟩
         ·
          replace c14 := kk.mpr c14; subst c14; have H1 : (spec_SetHas.l0 k2 a1 l0 (l0.length : Int) (wrap64 (zq + 1))) = some (r1, r2) := by rw [if_neg (show ¬ (false = true) by decide)] at H; exact H
          clear H; have H := H1; clear H1; have H' := kz H; clear H; have p187 : 0 ≤ (zq : Int) := of_decide_eq_true (by (with_reducible assumption)); have q187 : zq < (l0.length : Int) := of_decide_eq_true (by (with_reducible assumption)); obtain ⟨ad187, e187, hx187_0, hx187_1⟩ := at_T45 HR0.1 zq p187 q187; cases e187; replace hx187_0 := (HB.1.cell (World.block_lt_of_cell? w _ hx187_0)).trans hx187_0; replace hx187_1 := (HB.1.cell (World.block_lt_of_cell? w _ hx187_1)).trans hx187_1; replace p187 := eq_true p187; replace q187 := eq_true q187; go_wp2_with (first | ((with_reducible refine zo (N := 7) rfl ?_); refine zk ?hg (N := 7) ?hd (cs := #[.int .i64 0, .int .i64 0]) (t := 45) ?hr ?_; (case hd => rfl); (case hg => rfl); (case hr => (go_simp; done)); intro gb188 hg w18 hbox hb; have zr := kz hbox; have zt := kz ((by rw [hg]; exact (below_size HB.1) : w.heap.size ≤ gb188)); replace HB := kz (zd HB.1 hb); clear hb hbox hg; have hcz19_0 : w18.cell? ⟨gb188, 0, none⟩ = some (.int .i64 0) := (zi zr.1 0).trans rfl; have hcz19_1 : w18.cell? ⟨gb188, 1, none⟩ = some (.int .i64 0) := (zi zr.1 1).trans rfl; have hfz19_0 := zh zr.1 0; have hfz19_1 := zh zr.1 1) | ((with_reducible refine gate_callee (f := 53) rfl ?_); refine goesL_ (some 24) rfl rfl Try.func53 (by kernel_rfl) rfl #[.agg #[.int .i64 ((rd_T45 l0 zq).f0), .int .i64 ((rd_T45 l0 zq).f1)], .int .i64 a1] rfl (by (try simp only [kv, kh, kf]); rfl) ?_; (with_reducible refine (spec_l1HasAddr.calls ((rd_T45 l0 zq).f0) ((rd_T45 l0 zq).f1) a1 false _ A13.1).mono ?_); rintro e w20 ⟨rfl, hb⟩; refine ⟨_, rfl, ?_⟩; replace HB := kz (zd (by repeat ((with_reducible first | exact HB.1 | refine below_set ?_ zt.1))) hb); (try clear hi))); go_roundg k2; case measure => have := HJ2.1; have := HK2.1; omega
          case rel => exact ⟨(wrap64 (zq + 1)), (by rfl), H', ⟨by have := HJ2.1; have := HK2.1; omega⟩, ⟨by exact HB.1⟩⟩
        · rw [if_neg c12] at H; exact absurd H (by simp)
       · rw [if_neg c11] at H; exact absurd H (by simp)
      · rw [if_neg c10] at H; have c10b0 : decide (zq < (l0.length : Int)) = false := decide_eq_false c10; clear c10; simp only [Option.some.injEq, Prod.mk.injEq] at H; obtain ⟨rfl, rfl⟩ := H; go_wp2; go_ret2; exact ⟨by rfl, by exact HB.1⟩

/-! ### impl_arePrefixes_1: function 83 -/
def impl_arePrefixes_1.f (a0_0 : Int) (a0_1 : Int) : Option (Bool) := (impl_GoodPrefix.f a0_0 a0_1).bind fun t191 => (some (!t191))
theorem impl_arePrefixes_1.calls (a0_0 : Int) (a0_1 : Int) (r : Bool) (w : World) (h : impl_arePrefixes_1.f a0_0 a0_1 = some r) :
  Calls kg 83 #[.agg #[.int .i64 a0_0, .int .i64 a0_1]] w fun e w' => e = .returned (.bool r) ∧ Below w.heap.size w w' := by
 have hu45 := ke; have HB := kz (Below.refl w.heap.size w); have H : ((impl_GoodPrefix.f a0_0 a0_1).bind fun t191 => (some (!t191))) = some r := h; clear h; replace H := ky.mp H; obtain ⟨t191, A20, H⟩ := H; replace H : (some (!t191)) = some r := H; have A2 := kz A20; clear A20; obtain rfl := kj H; go_enter Try.func83, Try.ntmps83; go_wp2_with (first | ((with_reducible refine zo (N := 1) rfl ?_); refine zk ?hg (N := 1) ?hd (cs := #[.int .i64 a0_0, .int .i64 a0_1]) (t := 45) ?hr ?_; (case hd => rfl); (case hg => rfl); (case hr => (go_simp; done)); intro gb190 hg w3 hbox hb; replace HB := kz (zd HB.1 hb); have zs := kz hbox; clear hb hbox hg; have hcz4_0 : w3.cell? ⟨gb190, 0, none⟩ = some (.int .i64 a0_0) := (zi zs.1 0).trans rfl; have hcz4_1 : w3.cell? ⟨gb190, 1, none⟩ = some (.int .i64 a0_1) := (zi zs.1 1).trans rfl; have hfz4_0 := zh zs.1 0; have hfz4_1 := zh zs.1 1) | ((with_reducible refine gate_callee (f := 70) rfl ?_); refine goesL_ (some 4) rfl rfl Try.func70 (by kernel_rfl) rfl #[.agg #[.int .i64 a0_0, .int .i64 a0_1]] rfl (by (try simp only [kv, kh, kf]); rfl) ?_; (with_reducible refine (impl_GoodPrefix.calls a0_0 a0_1 t191 _ A2.1).mono ?_); rintro e w5 ⟨rfl, hb⟩; refine ⟨_, rfl, ?_⟩; replace HB := kz (zd HB.1 hb); (try clear hi))); go_ret; exact ⟨by rfl, by exact HB.1⟩

/-! ### slices_IndexFunc_impl_Prefix_impl_Prefix: function 85 -/
def slices_IndexFunc_impl_Prefix_impl_Prefix.l0 : Nat → List (S45) → Int → Int → Option (Int)
 | 0, _, _, _ => none
 | k + 1, x0, x7, x8 => if x8 < x7 then (if 0 ≤ x8 then (if x8 < (x0.length : Int) then ((impl_arePrefixes_1.f ((rd_T45 x0 x8).f0) ((rd_T45 x0 x8).f1)).bind fun t193 => (if t193 = true then (some x8) else (slices_IndexFunc_impl_Prefix_impl_Prefix.l0 k x0 x7 (wrap64 (x8 + 1))))) else (none)) else (none)) else (some (-1))
def slices_IndexFunc_impl_Prefix_impl_Prefix.f (k : Nat) (l0 : List (S45))  : Option (Int) := slices_IndexFunc_impl_Prefix_impl_Prefix.l0 k l0 (l0.length : Int) 0
theorem slices_IndexFunc_impl_Prefix_impl_Prefix.mono_l : ∀ k, (∀ y0 y1 y2, LeO (slices_IndexFunc_impl_Prefix_impl_Prefix.l0 k y0 y1 y2) (slices_IndexFunc_impl_Prefix_impl_Prefix.l0 (k + 1) y0 y1 y2))
 | 0 => fun _ _ _ r h => by simp [slices_IndexFunc_impl_Prefix_impl_Prefix.l0] at h
 | k + 1 => by
  have ih0 := slices_IndexFunc_impl_Prefix_impl_Prefix.mono_l k
  ·
   intro y0 y1 y2; unfold slices_IndexFunc_impl_Prefix_impl_Prefix.l0; repeat' first
   | (with_reducible exact ih0 _ _ _)
   | (with_reducible exact zj _)
   | (with_reducible refine zg ?_ ?_)
   | (with_reducible refine ze ?_ (fun _ => ?_))
theorem slices_IndexFunc_impl_Prefix_impl_Prefix.mono : ∀ a0 k, LeO (slices_IndexFunc_impl_Prefix_impl_Prefix.f k a0) (slices_IndexFunc_impl_Prefix_impl_Prefix.f (k + 1) a0) := by
 intro a0 k; have ih0 := slices_IndexFunc_impl_Prefix_impl_Prefix.mono_l k; unfold slices_IndexFunc_impl_Prefix_impl_Prefix.f
 repeat' first
   | (with_reducible exact ih0 _ _ _)
theorem slices_IndexFunc_impl_Prefix_impl_Prefix.calls (k : Nat) (A0 : Option Addr) (c0 : Nat) (l0 : List (S45))  (r : Int) (w : World) (hr0 : Kd.C k45 w A0 l0.length l0) (hc0 : l0.length ≤ c0) (h : slices_IndexFunc_impl_Prefix_impl_Prefix.f k l0 = some r) :
  Calls kg 85 #[.slice A0 l0.length c0, .func (.func 83) #[] #[]] w fun e w' => e = .returned (.int .i64 r) ∧ Below w.heap.size w w' := by
 have hu45 := ke; have HR0 := kz hr0; have HC0 := kz hc0; clear hr0 hc0; have HB := kz (Below.refl w.heap.size w); have H : (slices_IndexFunc_impl_Prefix_impl_Prefix.l0 k l0 (l0.length : Int) 0) = some r := h; clear h; have H' := kz H; clear H; go_enter Try.func85, Try.ntmps85; go_wp2; go_loopg [8] k (fun kq v8 w' => ∃ (x8_1 : Int), v8 = .int .i64 x8_1 ∧ zn (slices_IndexFunc_impl_Prefix_impl_Prefix.l0 kq l0 (l0.length : Int) x8_1 = some r) ∧ zn (kq ≤ k) ∧ zn (Below w.heap.size w w')); case atStart => exact ⟨(0), (by rfl), H', ⟨Nat.le_refl _⟩, ⟨by exact HB.1⟩⟩
 case round =>
  clear H'; obtain ⟨x8_1, rfl, HA, HK1, HB⟩ := hrel; cases gk with
  | zero => exact absurd HA.1 (by simp [slices_IndexFunc_impl_Prefix_impl_Prefix.l0])
  | succ k1 =>
   have H := HA.1; clear HA; simp only [slices_IndexFunc_impl_Prefix_impl_Prefix.l0] at H; by_cases c3 : x8_1 < (l0.length : Int)
   ·
    rw [if_pos c3] at H; have c3b0 : decide (x8_1 < (l0.length : Int)) = true := decide_eq_true c3; clear c3; by_cases c4 : 0 ≤ x8_1
    ·
     rw [if_pos c4] at H; have c4b0 : decide (0 ≤ x8_1) = true := decide_eq_true c4; clear c4; by_cases c5 : x8_1 < (l0.length : Int)
     ·
      rw [if_pos c5] at H; have c5b0 : decide (x8_1 < (l0.length : Int)) = true := decide_eq_true c5; clear c5; replace H := ky.mp H; obtain ⟨t193, A60, H⟩ := H; replace H : (if t193 = true then (some x8_1) else (slices_IndexFunc_impl_Prefix_impl_Prefix.l0 k1 l0 (l0.length : Int) (wrap64 (x8_1 + 1)))) = some r := H; have A6 := kz A60; clear A60; by_cases c7 : t193 = true
      ·
       subst c7; have H1 : (some x8_1) = some r := by rw [if_pos rfl] at H; exact H
       clear H; have H := H1; clear H1; obtain rfl := kj H; have p192 : 0 ≤ (x8_1 : Int) := of_decide_eq_true (by (with_reducible assumption)); have q192 : x8_1 < (l0.length : Int) := of_decide_eq_true (by (with_reducible assumption)); obtain ⟨ad192, e192, hx192_0, hx192_1⟩ := at_T45 HR0.1 x8_1 p192 q192; cases e192; replace hx192_0 := (HB.1.cell (World.block_lt_of_cell? w _ hx192_0)).trans hx192_0; replace hx192_1 := (HB.1.cell (World.block_lt_of_cell? w _ hx192_1)).trans hx192_1; replace p192 := eq_true p192; replace q192 := eq_true q192; go_wp2_with ((go_at_call 83; (with_reducible refine (impl_arePrefixes_1.calls ((rd_T45 l0 x8_1).f0) ((rd_T45 l0 x8_1).f1) true _ A6.1).mono ?_); rintro e w8 ⟨rfl, hb⟩; replace HB := kz (zd HB.1 hb); (try clear hi))); go_ret; exact ⟨by rfl, by exact HB.1⟩
      ·
       replace c7 := kk.mpr c7; subst c7; have H1 : (slices_IndexFunc_impl_Prefix_impl_Prefix.l0 k1 l0 (l0.length : Int) (wrap64 (x8_1 + 1))) = some r := by rw [if_neg (show ¬ (false = true) by decide)] at H; exact H
       clear H; have H := H1; clear H1; have H' := kz H; clear H; have p192 : 0 ≤ (x8_1 : Int) := of_decide_eq_true (by (with_reducible assumption)); have q192 : x8_1 < (l0.length : Int) := of_decide_eq_true (by (with_reducible assumption)); obtain ⟨ad192, e192, hx192_0, hx192_1⟩ := at_T45 HR0.1 x8_1 p192 q192; cases e192; replace hx192_0 := (HB.1.cell (World.block_lt_of_cell? w _ hx192_0)).trans hx192_0; replace hx192_1 := (HB.1.cell (World.block_lt_of_cell? w _ hx192_1)).trans hx192_1; replace p192 := eq_true p192; replace q192 := eq_true q192; go_wp2_with ((go_at_call 83; (with_reducible refine (impl_arePrefixes_1.calls ((rd_T45 l0 x8_1).f0) ((rd_T45 l0 x8_1).f1) false _ A6.1).mono ?_); rintro e w9 ⟨rfl, hb⟩; replace HB := kz (zd HB.1 hb); (try clear hi))); go_roundg k1; case measure => have := HK1.1; omega
       case rel => exact ⟨(wrap64 (x8_1 + 1)), (by rfl), H', ⟨by have := HK1.1; omega⟩, ⟨by exact HB.1⟩⟩
     · rw [if_neg c5] at H; exact absurd H (by simp)
    · rw [if_neg c4] at H; exact absurd H (by simp)
   · rw [if_neg c3] at H; have c3b0 : decide (x8_1 < (l0.length : Int)) = false := decide_eq_false c3; clear c3; obtain rfl := kj H; go_wp2; go_ret; exact ⟨by rfl, by exact HB.1⟩

/-! ### slices_ContainsFunc_impl_Prefix_impl_Prefix: function 56 -/
def slices_ContainsFunc_impl_Prefix_impl_Prefix.f (k : Nat) (l0 : List (S45))  : Option (Bool) := (slices_IndexFunc_impl_Prefix_impl_Prefix.f k l0).bind fun t194 => (some (decide (t194 ≥ 0)))
theorem slices_ContainsFunc_impl_Prefix_impl_Prefix.mono : ∀ a0 k, LeO (slices_ContainsFunc_impl_Prefix_impl_Prefix.f k a0) (slices_ContainsFunc_impl_Prefix_impl_Prefix.f (k + 1) a0) := by
 intro a0 k; unfold slices_ContainsFunc_impl_Prefix_impl_Prefix.f
 repeat' first
   | (with_reducible exact slices_IndexFunc_impl_Prefix_impl_Prefix.mono _ _)
   | (with_reducible exact zj _)
   | (with_reducible refine ze ?_ (fun _ => ?_))
theorem slices_ContainsFunc_impl_Prefix_impl_Prefix.calls (k : Nat) (A0 : Option Addr) (c0 : Nat) (l0 : List (S45))  (r : Bool) (w : World) (hr0 : Kd.C k45 w A0 l0.length l0) (hc0 : l0.length ≤ c0) (h : slices_ContainsFunc_impl_Prefix_impl_Prefix.f k l0 = some r) :
  Calls kg 56 #[.slice A0 l0.length c0, .func (.func 83) #[] #[]] w fun e w' => e = .returned (.bool r) ∧ Below w.heap.size w w' := by
 have HR0 := kz hr0; have HC0 := kz hc0; clear hr0 hc0; have HB := kz (Below.refl w.heap.size w); have H : ((slices_IndexFunc_impl_Prefix_impl_Prefix.f k l0).bind fun t194 => (some (decide (t194 ≥ 0)))) = some r := h; clear h; replace H := ky.mp H; obtain ⟨t194, A30, H⟩ := H; replace H : (some (decide (t194 ≥ 0))) = some r := H; have A3 := kz A30; clear A30; obtain rfl := kj H; go_enter Try.func56, Try.ntmps56; go_wp2_with (((with_reducible refine gate_callee (f := 85) rfl ?_); refine goesL_ (some 7) rfl rfl Try.func85 (by kernel_rfl) rfl #[.slice A0 l0.length c0, .func (.func 83) #[] #[]] rfl (by (try simp only [kv, kh, kf]); rfl) ?_; (with_reducible refine (slices_IndexFunc_impl_Prefix_impl_Prefix.calls k _ _ l0  t194 _ ?side1 ?side2 A3.1).mono ?_); (case side1 => repeat (exact HR0.1)); (case side2 => exact HC0.1); rintro e w4 ⟨rfl, hb⟩; refine ⟨_, rfl, ?_⟩; replace HB := kz (zd HB.1 hb); (try clear hi))); go_ret; exact ⟨by rfl, by exact HB.1⟩

/-! ### impl_arePrefixes: function 54 -/
def impl_arePrefixes.f (k : Nat) (l0 : List (S45)) : Option (Bool) := if (l0.length : Int) ≤ 64 then ((slices_ContainsFunc_impl_Prefix_impl_Prefix.f k l0).bind fun t195 => (some (!t195))) else (some false)
theorem impl_arePrefixes.mono : ∀ a0 k, LeO (impl_arePrefixes.f k a0) (impl_arePrefixes.f (k + 1) a0) := by
 intro a0 k; unfold impl_arePrefixes.f
 repeat' first
   | (with_reducible exact slices_ContainsFunc_impl_Prefix_impl_Prefix.mono _ _)
   | (with_reducible exact zj _)
   | (with_reducible refine zg ?_ ?_)
   | (with_reducible refine ze ?_ (fun _ => ?_))
theorem impl_arePrefixes.calls (k : Nat) (A0 : Option Addr) (c0 : Nat) (l0 : List (S45)) (r : Bool) (w : World) (hr0 : Kd.C k45 w A0 l0.length l0) (hc0 : l0.length ≤ c0) (h : impl_arePrefixes.f k l0 = some r) :
  Calls kg 54 #[.slice A0 l0.length c0] w fun e w' => e = .returned (.bool r) ∧ Below w.heap.size w w' := by
 have HR0 := kz hr0; have HC0 := kz hc0; clear hr0 hc0; have HB := kz (Below.refl w.heap.size w); have H : (if (l0.length : Int) ≤ 64 then ((slices_ContainsFunc_impl_Prefix_impl_Prefix.f k l0).bind fun t195 => (some (!t195))) else (some false)) = some r := h; clear h; by_cases c2 : (l0.length : Int) ≤ 64; · rw [if_pos c2] at H; have c2b0 : decide ((l0.length : Int) ≤ 64) = true := decide_eq_true c2; have c2b1 : decide (l0.length ≤ 64) = true := decide_eq_true (by omega); clear c2; replace H := ky.mp H; obtain ⟨t195, A30, H⟩ := H; replace H : (some (!t195)) = some r := H; have A3 := kz A30; clear A30; obtain rfl := kj H; go_enter Try.func54, Try.ntmps54; go_wp2_with ((go_at_call 56; (with_reducible refine (slices_ContainsFunc_impl_Prefix_impl_Prefix.calls k _ _ l0  t195 _ ?side1 ?side2 A3.1).mono ?_); (case side1 => repeat (exact HR0.1)); (case side2 => exact HC0.1); rintro e w4 ⟨rfl, hb⟩; replace HB := kz (zd HB.1 hb); (try clear hi))); go_ret; exact ⟨by rfl, by exact HB.1⟩
 · rw [if_neg c2] at H; have c2b0 : decide ((l0.length : Int) ≤ 64) = false := decide_eq_false c2; have c2b1 : decide (l0.length ≤ 64) = false := decide_eq_false (by omega); clear c2; obtain rfl := kj H; go_enter Try.func54, Try.ntmps54; go_wp2; go_ret; exact ⟨by rfl, by exact HB.1⟩

-- NOT PRINTED: function 57 (impl_SetHas_1)


/-! ### impl_SetHas_1: function 57, its captured number at block cg -/
def impl_SetHas_1.f (a0_0 a0_1 ca : Int) : Option Bool := impl_Prefix_has.f a0_0 a0_1 ca
theorem impl_SetHas_1.calls (a0_0 a0_1 ca : Int) (cg : Nat) (r : Bool) (w : World) (hc_0 : w.cell? ⟨cg, 0, none⟩ = some (.int .i64 ca)) (h : impl_SetHas_1.f a0_0 a0_1 ca = some r) :
  Calls kg 57 #[.agg #[.int .i64 a0_0, .int .i64 a0_1], .pointer (some ⟨cg, 0, none⟩)] w fun e w' => e = .returned (.bool r) ∧ Below w.heap.size w w' := by
 have hu45 := ke; have HB := kz (Below.refl w.heap.size w); have A2 := kz (show impl_Prefix_has.f a0_0 a0_1 ca = some r from h); clear h; go_enter Try.func57, Try.ntmps57; go_wp2_with (first | ((with_reducible refine zo (N := 2) rfl ?_); refine zk ?hg (N := 2) ?hd (cs := #[.int .i64 a0_0, .int .i64 a0_1]) (t := 45) ?hr ?_; (case hd => rfl); (case hg => rfl); (case hr => (go_simp; done)); intro gb hg w3 hbox hb; have hcc : w3.cell? ⟨cg, 0, none⟩ = some (.int .i64 ca) := (hb.cell (World.block_lt_of_cell? w _ hc_0)).trans hc_0; replace HB := kz (zd HB.1 hb); have BK := kz hbox; clear hb hbox hg; have hcz_0 : w3.cell? ⟨gb, 0, none⟩ = some (.int .i64 a0_0) := (zi BK.1 0).trans rfl; have hcz_1 : w3.cell? ⟨gb, 1, none⟩ = some (.int .i64 a0_1) := (zi BK.1 1).trans rfl; have hfz_0 := zh BK.1 0; have hfz_1 := zh BK.1 1) | (go_at_call 58; (with_reducible refine (impl_Prefix_has.calls a0_0 a0_1 ca r _ A2.1).mono ?_); rintro e w4 ⟨rfl, hb⟩; replace HB := kz (zd HB.1 hb); clear hb)); go_ret; exact ⟨by rfl, by exact HB.1⟩

/-! ### impl_SetHas_ix -/
def impl_SetHas_ix.l0 (ca : Int) : Nat → List (S45) → Int → Int → Option (Int)
 | 0, _, _, _ => none
 | k + 1, x0, x7, x8 => if x8 < x7 then (if 0 ≤ x8 then (if x8 < (x0.length : Int) then ((impl_SetHas_1.f ((rd_T45 x0 x8).f0) ((rd_T45 x0 x8).f1) ca).bind fun t165 => (if t165 = true then (some x8) else (impl_SetHas_ix.l0 ca k x0 x7 (wrap64 (x8 + 1))))) else (none)) else (none)) else (some (-1))
def impl_SetHas_ix.f (k : Nat) (l0 : List (S45)) (ca : Int) : Option (Int) := impl_SetHas_ix.l0 ca k l0 (l0.length : Int) 0
theorem impl_SetHas_ix.mono_l (ca : Int) : ∀ k, (∀ y0 y1 y2, LeO (impl_SetHas_ix.l0 ca k y0 y1 y2) (impl_SetHas_ix.l0 ca (k + 1) y0 y1 y2))
 | 0 => fun _ _ _ r h => by simp [impl_SetHas_ix.l0] at h
 | k + 1 => by
  have ih0 := impl_SetHas_ix.mono_l ca k
  ·
   intro y0 y1 y2; unfold impl_SetHas_ix.l0; repeat' first
   | (with_reducible exact ih0 _ _ _)
   | (with_reducible exact zj _)
   | (with_reducible refine zg ?_ ?_)
   | (with_reducible refine ze ?_ (fun _ => ?_))
theorem impl_SetHas_ix.mono (ca : Int) : ∀ a0 k, LeO (impl_SetHas_ix.f k a0 ca) (impl_SetHas_ix.f (k + 1) a0 ca) := fun a0 k => impl_SetHas_ix.mono_l ca k _ _ _
theorem impl_SetHas_ix.calls (k : Nat) (A0 : Option Addr) (c0 : Nat) (l0 : List (S45)) (ca : Int) (cg : Nat) (r : Int) (w : World) (hr0 : Kd.C k45 w A0 l0.length l0) (hc0 : l0.length ≤ c0) (hc_0 : w.cell? ⟨cg, 0, none⟩ = some (.int .i64 ca)) (h : impl_SetHas_ix.f k l0 ca = some r) :
  Calls kg 85 #[.slice A0 l0.length c0, .func (.func 57) #[] #[.pointer (some ⟨cg, 0, none⟩)]] w fun e w' => e = .returned (.int .i64 r) ∧ Below w.heap.size w w' := by
 have HR0 := kz hr0; have HC0 := kz hc0; clear hr0 hc0; have HB := kz (Below.refl w.heap.size w); have H : (impl_SetHas_ix.l0 ca k l0 (l0.length : Int) 0) = some r := h; clear h; have H' := kz H; clear H; go_enter Try.func85, Try.ntmps85; go_wp2; go_loopg [8] k (fun kq v8 w' => ∃ (x8_1 : Int), v8 = .int .i64 x8_1 ∧ zn (impl_SetHas_ix.l0 ca kq l0 (l0.length : Int) x8_1 = some r) ∧ zn (kq ≤ k) ∧ zn (Below w.heap.size w w')); case atStart => exact ⟨(0), (by rfl), H', ⟨Nat.le_refl _⟩, ⟨by exact HB.1⟩⟩
 case round =>
  clear H'; obtain ⟨x8_1, rfl, HA, HK1, HB⟩ := hrel; cases gk with
  | zero => exact absurd HA.1 (by simp [impl_SetHas_ix.l0])
  | succ k1 =>
   have H := HA.1; clear HA; simp only [impl_SetHas_ix.l0] at H; by_cases c3 : x8_1 < (l0.length : Int)
   ·
    rw [if_pos c3] at H; have c3b0 : decide (x8_1 < (l0.length : Int)) = true := decide_eq_true c3; clear c3; by_cases c4 : 0 ≤ x8_1
    ·
     rw [if_pos c4] at H; have c4b0 : decide (0 ≤ x8_1) = true := decide_eq_true c4; clear c4; by_cases c5 : x8_1 < (l0.length : Int)
     ·
      rw [if_pos c5] at H; have c5b0 : decide (x8_1 < (l0.length : Int)) = true := decide_eq_true c5; clear c5; replace H := ky.mp H; obtain ⟨t165, A60, H⟩ := H; replace H : (if t165 = true then (some x8_1) else (impl_SetHas_ix.l0 ca k1 l0 (l0.length : Int) (wrap64 (x8_1 + 1)))) = some r := H; have A6 := kz A60; clear A60; by_cases c7 : t165 = true
      ·
       subst c7; have H1 : (some x8_1) = some r := by rw [if_pos rfl] at H; exact H
       clear H; have H := H1; clear H1; obtain rfl := kj H; have p164 : 0 ≤ (x8_1 : Int) := of_decide_eq_true (by (with_reducible assumption)); have q164 : x8_1 < (l0.length : Int) := of_decide_eq_true (by (with_reducible assumption)); obtain ⟨ad164, e164, hx_0, hx_1⟩ := at_T45 HR0.1 x8_1 p164 q164; cases e164; replace hx_0 := (HB.1.cell (World.block_lt_of_cell? w _ hx_0)).trans hx_0; replace hx_1 := (HB.1.cell (World.block_lt_of_cell? w _ hx_1)).trans hx_1; replace p164 := eq_true p164; replace q164 := eq_true q164; go_wp2_with ((go_at_call 57; have hcap_0 := (HB.1.cell (World.block_lt_of_cell? w _ hc_0)).trans hc_0; (with_reducible refine (impl_SetHas_1.calls ((rd_T45 l0 x8_1).f0) ((rd_T45 l0 x8_1).f1) ca cg true _ hcap_0 A6.1).mono ?_); rintro e w8 ⟨rfl, hb⟩; replace HB := kz (zd HB.1 hb); (try clear hb))); go_ret; exact ⟨by rfl, by exact HB.1⟩
      ·
       replace c7 := kk.mpr c7; subst c7; have H1 : (impl_SetHas_ix.l0 ca k1 l0 (l0.length : Int) (wrap64 (x8_1 + 1))) = some r := by rw [if_neg (show ¬ (false = true) by decide)] at H; exact H
       clear H; have H := H1; clear H1; have H' := kz H; clear H; have p164 : 0 ≤ (x8_1 : Int) := of_decide_eq_true (by (with_reducible assumption)); have q164 : x8_1 < (l0.length : Int) := of_decide_eq_true (by (with_reducible assumption)); obtain ⟨ad164, e164, hx_0, hx_1⟩ := at_T45 HR0.1 x8_1 p164 q164; cases e164; replace hx_0 := (HB.1.cell (World.block_lt_of_cell? w _ hx_0)).trans hx_0; replace hx_1 := (HB.1.cell (World.block_lt_of_cell? w _ hx_1)).trans hx_1; replace p164 := eq_true p164; replace q164 := eq_true q164; go_wp2_with ((go_at_call 57; have hcap_0 := (HB.1.cell (World.block_lt_of_cell? w _ hc_0)).trans hc_0; (with_reducible refine (impl_SetHas_1.calls ((rd_T45 l0 x8_1).f0) ((rd_T45 l0 x8_1).f1) ca cg false _ hcap_0 A6.1).mono ?_); rintro e w9 ⟨rfl, hb⟩; replace HB := kz (zd HB.1 hb); (try clear hb))); go_roundg k1; case measure => have := HK1.1; omega
       case rel => exact ⟨(wrap64 (x8_1 + 1)), (by rfl), H', ⟨by have := HK1.1; omega⟩, ⟨by exact HB.1⟩⟩
     · rw [if_neg c5] at H; exact absurd H (by simp)
    · rw [if_neg c4] at H; exact absurd H (by simp)
   · rw [if_neg c3] at H; have c3b0 : decide (x8_1 < (l0.length : Int)) = false := decide_eq_false c3; clear c3; obtain rfl := kj H; go_wp2; go_ret; exact ⟨by rfl, by exact HB.1⟩

/-! ### impl_SetHas_ct -/
def impl_SetHas_ct.f (k : Nat) (l0 : List (S45)) (ca : Int) : Option (Bool) := (impl_SetHas_ix.f k l0 ca).bind fun t166 => (some (decide (t166 ≥ 0)))
theorem impl_SetHas_ct.mono (ca : Int) : ∀ a0 k, LeO (impl_SetHas_ct.f k a0 ca) (impl_SetHas_ct.f (k + 1) a0 ca) := fun a0 k => ze (impl_SetHas_ix.mono ca _ _) (fun _ => zj _)
theorem impl_SetHas_ct.calls (k : Nat) (A0 : Option Addr) (c0 : Nat) (l0 : List (S45)) (ca : Int) (cg : Nat) (r : Bool) (w : World) (hr0 : Kd.C k45 w A0 l0.length l0) (hc0 : l0.length ≤ c0) (hc_0 : w.cell? ⟨cg, 0, none⟩ = some (.int .i64 ca)) (h : impl_SetHas_ct.f k l0 ca = some r) :
  Calls kg 56 #[.slice A0 l0.length c0, .func (.func 57) #[] #[.pointer (some ⟨cg, 0, none⟩)]] w fun e w' => e = .returned (.bool r) ∧ Below w.heap.size w w' := by
 have HR0 := kz hr0; have HC0 := kz hc0; clear hr0 hc0; have H : ((impl_SetHas_ix.f k l0 ca).bind fun t166 => (some (decide (t166 ≥ 0)))) = some r := h; clear h; replace H := ky.mp H; obtain ⟨t166, A30, H⟩ := H; replace H : (some (decide (t166 ≥ 0))) = some r := H; have A3 := kz A30; clear A30; obtain rfl := kj H; go_enter Try.func56, Try.ntmps56; go_wp2_with ((go_at_call 85; (with_reducible refine (impl_SetHas_ix.calls k _ _ l0 ca cg t166 _ HR0.1 HC0.1 hc_0 A3.1).mono ?_); rintro e w4 ⟨rfl, hb⟩; have HB := kz hb; clear hb)); go_ret; exact ⟨by rfl, by exact HB.1⟩

/-! ### impl_SetHas: function 19 -/
def impl_SetHas.f (k : Nat) (l0 : List (S45)) (a1 : Int) : Option (Bool × Bool) := (impl_arePrefixes.f k l0).bind fun t1 => (if t1 = true then ((impl_isAddr.f a1).bind fun t2 => (if t2 = true then ((impl_SetHas_ct.f k l0 a1).bind fun t3 => (some (t3, true))) else (some (false, false)))) else (some (false, false)))
theorem impl_SetHas.mono : ∀ a0 a1 k, LeO (impl_SetHas.f k a0 a1) (impl_SetHas.f (k + 1) a0 a1) := by
 intro a0 a1 k; unfold impl_SetHas.f
 repeat' first
   | (with_reducible exact impl_arePrefixes.mono _ _)
   | (with_reducible exact impl_SetHas_ct.mono _ _ _)
   | (with_reducible exact zj _)
   | (with_reducible refine zg ?_ ?_)
   | (with_reducible refine ze ?_ (fun _ => ?_))
theorem impl_SetHas.calls (k : Nat) (A0 : Option Addr) (c0 : Nat) (l0 : List (S45)) (a1 : Int) (r1 : Bool) (r2 : Bool) (w : World) (hr0 : Kd.C k45 w A0 l0.length l0) (hc0 : l0.length ≤ c0) (h : impl_SetHas.f k l0 a1 = some (r1, r2)) :
  Calls kg 19 #[.slice A0 l0.length c0, .int .i64 a1] w fun e w' => e = .returned (.tuple #[.bool r1, .bool r2]) ∧ Below w.heap.size w w' := by
 have HR0 := kz hr0; have HC0 := kz hc0; clear hr0 hc0; have HB := kz (Below.refl w.heap.size w); have hmf : ∀ (fn : Fn) (first cap : Array Value) (w : World), (Instr.makeFunc fn first cap).run kg w = .ok (.func fn first cap) w := fun _ _ _ _ => rfl
 have H : ((impl_arePrefixes.f k l0).bind fun t1 => (if t1 = true then ((impl_isAddr.f a1).bind fun t2 => (if t2 = true then ((impl_SetHas_ct.f k l0 a1).bind fun t3 => (some (t3, true))) else (some (false, false)))) else (some (false, false)))) = some (r1, r2) := h; clear h; replace H := ky.mp H; obtain ⟨t1, A10, H⟩ := H; replace H : (if t1 = true then ((impl_isAddr.f a1).bind fun t2 => (if t2 = true then ((impl_SetHas_ct.f k l0 a1).bind fun t3 => (some (t3, true))) else (some (false, false)))) else (some (false, false))) = some (r1, r2) := H; have A1 := kz A10; clear A10; by_cases c1 : t1 = true
 ·
  subst c1; rw [if_pos rfl] at H; replace H := ky.mp H; obtain ⟨t2, A20, H⟩ := H; replace H : (if t2 = true then ((impl_SetHas_ct.f k l0 a1).bind fun t3 => (some (t3, true))) else (some (false, false))) = some (r1, r2) := H; have A2 := kz A20; clear A20; by_cases c2 : t2 = true; · subst c2; rw [if_pos rfl] at H; replace H := ky.mp H; obtain ⟨t3, A30, H⟩ := H; replace H : (some (t3, true)) = some (r1, r2) := H; have A3 := kz A30; clear A30; obtain ⟨rfl, rfl⟩ := Prod.mk.inj (kj H); clear H; go_enter Try.func19, Try.ntmps19; go_wp2_with (first | ((with_reducible refine zo (N := 3) rfl ?_); refine zk ?hg (N := 3) ?hd (cs := #[.int .i64 a1]) (t := 3) ?hr ?_; (case hd => rfl); (case hg => rfl); (case hr => (go_simp; done)); intro gb hg w3 hbox hb; replace HB := kz (zd HB.1 hb); have hcz_0 : w3.cell? ⟨gb, 0, none⟩ = some (.int .i64 a1) := (zi hbox 0).trans rfl; have HZ := kz hcz_0; have HC1 := kz (Kd.C_below HR0.1 HB.1); clear hb hbox hg) | (go_at_call 54; (with_reducible refine (impl_arePrefixes.calls k _ _ l0 true _ HC1.1 HC0.1 A1.1).mono ?_); rintro e w4 ⟨rfl, hb⟩; have hcy_0 : w4.cell? ⟨gb, 0, none⟩ = some (.int .i64 a1) := (hb.cell (World.block_lt_of_cell? w3 _ HZ.1)).trans HZ.1; have HY := kz hcy_0; replace HB := kz (zd HB.1 hb); have HC2 := kz (Kd.C_below HR0.1 HB.1); clear hb) | (go_at_call 55; (with_reducible refine (impl_isAddr.calls a1 true _ A2.1).mono ?_); rintro e w' ⟨rfl, ⟨nd, rfl⟩⟩) | (go_at_call 56; (with_reducible refine (impl_SetHas_ct.calls k _ _ l0 a1 gb t3 _ ?s1 HC0.1 ?s2 A3.1).mono ?_); (case s1 => repeat (exact HC2.1)); (case s2 => exact HY.1); rintro e w5 ⟨rfl, hb⟩; replace HB := kz (zd (by repeat ((with_reducible first | exact HB.1 | apply za))) hb); clear hb)); go_ret2; exact ⟨by rfl, by exact HB.1⟩
  · replace c2 := kk.mpr c2; subst c2; rw [if_neg (show ¬ (false = true) by decide)] at H; obtain ⟨rfl, rfl⟩ := Prod.mk.inj (kj H); clear H; go_enter Try.func19, Try.ntmps19; go_wp2_with (first | ((with_reducible refine zo (N := 3) rfl ?_); refine zk ?hg (N := 3) ?hd (cs := #[.int .i64 a1]) (t := 3) ?hr ?_; (case hd => rfl); (case hg => rfl); (case hr => (go_simp; done)); intro gb hg w3 hbox hb; replace HB := kz (zd HB.1 hb); have hcz_0 : w3.cell? ⟨gb, 0, none⟩ = some (.int .i64 a1) := (zi hbox 0).trans rfl; have HZ := kz hcz_0; have HC1 := kz (Kd.C_below HR0.1 HB.1); clear hb hbox hg) | (go_at_call 54; (with_reducible refine (impl_arePrefixes.calls k _ _ l0 true _ HC1.1 HC0.1 A1.1).mono ?_); rintro e w4 ⟨rfl, hb⟩; have hcy_0 : w4.cell? ⟨gb, 0, none⟩ = some (.int .i64 a1) := (hb.cell (World.block_lt_of_cell? w3 _ HZ.1)).trans HZ.1; replace HB := kz (zd HB.1 hb); clear hb) | (go_at_call 55; (with_reducible refine (impl_isAddr.calls a1 false _ A2.1).mono ?_); rintro e w' ⟨rfl, ⟨nd, rfl⟩⟩)); go_ret2; exact ⟨by rfl, by repeat ((with_reducible first | exact HB.1 | apply za))⟩
 · replace c1 := kk.mpr c1; subst c1; rw [if_neg (show ¬ (false = true) by decide)] at H; obtain ⟨rfl, rfl⟩ := Prod.mk.inj (kj H); clear H; go_enter Try.func19, Try.ntmps19; go_wp2_with (first | ((with_reducible refine zo (N := 3) rfl ?_); refine zk ?hg (N := 3) ?hd (cs := #[.int .i64 a1]) (t := 3) ?hr ?_; (case hd => rfl); (case hg => rfl); (case hr => (go_simp; done)); intro gb hg w3 hbox hb; replace HB := kz (zd HB.1 hb); have HC1 := kz (Kd.C_below HR0.1 HB.1); clear hb hbox hg) | (go_at_call 54; (with_reducible refine (impl_arePrefixes.calls k _ _ l0 false _ HC1.1 HC0.1 A1.1).mono ?_); rintro e w4 ⟨rfl, hb⟩; replace HB := kz (zd HB.1 hb); clear hb)); go_ret2; exact ⟨by rfl, by exact HB.1⟩

end Go.Proofs.Ytabejlfejlpkeaa.PFnFewest
