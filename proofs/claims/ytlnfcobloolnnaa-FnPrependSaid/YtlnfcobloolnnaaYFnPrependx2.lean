/- Go functions told by Lean functions, printed by a program. No condition but what each statement says. -/
import Derived.Test.YtlnfcobloolnnaaYFnPrependx0
namespace Go.Proofs.Ytlnfcobloolnnaa.PFnPrepend
open Go.RowKit Go.Proofs.YtlnfcobloolnnaaW.PrintWords Go.Proofs.YtlnfcobloolnnaaW.PrintLast Go.Proofs.YtlnfcobloolnnaaW.PrintMore
open Option.some renaming inj → kz
open Option renaming bind_eq_some_iff → ky
open Aside0 renaming mk → kj
open List renaming map_toArray → kk, map_cons → kv, map_nil → kh
open Try renaming func47 → kg, prog → ke
open Bool renaming eq_false_iff → kf
set_option maxHeartbeats 8000000
set_option maxRecDepth 100000
open Go.Proofs.YtlnfcobloolnnaaW.PrintLast renaming goesL_ → zl
open Go.Proofs.YtlnfcobloolnnaaW.PrintWords renaming blk_frozen → za, blk_cell → zb, pw_below_drewN → zc, below_drew1 → zd, below_alloc → ze, gate_callee → zf, below_set → zg, Aside0 → zo, Drawn0 → zq
open Go.Proofs.YtlnfcobloolnnaaW.PrintWords.Drawn0 renaming step → zj, refl → zk
open Go.Proofs.YtlnfcobloolnnaaW.PrintWords.Kd renaming at_int → zn
open Go.Proofs.YtlnfcobloolnnaaW.PrintWords.LeO renaming none → zh, bind → zi, ite → zm, refl → zp
attribute [local go_sem] max2_int min2_int max_two min_two max_three min_three max_four min_four
set_option linter.unusedVariables false
set_option linter.unusedSimpArgs false

/-! ### spec_l1In: function 47 -/
def spec_l1In.f (a0 : Int) (a1 : Int) (a2 : Int) : Option (Bool) := if a0 ≥ a1 then (some (decide (a0 ≤ a2))) else (some false)
theorem spec_l1In.calls (a0 : Int) (a1 : Int) (a2 : Int) (r : Bool) (w : World) (h : spec_l1In.f a0 a1 a2 = some r) :
  Calls ke 47 #[.int .i64 a0, .int .i64 a1, .int .i64 a2] w fun e w' => e = .returned (.bool r) ∧ zq w w' := by
 have H : (if a0 ≥ a1 then (some (decide (a0 ≤ a2))) else (some false)) = some r := h; clear h; by_cases c4 : a0 ≥ a1; · rw [if_pos c4] at H; have c4b0 : decide (a1 ≤ a0) = true := decide_eq_true c4; clear c4; obtain rfl := kz H; go_enter kg, Try.ntmps47; go_wp2; go_ret; exact ⟨by rfl, by repeat (exact zk _)⟩
 · rw [if_neg c4] at H; have c4b0 : decide (a1 ≤ a0) = false := decide_eq_false c4; clear c4; obtain rfl := kz H; go_enter kg, Try.ntmps47; go_wp2; go_ret; exact ⟨by rfl, by repeat (exact zk _)⟩

/-! ### spec_l1Addr: function 48 -/
def spec_l1Addr.f (a0 : Int) : Option (Bool) := (spec_l1In.f a0 0 4294967295).bind fun t101 => (some t101)
theorem spec_l1Addr.calls (a0 : Int) (r : Bool) (w : World) (h : spec_l1Addr.f a0 = some r) :
  Calls ke 48 #[.int .i64 a0] w fun e w' => e = .returned (.bool r) ∧ zq w w' := by
 have H : ((spec_l1In.f a0 0 4294967295).bind fun t101 => (some t101)) = some r := h; clear h; replace H := ky.mp H; obtain ⟨t101, A20, H⟩ := H; replace H : (some t101) = some r := H; have A2 := kj A20; clear A20; obtain rfl := kz H; go_enter Try.func48, Try.ntmps48; go_wp2_with (((with_reducible refine zf (f := 47) rfl ?_); refine zl (some 4) rfl rfl kg (by kernel_rfl) rfl #[.int .i64 a0, .int .i64 0, .int .i64 4294967295] rfl (by (try simp only [kk, kv, kh]); rfl) ?_; (with_reducible refine (spec_l1In.calls a0 0 4294967295 t101 _ A2.1).mono ?_); rintro e w' ⟨rfl, ⟨nd, rfl⟩⟩; refine ⟨_, rfl, ?_⟩)); go_ret; exact ⟨by rfl, by repeat (first | exact zk _ | apply zj)⟩

/-! ### spec_GoodAttrs: function 13 -/
mutual
def spec_GoodAttrs.l0 : Nat → List Int → Int → Int → Int → List Int → Int → Int → Int → List Int → Option (Bool)
 | 0, _, _, _, _, _, _, _, _, _ => none
 | k + 1, x8, x9, x10, zw, zx, zy, zz, zA, zu => if x10 < x9 then (if 0 ≤ x10 then (if x10 < (x8.length : Int) then ((spec_l1In.f (rd x8 x10) 1 65535).bind fun t104 => (if t104 = true then (spec_GoodAttrs.l0 k x8 x9 (wrap64 (x10 + 1)) zw zx zy zz zA zu) else (some false))) else (none)) else (none)) else (spec_GoodAttrs.l1 k zu (zu.length : Int) 0 zw zx zy zz zA zu)
def spec_GoodAttrs.l1 : Nat → List Int → Int → Int → Int → List Int → Int → Int → Int → List Int → Option (Bool)
 | 0, _, _, _, _, _, _, _, _, _ => none
 | k + 1, x19, x20, x21, zw, zx, zy, zz, zA, zu => if x21 < x20 then (if 0 ≤ x21 then (if x21 < (x19.length : Int) then ((spec_l1In.f (rd x19 x21) 0 1000000).bind fun t106 => (if t106 = true then (if x21 > 0 then (if 0 ≤ (wrap64 (x21 - 1)) then (if (wrap64 (x21 - 1)) < (zu.length : Int) then (if (rd zu (wrap64 (x21 - 1))) ≥ (rd x19 x21) then (some false) else (spec_GoodAttrs.l1 k x19 x20 (wrap64 (x21 + 1)) zw zx zy zz zA zu)) else (none)) else (none)) else (spec_GoodAttrs.l1 k x19 x20 (wrap64 (x21 + 1)) zw zx zy zz zA zu)) else (some false))) else (none)) else (none)) else ((spec_l1In.f zw 0 2).bind fun t108 => (if t108 = true then (if (zx.length : Int) ≤ 10 then ((spec_l1Addr.f zy).bind fun t109 => (if t109 = true then ((spec_l1In.f zz 0 1000000).bind fun t110 => (if t110 = true then ((spec_l1In.f zA 0 1000000).bind fun t111 => (if t111 = true then (some (decide ((zu.length : Int) ≤ 6))) else (some false))) else (some false))) else (some false))) else (some false)) else (some false)))
end
def spec_GoodAttrs.f (k : Nat) (a0_0 : Int) (l0_1 : List Int) (a0_2 : Int) (a0_3 : Int) (a0_4 : Int) (l0_5 : List Int) : Option (Bool) := spec_GoodAttrs.l0 k l0_1 (l0_1.length : Int) 0 a0_0 l0_1 a0_2 a0_3 a0_4 l0_5
theorem spec_GoodAttrs.mono_l : ∀ k, (∀ y0 y1 y2 y3 y4 y5 y6 y7 y8, LeO (spec_GoodAttrs.l0 k y0 y1 y2 y3 y4 y5 y6 y7 y8) (spec_GoodAttrs.l0 (k + 1) y0 y1 y2 y3 y4 y5 y6 y7 y8)) ∧ (∀ y0 y1 y2 y3 y4 y5 y6 y7 y8, LeO (spec_GoodAttrs.l1 k y0 y1 y2 y3 y4 y5 y6 y7 y8) (spec_GoodAttrs.l1 (k + 1) y0 y1 y2 y3 y4 y5 y6 y7 y8))
 | 0 => ⟨fun _ _ _ _ _ _ _ _ _ r h => by simp [spec_GoodAttrs.l0] at h, fun _ _ _ _ _ _ _ _ _ r h => by simp [spec_GoodAttrs.l1] at h⟩
 | k + 1 => by
  obtain ⟨ih0, ih1⟩ := spec_GoodAttrs.mono_l k; refine ⟨?_, ?_⟩
  ·
   intro y0 y1 y2 y3 y4 y5 y6 y7 y8; unfold spec_GoodAttrs.l0; repeat' first
   | (with_reducible exact ih0 _ _ _ _ _ _ _ _ _)
   | (with_reducible exact ih1 _ _ _ _ _ _ _ _ _)
   | (with_reducible exact zp _)
   | (with_reducible refine zm ?_ ?_)
   | (with_reducible refine zi ?_ (fun _ => ?_))
  ·
   intro y0 y1 y2 y3 y4 y5 y6 y7 y8; unfold spec_GoodAttrs.l1; repeat' first
   | (with_reducible exact ih1 _ _ _ _ _ _ _ _ _)
   | (with_reducible exact zp _)
   | (with_reducible refine zm ?_ ?_)
   | (with_reducible refine zi ?_ (fun _ => ?_))
theorem spec_GoodAttrs.mono : ∀ a0 a1 a2 a3 a4 a5 k, LeO (spec_GoodAttrs.f k a0 a1 a2 a3 a4 a5) (spec_GoodAttrs.f (k + 1) a0 a1 a2 a3 a4 a5) := by
 intro a0 a1 a2 a3 a4 a5 k; obtain ⟨ih0, ih1⟩ := spec_GoodAttrs.mono_l k; unfold spec_GoodAttrs.f
 repeat' first
   | (with_reducible exact ih0 _ _ _ _ _ _ _ _ _)
theorem spec_GoodAttrs.calls (k : Nat) (a0_0 : Int) (A0_1 : Option Addr) (c0_1 : Nat) (l0_1 : List Int) (a0_2 : Int) (a0_3 : Int) (a0_4 : Int) (A0_5 : Option Addr) (c0_5 : Nat) (l0_5 : List Int) (r : Bool) (w : World) (hr0_1 : Kd.C (Kd.int .i64) w A0_1 l0_1.length l0_1) (hc0_1 : l0_1.length ≤ c0_1) (hr0_5 : Kd.C (Kd.int .i64) w A0_5 l0_5.length l0_5) (hc0_5 : l0_5.length ≤ c0_5) (h : spec_GoodAttrs.f k a0_0 l0_1 a0_2 a0_3 a0_4 l0_5 = some r) :
  Calls ke 13 #[.agg #[.int .i64 a0_0, .slice A0_1 l0_1.length c0_1, .int .i64 a0_2, .int .i64 a0_3, .int .i64 a0_4, .slice A0_5 l0_5.length c0_5]] w fun e w' => e = .returned (.bool r) ∧ Below w.heap.size w w' := by
 have hu27 := Try.underlying27; have HR0_1 := kj hr0_1; have HC0_1 := kj hc0_1; clear hr0_1 hc0_1; have zB := kj hr0_5; have HC0_5 := kj hc0_5; clear hr0_5 hc0_5; have HB := kj (Below.refl w.heap.size w); have H : (spec_GoodAttrs.l0 k l0_1 (l0_1.length : Int) 0 a0_0 l0_1 a0_2 a0_3 a0_4 l0_5) = some r := h; clear h; have H' := kj H; clear H; go_enter Try.func13, Try.ntmps13; go_wp2_with (((with_reducible refine gate_dst (N := 1) rfl ?_); (try (refine gate_guard (by rfl) ?_; dsimp only)); refine box_event ?hg (N := 1) ?hd (cs := #[.int .i64 a0_0, .slice A0_1 l0_1.length c0_1, .int .i64 a0_2, .int .i64 a0_3, .int .i64 a0_4, .slice A0_5 l0_5.length c0_5]) (t := 27) ?hr ?_; (case hd => rfl); (case hg => rfl); (case hr => (go_simp; done)); intro gb102 hg w2 hbox hb; replace HB := kj (below_step HB.1 hb); have zr := kj hbox; clear hb hbox hg; have hcz3_0 : w2.cell? ⟨gb102, 0, none⟩ = some (.int .i64 a0_0) := (zb zr.1 0).trans rfl; have hcz3_1 : w2.cell? ⟨gb102, 1, none⟩ = some (.slice A0_1 l0_1.length c0_1) := (zb zr.1 1).trans rfl; have hcz3_2 : w2.cell? ⟨gb102, 2, none⟩ = some (.int .i64 a0_2) := (zb zr.1 2).trans rfl; have hcz3_3 : w2.cell? ⟨gb102, 3, none⟩ = some (.int .i64 a0_3) := (zb zr.1 3).trans rfl; have hcz3_4 : w2.cell? ⟨gb102, 4, none⟩ = some (.int .i64 a0_4) := (zb zr.1 4).trans rfl; have hcz3_5 : w2.cell? ⟨gb102, 5, none⟩ = some (.slice A0_5 l0_5.length c0_5) := (zb zr.1 5).trans rfl; have hfz3_0 := za zr.1 0; have hfz3_1 := za zr.1 1; have hfz3_2 := za zr.1 2; have hfz3_3 := za zr.1 3; have hfz3_4 := za zr.1 4; have hfz3_5 := za zr.1 5)); go_loopg [10] k (fun kq v10 w' => ∃ (zt : Int), v10 = .int .i64 zt ∧ zo (spec_GoodAttrs.l0 kq l0_1 (l0_1.length : Int) zt a0_0 l0_1 a0_2 a0_3 a0_4 l0_5 = some r) ∧ zo (kq ≤ k) ∧ zo (w'.heap[gb102]? = some (.cells #[.int .i64 a0_0, (.slice A0_1 l0_1.length c0_1), .int .i64 a0_2, .int .i64 a0_3, .int .i64 a0_4, (.slice A0_5 l0_5.length c0_5)] 27 (0, 0))) ∧ zo (Below w.heap.size w w')); case atStart => exact ⟨(0), (by rfl), H', ⟨Nat.le_refl _⟩, ⟨by exact zr.1⟩, ⟨by exact HB.1⟩⟩
 case round =>
  clear H'; obtain ⟨zt, rfl, HA, HK1, zr, HB⟩ := hrel; cases gk with
  | zero => exact absurd HA.1 (by simp [spec_GoodAttrs.l0])
  | succ k1 =>
   have H := HA.1; clear HA; simp only [spec_GoodAttrs.l0] at H; by_cases c4 : zt < (l0_1.length : Int)
   ·
    rw [if_pos c4] at H; have c4b0 : decide (zt < (l0_1.length : Int)) = true := decide_eq_true c4; clear c4; by_cases c5 : 0 ≤ zt
    ·
     rw [if_pos c5] at H; have c5b0 : decide (0 ≤ zt) = true := decide_eq_true c5; clear c5; by_cases c6 : zt < (l0_1.length : Int)
     ·
      rw [if_pos c6] at H; have c6b0 : decide (zt < (l0_1.length : Int)) = true := decide_eq_true c6; clear c6; replace H := ky.mp H; obtain ⟨t104, A70, H⟩ := H; replace H : (if t104 = true then (spec_GoodAttrs.l0 k1 l0_1 (l0_1.length : Int) (wrap64 (zt + 1)) a0_0 l0_1 a0_2 a0_3 a0_4 l0_5) else (some false)) = some r := H; have A7 := kj A70; clear A70; by_cases c8 : t104 = true
      ·
       subst c8; have H1 : (spec_GoodAttrs.l0 k1 l0_1 (l0_1.length : Int) (wrap64 (zt + 1)) a0_0 l0_1 a0_2 a0_3 a0_4 l0_5) = some r := by rw [if_pos rfl] at H; exact H
       clear H; have H := H1; clear H1; have H' := kj H; clear H; have p103 : 0 ≤ (zt : Int) := of_decide_eq_true (by (with_reducible assumption)); have q103 : zt < (l0_1.length : Int) := of_decide_eq_true (by (with_reducible assumption)); obtain ⟨ad103, e103, hx103_0⟩ := zn HR0_1.1 zt p103 q103; cases e103; replace hx103_0 := (HB.1.cell (World.block_lt_of_cell? w _ hx103_0)).trans hx103_0; replace p103 := eq_true p103; replace q103 := eq_true q103; go_wp2_with (((with_reducible refine zf (f := 47) rfl ?_); refine zl (some 15) rfl rfl kg (by kernel_rfl) rfl #[.int .i64 (rd l0_1 zt), .int .i64 1, .int .i64 65535] rfl (by (try simp only [kk, kv, kh]); rfl) ?_; (with_reducible refine (spec_l1In.calls (rd l0_1 zt) 1 65535 true _ A7.1).mono ?_); rintro e w' ⟨rfl, ⟨nd, rfl⟩⟩; refine ⟨_, rfl, ?_⟩)); go_roundg k1; case measure => have := HK1.1; omega
       case rel => exact ⟨(wrap64 (zt + 1)), (by rfl), H', ⟨by have := HK1.1; omega⟩, ⟨by (with_reducible repeat (refine blk_drewN ?_ _)); exact zr.1⟩, ⟨by repeat ((with_reducible first | exact HB.1 | apply zc))⟩⟩
      ·
       replace c8 := kf.mpr c8; subst c8; have H1 : (some false) = some r := by rw [if_neg (show ¬ (false = true) by decide)] at H; exact H
       clear H; have H := H1; clear H1; obtain rfl := kz H; have p103 : 0 ≤ (zt : Int) := of_decide_eq_true (by (with_reducible assumption)); have q103 : zt < (l0_1.length : Int) := of_decide_eq_true (by (with_reducible assumption)); obtain ⟨ad103, e103, hx103_0⟩ := zn HR0_1.1 zt p103 q103; cases e103; replace hx103_0 := (HB.1.cell (World.block_lt_of_cell? w _ hx103_0)).trans hx103_0; replace p103 := eq_true p103; replace q103 := eq_true q103; go_wp2_with (((with_reducible refine zf (f := 47) rfl ?_); refine zl (some 15) rfl rfl kg (by kernel_rfl) rfl #[.int .i64 (rd l0_1 zt), .int .i64 1, .int .i64 65535] rfl (by (try simp only [kk, kv, kh]); rfl) ?_; (with_reducible refine (spec_l1In.calls (rd l0_1 zt) 1 65535 false _ A7.1).mono ?_); rintro e w' ⟨rfl, ⟨nd, rfl⟩⟩; refine ⟨_, rfl, ?_⟩)); go_ret; exact ⟨by rfl, by repeat ((with_reducible first | exact HB.1 | apply zc))⟩
     · rw [if_neg c6] at H; exact absurd H (by simp)
    · rw [if_neg c5] at H; exact absurd H (by simp)
   ·
    rw [if_neg c4] at H; have c4b0 : decide (zt < (l0_1.length : Int)) = false := decide_eq_false c4; clear c4; have H' := kj H; clear H; have hcz9_0 : wr.cell? ⟨gb102, 0, none⟩ = some (.int .i64 a0_0) := (zb zr.1 0).trans rfl; have hcz9_1 : wr.cell? ⟨gb102, 1, none⟩ = some (.slice A0_1 l0_1.length c0_1) := (zb zr.1 1).trans rfl; have hcz9_2 : wr.cell? ⟨gb102, 2, none⟩ = some (.int .i64 a0_2) := (zb zr.1 2).trans rfl; have hcz9_3 : wr.cell? ⟨gb102, 3, none⟩ = some (.int .i64 a0_3) := (zb zr.1 3).trans rfl; have hcz9_4 : wr.cell? ⟨gb102, 4, none⟩ = some (.int .i64 a0_4) := (zb zr.1 4).trans rfl; have hcz9_5 : wr.cell? ⟨gb102, 5, none⟩ = some (.slice A0_5 l0_5.length c0_5) := (zb zr.1 5).trans rfl; have hfz9_0 := za zr.1 0; have hfz9_1 := za zr.1 1; have hfz9_2 := za zr.1 2; have hfz9_3 := za zr.1 3; have hfz9_4 := za zr.1 4; have hfz9_5 := za zr.1 5; go_wp2; go_loopg [21] k1 (fun kq v21 w' => ∃ (zs : Int), v21 = .int .i64 zs ∧ zo (spec_GoodAttrs.l1 kq l0_5 (l0_5.length : Int) zs a0_0 l0_1 a0_2 a0_3 a0_4 l0_5 = some r) ∧ zo (kq ≤ k1) ∧ zo (w'.heap[gb102]? = some (.cells #[.int .i64 a0_0, (.slice A0_1 l0_1.length c0_1), .int .i64 a0_2, .int .i64 a0_3, .int .i64 a0_4, (.slice A0_5 l0_5.length c0_5)] 27 (0, 0))) ∧ zo (Below w.heap.size w w')); case atStart => exact ⟨(0), (by rfl), H', ⟨Nat.le_refl _⟩, ⟨by exact zr.1⟩, ⟨by exact HB.1⟩⟩
    case round =>
     clear H'; obtain ⟨zs, rfl, HA, HK2, zr, HB⟩ := hrel; cases gk with
     | zero => exact absurd HA.1 (by simp [spec_GoodAttrs.l1])
     | succ k2 =>
      have H := HA.1; clear HA; simp only [spec_GoodAttrs.l1] at H; by_cases c10 : zs < (l0_5.length : Int)
      ·
       rw [if_pos c10] at H; have c10b0 : decide (zs < (l0_5.length : Int)) = true := decide_eq_true c10; clear c10; by_cases c11 : 0 ≤ zs
       ·
        rw [if_pos c11] at H; have c11b0 : decide (0 ≤ zs) = true := decide_eq_true c11; clear c11; by_cases c12 : zs < (l0_5.length : Int)
        ·
         rw [if_pos c12] at H; have c12b0 : decide (zs < (l0_5.length : Int)) = true := decide_eq_true c12; clear c12; replace H := ky.mp H; obtain ⟨t106, A130, H⟩ := H; replace H : (if t106 = true then (if zs > 0 then (if 0 ≤ (wrap64 (zs - 1)) then (if (wrap64 (zs - 1)) < (l0_5.length : Int) then (if (rd l0_5 (wrap64 (zs - 1))) ≥ (rd l0_5 zs) then (some false) else (spec_GoodAttrs.l1 k2 l0_5 (l0_5.length : Int) (wrap64 (zs + 1)) a0_0 l0_1 a0_2 a0_3 a0_4 l0_5)) else (none)) else (none)) else (spec_GoodAttrs.l1 k2 l0_5 (l0_5.length : Int) (wrap64 (zs + 1)) a0_0 l0_1 a0_2 a0_3 a0_4 l0_5)) else (some false)) = some r := H; have A13 := kj A130; clear A130; by_cases c14 : t106 = true
         ·
          subst c14; have H1 : (if zs > 0 then (if 0 ≤ (wrap64 (zs - 1)) then (if (wrap64 (zs - 1)) < (l0_5.length : Int) then (if (rd l0_5 (wrap64 (zs - 1))) ≥ (rd l0_5 zs) then (some false) else (spec_GoodAttrs.l1 k2 l0_5 (l0_5.length : Int) (wrap64 (zs + 1)) a0_0 l0_1 a0_2 a0_3 a0_4 l0_5)) else (none)) else (none)) else (spec_GoodAttrs.l1 k2 l0_5 (l0_5.length : Int) (wrap64 (zs + 1)) a0_0 l0_1 a0_2 a0_3 a0_4 l0_5)) = some r := by rw [if_pos rfl] at H; exact H
          clear H; have H := H1; clear H1; by_cases c15 : zs > 0
          ·
           rw [if_pos c15] at H; have c15b0 : decide (0 < zs) = true := decide_eq_true c15; clear c15; obtain ⟨ji16, hji16⟩ : ∃ j_ : Int, (wrap64 (zs - 1)) = j_ := ⟨_, rfl⟩
           replace H : (if 0 ≤ (ji16) then (if (ji16) < (l0_5.length : Int) then (if (rd l0_5 (ji16)) ≥ (rd l0_5 zs) then (some false) else (spec_GoodAttrs.l1 k2 l0_5 (l0_5.length : Int) (wrap64 (zs + 1)) a0_0 l0_1 a0_2 a0_3 a0_4 l0_5)) else (none)) else (none)) = some r := by (rw [hji16] at H; exact H)
           (try rw [hji16] at A13); have hji16w : (IntKind.i64.wrap (zs - 1)) = ji16 := (i64_w _).trans hji16; by_cases c17 : 0 ≤ (ji16)
           ·
            rw [if_pos c17] at H; have c17b0 : decide (0 ≤ (ji16)) = true := decide_eq_true c17; clear c17; by_cases c18 : (ji16) < (l0_5.length : Int)
            ·
             rw [if_pos c18] at H; have c18b0 : decide ((ji16) < (l0_5.length : Int)) = true := decide_eq_true c18; clear c18; by_cases c19 : (rd l0_5 (ji16)) ≥ (rd l0_5 zs); · rw [if_pos c19] at H; have c19b0 : decide ((rd l0_5 zs) ≤ (rd l0_5 (ji16))) = true := decide_eq_true c19; clear c19; obtain rfl := kz H; have p105 : 0 ≤ (zs : Int) := of_decide_eq_true (by (with_reducible assumption)); have q105 : zs < (l0_5.length : Int) := of_decide_eq_true (by (with_reducible assumption)); obtain ⟨ad105, e105, hx105_0⟩ := zn zB.1 zs p105 q105; cases e105; replace hx105_0 := (HB.1.cell (World.block_lt_of_cell? w _ hx105_0)).trans hx105_0; replace p105 := eq_true p105; replace q105 := eq_true q105; go_wp2_with (((with_reducible refine zf (f := 47) rfl ?_); refine zl (some 27) rfl rfl kg (by kernel_rfl) rfl #[.int .i64 (rd l0_5 zs), .int .i64 0, .int .i64 1000000] rfl (by (try simp only [kk, kv, kh]); rfl) ?_; (with_reducible refine (spec_l1In.calls (rd l0_5 zs) 0 1000000 true _ A13.1).mono ?_); rintro e w' ⟨rfl, ⟨nd, rfl⟩⟩; refine ⟨_, rfl, ?_⟩; have hcz20_0 : wr.cell? ⟨gb102, 0, none⟩ = some (.int .i64 a0_0) := (zb zr.1 0).trans rfl; have hcz20_1 : wr.cell? ⟨gb102, 1, none⟩ = some (.slice A0_1 l0_1.length c0_1) := (zb zr.1 1).trans rfl; have hcz20_2 : wr.cell? ⟨gb102, 2, none⟩ = some (.int .i64 a0_2) := (zb zr.1 2).trans rfl; have hcz20_3 : wr.cell? ⟨gb102, 3, none⟩ = some (.int .i64 a0_3) := (zb zr.1 3).trans rfl; have hcz20_4 : wr.cell? ⟨gb102, 4, none⟩ = some (.int .i64 a0_4) := (zb zr.1 4).trans rfl; have hcz20_5 : wr.cell? ⟨gb102, 5, none⟩ = some (.slice (some ad105) l0_5.length c0_5) := (zb zr.1 5).trans rfl; have hfz20_0 := za zr.1 0; have hfz20_1 := za zr.1 1; have hfz20_2 := za zr.1 2; have hfz20_3 := za zr.1 3; have hfz20_4 := za zr.1 4; have hfz20_5 := za zr.1 5; have p107 : 0 ≤ ((ji16) : Int) := of_decide_eq_true (by (with_reducible assumption)); have q107 : (ji16) < (l0_5.length : Int) := of_decide_eq_true (by (with_reducible assumption)); obtain ⟨ad107, e107, hx107_0⟩ := zn zB.1 (ji16) p107 q107; obtain rfl : ad105 = ad107 := (by injection e107); replace hx107_0 := (HB.1.cell (World.block_lt_of_cell? w _ hx107_0)).trans hx107_0; replace p107 := eq_true p107; replace q107 := eq_true q107)); go_ret; exact ⟨by rfl, by repeat ((with_reducible first | exact HB.1 | apply zc))⟩
             ·
              rw [if_neg c19] at H; have c19b0 : decide ((rd l0_5 zs) ≤ (rd l0_5 (ji16))) = false := decide_eq_false c19; clear c19; have H' := kj H; clear H; have p105 : 0 ≤ (zs : Int) := of_decide_eq_true (by (with_reducible assumption)); have q105 : zs < (l0_5.length : Int) := of_decide_eq_true (by (with_reducible assumption)); obtain ⟨ad105, e105, hx105_0⟩ := zn zB.1 zs p105 q105; cases e105; replace hx105_0 := (HB.1.cell (World.block_lt_of_cell? w _ hx105_0)).trans hx105_0; replace p105 := eq_true p105; replace q105 := eq_true q105; go_wp2_with (((with_reducible refine zf (f := 47) rfl ?_); refine zl (some 27) rfl rfl kg (by kernel_rfl) rfl #[.int .i64 (rd l0_5 zs), .int .i64 0, .int .i64 1000000] rfl (by (try simp only [kk, kv, kh]); rfl) ?_; (with_reducible refine (spec_l1In.calls (rd l0_5 zs) 0 1000000 true _ A13.1).mono ?_); rintro e w' ⟨rfl, ⟨nd, rfl⟩⟩; refine ⟨_, rfl, ?_⟩; have hcz21_0 : wr.cell? ⟨gb102, 0, none⟩ = some (.int .i64 a0_0) := (zb zr.1 0).trans rfl; have hcz21_1 : wr.cell? ⟨gb102, 1, none⟩ = some (.slice A0_1 l0_1.length c0_1) := (zb zr.1 1).trans rfl; have hcz21_2 : wr.cell? ⟨gb102, 2, none⟩ = some (.int .i64 a0_2) := (zb zr.1 2).trans rfl; have hcz21_3 : wr.cell? ⟨gb102, 3, none⟩ = some (.int .i64 a0_3) := (zb zr.1 3).trans rfl; have hcz21_4 : wr.cell? ⟨gb102, 4, none⟩ = some (.int .i64 a0_4) := (zb zr.1 4).trans rfl; have hcz21_5 : wr.cell? ⟨gb102, 5, none⟩ = some (.slice (some ad105) l0_5.length c0_5) := (zb zr.1 5).trans rfl; have hfz21_0 := za zr.1 0; have hfz21_1 := za zr.1 1; have hfz21_2 := za zr.1 2; have hfz21_3 := za zr.1 3; have hfz21_4 := za zr.1 4; have hfz21_5 := za zr.1 5; have p107 : 0 ≤ ((ji16) : Int) := of_decide_eq_true (by (with_reducible assumption)); have q107 : (ji16) < (l0_5.length : Int) := of_decide_eq_true (by (with_reducible assumption)); obtain ⟨ad107, e107, hx107_0⟩ := zn zB.1 (ji16) p107 q107; obtain rfl : ad105 = ad107 := (by injection e107); replace hx107_0 := (HB.1.cell (World.block_lt_of_cell? w _ hx107_0)).trans hx107_0; replace p107 := eq_true p107; replace q107 := eq_true q107)); go_roundg k2; case measure => have := HK1.1; have := HK2.1; omega
              case rel => exact ⟨(wrap64 (zs + 1)), (by rfl), H', ⟨by have := HK1.1; have := HK2.1; omega⟩, ⟨by (with_reducible repeat (refine blk_drewN ?_ _)); exact zr.1⟩, ⟨by repeat ((with_reducible first | exact HB.1 | apply zc))⟩⟩
            · rw [if_neg c18] at H; exact absurd H (by simp)
           · rw [if_neg c17] at H; exact absurd H (by simp)
          ·
           rw [if_neg c15] at H; have c15b0 : decide (0 < zs) = false := decide_eq_false c15; clear c15; have H' := kj H; clear H; have p105 : 0 ≤ (zs : Int) := of_decide_eq_true (by (with_reducible assumption)); have q105 : zs < (l0_5.length : Int) := of_decide_eq_true (by (with_reducible assumption)); obtain ⟨ad105, e105, hx105_0⟩ := zn zB.1 zs p105 q105; cases e105; replace hx105_0 := (HB.1.cell (World.block_lt_of_cell? w _ hx105_0)).trans hx105_0; replace p105 := eq_true p105; replace q105 := eq_true q105; go_wp2_with (((with_reducible refine zf (f := 47) rfl ?_); refine zl (some 27) rfl rfl kg (by kernel_rfl) rfl #[.int .i64 (rd l0_5 zs), .int .i64 0, .int .i64 1000000] rfl (by (try simp only [kk, kv, kh]); rfl) ?_; (with_reducible refine (spec_l1In.calls (rd l0_5 zs) 0 1000000 true _ A13.1).mono ?_); rintro e w' ⟨rfl, ⟨nd, rfl⟩⟩; refine ⟨_, rfl, ?_⟩)); go_roundg k2; case measure => have := HK1.1; have := HK2.1; omega
           case rel => exact ⟨(wrap64 (zs + 1)), (by rfl), H', ⟨by have := HK1.1; have := HK2.1; omega⟩, ⟨by (with_reducible repeat (refine blk_drewN ?_ _)); exact zr.1⟩, ⟨by repeat ((with_reducible first | exact HB.1 | apply zc))⟩⟩
         ·
          replace c14 := kf.mpr c14; subst c14; have H1 : (some false) = some r := by rw [if_neg (show ¬ (false = true) by decide)] at H; exact H
          clear H; have H := H1; clear H1; obtain rfl := kz H; have p105 : 0 ≤ (zs : Int) := of_decide_eq_true (by (with_reducible assumption)); have q105 : zs < (l0_5.length : Int) := of_decide_eq_true (by (with_reducible assumption)); obtain ⟨ad105, e105, hx105_0⟩ := zn zB.1 zs p105 q105; cases e105; replace hx105_0 := (HB.1.cell (World.block_lt_of_cell? w _ hx105_0)).trans hx105_0; replace p105 := eq_true p105; replace q105 := eq_true q105; go_wp2_with (((with_reducible refine zf (f := 47) rfl ?_); refine zl (some 27) rfl rfl kg (by kernel_rfl) rfl #[.int .i64 (rd l0_5 zs), .int .i64 0, .int .i64 1000000] rfl (by (try simp only [kk, kv, kh]); rfl) ?_; (with_reducible refine (spec_l1In.calls (rd l0_5 zs) 0 1000000 false _ A13.1).mono ?_); rintro e w' ⟨rfl, ⟨nd, rfl⟩⟩; refine ⟨_, rfl, ?_⟩)); go_ret; exact ⟨by rfl, by repeat ((with_reducible first | exact HB.1 | apply zc))⟩
        · rw [if_neg c12] at H; exact absurd H (by simp)
       · rw [if_neg c11] at H; exact absurd H (by simp)
      ·
       rw [if_neg c10] at H; have c10b0 : decide (zs < (l0_5.length : Int)) = false := decide_eq_false c10; clear c10; replace H := ky.mp H; obtain ⟨t108, A220, H⟩ := H; replace H : (if t108 = true then (if (l0_1.length : Int) ≤ 10 then ((spec_l1Addr.f a0_2).bind fun t109 => (if t109 = true then ((spec_l1In.f a0_3 0 1000000).bind fun t110 => (if t110 = true then ((spec_l1In.f a0_4 0 1000000).bind fun t111 => (if t111 = true then (some (decide ((l0_5.length : Int) ≤ 6))) else (some false))) else (some false))) else (some false))) else (some false)) else (some false)) = some r := H; have A22 := kj A220; clear A220; by_cases c23 : t108 = true
       ·
        subst c23; have H1 : (if (l0_1.length : Int) ≤ 10 then ((spec_l1Addr.f a0_2).bind fun t109 => (if t109 = true then ((spec_l1In.f a0_3 0 1000000).bind fun t110 => (if t110 = true then ((spec_l1In.f a0_4 0 1000000).bind fun t111 => (if t111 = true then (some (decide ((l0_5.length : Int) ≤ 6))) else (some false))) else (some false))) else (some false))) else (some false)) = some r := by rw [if_pos rfl] at H; exact H
        clear H; have H := H1; clear H1; by_cases c24 : (l0_1.length : Int) ≤ 10
        ·
         rw [if_pos c24] at H; have c24b0 : decide ((l0_1.length : Int) ≤ 10) = true := decide_eq_true c24; have c24b1 : decide (l0_1.length ≤ 10) = true := decide_eq_true (by omega); clear c24; replace H := ky.mp H; obtain ⟨t109, A250, H⟩ := H; replace H : (if t109 = true then ((spec_l1In.f a0_3 0 1000000).bind fun t110 => (if t110 = true then ((spec_l1In.f a0_4 0 1000000).bind fun t111 => (if t111 = true then (some (decide ((l0_5.length : Int) ≤ 6))) else (some false))) else (some false))) else (some false)) = some r := H; have A25 := kj A250; clear A250; by_cases c26 : t109 = true
         ·
          subst c26; have H1 : ((spec_l1In.f a0_3 0 1000000).bind fun t110 => (if t110 = true then ((spec_l1In.f a0_4 0 1000000).bind fun t111 => (if t111 = true then (some (decide ((l0_5.length : Int) ≤ 6))) else (some false))) else (some false))) = some r := by rw [if_pos rfl] at H; exact H
          clear H; have H := H1; clear H1; replace H := ky.mp H; obtain ⟨t110, A270, H⟩ := H; replace H : (if t110 = true then ((spec_l1In.f a0_4 0 1000000).bind fun t111 => (if t111 = true then (some (decide ((l0_5.length : Int) ≤ 6))) else (some false))) else (some false)) = some r := H; have A27 := kj A270; clear A270; by_cases c28 : t110 = true
          ·
           subst c28; have H1 : ((spec_l1In.f a0_4 0 1000000).bind fun t111 => (if t111 = true then (some (decide ((l0_5.length : Int) ≤ 6))) else (some false))) = some r := by rw [if_pos rfl] at H; exact H
           clear H; have H := H1; clear H1; replace H := ky.mp H; obtain ⟨t111, A290, H⟩ := H; replace H : (if t111 = true then (some (decide ((l0_5.length : Int) ≤ 6))) else (some false)) = some r := H; have A29 := kj A290; clear A290; by_cases c30 : t111 = true
           ·
            subst c30; have H1 : (some (decide ((l0_5.length : Int) ≤ 6))) = some r := by rw [if_pos rfl] at H; exact H
            clear H; have H := H1; clear H1; obtain rfl := kz H; have hcz31_0 : wr.cell? ⟨gb102, 0, none⟩ = some (.int .i64 a0_0) := (zb zr.1 0).trans rfl; have hcz31_1 : wr.cell? ⟨gb102, 1, none⟩ = some (.slice A0_1 l0_1.length c0_1) := (zb zr.1 1).trans rfl; have hcz31_2 : wr.cell? ⟨gb102, 2, none⟩ = some (.int .i64 a0_2) := (zb zr.1 2).trans rfl; have hcz31_3 : wr.cell? ⟨gb102, 3, none⟩ = some (.int .i64 a0_3) := (zb zr.1 3).trans rfl; have hcz31_4 : wr.cell? ⟨gb102, 4, none⟩ = some (.int .i64 a0_4) := (zb zr.1 4).trans rfl; have hcz31_5 : wr.cell? ⟨gb102, 5, none⟩ = some (.slice A0_5 l0_5.length c0_5) := (zb zr.1 5).trans rfl; have hfz31_0 := za zr.1 0; have hfz31_1 := za zr.1 1; have hfz31_2 := za zr.1 2; have hfz31_3 := za zr.1 3; have hfz31_4 := za zr.1 4; have hfz31_5 := za zr.1 5; go_wp2_with (first | ((with_reducible refine zf (f := 47) rfl ?_); refine zl (some 46) rfl rfl kg (by kernel_rfl) rfl #[.int .i64 a0_0, .int .i64 0, .int .i64 2] rfl (by (try simp only [kk, kv, kh]); rfl) ?_; (with_reducible refine (spec_l1In.calls a0_0 0 2 true _ A22.1).mono ?_); rintro e w' ⟨rfl, ⟨nd, rfl⟩⟩; refine ⟨_, rfl, ?_⟩) | (go_at_call 48; (with_reducible refine (spec_l1Addr.calls a0_2 true _ A25.1).mono ?_); rintro e w' ⟨rfl, ⟨nd, rfl⟩⟩) | (go_at_call 47; (with_reducible refine (spec_l1In.calls a0_3 0 1000000 true _ A27.1).mono ?_); rintro e w' ⟨rfl, ⟨nd, rfl⟩⟩) | (go_at_call 47; (with_reducible refine (spec_l1In.calls a0_4 0 1000000 true _ A29.1).mono ?_); rintro e w' ⟨rfl, ⟨nd, rfl⟩⟩)); go_ret; exact ⟨by rfl, by repeat ((with_reducible first | exact HB.1 | apply zc))⟩
           ·
            replace c30 := kf.mpr c30; subst c30; have H1 : (some false) = some r := by rw [if_neg (show ¬ (false = true) by decide)] at H; exact H
            clear H; have H := H1; clear H1; obtain rfl := kz H; have hcz32_0 : wr.cell? ⟨gb102, 0, none⟩ = some (.int .i64 a0_0) := (zb zr.1 0).trans rfl; have hcz32_1 : wr.cell? ⟨gb102, 1, none⟩ = some (.slice A0_1 l0_1.length c0_1) := (zb zr.1 1).trans rfl; have hcz32_2 : wr.cell? ⟨gb102, 2, none⟩ = some (.int .i64 a0_2) := (zb zr.1 2).trans rfl; have hcz32_3 : wr.cell? ⟨gb102, 3, none⟩ = some (.int .i64 a0_3) := (zb zr.1 3).trans rfl; have hcz32_4 : wr.cell? ⟨gb102, 4, none⟩ = some (.int .i64 a0_4) := (zb zr.1 4).trans rfl; have hcz32_5 : wr.cell? ⟨gb102, 5, none⟩ = some (.slice A0_5 l0_5.length c0_5) := (zb zr.1 5).trans rfl; have hfz32_0 := za zr.1 0; have hfz32_1 := za zr.1 1; have hfz32_2 := za zr.1 2; have hfz32_3 := za zr.1 3; have hfz32_4 := za zr.1 4; have hfz32_5 := za zr.1 5; go_wp2_with (first | ((with_reducible refine zf (f := 47) rfl ?_); refine zl (some 46) rfl rfl kg (by kernel_rfl) rfl #[.int .i64 a0_0, .int .i64 0, .int .i64 2] rfl (by (try simp only [kk, kv, kh]); rfl) ?_; (with_reducible refine (spec_l1In.calls a0_0 0 2 true _ A22.1).mono ?_); rintro e w' ⟨rfl, ⟨nd, rfl⟩⟩; refine ⟨_, rfl, ?_⟩) | (go_at_call 48; (with_reducible refine (spec_l1Addr.calls a0_2 true _ A25.1).mono ?_); rintro e w' ⟨rfl, ⟨nd, rfl⟩⟩) | (go_at_call 47; (with_reducible refine (spec_l1In.calls a0_3 0 1000000 true _ A27.1).mono ?_); rintro e w' ⟨rfl, ⟨nd, rfl⟩⟩) | (go_at_call 47; (with_reducible refine (spec_l1In.calls a0_4 0 1000000 false _ A29.1).mono ?_); rintro e w' ⟨rfl, ⟨nd, rfl⟩⟩)); go_ret; exact ⟨by rfl, by repeat ((with_reducible first | exact HB.1 | apply zc))⟩
          ·
           replace c28 := kf.mpr c28; subst c28; have H1 : (some false) = some r := by rw [if_neg (show ¬ (false = true) by decide)] at H; exact H
           clear H; have H := H1; clear H1; obtain rfl := kz H; have hcz33_0 : wr.cell? ⟨gb102, 0, none⟩ = some (.int .i64 a0_0) := (zb zr.1 0).trans rfl; have hcz33_1 : wr.cell? ⟨gb102, 1, none⟩ = some (.slice A0_1 l0_1.length c0_1) := (zb zr.1 1).trans rfl; have hcz33_2 : wr.cell? ⟨gb102, 2, none⟩ = some (.int .i64 a0_2) := (zb zr.1 2).trans rfl; have hcz33_3 : wr.cell? ⟨gb102, 3, none⟩ = some (.int .i64 a0_3) := (zb zr.1 3).trans rfl; have hcz33_4 : wr.cell? ⟨gb102, 4, none⟩ = some (.int .i64 a0_4) := (zb zr.1 4).trans rfl; have hcz33_5 : wr.cell? ⟨gb102, 5, none⟩ = some (.slice A0_5 l0_5.length c0_5) := (zb zr.1 5).trans rfl; have hfz33_0 := za zr.1 0; have hfz33_1 := za zr.1 1; have hfz33_2 := za zr.1 2; have hfz33_3 := za zr.1 3; have hfz33_4 := za zr.1 4; have hfz33_5 := za zr.1 5; go_wp2_with (first | ((with_reducible refine zf (f := 47) rfl ?_); refine zl (some 46) rfl rfl kg (by kernel_rfl) rfl #[.int .i64 a0_0, .int .i64 0, .int .i64 2] rfl (by (try simp only [kk, kv, kh]); rfl) ?_; (with_reducible refine (spec_l1In.calls a0_0 0 2 true _ A22.1).mono ?_); rintro e w' ⟨rfl, ⟨nd, rfl⟩⟩; refine ⟨_, rfl, ?_⟩) | (go_at_call 48; (with_reducible refine (spec_l1Addr.calls a0_2 true _ A25.1).mono ?_); rintro e w' ⟨rfl, ⟨nd, rfl⟩⟩) | (go_at_call 47; (with_reducible refine (spec_l1In.calls a0_3 0 1000000 false _ A27.1).mono ?_); rintro e w' ⟨rfl, ⟨nd, rfl⟩⟩)); go_ret; exact ⟨by rfl, by repeat ((with_reducible first | exact HB.1 | apply zc))⟩
         ·
          replace c26 := kf.mpr c26; subst c26; have H1 : (some false) = some r := by rw [if_neg (show ¬ (false = true) by decide)] at H; exact H
          clear H; have H := H1; clear H1; obtain rfl := kz H; have hcz34_0 : wr.cell? ⟨gb102, 0, none⟩ = some (.int .i64 a0_0) := (zb zr.1 0).trans rfl; have hcz34_1 : wr.cell? ⟨gb102, 1, none⟩ = some (.slice A0_1 l0_1.length c0_1) := (zb zr.1 1).trans rfl; have hcz34_2 : wr.cell? ⟨gb102, 2, none⟩ = some (.int .i64 a0_2) := (zb zr.1 2).trans rfl; have hcz34_3 : wr.cell? ⟨gb102, 3, none⟩ = some (.int .i64 a0_3) := (zb zr.1 3).trans rfl; have hcz34_4 : wr.cell? ⟨gb102, 4, none⟩ = some (.int .i64 a0_4) := (zb zr.1 4).trans rfl; have hcz34_5 : wr.cell? ⟨gb102, 5, none⟩ = some (.slice A0_5 l0_5.length c0_5) := (zb zr.1 5).trans rfl; have hfz34_0 := za zr.1 0; have hfz34_1 := za zr.1 1; have hfz34_2 := za zr.1 2; have hfz34_3 := za zr.1 3; have hfz34_4 := za zr.1 4; have hfz34_5 := za zr.1 5; go_wp2_with (first | ((with_reducible refine zf (f := 47) rfl ?_); refine zl (some 46) rfl rfl kg (by kernel_rfl) rfl #[.int .i64 a0_0, .int .i64 0, .int .i64 2] rfl (by (try simp only [kk, kv, kh]); rfl) ?_; (with_reducible refine (spec_l1In.calls a0_0 0 2 true _ A22.1).mono ?_); rintro e w' ⟨rfl, ⟨nd, rfl⟩⟩; refine ⟨_, rfl, ?_⟩) | (go_at_call 48; (with_reducible refine (spec_l1Addr.calls a0_2 false _ A25.1).mono ?_); rintro e w' ⟨rfl, ⟨nd, rfl⟩⟩)); go_ret; exact ⟨by rfl, by repeat ((with_reducible first | exact HB.1 | apply zc))⟩
        · rw [if_neg c24] at H; have c24b0 : decide ((l0_1.length : Int) ≤ 10) = false := decide_eq_false c24; have c24b1 : decide (l0_1.length ≤ 10) = false := decide_eq_false (by omega); clear c24; obtain rfl := kz H; have hcz35_0 : wr.cell? ⟨gb102, 0, none⟩ = some (.int .i64 a0_0) := (zb zr.1 0).trans rfl; have hcz35_1 : wr.cell? ⟨gb102, 1, none⟩ = some (.slice A0_1 l0_1.length c0_1) := (zb zr.1 1).trans rfl; have hcz35_2 : wr.cell? ⟨gb102, 2, none⟩ = some (.int .i64 a0_2) := (zb zr.1 2).trans rfl; have hcz35_3 : wr.cell? ⟨gb102, 3, none⟩ = some (.int .i64 a0_3) := (zb zr.1 3).trans rfl; have hcz35_4 : wr.cell? ⟨gb102, 4, none⟩ = some (.int .i64 a0_4) := (zb zr.1 4).trans rfl; have hcz35_5 : wr.cell? ⟨gb102, 5, none⟩ = some (.slice A0_5 l0_5.length c0_5) := (zb zr.1 5).trans rfl; have hfz35_0 := za zr.1 0; have hfz35_1 := za zr.1 1; have hfz35_2 := za zr.1 2; have hfz35_3 := za zr.1 3; have hfz35_4 := za zr.1 4; have hfz35_5 := za zr.1 5; go_wp2_with (((with_reducible refine zf (f := 47) rfl ?_); refine zl (some 46) rfl rfl kg (by kernel_rfl) rfl #[.int .i64 a0_0, .int .i64 0, .int .i64 2] rfl (by (try simp only [kk, kv, kh]); rfl) ?_; (with_reducible refine (spec_l1In.calls a0_0 0 2 true _ A22.1).mono ?_); rintro e w' ⟨rfl, ⟨nd, rfl⟩⟩; refine ⟨_, rfl, ?_⟩)); go_ret; exact ⟨by rfl, by repeat ((with_reducible first | exact HB.1 | apply zc))⟩
       ·
        replace c23 := kf.mpr c23; subst c23; have H1 : (some false) = some r := by rw [if_neg (show ¬ (false = true) by decide)] at H; exact H
        clear H; have H := H1; clear H1; obtain rfl := kz H; have hcz36_0 : wr.cell? ⟨gb102, 0, none⟩ = some (.int .i64 a0_0) := (zb zr.1 0).trans rfl; have hcz36_1 : wr.cell? ⟨gb102, 1, none⟩ = some (.slice A0_1 l0_1.length c0_1) := (zb zr.1 1).trans rfl; have hcz36_2 : wr.cell? ⟨gb102, 2, none⟩ = some (.int .i64 a0_2) := (zb zr.1 2).trans rfl; have hcz36_3 : wr.cell? ⟨gb102, 3, none⟩ = some (.int .i64 a0_3) := (zb zr.1 3).trans rfl; have hcz36_4 : wr.cell? ⟨gb102, 4, none⟩ = some (.int .i64 a0_4) := (zb zr.1 4).trans rfl; have hcz36_5 : wr.cell? ⟨gb102, 5, none⟩ = some (.slice A0_5 l0_5.length c0_5) := (zb zr.1 5).trans rfl; have hfz36_0 := za zr.1 0; have hfz36_1 := za zr.1 1; have hfz36_2 := za zr.1 2; have hfz36_3 := za zr.1 3; have hfz36_4 := za zr.1 4; have hfz36_5 := za zr.1 5; go_wp2_with (((with_reducible refine zf (f := 47) rfl ?_); refine zl (some 46) rfl rfl kg (by kernel_rfl) rfl #[.int .i64 a0_0, .int .i64 0, .int .i64 2] rfl (by (try simp only [kk, kv, kh]); rfl) ?_; (with_reducible refine (spec_l1In.calls a0_0 0 2 false _ A22.1).mono ?_); rintro e w' ⟨rfl, ⟨nd, rfl⟩⟩; refine ⟨_, rfl, ?_⟩)); go_ret; exact ⟨by rfl, by repeat ((with_reducible first | exact HB.1 | apply zc))⟩

/-! ### impl_within: function 50 -/
def impl_within.f (a0 : Int) (a1 : Int) (a2 : Int) : Option (Bool) := if a0 ≥ a1 then (some (decide (a0 ≤ a2))) else (some false)
theorem impl_within.calls (a0 : Int) (a1 : Int) (a2 : Int) (r : Bool) (w : World) (h : impl_within.f a0 a1 a2 = some r) :
  Calls ke 50 #[.int .i64 a0, .int .i64 a1, .int .i64 a2] w fun e w' => e = .returned (.bool r) ∧ zq w w' := by
 have H : (if a0 ≥ a1 then (some (decide (a0 ≤ a2))) else (some false)) = some r := h; clear h; by_cases c4 : a0 ≥ a1; · rw [if_pos c4] at H; have c4b0 : decide (a1 ≤ a0) = true := decide_eq_true c4; clear c4; obtain rfl := kz H; go_enter Try.func50, Try.ntmps50; go_wp2; go_ret; exact ⟨by rfl, by repeat (exact zk _)⟩
 · rw [if_neg c4] at H; have c4b0 : decide (a1 ≤ a0) = false := decide_eq_false c4; clear c4; obtain rfl := kz H; go_enter Try.func50, Try.ntmps50; go_wp2; go_ret; exact ⟨by rfl, by repeat (exact zk _)⟩

/-! ### impl_isAsn: function 63 -/
def impl_isAsn.f (a0 : Int) : Option (Bool) := (impl_within.f a0 1 65535).bind fun t112 => (some t112)
theorem impl_isAsn.calls (a0 : Int) (r : Bool) (w : World) (h : impl_isAsn.f a0 = some r) :
  Calls ke 63 #[.int .i64 a0] w fun e w' => e = .returned (.bool r) ∧ zq w w' := by
 have H : ((impl_within.f a0 1 65535).bind fun t112 => (some t112)) = some r := h; clear h; replace H := ky.mp H; obtain ⟨t112, A20, H⟩ := H; replace H : (some t112) = some r := H; have A2 := kj A20; clear A20; obtain rfl := kz H; go_enter Try.func63, Try.ntmps63; go_wp2_with (((with_reducible refine zf (f := 50) rfl ?_); refine zl (some 4) rfl rfl Try.func50 (by kernel_rfl) rfl #[.int .i64 a0, .int .i64 1, .int .i64 65535] rfl (by (try simp only [kk, kv, kh]); rfl) ?_; (with_reducible refine (impl_within.calls a0 1 65535 t112 _ A2.1).mono ?_); rintro e w' ⟨rfl, ⟨nd, rfl⟩⟩; refine ⟨_, rfl, ?_⟩)); go_ret; exact ⟨by rfl, by repeat (first | exact zk _ | apply zj)⟩

/-! ### impl_isPath_1: function 100 -/
def impl_isPath_1.f (a0 : Int) : Option (Bool) := (impl_isAsn.f a0).bind fun t113 => (some (!t113))
theorem impl_isPath_1.calls (a0 : Int) (r : Bool) (w : World) (h : impl_isPath_1.f a0 = some r) :
  Calls ke 100 #[.int .i64 a0] w fun e w' => e = .returned (.bool r) ∧ zq w w' := by
 have H : ((impl_isAsn.f a0).bind fun t113 => (some (!t113))) = some r := h; clear h; replace H := ky.mp H; obtain ⟨t113, A20, H⟩ := H; replace H : (some (!t113)) = some r := H; have A2 := kj A20; clear A20; obtain rfl := kz H; go_enter Try.func100, Try.ntmps100; go_wp2_with (((with_reducible refine zf (f := 63) rfl ?_); refine zl (some 4) rfl rfl Try.func63 (by kernel_rfl) rfl #[.int .i64 a0] rfl (by (try simp only [kk, kv, kh]); rfl) ?_; (with_reducible refine (impl_isAsn.calls a0 t113 _ A2.1).mono ?_); rintro e w' ⟨rfl, ⟨nd, rfl⟩⟩; refine ⟨_, rfl, ?_⟩)); go_ret; exact ⟨by rfl, by repeat (first | exact zk _ | apply zj)⟩

/-! ### slices_IndexFunc_int_int: function 119 -/
def slices_IndexFunc_int_int.l0 : Nat → List Int → Int → Int → Option (Int)
 | 0, _, _, _ => none
 | k + 1, x0, x7, x8 => if x8 < x7 then (if 0 ≤ x8 then (if x8 < (x0.length : Int) then ((impl_isPath_1.f (rd x0 x8)).bind fun t115 => (if t115 = true then (some x8) else (slices_IndexFunc_int_int.l0 k x0 x7 (wrap64 (x8 + 1))))) else (none)) else (none)) else (some (-1))
def slices_IndexFunc_int_int.f (k : Nat) (l0 : List Int)  : Option (Int) := slices_IndexFunc_int_int.l0 k l0 (l0.length : Int) 0
theorem slices_IndexFunc_int_int.mono_l : ∀ k, (∀ y0 y1 y2, LeO (slices_IndexFunc_int_int.l0 k y0 y1 y2) (slices_IndexFunc_int_int.l0 (k + 1) y0 y1 y2))
 | 0 => fun _ _ _ r h => by simp [slices_IndexFunc_int_int.l0] at h
 | k + 1 => by
  have ih0 := slices_IndexFunc_int_int.mono_l k
  ·
   intro y0 y1 y2; unfold slices_IndexFunc_int_int.l0; repeat' first
   | (with_reducible exact ih0 _ _ _)
   | (with_reducible exact zp _)
   | (with_reducible refine zm ?_ ?_)
   | (with_reducible refine zi ?_ (fun _ => ?_))
theorem slices_IndexFunc_int_int.mono : ∀ a0 k, LeO (slices_IndexFunc_int_int.f k a0) (slices_IndexFunc_int_int.f (k + 1) a0) := by
 intro a0 k; have ih0 := slices_IndexFunc_int_int.mono_l k; unfold slices_IndexFunc_int_int.f
 repeat' first
   | (with_reducible exact ih0 _ _ _)
theorem slices_IndexFunc_int_int.calls (k : Nat) (A0 : Option Addr) (c0 : Nat) (l0 : List Int)  (r : Int) (w : World) (hr0 : Kd.C (Kd.int .i64) w A0 l0.length l0) (hc0 : l0.length ≤ c0) (h : slices_IndexFunc_int_int.f k l0 = some r) :
  Calls ke 119 #[.slice A0 l0.length c0, .func (.func 100) #[] #[]] w fun e w' => e = .returned (.int .i64 r) ∧ Below w.heap.size w w' := by
 have HR0 := kj hr0; have HC0 := kj hc0; clear hr0 hc0; have HB := kj (Below.refl w.heap.size w); have H : (slices_IndexFunc_int_int.l0 k l0 (l0.length : Int) 0) = some r := h; clear h; have H' := kj H; clear H; go_enter Try.func119, Try.ntmps119; go_wp2; go_loopg [8] k (fun kq v8 w' => ∃ (x8_1 : Int), v8 = .int .i64 x8_1 ∧ zo (slices_IndexFunc_int_int.l0 kq l0 (l0.length : Int) x8_1 = some r) ∧ zo (kq ≤ k) ∧ zo (Below w.heap.size w w')); case atStart => exact ⟨(0), (by rfl), H', ⟨Nat.le_refl _⟩, ⟨by exact HB.1⟩⟩
 case round =>
  clear H'; obtain ⟨x8_1, rfl, HA, HK1, HB⟩ := hrel; cases gk with
  | zero => exact absurd HA.1 (by simp [slices_IndexFunc_int_int.l0])
  | succ k1 =>
   have H := HA.1; clear HA; simp only [slices_IndexFunc_int_int.l0] at H; by_cases c3 : x8_1 < (l0.length : Int)
   ·
    rw [if_pos c3] at H; have c3b0 : decide (x8_1 < (l0.length : Int)) = true := decide_eq_true c3; clear c3; by_cases c4 : 0 ≤ x8_1
    ·
     rw [if_pos c4] at H; have c4b0 : decide (0 ≤ x8_1) = true := decide_eq_true c4; clear c4; by_cases c5 : x8_1 < (l0.length : Int)
     ·
      rw [if_pos c5] at H; have c5b0 : decide (x8_1 < (l0.length : Int)) = true := decide_eq_true c5; clear c5; replace H := ky.mp H; obtain ⟨t115, A60, H⟩ := H; replace H : (if t115 = true then (some x8_1) else (slices_IndexFunc_int_int.l0 k1 l0 (l0.length : Int) (wrap64 (x8_1 + 1)))) = some r := H; have A6 := kj A60; clear A60; by_cases c7 : t115 = true
      ·
       subst c7; have H1 : (some x8_1) = some r := by rw [if_pos rfl] at H; exact H
       clear H; have H := H1; clear H1; obtain rfl := kz H; have p114 : 0 ≤ (x8_1 : Int) := of_decide_eq_true (by (with_reducible assumption)); have q114 : x8_1 < (l0.length : Int) := of_decide_eq_true (by (with_reducible assumption)); obtain ⟨ad114, e114, hx114_0⟩ := zn HR0.1 x8_1 p114 q114; cases e114; replace hx114_0 := (HB.1.cell (World.block_lt_of_cell? w _ hx114_0)).trans hx114_0; replace p114 := eq_true p114; replace q114 := eq_true q114; go_wp2_with ((go_at_call 100; (with_reducible refine (impl_isPath_1.calls (rd l0 x8_1) true _ A6.1).mono ?_); rintro e w' ⟨rfl, ⟨nd, rfl⟩⟩)); go_ret; exact ⟨by rfl, by repeat ((with_reducible first | exact HB.1 | apply zc))⟩
      ·
       replace c7 := kf.mpr c7; subst c7; have H1 : (slices_IndexFunc_int_int.l0 k1 l0 (l0.length : Int) (wrap64 (x8_1 + 1))) = some r := by rw [if_neg (show ¬ (false = true) by decide)] at H; exact H
       clear H; have H := H1; clear H1; have H' := kj H; clear H; have p114 : 0 ≤ (x8_1 : Int) := of_decide_eq_true (by (with_reducible assumption)); have q114 : x8_1 < (l0.length : Int) := of_decide_eq_true (by (with_reducible assumption)); obtain ⟨ad114, e114, hx114_0⟩ := zn HR0.1 x8_1 p114 q114; cases e114; replace hx114_0 := (HB.1.cell (World.block_lt_of_cell? w _ hx114_0)).trans hx114_0; replace p114 := eq_true p114; replace q114 := eq_true q114; go_wp2_with ((go_at_call 100; (with_reducible refine (impl_isPath_1.calls (rd l0 x8_1) false _ A6.1).mono ?_); rintro e w' ⟨rfl, ⟨nd, rfl⟩⟩)); go_roundg k1; case measure => have := HK1.1; omega
       case rel => exact ⟨(wrap64 (x8_1 + 1)), (by rfl), H', ⟨by have := HK1.1; omega⟩, ⟨by repeat ((with_reducible first | exact HB.1 | apply zc))⟩⟩
     · rw [if_neg c5] at H; exact absurd H (by simp)
    · rw [if_neg c4] at H; exact absurd H (by simp)
   · rw [if_neg c3] at H; have c3b0 : decide (x8_1 < (l0.length : Int)) = false := decide_eq_false c3; clear c3; obtain rfl := kz H; go_wp2; go_ret; exact ⟨by rfl, by exact HB.1⟩

/-! ### slices_ContainsFunc_int_int: function 99 -/
def slices_ContainsFunc_int_int.f (k : Nat) (l0 : List Int)  : Option (Bool) := (slices_IndexFunc_int_int.f k l0).bind fun t116 => (some (decide (t116 ≥ 0)))
theorem slices_ContainsFunc_int_int.mono : ∀ a0 k, LeO (slices_ContainsFunc_int_int.f k a0) (slices_ContainsFunc_int_int.f (k + 1) a0) := by
 intro a0 k; unfold slices_ContainsFunc_int_int.f
 repeat' first
   | (with_reducible exact slices_IndexFunc_int_int.mono _ _)
   | (with_reducible exact zp _)
   | (with_reducible refine zi ?_ (fun _ => ?_))
theorem slices_ContainsFunc_int_int.calls (k : Nat) (A0 : Option Addr) (c0 : Nat) (l0 : List Int)  (r : Bool) (w : World) (hr0 : Kd.C (Kd.int .i64) w A0 l0.length l0) (hc0 : l0.length ≤ c0) (h : slices_ContainsFunc_int_int.f k l0 = some r) :
  Calls ke 99 #[.slice A0 l0.length c0, .func (.func 100) #[] #[]] w fun e w' => e = .returned (.bool r) ∧ Below w.heap.size w w' := by
 have HR0 := kj hr0; have HC0 := kj hc0; clear hr0 hc0; have HB := kj (Below.refl w.heap.size w); have H : ((slices_IndexFunc_int_int.f k l0).bind fun t116 => (some (decide (t116 ≥ 0)))) = some r := h; clear h; replace H := ky.mp H; obtain ⟨t116, A30, H⟩ := H; replace H : (some (decide (t116 ≥ 0))) = some r := H; have A3 := kj A30; clear A30; obtain rfl := kz H; go_enter Try.func99, Try.ntmps99; go_wp2_with (((with_reducible refine zf (f := 119) rfl ?_); refine zl (some 7) rfl rfl Try.func119 (by kernel_rfl) rfl #[.slice A0 l0.length c0, .func (.func 100) #[] #[]] rfl (by (try simp only [kk, kv, kh]); rfl) ?_; (with_reducible refine (slices_IndexFunc_int_int.calls k _ _ l0  t116 _ ?side1 ?side2 A3.1).mono ?_); (case side1 => repeat (exact HR0.1)); (case side2 => exact HC0.1); rintro e w4 ⟨rfl, hb⟩; refine ⟨_, rfl, ?_⟩; replace HB := kj (below_step HB.1 hb); (try clear hi))); go_ret; exact ⟨by rfl, by exact HB.1⟩

/-! ### impl_isPath: function 51 -/
def impl_isPath.f (k : Nat) (l0 : List Int) : Option (Bool) := if (l0.length : Int) ≤ 10 then ((slices_ContainsFunc_int_int.f k l0).bind fun t117 => (some (!t117))) else (some false)
theorem impl_isPath.mono : ∀ a0 k, LeO (impl_isPath.f k a0) (impl_isPath.f (k + 1) a0) := by
 intro a0 k; unfold impl_isPath.f
 repeat' first
   | (with_reducible exact slices_ContainsFunc_int_int.mono _ _)
   | (with_reducible exact zp _)
   | (with_reducible refine zm ?_ ?_)
   | (with_reducible refine zi ?_ (fun _ => ?_))
theorem impl_isPath.calls (k : Nat) (A0 : Option Addr) (c0 : Nat) (l0 : List Int) (r : Bool) (w : World) (hr0 : Kd.C (Kd.int .i64) w A0 l0.length l0) (hc0 : l0.length ≤ c0) (h : impl_isPath.f k l0 = some r) :
  Calls ke 51 #[.slice A0 l0.length c0] w fun e w' => e = .returned (.bool r) ∧ Below w.heap.size w w' := by
 have HR0 := kj hr0; have HC0 := kj hc0; clear hr0 hc0; have HB := kj (Below.refl w.heap.size w); have H : (if (l0.length : Int) ≤ 10 then ((slices_ContainsFunc_int_int.f k l0).bind fun t117 => (some (!t117))) else (some false)) = some r := h; clear h; by_cases c2 : (l0.length : Int) ≤ 10; · rw [if_pos c2] at H; have c2b0 : decide ((l0.length : Int) ≤ 10) = true := decide_eq_true c2; have c2b1 : decide (l0.length ≤ 10) = true := decide_eq_true (by omega); clear c2; replace H := ky.mp H; obtain ⟨t117, A30, H⟩ := H; replace H : (some (!t117)) = some r := H; have A3 := kj A30; clear A30; obtain rfl := kz H; go_enter Try.func51, Try.ntmps51; go_wp2_with ((go_at_call 99; (with_reducible refine (slices_ContainsFunc_int_int.calls k _ _ l0  t117 _ ?side1 ?side2 A3.1).mono ?_); (case side1 => repeat (exact HR0.1)); (case side2 => exact HC0.1); rintro e w4 ⟨rfl, hb⟩; replace HB := kj (below_step HB.1 hb); (try clear hi))); go_ret; exact ⟨by rfl, by exact HB.1⟩
 · rw [if_neg c2] at H; have c2b0 : decide ((l0.length : Int) ≤ 10) = false := decide_eq_false c2; have c2b1 : decide (l0.length ≤ 10) = false := decide_eq_false (by omega); clear c2; obtain rfl := kz H; go_enter Try.func51, Try.ntmps51; go_wp2; go_ret; exact ⟨by rfl, by exact HB.1⟩

/-! ### impl_isAddr: function 52 -/
def impl_isAddr.f (a0 : Int) : Option (Bool) := (impl_within.f a0 0 4294967295).bind fun t118 => (some t118)
theorem impl_isAddr.calls (a0 : Int) (r : Bool) (w : World) (h : impl_isAddr.f a0 = some r) :
  Calls ke 52 #[.int .i64 a0] w fun e w' => e = .returned (.bool r) ∧ zq w w' := by
 have H : ((impl_within.f a0 0 4294967295).bind fun t118 => (some t118)) = some r := h; clear h; replace H := ky.mp H; obtain ⟨t118, A20, H⟩ := H; replace H : (some t118) = some r := H; have A2 := kj A20; clear A20; obtain rfl := kz H; go_enter Try.func52, Try.ntmps52; go_wp2_with (((with_reducible refine zf (f := 50) rfl ?_); refine zl (some 4) rfl rfl Try.func50 (by kernel_rfl) rfl #[.int .i64 a0, .int .i64 0, .int .i64 4294967295] rfl (by (try simp only [kk, kv, kh]); rfl) ?_; (with_reducible refine (impl_within.calls a0 0 4294967295 t118 _ A2.1).mono ?_); rintro e w' ⟨rfl, ⟨nd, rfl⟩⟩; refine ⟨_, rfl, ?_⟩)); go_ret; exact ⟨by rfl, by repeat (first | exact zk _ | apply zj)⟩

/-! ### impl_isValue: function 53 -/
def impl_isValue.f (a0 : Int) : Option (Bool) := (impl_within.f a0 0 1000000).bind fun t119 => (some t119)
theorem impl_isValue.calls (a0 : Int) (r : Bool) (w : World) (h : impl_isValue.f a0 = some r) :
  Calls ke 53 #[.int .i64 a0] w fun e w' => e = .returned (.bool r) ∧ zq w w' := by
 have H : ((impl_within.f a0 0 1000000).bind fun t119 => (some t119)) = some r := h; clear h; replace H := ky.mp H; obtain ⟨t119, A20, H⟩ := H; replace H : (some t119) = some r := H; have A2 := kj A20; clear A20; obtain rfl := kz H; go_enter Try.func53, Try.ntmps53; go_wp2_with (((with_reducible refine zf (f := 50) rfl ?_); refine zl (some 4) rfl rfl Try.func50 (by kernel_rfl) rfl #[.int .i64 a0, .int .i64 0, .int .i64 1000000] rfl (by (try simp only [kk, kv, kh]); rfl) ?_; (with_reducible refine (impl_within.calls a0 0 1000000 t119 _ A2.1).mono ?_); rintro e w' ⟨rfl, ⟨nd, rfl⟩⟩; refine ⟨_, rfl, ?_⟩)); go_ret; exact ⟨by rfl, by repeat (first | exact zk _ | apply zj)⟩

end Go.Proofs.Ytlnfcobloolnnaa.PFnPrepend
