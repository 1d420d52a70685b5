/- Go functions told by Lean functions, printed by a program. No condition but what each statement says. -/
import Derived.Test.YtlnfcobloolnnaaYFnUpdatesx5
namespace Go.Proofs.Ytlnfcobloolnnaa.PFnUpdates
open Go.RowKit Go.Proofs.YtlnfcobloolnnaaW.PrintWords Go.Proofs.YtlnfcobloolnnaaW.PrintLast Go.Proofs.YtlnfcobloolnnaaW.PrintMore
open Aside0 renaming mk → kz
open List renaming map_toArray → ky, map_cons → kk, map_nil → kh
open Option.some renaming inj → kj
open Option renaming bind_eq_some_iff → kv
open Try renaming func47 → kg
open Bool renaming eq_false_iff → kf
set_option maxHeartbeats 8000000
set_option maxRecDepth 100000
open Go.Proofs.YtlnfcobloolnnaaW.PrintLast renaming goesL_ → zp
open Go.Proofs.YtlnfcobloolnnaaW.PrintWords renaming pw_below_drewN → zc, below_set → zf, gate_callee → zg, blk_drewN → zh, below_size → zk, Aside0 → zq
open Go.Proofs.YtlnfcobloolnnaaW.PrintWords.Kd renaming at_int → zn
attribute [local go_sem] max2_int min2_int max_two min_two max_three min_three max_four min_four
set_option linter.unusedVariables false
set_option linter.unusedSimpArgs false
attribute [local go_sem high] eqA35
/-! ### spec_GoodAttrs: function 13 -/
mutual
def spec_GoodAttrs.l0 : Nat → List Int → Int → Int → Int → List Int → Int → Int → Int → List Int → Option (Bool)
 | 0, _, _, _, _, _, _, _, _, _ => none
 | k + 1, x8, x9, x10, zy, zz, zA, zB, zC, zv => if x10 < x9 then (if 0 ≤ x10 then (if x10 < (x8.length : Int) then ((spec_l1In.f (rd x8 x10) 1 65535).bind fun t153 => (if t153 = true then (spec_GoodAttrs.l0 k x8 x9 (wrap64 (x10 + 1)) zy zz zA zB zC zv) else (some false))) else (none)) else (none)) else (spec_GoodAttrs.l1 k zv (zv.length : Int) 0 zy zz zA zB zC zv)
def spec_GoodAttrs.l1 : Nat → List Int → Int → Int → Int → List Int → Int → Int → Int → List Int → Option (Bool)
 | 0, _, _, _, _, _, _, _, _, _ => none
 | k + 1, x19, x20, x21, zy, zz, zA, zB, zC, zv => if x21 < x20 then (if 0 ≤ x21 then (if x21 < (x19.length : Int) then ((spec_l1In.f (rd x19 x21) 0 1000000).bind fun t155 => (if t155 = true then (if x21 > 0 then (if 0 ≤ (wrap64 (x21 - 1)) then (if (wrap64 (x21 - 1)) < (zv.length : Int) then (if (rd zv (wrap64 (x21 - 1))) ≥ (rd x19 x21) then (some false) else (spec_GoodAttrs.l1 k x19 x20 (wrap64 (x21 + 1)) zy zz zA zB zC zv)) else (none)) else (none)) else (spec_GoodAttrs.l1 k x19 x20 (wrap64 (x21 + 1)) zy zz zA zB zC zv)) else (some false))) else (none)) else (none)) else ((spec_l1In.f zy 0 2).bind fun t157 => (if t157 = true then (if (zz.length : Int) ≤ 10 then ((spec_l1Addr.f zA).bind fun t158 => (if t158 = true then ((spec_l1In.f zB 0 1000000).bind fun t159 => (if t159 = true then ((spec_l1In.f zC 0 1000000).bind fun t160 => (if t160 = true then (some (decide ((zv.length : Int) ≤ 6))) else (some false))) else (some false))) else (some false))) else (some false)) else (some false)))
end
def spec_GoodAttrs.f (k : Nat) (a0_0 : Int) (l0_1 : List Int) (a0_2 : Int) (a0_3 : Int) (a0_4 : Int) (l0_5 : List Int) : Option (Bool) := spec_GoodAttrs.l0 k l0_1 (l0_1.length : Int) 0 a0_0 l0_1 a0_2 a0_3 a0_4 l0_5
theorem spec_GoodAttrs.calls (k : Nat) (a0_0 : Int) (A0_1 : Option Addr) (c0_1 : Nat) (l0_1 : List Int) (a0_2 : Int) (a0_3 : Int) (a0_4 : Int) (A0_5 : Option Addr) (c0_5 : Nat) (l0_5 : List Int) (r : Bool) (w : World) (hr0_1 : Kd.C (Kd.int .i64) w A0_1 l0_1.length l0_1) (hc0_1 : l0_1.length ≤ c0_1) (hr0_5 : Kd.C (Kd.int .i64) w A0_5 l0_5.length l0_5) (hc0_5 : l0_5.length ≤ c0_5) (h : spec_GoodAttrs.f k a0_0 l0_1 a0_2 a0_3 a0_4 l0_5 = some r) :
  Calls Try.prog 13 #[.agg #[.int .i64 a0_0, .slice A0_1 l0_1.length c0_1, .int .i64 a0_2, .int .i64 a0_3, .int .i64 a0_4, .slice A0_5 l0_5.length c0_5]] w fun e w' => e = .returned (.bool r) ∧ Below w.heap.size w w' := by
 have hu27 := Try.underlying27; have HR0_1 := kz hr0_1; have HC0_1 := kz hc0_1; clear hr0_1 hc0_1; have zF := kz hr0_5; have HC0_5 := kz hc0_5; clear hr0_5 hc0_5; have HB := kz (Below.refl w.heap.size w); have H : (spec_GoodAttrs.l0 k l0_1 (l0_1.length : Int) 0 a0_0 l0_1 a0_2 a0_3 a0_4 l0_5) = some r := h; clear h; have H' := kz H; clear H; go_enter Try.func13, Try.ntmps13; go_wp2_with (((with_reducible refine gate_dst (N := 1) rfl ?_); (try (refine gate_guard (by rfl) ?_; dsimp only)); refine box_event ?hg (N := 1) ?hd (cs := #[.int .i64 a0_0, .slice A0_1 l0_1.length c0_1, .int .i64 a0_2, .int .i64 a0_3, .int .i64 a0_4, .slice A0_5 l0_5.length c0_5]) (t := 27) ?hr ?_; (case hd => rfl); (case hg => rfl); (case hr => (go_simp; done)); intro gb151 hg w2 hbox hb; replace HB := kz (below_step HB.1 hb); have zr := kz hbox; clear hb hbox hg; have hcz3_0 := bc6 zr.1)); go_loopg [10] k (fun kq v10 w' => ∃ (zt : Int), v10 = .int .i64 zt ∧ zq (spec_GoodAttrs.l0 kq l0_1 (l0_1.length : Int) zt a0_0 l0_1 a0_2 a0_3 a0_4 l0_5 = some r) ∧ zq (kq ≤ k) ∧ zq (w'.heap[gb151]? = some (.cells #[.int .i64 a0_0, (.slice A0_1 l0_1.length c0_1), .int .i64 a0_2, .int .i64 a0_3, .int .i64 a0_4, (.slice A0_5 l0_5.length c0_5)] 27 (0, 0))) ∧ zq (Below w.heap.size w w')); case atStart => exact ⟨(0), (by rfl), H', ⟨Nat.le_refl _⟩, ⟨by exact zr.1⟩, ⟨by exact HB.1⟩⟩
 case round =>
  clear H'; obtain ⟨zt, rfl, HA, HK1, zr, HB⟩ := hrel; cases gk with
  | zero => exact absurd HA.1 (by simp [spec_GoodAttrs.l0])
  | succ k1 =>
   have H := HA.1; clear HA; simp only [spec_GoodAttrs.l0] at H; by_cases c4 : zt < (l0_1.length : Int)
   ·
    rw [if_pos c4] at H; have c4b0 := decide_eq_true c4; clear c4; by_cases c5 : 0 ≤ zt
    ·
     rw [if_pos c5] at H; have c5b0 := decide_eq_true c5; clear c5; by_cases c6 : zt < (l0_1.length : Int)
     ·
      rw [if_pos c6] at H; have c6b0 := decide_eq_true c6; clear c6; replace H := kv.mp H; obtain ⟨t153, A70, H⟩ := H; have A7 := kz A70; clear A70; by_cases c8 : t153 = true
      ·
       subst c8; rw [if_pos rfl] at H; have H' := kz H; clear H; have p152 : 0 ≤ (zt : Int) := of_decide_eq_true (by (with_reducible assumption)); have q152 : zt < (l0_1.length : Int) := of_decide_eq_true (by (with_reducible assumption)); obtain ⟨ad152, e152, hx152_0⟩ := zn HR0_1.1 zt p152 q152; cases e152; try replace hx152_0 := (HB.1.cell (World.block_lt_of_cell? w _ hx152_0)).trans hx152_0
       replace p152 := eq_true p152; replace q152 := eq_true q152; go_wp2_with (((with_reducible refine zg (f := 47) rfl ?_); refine zp (some 15) rfl rfl kg (by kernel_rfl) rfl #[.int .i64 (rd l0_1 zt), .int .i64 1, .int .i64 65535] rfl (by (try simp only [ky, kk, kh]); rfl) ?_; (with_reducible refine (spec_l1In.calls (rd l0_1 zt) 1 65535 true _ A7.1).mono ?_); rintro e w' ⟨rfl, ⟨nd, rfl⟩⟩; refine ⟨_, rfl, ?_⟩)); go_roundg k1; case measure => have := HK1.1; omega
       case rel => exact ⟨(wrap64 (zt + 1)), (by rfl), H', ⟨by have := HK1.1; omega⟩, ⟨by (with_reducible repeat (refine zh ?_ _)); exact zr.1⟩, ⟨by repeat ((with_reducible first | exact HB.1 | apply zc))⟩⟩
      ·
       replace c8 := kf.mpr c8; subst c8; rw [if_neg (show ¬ (false = true) by decide)] at H; obtain rfl := kj H; have p152 : 0 ≤ (zt : Int) := of_decide_eq_true (by (with_reducible assumption)); have q152 : zt < (l0_1.length : Int) := of_decide_eq_true (by (with_reducible assumption)); obtain ⟨ad152, e152, hx152_0⟩ := zn HR0_1.1 zt p152 q152; cases e152; try replace hx152_0 := (HB.1.cell (World.block_lt_of_cell? w _ hx152_0)).trans hx152_0
       replace p152 := eq_true p152; replace q152 := eq_true q152; go_wp2_with (((with_reducible refine zg (f := 47) rfl ?_); refine zp (some 15) rfl rfl kg (by kernel_rfl) rfl #[.int .i64 (rd l0_1 zt), .int .i64 1, .int .i64 65535] rfl (by (try simp only [ky, kk, kh]); rfl) ?_; (with_reducible refine (spec_l1In.calls (rd l0_1 zt) 1 65535 false _ A7.1).mono ?_); rintro e w' ⟨rfl, ⟨nd, rfl⟩⟩; refine ⟨_, rfl, ?_⟩)); go_ret; exact ⟨by rfl, by repeat ((with_reducible first | exact HB.1 | apply zc))⟩
     · rw [if_neg c6] at H; exact absurd H (by simp)
    · rw [if_neg c5] at H; exact absurd H (by simp)
   ·
    rw [if_neg c4] at H; have c4b0 := decide_eq_false c4; clear c4; have H' := kz H; clear H; have hcz9_0 := bc6 zr.1; go_wp2; go_loopg [21] k1 (fun kq v21 w' => ∃ (zs : Int), v21 = .int .i64 zs ∧ zq (spec_GoodAttrs.l1 kq l0_5 (l0_5.length : Int) zs a0_0 l0_1 a0_2 a0_3 a0_4 l0_5 = some r) ∧ zq (kq ≤ k1) ∧ zq (w'.heap[gb151]? = some (.cells #[.int .i64 a0_0, (.slice A0_1 l0_1.length c0_1), .int .i64 a0_2, .int .i64 a0_3, .int .i64 a0_4, (.slice A0_5 l0_5.length c0_5)] 27 (0, 0))) ∧ zq (Below w.heap.size w w')); case atStart => exact ⟨(0), (by rfl), H', ⟨Nat.le_refl _⟩, ⟨by exact zr.1⟩, ⟨by exact HB.1⟩⟩
    case round =>
     clear H'; obtain ⟨zs, rfl, HA, HK2, zr, HB⟩ := hrel; cases gk with
     | zero => exact absurd HA.1 (by simp [spec_GoodAttrs.l1])
     | succ k2 =>
      have H := HA.1; clear HA; simp only [spec_GoodAttrs.l1] at H; by_cases c10 : zs < (l0_5.length : Int)
      ·
       rw [if_pos c10] at H; have c10b0 := decide_eq_true c10; clear c10; by_cases c11 : 0 ≤ zs
       ·
        rw [if_pos c11] at H; have c11b0 := decide_eq_true c11; clear c11; by_cases c12 : zs < (l0_5.length : Int)
        ·
         rw [if_pos c12] at H; have c12b0 := decide_eq_true c12; clear c12; replace H := kv.mp H; obtain ⟨t155, A130, H⟩ := H; have A13 := kz A130; clear A130; by_cases c14 : t155 = true
         ·
          subst c14; rw [if_pos rfl] at H; by_cases c15 : zs > 0
          ·
           rw [if_pos c15] at H; have c15b0 := decide_eq_true c15; clear c15; obtain ⟨ji16, hji16⟩ : ∃ j_ : Int, (wrap64 (zs - 1)) = j_ := ⟨_, rfl⟩
           replace H : (if 0 ≤ (ji16) then (if (ji16) < (l0_5.length : Int) then (if (rd l0_5 (ji16)) ≥ (rd l0_5 zs) then (some false) else (spec_GoodAttrs.l1 k2 l0_5 (l0_5.length : Int) (wrap64 (zs + 1)) a0_0 l0_1 a0_2 a0_3 a0_4 l0_5)) else (none)) else (none)) = some r := by (rw [hji16] at H; exact H)
           (try rw [hji16] at A13); have hji16w : (IntKind.i64.wrap (zs - 1)) = ji16 := (i64_w _).trans hji16; by_cases c17 : 0 ≤ (ji16)
           ·
            rw [if_pos c17] at H; have c17b0 := decide_eq_true c17; clear c17; by_cases c18 : (ji16) < (l0_5.length : Int)
            ·
             rw [if_pos c18] at H; have c18b0 := decide_eq_true c18; clear c18; by_cases c19 : (rd l0_5 (ji16)) ≥ (rd l0_5 zs)
             ·
              rw [if_pos c19] at H; have c19b0 := decide_eq_true c19; clear c19; obtain rfl := kj H; have p154 : 0 ≤ (zs : Int) := of_decide_eq_true (by (with_reducible assumption)); have q154 : zs < (l0_5.length : Int) := of_decide_eq_true (by (with_reducible assumption)); obtain ⟨ad154, e154, hx154_0⟩ := zn zF.1 zs p154 q154; cases e154; try replace hx154_0 := (HB.1.cell (World.block_lt_of_cell? w _ hx154_0)).trans hx154_0
              replace p154 := eq_true p154; replace q154 := eq_true q154; go_wp2_with (((with_reducible refine zg (f := 47) rfl ?_); refine zp (some 27) rfl rfl kg (by kernel_rfl) rfl #[.int .i64 (rd l0_5 zs), .int .i64 0, .int .i64 1000000] rfl (by (try simp only [ky, kk, kh]); rfl) ?_; (with_reducible refine (spec_l1In.calls (rd l0_5 zs) 0 1000000 true _ A13.1).mono ?_); rintro e w' ⟨rfl, ⟨nd, rfl⟩⟩; refine ⟨_, rfl, ?_⟩; have hcz20_0 := bc6 zr.1; have p156 : 0 ≤ ((ji16) : Int) := of_decide_eq_true (by (with_reducible assumption)); have q156 : (ji16) < (l0_5.length : Int) := of_decide_eq_true (by (with_reducible assumption)); obtain ⟨ad156, e156, hx156_0⟩ := zn zF.1 (ji16) p156 q156; obtain rfl : ad154 = ad156 := (by injection e156); replace hx156_0 := (HB.1.cell (World.block_lt_of_cell? w _ hx156_0)).trans hx156_0; replace p156 := eq_true p156; replace q156 := eq_true q156)); go_ret; exact ⟨by rfl, by repeat ((with_reducible first | exact HB.1 | apply zc))⟩
             ·
              rw [if_neg c19] at H; have c19b0 := decide_eq_false c19; clear c19; have H' := kz H; clear H; have p154 : 0 ≤ (zs : Int) := of_decide_eq_true (by (with_reducible assumption)); have q154 : zs < (l0_5.length : Int) := of_decide_eq_true (by (with_reducible assumption)); obtain ⟨ad154, e154, hx154_0⟩ := zn zF.1 zs p154 q154; cases e154; try replace hx154_0 := (HB.1.cell (World.block_lt_of_cell? w _ hx154_0)).trans hx154_0
              replace p154 := eq_true p154; replace q154 := eq_true q154; go_wp2_with (((with_reducible refine zg (f := 47) rfl ?_); refine zp (some 27) rfl rfl kg (by kernel_rfl) rfl #[.int .i64 (rd l0_5 zs), .int .i64 0, .int .i64 1000000] rfl (by (try simp only [ky, kk, kh]); rfl) ?_; (with_reducible refine (spec_l1In.calls (rd l0_5 zs) 0 1000000 true _ A13.1).mono ?_); rintro e w' ⟨rfl, ⟨nd, rfl⟩⟩; refine ⟨_, rfl, ?_⟩; have hcz21_0 := bc6 zr.1; have p156 : 0 ≤ ((ji16) : Int) := of_decide_eq_true (by (with_reducible assumption)); have q156 : (ji16) < (l0_5.length : Int) := of_decide_eq_true (by (with_reducible assumption)); obtain ⟨ad156, e156, hx156_0⟩ := zn zF.1 (ji16) p156 q156; obtain rfl : ad154 = ad156 := (by injection e156); replace hx156_0 := (HB.1.cell (World.block_lt_of_cell? w _ hx156_0)).trans hx156_0; replace p156 := eq_true p156; replace q156 := eq_true q156)); go_roundg k2; case measure => have := HK1.1; have := HK2.1; omega
              case rel => exact ⟨(wrap64 (zs + 1)), (by rfl), H', ⟨by have := HK1.1; have := HK2.1; omega⟩, ⟨by (with_reducible repeat (refine zh ?_ _)); exact zr.1⟩, ⟨by repeat ((with_reducible first | exact HB.1 | apply zc))⟩⟩
            · rw [if_neg c18] at H; exact absurd H (by simp)
           · rw [if_neg c17] at H; exact absurd H (by simp)
          ·
           rw [if_neg c15] at H; have c15b0 := decide_eq_false c15; clear c15; have H' := kz H; clear H; have p154 : 0 ≤ (zs : Int) := of_decide_eq_true (by (with_reducible assumption)); have q154 : zs < (l0_5.length : Int) := of_decide_eq_true (by (with_reducible assumption)); obtain ⟨ad154, e154, hx154_0⟩ := zn zF.1 zs p154 q154; cases e154; try replace hx154_0 := (HB.1.cell (World.block_lt_of_cell? w _ hx154_0)).trans hx154_0
           replace p154 := eq_true p154; replace q154 := eq_true q154; go_wp2_with (((with_reducible refine zg (f := 47) rfl ?_); refine zp (some 27) rfl rfl kg (by kernel_rfl) rfl #[.int .i64 (rd l0_5 zs), .int .i64 0, .int .i64 1000000] rfl (by (try simp only [ky, kk, kh]); rfl) ?_; (with_reducible refine (spec_l1In.calls (rd l0_5 zs) 0 1000000 true _ A13.1).mono ?_); rintro e w' ⟨rfl, ⟨nd, rfl⟩⟩; refine ⟨_, rfl, ?_⟩)); go_roundg k2; case measure => have := HK1.1; have := HK2.1; omega
           case rel => exact ⟨(wrap64 (zs + 1)), (by rfl), H', ⟨by have := HK1.1; have := HK2.1; omega⟩, ⟨by (with_reducible repeat (refine zh ?_ _)); exact zr.1⟩, ⟨by repeat ((with_reducible first | exact HB.1 | apply zc))⟩⟩
         ·
          replace c14 := kf.mpr c14; subst c14; rw [if_neg (show ¬ (false = true) by decide)] at H; obtain rfl := kj H; have p154 : 0 ≤ (zs : Int) := of_decide_eq_true (by (with_reducible assumption)); have q154 : zs < (l0_5.length : Int) := of_decide_eq_true (by (with_reducible assumption)); obtain ⟨ad154, e154, hx154_0⟩ := zn zF.1 zs p154 q154; cases e154; try replace hx154_0 := (HB.1.cell (World.block_lt_of_cell? w _ hx154_0)).trans hx154_0
          replace p154 := eq_true p154; replace q154 := eq_true q154; go_wp2_with (((with_reducible refine zg (f := 47) rfl ?_); refine zp (some 27) rfl rfl kg (by kernel_rfl) rfl #[.int .i64 (rd l0_5 zs), .int .i64 0, .int .i64 1000000] rfl (by (try simp only [ky, kk, kh]); rfl) ?_; (with_reducible refine (spec_l1In.calls (rd l0_5 zs) 0 1000000 false _ A13.1).mono ?_); rintro e w' ⟨rfl, ⟨nd, rfl⟩⟩; refine ⟨_, rfl, ?_⟩)); go_ret; exact ⟨by rfl, by repeat ((with_reducible first | exact HB.1 | apply zc))⟩
        · rw [if_neg c12] at H; exact absurd H (by simp)
       · rw [if_neg c11] at H; exact absurd H (by simp)
      ·
       rw [if_neg c10] at H; have c10b0 := decide_eq_false c10; clear c10; replace H := kv.mp H; obtain ⟨t157, A220, H⟩ := H; have A22 := kz A220; clear A220; by_cases c23 : t157 = true
       ·
        subst c23; rw [if_pos rfl] at H; by_cases c24 : (l0_1.length : Int) ≤ 10
        ·
         rw [if_pos c24] at H; have c24b0 := decide_eq_true c24; have c24b1 : decide (l0_1.length ≤ 10) = true := decide_eq_true (by omega); clear c24; replace H := kv.mp H; obtain ⟨t158, A250, H⟩ := H; have A25 := kz A250; clear A250; by_cases c26 : t158 = true
         ·
          subst c26; rw [if_pos rfl] at H; replace H := kv.mp H; obtain ⟨t159, A270, H⟩ := H; have A27 := kz A270; clear A270; by_cases c28 : t159 = true
          ·
           subst c28; rw [if_pos rfl] at H; replace H := kv.mp H; obtain ⟨t160, A290, H⟩ := H; have A29 := kz A290; clear A290; by_cases c30 : t160 = true
           ·
            subst c30; rw [if_pos rfl] at H; obtain rfl := kj H; have hcz31_0 := bc6 zr.1; go_wp2_with (first | ((with_reducible refine zg (f := 47) rfl ?_); refine zp (some 46) rfl rfl kg (by kernel_rfl) rfl #[.int .i64 a0_0, .int .i64 0, .int .i64 2] rfl (by (try simp only [ky, kk, kh]); rfl) ?_; (with_reducible refine (spec_l1In.calls a0_0 0 2 true _ A22.1).mono ?_); rintro e w' ⟨rfl, ⟨nd, rfl⟩⟩; refine ⟨_, rfl, ?_⟩) | (go_at_call 48; (with_reducible refine (spec_l1Addr.calls a0_2 true _ A25.1).mono ?_); rintro e w' ⟨rfl, ⟨nd, rfl⟩⟩) | (go_at_call 47; (with_reducible refine (spec_l1In.calls a0_3 0 1000000 true _ A27.1).mono ?_); rintro e w' ⟨rfl, ⟨nd, rfl⟩⟩) | (go_at_call 47; (with_reducible refine (spec_l1In.calls a0_4 0 1000000 true _ A29.1).mono ?_); rintro e w' ⟨rfl, ⟨nd, rfl⟩⟩)); go_ret; exact ⟨by rfl, by repeat ((with_reducible first | exact HB.1 | apply zc))⟩
           ·
            replace c30 := kf.mpr c30; subst c30; rw [if_neg (show ¬ (false = true) by decide)] at H; obtain rfl := kj H; have hcz32_0 := bc6 zr.1; go_wp2_with (first | ((with_reducible refine zg (f := 47) rfl ?_); refine zp (some 46) rfl rfl kg (by kernel_rfl) rfl #[.int .i64 a0_0, .int .i64 0, .int .i64 2] rfl (by (try simp only [ky, kk, kh]); rfl) ?_; (with_reducible refine (spec_l1In.calls a0_0 0 2 true _ A22.1).mono ?_); rintro e w' ⟨rfl, ⟨nd, rfl⟩⟩; refine ⟨_, rfl, ?_⟩) | (go_at_call 48; (with_reducible refine (spec_l1Addr.calls a0_2 true _ A25.1).mono ?_); rintro e w' ⟨rfl, ⟨nd, rfl⟩⟩) | (go_at_call 47; (with_reducible refine (spec_l1In.calls a0_3 0 1000000 true _ A27.1).mono ?_); rintro e w' ⟨rfl, ⟨nd, rfl⟩⟩) | (go_at_call 47; (with_reducible refine (spec_l1In.calls a0_4 0 1000000 false _ A29.1).mono ?_); rintro e w' ⟨rfl, ⟨nd, rfl⟩⟩)); go_ret; exact ⟨by rfl, by repeat ((with_reducible first | exact HB.1 | apply zc))⟩
          ·
           replace c28 := kf.mpr c28; subst c28; rw [if_neg (show ¬ (false = true) by decide)] at H; obtain rfl := kj H; have hcz33_0 := bc6 zr.1; go_wp2_with (first | ((with_reducible refine zg (f := 47) rfl ?_); refine zp (some 46) rfl rfl kg (by kernel_rfl) rfl #[.int .i64 a0_0, .int .i64 0, .int .i64 2] rfl (by (try simp only [ky, kk, kh]); rfl) ?_; (with_reducible refine (spec_l1In.calls a0_0 0 2 true _ A22.1).mono ?_); rintro e w' ⟨rfl, ⟨nd, rfl⟩⟩; refine ⟨_, rfl, ?_⟩) | (go_at_call 48; (with_reducible refine (spec_l1Addr.calls a0_2 true _ A25.1).mono ?_); rintro e w' ⟨rfl, ⟨nd, rfl⟩⟩) | (go_at_call 47; (with_reducible refine (spec_l1In.calls a0_3 0 1000000 false _ A27.1).mono ?_); rintro e w' ⟨rfl, ⟨nd, rfl⟩⟩)); go_ret; exact ⟨by rfl, by repeat ((with_reducible first | exact HB.1 | apply zc))⟩
         ·
          replace c26 := kf.mpr c26; subst c26; rw [if_neg (show ¬ (false = true) by decide)] at H; obtain rfl := kj H; have hcz34_0 := bc6 zr.1; go_wp2_with (first | ((with_reducible refine zg (f := 47) rfl ?_); refine zp (some 46) rfl rfl kg (by kernel_rfl) rfl #[.int .i64 a0_0, .int .i64 0, .int .i64 2] rfl (by (try simp only [ky, kk, kh]); rfl) ?_; (with_reducible refine (spec_l1In.calls a0_0 0 2 true _ A22.1).mono ?_); rintro e w' ⟨rfl, ⟨nd, rfl⟩⟩; refine ⟨_, rfl, ?_⟩) | (go_at_call 48; (with_reducible refine (spec_l1Addr.calls a0_2 false _ A25.1).mono ?_); rintro e w' ⟨rfl, ⟨nd, rfl⟩⟩)); go_ret; exact ⟨by rfl, by repeat ((with_reducible first | exact HB.1 | apply zc))⟩
        · rw [if_neg c24] at H; have c24b0 := decide_eq_false c24; have c24b1 : decide (l0_1.length ≤ 10) = false := decide_eq_false (by omega); clear c24; obtain rfl := kj H; have hcz35_0 := bc6 zr.1; go_wp2_with (((with_reducible refine zg (f := 47) rfl ?_); refine zp (some 46) rfl rfl kg (by kernel_rfl) rfl #[.int .i64 a0_0, .int .i64 0, .int .i64 2] rfl (by (try simp only [ky, kk, kh]); rfl) ?_; (with_reducible refine (spec_l1In.calls a0_0 0 2 true _ A22.1).mono ?_); rintro e w' ⟨rfl, ⟨nd, rfl⟩⟩; refine ⟨_, rfl, ?_⟩)); go_ret; exact ⟨by rfl, by repeat ((with_reducible first | exact HB.1 | apply zc))⟩
       ·
        replace c23 := kf.mpr c23; subst c23; rw [if_neg (show ¬ (false = true) by decide)] at H; obtain rfl := kj H; have hcz36_0 := bc6 zr.1; go_wp2_with (((with_reducible refine zg (f := 47) rfl ?_); refine zp (some 46) rfl rfl kg (by kernel_rfl) rfl #[.int .i64 a0_0, .int .i64 0, .int .i64 2] rfl (by (try simp only [ky, kk, kh]); rfl) ?_; (with_reducible refine (spec_l1In.calls a0_0 0 2 false _ A22.1).mono ?_); rintro e w' ⟨rfl, ⟨nd, rfl⟩⟩; refine ⟨_, rfl, ?_⟩)); go_ret; exact ⟨by rfl, by repeat ((with_reducible first | exact HB.1 | apply zc))⟩
/-! ### spec_l4In: function 69 -/
def spec_l4In.l0 : Nat → List (S35) → Int → Int → Int → Int → Option (Bool)
 | 0, _, _, _, _, _ => none
 | k + 1, x7, x8, x9, x162000, x162001 => if x9 < x8 then (if 0 ≤ x9 then (if x9 < (x7.length : Int) then (if (((rd_T35 x7 x9).f0) == x162000 && (((rd_T35 x7 x9).f1) == x162001)) = true then (some true) else (spec_l4In.l0 k x7 x8 (wrap64 (x9 + 1)) x162000 x162001)) else (none)) else (none)) else (some false)
def spec_l4In.f (k : Nat) (l0 : List (S35)) (a1_0 : Int) (a1_1 : Int) : Option (Bool) := spec_l4In.l0 k l0 (l0.length : Int) 0 a1_0 a1_1
theorem spec_l4In.calls (k : Nat) (A0 : Option Addr) (c0 : Nat) (l0 : List (S35)) (a1_0 : Int) (a1_1 : Int) (r : Bool) (w : World) (hr0 : Kd.C k35 w A0 l0.length l0) (hc0 : l0.length ≤ c0) (h : spec_l4In.f k l0 a1_0 a1_1 = some r) :
  Calls Try.prog 69 #[.slice A0 l0.length c0, .agg #[.int .i64 a1_0, .int .i64 a1_1]] w fun e w' => e = .returned (.bool r) ∧ Below w.heap.size w w' := by
 have hu35 := Try.underlying35; have HR0 := kz hr0; have HC0 := kz hc0; clear hr0 hc0; have HB := kz (Below.refl w.heap.size w); have H : (spec_l4In.l0 k l0 (l0.length : Int) 0 a1_0 a1_1) = some r := h; clear h; have H' := kz H; clear H; go_enter Try.func69, Try.ntmps69; go_wp2_with (((with_reducible refine gate_dst (N := 3) rfl ?_); refine box_event ?hg (N := 3) ?hd (cs := #[.int .i64 a1_0, .int .i64 a1_1]) (t := 35) ?hr ?_; (case hd => rfl); (case hg => rfl); (case hr => (go_simp; done)); intro gb161 hg w3 hbox hb; replace HB := kz (below_step HB.1 hb); have zu := kz hbox; clear hb hbox hg)); go_loopg [9] k (fun kq v9 w' => ∃ (x9_1 : Int), v9 = .int .i64 x9_1 ∧ zq (spec_l4In.l0 kq l0 (l0.length : Int) x9_1 a1_0 a1_1 = some r) ∧ zq (kq ≤ k) ∧ zq (w'.heap[gb161]? = some (.cells #[.int .i64 a1_0, .int .i64 a1_1] 35 (0, 0))) ∧ zq (Below w.heap.size w w')); case atStart => exact ⟨(0), (by rfl), H', ⟨Nat.le_refl _⟩, ⟨by exact zu.1⟩, ⟨by exact HB.1⟩⟩
 case round =>
  clear H'; obtain ⟨x9_1, rfl, HA, HK1, zu, HB⟩ := hrel; cases gk with
  | zero => exact absurd HA.1 (by simp [spec_l4In.l0])
  | succ k1 =>
   have H := HA.1; clear HA; simp only [spec_l4In.l0] at H; by_cases c4 : x9_1 < (l0.length : Int)
   ·
    rw [if_pos c4] at H; have c4b0 := decide_eq_true c4; clear c4; by_cases c5 : 0 ≤ x9_1
    ·
     rw [if_pos c5] at H; have c5b0 := decide_eq_true c5; clear c5; by_cases c6 : x9_1 < (l0.length : Int)
     ·
      rw [if_pos c6] at H; have c6b0 := decide_eq_true c6; clear c6; by_cases c7 : (((rd_T35 l0 x9_1).f0) == a1_0 && (((rd_T35 l0 x9_1).f1) == a1_1)) = true
      ·
       rw [if_pos c7] at H; have c7b0 : (((rd_T35 l0 x9_1).f0) == a1_0 && (((rd_T35 l0 x9_1).f1) == a1_1)) = true := c7; (try (have c7b1 : decide (((rd_T35 l0 x9_1).f0) = a1_0 && (((rd_T35 l0 x9_1).f1) == a1_1)) = true := by simpa using c7)); (try (have c7b2 : (((rd_T35 l0 x9_1).f0) == a1_0 && (((rd_T35 l0 x9_1).f1) == a1_1)) = true := by simpa using c7)); clear c7; obtain rfl := kj H; have p162 : 0 ≤ (x9_1 : Int) := of_decide_eq_true (by (with_reducible assumption)); have q162 : x9_1 < (l0.length : Int) := of_decide_eq_true (by (with_reducible assumption)); obtain ⟨ad162, e162, hx162_0, hx162_1⟩ := at_T35 HR0.1 x9_1 p162 q162; cases e162; try replace hx162_0 := (HB.1.cell (World.block_lt_of_cell? w _ hx162_0)).trans hx162_0
       try replace hx162_1 := (HB.1.cell (World.block_lt_of_cell? w _ hx162_1)).trans hx162_1
       replace p162 := eq_true p162; replace q162 := eq_true q162; go_wp2_with (((with_reducible refine gate_dst (N := 6) rfl ?_); refine box_event ?hg (N := 6) ?hd (cs := #[.int .i64 0, .int .i64 0]) (t := 35) ?hr ?_; (case hd => rfl); (case hg => rfl); (case hr => (go_simp; done)); intro gb163 hg w8 hbox hb; have zE := kz hbox; have GE163 := kz ((by rw [hg]; exact (zk HB.1) : w.heap.size ≤ gb163)); replace HB := kz (below_step HB.1 hb); have zx := kz ((by rw [hg]; exact Nat.ne_of_lt (blk_lt (g := gb161) (o := .cells #[.int .i64 a1_0, .int .i64 a1_1] 35 (0, 0)) zu.1) : gb161 ≠ gb163)); have NB163_161 := kz ((by rw [hg]; exact Nat.ne_of_gt (blk_lt (g := gb161) (o := .cells #[.int .i64 a1_0, .int .i64 a1_1] 35 (0, 0)) zu.1) : gb163 ≠ gb161)); replace zu := kz (blk_below (g := gb161) (o := .cells #[.int .i64 a1_0, .int .i64 a1_1] 35 (0, 0)) zu.1 hb); clear hb hbox hg; have hnb9 := NB163_161.1; have hnc9 := zx.1; have hcz10_0 := bc2 zE.1; have hcz11_0 := bc2 zu.1)); go_ret; exact ⟨by rfl, by repeat ((with_reducible first | exact HB.1 | refine zf ?_ GE163.1))⟩
      ·
       rw [if_neg c7] at H; have c7b0 : (((rd_T35 l0 x9_1).f0) == a1_0 && (((rd_T35 l0 x9_1).f1) == a1_1)) = false := by simpa using c7
       (try (have c7b1 : decide (((rd_T35 l0 x9_1).f0) = a1_0 && (((rd_T35 l0 x9_1).f1) == a1_1)) = false := by simpa using c7)); (try (have c7b2 : (((rd_T35 l0 x9_1).f0) == a1_0 && (((rd_T35 l0 x9_1).f1) == a1_1)) = false := by simpa using c7)); (try (have c7b3 : ¬ (((rd_T35 l0 x9_1).f0) = a1_0 && (((rd_T35 l0 x9_1).f1) == a1_1)) := by simpa using c7)); clear c7; have H' := kz H; clear H; have p162 : 0 ≤ (x9_1 : Int) := of_decide_eq_true (by (with_reducible assumption)); have q162 : x9_1 < (l0.length : Int) := of_decide_eq_true (by (with_reducible assumption)); obtain ⟨ad162, e162, hx162_0, hx162_1⟩ := at_T35 HR0.1 x9_1 p162 q162; cases e162; try replace hx162_0 := (HB.1.cell (World.block_lt_of_cell? w _ hx162_0)).trans hx162_0
       try replace hx162_1 := (HB.1.cell (World.block_lt_of_cell? w _ hx162_1)).trans hx162_1
       replace p162 := eq_true p162; replace q162 := eq_true q162; go_wp2_with (((with_reducible refine gate_dst (N := 6) rfl ?_); refine box_event ?hg (N := 6) ?hd (cs := #[.int .i64 0, .int .i64 0]) (t := 35) ?hr ?_; (case hd => rfl); (case hg => rfl); (case hr => (go_simp; done)); intro gb163 hg w12 hbox hb; have zE := kz hbox; have GE163 := kz ((by rw [hg]; exact (zk HB.1) : w.heap.size ≤ gb163)); replace HB := kz (below_step HB.1 hb); have zx := kz ((by rw [hg]; exact Nat.ne_of_lt (blk_lt (g := gb161) (o := .cells #[.int .i64 a1_0, .int .i64 a1_1] 35 (0, 0)) zu.1) : gb161 ≠ gb163)); have NB163_161 := kz ((by rw [hg]; exact Nat.ne_of_gt (blk_lt (g := gb161) (o := .cells #[.int .i64 a1_0, .int .i64 a1_1] 35 (0, 0)) zu.1) : gb163 ≠ gb161)); replace zu := kz (blk_below (g := gb161) (o := .cells #[.int .i64 a1_0, .int .i64 a1_1] 35 (0, 0)) zu.1 hb); clear hb hbox hg; have hnb13 := NB163_161.1; have hnc13 := zx.1; have hcz14_0 := bc2 zE.1; have hcz15_0 := bc2 zu.1)); go_roundg k1; case measure => have := HK1.1; omega
       case rel => exact ⟨(wrap64 (x9_1 + 1)), (by rfl), H', ⟨by have := HK1.1; omega⟩, ⟨by refine blk_far ?_ zx.1 _; refine blk_far ?_ zx.1 _; exact zu.1⟩, ⟨by repeat ((with_reducible first | exact HB.1 | refine zf ?_ GE163.1))⟩⟩
     · rw [if_neg c6] at H; exact absurd H (by simp)
    · rw [if_neg c5] at H; exact absurd H (by simp)
   · rw [if_neg c4] at H; have c4b0 := decide_eq_false c4; clear c4; obtain rfl := kj H; go_wp2; go_ret; exact ⟨by rfl, by exact HB.1⟩
/-! ### spec_l1Size: function 101 -/
def spec_l1Size.f (a0_0 : Int) (a0_1 : Int) : Option (Int) := if 0 ≤ (IntKind.u64.wrap (wrap64 (32 - a0_1))) then (some (shl .i64 1 (IntKind.u64.wrap (wrap64 (32 - a0_1))))) else (none)
theorem spec_l1Size.calls (a0_0 : Int) (a0_1 : Int) (r : Int) (w : World) (h : spec_l1Size.f a0_0 a0_1 = some r) :
  Calls Try.prog 101 #[.agg #[.int .i64 a0_0, .int .i64 a0_1]] w fun e w' => e = .returned (.int .i64 r) ∧ Below w.heap.size w w' := by
 have hu35 := Try.underlying35; have HB := kz (Below.refl w.heap.size w); have H : (if 0 ≤ (IntKind.u64.wrap (wrap64 (32 - a0_1))) then (some (shl .i64 1 (IntKind.u64.wrap (wrap64 (32 - a0_1))))) else (none)) = some r := h; clear h; obtain ⟨ji2, hji2⟩ : ∃ j_ : Int, (IntKind.u64.wrap (wrap64 (32 - a0_1))) = j_ := ⟨_, rfl⟩
 replace H : (if 0 ≤ (ji2) then (some (shl .i64 1 (ji2))) else (none)) = some r := by (rw [hji2] at H; exact H)
 by_cases c3 : 0 ≤ (ji2)
 ·
  rw [if_pos c3] at H; have c3b0 := eq_true c3; have c3b1 : decide (0 ≤ (ji2)) = true := decide_eq_true c3; clear c3; obtain ⟨ji4, hji4⟩ : ∃ j_ : Int, (shl .i64 1 (ji2)) = j_ := ⟨_, rfl⟩
  replace H : (some ji4) = some r := by (rw [hji4] at H; exact H)
  have hji4_ : (IntKind.i64.wrap (1 * 2 ^ min (ji2).toNat 64)) = ji4 := hji4; have hji4z : (ji2) ≤ 64 → (IntKind.i64.wrap (1 * 2 ^ (ji2).toNat)) = ji4 := shl_small hji4; have hji4u : (IntKind.i64.wrap (2 ^ min (ji2).toNat 64)) = ji4 := by have h_ := hji4_; rw [Int.one_mul] at h_; exact h_
  have hji4v : (ji2) ≤ 64 → (IntKind.i64.wrap (2 ^ (ji2).toNat)) = ji4 := fun hle_ => by have h_ := hji4z hle_; rw [Int.one_mul] at h_; exact h_
  have hji4y : (wrap64 (1 * 2 ^ min (ji2).toNat 64)) = ji4 := (i64_w _).symm.trans hji4_; have hji4x : (ji2) ≤ 64 → (wrap64 (1 * 2 ^ (ji2).toNat)) = ji4 := fun h_ => (i64_w _).symm.trans (hji4z h_)
  obtain rfl := kj H; go_enter Try.func101, Try.ntmps101; go_wp2_with (((with_reducible refine gate_dst (N := 1) rfl ?_); refine box_event ?hg (N := 1) ?hd (cs := #[.int .i64 a0_0, .int .i64 a0_1]) (t := 35) ?hr ?_; (case hd => rfl); (case hg => rfl); (case hr => (go_simp; done)); intro gb164 hg w5 hbox hb; replace HB := kz (below_step HB.1 hb); have BK164 := kz hbox; clear hb hbox hg; have hcz6_0 := bc2 BK164.1)); go_ret; exact ⟨by rfl, by exact HB.1⟩
 · rw [if_neg c3] at H; exact absurd H (by simp)
end Go.Proofs.Ytlnfcobloolnnaa.PFnUpdates
