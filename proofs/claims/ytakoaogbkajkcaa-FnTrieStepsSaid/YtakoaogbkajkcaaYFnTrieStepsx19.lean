/- Go functions told by Lean functions, printed by a program. No condition but what each statement says. -/
import Derived.Test.YtakoaogbkajkcaaYFnTrieStepsx11
import Derived.Test.YtakoaogbkajkcaaYFnTrieStepsx18
namespace Go.Proofs.Ytakoaogbkajkcaa.PFnTrieSteps
open Go.RowKit Go.Proofs.YtakoaogbkajkcaaW.PrintWords Go.Proofs.YtakoaogbkajkcaaW.PrintLast Go.Proofs.YtakoaogbkajkcaaW.PrintMore
open List renaming setIfInBounds_toArray → kz, set_cons_zero → ky, set_cons_succ → kj, map_toArray → kf, map_cons → ke, map_nil → kb
open Act renaming put → kk
open Aside0 renaming mk → kv
open Or renaming inl → kh, inr → kg
open Option renaming bind_eq_some_iff → kd
open Option.some renaming inj → kc
open Bool renaming true → ko, false → kx
set_option maxHeartbeats 8000000
set_option maxRecDepth 100000
open Go.Proofs.YtakoaogbkajkcaaW.PrintLast renaming any_of → za, i64_w → zc, i32_w → zd, pure_ → zg, take_ofW → zp, one_of → zt, take_ → zu, norm_ → zv, goes_ → zw
open Go.Proofs.YtakoaogbkajkcaaW.PrintWords renaming pw_below_drewN → zb, blk_cell → ze, below_drew1 → zf, blk_drew → zi, blk_drewN → zj, blk_frozen → zl, below_set → zm, below_step → zn, below_size → zo, blk_put → zq, Aside0 → zr, blk_below → zs
attribute [local go_sem] max2_int min2_int max_two min_two max_three min_three max_four min_four
set_option linter.unusedVariables false
set_option linter.unusedSimpArgs false
/-! ### spec_GoodTable: function 14 -/
def spec_GoodTable.l0 : Nat → List (S39) → List (S39) → Int → Int → Option (Bool)
 | 0, _, _, _, _ => none
 | k + 1, x0, x5, x6, x7 => if x7 < x6 then (if 0 ≤ x7 then (if x7 < (x5.length : Int) then ((spec_GoodPrefix.f ((rd_T39 x5 x7).f0.f0) ((rd_T39 x5 x7).f0.f1)).bind fun t365 => (if t365 = true then ((spec_l2Value.f ((rd_T39 x5 x7).f1)).bind fun t366 => (if t366 = true then (if x7 > 0 then (if 0 ≤ (wrap64 (x7 - 1)) then (if (wrap64 (x7 - 1)) < (x0.length : Int) then ((spec_l1Compare.f k ((rd_T39 x0 (wrap64 (x7 - 1))).f0.f0) ((rd_T39 x0 (wrap64 (x7 - 1))).f0.f1) ((rd_T39 x5 x7).f0.f0) ((rd_T39 x5 x7).f0.f1)).bind fun t368 => (if t368 ≥ 0 then (some false) else (spec_GoodTable.l0 k x0 x5 x6 (wrap64 (x7 + 1))))) else (none)) else (none)) else (spec_GoodTable.l0 k x0 x5 x6 (wrap64 (x7 + 1)))) else (some false))) else (some false))) else (none)) else (none)) else (some (decide ((x0.length : Int) ≤ 30)))
def spec_GoodTable.f (k : Nat) (l0 : List (S39)) : Option (Bool) := spec_GoodTable.l0 k l0 l0 (l0.length : Int) 0
def spec_GoodTable.T4 : Bool × List (List Nat × List Nat) := (true, [([], []), ([0], [0]), ([1], [1]), ([2], [2]), ([3, 2], [3]), ([4], [4]), ([5, 4], [4, 5]), ([6, 4, 4], [4, 6]), ([7, 4], [4, 7]), ([4, 8], [4, 8]), ([9, 7], [9]), ([10], [10]), ([11, 10], [10, 11]), ([12, 10, 10], [10, 12]), ([13], [13]), ([13], [13]), ([15, 13], [13, 15]), ([14, 16, 13], [13, 14, 16]), ([17, 13], [13, 17]), ([18, 13], [13, 18]), ([13], [13]), ([20, 13], [13, 20]), ([19, 21, 13, 13], [13, 19, 21]), ([22, 13], [13, 22]), ([13, 23, 10], [10, 13, 23]), ([10, 24], [10, 24])])
def spec_GoodTable.B4 : List Nat := [0, 1, 3, 7, 15, 31, 63, 127, 255, 511, 1023, 2047, 4095, 8191, 16383, 16383, 49151, 131071, 262143, 524287, 16383, 1064959, 4194303, 8388607, 16777215, 33554431]
theorem spec_GoodTable.tab4 : rtab .any (opsOf Try.f14 4) = spec_GoodTable.T4 := by kernel_rfl
theorem spec_GoodTable.bits4 : waitsOk spec_GoodTable.T4.2 spec_GoodTable.B4 = true := by kernel_rfl
theorem spec_GoodTable.calls (k : Nat) (A0 : Option Addr) (c0 : Nat) (l0 : List (S39)) (r : Bool) (w : World) (hr0 : Kd.C k39 w A0 l0.length l0) (hc0 : l0.length ≤ c0) (h : spec_GoodTable.f k l0 = some r) :
  Calls Try.prog 14 #[.slice A0 l0.length c0] w fun e w' => e = .returned (.bool r) ∧ Below w.heap.size w w' := by
 have hu39 := Try.underlying39
 have hu37 := Try.underlying37
 have HR0 := kv hr0
 have HC0 := kv hc0
 clear hr0 hc0
 have HB := kv (Below.refl w.heap.size w)
 have H : (spec_GoodTable.l0 k l0 l0 (l0.length : Int) 0) = some r := h
 clear h
 have H' := kv H
 clear H
 go_enter Try.func14, Try.ntmps14
 go_wp2
 go_loopg [7] k (fun kq v7 w' => ∃ (x7_1 : Int), v7 = .int .i64 x7_1 ∧ zr (spec_GoodTable.l0 kq l0 l0 (l0.length : Int) x7_1 = some r) ∧ zr (kq ≤ k) ∧ zr (Below w.heap.size w w'))
 case atStart => exact ⟨(0), (by rfl), H', ⟨Nat.le_refl _⟩, ⟨by exact HB.1⟩⟩
 case round =>
  clear H'
  obtain ⟨x7_1, rfl, HA, HK1, HB⟩ := hrel
  cases gk with
  | zero => exact absurd HA.1 (by simp [spec_GoodTable.l0])
  | succ k1 =>
   have H := HA.1
   clear HA
   simp only [spec_GoodTable.l0] at H
   by_cases c2 : x7_1 < (l0.length : Int)
   ·
    rw [if_pos c2] at H
    have c2b0 : decide (x7_1 < (l0.length : Int)) = true := decide_eq_true c2
    clear c2
    by_cases c3 : 0 ≤ x7_1
    ·
     rw [if_pos c3] at H
     have c3b0 : decide (0 ≤ x7_1) = true := decide_eq_true c3
     clear c3
     by_cases c4 : x7_1 < (l0.length : Int)
     ·
      rw [if_pos c4] at H
      have c4b0 : decide (x7_1 < (l0.length : Int)) = true := decide_eq_true c4
      clear c4
      replace H := kd.mp H
      obtain ⟨t365, A50, H⟩ := H
      replace H : (if t365 = true then ((spec_l2Value.f ((rd_T39 l0 x7_1).f1)).bind fun t366 => (if t366 = true then (if x7_1 > 0 then (if 0 ≤ (wrap64 (x7_1 - 1)) then (if (wrap64 (x7_1 - 1)) < (l0.length : Int) then ((spec_l1Compare.f k1 ((rd_T39 l0 (wrap64 (x7_1 - 1))).f0.f0) ((rd_T39 l0 (wrap64 (x7_1 - 1))).f0.f1) ((rd_T39 l0 x7_1).f0.f0) ((rd_T39 l0 x7_1).f0.f1)).bind fun t368 => (if t368 ≥ 0 then (some false) else (spec_GoodTable.l0 k1 l0 l0 (l0.length : Int) (wrap64 (x7_1 + 1))))) else (none)) else (none)) else (spec_GoodTable.l0 k1 l0 l0 (l0.length : Int) (wrap64 (x7_1 + 1)))) else (some false))) else (some false)) = some r := H
      have A5 := kv A50
      clear A50
      by_cases c6 : t365 = true
      ·
       subst c6
       have H1 : ((spec_l2Value.f ((rd_T39 l0 x7_1).f1)).bind fun t366 => (if t366 = true then (if x7_1 > 0 then (if 0 ≤ (wrap64 (x7_1 - 1)) then (if (wrap64 (x7_1 - 1)) < (l0.length : Int) then ((spec_l1Compare.f k1 ((rd_T39 l0 (wrap64 (x7_1 - 1))).f0.f0) ((rd_T39 l0 (wrap64 (x7_1 - 1))).f0.f1) ((rd_T39 l0 x7_1).f0.f0) ((rd_T39 l0 x7_1).f0.f1)).bind fun t368 => (if t368 ≥ 0 then (some false) else (spec_GoodTable.l0 k1 l0 l0 (l0.length : Int) (wrap64 (x7_1 + 1))))) else (none)) else (none)) else (spec_GoodTable.l0 k1 l0 l0 (l0.length : Int) (wrap64 (x7_1 + 1)))) else (some false))) = some r := by rw [if_pos rfl] at H; exact H
       clear H
       have H := H1
       clear H1
       replace H := kd.mp H
       obtain ⟨t366, A70, H⟩ := H
       replace H : (if t366 = true then (if x7_1 > 0 then (if 0 ≤ (wrap64 (x7_1 - 1)) then (if (wrap64 (x7_1 - 1)) < (l0.length : Int) then ((spec_l1Compare.f k1 ((rd_T39 l0 (wrap64 (x7_1 - 1))).f0.f0) ((rd_T39 l0 (wrap64 (x7_1 - 1))).f0.f1) ((rd_T39 l0 x7_1).f0.f0) ((rd_T39 l0 x7_1).f0.f1)).bind fun t368 => (if t368 ≥ 0 then (some false) else (spec_GoodTable.l0 k1 l0 l0 (l0.length : Int) (wrap64 (x7_1 + 1))))) else (none)) else (none)) else (spec_GoodTable.l0 k1 l0 l0 (l0.length : Int) (wrap64 (x7_1 + 1)))) else (some false)) = some r := H
       have A7 := kv A70
       clear A70
       by_cases c8 : t366 = true
       ·
        subst c8
        have H1 : (if x7_1 > 0 then (if 0 ≤ (wrap64 (x7_1 - 1)) then (if (wrap64 (x7_1 - 1)) < (l0.length : Int) then ((spec_l1Compare.f k1 ((rd_T39 l0 (wrap64 (x7_1 - 1))).f0.f0) ((rd_T39 l0 (wrap64 (x7_1 - 1))).f0.f1) ((rd_T39 l0 x7_1).f0.f0) ((rd_T39 l0 x7_1).f0.f1)).bind fun t368 => (if t368 ≥ 0 then (some false) else (spec_GoodTable.l0 k1 l0 l0 (l0.length : Int) (wrap64 (x7_1 + 1))))) else (none)) else (none)) else (spec_GoodTable.l0 k1 l0 l0 (l0.length : Int) (wrap64 (x7_1 + 1)))) = some r := by rw [if_pos rfl] at H; exact H
        clear H
        have H := H1
        clear H1
        by_cases c9 : x7_1 > 0
        ·
         rw [if_pos c9] at H
         have c9b0 : decide (0 < x7_1) = true := decide_eq_true c9
         clear c9
         obtain ⟨ji10, hji10⟩ : ∃ j_ : Int, (wrap64 (x7_1 - 1)) = j_ := ⟨_, rfl⟩
         replace H : (if 0 ≤ (ji10) then (if (ji10) < (l0.length : Int) then ((spec_l1Compare.f k1 ((rd_T39 l0 (ji10)).f0.f0) ((rd_T39 l0 (ji10)).f0.f1) ((rd_T39 l0 x7_1).f0.f0) ((rd_T39 l0 x7_1).f0.f1)).bind fun t368 => (if t368 ≥ 0 then (some false) else (spec_GoodTable.l0 k1 l0 l0 (l0.length : Int) (wrap64 (x7_1 + 1))))) else (none)) else (none)) = some r := by (rw [hji10] at H; exact H)
         (try rw [hji10] at A5)
         (try rw [hji10] at A7)
         have hji10w : (IntKind.i64.wrap (x7_1 - 1)) = ji10 := (zc _).trans hji10
         by_cases c11 : 0 ≤ (ji10)
         ·
          rw [if_pos c11] at H
          have c11b0 : decide (0 ≤ (ji10)) = true := decide_eq_true c11
          clear c11
          by_cases c12 : (ji10) < (l0.length : Int)
          ·
           rw [if_pos c12] at H
           have c12b0 : decide ((ji10) < (l0.length : Int)) = true := decide_eq_true c12
           clear c12
           replace H := kd.mp H
           obtain ⟨t368, A130, H⟩ := H
           replace H : (if t368 ≥ 0 then (some false) else (spec_GoodTable.l0 k1 l0 l0 (l0.length : Int) (wrap64 (x7_1 + 1)))) = some r := H
           have A13 := kv A130
           clear A130
           by_cases c14 : t368 ≥ 0
           ·
            rw [if_pos c14] at H
            have c14b0 : decide (0 ≤ t368) = true := decide_eq_true c14
            clear c14
            obtain rfl := kc H
            have p363 : 0 ≤ (x7_1 : Int) := of_decide_eq_true (by (with_reducible assumption))
            have q363 : x7_1 < (l0.length : Int) := of_decide_eq_true (by (with_reducible assumption))
            obtain ⟨ad363, e363, hx363_0, hx363_1, hx363_2⟩ := at_T39 HR0.1 x7_1 p363 q363
            cases e363
            try replace hx363_0 := (HB.1.cell (World.block_lt_of_cell? w _ hx363_0)).trans hx363_0
            try replace hx363_1 := (HB.1.cell (World.block_lt_of_cell? w _ hx363_1)).trans hx363_1
            try replace hx363_2 := (HB.1.cell (World.block_lt_of_cell? w _ hx363_2)).trans hx363_2
            replace p363 := eq_true p363
            replace q363 := eq_true q363
            try go_wp2_with (((with_reducible refine gate_dst (N := 4) rfl ?_); refine box_event rfl (N := 4) rfl (cs := #[.int .i64 0, .int .i64 0, .int .i64 0]) (t := 39) ?hr ?_; (case hr => go_simp; done); intro gb364 hg w15 hbox hb; have zx := kv hbox; have zy := kv (by rw [hg]; exact (zo HB.1) : w.heap.size ≤ gb364); replace HB := kv (zn HB.1 hb); clear hb hbox hg; have hcz16_0 : w15.cell? ⟨gb364, 0, none⟩ = some (.int .i64 0) := (ze zx.1 0).trans rfl; have hcz16_1 : w15.cell? ⟨gb364, 1, none⟩ = some (.int .i64 0) := (ze zx.1 1).trans rfl; have hcz16_2 : w15.cell? ⟨gb364, 2, none⟩ = some (.int .i64 0) := (ze zx.1 2).trans rfl; have hfz16_0 := zl zx.1 0; have hfz16_1 := zl zx.1 1; have hfz16_2 := zl zx.1 2))
            have n0_ : zr ((((w15.setCell ⟨gb364, 0, none⟩ (.int .i64 ((rd_T39 l0 x7_1).f0.f0))).setCell ⟨gb364, 1, none⟩ (.int .i64 ((rd_T39 l0 x7_1).f0.f1))).setCell ⟨gb364, 2, none⟩ (.int .i64 ((rd_T39 l0 x7_1).f1))).heap[gb364]? = some (.cells #[.int .i64 ((rd_T39 l0 x7_1).f0.f0), .int .i64 ((rd_T39 l0 x7_1).f0.f1), .int .i64 ((rd_T39 l0 x7_1).f1)] 39 (0, 0))) := ⟨by refine zq (cs := #[.int .i64 ((rd_T39 l0 x7_1).f0.f0), .int .i64 ((rd_T39 l0 x7_1).f0.f1), .int .i64 0]) ?_ 2 _ rfl; refine zq (cs := #[.int .i64 ((rd_T39 l0 x7_1).f0.f0), .int .i64 0, .int .i64 0]) ?_ 1 _ rfl; refine zq (cs := #[.int .i64 0, .int .i64 0, .int .i64 0]) ?_ 0 _ rfl; exact zx.1⟩
            have n1_ : zr (Below w.heap.size w (((w15.setCell ⟨gb364, 0, none⟩ (.int .i64 ((rd_T39 l0 x7_1).f0.f0))).setCell ⟨gb364, 1, none⟩ (.int .i64 ((rd_T39 l0 x7_1).f0.f1))).setCell ⟨gb364, 2, none⟩ (.int .i64 ((rd_T39 l0 x7_1).f1)))) := ⟨by repeat ((with_reducible first | exact HB.1 | refine zm ?_ zy.1))⟩
            generalize (((w15.setCell ⟨gb364, 0, none⟩ (.int .i64 ((rd_T39 l0 x7_1).f0.f0))).setCell ⟨gb364, 1, none⟩ (.int .i64 ((rd_T39 l0 x7_1).f0.f1))).setCell ⟨gb364, 2, none⟩ (.int .i64 ((rd_T39 l0 x7_1).f1))) = w17 at n0_ n1_ ⊢
            have zx := n0_
            have HB := n1_
            clear n0_ n1_
            replace zx := kv (zi zx.1)
            replace HB := kv (zf HB.1)
            have p367 : 0 ≤ ((ji10) : Int) := of_decide_eq_true (by (with_reducible assumption))
            have q367 : (ji10) < (l0.length : Int) := of_decide_eq_true (by (with_reducible assumption))
            obtain ⟨ad367, e367, hx367_0, hx367_1, hx367_2⟩ := at_T39 HR0.1 (ji10) p367 q367
            have hw367_2 := hx367_2
            have hw367_1 := hx367_1
            have hw367_0 := hx367_0
            obtain rfl : ad363 = ad367 := (by injection e367)
            try replace hx367_0 := (HB.1.cell (World.block_lt_of_cell? w _ hx367_0)).trans hx367_0
            try replace hx367_1 := (HB.1.cell (World.block_lt_of_cell? w _ hx367_1)).trans hx367_1
            try replace hx367_2 := (HB.1.cell (World.block_lt_of_cell? w _ hx367_2)).trans hx367_2
            replace p367 := eq_true p367
            replace q367 := eq_true q367
            refine start_ (n := 26) (S := fun w' => w'.cell? ⟨gb364, 0, none⟩ = some (.int .i64 ((rd_T39 l0 x7_1).f0.f0)) ∧ w'.cell? ⟨gb364, 1, none⟩ = some (.int .i64 ((rd_T39 l0 x7_1).f0.f1)) ∧ w'.cell? ⟨gb364, 2, none⟩ = some (.int .i64 ((rd_T39 l0 x7_1).f1)) ∧ w'.cell? (ad363.add (((ji10)).toNat * 3)) = some (.int .i64 ((rd_T39 l0 (ji10)).f0.f0)) ∧ w'.cell? ⟨(ad363.add (((ji10)).toNat * 3)).block, (ad363.add (((ji10)).toNat * 3)).off + 1, none⟩ = some (.int .i64 ((rd_T39 l0 (ji10)).f0.f1)) ∧ w'.cell? ⟨(ad363.add (((ji10)).toNat * 3)).block, (ad363.add (((ji10)).toNat * 3)).off + 2, none⟩ = some (.int .i64 ((rd_T39 l0 (ji10)).f1))) (ds := []) #[kx,kx,kx,kx,kx,kx,kx,kx,kx,kx,kx,kx,kx,kx,kx,kx,kx,kx,kx,kx,kx,kx,kx,kx,kx,kx] (by kernel_rfl) rfl rfl ⟨(ze zx.1 0).trans rfl, (ze zx.1 1).trans rfl, (ze zx.1 2).trans rfl, ((HB.1.cell (World.block_lt_of_cell? w _ hw367_0)).trans hw367_0), ((HB.1.cell (World.block_lt_of_cell? w _ hw367_1)).trans hw367_1), ((HB.1.cell (World.block_lt_of_cell? w _ hw367_2)).trans hw367_2)⟩ (fun hHeld => ?_); refine with_tabW spec_GoodTable.tab4 spec_GoodTable.bits4 (fun HT_ HW_ => ?_)
            generalize w17.drew = w18 at zx HB hx367_0 hx367_1 hx367_2 hHeld ⊢
            refine zg (i := 0) (N := some 12) (v := ?_) (a' := ?_) #[ko,kx,kx,kx,kx,kx,kx,kx,kx,kx,kx,kx,kx,kx,kx,kx,kx,kx,kx,kx,kx,kx,kx,kx,kx,kx] rfl rfl (za HT_.1 (by kernel_rfl)) (fun _ _ _ h => h) (kh ⟨by rfl, ?_⟩) ?_ ?_
            rotate_left
            ·
             intro w'
             go_simp
             with_reducible rfl
            rotate_left
            ·
             simp only [kk, kz, ky, kj, zc, zd]
             rfl
            refine zu (i := 1) (N := some 13) (v := ?_) (a' := ?_) #[ko,ko,kx,kx,kx,kx,kx,kx,kx,kx,kx,kx,kx,kx,kx,kx,kx,kx,kx,kx,kx,kx,kx,kx,kx,kx] rfl rfl (zp HT_.1 HW_.1 (by kernel_rfl)) (fun _ _ _ h => h) (kh ⟨by rfl, ?_⟩) hHeld ?_ ?_
            rotate_left
            ·
             rintro w' ⟨s0, s1, s2, s3, s4, s5⟩
             go_simp
             with_reducible rfl
            rotate_left
            ·
             simp only [kk, kz, ky, kj, zc, zd]
             rfl
            refine one_ (i := 2) (N := some 14) #[ko,ko,ko,kx,kx,kx,kx,kx,kx,kx,kx,kx,kx,kx,kx,kx,kx,kx,kx,kx,kx,kx,kx,kx,kx,kx] rfl rfl (zt HT_.1 (by kernel_rfl)) (by decide) (fun K hK => ?_)
            refine zw Try.func49 (by kernel_rfl) rfl #[.agg #[.int .i64 ((rd_T39 l0 x7_1).f0.f0), .int .i64 ((rd_T39 l0 x7_1).f0.f1)]] (by rfl) rfl rfl (by (try simp only [kf, ke, kb]); rfl) ?_
            with_reducible refine (spec_GoodPrefix.calls ((rd_T39 l0 x7_1).f0.f0) ((rd_T39 l0 x7_1).f0.f1) true _ A5.1).mono ?_
            rintro e w19 ⟨rfl, hb⟩
            refine ⟨_, rfl, ?_⟩
            replace zx := kv (zs zx.1 hb)
            replace HB := kv (zn HB.1 hb)
            refine hK.out _ _ ⟨(ze zx.1 0).trans rfl, (ze zx.1 1).trans rfl, (ze zx.1 2).trans rfl, ((HB.1.cell (World.block_lt_of_cell? w _ hw367_0)).trans hw367_0), ((HB.1.cell (World.block_lt_of_cell? w _ hw367_1)).trans hw367_1), ((HB.1.cell (World.block_lt_of_cell? w _ hw367_2)).trans hw367_2)⟩ (fun hHeld => ?_)
            clear hK K
            refine zv (a' := ?_) ?_ ?_
            rotate_left
            ·
             show kk _ (some 14) _ = _
             simp only [kk, kz, ky, kj, zc, zd]
             rfl
            refine zg (i := 3) (N := some 15) (v := ?_) (a' := ?_) #[ko,ko,ko,ko,kx,kx,kx,kx,kx,kx,kx,kx,kx,kx,kx,kx,kx,kx,kx,kx,kx,kx,kx,kx,kx,kx] rfl rfl (za HT_.1 (by kernel_rfl)) (fun _ _ _ h => h) (kh ⟨by rfl, ?_⟩) ?_ ?_
            rotate_left
            ·
             intro w'
             go_simp
             with_reducible rfl
            rotate_left
            ·
             simp only [kk, kz, ky, kj, zc, zd]
             rfl
            refine zg (i := 4) (N := some 16) (v := ?_) (a' := ?_) #[ko,ko,ko,ko,ko,kx,kx,kx,kx,kx,kx,kx,kx,kx,kx,kx,kx,kx,kx,kx,kx,kx,kx,kx,kx,kx] rfl rfl (za HT_.1 (by kernel_rfl)) (fun _ _ _ h => h) (kh ⟨by rfl, ?_⟩) ?_ ?_
            rotate_left
            ·
             intro w'
             go_simp
             with_reducible rfl
            rotate_left
            ·
             simp only [kk, kz, ky, kj, zc, zd]
             rfl
            refine zg (i := 5) (N := some 17) (v := ?_) (a' := ?_) #[ko,ko,ko,ko,ko,ko,kx,kx,kx,kx,kx,kx,kx,kx,kx,kx,kx,kx,kx,kx,kx,kx,kx,kx,kx,kx] rfl rfl (za HT_.1 (by kernel_rfl)) (fun _ _ _ h => h) (kh ⟨by rfl, ?_⟩) ?_ ?_
            rotate_left
            ·
             intro w'
             go_simp
             with_reducible rfl
            rotate_left
            ·
             simp only [kk, kz, ky, kj, zc, zd]
             rfl
            refine zu (i := 6) (N := some 18) (v := ?_) (a' := ?_) #[ko,ko,ko,ko,ko,ko,ko,kx,kx,kx,kx,kx,kx,kx,kx,kx,kx,kx,kx,kx,kx,kx,kx,kx,kx,kx] rfl rfl (zp HT_.1 HW_.1 (by kernel_rfl)) (fun _ _ _ h => h) (kh ⟨by rfl, ?_⟩) hHeld ?_ ?_
            rotate_left
            ·
             rintro w' ⟨s0, s1, s2, s3, s4, s5⟩
             go_simp
             with_reducible rfl
            rotate_left
            ·
             simp only [kk, kz, ky, kj, zc, zd]
             rfl
            refine one_ (i := 7) (N := some 19) #[ko,ko,ko,ko,ko,ko,ko,ko,kx,kx,kx,kx,kx,kx,kx,kx,kx,kx,kx,kx,kx,kx,kx,kx,kx,kx] rfl rfl (zt HT_.1 (by kernel_rfl)) (by decide) (fun K hK => ?_)
            refine zw Try.func50 (by kernel_rfl) rfl #[.int .i64 ((rd_T39 l0 x7_1).f1)] (by rfl) rfl rfl (by (try simp only [kf, ke, kb]); rfl) ?_
            with_reducible refine (spec_l2Value.calls ((rd_T39 l0 x7_1).f1) true _ A7.1).mono ?_
            rintro e w' ⟨rfl, ⟨nd, rfl⟩⟩
            refine ⟨_, rfl, ?_⟩
            refine hK.out _ _ ⟨(ze zx.1 0).trans rfl, (ze zx.1 1).trans rfl, (ze zx.1 2).trans rfl, ((HB.1.cell (World.block_lt_of_cell? w _ hw367_0)).trans hw367_0), ((HB.1.cell (World.block_lt_of_cell? w _ hw367_1)).trans hw367_1), ((HB.1.cell (World.block_lt_of_cell? w _ hw367_2)).trans hw367_2)⟩ (fun hHeld => ?_)
            clear hK K
            refine zv (a' := ?_) ?_ ?_
            rotate_left
            ·
             show kk _ (some 19) _ = _
             simp only [kk, kz, ky, kj, zc, zd]
             rfl
            refine zg (i := 8) (N := some 20) (v := ?_) (a' := ?_) #[ko,ko,ko,ko,ko,ko,ko,ko,ko,kx,kx,kx,kx,kx,kx,kx,kx,kx,kx,kx,kx,kx,kx,kx,kx,kx] rfl rfl (za HT_.1 (by kernel_rfl)) (fun _ _ _ h => h) (kh ⟨by rfl, ?_⟩) ?_ ?_
            rotate_left
            ·
             intro w'
             go_simp
             with_reducible rfl
            rotate_left
            ·
             simp only [kk, kz, ky, kj, zc, zd]
             rfl
            refine zg (i := 9) (N := some 21) (v := ?_) (a' := ?_) #[ko,ko,ko,ko,ko,ko,ko,ko,ko,ko,kx,kx,kx,kx,kx,kx,kx,kx,kx,kx,kx,kx,kx,kx,kx,kx] rfl rfl (za HT_.1 (by kernel_rfl)) (fun _ _ _ h => h) (kh ⟨by rfl, ?_⟩) ?_ ?_
            rotate_left
            ·
             intro w'
             go_simp
             with_reducible rfl
            rotate_left
            ·
             simp only [kk, kz, ky, kj, zc, zd]
             rfl
            refine zg (i := 10) (N := some 22) (v := ?_) (a' := ?_) #[ko,ko,ko,ko,ko,ko,ko,ko,ko,ko,ko,kx,kx,kx,kx,kx,kx,kx,kx,kx,kx,kx,kx,kx,kx,kx] rfl rfl (za HT_.1 (by kernel_rfl)) (fun _ _ _ h => h) (kh ⟨by rfl, ?_⟩) ?_ ?_
            rotate_left
            ·
             intro w'
             go_simp
             with_reducible rfl
            rotate_left
            ·
             simp only [kk, kz, ky, kj, zc, zd]
             rfl
            refine zg (i := 11) (N := some 23) (v := ?_) (a' := ?_) #[ko,ko,ko,ko,ko,ko,ko,ko,ko,ko,ko,ko,kx,kx,kx,kx,kx,kx,kx,kx,kx,kx,kx,kx,kx,kx] rfl rfl (za HT_.1 (by kernel_rfl)) (fun _ _ _ h => h) (kh ⟨by rfl, ?_⟩) ?_ ?_
            rotate_left
            ·
             intro w'
             go_simp
             with_reducible rfl
            rotate_left
            ·
             simp only [kk, kz, ky, kj, zc, zd]
             rfl
            refine zg (i := 12) (N := some 24) (v := ?_) (a' := ?_) #[ko,ko,ko,ko,ko,ko,ko,ko,ko,ko,ko,ko,ko,kx,kx,kx,kx,kx,kx,kx,kx,kx,kx,kx,kx,kx] rfl rfl (za HT_.1 (by kernel_rfl)) (fun _ _ _ h => h) (kh ⟨by rfl, ?_⟩) ?_ ?_
            rotate_left
            ·
             intro w'
             go_simp
             with_reducible rfl
            rotate_left
            ·
             simp only [kk, kz, ky, kj, zc, zd]
             rfl
            refine zg (i := 13) (N := some 25) (v := ?_) (a' := ?_) #[ko,ko,ko,ko,ko,ko,ko,ko,ko,ko,ko,ko,ko,ko,kx,kx,kx,kx,kx,kx,kx,kx,kx,kx,kx,kx] rfl rfl (za HT_.1 (by kernel_rfl)) (fun _ _ _ h => h) (kh ⟨by rfl, ?_⟩) ?_ ?_
            rotate_left
            ·
             intro w'
             go_simp
             with_reducible rfl
            rotate_left
            ·
             simp only [kk, kz, ky, kj, zc, zd]
             rfl
            refine zg (i := 14) (N := some 26) (v := ?_) (a' := ?_) #[ko,ko,ko,ko,ko,ko,ko,ko,ko,ko,ko,ko,ko,ko,ko,kx,kx,kx,kx,kx,kx,kx,kx,kx,kx,kx] rfl rfl (za HT_.1 (by kernel_rfl)) (fun _ _ _ h => h) (kh ⟨by rfl, ?_⟩) ?_ ?_
            rotate_left
            ·
             intro w'
             go_simp
             with_reducible rfl
            rotate_left
            ·
             simp only [kk, kz, ky, kj, zc, zd]
             rfl
            refine zg (i := 15) (N := some 27) (v := ?_) (a' := ?_) #[ko,ko,ko,ko,ko,ko,ko,ko,ko,ko,ko,ko,ko,ko,ko,ko,kx,kx,kx,kx,kx,kx,kx,kx,kx,kx] rfl rfl (za HT_.1 (by kernel_rfl)) (fun _ _ _ h => h) (kh ⟨by rfl, ?_⟩) ?_ ?_
            rotate_left
            ·
             intro w'
             go_simp
             with_reducible rfl
            rotate_left
            ·
             simp only [kk, kz, ky, kj, zc, zd]
             rfl
            refine zg (i := 16) (N := some 28) (v := ?_) (a' := ?_) #[ko,ko,ko,ko,ko,ko,ko,ko,ko,ko,ko,ko,ko,ko,ko,ko,ko,kx,kx,kx,kx,kx,kx,kx,kx,kx] rfl rfl (za HT_.1 (by kernel_rfl)) (fun _ _ _ h => h) (kh ⟨by rfl, ?_⟩) ?_ ?_
            rotate_left
            ·
             intro w'
             go_simp
             with_reducible rfl
            rotate_left
            ·
             simp only [kk, kz, ky, kj, zc, zd]
             rfl
            refine zg (i := 17) (N := some 29) (v := ?_) (a' := ?_) #[ko,ko,ko,ko,ko,ko,ko,ko,ko,ko,ko,ko,ko,ko,ko,ko,ko,ko,kx,kx,kx,kx,kx,kx,kx,kx] rfl rfl (za HT_.1 (by kernel_rfl)) (fun _ _ _ h => h) (kh ⟨by rfl, ?_⟩) ?_ ?_
            rotate_left
            ·
             intro w'
             go_simp
             with_reducible rfl
            rotate_left
            ·
             simp only [kk, kz, ky, kj, zc, zd]
             rfl
            refine zg (i := 18) (N := some 30) (v := ?_) (a' := ?_) #[ko,ko,ko,ko,ko,ko,ko,ko,ko,ko,ko,ko,ko,ko,ko,ko,ko,ko,ko,kx,kx,kx,kx,kx,kx,kx] rfl rfl (za HT_.1 (by kernel_rfl)) (fun _ _ _ h => h) (kh ⟨by rfl, ?_⟩) ?_ ?_
            rotate_left
            ·
             intro w'
             go_simp
             with_reducible rfl
            rotate_left
            ·
             simp only [kk, kz, ky, kj, zc, zd]
             rfl
            refine zg (i := 20) (N := some 32) (v := ?_) (a' := ?_) #[ko,ko,ko,ko,ko,ko,ko,ko,ko,ko,ko,ko,ko,ko,ko,ko,ko,ko,ko,kx,ko,kx,kx,kx,kx,kx] rfl rfl (za HT_.1 (by kernel_rfl)) (fun _ _ _ h => h) (kh ⟨by rfl, ?_⟩) ?_ ?_
            rotate_left
            ·
             intro w'
             go_simp
             with_reducible rfl
            rotate_left
            ·
             simp only [kk, kz, ky, kj, zc, zd]
             rfl
            refine zu (i := 19) (N := some 31) (v := ?_) (a' := ?_) #[ko,ko,ko,ko,ko,ko,ko,ko,ko,ko,ko,ko,ko,ko,ko,ko,ko,ko,ko,ko,ko,kx,kx,kx,kx,kx] rfl rfl (zp HT_.1 HW_.1 (by kernel_rfl)) (fun _ _ _ h => h) (kh ⟨by rfl, ?_⟩) hHeld ?_ ?_
            rotate_left
            ·
             rintro w' ⟨s0, s1, s2, s3, s4, s5⟩
             go_simp
             with_reducible rfl
            rotate_left
            ·
             simp only [kk, kz, ky, kj, zc, zd]
             rfl
            refine zu (i := 21) (N := some 33) (v := ?_) (a' := ?_) #[ko,ko,ko,ko,ko,ko,ko,ko,ko,ko,ko,ko,ko,ko,ko,ko,ko,ko,ko,ko,ko,ko,kx,kx,kx,kx] rfl rfl (zp HT_.1 HW_.1 (by kernel_rfl)) (fun _ _ _ h => h) (kh ⟨by rfl, ?_⟩) hHeld ?_ ?_
            rotate_left
            ·
             rintro w' ⟨s0, s1, s2, s3, s4, s5⟩
             go_simp
             with_reducible rfl
            rotate_left
            ·
             simp only [kk, kz, ky, kj, zc, zd]
             rfl
            refine one_ (i := 22) (N := some 34) #[ko,ko,ko,ko,ko,ko,ko,ko,ko,ko,ko,ko,ko,ko,ko,ko,ko,ko,ko,ko,ko,ko,ko,kx,kx,kx] rfl rfl (zt HT_.1 (by kernel_rfl)) (by decide) (fun K hK => ?_)
            refine zw Try.func51 (by kernel_rfl) rfl #[.agg #[.int .i64 ((rd_T39 l0 (ji10)).f0.f0), .int .i64 ((rd_T39 l0 (ji10)).f0.f1)], .agg #[.int .i64 ((rd_T39 l0 x7_1).f0.f0), .int .i64 ((rd_T39 l0 x7_1).f0.f1)]] (by rfl) rfl rfl (by (try simp only [kf, ke, kb]); rfl) ?_
            with_reducible refine (spec_l1Compare.calls k1 ((rd_T39 l0 (ji10)).f0.f0) ((rd_T39 l0 (ji10)).f0.f1) ((rd_T39 l0 x7_1).f0.f0) ((rd_T39 l0 x7_1).f0.f1) t368 _ A13.1).mono ?_
            rintro e w20 ⟨rfl, hb⟩
            refine ⟨_, rfl, ?_⟩
            replace zx := kv (zs (g := gb364) (o := .cells #[.int .i64 ((rd_T39 l0 x7_1).f0.f0), .int .i64 ((rd_T39 l0 x7_1).f0.f1), .int .i64 ((rd_T39 l0 x7_1).f1)] 39 (0, 0)) (by (with_reducible repeat (refine zj ?_ _)); exact zx.1) hb)
            replace HB := kv (zn (by repeat ((with_reducible first | exact HB.1 | apply zb))) hb)
            refine hK.out _ _ ⟨(ze zx.1 0).trans rfl, (ze zx.1 1).trans rfl, (ze zx.1 2).trans rfl, ((HB.1.cell (World.block_lt_of_cell? w _ hw367_0)).trans hw367_0), ((HB.1.cell (World.block_lt_of_cell? w _ hw367_1)).trans hw367_1), ((HB.1.cell (World.block_lt_of_cell? w _ hw367_2)).trans hw367_2)⟩ (fun hHeld => ?_)
            clear hK K
            refine zv (a' := ?_) ?_ ?_
            rotate_left
            ·
             show kk _ (some 34) _ = _
             simp only [kk, kz, ky, kj, zc, zd]
             rfl
            refine zg (i := 23) (N := some 35) (v := ?_) (a' := ?_) #[ko,ko,ko,ko,ko,ko,ko,ko,ko,ko,ko,ko,ko,ko,ko,ko,ko,ko,ko,ko,ko,ko,ko,ko,kx,kx] rfl rfl (za HT_.1 (by kernel_rfl)) (fun _ _ _ h => h) (kh ⟨by rfl, ?_⟩) ?_ ?_
            rotate_left
            ·
             intro w'
             go_simp
             with_reducible rfl
            rotate_left
            ·
             simp only [kk, kz, ky, kj, zc, zd]
             rfl
            refine zg (i := 24) (N := some 36) (v := ?_) (a' := ?_) #[ko,ko,ko,ko,ko,ko,ko,ko,ko,ko,ko,ko,ko,ko,ko,ko,ko,ko,ko,ko,ko,ko,ko,ko,ko,kx] rfl rfl (za HT_.1 (by kernel_rfl)) (fun _ _ _ h => h) (kh ⟨by rfl, ?_⟩) ?_ ?_
            rotate_left
            ·
             intro w'
             go_simp
             with_reducible rfl
            rotate_left
            ·
             simp only [kk, kz, ky, kj, zc, zd]
             rfl
            refine zg (i := 25) (N := some 37) (v := ?_) (a' := ?_) #[ko,ko,ko,ko,ko,ko,ko,ko,ko,ko,ko,ko,ko,ko,ko,ko,ko,ko,ko,ko,ko,ko,ko,ko,ko,ko] rfl rfl (za HT_.1 (by kernel_rfl)) (fun _ _ _ h => h) (kh ⟨by rfl, ?_⟩) ?_ ?_
            rotate_left
            ·
             intro w'
             go_simp
             with_reducible rfl
            rotate_left
            ·
             simp only [kk, kz, ky, kj, zc, zd]
             rfl
            refine done_ (done_of HT_.1 (by kernel_rfl)) ?_
            try go_wp2
            go_ret
            exact ⟨by rfl, by exact HB.1⟩
           ·
            rw [if_neg c14] at H
            have c14b0 : decide (0 ≤ t368) = false := decide_eq_false c14
            clear c14
            have H' := kv H
            clear H
            have p363 : 0 ≤ (x7_1 : Int) := of_decide_eq_true (by (with_reducible assumption))
            have q363 : x7_1 < (l0.length : Int) := of_decide_eq_true (by (with_reducible assumption))
            obtain ⟨ad363, e363, hx363_0, hx363_1, hx363_2⟩ := at_T39 HR0.1 x7_1 p363 q363
            cases e363
            try replace hx363_0 := (HB.1.cell (World.block_lt_of_cell? w _ hx363_0)).trans hx363_0
            try replace hx363_1 := (HB.1.cell (World.block_lt_of_cell? w _ hx363_1)).trans hx363_1
            try replace hx363_2 := (HB.1.cell (World.block_lt_of_cell? w _ hx363_2)).trans hx363_2
            replace p363 := eq_true p363
            replace q363 := eq_true q363
            try go_wp2_with (((with_reducible refine gate_dst (N := 4) rfl ?_); refine box_event rfl (N := 4) rfl (cs := #[.int .i64 0, .int .i64 0, .int .i64 0]) (t := 39) ?hr ?_; (case hr => go_simp; done); intro gb364 hg w21 hbox hb; have zx := kv hbox; have zy := kv (by rw [hg]; exact (zo HB.1) : w.heap.size ≤ gb364); replace HB := kv (zn HB.1 hb); clear hb hbox hg; have hcz22_0 : w21.cell? ⟨gb364, 0, none⟩ = some (.int .i64 0) := (ze zx.1 0).trans rfl; have hcz22_1 : w21.cell? ⟨gb364, 1, none⟩ = some (.int .i64 0) := (ze zx.1 1).trans rfl; have hcz22_2 : w21.cell? ⟨gb364, 2, none⟩ = some (.int .i64 0) := (ze zx.1 2).trans rfl; have hfz22_0 := zl zx.1 0; have hfz22_1 := zl zx.1 1; have hfz22_2 := zl zx.1 2))
            have n0_ : zr ((((w21.setCell ⟨gb364, 0, none⟩ (.int .i64 ((rd_T39 l0 x7_1).f0.f0))).setCell ⟨gb364, 1, none⟩ (.int .i64 ((rd_T39 l0 x7_1).f0.f1))).setCell ⟨gb364, 2, none⟩ (.int .i64 ((rd_T39 l0 x7_1).f1))).heap[gb364]? = some (.cells #[.int .i64 ((rd_T39 l0 x7_1).f0.f0), .int .i64 ((rd_T39 l0 x7_1).f0.f1), .int .i64 ((rd_T39 l0 x7_1).f1)] 39 (0, 0))) := ⟨by refine zq (cs := #[.int .i64 ((rd_T39 l0 x7_1).f0.f0), .int .i64 ((rd_T39 l0 x7_1).f0.f1), .int .i64 0]) ?_ 2 _ rfl; refine zq (cs := #[.int .i64 ((rd_T39 l0 x7_1).f0.f0), .int .i64 0, .int .i64 0]) ?_ 1 _ rfl; refine zq (cs := #[.int .i64 0, .int .i64 0, .int .i64 0]) ?_ 0 _ rfl; exact zx.1⟩
            have n1_ : zr (Below w.heap.size w (((w21.setCell ⟨gb364, 0, none⟩ (.int .i64 ((rd_T39 l0 x7_1).f0.f0))).setCell ⟨gb364, 1, none⟩ (.int .i64 ((rd_T39 l0 x7_1).f0.f1))).setCell ⟨gb364, 2, none⟩ (.int .i64 ((rd_T39 l0 x7_1).f1)))) := ⟨by repeat ((with_reducible first | exact HB.1 | refine zm ?_ zy.1))⟩
            generalize (((w21.setCell ⟨gb364, 0, none⟩ (.int .i64 ((rd_T39 l0 x7_1).f0.f0))).setCell ⟨gb364, 1, none⟩ (.int .i64 ((rd_T39 l0 x7_1).f0.f1))).setCell ⟨gb364, 2, none⟩ (.int .i64 ((rd_T39 l0 x7_1).f1))) = w23 at n0_ n1_ ⊢
            have zx := n0_
            have HB := n1_
            clear n0_ n1_
            replace zx := kv (zi zx.1)
            replace HB := kv (zf HB.1)
            have p367 : 0 ≤ ((ji10) : Int) := of_decide_eq_true (by (with_reducible assumption))
            have q367 : (ji10) < (l0.length : Int) := of_decide_eq_true (by (with_reducible assumption))
            obtain ⟨ad367, e367, hx367_0, hx367_1, hx367_2⟩ := at_T39 HR0.1 (ji10) p367 q367
            have hw367_2 := hx367_2
            have hw367_1 := hx367_1
            have hw367_0 := hx367_0
            obtain rfl : ad363 = ad367 := (by injection e367)
            try replace hx367_0 := (HB.1.cell (World.block_lt_of_cell? w _ hx367_0)).trans hx367_0
            try replace hx367_1 := (HB.1.cell (World.block_lt_of_cell? w _ hx367_1)).trans hx367_1
            try replace hx367_2 := (HB.1.cell (World.block_lt_of_cell? w _ hx367_2)).trans hx367_2
            replace p367 := eq_true p367
            replace q367 := eq_true q367
            refine start_ (n := 26) (S := fun w' => w'.cell? ⟨gb364, 0, none⟩ = some (.int .i64 ((rd_T39 l0 x7_1).f0.f0)) ∧ w'.cell? ⟨gb364, 1, none⟩ = some (.int .i64 ((rd_T39 l0 x7_1).f0.f1)) ∧ w'.cell? ⟨gb364, 2, none⟩ = some (.int .i64 ((rd_T39 l0 x7_1).f1)) ∧ w'.cell? (ad363.add (((ji10)).toNat * 3)) = some (.int .i64 ((rd_T39 l0 (ji10)).f0.f0)) ∧ w'.cell? ⟨(ad363.add (((ji10)).toNat * 3)).block, (ad363.add (((ji10)).toNat * 3)).off + 1, none⟩ = some (.int .i64 ((rd_T39 l0 (ji10)).f0.f1)) ∧ w'.cell? ⟨(ad363.add (((ji10)).toNat * 3)).block, (ad363.add (((ji10)).toNat * 3)).off + 2, none⟩ = some (.int .i64 ((rd_T39 l0 (ji10)).f1))) (ds := []) #[kx,kx,kx,kx,kx,kx,kx,kx,kx,kx,kx,kx,kx,kx,kx,kx,kx,kx,kx,kx,kx,kx,kx,kx,kx,kx] (by kernel_rfl) rfl rfl ⟨(ze zx.1 0).trans rfl, (ze zx.1 1).trans rfl, (ze zx.1 2).trans rfl, ((HB.1.cell (World.block_lt_of_cell? w _ hw367_0)).trans hw367_0), ((HB.1.cell (World.block_lt_of_cell? w _ hw367_1)).trans hw367_1), ((HB.1.cell (World.block_lt_of_cell? w _ hw367_2)).trans hw367_2)⟩ (fun hHeld => ?_); refine with_tabW spec_GoodTable.tab4 spec_GoodTable.bits4 (fun HT_ HW_ => ?_)
            generalize w23.drew = w24 at zx HB hx367_0 hx367_1 hx367_2 hHeld ⊢
            refine zg (i := 0) (N := some 12) (v := ?_) (a' := ?_) #[ko,kx,kx,kx,kx,kx,kx,kx,kx,kx,kx,kx,kx,kx,kx,kx,kx,kx,kx,kx,kx,kx,kx,kx,kx,kx] rfl rfl (za HT_.1 (by kernel_rfl)) (fun _ _ _ h => h) (kh ⟨by rfl, ?_⟩) ?_ ?_
            rotate_left
            ·
             intro w'
             go_simp
             with_reducible rfl
            rotate_left
            ·
             simp only [kk, kz, ky, kj, zc, zd]
             rfl
            refine zu (i := 1) (N := some 13) (v := ?_) (a' := ?_) #[ko,ko,kx,kx,kx,kx,kx,kx,kx,kx,kx,kx,kx,kx,kx,kx,kx,kx,kx,kx,kx,kx,kx,kx,kx,kx] rfl rfl (zp HT_.1 HW_.1 (by kernel_rfl)) (fun _ _ _ h => h) (kh ⟨by rfl, ?_⟩) hHeld ?_ ?_
            rotate_left
            ·
             rintro w' ⟨s0, s1, s2, s3, s4, s5⟩
             go_simp
             with_reducible rfl
            rotate_left
            ·
             simp only [kk, kz, ky, kj, zc, zd]
             rfl
            refine one_ (i := 2) (N := some 14) #[ko,ko,ko,kx,kx,kx,kx,kx,kx,kx,kx,kx,kx,kx,kx,kx,kx,kx,kx,kx,kx,kx,kx,kx,kx,kx] rfl rfl (zt HT_.1 (by kernel_rfl)) (by decide) (fun K hK => ?_)
            refine zw Try.func49 (by kernel_rfl) rfl #[.agg #[.int .i64 ((rd_T39 l0 x7_1).f0.f0), .int .i64 ((rd_T39 l0 x7_1).f0.f1)]] (by rfl) rfl rfl (by (try simp only [kf, ke, kb]); rfl) ?_
            with_reducible refine (spec_GoodPrefix.calls ((rd_T39 l0 x7_1).f0.f0) ((rd_T39 l0 x7_1).f0.f1) true _ A5.1).mono ?_
            rintro e w25 ⟨rfl, hb⟩
            refine ⟨_, rfl, ?_⟩
            replace zx := kv (zs zx.1 hb)
            replace HB := kv (zn HB.1 hb)
            refine hK.out _ _ ⟨(ze zx.1 0).trans rfl, (ze zx.1 1).trans rfl, (ze zx.1 2).trans rfl, ((HB.1.cell (World.block_lt_of_cell? w _ hw367_0)).trans hw367_0), ((HB.1.cell (World.block_lt_of_cell? w _ hw367_1)).trans hw367_1), ((HB.1.cell (World.block_lt_of_cell? w _ hw367_2)).trans hw367_2)⟩ (fun hHeld => ?_)
            clear hK K
            refine zv (a' := ?_) ?_ ?_
            rotate_left
            ·
             show kk _ (some 14) _ = _
             simp only [kk, kz, ky, kj, zc, zd]
             rfl
            refine zg (i := 3) (N := some 15) (v := ?_) (a' := ?_) #[ko,ko,ko,ko,kx,kx,kx,kx,kx,kx,kx,kx,kx,kx,kx,kx,kx,kx,kx,kx,kx,kx,kx,kx,kx,kx] rfl rfl (za HT_.1 (by kernel_rfl)) (fun _ _ _ h => h) (kh ⟨by rfl, ?_⟩) ?_ ?_
            rotate_left
            ·
             intro w'
             go_simp
             with_reducible rfl
            rotate_left
            ·
             simp only [kk, kz, ky, kj, zc, zd]
             rfl
            refine zg (i := 4) (N := some 16) (v := ?_) (a' := ?_) #[ko,ko,ko,ko,ko,kx,kx,kx,kx,kx,kx,kx,kx,kx,kx,kx,kx,kx,kx,kx,kx,kx,kx,kx,kx,kx] rfl rfl (za HT_.1 (by kernel_rfl)) (fun _ _ _ h => h) (kh ⟨by rfl, ?_⟩) ?_ ?_
            rotate_left
            ·
             intro w'
             go_simp
             with_reducible rfl
            rotate_left
            ·
             simp only [kk, kz, ky, kj, zc, zd]
             rfl
            refine zg (i := 5) (N := some 17) (v := ?_) (a' := ?_) #[ko,ko,ko,ko,ko,ko,kx,kx,kx,kx,kx,kx,kx,kx,kx,kx,kx,kx,kx,kx,kx,kx,kx,kx,kx,kx] rfl rfl (za HT_.1 (by kernel_rfl)) (fun _ _ _ h => h) (kh ⟨by rfl, ?_⟩) ?_ ?_
            rotate_left
            ·
             intro w'
             go_simp
             with_reducible rfl
            rotate_left
            ·
             simp only [kk, kz, ky, kj, zc, zd]
             rfl
            refine zu (i := 6) (N := some 18) (v := ?_) (a' := ?_) #[ko,ko,ko,ko,ko,ko,ko,kx,kx,kx,kx,kx,kx,kx,kx,kx,kx,kx,kx,kx,kx,kx,kx,kx,kx,kx] rfl rfl (zp HT_.1 HW_.1 (by kernel_rfl)) (fun _ _ _ h => h) (kh ⟨by rfl, ?_⟩) hHeld ?_ ?_
            rotate_left
            ·
             rintro w' ⟨s0, s1, s2, s3, s4, s5⟩
             go_simp
             with_reducible rfl
            rotate_left
            ·
             simp only [kk, kz, ky, kj, zc, zd]
             rfl
            refine one_ (i := 7) (N := some 19) #[ko,ko,ko,ko,ko,ko,ko,ko,kx,kx,kx,kx,kx,kx,kx,kx,kx,kx,kx,kx,kx,kx,kx,kx,kx,kx] rfl rfl (zt HT_.1 (by kernel_rfl)) (by decide) (fun K hK => ?_)
            refine zw Try.func50 (by kernel_rfl) rfl #[.int .i64 ((rd_T39 l0 x7_1).f1)] (by rfl) rfl rfl (by (try simp only [kf, ke, kb]); rfl) ?_
            with_reducible refine (spec_l2Value.calls ((rd_T39 l0 x7_1).f1) true _ A7.1).mono ?_
            rintro e w' ⟨rfl, ⟨nd, rfl⟩⟩
            refine ⟨_, rfl, ?_⟩
            refine hK.out _ _ ⟨(ze zx.1 0).trans rfl, (ze zx.1 1).trans rfl, (ze zx.1 2).trans rfl, ((HB.1.cell (World.block_lt_of_cell? w _ hw367_0)).trans hw367_0), ((HB.1.cell (World.block_lt_of_cell? w _ hw367_1)).trans hw367_1), ((HB.1.cell (World.block_lt_of_cell? w _ hw367_2)).trans hw367_2)⟩ (fun hHeld => ?_)
            clear hK K
            refine zv (a' := ?_) ?_ ?_
            rotate_left
            ·
             show kk _ (some 19) _ = _
             simp only [kk, kz, ky, kj, zc, zd]
             rfl
            refine zg (i := 8) (N := some 20) (v := ?_) (a' := ?_) #[ko,ko,ko,ko,ko,ko,ko,ko,ko,kx,kx,kx,kx,kx,kx,kx,kx,kx,kx,kx,kx,kx,kx,kx,kx,kx] rfl rfl (za HT_.1 (by kernel_rfl)) (fun _ _ _ h => h) (kh ⟨by rfl, ?_⟩) ?_ ?_
            rotate_left
            ·
             intro w'
             go_simp
             with_reducible rfl
            rotate_left
            ·
             simp only [kk, kz, ky, kj, zc, zd]
             rfl
            refine zg (i := 9) (N := some 21) (v := ?_) (a' := ?_) #[ko,ko,ko,ko,ko,ko,ko,ko,ko,ko,kx,kx,kx,kx,kx,kx,kx,kx,kx,kx,kx,kx,kx,kx,kx,kx] rfl rfl (za HT_.1 (by kernel_rfl)) (fun _ _ _ h => h) (kh ⟨by rfl, ?_⟩) ?_ ?_
            rotate_left
            ·
             intro w'
             go_simp
             with_reducible rfl
            rotate_left
            ·
             simp only [kk, kz, ky, kj, zc, zd]
             rfl
            refine zg (i := 10) (N := some 22) (v := ?_) (a' := ?_) #[ko,ko,ko,ko,ko,ko,ko,ko,ko,ko,ko,kx,kx,kx,kx,kx,kx,kx,kx,kx,kx,kx,kx,kx,kx,kx] rfl rfl (za HT_.1 (by kernel_rfl)) (fun _ _ _ h => h) (kh ⟨by rfl, ?_⟩) ?_ ?_
            rotate_left
            ·
             intro w'
             go_simp
             with_reducible rfl
            rotate_left
            ·
             simp only [kk, kz, ky, kj, zc, zd]
             rfl
            refine zg (i := 11) (N := some 23) (v := ?_) (a' := ?_) #[ko,ko,ko,ko,ko,ko,ko,ko,ko,ko,ko,ko,kx,kx,kx,kx,kx,kx,kx,kx,kx,kx,kx,kx,kx,kx] rfl rfl (za HT_.1 (by kernel_rfl)) (fun _ _ _ h => h) (kh ⟨by rfl, ?_⟩) ?_ ?_
            rotate_left
            ·
             intro w'
             go_simp
             with_reducible rfl
            rotate_left
            ·
             simp only [kk, kz, ky, kj, zc, zd]
             rfl
            refine zg (i := 12) (N := some 24) (v := ?_) (a' := ?_) #[ko,ko,ko,ko,ko,ko,ko,ko,ko,ko,ko,ko,ko,kx,kx,kx,kx,kx,kx,kx,kx,kx,kx,kx,kx,kx] rfl rfl (za HT_.1 (by kernel_rfl)) (fun _ _ _ h => h) (kh ⟨by rfl, ?_⟩) ?_ ?_
            rotate_left
            ·
             intro w'
             go_simp
             with_reducible rfl
            rotate_left
            ·
             simp only [kk, kz, ky, kj, zc, zd]
             rfl
            refine zg (i := 13) (N := some 25) (v := ?_) (a' := ?_) #[ko,ko,ko,ko,ko,ko,ko,ko,ko,ko,ko,ko,ko,ko,kx,kx,kx,kx,kx,kx,kx,kx,kx,kx,kx,kx] rfl rfl (za HT_.1 (by kernel_rfl)) (fun _ _ _ h => h) (kh ⟨by rfl, ?_⟩) ?_ ?_
            rotate_left
            ·
             intro w'
             go_simp
             with_reducible rfl
            rotate_left
            ·
             simp only [kk, kz, ky, kj, zc, zd]
             rfl
            refine zg (i := 14) (N := some 26) (v := ?_) (a' := ?_) #[ko,ko,ko,ko,ko,ko,ko,ko,ko,ko,ko,ko,ko,ko,ko,kx,kx,kx,kx,kx,kx,kx,kx,kx,kx,kx] rfl rfl (za HT_.1 (by kernel_rfl)) (fun _ _ _ h => h) (kh ⟨by rfl, ?_⟩) ?_ ?_
            rotate_left
            ·
             intro w'
             go_simp
             with_reducible rfl
            rotate_left
            ·
             simp only [kk, kz, ky, kj, zc, zd]
             rfl
            refine zg (i := 15) (N := some 27) (v := ?_) (a' := ?_) #[ko,ko,ko,ko,ko,ko,ko,ko,ko,ko,ko,ko,ko,ko,ko,ko,kx,kx,kx,kx,kx,kx,kx,kx,kx,kx] rfl rfl (za HT_.1 (by kernel_rfl)) (fun _ _ _ h => h) (kh ⟨by rfl, ?_⟩) ?_ ?_
            rotate_left
            ·
             intro w'
             go_simp
             with_reducible rfl
            rotate_left
            ·
             simp only [kk, kz, ky, kj, zc, zd]
             rfl
            refine zg (i := 16) (N := some 28) (v := ?_) (a' := ?_) #[ko,ko,ko,ko,ko,ko,ko,ko,ko,ko,ko,ko,ko,ko,ko,ko,ko,kx,kx,kx,kx,kx,kx,kx,kx,kx] rfl rfl (za HT_.1 (by kernel_rfl)) (fun _ _ _ h => h) (kh ⟨by rfl, ?_⟩) ?_ ?_
            rotate_left
            ·
             intro w'
             go_simp
             with_reducible rfl
            rotate_left
            ·
             simp only [kk, kz, ky, kj, zc, zd]
             rfl
            refine zg (i := 17) (N := some 29) (v := ?_) (a' := ?_) #[ko,ko,ko,ko,ko,ko,ko,ko,ko,ko,ko,ko,ko,ko,ko,ko,ko,ko,kx,kx,kx,kx,kx,kx,kx,kx] rfl rfl (za HT_.1 (by kernel_rfl)) (fun _ _ _ h => h) (kh ⟨by rfl, ?_⟩) ?_ ?_
            rotate_left
            ·
             intro w'
             go_simp
             with_reducible rfl
            rotate_left
            ·
             simp only [kk, kz, ky, kj, zc, zd]
             rfl
            refine zg (i := 18) (N := some 30) (v := ?_) (a' := ?_) #[ko,ko,ko,ko,ko,ko,ko,ko,ko,ko,ko,ko,ko,ko,ko,ko,ko,ko,ko,kx,kx,kx,kx,kx,kx,kx] rfl rfl (za HT_.1 (by kernel_rfl)) (fun _ _ _ h => h) (kh ⟨by rfl, ?_⟩) ?_ ?_
            rotate_left
            ·
             intro w'
             go_simp
             with_reducible rfl
            rotate_left
            ·
             simp only [kk, kz, ky, kj, zc, zd]
             rfl
            refine zg (i := 20) (N := some 32) (v := ?_) (a' := ?_) #[ko,ko,ko,ko,ko,ko,ko,ko,ko,ko,ko,ko,ko,ko,ko,ko,ko,ko,ko,kx,ko,kx,kx,kx,kx,kx] rfl rfl (za HT_.1 (by kernel_rfl)) (fun _ _ _ h => h) (kh ⟨by rfl, ?_⟩) ?_ ?_
            rotate_left
            ·
             intro w'
             go_simp
             with_reducible rfl
            rotate_left
            ·
             simp only [kk, kz, ky, kj, zc, zd]
             rfl
            refine zu (i := 19) (N := some 31) (v := ?_) (a' := ?_) #[ko,ko,ko,ko,ko,ko,ko,ko,ko,ko,ko,ko,ko,ko,ko,ko,ko,ko,ko,ko,ko,kx,kx,kx,kx,kx] rfl rfl (zp HT_.1 HW_.1 (by kernel_rfl)) (fun _ _ _ h => h) (kh ⟨by rfl, ?_⟩) hHeld ?_ ?_
            rotate_left
            ·
             rintro w' ⟨s0, s1, s2, s3, s4, s5⟩
             go_simp
             with_reducible rfl
            rotate_left
            ·
             simp only [kk, kz, ky, kj, zc, zd]
             rfl
            refine zu (i := 21) (N := some 33) (v := ?_) (a' := ?_) #[ko,ko,ko,ko,ko,ko,ko,ko,ko,ko,ko,ko,ko,ko,ko,ko,ko,ko,ko,ko,ko,ko,kx,kx,kx,kx] rfl rfl (zp HT_.1 HW_.1 (by kernel_rfl)) (fun _ _ _ h => h) (kh ⟨by rfl, ?_⟩) hHeld ?_ ?_
            rotate_left
            ·
             rintro w' ⟨s0, s1, s2, s3, s4, s5⟩
             go_simp
             with_reducible rfl
            rotate_left
            ·
             simp only [kk, kz, ky, kj, zc, zd]
             rfl
            refine one_ (i := 22) (N := some 34) #[ko,ko,ko,ko,ko,ko,ko,ko,ko,ko,ko,ko,ko,ko,ko,ko,ko,ko,ko,ko,ko,ko,ko,kx,kx,kx] rfl rfl (zt HT_.1 (by kernel_rfl)) (by decide) (fun K hK => ?_)
            refine zw Try.func51 (by kernel_rfl) rfl #[.agg #[.int .i64 ((rd_T39 l0 (ji10)).f0.f0), .int .i64 ((rd_T39 l0 (ji10)).f0.f1)], .agg #[.int .i64 ((rd_T39 l0 x7_1).f0.f0), .int .i64 ((rd_T39 l0 x7_1).f0.f1)]] (by rfl) rfl rfl (by (try simp only [kf, ke, kb]); rfl) ?_
            with_reducible refine (spec_l1Compare.calls k1 ((rd_T39 l0 (ji10)).f0.f0) ((rd_T39 l0 (ji10)).f0.f1) ((rd_T39 l0 x7_1).f0.f0) ((rd_T39 l0 x7_1).f0.f1) t368 _ A13.1).mono ?_
            rintro e w26 ⟨rfl, hb⟩
            refine ⟨_, rfl, ?_⟩
            replace zx := kv (zs (g := gb364) (o := .cells #[.int .i64 ((rd_T39 l0 x7_1).f0.f0), .int .i64 ((rd_T39 l0 x7_1).f0.f1), .int .i64 ((rd_T39 l0 x7_1).f1)] 39 (0, 0)) (by (with_reducible repeat (refine zj ?_ _)); exact zx.1) hb)
            replace HB := kv (zn (by repeat ((with_reducible first | exact HB.1 | apply zb))) hb)
            refine hK.out _ _ ⟨(ze zx.1 0).trans rfl, (ze zx.1 1).trans rfl, (ze zx.1 2).trans rfl, ((HB.1.cell (World.block_lt_of_cell? w _ hw367_0)).trans hw367_0), ((HB.1.cell (World.block_lt_of_cell? w _ hw367_1)).trans hw367_1), ((HB.1.cell (World.block_lt_of_cell? w _ hw367_2)).trans hw367_2)⟩ (fun hHeld => ?_)
            clear hK K
            refine zv (a' := ?_) ?_ ?_
            rotate_left
            ·
             show kk _ (some 34) _ = _
             simp only [kk, kz, ky, kj, zc, zd]
             rfl
            refine zg (i := 23) (N := some 35) (v := ?_) (a' := ?_) #[ko,ko,ko,ko,ko,ko,ko,ko,ko,ko,ko,ko,ko,ko,ko,ko,ko,ko,ko,ko,ko,ko,ko,ko,kx,kx] rfl rfl (za HT_.1 (by kernel_rfl)) (fun _ _ _ h => h) (kh ⟨by rfl, ?_⟩) ?_ ?_
            rotate_left
            ·
             intro w'
             go_simp
             with_reducible rfl
            rotate_left
            ·
             simp only [kk, kz, ky, kj, zc, zd]
             rfl
            refine zg (i := 24) (N := some 36) (v := ?_) (a' := ?_) #[ko,ko,ko,ko,ko,ko,ko,ko,ko,ko,ko,ko,ko,ko,ko,ko,ko,ko,ko,ko,ko,ko,ko,ko,ko,kx] rfl rfl (za HT_.1 (by kernel_rfl)) (fun _ _ _ h => h) (kh ⟨by rfl, ?_⟩) ?_ ?_
            rotate_left
            ·
             intro w'
             go_simp
             with_reducible rfl
            rotate_left
            ·
             simp only [kk, kz, ky, kj, zc, zd]
             rfl
            refine zg (i := 25) (N := some 37) (v := ?_) (a' := ?_) #[ko,ko,ko,ko,ko,ko,ko,ko,ko,ko,ko,ko,ko,ko,ko,ko,ko,ko,ko,ko,ko,ko,ko,ko,ko,ko] rfl rfl (za HT_.1 (by kernel_rfl)) (fun _ _ _ h => h) (kh ⟨by rfl, ?_⟩) ?_ ?_
            rotate_left
            ·
             intro w'
             go_simp
             with_reducible rfl
            rotate_left
            ·
             simp only [kk, kz, ky, kj, zc, zd]
             rfl
            refine done_ (done_of HT_.1 (by kernel_rfl)) ?_
            try go_wp2
            go_roundg k1
            case measure => have := HK1.1; omega
            case rel => exact ⟨(wrap64 (x7_1 + 1)), (by rfl), H', ⟨by have := HK1.1; omega⟩, ⟨by exact HB.1⟩⟩
          ·
           rw [if_neg c12] at H
           exact absurd H (by simp)
         ·
          rw [if_neg c11] at H
          exact absurd H (by simp)
        ·
         rw [if_neg c9] at H
         have c9b0 : decide (0 < x7_1) = false := decide_eq_false c9
         clear c9
         have H' := kv H
         clear H
         have p363 : 0 ≤ (x7_1 : Int) := of_decide_eq_true (by (with_reducible assumption))
         have q363 : x7_1 < (l0.length : Int) := of_decide_eq_true (by (with_reducible assumption))
         obtain ⟨ad363, e363, hx363_0, hx363_1, hx363_2⟩ := at_T39 HR0.1 x7_1 p363 q363
         cases e363
         try replace hx363_0 := (HB.1.cell (World.block_lt_of_cell? w _ hx363_0)).trans hx363_0
         try replace hx363_1 := (HB.1.cell (World.block_lt_of_cell? w _ hx363_1)).trans hx363_1
         try replace hx363_2 := (HB.1.cell (World.block_lt_of_cell? w _ hx363_2)).trans hx363_2
         replace p363 := eq_true p363
         replace q363 := eq_true q363
         try go_wp2_with (((with_reducible refine gate_dst (N := 4) rfl ?_); refine box_event rfl (N := 4) rfl (cs := #[.int .i64 0, .int .i64 0, .int .i64 0]) (t := 39) ?hr ?_; (case hr => go_simp; done); intro gb364 hg w27 hbox hb; have zx := kv hbox; have zy := kv (by rw [hg]; exact (zo HB.1) : w.heap.size ≤ gb364); replace HB := kv (zn HB.1 hb); clear hb hbox hg; have hcz28_0 : w27.cell? ⟨gb364, 0, none⟩ = some (.int .i64 0) := (ze zx.1 0).trans rfl; have hcz28_1 : w27.cell? ⟨gb364, 1, none⟩ = some (.int .i64 0) := (ze zx.1 1).trans rfl; have hcz28_2 : w27.cell? ⟨gb364, 2, none⟩ = some (.int .i64 0) := (ze zx.1 2).trans rfl; have hfz28_0 := zl zx.1 0; have hfz28_1 := zl zx.1 1; have hfz28_2 := zl zx.1 2))
         have n0_ : zr ((((w27.setCell ⟨gb364, 0, none⟩ (.int .i64 ((rd_T39 l0 x7_1).f0.f0))).setCell ⟨gb364, 1, none⟩ (.int .i64 ((rd_T39 l0 x7_1).f0.f1))).setCell ⟨gb364, 2, none⟩ (.int .i64 ((rd_T39 l0 x7_1).f1))).heap[gb364]? = some (.cells #[.int .i64 ((rd_T39 l0 x7_1).f0.f0), .int .i64 ((rd_T39 l0 x7_1).f0.f1), .int .i64 ((rd_T39 l0 x7_1).f1)] 39 (0, 0))) := ⟨by refine zq (cs := #[.int .i64 ((rd_T39 l0 x7_1).f0.f0), .int .i64 ((rd_T39 l0 x7_1).f0.f1), .int .i64 0]) ?_ 2 _ rfl; refine zq (cs := #[.int .i64 ((rd_T39 l0 x7_1).f0.f0), .int .i64 0, .int .i64 0]) ?_ 1 _ rfl; refine zq (cs := #[.int .i64 0, .int .i64 0, .int .i64 0]) ?_ 0 _ rfl; exact zx.1⟩
         have n1_ : zr (Below w.heap.size w (((w27.setCell ⟨gb364, 0, none⟩ (.int .i64 ((rd_T39 l0 x7_1).f0.f0))).setCell ⟨gb364, 1, none⟩ (.int .i64 ((rd_T39 l0 x7_1).f0.f1))).setCell ⟨gb364, 2, none⟩ (.int .i64 ((rd_T39 l0 x7_1).f1)))) := ⟨by repeat ((with_reducible first | exact HB.1 | refine zm ?_ zy.1))⟩
         generalize (((w27.setCell ⟨gb364, 0, none⟩ (.int .i64 ((rd_T39 l0 x7_1).f0.f0))).setCell ⟨gb364, 1, none⟩ (.int .i64 ((rd_T39 l0 x7_1).f0.f1))).setCell ⟨gb364, 2, none⟩ (.int .i64 ((rd_T39 l0 x7_1).f1))) = w29 at n0_ n1_ ⊢
         have zx := n0_
         have HB := n1_
         clear n0_ n1_
         replace zx := kv (zi zx.1)
         replace HB := kv (zf HB.1)
         refine start_ (n := 26) (S := fun w' => w'.cell? ⟨gb364, 0, none⟩ = some (.int .i64 ((rd_T39 l0 x7_1).f0.f0)) ∧ w'.cell? ⟨gb364, 1, none⟩ = some (.int .i64 ((rd_T39 l0 x7_1).f0.f1)) ∧ w'.cell? ⟨gb364, 2, none⟩ = some (.int .i64 ((rd_T39 l0 x7_1).f1))) (ds := []) #[kx,kx,kx,kx,kx,kx,kx,kx,kx,kx,kx,kx,kx,kx,kx,kx,kx,kx,kx,kx,kx,kx,kx,kx,kx,kx] (by kernel_rfl) rfl rfl ⟨(ze zx.1 0).trans rfl, (ze zx.1 1).trans rfl, (ze zx.1 2).trans rfl⟩ (fun hHeld => ?_); refine with_tabW spec_GoodTable.tab4 spec_GoodTable.bits4 (fun HT_ HW_ => ?_)
         generalize w29.drew = w30 at zx HB hHeld ⊢
         refine zg (i := 0) (N := some 12) (v := ?_) (a' := ?_) #[ko,kx,kx,kx,kx,kx,kx,kx,kx,kx,kx,kx,kx,kx,kx,kx,kx,kx,kx,kx,kx,kx,kx,kx,kx,kx] rfl rfl (za HT_.1 (by kernel_rfl)) (fun _ _ _ h => h) (kh ⟨by rfl, ?_⟩) ?_ ?_
         rotate_left
         ·
          intro w'
          go_simp
          with_reducible rfl
         rotate_left
         ·
          simp only [kk, kz, ky, kj, zc, zd]
          rfl
         refine zu (i := 1) (N := some 13) (v := ?_) (a' := ?_) #[ko,ko,kx,kx,kx,kx,kx,kx,kx,kx,kx,kx,kx,kx,kx,kx,kx,kx,kx,kx,kx,kx,kx,kx,kx,kx] rfl rfl (zp HT_.1 HW_.1 (by kernel_rfl)) (fun _ _ _ h => h) (kh ⟨by rfl, ?_⟩) hHeld ?_ ?_
         rotate_left
         ·
          rintro w' ⟨s0, s1, s2⟩
          go_simp
          with_reducible rfl
         rotate_left
         ·
          simp only [kk, kz, ky, kj, zc, zd]
          rfl
         refine one_ (i := 2) (N := some 14) #[ko,ko,ko,kx,kx,kx,kx,kx,kx,kx,kx,kx,kx,kx,kx,kx,kx,kx,kx,kx,kx,kx,kx,kx,kx,kx] rfl rfl (zt HT_.1 (by kernel_rfl)) (by decide) (fun K hK => ?_)
         refine zw Try.func49 (by kernel_rfl) rfl #[.agg #[.int .i64 ((rd_T39 l0 x7_1).f0.f0), .int .i64 ((rd_T39 l0 x7_1).f0.f1)]] (by rfl) rfl rfl (by (try simp only [kf, ke, kb]); rfl) ?_
         with_reducible refine (spec_GoodPrefix.calls ((rd_T39 l0 x7_1).f0.f0) ((rd_T39 l0 x7_1).f0.f1) true _ A5.1).mono ?_
         rintro e w31 ⟨rfl, hb⟩
         refine ⟨_, rfl, ?_⟩
         replace zx := kv (zs zx.1 hb)
         replace HB := kv (zn HB.1 hb)
         refine hK.out _ _ ⟨(ze zx.1 0).trans rfl, (ze zx.1 1).trans rfl, (ze zx.1 2).trans rfl⟩ (fun hHeld => ?_)
         clear hK K
         refine zv (a' := ?_) ?_ ?_
         rotate_left
         ·
          show kk _ (some 14) _ = _
          simp only [kk, kz, ky, kj, zc, zd]
          rfl
         refine zg (i := 3) (N := some 15) (v := ?_) (a' := ?_) #[ko,ko,ko,ko,kx,kx,kx,kx,kx,kx,kx,kx,kx,kx,kx,kx,kx,kx,kx,kx,kx,kx,kx,kx,kx,kx] rfl rfl (za HT_.1 (by kernel_rfl)) (fun _ _ _ h => h) (kh ⟨by rfl, ?_⟩) ?_ ?_
         rotate_left
         ·
          intro w'
          go_simp
          with_reducible rfl
         rotate_left
         ·
          simp only [kk, kz, ky, kj, zc, zd]
          rfl
         refine zg (i := 4) (N := some 16) (v := ?_) (a' := ?_) #[ko,ko,ko,ko,ko,kx,kx,kx,kx,kx,kx,kx,kx,kx,kx,kx,kx,kx,kx,kx,kx,kx,kx,kx,kx,kx] rfl rfl (za HT_.1 (by kernel_rfl)) (fun _ _ _ h => h) (kh ⟨by rfl, ?_⟩) ?_ ?_
         rotate_left
         ·
          intro w'
          go_simp
          with_reducible rfl
         rotate_left
         ·
          simp only [kk, kz, ky, kj, zc, zd]
          rfl
         refine zg (i := 5) (N := some 17) (v := ?_) (a' := ?_) #[ko,ko,ko,ko,ko,ko,kx,kx,kx,kx,kx,kx,kx,kx,kx,kx,kx,kx,kx,kx,kx,kx,kx,kx,kx,kx] rfl rfl (za HT_.1 (by kernel_rfl)) (fun _ _ _ h => h) (kh ⟨by rfl, ?_⟩) ?_ ?_
         rotate_left
         ·
          intro w'
          go_simp
          with_reducible rfl
         rotate_left
         ·
          simp only [kk, kz, ky, kj, zc, zd]
          rfl
         refine zu (i := 6) (N := some 18) (v := ?_) (a' := ?_) #[ko,ko,ko,ko,ko,ko,ko,kx,kx,kx,kx,kx,kx,kx,kx,kx,kx,kx,kx,kx,kx,kx,kx,kx,kx,kx] rfl rfl (zp HT_.1 HW_.1 (by kernel_rfl)) (fun _ _ _ h => h) (kh ⟨by rfl, ?_⟩) hHeld ?_ ?_
         rotate_left
         ·
          rintro w' ⟨s0, s1, s2⟩
          go_simp
          with_reducible rfl
         rotate_left
         ·
          simp only [kk, kz, ky, kj, zc, zd]
          rfl
         refine one_ (i := 7) (N := some 19) #[ko,ko,ko,ko,ko,ko,ko,ko,kx,kx,kx,kx,kx,kx,kx,kx,kx,kx,kx,kx,kx,kx,kx,kx,kx,kx] rfl rfl (zt HT_.1 (by kernel_rfl)) (by decide) (fun K hK => ?_)
         refine zw Try.func50 (by kernel_rfl) rfl #[.int .i64 ((rd_T39 l0 x7_1).f1)] (by rfl) rfl rfl (by (try simp only [kf, ke, kb]); rfl) ?_
         with_reducible refine (spec_l2Value.calls ((rd_T39 l0 x7_1).f1) true _ A7.1).mono ?_
         rintro e w' ⟨rfl, ⟨nd, rfl⟩⟩
         refine ⟨_, rfl, ?_⟩
         refine hK.out _ _ ⟨(ze zx.1 0).trans rfl, (ze zx.1 1).trans rfl, (ze zx.1 2).trans rfl⟩ (fun hHeld => ?_)
         clear hK K
         refine zv (a' := ?_) ?_ ?_
         rotate_left
         ·
          show kk _ (some 19) _ = _
          simp only [kk, kz, ky, kj, zc, zd]
          rfl
         refine zg (i := 8) (N := some 20) (v := ?_) (a' := ?_) #[ko,ko,ko,ko,ko,ko,ko,ko,ko,kx,kx,kx,kx,kx,kx,kx,kx,kx,kx,kx,kx,kx,kx,kx,kx,kx] rfl rfl (za HT_.1 (by kernel_rfl)) (fun _ _ _ h => h) (kh ⟨by rfl, ?_⟩) ?_ ?_
         rotate_left
         ·
          intro w'
          go_simp
          with_reducible rfl
         rotate_left
         ·
          simp only [kk, kz, ky, kj, zc, zd]
          rfl
         refine zg (i := 9) (N := some 21) (v := ?_) (a' := ?_) #[ko,ko,ko,ko,ko,ko,ko,ko,ko,ko,kx,kx,kx,kx,kx,kx,kx,kx,kx,kx,kx,kx,kx,kx,kx,kx] rfl rfl (za HT_.1 (by kernel_rfl)) (fun _ _ _ h => h) (kh ⟨by rfl, ?_⟩) ?_ ?_
         rotate_left
         ·
          intro w'
          go_simp
          with_reducible rfl
         rotate_left
         ·
          simp only [kk, kz, ky, kj, zc, zd]
          rfl
         refine zg (i := 10) (N := some 22) (v := ?_) (a' := ?_) #[ko,ko,ko,ko,ko,ko,ko,ko,ko,ko,ko,kx,kx,kx,kx,kx,kx,kx,kx,kx,kx,kx,kx,kx,kx,kx] rfl rfl (za HT_.1 (by kernel_rfl)) (fun _ _ _ h => h) (kh ⟨by rfl, ?_⟩) ?_ ?_
         rotate_left
         ·
          intro w'
          go_simp
          with_reducible rfl
         rotate_left
         ·
          simp only [kk, kz, ky, kj, zc, zd]
          rfl
         refine zg (i := 11) (N := some 23) (v := ?_) (a' := ?_) #[ko,ko,ko,ko,ko,ko,ko,ko,ko,ko,ko,ko,kx,kx,kx,kx,kx,kx,kx,kx,kx,kx,kx,kx,kx,kx] rfl rfl (za HT_.1 (by kernel_rfl)) (fun _ _ _ h => h) (kh ⟨by rfl, ?_⟩) ?_ ?_
         rotate_left
         ·
          intro w'
          go_simp
          with_reducible rfl
         rotate_left
         ·
          simp only [kk, kz, ky, kj, zc, zd]
          rfl
         refine zg (i := 12) (N := some 24) (v := ?_) (a' := ?_) #[ko,ko,ko,ko,ko,ko,ko,ko,ko,ko,ko,ko,ko,kx,kx,kx,kx,kx,kx,kx,kx,kx,kx,kx,kx,kx] rfl rfl (za HT_.1 (by kernel_rfl)) (fun _ _ _ h => h) (kh ⟨by rfl, ?_⟩) ?_ ?_
         rotate_left
         ·
          intro w'
          go_simp
          with_reducible rfl
         rotate_left
         ·
          simp only [kk, kz, ky, kj, zc, zd]
          rfl
         refine zg (i := 13) (N := some 25) (v := ?_) (a' := ?_) #[ko,ko,ko,ko,ko,ko,ko,ko,ko,ko,ko,ko,ko,ko,kx,kx,kx,kx,kx,kx,kx,kx,kx,kx,kx,kx] rfl rfl (za HT_.1 (by kernel_rfl)) (fun _ _ _ h => h) (kh ⟨by rfl, ?_⟩) ?_ ?_
         rotate_left
         ·
          intro w'
          go_simp
          with_reducible rfl
         rotate_left
         ·
          simp only [kk, kz, ky, kj, zc, zd]
          rfl
         refine zg (i := 14) (N := some 26) (v := undef) (a' := ?_) #[ko,ko,ko,ko,ko,ko,ko,ko,ko,ko,ko,ko,ko,ko,ko,kx,kx,kx,kx,kx,kx,kx,kx,kx,kx,kx] rfl rfl (za HT_.1 (by kernel_rfl)) (fun _ _ _ h => h) (kg ⟨by rfl, rfl⟩) ?_ ?_
         rotate_left
         ·
          simp only [kk, kz, ky, kj, zc, zd]
          rfl
         refine zg (i := 15) (N := some 27) (v := undef) (a' := ?_) #[ko,ko,ko,ko,ko,ko,ko,ko,ko,ko,ko,ko,ko,ko,ko,ko,kx,kx,kx,kx,kx,kx,kx,kx,kx,kx] rfl rfl (za HT_.1 (by kernel_rfl)) (fun _ _ _ h => h) (kg ⟨by rfl, rfl⟩) ?_ ?_
         rotate_left
         ·
          simp only [kk, kz, ky, kj, zc, zd]
          rfl
         refine zg (i := 16) (N := some 28) (v := undef) (a' := ?_) #[ko,ko,ko,ko,ko,ko,ko,ko,ko,ko,ko,ko,ko,ko,ko,ko,ko,kx,kx,kx,kx,kx,kx,kx,kx,kx] rfl rfl (za HT_.1 (by kernel_rfl)) (fun _ _ _ h => h) (kg ⟨by rfl, rfl⟩) ?_ ?_
         rotate_left
         ·
          simp only [kk, kz, ky, kj, zc, zd]
          rfl
         refine zg (i := 17) (N := some 29) (v := undef) (a' := ?_) #[ko,ko,ko,ko,ko,ko,ko,ko,ko,ko,ko,ko,ko,ko,ko,ko,ko,ko,kx,kx,kx,kx,kx,kx,kx,kx] rfl rfl (za HT_.1 (by kernel_rfl)) (fun _ _ _ h => h) (kg ⟨by rfl, rfl⟩) ?_ ?_
         rotate_left
         ·
          simp only [kk, kz, ky, kj, zc, zd]
          rfl
         refine zg (i := 18) (N := some 30) (v := undef) (a' := ?_) #[ko,ko,ko,ko,ko,ko,ko,ko,ko,ko,ko,ko,ko,ko,ko,ko,ko,ko,ko,kx,kx,kx,kx,kx,kx,kx] rfl rfl (za HT_.1 (by kernel_rfl)) (fun _ _ _ h => h) (kg ⟨by rfl, rfl⟩) ?_ ?_
         rotate_left
         ·
          simp only [kk, kz, ky, kj, zc, zd]
          rfl
         refine zg (i := 19) (N := some 31) (v := undef) (a' := ?_) #[ko,ko,ko,ko,ko,ko,ko,ko,ko,ko,ko,ko,ko,ko,ko,ko,ko,ko,ko,ko,kx,kx,kx,kx,kx,kx] rfl rfl (za HT_.1 (by kernel_rfl)) (fun _ _ _ h => h) (kg ⟨by rfl, rfl⟩) ?_ ?_
         rotate_left
         ·
          simp only [kk, kz, ky, kj, zc, zd]
          rfl
         refine zg (i := 20) (N := some 32) (v := undef) (a' := ?_) #[ko,ko,ko,ko,ko,ko,ko,ko,ko,ko,ko,ko,ko,ko,ko,ko,ko,ko,ko,ko,ko,kx,kx,kx,kx,kx] rfl rfl (za HT_.1 (by kernel_rfl)) (fun _ _ _ h => h) (kg ⟨by rfl, rfl⟩) ?_ ?_
         rotate_left
         ·
          simp only [kk, kz, ky, kj, zc, zd]
          rfl
         refine zg (i := 21) (N := some 33) (v := undef) (a' := ?_) #[ko,ko,ko,ko,ko,ko,ko,ko,ko,ko,ko,ko,ko,ko,ko,ko,ko,ko,ko,ko,ko,ko,kx,kx,kx,kx] rfl rfl (za HT_.1 (by kernel_rfl)) (fun _ _ _ h => h) (kg ⟨by rfl, rfl⟩) ?_ ?_
         rotate_left
         ·
          simp only [kk, kz, ky, kj, zc, zd]
          rfl
         refine zg (i := 22) (N := some 34) (v := undef) (a' := ?_) #[ko,ko,ko,ko,ko,ko,ko,ko,ko,ko,ko,ko,ko,ko,ko,ko,ko,ko,ko,ko,ko,ko,ko,kx,kx,kx] rfl rfl (za HT_.1 (by kernel_rfl)) (fun _ _ _ h => h) (kg ⟨by rfl, rfl⟩) ?_ ?_
         rotate_left
         ·
          simp only [kk, kz, ky, kj, zc, zd]
          rfl
         refine zg (i := 23) (N := some 35) (v := undef) (a' := ?_) #[ko,ko,ko,ko,ko,ko,ko,ko,ko,ko,ko,ko,ko,ko,ko,ko,ko,ko,ko,ko,ko,ko,ko,ko,kx,kx] rfl rfl (za HT_.1 (by kernel_rfl)) (fun _ _ _ h => h) (kg ⟨by rfl, rfl⟩) ?_ ?_
         rotate_left
         ·
          simp only [kk, kz, ky, kj, zc, zd]
          rfl
         refine zg (i := 24) (N := some 36) (v := ?_) (a' := ?_) #[ko,ko,ko,ko,ko,ko,ko,ko,ko,ko,ko,ko,ko,ko,ko,ko,ko,ko,ko,ko,ko,ko,ko,ko,ko,kx] rfl rfl (za HT_.1 (by kernel_rfl)) (fun _ _ _ h => h) (kh ⟨by rfl, ?_⟩) ?_ ?_
         rotate_left
         ·
          intro w'
          go_simp
          with_reducible rfl
         rotate_left
         ·
          simp only [kk, kz, ky, kj, zc, zd]
          rfl
         refine zg (i := 25) (N := some 37) (v := ?_) (a' := ?_) #[ko,ko,ko,ko,ko,ko,ko,ko,ko,ko,ko,ko,ko,ko,ko,ko,ko,ko,ko,ko,ko,ko,ko,ko,ko,ko] rfl rfl (za HT_.1 (by kernel_rfl)) (fun _ _ _ h => h) (kh ⟨by rfl, ?_⟩) ?_ ?_
         rotate_left
         ·
          intro w'
          go_simp
          with_reducible rfl
         rotate_left
         ·
          simp only [kk, kz, ky, kj, zc, zd]
          rfl
         refine done_ (done_of HT_.1 (by kernel_rfl)) ?_
         try go_wp2
         go_roundg k1
         case measure => have := HK1.1; omega
         case rel => exact ⟨(wrap64 (x7_1 + 1)), (by rfl), H', ⟨by have := HK1.1; omega⟩, ⟨by repeat ((with_reducible first | exact HB.1 | apply zb))⟩⟩
       ·
        replace c8 := Bool.eq_false_iff.mpr c8
        subst c8
        have H1 : (some false) = some r := by rw [if_neg (show ¬ (false = true) by decide)] at H; exact H
        clear H
        have H := H1
        clear H1
        obtain rfl := kc H
        have p363 : 0 ≤ (x7_1 : Int) := of_decide_eq_true (by (with_reducible assumption))
        have q363 : x7_1 < (l0.length : Int) := of_decide_eq_true (by (with_reducible assumption))
        obtain ⟨ad363, e363, hx363_0, hx363_1, hx363_2⟩ := at_T39 HR0.1 x7_1 p363 q363
        cases e363
        try replace hx363_0 := (HB.1.cell (World.block_lt_of_cell? w _ hx363_0)).trans hx363_0
        try replace hx363_1 := (HB.1.cell (World.block_lt_of_cell? w _ hx363_1)).trans hx363_1
        try replace hx363_2 := (HB.1.cell (World.block_lt_of_cell? w _ hx363_2)).trans hx363_2
        replace p363 := eq_true p363
        replace q363 := eq_true q363
        try go_wp2_with (((with_reducible refine gate_dst (N := 4) rfl ?_); refine box_event rfl (N := 4) rfl (cs := #[.int .i64 0, .int .i64 0, .int .i64 0]) (t := 39) ?hr ?_; (case hr => go_simp; done); intro gb364 hg w32 hbox hb; have zx := kv hbox; have zy := kv (by rw [hg]; exact (zo HB.1) : w.heap.size ≤ gb364); replace HB := kv (zn HB.1 hb); clear hb hbox hg; have hcz33_0 : w32.cell? ⟨gb364, 0, none⟩ = some (.int .i64 0) := (ze zx.1 0).trans rfl; have hcz33_1 : w32.cell? ⟨gb364, 1, none⟩ = some (.int .i64 0) := (ze zx.1 1).trans rfl; have hcz33_2 : w32.cell? ⟨gb364, 2, none⟩ = some (.int .i64 0) := (ze zx.1 2).trans rfl; have hfz33_0 := zl zx.1 0; have hfz33_1 := zl zx.1 1; have hfz33_2 := zl zx.1 2))
        have n0_ : zr ((((w32.setCell ⟨gb364, 0, none⟩ (.int .i64 ((rd_T39 l0 x7_1).f0.f0))).setCell ⟨gb364, 1, none⟩ (.int .i64 ((rd_T39 l0 x7_1).f0.f1))).setCell ⟨gb364, 2, none⟩ (.int .i64 ((rd_T39 l0 x7_1).f1))).heap[gb364]? = some (.cells #[.int .i64 ((rd_T39 l0 x7_1).f0.f0), .int .i64 ((rd_T39 l0 x7_1).f0.f1), .int .i64 ((rd_T39 l0 x7_1).f1)] 39 (0, 0))) := ⟨by refine zq (cs := #[.int .i64 ((rd_T39 l0 x7_1).f0.f0), .int .i64 ((rd_T39 l0 x7_1).f0.f1), .int .i64 0]) ?_ 2 _ rfl; refine zq (cs := #[.int .i64 ((rd_T39 l0 x7_1).f0.f0), .int .i64 0, .int .i64 0]) ?_ 1 _ rfl; refine zq (cs := #[.int .i64 0, .int .i64 0, .int .i64 0]) ?_ 0 _ rfl; exact zx.1⟩
        have n1_ : zr (Below w.heap.size w (((w32.setCell ⟨gb364, 0, none⟩ (.int .i64 ((rd_T39 l0 x7_1).f0.f0))).setCell ⟨gb364, 1, none⟩ (.int .i64 ((rd_T39 l0 x7_1).f0.f1))).setCell ⟨gb364, 2, none⟩ (.int .i64 ((rd_T39 l0 x7_1).f1)))) := ⟨by repeat ((with_reducible first | exact HB.1 | refine zm ?_ zy.1))⟩
        generalize (((w32.setCell ⟨gb364, 0, none⟩ (.int .i64 ((rd_T39 l0 x7_1).f0.f0))).setCell ⟨gb364, 1, none⟩ (.int .i64 ((rd_T39 l0 x7_1).f0.f1))).setCell ⟨gb364, 2, none⟩ (.int .i64 ((rd_T39 l0 x7_1).f1))) = w34 at n0_ n1_ ⊢
        have zx := n0_
        have HB := n1_
        clear n0_ n1_
        replace zx := kv (zi zx.1)
        replace HB := kv (zf HB.1)
        refine start_ (n := 26) (S := fun w' => w'.cell? ⟨gb364, 0, none⟩ = some (.int .i64 ((rd_T39 l0 x7_1).f0.f0)) ∧ w'.cell? ⟨gb364, 1, none⟩ = some (.int .i64 ((rd_T39 l0 x7_1).f0.f1)) ∧ w'.cell? ⟨gb364, 2, none⟩ = some (.int .i64 ((rd_T39 l0 x7_1).f1))) (ds := []) #[kx,kx,kx,kx,kx,kx,kx,kx,kx,kx,kx,kx,kx,kx,kx,kx,kx,kx,kx,kx,kx,kx,kx,kx,kx,kx] (by kernel_rfl) rfl rfl ⟨(ze zx.1 0).trans rfl, (ze zx.1 1).trans rfl, (ze zx.1 2).trans rfl⟩ (fun hHeld => ?_); refine with_tabW spec_GoodTable.tab4 spec_GoodTable.bits4 (fun HT_ HW_ => ?_)
        generalize w34.drew = w35 at zx HB hHeld ⊢
        refine zg (i := 0) (N := some 12) (v := ?_) (a' := ?_) #[ko,kx,kx,kx,kx,kx,kx,kx,kx,kx,kx,kx,kx,kx,kx,kx,kx,kx,kx,kx,kx,kx,kx,kx,kx,kx] rfl rfl (za HT_.1 (by kernel_rfl)) (fun _ _ _ h => h) (kh ⟨by rfl, ?_⟩) ?_ ?_
        rotate_left
        ·
         intro w'
         go_simp
         with_reducible rfl
        rotate_left
        ·
         simp only [kk, kz, ky, kj, zc, zd]
         rfl
        refine zu (i := 1) (N := some 13) (v := ?_) (a' := ?_) #[ko,ko,kx,kx,kx,kx,kx,kx,kx,kx,kx,kx,kx,kx,kx,kx,kx,kx,kx,kx,kx,kx,kx,kx,kx,kx] rfl rfl (zp HT_.1 HW_.1 (by kernel_rfl)) (fun _ _ _ h => h) (kh ⟨by rfl, ?_⟩) hHeld ?_ ?_
        rotate_left
        ·
         rintro w' ⟨s0, s1, s2⟩
         go_simp
         with_reducible rfl
        rotate_left
        ·
         simp only [kk, kz, ky, kj, zc, zd]
         rfl
        refine one_ (i := 2) (N := some 14) #[ko,ko,ko,kx,kx,kx,kx,kx,kx,kx,kx,kx,kx,kx,kx,kx,kx,kx,kx,kx,kx,kx,kx,kx,kx,kx] rfl rfl (zt HT_.1 (by kernel_rfl)) (by decide) (fun K hK => ?_)
        refine zw Try.func49 (by kernel_rfl) rfl #[.agg #[.int .i64 ((rd_T39 l0 x7_1).f0.f0), .int .i64 ((rd_T39 l0 x7_1).f0.f1)]] (by rfl) rfl rfl (by (try simp only [kf, ke, kb]); rfl) ?_
        with_reducible refine (spec_GoodPrefix.calls ((rd_T39 l0 x7_1).f0.f0) ((rd_T39 l0 x7_1).f0.f1) true _ A5.1).mono ?_
        rintro e w36 ⟨rfl, hb⟩
        refine ⟨_, rfl, ?_⟩
        replace zx := kv (zs zx.1 hb)
        replace HB := kv (zn HB.1 hb)
        refine hK.out _ _ ⟨(ze zx.1 0).trans rfl, (ze zx.1 1).trans rfl, (ze zx.1 2).trans rfl⟩ (fun hHeld => ?_)
        clear hK K
        refine zv (a' := ?_) ?_ ?_
        rotate_left
        ·
         show kk _ (some 14) _ = _
         simp only [kk, kz, ky, kj, zc, zd]
         rfl
        refine zg (i := 3) (N := some 15) (v := ?_) (a' := ?_) #[ko,ko,ko,ko,kx,kx,kx,kx,kx,kx,kx,kx,kx,kx,kx,kx,kx,kx,kx,kx,kx,kx,kx,kx,kx,kx] rfl rfl (za HT_.1 (by kernel_rfl)) (fun _ _ _ h => h) (kh ⟨by rfl, ?_⟩) ?_ ?_
        rotate_left
        ·
         intro w'
         go_simp
         with_reducible rfl
        rotate_left
        ·
         simp only [kk, kz, ky, kj, zc, zd]
         rfl
        refine zg (i := 4) (N := some 16) (v := ?_) (a' := ?_) #[ko,ko,ko,ko,ko,kx,kx,kx,kx,kx,kx,kx,kx,kx,kx,kx,kx,kx,kx,kx,kx,kx,kx,kx,kx,kx] rfl rfl (za HT_.1 (by kernel_rfl)) (fun _ _ _ h => h) (kh ⟨by rfl, ?_⟩) ?_ ?_
        rotate_left
        ·
         intro w'
         go_simp
         with_reducible rfl
        rotate_left
        ·
         simp only [kk, kz, ky, kj, zc, zd]
         rfl
        refine zg (i := 5) (N := some 17) (v := ?_) (a' := ?_) #[ko,ko,ko,ko,ko,ko,kx,kx,kx,kx,kx,kx,kx,kx,kx,kx,kx,kx,kx,kx,kx,kx,kx,kx,kx,kx] rfl rfl (za HT_.1 (by kernel_rfl)) (fun _ _ _ h => h) (kh ⟨by rfl, ?_⟩) ?_ ?_
        rotate_left
        ·
         intro w'
         go_simp
         with_reducible rfl
        rotate_left
        ·
         simp only [kk, kz, ky, kj, zc, zd]
         rfl
        refine zu (i := 6) (N := some 18) (v := ?_) (a' := ?_) #[ko,ko,ko,ko,ko,ko,ko,kx,kx,kx,kx,kx,kx,kx,kx,kx,kx,kx,kx,kx,kx,kx,kx,kx,kx,kx] rfl rfl (zp HT_.1 HW_.1 (by kernel_rfl)) (fun _ _ _ h => h) (kh ⟨by rfl, ?_⟩) hHeld ?_ ?_
        rotate_left
        ·
         rintro w' ⟨s0, s1, s2⟩
         go_simp
         with_reducible rfl
        rotate_left
        ·
         simp only [kk, kz, ky, kj, zc, zd]
         rfl
        refine one_ (i := 7) (N := some 19) #[ko,ko,ko,ko,ko,ko,ko,ko,kx,kx,kx,kx,kx,kx,kx,kx,kx,kx,kx,kx,kx,kx,kx,kx,kx,kx] rfl rfl (zt HT_.1 (by kernel_rfl)) (by decide) (fun K hK => ?_)
        refine zw Try.func50 (by kernel_rfl) rfl #[.int .i64 ((rd_T39 l0 x7_1).f1)] (by rfl) rfl rfl (by (try simp only [kf, ke, kb]); rfl) ?_
        with_reducible refine (spec_l2Value.calls ((rd_T39 l0 x7_1).f1) false _ A7.1).mono ?_
        rintro e w' ⟨rfl, ⟨nd, rfl⟩⟩
        refine ⟨_, rfl, ?_⟩
        refine hK.out _ _ ⟨(ze zx.1 0).trans rfl, (ze zx.1 1).trans rfl, (ze zx.1 2).trans rfl⟩ (fun hHeld => ?_)
        clear hK K
        refine zv (a' := ?_) ?_ ?_
        rotate_left
        ·
         show kk _ (some 19) _ = _
         simp only [kk, kz, ky, kj, zc, zd]
         rfl
        refine zg (i := 8) (N := some 20) (v := ?_) (a' := ?_) #[ko,ko,ko,ko,ko,ko,ko,ko,ko,kx,kx,kx,kx,kx,kx,kx,kx,kx,kx,kx,kx,kx,kx,kx,kx,kx] rfl rfl (za HT_.1 (by kernel_rfl)) (fun _ _ _ h => h) (kh ⟨by rfl, ?_⟩) ?_ ?_
        rotate_left
        ·
         intro w'
         go_simp
         with_reducible rfl
        rotate_left
        ·
         simp only [kk, kz, ky, kj, zc, zd]
         rfl
        refine zg (i := 9) (N := some 21) (v := ?_) (a' := ?_) #[ko,ko,ko,ko,ko,ko,ko,ko,ko,ko,kx,kx,kx,kx,kx,kx,kx,kx,kx,kx,kx,kx,kx,kx,kx,kx] rfl rfl (za HT_.1 (by kernel_rfl)) (fun _ _ _ h => h) (kh ⟨by rfl, ?_⟩) ?_ ?_
        rotate_left
        ·
         intro w'
         go_simp
         with_reducible rfl
        rotate_left
        ·
         simp only [kk, kz, ky, kj, zc, zd]
         rfl
        refine zg (i := 10) (N := some 22) (v := ?_) (a' := ?_) #[ko,ko,ko,ko,ko,ko,ko,ko,ko,ko,ko,kx,kx,kx,kx,kx,kx,kx,kx,kx,kx,kx,kx,kx,kx,kx] rfl rfl (za HT_.1 (by kernel_rfl)) (fun _ _ _ h => h) (kh ⟨by rfl, ?_⟩) ?_ ?_
        rotate_left
        ·
         intro w'
         go_simp
         with_reducible rfl
        rotate_left
        ·
         simp only [kk, kz, ky, kj, zc, zd]
         rfl
        refine zg (i := 11) (N := some 23) (v := undef) (a' := ?_) #[ko,ko,ko,ko,ko,ko,ko,ko,ko,ko,ko,ko,kx,kx,kx,kx,kx,kx,kx,kx,kx,kx,kx,kx,kx,kx] rfl rfl (za HT_.1 (by kernel_rfl)) (fun _ _ _ h => h) (kg ⟨by rfl, rfl⟩) ?_ ?_
        rotate_left
        ·
         simp only [kk, kz, ky, kj, zc, zd]
         rfl
        refine zg (i := 12) (N := some 24) (v := undef) (a' := ?_) #[ko,ko,ko,ko,ko,ko,ko,ko,ko,ko,ko,ko,ko,kx,kx,kx,kx,kx,kx,kx,kx,kx,kx,kx,kx,kx] rfl rfl (za HT_.1 (by kernel_rfl)) (fun _ _ _ h => h) (kg ⟨by rfl, rfl⟩) ?_ ?_
        rotate_left
        ·
         simp only [kk, kz, ky, kj, zc, zd]
         rfl
        refine zg (i := 13) (N := some 25) (v := undef) (a' := ?_) #[ko,ko,ko,ko,ko,ko,ko,ko,ko,ko,ko,ko,ko,ko,kx,kx,kx,kx,kx,kx,kx,kx,kx,kx,kx,kx] rfl rfl (za HT_.1 (by kernel_rfl)) (fun _ _ _ h => h) (kg ⟨by rfl, rfl⟩) ?_ ?_
        rotate_left
        ·
         simp only [kk, kz, ky, kj, zc, zd]
         rfl
        refine zg (i := 14) (N := some 26) (v := undef) (a' := ?_) #[ko,ko,ko,ko,ko,ko,ko,ko,ko,ko,ko,ko,ko,ko,ko,kx,kx,kx,kx,kx,kx,kx,kx,kx,kx,kx] rfl rfl (za HT_.1 (by kernel_rfl)) (fun _ _ _ h => h) (kg ⟨by rfl, rfl⟩) ?_ ?_
        rotate_left
        ·
         simp only [kk, kz, ky, kj, zc, zd]
         rfl
        refine zg (i := 15) (N := some 27) (v := undef) (a' := ?_) #[ko,ko,ko,ko,ko,ko,ko,ko,ko,ko,ko,ko,ko,ko,ko,ko,kx,kx,kx,kx,kx,kx,kx,kx,kx,kx] rfl rfl (za HT_.1 (by kernel_rfl)) (fun _ _ _ h => h) (kg ⟨by rfl, rfl⟩) ?_ ?_
        rotate_left
        ·
         simp only [kk, kz, ky, kj, zc, zd]
         rfl
        refine zg (i := 16) (N := some 28) (v := undef) (a' := ?_) #[ko,ko,ko,ko,ko,ko,ko,ko,ko,ko,ko,ko,ko,ko,ko,ko,ko,kx,kx,kx,kx,kx,kx,kx,kx,kx] rfl rfl (za HT_.1 (by kernel_rfl)) (fun _ _ _ h => h) (kg ⟨by rfl, rfl⟩) ?_ ?_
        rotate_left
        ·
         simp only [kk, kz, ky, kj, zc, zd]
         rfl
        refine zg (i := 17) (N := some 29) (v := undef) (a' := ?_) #[ko,ko,ko,ko,ko,ko,ko,ko,ko,ko,ko,ko,ko,ko,ko,ko,ko,ko,kx,kx,kx,kx,kx,kx,kx,kx] rfl rfl (za HT_.1 (by kernel_rfl)) (fun _ _ _ h => h) (kg ⟨by rfl, rfl⟩) ?_ ?_
        rotate_left
        ·
         simp only [kk, kz, ky, kj, zc, zd]
         rfl
        refine zg (i := 18) (N := some 30) (v := undef) (a' := ?_) #[ko,ko,ko,ko,ko,ko,ko,ko,ko,ko,ko,ko,ko,ko,ko,ko,ko,ko,ko,kx,kx,kx,kx,kx,kx,kx] rfl rfl (za HT_.1 (by kernel_rfl)) (fun _ _ _ h => h) (kg ⟨by rfl, rfl⟩) ?_ ?_
        rotate_left
        ·
         simp only [kk, kz, ky, kj, zc, zd]
         rfl
        refine zg (i := 19) (N := some 31) (v := undef) (a' := ?_) #[ko,ko,ko,ko,ko,ko,ko,ko,ko,ko,ko,ko,ko,ko,ko,ko,ko,ko,ko,ko,kx,kx,kx,kx,kx,kx] rfl rfl (za HT_.1 (by kernel_rfl)) (fun _ _ _ h => h) (kg ⟨by rfl, rfl⟩) ?_ ?_
        rotate_left
        ·
         simp only [kk, kz, ky, kj, zc, zd]
         rfl
        refine zg (i := 20) (N := some 32) (v := undef) (a' := ?_) #[ko,ko,ko,ko,ko,ko,ko,ko,ko,ko,ko,ko,ko,ko,ko,ko,ko,ko,ko,ko,ko,kx,kx,kx,kx,kx] rfl rfl (za HT_.1 (by kernel_rfl)) (fun _ _ _ h => h) (kg ⟨by rfl, rfl⟩) ?_ ?_
        rotate_left
        ·
         simp only [kk, kz, ky, kj, zc, zd]
         rfl
        refine zg (i := 21) (N := some 33) (v := undef) (a' := ?_) #[ko,ko,ko,ko,ko,ko,ko,ko,ko,ko,ko,ko,ko,ko,ko,ko,ko,ko,ko,ko,ko,ko,kx,kx,kx,kx] rfl rfl (za HT_.1 (by kernel_rfl)) (fun _ _ _ h => h) (kg ⟨by rfl, rfl⟩) ?_ ?_
        rotate_left
        ·
         simp only [kk, kz, ky, kj, zc, zd]
         rfl
        refine zg (i := 22) (N := some 34) (v := undef) (a' := ?_) #[ko,ko,ko,ko,ko,ko,ko,ko,ko,ko,ko,ko,ko,ko,ko,ko,ko,ko,ko,ko,ko,ko,ko,kx,kx,kx] rfl rfl (za HT_.1 (by kernel_rfl)) (fun _ _ _ h => h) (kg ⟨by rfl, rfl⟩) ?_ ?_
        rotate_left
        ·
         simp only [kk, kz, ky, kj, zc, zd]
         rfl
        refine zg (i := 23) (N := some 35) (v := undef) (a' := ?_) #[ko,ko,ko,ko,ko,ko,ko,ko,ko,ko,ko,ko,ko,ko,ko,ko,ko,ko,ko,ko,ko,ko,ko,ko,kx,kx] rfl rfl (za HT_.1 (by kernel_rfl)) (fun _ _ _ h => h) (kg ⟨by rfl, rfl⟩) ?_ ?_
        rotate_left
        ·
         simp only [kk, kz, ky, kj, zc, zd]
         rfl
        refine zg (i := 24) (N := some 36) (v := undef) (a' := ?_) #[ko,ko,ko,ko,ko,ko,ko,ko,ko,ko,ko,ko,ko,ko,ko,ko,ko,ko,ko,ko,ko,ko,ko,ko,ko,kx] rfl rfl (za HT_.1 (by kernel_rfl)) (fun _ _ _ h => h) (kg ⟨by rfl, rfl⟩) ?_ ?_
        rotate_left
        ·
         simp only [kk, kz, ky, kj, zc, zd]
         rfl
        refine zg (i := 25) (N := some 37) (v := ?_) (a' := ?_) #[ko,ko,ko,ko,ko,ko,ko,ko,ko,ko,ko,ko,ko,ko,ko,ko,ko,ko,ko,ko,ko,ko,ko,ko,ko,ko] rfl rfl (za HT_.1 (by kernel_rfl)) (fun _ _ _ h => h) (kh ⟨by rfl, ?_⟩) ?_ ?_
        rotate_left
        ·
         intro w'
         go_simp
         with_reducible rfl
        rotate_left
        ·
         simp only [kk, kz, ky, kj, zc, zd]
         rfl
        refine done_ (done_of HT_.1 (by kernel_rfl)) ?_
        try go_wp2
        go_ret
        exact ⟨by rfl, by repeat ((with_reducible first | exact HB.1 | apply zb))⟩
      ·
       replace c6 := Bool.eq_false_iff.mpr c6
       subst c6
       have H1 : (some false) = some r := by rw [if_neg (show ¬ (false = true) by decide)] at H; exact H
       clear H
       have H := H1
       clear H1
       obtain rfl := kc H
       have p363 : 0 ≤ (x7_1 : Int) := of_decide_eq_true (by (with_reducible assumption))
       have q363 : x7_1 < (l0.length : Int) := of_decide_eq_true (by (with_reducible assumption))
       obtain ⟨ad363, e363, hx363_0, hx363_1, hx363_2⟩ := at_T39 HR0.1 x7_1 p363 q363
       cases e363
       try replace hx363_0 := (HB.1.cell (World.block_lt_of_cell? w _ hx363_0)).trans hx363_0
       try replace hx363_1 := (HB.1.cell (World.block_lt_of_cell? w _ hx363_1)).trans hx363_1
       try replace hx363_2 := (HB.1.cell (World.block_lt_of_cell? w _ hx363_2)).trans hx363_2
       replace p363 := eq_true p363
       replace q363 := eq_true q363
       try go_wp2_with (((with_reducible refine gate_dst (N := 4) rfl ?_); refine box_event rfl (N := 4) rfl (cs := #[.int .i64 0, .int .i64 0, .int .i64 0]) (t := 39) ?hr ?_; (case hr => go_simp; done); intro gb364 hg w37 hbox hb; have zx := kv hbox; have zy := kv (by rw [hg]; exact (zo HB.1) : w.heap.size ≤ gb364); replace HB := kv (zn HB.1 hb); clear hb hbox hg; have hcz38_0 : w37.cell? ⟨gb364, 0, none⟩ = some (.int .i64 0) := (ze zx.1 0).trans rfl; have hcz38_1 : w37.cell? ⟨gb364, 1, none⟩ = some (.int .i64 0) := (ze zx.1 1).trans rfl; have hcz38_2 : w37.cell? ⟨gb364, 2, none⟩ = some (.int .i64 0) := (ze zx.1 2).trans rfl; have hfz38_0 := zl zx.1 0; have hfz38_1 := zl zx.1 1; have hfz38_2 := zl zx.1 2))
       have n0_ : zr ((((w37.setCell ⟨gb364, 0, none⟩ (.int .i64 ((rd_T39 l0 x7_1).f0.f0))).setCell ⟨gb364, 1, none⟩ (.int .i64 ((rd_T39 l0 x7_1).f0.f1))).setCell ⟨gb364, 2, none⟩ (.int .i64 ((rd_T39 l0 x7_1).f1))).heap[gb364]? = some (.cells #[.int .i64 ((rd_T39 l0 x7_1).f0.f0), .int .i64 ((rd_T39 l0 x7_1).f0.f1), .int .i64 ((rd_T39 l0 x7_1).f1)] 39 (0, 0))) := ⟨by refine zq (cs := #[.int .i64 ((rd_T39 l0 x7_1).f0.f0), .int .i64 ((rd_T39 l0 x7_1).f0.f1), .int .i64 0]) ?_ 2 _ rfl; refine zq (cs := #[.int .i64 ((rd_T39 l0 x7_1).f0.f0), .int .i64 0, .int .i64 0]) ?_ 1 _ rfl; refine zq (cs := #[.int .i64 0, .int .i64 0, .int .i64 0]) ?_ 0 _ rfl; exact zx.1⟩
       have n1_ : zr (Below w.heap.size w (((w37.setCell ⟨gb364, 0, none⟩ (.int .i64 ((rd_T39 l0 x7_1).f0.f0))).setCell ⟨gb364, 1, none⟩ (.int .i64 ((rd_T39 l0 x7_1).f0.f1))).setCell ⟨gb364, 2, none⟩ (.int .i64 ((rd_T39 l0 x7_1).f1)))) := ⟨by repeat ((with_reducible first | exact HB.1 | refine zm ?_ zy.1))⟩
       generalize (((w37.setCell ⟨gb364, 0, none⟩ (.int .i64 ((rd_T39 l0 x7_1).f0.f0))).setCell ⟨gb364, 1, none⟩ (.int .i64 ((rd_T39 l0 x7_1).f0.f1))).setCell ⟨gb364, 2, none⟩ (.int .i64 ((rd_T39 l0 x7_1).f1))) = w39 at n0_ n1_ ⊢
       have zx := n0_
       have HB := n1_
       clear n0_ n1_
       replace zx := kv (zi zx.1)
       replace HB := kv (zf HB.1)
       refine start_ (n := 26) (S := fun w' => w'.cell? ⟨gb364, 0, none⟩ = some (.int .i64 ((rd_T39 l0 x7_1).f0.f0)) ∧ w'.cell? ⟨gb364, 1, none⟩ = some (.int .i64 ((rd_T39 l0 x7_1).f0.f1)) ∧ w'.cell? ⟨gb364, 2, none⟩ = some (.int .i64 ((rd_T39 l0 x7_1).f1))) (ds := []) #[kx,kx,kx,kx,kx,kx,kx,kx,kx,kx,kx,kx,kx,kx,kx,kx,kx,kx,kx,kx,kx,kx,kx,kx,kx,kx] (by kernel_rfl) rfl rfl ⟨(ze zx.1 0).trans rfl, (ze zx.1 1).trans rfl, (ze zx.1 2).trans rfl⟩ (fun hHeld => ?_); refine with_tabW spec_GoodTable.tab4 spec_GoodTable.bits4 (fun HT_ HW_ => ?_)
       generalize w39.drew = w40 at zx HB hHeld ⊢
       refine zg (i := 0) (N := some 12) (v := ?_) (a' := ?_) #[ko,kx,kx,kx,kx,kx,kx,kx,kx,kx,kx,kx,kx,kx,kx,kx,kx,kx,kx,kx,kx,kx,kx,kx,kx,kx] rfl rfl (za HT_.1 (by kernel_rfl)) (fun _ _ _ h => h) (kh ⟨by rfl, ?_⟩) ?_ ?_
       rotate_left
       ·
        intro w'
        go_simp
        with_reducible rfl
       rotate_left
       ·
        simp only [kk, kz, ky, kj, zc, zd]
        rfl
       refine zu (i := 1) (N := some 13) (v := ?_) (a' := ?_) #[ko,ko,kx,kx,kx,kx,kx,kx,kx,kx,kx,kx,kx,kx,kx,kx,kx,kx,kx,kx,kx,kx,kx,kx,kx,kx] rfl rfl (zp HT_.1 HW_.1 (by kernel_rfl)) (fun _ _ _ h => h) (kh ⟨by rfl, ?_⟩) hHeld ?_ ?_
       rotate_left
       ·
        rintro w' ⟨s0, s1, s2⟩
        go_simp
        with_reducible rfl
       rotate_left
       ·
        simp only [kk, kz, ky, kj, zc, zd]
        rfl
       refine one_ (i := 2) (N := some 14) #[ko,ko,ko,kx,kx,kx,kx,kx,kx,kx,kx,kx,kx,kx,kx,kx,kx,kx,kx,kx,kx,kx,kx,kx,kx,kx] rfl rfl (zt HT_.1 (by kernel_rfl)) (by decide) (fun K hK => ?_)
       refine zw Try.func49 (by kernel_rfl) rfl #[.agg #[.int .i64 ((rd_T39 l0 x7_1).f0.f0), .int .i64 ((rd_T39 l0 x7_1).f0.f1)]] (by rfl) rfl rfl (by (try simp only [kf, ke, kb]); rfl) ?_
       with_reducible refine (spec_GoodPrefix.calls ((rd_T39 l0 x7_1).f0.f0) ((rd_T39 l0 x7_1).f0.f1) false _ A5.1).mono ?_
       rintro e w41 ⟨rfl, hb⟩
       refine ⟨_, rfl, ?_⟩
       replace zx := kv (zs zx.1 hb)
       replace HB := kv (zn HB.1 hb)
       refine hK.out _ _ ⟨(ze zx.1 0).trans rfl, (ze zx.1 1).trans rfl, (ze zx.1 2).trans rfl⟩ (fun hHeld => ?_)
       clear hK K
       refine zv (a' := ?_) ?_ ?_
       rotate_left
       ·
        show kk _ (some 14) _ = _
        simp only [kk, kz, ky, kj, zc, zd]
        rfl
       refine zg (i := 3) (N := some 15) (v := ?_) (a' := ?_) #[ko,ko,ko,ko,kx,kx,kx,kx,kx,kx,kx,kx,kx,kx,kx,kx,kx,kx,kx,kx,kx,kx,kx,kx,kx,kx] rfl rfl (za HT_.1 (by kernel_rfl)) (fun _ _ _ h => h) (kh ⟨by rfl, ?_⟩) ?_ ?_
       rotate_left
       ·
        intro w'
        go_simp
        with_reducible rfl
       rotate_left
       ·
        simp only [kk, kz, ky, kj, zc, zd]
        rfl
       refine zg (i := 4) (N := some 16) (v := ?_) (a' := ?_) #[ko,ko,ko,ko,ko,kx,kx,kx,kx,kx,kx,kx,kx,kx,kx,kx,kx,kx,kx,kx,kx,kx,kx,kx,kx,kx] rfl rfl (za HT_.1 (by kernel_rfl)) (fun _ _ _ h => h) (kh ⟨by rfl, ?_⟩) ?_ ?_
       rotate_left
       ·
        intro w'
        go_simp
        with_reducible rfl
       rotate_left
       ·
        simp only [kk, kz, ky, kj, zc, zd]
        rfl
       refine zg (i := 5) (N := some 17) (v := undef) (a' := ?_) #[ko,ko,ko,ko,ko,ko,kx,kx,kx,kx,kx,kx,kx,kx,kx,kx,kx,kx,kx,kx,kx,kx,kx,kx,kx,kx] rfl rfl (za HT_.1 (by kernel_rfl)) (fun _ _ _ h => h) (kg ⟨by rfl, rfl⟩) ?_ ?_
       rotate_left
       ·
        simp only [kk, kz, ky, kj, zc, zd]
        rfl
       refine zg (i := 6) (N := some 18) (v := undef) (a' := ?_) #[ko,ko,ko,ko,ko,ko,ko,kx,kx,kx,kx,kx,kx,kx,kx,kx,kx,kx,kx,kx,kx,kx,kx,kx,kx,kx] rfl rfl (za HT_.1 (by kernel_rfl)) (fun _ _ _ h => h) (kg ⟨by rfl, rfl⟩) ?_ ?_
       rotate_left
       ·
        simp only [kk, kz, ky, kj, zc, zd]
        rfl
       refine zg (i := 7) (N := some 19) (v := undef) (a' := ?_) #[ko,ko,ko,ko,ko,ko,ko,ko,kx,kx,kx,kx,kx,kx,kx,kx,kx,kx,kx,kx,kx,kx,kx,kx,kx,kx] rfl rfl (za HT_.1 (by kernel_rfl)) (fun _ _ _ h => h) (kg ⟨by rfl, rfl⟩) ?_ ?_
       rotate_left
       ·
        simp only [kk, kz, ky, kj, zc, zd]
        rfl
       refine zg (i := 8) (N := some 20) (v := undef) (a' := ?_) #[ko,ko,ko,ko,ko,ko,ko,ko,ko,kx,kx,kx,kx,kx,kx,kx,kx,kx,kx,kx,kx,kx,kx,kx,kx,kx] rfl rfl (za HT_.1 (by kernel_rfl)) (fun _ _ _ h => h) (kg ⟨by rfl, rfl⟩) ?_ ?_
       rotate_left
       ·
        simp only [kk, kz, ky, kj, zc, zd]
        rfl
       refine zg (i := 9) (N := some 21) (v := ?_) (a' := ?_) #[ko,ko,ko,ko,ko,ko,ko,ko,ko,ko,kx,kx,kx,kx,kx,kx,kx,kx,kx,kx,kx,kx,kx,kx,kx,kx] rfl rfl (za HT_.1 (by kernel_rfl)) (fun _ _ _ h => h) (kh ⟨by rfl, ?_⟩) ?_ ?_
       rotate_left
       ·
        intro w'
        go_simp
        with_reducible rfl
       rotate_left
       ·
        simp only [kk, kz, ky, kj, zc, zd]
        rfl
       refine zg (i := 10) (N := some 22) (v := ?_) (a' := ?_) #[ko,ko,ko,ko,ko,ko,ko,ko,ko,ko,ko,kx,kx,kx,kx,kx,kx,kx,kx,kx,kx,kx,kx,kx,kx,kx] rfl rfl (za HT_.1 (by kernel_rfl)) (fun _ _ _ h => h) (kh ⟨by rfl, ?_⟩) ?_ ?_
       rotate_left
       ·
        intro w'
        go_simp
        with_reducible rfl
       rotate_left
       ·
        simp only [kk, kz, ky, kj, zc, zd]
        rfl
       refine zg (i := 11) (N := some 23) (v := undef) (a' := ?_) #[ko,ko,ko,ko,ko,ko,ko,ko,ko,ko,ko,ko,kx,kx,kx,kx,kx,kx,kx,kx,kx,kx,kx,kx,kx,kx] rfl rfl (za HT_.1 (by kernel_rfl)) (fun _ _ _ h => h) (kg ⟨by rfl, rfl⟩) ?_ ?_
       rotate_left
       ·
        simp only [kk, kz, ky, kj, zc, zd]
        rfl
       refine zg (i := 12) (N := some 24) (v := undef) (a' := ?_) #[ko,ko,ko,ko,ko,ko,ko,ko,ko,ko,ko,ko,ko,kx,kx,kx,kx,kx,kx,kx,kx,kx,kx,kx,kx,kx] rfl rfl (za HT_.1 (by kernel_rfl)) (fun _ _ _ h => h) (kg ⟨by rfl, rfl⟩) ?_ ?_
       rotate_left
       ·
        simp only [kk, kz, ky, kj, zc, zd]
        rfl
       refine zg (i := 13) (N := some 25) (v := undef) (a' := ?_) #[ko,ko,ko,ko,ko,ko,ko,ko,ko,ko,ko,ko,ko,ko,kx,kx,kx,kx,kx,kx,kx,kx,kx,kx,kx,kx] rfl rfl (za HT_.1 (by kernel_rfl)) (fun _ _ _ h => h) (kg ⟨by rfl, rfl⟩) ?_ ?_
       rotate_left
       ·
        simp only [kk, kz, ky, kj, zc, zd]
        rfl
       refine zg (i := 14) (N := some 26) (v := undef) (a' := ?_) #[ko,ko,ko,ko,ko,ko,ko,ko,ko,ko,ko,ko,ko,ko,ko,kx,kx,kx,kx,kx,kx,kx,kx,kx,kx,kx] rfl rfl (za HT_.1 (by kernel_rfl)) (fun _ _ _ h => h) (kg ⟨by rfl, rfl⟩) ?_ ?_
       rotate_left
       ·
        simp only [kk, kz, ky, kj, zc, zd]
        rfl
       refine zg (i := 15) (N := some 27) (v := undef) (a' := ?_) #[ko,ko,ko,ko,ko,ko,ko,ko,ko,ko,ko,ko,ko,ko,ko,ko,kx,kx,kx,kx,kx,kx,kx,kx,kx,kx] rfl rfl (za HT_.1 (by kernel_rfl)) (fun _ _ _ h => h) (kg ⟨by rfl, rfl⟩) ?_ ?_
       rotate_left
       ·
        simp only [kk, kz, ky, kj, zc, zd]
        rfl
       refine zg (i := 16) (N := some 28) (v := undef) (a' := ?_) #[ko,ko,ko,ko,ko,ko,ko,ko,ko,ko,ko,ko,ko,ko,ko,ko,ko,kx,kx,kx,kx,kx,kx,kx,kx,kx] rfl rfl (za HT_.1 (by kernel_rfl)) (fun _ _ _ h => h) (kg ⟨by rfl, rfl⟩) ?_ ?_
       rotate_left
       ·
        simp only [kk, kz, ky, kj, zc, zd]
        rfl
       refine zg (i := 17) (N := some 29) (v := undef) (a' := ?_) #[ko,ko,ko,ko,ko,ko,ko,ko,ko,ko,ko,ko,ko,ko,ko,ko,ko,ko,kx,kx,kx,kx,kx,kx,kx,kx] rfl rfl (za HT_.1 (by kernel_rfl)) (fun _ _ _ h => h) (kg ⟨by rfl, rfl⟩) ?_ ?_
       rotate_left
       ·
        simp only [kk, kz, ky, kj, zc, zd]
        rfl
       refine zg (i := 18) (N := some 30) (v := undef) (a' := ?_) #[ko,ko,ko,ko,ko,ko,ko,ko,ko,ko,ko,ko,ko,ko,ko,ko,ko,ko,ko,kx,kx,kx,kx,kx,kx,kx] rfl rfl (za HT_.1 (by kernel_rfl)) (fun _ _ _ h => h) (kg ⟨by rfl, rfl⟩) ?_ ?_
       rotate_left
       ·
        simp only [kk, kz, ky, kj, zc, zd]
        rfl
       refine zg (i := 19) (N := some 31) (v := undef) (a' := ?_) #[ko,ko,ko,ko,ko,ko,ko,ko,ko,ko,ko,ko,ko,ko,ko,ko,ko,ko,ko,ko,kx,kx,kx,kx,kx,kx] rfl rfl (za HT_.1 (by kernel_rfl)) (fun _ _ _ h => h) (kg ⟨by rfl, rfl⟩) ?_ ?_
       rotate_left
       ·
        simp only [kk, kz, ky, kj, zc, zd]
        rfl
       refine zg (i := 20) (N := some 32) (v := undef) (a' := ?_) #[ko,ko,ko,ko,ko,ko,ko,ko,ko,ko,ko,ko,ko,ko,ko,ko,ko,ko,ko,ko,ko,kx,kx,kx,kx,kx] rfl rfl (za HT_.1 (by kernel_rfl)) (fun _ _ _ h => h) (kg ⟨by rfl, rfl⟩) ?_ ?_
       rotate_left
       ·
        simp only [kk, kz, ky, kj, zc, zd]
        rfl
       refine zg (i := 21) (N := some 33) (v := undef) (a' := ?_) #[ko,ko,ko,ko,ko,ko,ko,ko,ko,ko,ko,ko,ko,ko,ko,ko,ko,ko,ko,ko,ko,ko,kx,kx,kx,kx] rfl rfl (za HT_.1 (by kernel_rfl)) (fun _ _ _ h => h) (kg ⟨by rfl, rfl⟩) ?_ ?_
       rotate_left
       ·
        simp only [kk, kz, ky, kj, zc, zd]
        rfl
       refine zg (i := 22) (N := some 34) (v := undef) (a' := ?_) #[ko,ko,ko,ko,ko,ko,ko,ko,ko,ko,ko,ko,ko,ko,ko,ko,ko,ko,ko,ko,ko,ko,ko,kx,kx,kx] rfl rfl (za HT_.1 (by kernel_rfl)) (fun _ _ _ h => h) (kg ⟨by rfl, rfl⟩) ?_ ?_
       rotate_left
       ·
        simp only [kk, kz, ky, kj, zc, zd]
        rfl
       refine zg (i := 23) (N := some 35) (v := undef) (a' := ?_) #[ko,ko,ko,ko,ko,ko,ko,ko,ko,ko,ko,ko,ko,ko,ko,ko,ko,ko,ko,ko,ko,ko,ko,ko,kx,kx] rfl rfl (za HT_.1 (by kernel_rfl)) (fun _ _ _ h => h) (kg ⟨by rfl, rfl⟩) ?_ ?_
       rotate_left
       ·
        simp only [kk, kz, ky, kj, zc, zd]
        rfl
       refine zg (i := 24) (N := some 36) (v := undef) (a' := ?_) #[ko,ko,ko,ko,ko,ko,ko,ko,ko,ko,ko,ko,ko,ko,ko,ko,ko,ko,ko,ko,ko,ko,ko,ko,ko,kx] rfl rfl (za HT_.1 (by kernel_rfl)) (fun _ _ _ h => h) (kg ⟨by rfl, rfl⟩) ?_ ?_
       rotate_left
       ·
        simp only [kk, kz, ky, kj, zc, zd]
        rfl
       refine zg (i := 25) (N := some 37) (v := ?_) (a' := ?_) #[ko,ko,ko,ko,ko,ko,ko,ko,ko,ko,ko,ko,ko,ko,ko,ko,ko,ko,ko,ko,ko,ko,ko,ko,ko,ko] rfl rfl (za HT_.1 (by kernel_rfl)) (fun _ _ _ h => h) (kh ⟨by rfl, ?_⟩) ?_ ?_
       rotate_left
       ·
        intro w'
        go_simp
        with_reducible rfl
       rotate_left
       ·
        simp only [kk, kz, ky, kj, zc, zd]
        rfl
       refine done_ (done_of HT_.1 (by kernel_rfl)) ?_
       try go_wp2
       go_ret
       exact ⟨by rfl, by exact HB.1⟩
     ·
      rw [if_neg c4] at H
      exact absurd H (by simp)
    ·
     rw [if_neg c3] at H
     exact absurd H (by simp)
   ·
    rw [if_neg c2] at H
    have c2b0 : decide (x7_1 < (l0.length : Int)) = false := decide_eq_false c2
    clear c2
    obtain rfl := kc H
    go_wp2
    go_ret
    exact ⟨by rfl, by exact HB.1⟩
end Go.Proofs.Ytakoaogbkajkcaa.PFnTrieSteps
