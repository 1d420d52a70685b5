/- Go functions told by Lean functions, printed by a program. No condition but what each statement says. -/
import Derived.Test.YtakoaogbkajkcaaYFnLongestx9
import Derived.Test.YtakoaogbkajkcaaYFnLongestx16
namespace Go.Proofs.Ytakoaogbkajkcaa.PFnLongest
open Go.RowKit Go.Proofs.YtakoaogbkajkcaaW.PrintWords Go.Proofs.YtakoaogbkajkcaaW.PrintLast Go.Proofs.YtakoaogbkajkcaaW.PrintMore
open List renaming setIfInBounds_toArray → kz, set_cons_zero → ky, set_cons_succ → kj, map_toArray → kh, map_cons → kg, map_nil → kb
open Aside0 renaming mk → kk
open Act renaming put → kv
open Or renaming inl → kf
open Option renaming bind_eq_some_iff → ke
open Option.some renaming injEq → kd
open Bool renaming true → kc, false → ko
set_option maxHeartbeats 8000000
set_option maxRecDepth 100000
open Go.Proofs.YtakoaogbkajkcaaW.PrintLast renaming i64_w → zd, i32_w → ze, any_of → zf, pure_ → zg
open Go.Proofs.YtakoaogbkajkcaaW.PrintWords renaming pw_below_drewN → za, below_drew1 → zb, Aside0 → zk
attribute [local go_sem] max2_int min2_int max_two min_two max_three min_three max_four min_four
set_option linter.unusedVariables false
set_option linter.unusedSimpArgs false
/-! ### impl_LookUp: function 27 -/
mutual
def impl_LookUp.j0 : Nat → List (S86) → Int → Bool → Option (Int × Int × Bool)
 | 0, _, _, _ => none
 | k + 1, x0, x1, x18 => if x18 = true then (some (0, 0, false)) else (impl_LookUp.l0 k x0 x1 0 (-1) 0 0)
def impl_LookUp.l0 : Nat → List (S86) → Int → Int → Int → Int → Int → Option (Int × Int × Bool)
 | 0, _, _, _, _, _, _ => none
 | k + 1, x0, x1, x7, x8, x9, x10 => if 0 ≤ x9 then (if x9 < (x0.length : Int) then (if (rd_T86 x0 x9).f2 = true then (impl_LookUp.j2 k x0 x1 ((rd_T86 x0 x9).f3) x10 x9 x10) else (impl_LookUp.j2 k x0 x1 x7 x8 x9 x10)) else (none)) else (none)
def impl_LookUp.j2 : Nat → List (S86) → Int → Int → Int → Int → Int → Option (Int × Int × Bool)
 | 0, _, _, _, _, _, _ => none
 | k + 1, x0, x1, x7, x8, x9, x10 => if x10 = 32 then (if x8 < 0 then (some (0, 0, false)) else (some (x7, x8, true))) else (if 0 ≤ x9 then (if x9 < (x0.length : Int) then ((impl_bitOf.f x1 x10).bind fun t243 => ((impl_TrieNode_half.f ((rd_T86 x0 x9).f0) ((rd_T86 x0 x9).f1) ((rd_T86 x0 x9).f2) ((rd_T86 x0 x9).f3) t243).bind fun t244 => (if t244 = 0 then (if x8 < 0 then (some (0, 0, false)) else (some (x7, x8, true))) else (impl_LookUp.l0 k x0 x1 x7 x8 t244 (wrap64 (x10 + 1)))))) else (none)) else (none))
end
def impl_LookUp.f (k : Nat) (l0 : List (S86)) (a1 : Int) : Option (Int × Int × Bool) := (impl_GoodTrie.f k l0).bind fun t238 => (if t238 = true then ((impl_isAddr.f a1).bind fun t239 => (impl_LookUp.j0 k l0 a1 (!t239))) else (impl_LookUp.j0 k l0 a1 true))
def impl_LookUp.T10 : Bool × List (List Nat × List Nat) := (true, [([], []), ([], []), ([0, 1], [0, 1]), ([2], [2]), ([], []), ([], []), ([4, 5], [4, 5]), ([3, 6, 6], [3, 6]), ([7, 7, 0, 1, 2, 3, 4, 5, 6, 7], [1, 7])])
def impl_LookUp.B10 : List Nat := [0, 0, 3, 7, 0, 0, 48, 127, 255]
theorem impl_LookUp.tab10 : rtab .any (opsOf Try.f27 10) = impl_LookUp.T10 := by kernel_rfl
theorem impl_LookUp.bits10 : waitsOk impl_LookUp.T10.2 impl_LookUp.B10 = true := by kernel_rfl
theorem impl_LookUp.calls (k : Nat) (A0 : Option Addr) (c0 : Nat) (l0 : List (S86)) (a1 : Int) (r1 : Int) (r2 : Int) (r3 : Bool) (w : World) (hr0 : Kd.C k86 w A0 l0.length l0) (hc0 : l0.length ≤ c0) (h : impl_LookUp.f k l0 a1 = some (r1, r2, r3)) :
  Calls Try.prog 27 #[.slice A0 l0.length c0, .int .i64 a1] w fun e w' => e = .returned (.tuple #[.int .i64 r1, .int .i64 r2, .bool r3]) ∧ Below w.heap.size w w' := by
 have hu86 := Try.underlying86
 have HR0 := kk hr0
 have HC0 := kk hc0
 clear hr0 hc0
 have HB := kk (Below.refl w.heap.size w)
 have H : ((impl_GoodTrie.f k l0).bind fun t238 => (if t238 = true then ((impl_isAddr.f a1).bind fun t239 => (impl_LookUp.j0 k l0 a1 (!t239))) else (impl_LookUp.j0 k l0 a1 true))) = some (r1, r2, r3) := h
 clear h
 have HC3 := kk H
 clear H
 go_enter Try.func27, Try.ntmps27
 go_upto_region 1 with (fail)
 go_cut [18] (fun v18 wc => ∃ (kq : Nat) (x18_2 : Bool), v18 = .bool x18_2 ∧ zk (impl_LookUp.j0 kq l0 a1 x18_2 = some (r1, r2, r3)) ∧ zk (kq ≤ k) ∧ zk (Below w.heap.size w wc))
 case first =>
  have H := HC3.1
  clear HC3
  replace H := ke.mp H
  obtain ⟨t238, A40, H⟩ := H
  replace H : (if t238 = true then ((impl_isAddr.f a1).bind fun t239 => (impl_LookUp.j0 k l0 a1 (!t239))) else (impl_LookUp.j0 k l0 a1 true)) = some (r1, r2, r3) := H
  have A4 := kk A40
  clear A40
  by_cases c5 : t238 = true
  ·
   subst c5
   have H1 : ((impl_isAddr.f a1).bind fun t239 => (impl_LookUp.j0 k l0 a1 (!t239))) = some (r1, r2, r3) := by rw [if_pos rfl] at H; exact H
   clear H
   have H := H1
   clear H1
   replace H := ke.mp H
   obtain ⟨t239, A60, H⟩ := H
   replace H : (impl_LookUp.j0 k l0 a1 (!t239)) = some (r1, r2, r3) := H
   have A6 := kk A60
   clear A60
   have H' := kk H
   clear H
   go_wp2_with (first | ((with_reducible refine gate_callee (f := 21) rfl ?_); refine goesL_ (some 12) rfl rfl Try.func21 (by kernel_rfl) rfl #[.slice A0 l0.length c0] rfl (by (try simp only [kh, kg, kb]); rfl) ?_; (with_reducible refine (impl_GoodTrie.calls k _ _ l0 true _ ?side1 ?side2 A4.1).mono ?_); (case side1 => repeat (exact (Kd.C_below HR0.1 HB.1))); (case side2 => exact HC0.1); rintro e w7 ⟨rfl, hb⟩; refine ⟨_, rfl, ?_⟩; replace HB := kk (below_step HB.1 hb)) | (go_at_call 65; (with_reducible refine (impl_isAddr.calls a1 t239 _ A6.1).mono ?_); rintro e w' ⟨rfl, ⟨nd, rfl⟩⟩))
   go_meet
   case rel => exact ⟨_, (!t239), (by rfl), H', ⟨by omega⟩, ⟨by repeat ((with_reducible first | exact HB.1 | apply za))⟩⟩
  ·
   replace c5 := Bool.eq_false_iff.mpr c5
   subst c5
   have H1 : (impl_LookUp.j0 k l0 a1 true) = some (r1, r2, r3) := by rw [if_neg (show ¬ (false = true) by decide)] at H; exact H
   clear H
   have H := H1
   clear H1
   have H' := kk H
   clear H
   go_wp2_with (((with_reducible refine gate_callee (f := 21) rfl ?_); refine goesL_ (some 12) rfl rfl Try.func21 (by kernel_rfl) rfl #[.slice A0 l0.length c0] rfl (by (try simp only [kh, kg, kb]); rfl) ?_; (with_reducible refine (impl_GoodTrie.calls k _ _ l0 false _ ?side1 ?side2 A4.1).mono ?_); (case side1 => repeat (exact (Kd.C_below HR0.1 HB.1))); (case side2 => exact HC0.1); rintro e w8 ⟨rfl, hb⟩; refine ⟨_, rfl, ?_⟩; replace HB := kk (below_step HB.1 hb)))
   go_meet
   case rel => exact ⟨_, (true), (by rfl), H', ⟨by omega⟩, ⟨by exact HB.1⟩⟩
 case rest =>
  clear HC3
  obtain ⟨kq, x18_2, rfl, HA, HJ2, HB⟩ := hcut
  cases kq with
  | zero => exact absurd HA.1 (by simp [impl_LookUp.j0])
  | succ kj2 =>
   have H := HA.1
   clear HA
   simp only [impl_LookUp.j0] at H
   by_cases c9 : x18_2 = true
   ·
    subst c9
    have H1 : (some (0, 0, false)) = some (r1, r2, r3) := by rw [if_pos rfl] at H; exact H
    clear H
    have H := H1
    clear H1
    simp only [kd, Prod.mk.injEq] at H
    obtain ⟨rfl, rfl, rfl⟩ := H
    go_wp2
    go_ret3
    exact ⟨by rfl, by exact HB.1⟩
   ·
    replace c9 := Bool.eq_false_iff.mpr c9
    subst c9
    have H1 : (impl_LookUp.l0 kj2 l0 a1 0 (-1) 0 0) = some (r1, r2, r3) := by rw [if_neg (show ¬ (false = true) by decide)] at H; exact H
    clear H
    have H := H1
    clear H1
    have H' := kk H
    clear H
    go_wp2
    go_loopg [7, 8, 9, 10] kj2 (fun kq v7 v8 v9 v10 w' => ∃ (x7_2 : Int) (x8_2 : Int) (x9_2 : Int) (zl : Int), v7 = .int .i64 x7_2 ∧ v8 = .int .i64 x8_2 ∧ v9 = .int .i64 x9_2 ∧ v10 = .int .i64 zl ∧ zk (impl_LookUp.l0 kq l0 a1 x7_2 x8_2 x9_2 zl = some (r1, r2, r3)) ∧ zk (kq ≤ kj2) ∧ zk (Below w.heap.size w w'))
    case atStart => exact ⟨(0), ((-1)), (0), (0), (by rfl), (by rfl), (by rfl), (by rfl), H', ⟨Nat.le_refl _⟩, ⟨by exact HB.1⟩⟩
    case round =>
     clear H'
     obtain ⟨x7_2, x8_2, x9_2, zl, rfl, rfl, rfl, rfl, HA, HK2, HB⟩ := hrel
     cases gk with
     | zero => exact absurd HA.1 (by simp [impl_LookUp.l0])
     | succ k2 =>
      have H := HA.1
      clear HA
      simp only [impl_LookUp.l0] at H
      by_cases c10 : 0 ≤ x9_2
      ·
       rw [if_pos c10] at H
       have c10b0 : decide (0 ≤ x9_2) = true := decide_eq_true c10
       clear c10
       by_cases c11 : x9_2 < (l0.length : Int)
       ·
        rw [if_pos c11] at H
        have c11b0 : decide (x9_2 < (l0.length : Int)) = true := decide_eq_true c11
        clear c11
        have HC12 := kk H
        clear H
        have p240 : 0 ≤ (x9_2 : Int) := of_decide_eq_true (by (with_reducible assumption))
        have q240 : x9_2 < (l0.length : Int) := of_decide_eq_true (by (with_reducible assumption))
        obtain ⟨ad240, e240, hx240_0, hx240_1, hx240_2, hx240_3⟩ := at_T86 HR0.1 x9_2 p240 q240
        cases e240
        try replace hx240_0 := (HB.1.cell (World.block_lt_of_cell? w _ hx240_0)).trans hx240_0
        try replace hx240_1 := (HB.1.cell (World.block_lt_of_cell? w _ hx240_1)).trans hx240_1
        try replace hx240_2 := (HB.1.cell (World.block_lt_of_cell? w _ hx240_2)).trans hx240_2
        try replace hx240_3 := (HB.1.cell (World.block_lt_of_cell? w _ hx240_3)).trans hx240_3
        replace p240 := eq_true p240
        replace q240 := eq_true q240
        go_upto_if 25 with (fail)
        go_cut [7, 8] (fun v7 v8 wc => ∃ (kq : Nat) (zn : Int) (zm : Int), v7 = .int .i64 zn ∧ v8 = .int .i64 zm ∧ zk (impl_LookUp.j2 kq l0 a1 zn zm x9_2 zl = some (r1, r2, r3)) ∧ zk (kq ≤ k2) ∧ zk (Below w.heap.size w wc))
        case first =>
         have H := HC12.1
         clear HC12
         obtain ⟨bq13, hbq13⟩ : ∃ b_ : Bool, b_ = ((rd_T86 l0 x9_2).f2) := ⟨_, rfl⟩
         replace H : (if bq13 = true then (impl_LookUp.j2 k2 l0 a1 ((rd_T86 l0 x9_2).f3) zl x9_2 zl) else (impl_LookUp.j2 k2 l0 a1 x7_2 x8_2 x9_2 zl)) = some (r1, r2, r3) := by rw [← hbq13] at H; exact H
         have Nbq13 := kk hbq13
         clear hbq13
         (try rw [← Nbq13.1])
         by_cases c14 : bq13 = true
         ·
          subst c14
          have H1 : (impl_LookUp.j2 k2 l0 a1 ((rd_T86 l0 x9_2).f3) zl x9_2 zl) = some (r1, r2, r3) := by rw [if_pos rfl] at H; exact H
          clear H
          have H := H1
          clear H1
          have H' := kk H
          clear H
          have p241 : 0 ≤ (x9_2 : Int) := of_decide_eq_true (by (with_reducible assumption))
          have q241 : x9_2 < (l0.length : Int) := of_decide_eq_true (by (with_reducible assumption))
          obtain ⟨ad241, e241, hx241_0, hx241_1, hx241_2, hx241_3⟩ := at_T86 HR0.1 x9_2 p241 q241
          (try rw [← Nbq13.1] at hx241_2)
          obtain rfl : ad240 = ad241 := (by injection e241)
          try replace hx241_0 := (HB.1.cell (World.block_lt_of_cell? w _ hx241_0)).trans hx241_0
          try replace hx241_1 := (HB.1.cell (World.block_lt_of_cell? w _ hx241_1)).trans hx241_1
          try replace hx241_2 := (HB.1.cell (World.block_lt_of_cell? w _ hx241_2)).trans hx241_2
          try replace hx241_3 := (HB.1.cell (World.block_lt_of_cell? w _ hx241_3)).trans hx241_3
          replace p241 := eq_true p241
          replace q241 := eq_true q241
          go_wp2
          go_meet
          case rel => (try rw [← Nbq13.1]); exact ⟨_, ((rd_T86 l0 x9_2).f3), (zl), (by rfl), (by rfl), H', ⟨by have := HJ2.1; have := HK2.1; omega⟩, ⟨by exact HB.1⟩⟩
         ·
          replace c14 := Bool.eq_false_iff.mpr c14
          subst c14
          have H1 : (impl_LookUp.j2 k2 l0 a1 x7_2 x8_2 x9_2 zl) = some (r1, r2, r3) := by rw [if_neg (show ¬ (false = true) by decide)] at H; exact H
          clear H
          have H := H1
          clear H1
          have H' := kk H
          clear H
          go_wp2
          go_meet
          case rel => (try rw [← Nbq13.1]); exact ⟨_, (x7_2), (x8_2), (by rfl), (by rfl), H', ⟨by have := HJ2.1; have := HK2.1; omega⟩, ⟨by exact HB.1⟩⟩
        case rest =>
         clear HC12
         obtain ⟨kq, zn, zm, rfl, rfl, HA, HJ11, HB⟩ := hcut
         cases kq with
         | zero => exact absurd HA.1 (by simp [impl_LookUp.j2])
         | succ kj11 =>
          have H := HA.1
          clear HA
          simp only [impl_LookUp.j2] at H
          by_cases c15 : zl = 32
          ·
           rw [if_pos c15] at H
           have c15b0 : (zl == 32) = true := beq_iff_eq.mpr c15
           have c15b1 : (zl != 32) = false := bne_eq_false_iff_eq.mpr c15
           clear c15
           by_cases c16 : zm < 0
           ·
            rw [if_pos c16] at H
            have c16b0 : decide (zm < 0) = true := decide_eq_true c16
            clear c16
            simp only [kd, Prod.mk.injEq] at H
            obtain ⟨rfl, rfl, rfl⟩ := H
            go_wp2
            go_ret3
            exact ⟨by rfl, by exact HB.1⟩
           ·
            rw [if_neg c16] at H
            have c16b0 : decide (zm < 0) = false := decide_eq_false c16
            clear c16
            simp only [kd, Prod.mk.injEq] at H
            obtain ⟨rfl, rfl, rfl⟩ := H
            go_wp2
            go_ret3
            exact ⟨by rfl, by exact HB.1⟩
          ·
           rw [if_neg c15] at H
           have c15b0 : (zl == 32) = false := beq_eq_false_iff_ne.mpr c15
           have c15b1 : (zl != 32) = true := bne_iff_ne.mpr c15
           by_cases c17 : 0 ≤ x9_2
           ·
            rw [if_pos c17] at H
            have c17b0 : decide (0 ≤ x9_2) = true := decide_eq_true c17
            clear c17
            by_cases c18 : x9_2 < (l0.length : Int)
            ·
             rw [if_pos c18] at H
             have c18b0 : decide (x9_2 < (l0.length : Int)) = true := decide_eq_true c18
             clear c18
             replace H := ke.mp H
             obtain ⟨t243, A190, H⟩ := H
             replace H : ((impl_TrieNode_half.f ((rd_T86 l0 x9_2).f0) ((rd_T86 l0 x9_2).f1) ((rd_T86 l0 x9_2).f2) ((rd_T86 l0 x9_2).f3) t243).bind fun t244 => (if t244 = 0 then (if zm < 0 then (some (0, 0, false)) else (some (zn, zm, true))) else (impl_LookUp.l0 kj11 l0 a1 zn zm t244 (wrap64 (zl + 1))))) = some (r1, r2, r3) := H
             have A19 := kk A190
             clear A190
             replace H := ke.mp H
             obtain ⟨t244, A200, H⟩ := H
             replace H : (if t244 = 0 then (if zm < 0 then (some (0, 0, false)) else (some (zn, zm, true))) else (impl_LookUp.l0 kj11 l0 a1 zn zm t244 (wrap64 (zl + 1)))) = some (r1, r2, r3) := H
             have A20 := kk A200
             clear A200
             by_cases c21 : t244 = 0
             ·
              rw [if_pos c21] at H
              have c21b0 : (t244 == 0) = true := beq_iff_eq.mpr c21
              have c21b1 : (t244 != 0) = false := bne_eq_false_iff_eq.mpr c21
              clear c21
              by_cases c22 : zm < 0
              ·
               rw [if_pos c22] at H
               have c22b0 : decide (zm < 0) = true := decide_eq_true c22
               clear c22
               simp only [kd, Prod.mk.injEq] at H
               obtain ⟨rfl, rfl, rfl⟩ := H
               try go_wp2
               replace HB := kk (zb HB.1)
               have p242 : 0 ≤ (x9_2 : Int) := of_decide_eq_true (by (with_reducible assumption))
               have q242 : x9_2 < (l0.length : Int) := of_decide_eq_true (by (with_reducible assumption))
               obtain ⟨ad242, e242, hx242_0, hx242_1, hx242_2, hx242_3⟩ := at_T86 HR0.1 x9_2 p242 q242
               have hw242_3 := hx242_3
               have hw242_2 := hx242_2
               have hw242_1 := hx242_1
               have hw242_0 := hx242_0
               obtain rfl : ad240 = ad242 := (by injection e242)
               try replace hx242_0 := (HB.1.cell (World.block_lt_of_cell? w _ hx242_0)).trans hx242_0
               try replace hx242_1 := (HB.1.cell (World.block_lt_of_cell? w _ hx242_1)).trans hx242_1
               try replace hx242_2 := (HB.1.cell (World.block_lt_of_cell? w _ hx242_2)).trans hx242_2
               try replace hx242_3 := (HB.1.cell (World.block_lt_of_cell? w _ hx242_3)).trans hx242_3
               replace p242 := eq_true p242
               replace q242 := eq_true q242
               refine start_ (n := 9) (S := fun w' => w'.cell? (ad240.add ((x9_2).toNat * 4)) = some (.int .i64 ((rd_T86 l0 x9_2).f0)) ∧ w'.cell? ⟨(ad240.add ((x9_2).toNat * 4)).block, (ad240.add ((x9_2).toNat * 4)).off + 1, none⟩ = some (.int .i64 ((rd_T86 l0 x9_2).f1)) ∧ w'.cell? ⟨(ad240.add ((x9_2).toNat * 4)).block, (ad240.add ((x9_2).toNat * 4)).off + 2, none⟩ = some (.bool ((rd_T86 l0 x9_2).f2)) ∧ w'.cell? ⟨(ad240.add ((x9_2).toNat * 4)).block, (ad240.add ((x9_2).toNat * 4)).off + 3, none⟩ = some (.int .i64 ((rd_T86 l0 x9_2).f3))) (ds := []) #[ko,ko,ko,ko,ko,ko,ko,ko,ko] (by kernel_rfl) rfl rfl ⟨((HB.1.cell (World.block_lt_of_cell? w _ hw242_0)).trans hw242_0), ((HB.1.cell (World.block_lt_of_cell? w _ hw242_1)).trans hw242_1), ((HB.1.cell (World.block_lt_of_cell? w _ hw242_2)).trans hw242_2), ((HB.1.cell (World.block_lt_of_cell? w _ hw242_3)).trans hw242_3)⟩ (fun hHeld => ?_); refine with_tabW impl_LookUp.tab10 impl_LookUp.bits10 (fun HT_ HW_ => ?_)
               generalize wc.drew = w23 at HB hx242_0 hx242_1 hx242_2 hx242_3 hHeld ⊢
               refine zg (i := 0) (N := some 34) (v := ?_) (a' := ?_) #[kc,ko,ko,ko,ko,ko,ko,ko,ko] rfl rfl (zf HT_.1 (by kernel_rfl)) (fun _ _ _ h => h) (kf ⟨by rfl, ?_⟩) ?_ ?_
               rotate_left
               ·
                intro w'
                go_simp
                with_reducible rfl
               rotate_left
               ·
                simp only [kv, kz, ky, kj, zd, ze]
                rfl
               refine zg (i := 1) (N := some 35) (v := ?_) (a' := ?_) #[kc,kc,ko,ko,ko,ko,ko,ko,ko] rfl rfl (zf HT_.1 (by kernel_rfl)) (fun _ _ _ h => h) (kf ⟨by rfl, ?_⟩) ?_ ?_
               rotate_left
               ·
                intro w'
                go_simp
                with_reducible rfl
               rotate_left
               ·
                simp only [kv, kz, ky, kj, zd, ze]
                rfl
               refine zg (i := 2) (N := some 36) (v := ?_) (a' := ?_) #[kc,kc,kc,ko,ko,ko,ko,ko,ko] rfl rfl (zf HT_.1 (by kernel_rfl)) (fun _ _ _ h => h) (kf ⟨by rfl, ?_⟩) ?_ ?_
               rotate_left
               ·
                intro w'
                go_simp
                with_reducible rfl
               rotate_left
               ·
                simp only [kv, kz, ky, kj, zd, ze]
                rfl
               refine zg (i := 4) (N := some 38) (v := ?_) (a' := ?_) #[kc,kc,kc,ko,kc,ko,ko,ko,ko] rfl rfl (zf HT_.1 (by kernel_rfl)) (fun _ _ _ h => h) (kf ⟨by rfl, ?_⟩) ?_ ?_
               rotate_left
               ·
                intro w'
                go_simp
                with_reducible rfl
               rotate_left
               ·
                simp only [kv, kz, ky, kj, zd, ze]
                rfl
               refine zg (i := 5) (N := some 39) (v := ?_) (a' := ?_) #[kc,kc,kc,ko,kc,kc,ko,ko,ko] rfl rfl (zf HT_.1 (by kernel_rfl)) (fun _ _ _ h => h) (kf ⟨by rfl, ?_⟩) ?_ ?_
               rotate_left
               ·
                intro w'
                go_simp
                with_reducible rfl
               rotate_left
               ·
                simp only [kv, kz, ky, kj, zd, ze]
                rfl
               refine take_ (i := 3) (N := some 37) (v := ?_) (a' := ?_) #[kc,kc,kc,kc,kc,kc,ko,ko,ko] rfl rfl (take_ofW HT_.1 HW_.1 (by kernel_rfl)) (fun _ _ _ h => h) (kf ⟨by rfl, ?_⟩) hHeld ?_ ?_
               rotate_left
               ·
                rintro w' ⟨s0, s1, s2, s3⟩
                go_simp
                with_reducible rfl
               rotate_left
               ·
                simp only [kv, kz, ky, kj, zd, ze]
                rfl
               refine one_ (i := 6) (N := some 40) #[kc,kc,kc,kc,kc,kc,kc,ko,ko] rfl rfl (one_of HT_.1 (by kernel_rfl)) (by decide) (fun K hK => ?_)
               refine goes_ Try.func71 (by kernel_rfl) rfl #[.int .i64 a1, .int .i64 zl] (by rfl) rfl rfl (by (try simp only [kh, kg, kb]); rfl) ?_
               with_reducible refine (impl_bitOf.calls a1 zl t243 _ A19.1).mono ?_
               rintro e w' ⟨rfl, ⟨nd, rfl⟩⟩
               refine ⟨_, rfl, ?_⟩
               refine hK.out _ _ ⟨((HB.1.cell (World.block_lt_of_cell? w _ hw242_0)).trans hw242_0), ((HB.1.cell (World.block_lt_of_cell? w _ hw242_1)).trans hw242_1), ((HB.1.cell (World.block_lt_of_cell? w _ hw242_2)).trans hw242_2), ((HB.1.cell (World.block_lt_of_cell? w _ hw242_3)).trans hw242_3)⟩ (fun hHeld => ?_)
               clear hK K
               refine norm_ (a' := ?_) ?_ ?_
               rotate_left
               ·
                show kv _ (some 40) _ = _
                simp only [kv, kz, ky, kj, zd, ze]
                rfl
               refine one_ (i := 7) (N := some 41) #[kc,kc,kc,kc,kc,kc,kc,kc,ko] rfl rfl (one_of HT_.1 (by kernel_rfl)) (by decide) (fun K hK => ?_)
               refine goes_ Try.func70 (by kernel_rfl) rfl #[.agg #[.int .i64 ((rd_T86 l0 x9_2).f0), .int .i64 ((rd_T86 l0 x9_2).f1), .bool ((rd_T86 l0 x9_2).f2), .int .i64 ((rd_T86 l0 x9_2).f3)], .int .i64 t243] (by rfl) rfl rfl (by (try simp only [kh, kg, kb]); rfl) ?_
               with_reducible refine (impl_TrieNode_half.calls ((rd_T86 l0 x9_2).f0) ((rd_T86 l0 x9_2).f1) ((rd_T86 l0 x9_2).f2) ((rd_T86 l0 x9_2).f3) t243 t244 _ A20.1).mono ?_
               rintro e w24 ⟨rfl, hb⟩
               refine ⟨_, rfl, ?_⟩
               replace HB := kk (below_step (by repeat ((with_reducible first | exact HB.1 | apply za))) hb)
               refine hK.out _ _ ⟨((HB.1.cell (World.block_lt_of_cell? w _ hw242_0)).trans hw242_0), ((HB.1.cell (World.block_lt_of_cell? w _ hw242_1)).trans hw242_1), ((HB.1.cell (World.block_lt_of_cell? w _ hw242_2)).trans hw242_2), ((HB.1.cell (World.block_lt_of_cell? w _ hw242_3)).trans hw242_3)⟩ (fun hHeld => ?_)
               clear hK K
               refine norm_ (a' := ?_) ?_ ?_
               rotate_left
               ·
                show kv _ (some 41) _ = _
                simp only [kv, kz, ky, kj, zd, ze]
                rfl
               refine zg (i := 8) (N := some 9) (v := ?_) (a' := ?_) #[kc,kc,kc,kc,kc,kc,kc,kc,kc] rfl rfl (zf HT_.1 (by kernel_rfl)) (fun _ _ _ h => h) (kf ⟨by rfl, ?_⟩) ?_ ?_
               rotate_left
               ·
                intro w'
                go_simp
                with_reducible rfl
               rotate_left
               ·
                simp only [kv, kz, ky, kj, zd, ze]
                rfl
               refine done_ (done_of HT_.1 (by kernel_rfl)) ?_
               try go_wp2
               go_ret3
               exact ⟨by rfl, by exact HB.1⟩
              ·
               rw [if_neg c22] at H
               have c22b0 : decide (zm < 0) = false := decide_eq_false c22
               clear c22
               simp only [kd, Prod.mk.injEq] at H
               obtain ⟨rfl, rfl, rfl⟩ := H
               try go_wp2
               replace HB := kk (zb HB.1)
               have p242 : 0 ≤ (x9_2 : Int) := of_decide_eq_true (by (with_reducible assumption))
               have q242 : x9_2 < (l0.length : Int) := of_decide_eq_true (by (with_reducible assumption))
               obtain ⟨ad242, e242, hx242_0, hx242_1, hx242_2, hx242_3⟩ := at_T86 HR0.1 x9_2 p242 q242
               have hw242_3 := hx242_3
               have hw242_2 := hx242_2
               have hw242_1 := hx242_1
               have hw242_0 := hx242_0
               obtain rfl : ad240 = ad242 := (by injection e242)
               try replace hx242_0 := (HB.1.cell (World.block_lt_of_cell? w _ hx242_0)).trans hx242_0
               try replace hx242_1 := (HB.1.cell (World.block_lt_of_cell? w _ hx242_1)).trans hx242_1
               try replace hx242_2 := (HB.1.cell (World.block_lt_of_cell? w _ hx242_2)).trans hx242_2
               try replace hx242_3 := (HB.1.cell (World.block_lt_of_cell? w _ hx242_3)).trans hx242_3
               replace p242 := eq_true p242
               replace q242 := eq_true q242
               refine start_ (n := 9) (S := fun w' => w'.cell? (ad240.add ((x9_2).toNat * 4)) = some (.int .i64 ((rd_T86 l0 x9_2).f0)) ∧ w'.cell? ⟨(ad240.add ((x9_2).toNat * 4)).block, (ad240.add ((x9_2).toNat * 4)).off + 1, none⟩ = some (.int .i64 ((rd_T86 l0 x9_2).f1)) ∧ w'.cell? ⟨(ad240.add ((x9_2).toNat * 4)).block, (ad240.add ((x9_2).toNat * 4)).off + 2, none⟩ = some (.bool ((rd_T86 l0 x9_2).f2)) ∧ w'.cell? ⟨(ad240.add ((x9_2).toNat * 4)).block, (ad240.add ((x9_2).toNat * 4)).off + 3, none⟩ = some (.int .i64 ((rd_T86 l0 x9_2).f3))) (ds := []) #[ko,ko,ko,ko,ko,ko,ko,ko,ko] (by kernel_rfl) rfl rfl ⟨((HB.1.cell (World.block_lt_of_cell? w _ hw242_0)).trans hw242_0), ((HB.1.cell (World.block_lt_of_cell? w _ hw242_1)).trans hw242_1), ((HB.1.cell (World.block_lt_of_cell? w _ hw242_2)).trans hw242_2), ((HB.1.cell (World.block_lt_of_cell? w _ hw242_3)).trans hw242_3)⟩ (fun hHeld => ?_); refine with_tabW impl_LookUp.tab10 impl_LookUp.bits10 (fun HT_ HW_ => ?_)
               generalize wc.drew = w25 at HB hx242_0 hx242_1 hx242_2 hx242_3 hHeld ⊢
               refine zg (i := 0) (N := some 34) (v := ?_) (a' := ?_) #[kc,ko,ko,ko,ko,ko,ko,ko,ko] rfl rfl (zf HT_.1 (by kernel_rfl)) (fun _ _ _ h => h) (kf ⟨by rfl, ?_⟩) ?_ ?_
               rotate_left
               ·
                intro w'
                go_simp
                with_reducible rfl
               rotate_left
               ·
                simp only [kv, kz, ky, kj, zd, ze]
                rfl
               refine zg (i := 1) (N := some 35) (v := ?_) (a' := ?_) #[kc,kc,ko,ko,ko,ko,ko,ko,ko] rfl rfl (zf HT_.1 (by kernel_rfl)) (fun _ _ _ h => h) (kf ⟨by rfl, ?_⟩) ?_ ?_
               rotate_left
               ·
                intro w'
                go_simp
                with_reducible rfl
               rotate_left
               ·
                simp only [kv, kz, ky, kj, zd, ze]
                rfl
               refine zg (i := 2) (N := some 36) (v := ?_) (a' := ?_) #[kc,kc,kc,ko,ko,ko,ko,ko,ko] rfl rfl (zf HT_.1 (by kernel_rfl)) (fun _ _ _ h => h) (kf ⟨by rfl, ?_⟩) ?_ ?_
               rotate_left
               ·
                intro w'
                go_simp
                with_reducible rfl
               rotate_left
               ·
                simp only [kv, kz, ky, kj, zd, ze]
                rfl
               refine zg (i := 4) (N := some 38) (v := ?_) (a' := ?_) #[kc,kc,kc,ko,kc,ko,ko,ko,ko] rfl rfl (zf HT_.1 (by kernel_rfl)) (fun _ _ _ h => h) (kf ⟨by rfl, ?_⟩) ?_ ?_
               rotate_left
               ·
                intro w'
                go_simp
                with_reducible rfl
               rotate_left
               ·
                simp only [kv, kz, ky, kj, zd, ze]
                rfl
               refine zg (i := 5) (N := some 39) (v := ?_) (a' := ?_) #[kc,kc,kc,ko,kc,kc,ko,ko,ko] rfl rfl (zf HT_.1 (by kernel_rfl)) (fun _ _ _ h => h) (kf ⟨by rfl, ?_⟩) ?_ ?_
               rotate_left
               ·
                intro w'
                go_simp
                with_reducible rfl
               rotate_left
               ·
                simp only [kv, kz, ky, kj, zd, ze]
                rfl
               refine take_ (i := 3) (N := some 37) (v := ?_) (a' := ?_) #[kc,kc,kc,kc,kc,kc,ko,ko,ko] rfl rfl (take_ofW HT_.1 HW_.1 (by kernel_rfl)) (fun _ _ _ h => h) (kf ⟨by rfl, ?_⟩) hHeld ?_ ?_
               rotate_left
               ·
                rintro w' ⟨s0, s1, s2, s3⟩
                go_simp
                with_reducible rfl
               rotate_left
               ·
                simp only [kv, kz, ky, kj, zd, ze]
                rfl
               refine one_ (i := 6) (N := some 40) #[kc,kc,kc,kc,kc,kc,kc,ko,ko] rfl rfl (one_of HT_.1 (by kernel_rfl)) (by decide) (fun K hK => ?_)
               refine goes_ Try.func71 (by kernel_rfl) rfl #[.int .i64 a1, .int .i64 zl] (by rfl) rfl rfl (by (try simp only [kh, kg, kb]); rfl) ?_
               with_reducible refine (impl_bitOf.calls a1 zl t243 _ A19.1).mono ?_
               rintro e w' ⟨rfl, ⟨nd, rfl⟩⟩
               refine ⟨_, rfl, ?_⟩
               refine hK.out _ _ ⟨((HB.1.cell (World.block_lt_of_cell? w _ hw242_0)).trans hw242_0), ((HB.1.cell (World.block_lt_of_cell? w _ hw242_1)).trans hw242_1), ((HB.1.cell (World.block_lt_of_cell? w _ hw242_2)).trans hw242_2), ((HB.1.cell (World.block_lt_of_cell? w _ hw242_3)).trans hw242_3)⟩ (fun hHeld => ?_)
               clear hK K
               refine norm_ (a' := ?_) ?_ ?_
               rotate_left
               ·
                show kv _ (some 40) _ = _
                simp only [kv, kz, ky, kj, zd, ze]
                rfl
               refine one_ (i := 7) (N := some 41) #[kc,kc,kc,kc,kc,kc,kc,kc,ko] rfl rfl (one_of HT_.1 (by kernel_rfl)) (by decide) (fun K hK => ?_)
               refine goes_ Try.func70 (by kernel_rfl) rfl #[.agg #[.int .i64 ((rd_T86 l0 x9_2).f0), .int .i64 ((rd_T86 l0 x9_2).f1), .bool ((rd_T86 l0 x9_2).f2), .int .i64 ((rd_T86 l0 x9_2).f3)], .int .i64 t243] (by rfl) rfl rfl (by (try simp only [kh, kg, kb]); rfl) ?_
               with_reducible refine (impl_TrieNode_half.calls ((rd_T86 l0 x9_2).f0) ((rd_T86 l0 x9_2).f1) ((rd_T86 l0 x9_2).f2) ((rd_T86 l0 x9_2).f3) t243 t244 _ A20.1).mono ?_
               rintro e w26 ⟨rfl, hb⟩
               refine ⟨_, rfl, ?_⟩
               replace HB := kk (below_step (by repeat ((with_reducible first | exact HB.1 | apply za))) hb)
               refine hK.out _ _ ⟨((HB.1.cell (World.block_lt_of_cell? w _ hw242_0)).trans hw242_0), ((HB.1.cell (World.block_lt_of_cell? w _ hw242_1)).trans hw242_1), ((HB.1.cell (World.block_lt_of_cell? w _ hw242_2)).trans hw242_2), ((HB.1.cell (World.block_lt_of_cell? w _ hw242_3)).trans hw242_3)⟩ (fun hHeld => ?_)
               clear hK K
               refine norm_ (a' := ?_) ?_ ?_
               rotate_left
               ·
                show kv _ (some 41) _ = _
                simp only [kv, kz, ky, kj, zd, ze]
                rfl
               refine zg (i := 8) (N := some 9) (v := ?_) (a' := ?_) #[kc,kc,kc,kc,kc,kc,kc,kc,kc] rfl rfl (zf HT_.1 (by kernel_rfl)) (fun _ _ _ h => h) (kf ⟨by rfl, ?_⟩) ?_ ?_
               rotate_left
               ·
                intro w'
                go_simp
                with_reducible rfl
               rotate_left
               ·
                simp only [kv, kz, ky, kj, zd, ze]
                rfl
               refine done_ (done_of HT_.1 (by kernel_rfl)) ?_
               try go_wp2
               go_ret3
               exact ⟨by rfl, by exact HB.1⟩
             ·
              rw [if_neg c21] at H
              have c21b0 : (t244 == 0) = false := beq_eq_false_iff_ne.mpr c21
              have c21b1 : (t244 != 0) = true := bne_iff_ne.mpr c21
              have H' := kk H
              clear H
              try go_wp2
              replace HB := kk (zb HB.1)
              have p242 : 0 ≤ (x9_2 : Int) := of_decide_eq_true (by (with_reducible assumption))
              have q242 : x9_2 < (l0.length : Int) := of_decide_eq_true (by (with_reducible assumption))
              obtain ⟨ad242, e242, hx242_0, hx242_1, hx242_2, hx242_3⟩ := at_T86 HR0.1 x9_2 p242 q242
              have hw242_3 := hx242_3
              have hw242_2 := hx242_2
              have hw242_1 := hx242_1
              have hw242_0 := hx242_0
              obtain rfl : ad240 = ad242 := (by injection e242)
              try replace hx242_0 := (HB.1.cell (World.block_lt_of_cell? w _ hx242_0)).trans hx242_0
              try replace hx242_1 := (HB.1.cell (World.block_lt_of_cell? w _ hx242_1)).trans hx242_1
              try replace hx242_2 := (HB.1.cell (World.block_lt_of_cell? w _ hx242_2)).trans hx242_2
              try replace hx242_3 := (HB.1.cell (World.block_lt_of_cell? w _ hx242_3)).trans hx242_3
              replace p242 := eq_true p242
              replace q242 := eq_true q242
              refine start_ (n := 9) (S := fun w' => w'.cell? (ad240.add ((x9_2).toNat * 4)) = some (.int .i64 ((rd_T86 l0 x9_2).f0)) ∧ w'.cell? ⟨(ad240.add ((x9_2).toNat * 4)).block, (ad240.add ((x9_2).toNat * 4)).off + 1, none⟩ = some (.int .i64 ((rd_T86 l0 x9_2).f1)) ∧ w'.cell? ⟨(ad240.add ((x9_2).toNat * 4)).block, (ad240.add ((x9_2).toNat * 4)).off + 2, none⟩ = some (.bool ((rd_T86 l0 x9_2).f2)) ∧ w'.cell? ⟨(ad240.add ((x9_2).toNat * 4)).block, (ad240.add ((x9_2).toNat * 4)).off + 3, none⟩ = some (.int .i64 ((rd_T86 l0 x9_2).f3))) (ds := []) #[ko,ko,ko,ko,ko,ko,ko,ko,ko] (by kernel_rfl) rfl rfl ⟨((HB.1.cell (World.block_lt_of_cell? w _ hw242_0)).trans hw242_0), ((HB.1.cell (World.block_lt_of_cell? w _ hw242_1)).trans hw242_1), ((HB.1.cell (World.block_lt_of_cell? w _ hw242_2)).trans hw242_2), ((HB.1.cell (World.block_lt_of_cell? w _ hw242_3)).trans hw242_3)⟩ (fun hHeld => ?_); refine with_tabW impl_LookUp.tab10 impl_LookUp.bits10 (fun HT_ HW_ => ?_)
              generalize wc.drew = w27 at HB hx242_0 hx242_1 hx242_2 hx242_3 hHeld ⊢
              refine zg (i := 0) (N := some 34) (v := ?_) (a' := ?_) #[kc,ko,ko,ko,ko,ko,ko,ko,ko] rfl rfl (zf HT_.1 (by kernel_rfl)) (fun _ _ _ h => h) (kf ⟨by rfl, ?_⟩) ?_ ?_
              rotate_left
              ·
               intro w'
               go_simp
               with_reducible rfl
              rotate_left
              ·
               simp only [kv, kz, ky, kj, zd, ze]
               rfl
              refine zg (i := 1) (N := some 35) (v := ?_) (a' := ?_) #[kc,kc,ko,ko,ko,ko,ko,ko,ko] rfl rfl (zf HT_.1 (by kernel_rfl)) (fun _ _ _ h => h) (kf ⟨by rfl, ?_⟩) ?_ ?_
              rotate_left
              ·
               intro w'
               go_simp
               with_reducible rfl
              rotate_left
              ·
               simp only [kv, kz, ky, kj, zd, ze]
               rfl
              refine zg (i := 2) (N := some 36) (v := ?_) (a' := ?_) #[kc,kc,kc,ko,ko,ko,ko,ko,ko] rfl rfl (zf HT_.1 (by kernel_rfl)) (fun _ _ _ h => h) (kf ⟨by rfl, ?_⟩) ?_ ?_
              rotate_left
              ·
               intro w'
               go_simp
               with_reducible rfl
              rotate_left
              ·
               simp only [kv, kz, ky, kj, zd, ze]
               rfl
              refine zg (i := 4) (N := some 38) (v := ?_) (a' := ?_) #[kc,kc,kc,ko,kc,ko,ko,ko,ko] rfl rfl (zf HT_.1 (by kernel_rfl)) (fun _ _ _ h => h) (kf ⟨by rfl, ?_⟩) ?_ ?_
              rotate_left
              ·
               intro w'
               go_simp
               with_reducible rfl
              rotate_left
              ·
               simp only [kv, kz, ky, kj, zd, ze]
               rfl
              refine zg (i := 5) (N := some 39) (v := ?_) (a' := ?_) #[kc,kc,kc,ko,kc,kc,ko,ko,ko] rfl rfl (zf HT_.1 (by kernel_rfl)) (fun _ _ _ h => h) (kf ⟨by rfl, ?_⟩) ?_ ?_
              rotate_left
              ·
               intro w'
               go_simp
               with_reducible rfl
              rotate_left
              ·
               simp only [kv, kz, ky, kj, zd, ze]
               rfl
              refine take_ (i := 3) (N := some 37) (v := ?_) (a' := ?_) #[kc,kc,kc,kc,kc,kc,ko,ko,ko] rfl rfl (take_ofW HT_.1 HW_.1 (by kernel_rfl)) (fun _ _ _ h => h) (kf ⟨by rfl, ?_⟩) hHeld ?_ ?_
              rotate_left
              ·
               rintro w' ⟨s0, s1, s2, s3⟩
               go_simp
               with_reducible rfl
              rotate_left
              ·
               simp only [kv, kz, ky, kj, zd, ze]
               rfl
              refine one_ (i := 6) (N := some 40) #[kc,kc,kc,kc,kc,kc,kc,ko,ko] rfl rfl (one_of HT_.1 (by kernel_rfl)) (by decide) (fun K hK => ?_)
              refine goes_ Try.func71 (by kernel_rfl) rfl #[.int .i64 a1, .int .i64 zl] (by rfl) rfl rfl (by (try simp only [kh, kg, kb]); rfl) ?_
              with_reducible refine (impl_bitOf.calls a1 zl t243 _ A19.1).mono ?_
              rintro e w' ⟨rfl, ⟨nd, rfl⟩⟩
              refine ⟨_, rfl, ?_⟩
              refine hK.out _ _ ⟨((HB.1.cell (World.block_lt_of_cell? w _ hw242_0)).trans hw242_0), ((HB.1.cell (World.block_lt_of_cell? w _ hw242_1)).trans hw242_1), ((HB.1.cell (World.block_lt_of_cell? w _ hw242_2)).trans hw242_2), ((HB.1.cell (World.block_lt_of_cell? w _ hw242_3)).trans hw242_3)⟩ (fun hHeld => ?_)
              clear hK K
              refine norm_ (a' := ?_) ?_ ?_
              rotate_left
              ·
               show kv _ (some 40) _ = _
               simp only [kv, kz, ky, kj, zd, ze]
               rfl
              refine one_ (i := 7) (N := some 41) #[kc,kc,kc,kc,kc,kc,kc,kc,ko] rfl rfl (one_of HT_.1 (by kernel_rfl)) (by decide) (fun K hK => ?_)
              refine goes_ Try.func70 (by kernel_rfl) rfl #[.agg #[.int .i64 ((rd_T86 l0 x9_2).f0), .int .i64 ((rd_T86 l0 x9_2).f1), .bool ((rd_T86 l0 x9_2).f2), .int .i64 ((rd_T86 l0 x9_2).f3)], .int .i64 t243] (by rfl) rfl rfl (by (try simp only [kh, kg, kb]); rfl) ?_
              with_reducible refine (impl_TrieNode_half.calls ((rd_T86 l0 x9_2).f0) ((rd_T86 l0 x9_2).f1) ((rd_T86 l0 x9_2).f2) ((rd_T86 l0 x9_2).f3) t243 t244 _ A20.1).mono ?_
              rintro e w28 ⟨rfl, hb⟩
              refine ⟨_, rfl, ?_⟩
              replace HB := kk (below_step (by repeat ((with_reducible first | exact HB.1 | apply za))) hb)
              refine hK.out _ _ ⟨((HB.1.cell (World.block_lt_of_cell? w _ hw242_0)).trans hw242_0), ((HB.1.cell (World.block_lt_of_cell? w _ hw242_1)).trans hw242_1), ((HB.1.cell (World.block_lt_of_cell? w _ hw242_2)).trans hw242_2), ((HB.1.cell (World.block_lt_of_cell? w _ hw242_3)).trans hw242_3)⟩ (fun hHeld => ?_)
              clear hK K
              refine norm_ (a' := ?_) ?_ ?_
              rotate_left
              ·
               show kv _ (some 41) _ = _
               simp only [kv, kz, ky, kj, zd, ze]
               rfl
              refine zg (i := 8) (N := some 9) (v := ?_) (a' := ?_) #[kc,kc,kc,kc,kc,kc,kc,kc,kc] rfl rfl (zf HT_.1 (by kernel_rfl)) (fun _ _ _ h => h) (kf ⟨by rfl, ?_⟩) ?_ ?_
              rotate_left
              ·
               intro w'
               go_simp
               with_reducible rfl
              rotate_left
              ·
               simp only [kv, kz, ky, kj, zd, ze]
               rfl
              refine done_ (done_of HT_.1 (by kernel_rfl)) ?_
              try go_wp2
              go_roundg kj11
              case measure => have := HJ2.1; have := HK2.1; have := HJ11.1; omega
              case rel => exact ⟨(zn), (zm), (t244), (wrap64 (zl + 1)), (by rfl), (by rfl), (by rfl), (by rfl), H', ⟨by have := HJ2.1; have := HK2.1; have := HJ11.1; omega⟩, ⟨by exact HB.1⟩⟩
            ·
             rw [if_neg c18] at H
             exact absurd H (by simp)
           ·
            rw [if_neg c17] at H
            exact absurd H (by simp)
       ·
        rw [if_neg c11] at H
        exact absurd H (by simp)
      ·
       rw [if_neg c10] at H
       exact absurd H (by simp)
end Go.Proofs.Ytakoaogbkajkcaa.PFnLongest
