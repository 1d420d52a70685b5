/- Written by this session's own program over the kit's print: Lean functions that tell what Go functions answer, each with a proof that the call does so. No condition but what each statement says. -/
import Derived.Test.YtlnfcobloolnnaaYFnExactUpdateBytesx0
import Derived.Test.YtlnfcobloolnnaaYFnExactUpdateBytesx7
namespace Go.Proofs.Ytlnfcobloolnnaa.PFnExactUpdateBytes
open Go.RowKit Go.Proofs.YtlnfcobloolnnaaW.PrintWords Go.Proofs.YtlnfcobloolnnaaW.PrintLast Go.Proofs.YtlnfcobloolnnaaW.PrintMore
open Go.Proofs.YtlnfcobloolnnaaW.PrintLast renaming i64_w → zl, i32_w → zm, any_of → zt, pure_ → zw, take_ofW → zy, goesL_ → zz, one_of → zA, take_ → zC, norm_ → zD, goes_ → zE
open Go.Proofs.YtlnfcobloolnnaaW.PrintWords renaming blk_cell → za, pw_below_drewN → zb, blk_frozen → zc, below_drew1 → zd, below_alloc → ze, below_step → zf, below_set → zk, blk_drewN → zn, blk_below → zo, blk_alloc → zp, blk_drew → zq, gate_callee → zr, below_size → zs
open Go.Proofs.YtlnfcobloolnnaaW.PrintWords.Kd renaming C_drewN → zg, C_below → zh, C_alloc → zi, C_drew → zj, int → zB
open Go.Proofs.YtlnfcobloolnnaaW.PrintWords.LeO renaming none → zu, bind → zv, ite → zx
attribute [local go_sem] max2_int min2_int max_two min_two max_three min_three max_four min_four   -- for this text's walks alone
set_option linter.unusedVariables false
set_option linter.unusedSimpArgs false

/-! ### spec_l4Numbers: function 124 -/
def spec_l4Numbers.l0 : Nat → Int → ByteArray → List Int → Int → Int → Option (ByteArray)
 | 0, _, _, _, _, _ => none
 | k + 1, x1, x5, x11, x12, x13 => if x13 < x12 then (if 0 ≤ x13 then (if x13 < (x11.length : Int) then ((spec_l4Bytes.f k (rd x11 x13) x1).bind fun t215 => (if x5.size + t215.size ≤ 9223372036854775807 then (spec_l4Numbers.l0 k x1 (x5 ++ t215) x11 x12 (wrap64 (x13 + 1))) else (none))) else (none)) else (none)) else (some x5)
def spec_l4Numbers.f (k : Nat) (l0 : List Int) (a1 : Int) : Option (ByteArray) := (spec_l4Bytes.f k (l0.length : Int) 1).bind fun t213 => (spec_l4Numbers.l0 k a1 t213 l0 (l0.length : Int) 0)
theorem spec_l4Numbers.mono_l : ∀ k, (∀ y0 y1 y2 y3 y4, LeO (spec_l4Numbers.l0 k y0 y1 y2 y3 y4) (spec_l4Numbers.l0 (k + 1) y0 y1 y2 y3 y4))
 | 0 => fun _ _ _ _ _ r h => by simp [spec_l4Numbers.l0] at h
 | k + 1 => by
  have ih0 := spec_l4Numbers.mono_l k
  ·
   intro y0 y1 y2 y3 y4
   unfold spec_l4Numbers.l0
   repeat' first
   | (with_reducible exact ih0 _ _ _ _ _)
   | (with_reducible exact spec_l4Bytes.mono _ _ _)
   | (with_reducible exact LeO.refl _)
   | (with_reducible exact zu _)
   | (with_reducible refine zx ?_ ?_)
   | (with_reducible refine zv ?_ (fun _ => ?_))
   | exact ih0 _ _ _ _ _
   | exact spec_l4Bytes.mono _ _ _
   | exact zu _
   | refine zx ?_ ?_
   | refine zv ?_ (fun _ => ?_)
theorem spec_l4Numbers.mono : ∀ a0 a1 k, LeO (spec_l4Numbers.f k a0 a1) (spec_l4Numbers.f (k + 1) a0 a1) := by
 intro a0 a1 k
 have ih0 := spec_l4Numbers.mono_l k
 unfold spec_l4Numbers.f
 repeat' first
   | (with_reducible exact ih0 _ _ _ _ _)
   | (with_reducible exact spec_l4Bytes.mono _ _ _)
   | (with_reducible exact LeO.refl _)
   | (with_reducible exact zu _)
   | (with_reducible refine zx ?_ ?_)
   | (with_reducible refine zv ?_ (fun _ => ?_))
   | exact ih0 _ _ _ _ _
   | exact spec_l4Bytes.mono _ _ _
   | exact zu _
   | refine zx ?_ ?_
   | refine zv ?_ (fun _ => ?_)
set_option maxHeartbeats 8000000 in
set_option maxRecDepth 100000 in
theorem spec_l4Numbers.calls (k : Nat) (A0 : Option Addr) (c0 : Nat) (l0 : List Int) (a1 : Int) (r : ByteArray) (w : World) (hr0 : Kd.C (zB .i64) w A0 l0.length l0) (hc0 : l0.length ≤ c0) (h : spec_l4Numbers.f k l0 a1 = some r) :
  Calls Try.prog 124 #[.slice A0 l0.length c0, .int .i64 a1] w fun e w' => e = .returned (.string r) ∧ Below w.heap.size w w' := by
 have HR0 := Aside0.mk hr0
 have HC0 := Aside0.mk hc0
 clear hr0 hc0
 have HB := Aside0.mk (Below.refl w.heap.size w)
 have H : ((spec_l4Bytes.f k (l0.length : Int) 1).bind fun t213 => (spec_l4Numbers.l0 k a1 t213 l0 (l0.length : Int) 0)) = some r := h
 clear h
 replace H := Option.bind_eq_some_iff.mp H
 obtain ⟨t213, A30, H⟩ := H
 replace H : (spec_l4Numbers.l0 k a1 t213 l0 (l0.length : Int) 0) = some r := H
 have A3 := Aside0.mk A30
 clear A30
 have H' := Aside0.mk H
 clear H
 go_enter Try.func124, Try.ntmps124
 go_wp2_with (first | ((with_reducible refine zr (f := 102) rfl ?_); refine zz (some 10) rfl rfl Try.func102 (by kernel_rfl) rfl #[.int .i64 (l0.length : Int), .int .i64 1] rfl (by (try simp only [List.map_toArray, List.map_cons, List.map_nil]); first | done | rfl | (simp only [List.length_drop, List.length_take]; rfl)) ?_; (with_reducible refine (spec_l4Bytes.calls k (l0.length : Int) 1 t213 _ A3.1).mono ?_); rintro e w4 ⟨rfl, hb⟩; refine ⟨_, rfl, ?_⟩; have n0_ := Aside0.mk (zf (by repeat (first | (with_reducible first | exact HB.1 | apply ze | apply zb | apply zd) | exact HB.1)) hb); clear HB; have HB := n0_; clear n0_; (try clear hb); (try clear hb2); (try clear hk); (try clear hi)))
 go_loopg [5, 13] k (fun kq v5 v13 w' => ∃ (x5_1 : ByteArray) (zI : Int), v5 = .string x5_1 ∧ v13 = .int .i64 zI ∧ Aside0 (spec_l4Numbers.l0 kq a1 x5_1 l0 (l0.length : Int) zI = some r) ∧ Aside0 (kq ≤ k) ∧ Aside0 (Below w.heap.size w w'))
 case atStart => exact ⟨(t213), (0), (by first | rfl | (simp; done) | (simp [*]; done)), (by first | rfl | (simp; done) | (simp [*]; done)), H', ⟨Nat.le_refl _⟩, ⟨by repeat (first | (with_reducible first | exact HB.1 | apply ze | apply zb | apply zd) | exact HB.1)⟩⟩
 case round =>
  clear H'
  (try clear c1); (try clear p2)
  obtain ⟨x5_1, zI, rfl, rfl, HA, HK1, HB⟩ := hrel
  cases gk with
  | zero => exact absurd HA.1 (by simp [spec_l4Numbers.l0])
  | succ k1 =>
   have H := HA.1
   clear HA
   simp only [spec_l4Numbers.l0] at H
   by_cases c5 : zI < (l0.length : Int)
   ·
    rw [if_pos c5] at H
    have c5b0 : decide (zI < (l0.length : Int)) = true := decide_eq_true c5
    clear c5
    by_cases c6 : 0 ≤ zI
    ·
     rw [if_pos c6] at H
     have c6b0 : decide (0 ≤ zI) = true := decide_eq_true c6
     clear c6
     by_cases c7 : zI < (l0.length : Int)
     ·
      rw [if_pos c7] at H
      have c7b0 : decide (zI < (l0.length : Int)) = true := decide_eq_true c7
      clear c7
      replace H := Option.bind_eq_some_iff.mp H
      obtain ⟨t215, A80, H⟩ := H
      replace H : (if x5_1.size + t215.size ≤ 9223372036854775807 then (spec_l4Numbers.l0 k1 a1 (x5_1 ++ t215) l0 (l0.length : Int) (wrap64 (zI + 1))) else (none)) = some r := H
      have A8 := Aside0.mk A80
      clear A80
      by_cases c9 : x5_1.size + t215.size ≤ 9223372036854775807
      ·
       rw [if_pos c9] at H
       have c9b0 := eq_true c9
       have c9b1 : decide (x5_1.size + t215.size ≤ 9223372036854775807) = true := decide_eq_true c9
       try have c9b2 : (9223372036854775807 < x5_1.size + t215.size) = False := eq_false (Nat.not_lt.2 c9)
       have H' := Aside0.mk H
       clear H
       have p214 : 0 ≤ (zI : Int) := of_decide_eq_true (by first | (with_reducible assumption) | assumption)
       have q214 : zI < (l0.length : Int) := of_decide_eq_true (by first | (with_reducible assumption) | assumption)
       obtain ⟨ad214, e214, hx214_0⟩ := Kd.at_int HR0.1 zI p214 q214
       cases e214
       replace hx214_0 := (HB.1.cell (World.block_lt_of_cell? w _ hx214_0)).trans hx214_0
       replace p214 := eq_true p214
       replace q214 := eq_true q214
       go_wp2_with (first | ((with_reducible refine zr (f := 102) rfl ?_); refine zz (some 20) rfl rfl Try.func102 (by kernel_rfl) rfl #[.int .i64 (rd l0 zI), .int .i64 a1] rfl (by (try simp only [List.map_toArray, List.map_cons, List.map_nil]); first | done | rfl | (simp only [List.length_drop, List.length_take]; rfl)) ?_; (with_reducible refine (spec_l4Bytes.calls k1 (rd l0 zI) a1 t215 _ A8.1).mono ?_); rintro e w10 ⟨rfl, hb⟩; refine ⟨_, rfl, ?_⟩; have n0_ := Aside0.mk (zf (by repeat (first | (with_reducible first | exact HB.1 | apply ze | apply zb | apply zd) | exact HB.1)) hb); clear HB; have HB := n0_; clear n0_; (try clear hb); (try clear hb2); (try clear hk); (try clear hi)))
       go_roundg k1
       case measure => have := HK1.1; omega
       case rel => exact ⟨(x5_1 ++ t215), (wrap64 (zI + 1)), (by first | rfl | (simp; done) | (simp [*]; done)), (by first | rfl | (simp; done) | (simp [*]; done)), H', ⟨by have := HK1.1; omega⟩, ⟨by repeat (first | (with_reducible first | exact HB.1 | apply ze | apply zb | apply zd) | exact HB.1)⟩⟩
      ·
       rw [if_neg c9] at H
       exact absurd H (by simp)
     ·
      rw [if_neg c7] at H
      exact absurd H (by simp)
    ·
     rw [if_neg c6] at H
     exact absurd H (by simp)
   ·
    rw [if_neg c5] at H
    have c5b0 : decide (zI < (l0.length : Int)) = false := decide_eq_false c5
    clear c5
    obtain rfl := Option.some.inj H
    go_wp2
    go_ret
    exact ⟨by first | rfl | (simp [errW_none, errW_some] <;> rfl) | (simp [*, errW_none, errW_some] <;> rfl), by repeat (first | (with_reducible first | exact HB.1 | apply ze | apply zb | apply zd) | exact HB.1)⟩

/-! ### spec_l4Attrs: function 113 -/
def spec_l4Attrs.f (k : Nat) (a0_0 : Int) (l0_1 : List Int) (a0_2 : Int) (a0_3 : Int) (a0_4 : Int) (l0_5 : List Int) : Option (ByteArray) := (spec_l4Bytes.f k a0_0 1).bind fun t217 => ((spec_l4Numbers.f k l0_1 2).bind fun t218 => (if t217.size + t218.size ≤ 9223372036854775807 then ((spec_l4Bytes.f k a0_2 4).bind fun t219 => (if (t217 ++ t218).size + t219.size ≤ 9223372036854775807 then ((spec_l4Bytes.f k a0_3 3).bind fun t220 => (if ((t217 ++ t218) ++ t219).size + t220.size ≤ 9223372036854775807 then ((spec_l4Bytes.f k a0_4 3).bind fun t221 => (if (((t217 ++ t218) ++ t219) ++ t220).size + t221.size ≤ 9223372036854775807 then ((spec_l4Numbers.f k l0_5 3).bind fun t222 => (if ((((t217 ++ t218) ++ t219) ++ t220) ++ t221).size + t222.size ≤ 9223372036854775807 then (some (((((t217 ++ t218) ++ t219) ++ t220) ++ t221) ++ t222)) else (none))) else (none))) else (none))) else (none))) else (none)))
theorem spec_l4Attrs.mono : ∀ a0 a1 a2 a3 a4 a5 k, LeO (spec_l4Attrs.f k a0 a1 a2 a3 a4 a5) (spec_l4Attrs.f (k + 1) a0 a1 a2 a3 a4 a5) := by
 intro a0 a1 a2 a3 a4 a5 k
 unfold spec_l4Attrs.f
 repeat' first
   | (with_reducible exact spec_l4Bytes.mono _ _ _)
   | (with_reducible exact spec_l4Numbers.mono _ _ _)
   | (with_reducible exact LeO.refl _)
   | (with_reducible exact zu _)
   | (with_reducible refine zx ?_ ?_)
   | (with_reducible refine zv ?_ (fun _ => ?_))
   | exact spec_l4Bytes.mono _ _ _
   | exact spec_l4Numbers.mono _ _ _
   | exact zu _
   | refine zx ?_ ?_
   | refine zv ?_ (fun _ => ?_)
def spec_l4Attrs.T1 : Bool × List (List Nat × List Nat) := (true, [([], []), ([0], [0]), ([1], [1]), ([], []), ([3], [3]), ([4, 2], [4]), ([2, 5], [2, 5]), ([], []), ([7], [7]), ([8, 5], [8]), ([6, 9], [6, 9]), ([], []), ([11], [11]), ([12, 9], [12]), ([10, 13], [10, 13]), ([], []), ([15], [15]), ([16, 13], [16]), ([14, 17], [14, 17]), ([], []), ([19], [19]), ([20, 17], [20]), ([18, 21], [18, 21]), ([22, 21, 0, 1, 2, 3, 4, 5, 6, 7, 8, 9, 10, 11, 12, 13, 14, 15, 16, 17, 18, 19, 20, 21, 22], [22])])
def spec_l4Attrs.B1 : List Nat := [0, 1, 3, 0, 8, 31, 63, 0, 128, 447, 1023, 0, 2048, 7103, 16383, 0, 32768, 113599, 262143, 0, 524288, 1817535, 4194303, 8388607]
theorem spec_l4Attrs.tab1 : rtab .any (opsOf Try.f113 1) = spec_l4Attrs.T1 := by kernel_rfl
theorem spec_l4Attrs.bits1 : waitsOk spec_l4Attrs.T1.2 spec_l4Attrs.B1 = true := by kernel_rfl
set_option maxHeartbeats 8000000 in
set_option maxRecDepth 100000 in
theorem spec_l4Attrs.calls (k : Nat) (a0_0 : Int) (A0_1 : Option Addr) (c0_1 : Nat) (l0_1 : List Int) (a0_2 : Int) (a0_3 : Int) (a0_4 : Int) (A0_5 : Option Addr) (c0_5 : Nat) (l0_5 : List Int) (r : ByteArray) (w : World) (hr0_1 : Kd.C (zB .i64) w A0_1 l0_1.length l0_1) (hc0_1 : l0_1.length ≤ c0_1) (hr0_5 : Kd.C (zB .i64) w A0_5 l0_5.length l0_5) (hc0_5 : l0_5.length ≤ c0_5) (h : spec_l4Attrs.f k a0_0 l0_1 a0_2 a0_3 a0_4 l0_5 = some r) :
  Calls Try.prog 113 #[.agg #[.int .i64 a0_0, .slice A0_1 l0_1.length c0_1, .int .i64 a0_2, .int .i64 a0_3, .int .i64 a0_4, .slice A0_5 l0_5.length c0_5]] w fun e w' => e = .returned (.string r) ∧ Below w.heap.size w w' := by
 have hu27 := Try.underlying27
 have HR0_1 := Aside0.mk hr0_1
 have HC0_1 := Aside0.mk hc0_1
 clear hr0_1 hc0_1
 have HR0_5 := Aside0.mk hr0_5
 have HC0_5 := Aside0.mk hc0_5
 clear hr0_5 hc0_5
 have HB := Aside0.mk (Below.refl w.heap.size w)
 have H : ((spec_l4Bytes.f k a0_0 1).bind fun t217 => ((spec_l4Numbers.f k l0_1 2).bind fun t218 => (if t217.size + t218.size ≤ 9223372036854775807 then ((spec_l4Bytes.f k a0_2 4).bind fun t219 => (if (t217 ++ t218).size + t219.size ≤ 9223372036854775807 then ((spec_l4Bytes.f k a0_3 3).bind fun t220 => (if ((t217 ++ t218) ++ t219).size + t220.size ≤ 9223372036854775807 then ((spec_l4Bytes.f k a0_4 3).bind fun t221 => (if (((t217 ++ t218) ++ t219) ++ t220).size + t221.size ≤ 9223372036854775807 then ((spec_l4Numbers.f k l0_5 3).bind fun t222 => (if ((((t217 ++ t218) ++ t219) ++ t220) ++ t221).size + t222.size ≤ 9223372036854775807 then (some (((((t217 ++ t218) ++ t219) ++ t220) ++ t221) ++ t222)) else (none))) else (none))) else (none))) else (none))) else (none)))) = some r := h
 clear h
 replace H := Option.bind_eq_some_iff.mp H
 obtain ⟨t217, A20, H⟩ := H
 replace H : ((spec_l4Numbers.f k l0_1 2).bind fun t218 => (if t217.size + t218.size ≤ 9223372036854775807 then ((spec_l4Bytes.f k a0_2 4).bind fun t219 => (if (t217 ++ t218).size + t219.size ≤ 9223372036854775807 then ((spec_l4Bytes.f k a0_3 3).bind fun t220 => (if ((t217 ++ t218) ++ t219).size + t220.size ≤ 9223372036854775807 then ((spec_l4Bytes.f k a0_4 3).bind fun t221 => (if (((t217 ++ t218) ++ t219) ++ t220).size + t221.size ≤ 9223372036854775807 then ((spec_l4Numbers.f k l0_5 3).bind fun t222 => (if ((((t217 ++ t218) ++ t219) ++ t220) ++ t221).size + t222.size ≤ 9223372036854775807 then (some (((((t217 ++ t218) ++ t219) ++ t220) ++ t221) ++ t222)) else (none))) else (none))) else (none))) else (none))) else (none))) = some r := H
 have A2 := Aside0.mk A20
 clear A20
 replace H := Option.bind_eq_some_iff.mp H
 obtain ⟨t218, A30, H⟩ := H
 replace H : (if t217.size + t218.size ≤ 9223372036854775807 then ((spec_l4Bytes.f k a0_2 4).bind fun t219 => (if (t217 ++ t218).size + t219.size ≤ 9223372036854775807 then ((spec_l4Bytes.f k a0_3 3).bind fun t220 => (if ((t217 ++ t218) ++ t219).size + t220.size ≤ 9223372036854775807 then ((spec_l4Bytes.f k a0_4 3).bind fun t221 => (if (((t217 ++ t218) ++ t219) ++ t220).size + t221.size ≤ 9223372036854775807 then ((spec_l4Numbers.f k l0_5 3).bind fun t222 => (if ((((t217 ++ t218) ++ t219) ++ t220) ++ t221).size + t222.size ≤ 9223372036854775807 then (some (((((t217 ++ t218) ++ t219) ++ t220) ++ t221) ++ t222)) else (none))) else (none))) else (none))) else (none))) else (none)) = some r := H
 have A3 := Aside0.mk A30
 clear A30
 by_cases c4 : t217.size + t218.size ≤ 9223372036854775807
 ·
  rw [if_pos c4] at H
  have c4b0 := eq_true c4
  have c4b1 : decide (t217.size + t218.size ≤ 9223372036854775807) = true := decide_eq_true c4
  try have c4b2 : (9223372036854775807 < t217.size + t218.size) = False := eq_false (Nat.not_lt.2 c4)
  replace H := Option.bind_eq_some_iff.mp H
  obtain ⟨t219, A50, H⟩ := H
  replace H : (if (t217 ++ t218).size + t219.size ≤ 9223372036854775807 then ((spec_l4Bytes.f k a0_3 3).bind fun t220 => (if ((t217 ++ t218) ++ t219).size + t220.size ≤ 9223372036854775807 then ((spec_l4Bytes.f k a0_4 3).bind fun t221 => (if (((t217 ++ t218) ++ t219) ++ t220).size + t221.size ≤ 9223372036854775807 then ((spec_l4Numbers.f k l0_5 3).bind fun t222 => (if ((((t217 ++ t218) ++ t219) ++ t220) ++ t221).size + t222.size ≤ 9223372036854775807 then (some (((((t217 ++ t218) ++ t219) ++ t220) ++ t221) ++ t222)) else (none))) else (none))) else (none))) else (none)) = some r := H
  have A5 := Aside0.mk A50
  clear A50
  by_cases c6 : (t217 ++ t218).size + t219.size ≤ 9223372036854775807
  ·
   rw [if_pos c6] at H
   have c6b0 := eq_true c6
   have c6b1 : decide ((t217 ++ t218).size + t219.size ≤ 9223372036854775807) = true := decide_eq_true c6
   try have c6b2 : (9223372036854775807 < (t217 ++ t218).size + t219.size) = False := eq_false (Nat.not_lt.2 c6)
   try have c6b4 : (9223372036854775807 < t217.size + t218.size + t219.size) = False := eq_false (by have := c6; simp only [ByteArray.size_append] at this; omega)
   replace H := Option.bind_eq_some_iff.mp H
   obtain ⟨t220, A70, H⟩ := H
   replace H : (if ((t217 ++ t218) ++ t219).size + t220.size ≤ 9223372036854775807 then ((spec_l4Bytes.f k a0_4 3).bind fun t221 => (if (((t217 ++ t218) ++ t219) ++ t220).size + t221.size ≤ 9223372036854775807 then ((spec_l4Numbers.f k l0_5 3).bind fun t222 => (if ((((t217 ++ t218) ++ t219) ++ t220) ++ t221).size + t222.size ≤ 9223372036854775807 then (some (((((t217 ++ t218) ++ t219) ++ t220) ++ t221) ++ t222)) else (none))) else (none))) else (none)) = some r := H
   have A7 := Aside0.mk A70
   clear A70
   by_cases c8 : ((t217 ++ t218) ++ t219).size + t220.size ≤ 9223372036854775807
   ·
    rw [if_pos c8] at H
    have c8b0 := eq_true c8
    have c8b1 : decide (((t217 ++ t218) ++ t219).size + t220.size ≤ 9223372036854775807) = true := decide_eq_true c8
    try have c8b2 : (9223372036854775807 < ((t217 ++ t218) ++ t219).size + t220.size) = False := eq_false (Nat.not_lt.2 c8)
    try have c8b4 : (9223372036854775807 < t217.size + t218.size + t219.size + t220.size) = False := eq_false (by have := c8; simp only [ByteArray.size_append] at this; omega)
    replace H := Option.bind_eq_some_iff.mp H
    obtain ⟨t221, A90, H⟩ := H
    replace H : (if (((t217 ++ t218) ++ t219) ++ t220).size + t221.size ≤ 9223372036854775807 then ((spec_l4Numbers.f k l0_5 3).bind fun t222 => (if ((((t217 ++ t218) ++ t219) ++ t220) ++ t221).size + t222.size ≤ 9223372036854775807 then (some (((((t217 ++ t218) ++ t219) ++ t220) ++ t221) ++ t222)) else (none))) else (none)) = some r := H
    have A9 := Aside0.mk A90
    clear A90
    by_cases c10 : (((t217 ++ t218) ++ t219) ++ t220).size + t221.size ≤ 9223372036854775807
    ·
     rw [if_pos c10] at H
     have c10b0 := eq_true c10
     have c10b1 : decide ((((t217 ++ t218) ++ t219) ++ t220).size + t221.size ≤ 9223372036854775807) = true := decide_eq_true c10
     try have c10b2 : (9223372036854775807 < (((t217 ++ t218) ++ t219) ++ t220).size + t221.size) = False := eq_false (Nat.not_lt.2 c10)
     try have c10b4 : (9223372036854775807 < t217.size + t218.size + t219.size + t220.size + t221.size) = False := eq_false (by have := c10; simp only [ByteArray.size_append] at this; omega)
     replace H := Option.bind_eq_some_iff.mp H
     obtain ⟨t222, A110, H⟩ := H
     replace H : (if ((((t217 ++ t218) ++ t219) ++ t220) ++ t221).size + t222.size ≤ 9223372036854775807 then (some (((((t217 ++ t218) ++ t219) ++ t220) ++ t221) ++ t222)) else (none)) = some r := H
     have A11 := Aside0.mk A110
     clear A110
     by_cases c12 : ((((t217 ++ t218) ++ t219) ++ t220) ++ t221).size + t222.size ≤ 9223372036854775807
     ·
      rw [if_pos c12] at H
      have c12b0 := eq_true c12
      have c12b1 : decide (((((t217 ++ t218) ++ t219) ++ t220) ++ t221).size + t222.size ≤ 9223372036854775807) = true := decide_eq_true c12
      try have c12b2 : (9223372036854775807 < ((((t217 ++ t218) ++ t219) ++ t220) ++ t221).size + t222.size) = False := eq_false (Nat.not_lt.2 c12)
      try have c12b4 : (9223372036854775807 < t217.size + t218.size + t219.size + t220.size + t221.size + t222.size) = False := eq_false (by have := c12; simp only [ByteArray.size_append] at this; omega)
      obtain rfl := Option.some.inj H
      go_enter Try.func113, Try.ntmps113
      try go_wp2_with (first | ((with_reducible refine gate_dst (N := 1) rfl ?_); refine box_event ?hg (N := 1) ?hd (cs := #[.int .i64 a0_0, .slice A0_1 l0_1.length c0_1, .int .i64 a0_2, .int .i64 a0_3, .int .i64 a0_4, .slice A0_5 l0_5.length c0_5]) (t := 27) ?hr ?_; (case hd => rfl); (case hg => rfl); (case hr => first | (go_simp; done) | (go_simp; rfl)); intro gb216 hg w13 hbox hb; have n0_ := Aside0.mk (zf (by repeat (first | (with_reducible first | exact HB.1 | apply ze | apply zb | apply zd) | exact HB.1)) hb); have n1_ := Aside0.mk (hbox); have n2_ := Aside0.mk ((by rw [hg]; exact (zs (by repeat (first | (with_reducible first | exact HB.1 | apply ze | apply zb | apply zd) | exact HB.1))) : w.heap.size ≤ gb216)); have n3_ := Aside0.mk ((by rw [hg]; exact (zs (by repeat (first | (with_reducible first | exact HB.1 | apply ze | apply zb | apply zd) | exact HB.1))) : w.heap.size ≤ gb216)); clear HB; have HB := n0_; have zG := n1_; have GW216 := n2_; have zJ := n3_; clear n0_ n1_ n2_ n3_; clear hb hbox hg))
      have n0_ := Aside0.mk (zq zG.1)
      have n1_ := Aside0.mk (zd HB.1)
      clear zG
      clear HB
      have zG := n0_
      have HB := n1_
      clear n0_ n1_
      refine start_ (n := 24) (S := fun w' => w'.cell? ⟨gb216, 0, none⟩ = some (.int .i64 a0_0) ∧ w'.cell? ⟨gb216, 1, none⟩ = some (.slice A0_1 l0_1.length c0_1) ∧ w'.cell? ⟨gb216, 2, none⟩ = some (.int .i64 a0_2) ∧ w'.cell? ⟨gb216, 3, none⟩ = some (.int .i64 a0_3) ∧ w'.cell? ⟨gb216, 4, none⟩ = some (.int .i64 a0_4) ∧ w'.cell? ⟨gb216, 5, none⟩ = some (.slice A0_5 l0_5.length c0_5)) (ds := []) #[false, false, false, false, false, false, false, false, false, false, false, false, false, false, false, false, false, false, false, false, false, false, false, false] (by kernel_rfl) rfl rfl ⟨(za zG.1 0).trans rfl, (za zG.1 1).trans rfl, (za zG.1 2).trans rfl, (za zG.1 3).trans rfl, (za zG.1 4).trans rfl, (za zG.1 5).trans rfl⟩ (fun hHeld => ?_); refine with_tabW spec_l4Attrs.tab1 spec_l4Attrs.bits1 (fun HT_ HW_ => ?_)
      generalize w13.drew = w14 at zG HB hHeld ⊢
      refine zw (i := 0) (N := some 3) (v := ?_) (a' := ?_) #[true, false, false, false, false, false, false, false, false, false, false, false, false, false, false, false, false, false, false, false, false, false, false, false] rfl rfl (zt HT_.1 (by kernel_rfl)) (fun _ _ _ h => h) (Or.inl ⟨by rfl, ?_⟩) ?_ ?_
      rotate_left
      ·
       intro w'
       go_simp
       with_reducible rfl
      rotate_left
      ·
       simp only [Act.put, List.setIfInBounds_toArray, List.set_cons_zero, List.set_cons_succ, zl, zm]
       rfl
      refine zw (i := 3) (N := some 6) (v := ?_) (a' := ?_) #[true, false, false, true, false, false, false, false, false, false, false, false, false, false, false, false, false, false, false, false, false, false, false, false] rfl rfl (zt HT_.1 (by kernel_rfl)) (fun _ _ _ h => h) (Or.inl ⟨by rfl, ?_⟩) ?_ ?_
      rotate_left
      ·
       intro w'
       go_simp
       with_reducible rfl
      rotate_left
      ·
       simp only [Act.put, List.setIfInBounds_toArray, List.set_cons_zero, List.set_cons_succ, zl, zm]
       rfl
      refine zw (i := 7) (N := some 10) (v := ?_) (a' := ?_) #[true, false, false, true, false, false, false, true, false, false, false, false, false, false, false, false, false, false, false, false, false, false, false, false] rfl rfl (zt HT_.1 (by kernel_rfl)) (fun _ _ _ h => h) (Or.inl ⟨by rfl, ?_⟩) ?_ ?_
      rotate_left
      ·
       intro w'
       go_simp
       with_reducible rfl
      rotate_left
      ·
       simp only [Act.put, List.setIfInBounds_toArray, List.set_cons_zero, List.set_cons_succ, zl, zm]
       rfl
      refine zw (i := 11) (N := some 14) (v := ?_) (a' := ?_) #[true, false, false, true, false, false, false, true, false, false, false, true, false, false, false, false, false, false, false, false, false, false, false, false] rfl rfl (zt HT_.1 (by kernel_rfl)) (fun _ _ _ h => h) (Or.inl ⟨by rfl, ?_⟩) ?_ ?_
      rotate_left
      ·
       intro w'
       go_simp
       with_reducible rfl
      rotate_left
      ·
       simp only [Act.put, List.setIfInBounds_toArray, List.set_cons_zero, List.set_cons_succ, zl, zm]
       rfl
      refine zw (i := 15) (N := some 18) (v := ?_) (a' := ?_) #[true, false, false, true, false, false, false, true, false, false, false, true, false, false, false, true, false, false, false, false, false, false, false, false] rfl rfl (zt HT_.1 (by kernel_rfl)) (fun _ _ _ h => h) (Or.inl ⟨by rfl, ?_⟩) ?_ ?_
      rotate_left
      ·
       intro w'
       go_simp
       with_reducible rfl
      rotate_left
      ·
       simp only [Act.put, List.setIfInBounds_toArray, List.set_cons_zero, List.set_cons_succ, zl, zm]
       rfl
      refine zw (i := 19) (N := some 22) (v := ?_) (a' := ?_) #[true, false, false, true, false, false, false, true, false, false, false, true, false, false, false, true, false, false, false, true, false, false, false, false] rfl rfl (zt HT_.1 (by kernel_rfl)) (fun _ _ _ h => h) (Or.inl ⟨by rfl, ?_⟩) ?_ ?_
      rotate_left
      ·
       intro w'
       go_simp
       with_reducible rfl
      rotate_left
      ·
       simp only [Act.put, List.setIfInBounds_toArray, List.set_cons_zero, List.set_cons_succ, zl, zm]
       rfl
      refine zC (i := 1) (N := some 4) (v := ?_) (a' := ?_) #[true, true, false, true, false, false, false, true, false, false, false, true, false, false, false, true, false, false, false, true, false, false, false, false] rfl rfl (zy HT_.1 HW_.1 (by kernel_rfl)) (fun _ _ _ h => h) (Or.inl ⟨by rfl, ?_⟩) hHeld ?_ ?_
      rotate_left
      ·
       rintro w' ⟨s0, s1, s2, s3, s4, s5⟩
       go_simp
       with_reducible rfl
      rotate_left
      ·
       simp only [Act.put, List.setIfInBounds_toArray, List.set_cons_zero, List.set_cons_succ, zl, zm]
       rfl
      refine zC (i := 4) (N := some 7) (v := ?_) (a' := ?_) #[true, true, false, true, true, false, false, true, false, false, false, true, false, false, false, true, false, false, false, true, false, false, false, false] rfl rfl (zy HT_.1 HW_.1 (by kernel_rfl)) (fun _ _ _ h => h) (Or.inl ⟨by rfl, ?_⟩) hHeld ?_ ?_
      rotate_left
      ·
       rintro w' ⟨s0, s1, s2, s3, s4, s5⟩
       go_simp
       with_reducible rfl
      rotate_left
      ·
       simp only [Act.put, List.setIfInBounds_toArray, List.set_cons_zero, List.set_cons_succ, zl, zm]
       rfl
      refine zC (i := 8) (N := some 11) (v := ?_) (a' := ?_) #[true, true, false, true, true, false, false, true, true, false, false, true, false, false, false, true, false, false, false, true, false, false, false, false] rfl rfl (zy HT_.1 HW_.1 (by kernel_rfl)) (fun _ _ _ h => h) (Or.inl ⟨by rfl, ?_⟩) hHeld ?_ ?_
      rotate_left
      ·
       rintro w' ⟨s0, s1, s2, s3, s4, s5⟩
       go_simp
       with_reducible rfl
      rotate_left
      ·
       simp only [Act.put, List.setIfInBounds_toArray, List.set_cons_zero, List.set_cons_succ, zl, zm]
       rfl
      refine zC (i := 12) (N := some 15) (v := ?_) (a' := ?_) #[true, true, false, true, true, false, false, true, true, false, false, true, true, false, false, true, false, false, false, true, false, false, false, false] rfl rfl (zy HT_.1 HW_.1 (by kernel_rfl)) (fun _ _ _ h => h) (Or.inl ⟨by rfl, ?_⟩) hHeld ?_ ?_
      rotate_left
      ·
       rintro w' ⟨s0, s1, s2, s3, s4, s5⟩
       go_simp
       with_reducible rfl
      rotate_left
      ·
       simp only [Act.put, List.setIfInBounds_toArray, List.set_cons_zero, List.set_cons_succ, zl, zm]
       rfl
      refine zC (i := 16) (N := some 19) (v := ?_) (a' := ?_) #[true, true, false, true, true, false, false, true, true, false, false, true, true, false, false, true, true, false, false, true, false, false, false, false] rfl rfl (zy HT_.1 HW_.1 (by kernel_rfl)) (fun _ _ _ h => h) (Or.inl ⟨by rfl, ?_⟩) hHeld ?_ ?_
      rotate_left
      ·
       rintro w' ⟨s0, s1, s2, s3, s4, s5⟩
       go_simp
       with_reducible rfl
      rotate_left
      ·
       simp only [Act.put, List.setIfInBounds_toArray, List.set_cons_zero, List.set_cons_succ, zl, zm]
       rfl
      refine zC (i := 20) (N := some 23) (v := ?_) (a' := ?_) #[true, true, false, true, true, false, false, true, true, false, false, true, true, false, false, true, true, false, false, true, true, false, false, false] rfl rfl (zy HT_.1 HW_.1 (by kernel_rfl)) (fun _ _ _ h => h) (Or.inl ⟨by rfl, ?_⟩) hHeld ?_ ?_
      rotate_left
      ·
       rintro w' ⟨s0, s1, s2, s3, s4, s5⟩
       go_simp
       with_reducible rfl
      rotate_left
      ·
       simp only [Act.put, List.setIfInBounds_toArray, List.set_cons_zero, List.set_cons_succ, zl, zm]
       rfl
      refine one_ (i := 2) (N := some 5) #[true, true, true, true, true, false, false, true, true, false, false, true, true, false, false, true, true, false, false, true, true, false, false, false] rfl rfl (zA HT_.1 (by kernel_rfl)) (by decide) (fun K hK => ?_)
      refine zE Try.func102 (by kernel_rfl) rfl #[.int .i64 a0_0, .int .i64 1] (by rfl) rfl rfl (by (try simp only [List.map_toArray, List.map_cons, List.map_nil]); first | done | rfl | (simp only [List.length_drop, List.length_take]; rfl)) ?_
      with_reducible refine (spec_l4Bytes.calls k a0_0 1 t217 _ A2.1).mono ?_
      rintro e w15 ⟨rfl, hb⟩
      refine ⟨_, rfl, ?_⟩
      have n0_ := Aside0.mk (zo (g := gb216) (o := .cells #[.int .i64 a0_0, .slice A0_1 l0_1.length c0_1, .int .i64 a0_2, .int .i64 a0_3, .int .i64 a0_4, .slice A0_5 l0_5.length c0_5] 27 (0, 0)) (by (with_reducible repeat (first | refine zn ?_ _ | refine zq ?_ | refine zp ?_ _)); exact zG.1) hb)
      have n1_ := Aside0.mk (zf (by repeat (first | (with_reducible first | exact HB.1 | apply ze | apply zb | apply zd | refine zk ?_ zJ.1) | exact HB.1)) hb)
      clear zG
      clear HB
      have zG := n0_
      have HB := n1_
      clear n0_ n1_
      (try clear hb)
      (try clear hb2)
      (try clear hk)
      (try clear hi)
      refine hK.out _ _ ⟨(za zG.1 0).trans rfl, (za zG.1 1).trans rfl, (za zG.1 2).trans rfl, (za zG.1 3).trans rfl, (za zG.1 4).trans rfl, (za zG.1 5).trans rfl⟩ (fun hHeld => ?_)
      clear hK K
      refine zD (a' := ?_) ?_ ?_
      rotate_left
      ·
       show Act.put _ (some 5) _ = _
       simp only [Act.put, List.setIfInBounds_toArray, List.set_cons_zero, List.set_cons_succ, zl, zm]
       rfl
      refine one_ (i := 5) (N := some 8) #[true, true, true, true, true, true, false, true, true, false, false, true, true, false, false, true, true, false, false, true, true, false, false, false] rfl rfl (zA HT_.1 (by kernel_rfl)) (by decide) (fun K hK => ?_)
      refine zE Try.func124 (by kernel_rfl) rfl #[.slice A0_1 l0_1.length c0_1, .int .i64 2] (by rfl) rfl rfl (by (try simp only [List.map_toArray, List.map_cons, List.map_nil]); first | done | rfl | (simp only [List.length_drop, List.length_take]; rfl)) ?_
      with_reducible refine (spec_l4Numbers.calls k _ _ l0_1 2 t218 _ ?side1 ?side2 A3.1).mono ?_
      (case side1 => repeat (first | exact (zh HR0_1.1 HB.1) | (with_reducible refine zi ?_ _) | (with_reducible refine zg ?_ _) | (with_reducible refine zj ?_)))
      (case side2 => exact HC0_1.1)
      rintro e w16 ⟨rfl, hb⟩
      refine ⟨_, rfl, ?_⟩
      have n0_ := Aside0.mk (zo (g := gb216) (o := .cells #[.int .i64 a0_0, .slice A0_1 l0_1.length c0_1, .int .i64 a0_2, .int .i64 a0_3, .int .i64 a0_4, .slice A0_5 l0_5.length c0_5] 27 (0, 0)) (by (with_reducible repeat (first | refine zn ?_ _ | refine zq ?_ | refine zp ?_ _)); exact zG.1) hb)
      have n1_ := Aside0.mk (zf (by repeat (first | (with_reducible first | exact HB.1 | apply ze | apply zb | apply zd | refine zk ?_ zJ.1) | exact HB.1)) hb)
      clear zG
      clear HB
      have zG := n0_
      have HB := n1_
      clear n0_ n1_
      (try clear hb)
      (try clear hb2)
      (try clear hk)
      (try clear hi)
      refine hK.out _ _ ⟨(za zG.1 0).trans rfl, (za zG.1 1).trans rfl, (za zG.1 2).trans rfl, (za zG.1 3).trans rfl, (za zG.1 4).trans rfl, (za zG.1 5).trans rfl⟩ (fun hHeld => ?_)
      clear hK K
      refine zD (a' := ?_) ?_ ?_
      rotate_left
      ·
       show Act.put _ (some 8) _ = _
       simp only [Act.put, List.setIfInBounds_toArray, List.set_cons_zero, List.set_cons_succ, zl, zm]
       rfl
      refine zw (i := 6) (N := some 9) (v := ?_) (a' := ?_) #[true, true, true, true, true, true, true, true, true, false, false, true, true, false, false, true, true, false, false, true, true, false, false, false] rfl rfl (zt HT_.1 (by kernel_rfl)) (fun _ _ _ h => h) (Or.inl ⟨by rfl, ?_⟩) ?_ ?_
      rotate_left
      ·
       intro w'
       go_simp
       with_reducible rfl
      rotate_left
      ·
       simp only [Act.put, List.setIfInBounds_toArray, List.set_cons_zero, List.set_cons_succ, zl, zm]
       rfl
      refine one_ (i := 9) (N := some 12) #[true, true, true, true, true, true, true, true, true, true, false, true, true, false, false, true, true, false, false, true, true, false, false, false] rfl rfl (zA HT_.1 (by kernel_rfl)) (by decide) (fun K hK => ?_)
      refine zE Try.func102 (by kernel_rfl) rfl #[.int .i64 a0_2, .int .i64 4] (by rfl) rfl rfl (by (try simp only [List.map_toArray, List.map_cons, List.map_nil]); first | done | rfl | (simp only [List.length_drop, List.length_take]; rfl)) ?_
      with_reducible refine (spec_l4Bytes.calls k a0_2 4 t219 _ A5.1).mono ?_
      rintro e w17 ⟨rfl, hb⟩
      refine ⟨_, rfl, ?_⟩
      have n0_ := Aside0.mk (zo (g := gb216) (o := .cells #[.int .i64 a0_0, .slice A0_1 l0_1.length c0_1, .int .i64 a0_2, .int .i64 a0_3, .int .i64 a0_4, .slice A0_5 l0_5.length c0_5] 27 (0, 0)) (by (with_reducible repeat (first | refine zn ?_ _ | refine zq ?_ | refine zp ?_ _)); exact zG.1) hb)
      have n1_ := Aside0.mk (zf (by repeat (first | (with_reducible first | exact HB.1 | apply ze | apply zb | apply zd | refine zk ?_ zJ.1) | exact HB.1)) hb)
      clear zG
      clear HB
      have zG := n0_
      have HB := n1_
      clear n0_ n1_
      (try clear hb)
      (try clear hb2)
      (try clear hk)
      (try clear hi)
      refine hK.out _ _ ⟨(za zG.1 0).trans rfl, (za zG.1 1).trans rfl, (za zG.1 2).trans rfl, (za zG.1 3).trans rfl, (za zG.1 4).trans rfl, (za zG.1 5).trans rfl⟩ (fun hHeld => ?_)
      clear hK K
      refine zD (a' := ?_) ?_ ?_
      rotate_left
      ·
       show Act.put _ (some 12) _ = _
       simp only [Act.put, List.setIfInBounds_toArray, List.set_cons_zero, List.set_cons_succ, zl, zm]
       rfl
      refine zw (i := 10) (N := some 13) (v := ?_) (a' := ?_) #[true, true, true, true, true, true, true, true, true, true, true, true, true, false, false, true, true, false, false, true, true, false, false, false] rfl rfl (zt HT_.1 (by kernel_rfl)) (fun _ _ _ h => h) (Or.inl ⟨by rfl, ?_⟩) ?_ ?_
      rotate_left
      ·
       intro w'
       go_simp
       with_reducible rfl
      rotate_left
      ·
       simp only [Act.put, List.setIfInBounds_toArray, List.set_cons_zero, List.set_cons_succ, zl, zm]
       rfl
      refine one_ (i := 13) (N := some 16) #[true, true, true, true, true, true, true, true, true, true, true, true, true, true, false, true, true, false, false, true, true, false, false, false] rfl rfl (zA HT_.1 (by kernel_rfl)) (by decide) (fun K hK => ?_)
      refine zE Try.func102 (by kernel_rfl) rfl #[.int .i64 a0_3, .int .i64 3] (by rfl) rfl rfl (by (try simp only [List.map_toArray, List.map_cons, List.map_nil]); first | done | rfl | (simp only [List.length_drop, List.length_take]; rfl)) ?_
      with_reducible refine (spec_l4Bytes.calls k a0_3 3 t220 _ A7.1).mono ?_
      rintro e w18 ⟨rfl, hb⟩
      refine ⟨_, rfl, ?_⟩
      have n0_ := Aside0.mk (zo (g := gb216) (o := .cells #[.int .i64 a0_0, .slice A0_1 l0_1.length c0_1, .int .i64 a0_2, .int .i64 a0_3, .int .i64 a0_4, .slice A0_5 l0_5.length c0_5] 27 (0, 0)) (by (with_reducible repeat (first | refine zn ?_ _ | refine zq ?_ | refine zp ?_ _)); exact zG.1) hb)
      have n1_ := Aside0.mk (zf (by repeat (first | (with_reducible first | exact HB.1 | apply ze | apply zb | apply zd | refine zk ?_ zJ.1) | exact HB.1)) hb)
      clear zG
      clear HB
      have zG := n0_
      have HB := n1_
      clear n0_ n1_
      (try clear hb)
      (try clear hb2)
      (try clear hk)
      (try clear hi)
      refine hK.out _ _ ⟨(za zG.1 0).trans rfl, (za zG.1 1).trans rfl, (za zG.1 2).trans rfl, (za zG.1 3).trans rfl, (za zG.1 4).trans rfl, (za zG.1 5).trans rfl⟩ (fun hHeld => ?_)
      clear hK K
      refine zD (a' := ?_) ?_ ?_
      rotate_left
      ·
       show Act.put _ (some 16) _ = _
       simp only [Act.put, List.setIfInBounds_toArray, List.set_cons_zero, List.set_cons_succ, zl, zm]
       rfl
      refine zw (i := 14) (N := some 17) (v := ?_) (a' := ?_) #[true, true, true, true, true, true, true, true, true, true, true, true, true, true, true, true, true, false, false, true, true, false, false, false] rfl rfl (zt HT_.1 (by kernel_rfl)) (fun _ _ _ h => h) (Or.inl ⟨by rfl, ?_⟩) ?_ ?_
      rotate_left
      ·
       intro w'
       go_simp
       with_reducible rfl
      rotate_left
      ·
       simp only [Act.put, List.setIfInBounds_toArray, List.set_cons_zero, List.set_cons_succ, zl, zm]
       rfl
      refine one_ (i := 17) (N := some 20) #[true, true, true, true, true, true, true, true, true, true, true, true, true, true, true, true, true, true, false, true, true, false, false, false] rfl rfl (zA HT_.1 (by kernel_rfl)) (by decide) (fun K hK => ?_)
      refine zE Try.func102 (by kernel_rfl) rfl #[.int .i64 a0_4, .int .i64 3] (by rfl) rfl rfl (by (try simp only [List.map_toArray, List.map_cons, List.map_nil]); first | done | rfl | (simp only [List.length_drop, List.length_take]; rfl)) ?_
      with_reducible refine (spec_l4Bytes.calls k a0_4 3 t221 _ A9.1).mono ?_
      rintro e w19 ⟨rfl, hb⟩
      refine ⟨_, rfl, ?_⟩
      have n0_ := Aside0.mk (zo (g := gb216) (o := .cells #[.int .i64 a0_0, .slice A0_1 l0_1.length c0_1, .int .i64 a0_2, .int .i64 a0_3, .int .i64 a0_4, .slice A0_5 l0_5.length c0_5] 27 (0, 0)) (by (with_reducible repeat (first | refine zn ?_ _ | refine zq ?_ | refine zp ?_ _)); exact zG.1) hb)
      have n1_ := Aside0.mk (zf (by repeat (first | (with_reducible first | exact HB.1 | apply ze | apply zb | apply zd | refine zk ?_ zJ.1) | exact HB.1)) hb)
      clear zG
      clear HB
      have zG := n0_
      have HB := n1_
      clear n0_ n1_
      (try clear hb)
      (try clear hb2)
      (try clear hk)
      (try clear hi)
      refine hK.out _ _ ⟨(za zG.1 0).trans rfl, (za zG.1 1).trans rfl, (za zG.1 2).trans rfl, (za zG.1 3).trans rfl, (za zG.1 4).trans rfl, (za zG.1 5).trans rfl⟩ (fun hHeld => ?_)
      clear hK K
      refine zD (a' := ?_) ?_ ?_
      rotate_left
      ·
       show Act.put _ (some 20) _ = _
       simp only [Act.put, List.setIfInBounds_toArray, List.set_cons_zero, List.set_cons_succ, zl, zm]
       rfl
      refine zw (i := 18) (N := some 21) (v := ?_) (a' := ?_) #[true, true, true, true, true, true, true, true, true, true, true, true, true, true, true, true, true, true, true, true, true, false, false, false] rfl rfl (zt HT_.1 (by kernel_rfl)) (fun _ _ _ h => h) (Or.inl ⟨by rfl, ?_⟩) ?_ ?_
      rotate_left
      ·
       intro w'
       go_simp
       with_reducible rfl
      rotate_left
      ·
       simp only [Act.put, List.setIfInBounds_toArray, List.set_cons_zero, List.set_cons_succ, zl, zm]
       rfl
      refine one_ (i := 21) (N := some 24) #[true, true, true, true, true, true, true, true, true, true, true, true, true, true, true, true, true, true, true, true, true, true, false, false] rfl rfl (zA HT_.1 (by kernel_rfl)) (by decide) (fun K hK => ?_)
      refine zE Try.func124 (by kernel_rfl) rfl #[.slice A0_5 l0_5.length c0_5, .int .i64 3] (by rfl) rfl rfl (by (try simp only [List.map_toArray, List.map_cons, List.map_nil]); first | done | rfl | (simp only [List.length_drop, List.length_take]; rfl)) ?_
      with_reducible refine (spec_l4Numbers.calls k _ _ l0_5 3 t222 _ ?side1 ?side2 A11.1).mono ?_
      (case side1 => repeat (first | exact (zh HR0_5.1 HB.1) | (with_reducible refine zi ?_ _) | (with_reducible refine zg ?_ _) | (with_reducible refine zj ?_)))
      (case side2 => exact HC0_5.1)
      rintro e w20 ⟨rfl, hb⟩
      refine ⟨_, rfl, ?_⟩
      have n0_ := Aside0.mk (zo (g := gb216) (o := .cells #[.int .i64 a0_0, .slice A0_1 l0_1.length c0_1, .int .i64 a0_2, .int .i64 a0_3, .int .i64 a0_4, .slice A0_5 l0_5.length c0_5] 27 (0, 0)) (by (with_reducible repeat (first | refine zn ?_ _ | refine zq ?_ | refine zp ?_ _)); exact zG.1) hb)
      have n1_ := Aside0.mk (zf (by repeat (first | (with_reducible first | exact HB.1 | apply ze | apply zb | apply zd | refine zk ?_ zJ.1) | exact HB.1)) hb)
      clear zG
      clear HB
      have zG := n0_
      have HB := n1_
      clear n0_ n1_
      (try clear hb)
      (try clear hb2)
      (try clear hk)
      (try clear hi)
      refine hK.out _ _ ⟨(za zG.1 0).trans rfl, (za zG.1 1).trans rfl, (za zG.1 2).trans rfl, (za zG.1 3).trans rfl, (za zG.1 4).trans rfl, (za zG.1 5).trans rfl⟩ (fun hHeld => ?_)
      clear hK K
      refine zD (a' := ?_) ?_ ?_
      rotate_left
      ·
       show Act.put _ (some 24) _ = _
       simp only [Act.put, List.setIfInBounds_toArray, List.set_cons_zero, List.set_cons_succ, zl, zm]
       rfl
      refine zw (i := 22) (N := some 25) (v := ?_) (a' := ?_) #[true, true, true, true, true, true, true, true, true, true, true, true, true, true, true, true, true, true, true, true, true, true, true, false] rfl rfl (zt HT_.1 (by kernel_rfl)) (fun _ _ _ h => h) (Or.inl ⟨by rfl, ?_⟩) ?_ ?_
      rotate_left
      ·
       intro w'
       go_simp
       with_reducible rfl
      rotate_left
      ·
       simp only [Act.put, List.setIfInBounds_toArray, List.set_cons_zero, List.set_cons_succ, zl, zm]
       rfl
      refine zw (i := 23) (N := some 2) (v := ?_) (a' := ?_) #[true, true, true, true, true, true, true, true, true, true, true, true, true, true, true, true, true, true, true, true, true, true, true, true] rfl rfl (zt HT_.1 (by kernel_rfl)) (fun _ _ _ h => h) (Or.inl ⟨by rfl, ?_⟩) ?_ ?_
      rotate_left
      ·
       intro w'
       go_simp
       with_reducible rfl
      rotate_left
      ·
       simp only [Act.put, List.setIfInBounds_toArray, List.set_cons_zero, List.set_cons_succ, zl, zm]
       rfl
      refine done_ (done_of HT_.1 (by kernel_rfl)) ?_
      try go_wp2
      go_ret
      exact ⟨by first | rfl | (simp [errW_none, errW_some] <;> rfl) | (simp [*, errW_none, errW_some] <;> rfl), by repeat (first | (with_reducible first | exact HB.1 | apply ze | apply zb | apply zd | refine zk ?_ zJ.1) | exact HB.1)⟩
     ·
      rw [if_neg c12] at H
      exact absurd H (by simp)
    ·
     rw [if_neg c10] at H
     exact absurd H (by simp)
   ·
    rw [if_neg c8] at H
    exact absurd H (by simp)
  ·
   rw [if_neg c6] at H
   exact absurd H (by simp)
 ·
  rw [if_neg c4] at H
  exact absurd H (by simp)

/-! ### spec_l4Update: function 79 -/
def spec_l4Update.f (k : Nat) (l0_0 : List (S35)) (a0_1 : Int) (l0_2 : List Int) (a0_3 : Int) (a0_4 : Int) (a0_5 : Int) (l0_6 : List Int) (l0_7 : List (S35)) : Option (ByteArray) := (spec_l4Prefixes.f k l0_0).bind fun t224 => (if (l0_7.length : Int) = 0 then (some t224) else ((spec_l4Attrs.f k a0_1 l0_2 a0_3 a0_4 a0_5 l0_6).bind fun t225 => (if t224.size + t225.size ≤ 9223372036854775807 then ((spec_l4Prefixes.f k l0_7).bind fun t226 => (if (t224 ++ t225).size + t226.size ≤ 9223372036854775807 then (some ((t224 ++ t225) ++ t226)) else (none))) else (none))))
theorem spec_l4Update.mono : ∀ a0 a1 a2 a3 a4 a5 a6 a7 k, LeO (spec_l4Update.f k a0 a1 a2 a3 a4 a5 a6 a7) (spec_l4Update.f (k + 1) a0 a1 a2 a3 a4 a5 a6 a7) := by
 intro a0 a1 a2 a3 a4 a5 a6 a7 k
 unfold spec_l4Update.f
 repeat' first
   | (with_reducible exact spec_l4Attrs.mono _ _ _ _ _ _ _)
   | (with_reducible exact spec_l4Prefixes.mono _ _)
   | (with_reducible exact LeO.refl _)
   | (with_reducible exact zu _)
   | (with_reducible refine zx ?_ ?_)
   | (with_reducible refine zv ?_ (fun _ => ?_))
   | exact spec_l4Attrs.mono _ _ _ _ _ _ _
   | exact spec_l4Prefixes.mono _ _
   | exact zu _
   | refine zx ?_ ?_
   | refine zv ?_ (fun _ => ?_)
def spec_l4Update.T4 : Bool × List (List Nat × List Nat) := (true, [([], []), ([], []), ([1], [1]), ([2], [2]), ([0, 3], [0, 3]), ([], []), ([5], [5]), ([6, 3], [6]), ([4, 7], [4, 7]), ([8, 7, 0, 1, 2, 3, 4, 5, 6, 7, 8], [8])])
def spec_l4Update.B4 : List Nat := [0, 0, 2, 6, 15, 0, 32, 110, 255, 511]
theorem spec_l4Update.tab4 : rtab .any (opsOf Try.f79 4) = spec_l4Update.T4 := by kernel_rfl
theorem spec_l4Update.bits4 : waitsOk spec_l4Update.T4.2 spec_l4Update.B4 = true := by kernel_rfl
set_option maxHeartbeats 8000000 in
set_option maxRecDepth 100000 in
theorem spec_l4Update.calls (k : Nat) (A0_0 : Option Addr) (c0_0 : Nat) (l0_0 : List (S35)) (a0_1 : Int) (A0_2 : Option Addr) (c0_2 : Nat) (l0_2 : List Int) (a0_3 : Int) (a0_4 : Int) (a0_5 : Int) (A0_6 : Option Addr) (c0_6 : Nat) (l0_6 : List Int) (A0_7 : Option Addr) (c0_7 : Nat) (l0_7 : List (S35)) (r : ByteArray) (w : World) (hr0_0 : Kd.C k35 w A0_0 l0_0.length l0_0) (hc0_0 : l0_0.length ≤ c0_0) (hr0_2 : Kd.C (zB .i64) w A0_2 l0_2.length l0_2) (hc0_2 : l0_2.length ≤ c0_2) (hr0_6 : Kd.C (zB .i64) w A0_6 l0_6.length l0_6) (hc0_6 : l0_6.length ≤ c0_6) (hr0_7 : Kd.C k35 w A0_7 l0_7.length l0_7) (hc0_7 : l0_7.length ≤ c0_7) (h : spec_l4Update.f k l0_0 a0_1 l0_2 a0_3 a0_4 a0_5 l0_6 l0_7 = some r) :
  Calls Try.prog 79 #[.agg #[.slice A0_0 l0_0.length c0_0, .int .i64 a0_1, .slice A0_2 l0_2.length c0_2, .int .i64 a0_3, .int .i64 a0_4, .int .i64 a0_5, .slice A0_6 l0_6.length c0_6, .slice A0_7 l0_7.length c0_7]] w fun e w' => e = .returned (.string r) ∧ Below w.heap.size w w' := by
 have hu53 := Try.underlying53
 have hu27 := Try.underlying27
 have zL := Aside0.mk hr0_0
 have HC0_0 := Aside0.mk hc0_0
 clear hr0_0 hc0_0
 have zN := Aside0.mk hr0_2
 have HC0_2 := Aside0.mk hc0_2
 clear hr0_2 hc0_2
 have zO := Aside0.mk hr0_6
 have HC0_6 := Aside0.mk hc0_6
 clear hr0_6 hc0_6
 have zP := Aside0.mk hr0_7
 have HC0_7 := Aside0.mk hc0_7
 clear hr0_7 hc0_7
 have HB := Aside0.mk (Below.refl w.heap.size w)
 have H : ((spec_l4Prefixes.f k l0_0).bind fun t224 => (if (l0_7.length : Int) = 0 then (some t224) else ((spec_l4Attrs.f k a0_1 l0_2 a0_3 a0_4 a0_5 l0_6).bind fun t225 => (if t224.size + t225.size ≤ 9223372036854775807 then ((spec_l4Prefixes.f k l0_7).bind fun t226 => (if (t224 ++ t225).size + t226.size ≤ 9223372036854775807 then (some ((t224 ++ t225) ++ t226)) else (none))) else (none))))) = some r := h
 clear h
 replace H := Option.bind_eq_some_iff.mp H
 obtain ⟨t224, A20, H⟩ := H
 replace H : (if (l0_7.length : Int) = 0 then (some t224) else ((spec_l4Attrs.f k a0_1 l0_2 a0_3 a0_4 a0_5 l0_6).bind fun t225 => (if t224.size + t225.size ≤ 9223372036854775807 then ((spec_l4Prefixes.f k l0_7).bind fun t226 => (if (t224 ++ t225).size + t226.size ≤ 9223372036854775807 then (some ((t224 ++ t225) ++ t226)) else (none))) else (none)))) = some r := H
 have A2 := Aside0.mk A20
 clear A20
 by_cases c3 : (l0_7.length : Int) = 0
 ·
  rw [if_pos c3] at H
  have c3b0 : ((l0_7.length : Int) == 0) = true := beq_iff_eq.mpr c3
  have c3b1 : ((l0_7.length : Int) != 0) = false := bne_eq_false_iff_eq.mpr c3
  clear c3
  obtain rfl := Option.some.inj H
  go_enter Try.func79, Try.ntmps79
  go_wp2_with (first | ((with_reducible refine gate_dst (N := 1) rfl ?_); refine box_event ?hg (N := 1) ?hd (cs := #[.slice A0_0 l0_0.length c0_0, .int .i64 a0_1, .slice A0_2 l0_2.length c0_2, .int .i64 a0_3, .int .i64 a0_4, .int .i64 a0_5, .slice A0_6 l0_6.length c0_6, .slice A0_7 l0_7.length c0_7]) (t := 53) ?hr ?_; (case hd => rfl); (case hg => rfl); (case hr => first | (go_simp; done) | (go_simp; rfl)); intro gb223 hg w4 hbox hb; have n0_ := Aside0.mk (zf (by repeat (first | (with_reducible first | exact HB.1 | apply ze | apply zb | apply zd) | exact HB.1)) hb); have n1_ := Aside0.mk (hbox); have n2_ := Aside0.mk ((by rw [hg]; exact (zs (by repeat (first | (with_reducible first | exact HB.1 | apply ze | apply zb | apply zd) | exact HB.1))) : w.heap.size ≤ gb223)); have n3_ := Aside0.mk ((by rw [hg]; exact (zs (by repeat (first | (with_reducible first | exact HB.1 | apply ze | apply zb | apply zd) | exact HB.1))) : w.heap.size ≤ gb223)); clear HB; have HB := n0_; have zF := n1_; have GW223 := n2_; have zK := n3_; clear n0_ n1_ n2_ n3_; clear hb hbox hg; have hcz5_0 : w4.cell? ⟨gb223, 0, none⟩ = some (.slice A0_0 l0_0.length c0_0) := (za zF.1 0).trans rfl; have hcz5_1 : w4.cell? ⟨gb223, 1, none⟩ = some (.int .i64 a0_1) := (za zF.1 1).trans rfl; have hcz5_2 : w4.cell? ⟨gb223, 2, none⟩ = some (.slice A0_2 l0_2.length c0_2) := (za zF.1 2).trans rfl; have hcz5_3 : w4.cell? ⟨gb223, 3, none⟩ = some (.int .i64 a0_3) := (za zF.1 3).trans rfl; have hcz5_4 : w4.cell? ⟨gb223, 4, none⟩ = some (.int .i64 a0_4) := (za zF.1 4).trans rfl; have hcz5_5 : w4.cell? ⟨gb223, 5, none⟩ = some (.int .i64 a0_5) := (za zF.1 5).trans rfl; have hcz5_6 : w4.cell? ⟨gb223, 6, none⟩ = some (.slice A0_6 l0_6.length c0_6) := (za zF.1 6).trans rfl; have hcz5_7 : w4.cell? ⟨gb223, 7, none⟩ = some (.slice A0_7 l0_7.length c0_7) := (za zF.1 7).trans rfl; have hfz5_0 := zc zF.1 0; have hfz5_1 := zc zF.1 1; have hfz5_2 := zc zF.1 2; have hfz5_3 := zc zF.1 3; have hfz5_4 := zc zF.1 4; have hfz5_5 := zc zF.1 5; have hfz5_6 := zc zF.1 6; have hfz5_7 := zc zF.1 7) | ((with_reducible refine zr (f := 112) rfl ?_); refine zz (some 6) rfl rfl Try.func112 (by kernel_rfl) rfl #[.slice A0_0 l0_0.length c0_0] rfl (by (try simp only [List.map_toArray, List.map_cons, List.map_nil]); first | done | rfl | (simp only [List.length_drop, List.length_take]; rfl)) ?_; (with_reducible refine (spec_l4Prefixes.calls k _ _ l0_0 t224 _ ?side1 ?side2 A2.1).mono ?_); (case side1 => repeat (first | exact (zh zL.1 HB.1) | (with_reducible refine zi ?_ _) | (with_reducible refine zg ?_ _) | (with_reducible refine zj ?_))); (case side2 => exact HC0_0.1); rintro e w6 ⟨rfl, hb⟩; refine ⟨_, rfl, ?_⟩; have n0_ := Aside0.mk (zo (g := gb223) (o := .cells #[.slice A0_0 l0_0.length c0_0, .int .i64 a0_1, .slice A0_2 l0_2.length c0_2, .int .i64 a0_3, .int .i64 a0_4, .int .i64 a0_5, .slice A0_6 l0_6.length c0_6, .slice A0_7 l0_7.length c0_7] 53 (0, 0)) (by (with_reducible repeat (first | refine zn ?_ _ | refine zq ?_ | refine zp ?_ _)); exact zF.1) hb); have n1_ := Aside0.mk (zf (by repeat (first | (with_reducible first | exact HB.1 | apply ze | apply zb | apply zd | refine zk ?_ zK.1) | exact HB.1)) hb); clear zF; clear HB; have zF := n0_; have HB := n1_; clear n0_ n1_; (try clear hb); (try clear hb2); (try clear hk); (try clear hi); have hcz7_0 : w6.cell? ⟨gb223, 0, none⟩ = some (.slice A0_0 l0_0.length c0_0) := (za zF.1 0).trans rfl; have hcz7_1 : w6.cell? ⟨gb223, 1, none⟩ = some (.int .i64 a0_1) := (za zF.1 1).trans rfl; have hcz7_2 : w6.cell? ⟨gb223, 2, none⟩ = some (.slice A0_2 l0_2.length c0_2) := (za zF.1 2).trans rfl; have hcz7_3 : w6.cell? ⟨gb223, 3, none⟩ = some (.int .i64 a0_3) := (za zF.1 3).trans rfl; have hcz7_4 : w6.cell? ⟨gb223, 4, none⟩ = some (.int .i64 a0_4) := (za zF.1 4).trans rfl; have hcz7_5 : w6.cell? ⟨gb223, 5, none⟩ = some (.int .i64 a0_5) := (za zF.1 5).trans rfl; have hcz7_6 : w6.cell? ⟨gb223, 6, none⟩ = some (.slice A0_6 l0_6.length c0_6) := (za zF.1 6).trans rfl; have hcz7_7 : w6.cell? ⟨gb223, 7, none⟩ = some (.slice A0_7 l0_7.length c0_7) := (za zF.1 7).trans rfl; have hfz7_0 := zc zF.1 0; have hfz7_1 := zc zF.1 1; have hfz7_2 := zc zF.1 2; have hfz7_3 := zc zF.1 3; have hfz7_4 := zc zF.1 4; have hfz7_5 := zc zF.1 5; have hfz7_6 := zc zF.1 6; have hfz7_7 := zc zF.1 7))
  go_ret
  exact ⟨by first | rfl | (simp [errW_none, errW_some] <;> rfl) | (simp [*, errW_none, errW_some] <;> rfl), by repeat (first | (with_reducible first | exact HB.1 | apply ze | apply zb | apply zd | refine zk ?_ zK.1) | exact HB.1)⟩
 ·
  rw [if_neg c3] at H
  have c3b0 : ((l0_7.length : Int) == 0) = false := beq_eq_false_iff_ne.mpr c3
  have c3b1 : ((l0_7.length : Int) != 0) = true := bne_iff_ne.mpr c3
  have c3b2 : ¬ (l0_7 = []) := fun h_ => c3 (by rw [h_]; rfl)
  replace H := Option.bind_eq_some_iff.mp H
  obtain ⟨t225, A80, H⟩ := H
  replace H : (if t224.size + t225.size ≤ 9223372036854775807 then ((spec_l4Prefixes.f k l0_7).bind fun t226 => (if (t224 ++ t225).size + t226.size ≤ 9223372036854775807 then (some ((t224 ++ t225) ++ t226)) else (none))) else (none)) = some r := H
  have A8 := Aside0.mk A80
  clear A80
  by_cases c9 : t224.size + t225.size ≤ 9223372036854775807
  ·
   rw [if_pos c9] at H
   have c9b0 := eq_true c9
   have c9b1 : decide (t224.size + t225.size ≤ 9223372036854775807) = true := decide_eq_true c9
   try have c9b2 : (9223372036854775807 < t224.size + t225.size) = False := eq_false (Nat.not_lt.2 c9)
   replace H := Option.bind_eq_some_iff.mp H
   obtain ⟨t226, A100, H⟩ := H
   replace H : (if (t224 ++ t225).size + t226.size ≤ 9223372036854775807 then (some ((t224 ++ t225) ++ t226)) else (none)) = some r := H
   have A10 := Aside0.mk A100
   clear A100
   by_cases c11 : (t224 ++ t225).size + t226.size ≤ 9223372036854775807
   ·
    rw [if_pos c11] at H
    have c11b0 := eq_true c11
    have c11b1 : decide ((t224 ++ t225).size + t226.size ≤ 9223372036854775807) = true := decide_eq_true c11
    try have c11b2 : (9223372036854775807 < (t224 ++ t225).size + t226.size) = False := eq_false (Nat.not_lt.2 c11)
    try have c11b4 : (9223372036854775807 < t224.size + t225.size + t226.size) = False := eq_false (by have := c11; simp only [ByteArray.size_append] at this; omega)
    obtain rfl := Option.some.inj H
    go_enter Try.func79, Try.ntmps79
    try go_wp2_with (first | ((with_reducible refine gate_dst (N := 1) rfl ?_); refine box_event ?hg (N := 1) ?hd (cs := #[.slice A0_0 l0_0.length c0_0, .int .i64 a0_1, .slice A0_2 l0_2.length c0_2, .int .i64 a0_3, .int .i64 a0_4, .int .i64 a0_5, .slice A0_6 l0_6.length c0_6, .slice A0_7 l0_7.length c0_7]) (t := 53) ?hr ?_; (case hd => rfl); (case hg => rfl); (case hr => first | (go_simp; done) | (go_simp; rfl)); intro gb223 hg w12 hbox hb; have n0_ := Aside0.mk (zf (by repeat (first | (with_reducible first | exact HB.1 | apply ze | apply zb | apply zd) | exact HB.1)) hb); have n1_ := Aside0.mk (hbox); have n2_ := Aside0.mk ((by rw [hg]; exact (zs (by repeat (first | (with_reducible first | exact HB.1 | apply ze | apply zb | apply zd) | exact HB.1))) : w.heap.size ≤ gb223)); have n3_ := Aside0.mk ((by rw [hg]; exact (zs (by repeat (first | (with_reducible first | exact HB.1 | apply ze | apply zb | apply zd) | exact HB.1))) : w.heap.size ≤ gb223)); clear HB; have HB := n0_; have zF := n1_; have GW223 := n2_; have zK := n3_; clear n0_ n1_ n2_ n3_; clear hb hbox hg; have hcz13_0 : w12.cell? ⟨gb223, 0, none⟩ = some (.slice A0_0 l0_0.length c0_0) := (za zF.1 0).trans rfl; have hcz13_1 : w12.cell? ⟨gb223, 1, none⟩ = some (.int .i64 a0_1) := (za zF.1 1).trans rfl; have hcz13_2 : w12.cell? ⟨gb223, 2, none⟩ = some (.slice A0_2 l0_2.length c0_2) := (za zF.1 2).trans rfl; have hcz13_3 : w12.cell? ⟨gb223, 3, none⟩ = some (.int .i64 a0_3) := (za zF.1 3).trans rfl; have hcz13_4 : w12.cell? ⟨gb223, 4, none⟩ = some (.int .i64 a0_4) := (za zF.1 4).trans rfl; have hcz13_5 : w12.cell? ⟨gb223, 5, none⟩ = some (.int .i64 a0_5) := (za zF.1 5).trans rfl; have hcz13_6 : w12.cell? ⟨gb223, 6, none⟩ = some (.slice A0_6 l0_6.length c0_6) := (za zF.1 6).trans rfl; have hcz13_7 : w12.cell? ⟨gb223, 7, none⟩ = some (.slice A0_7 l0_7.length c0_7) := (za zF.1 7).trans rfl; have hfz13_0 := zc zF.1 0; have hfz13_1 := zc zF.1 1; have hfz13_2 := zc zF.1 2; have hfz13_3 := zc zF.1 3; have hfz13_4 := zc zF.1 4; have hfz13_5 := zc zF.1 5; have hfz13_6 := zc zF.1 6; have hfz13_7 := zc zF.1 7) | ((with_reducible refine zr (f := 112) rfl ?_); refine zz (some 6) rfl rfl Try.func112 (by kernel_rfl) rfl #[.slice A0_0 l0_0.length c0_0] rfl (by (try simp only [List.map_toArray, List.map_cons, List.map_nil]); first | done | rfl | (simp only [List.length_drop, List.length_take]; rfl)) ?_; (with_reducible refine (spec_l4Prefixes.calls k _ _ l0_0 t224 _ ?side1 ?side2 A2.1).mono ?_); (case side1 => repeat (first | exact (zh zL.1 HB.1) | (with_reducible refine zi ?_ _) | (with_reducible refine zg ?_ _) | (with_reducible refine zj ?_))); (case side2 => exact HC0_0.1); rintro e w14 ⟨rfl, hb⟩; refine ⟨_, rfl, ?_⟩; have n0_ := Aside0.mk (zo (g := gb223) (o := .cells #[.slice A0_0 l0_0.length c0_0, .int .i64 a0_1, .slice A0_2 l0_2.length c0_2, .int .i64 a0_3, .int .i64 a0_4, .int .i64 a0_5, .slice A0_6 l0_6.length c0_6, .slice A0_7 l0_7.length c0_7] 53 (0, 0)) (by (with_reducible repeat (first | refine zn ?_ _ | refine zq ?_ | refine zp ?_ _)); exact zF.1) hb); have n1_ := Aside0.mk (zf (by repeat (first | (with_reducible first | exact HB.1 | apply ze | apply zb | apply zd | refine zk ?_ zK.1) | exact HB.1)) hb); clear zF; clear HB; have zF := n0_; have HB := n1_; clear n0_ n1_; (try clear hb); (try clear hb2); (try clear hk); (try clear hi); have hcz15_0 : w14.cell? ⟨gb223, 0, none⟩ = some (.slice A0_0 l0_0.length c0_0) := (za zF.1 0).trans rfl; have hcz15_1 : w14.cell? ⟨gb223, 1, none⟩ = some (.int .i64 a0_1) := (za zF.1 1).trans rfl; have hcz15_2 : w14.cell? ⟨gb223, 2, none⟩ = some (.slice A0_2 l0_2.length c0_2) := (za zF.1 2).trans rfl; have hcz15_3 : w14.cell? ⟨gb223, 3, none⟩ = some (.int .i64 a0_3) := (za zF.1 3).trans rfl; have hcz15_4 : w14.cell? ⟨gb223, 4, none⟩ = some (.int .i64 a0_4) := (za zF.1 4).trans rfl; have hcz15_5 : w14.cell? ⟨gb223, 5, none⟩ = some (.int .i64 a0_5) := (za zF.1 5).trans rfl; have hcz15_6 : w14.cell? ⟨gb223, 6, none⟩ = some (.slice A0_6 l0_6.length c0_6) := (za zF.1 6).trans rfl; have hcz15_7 : w14.cell? ⟨gb223, 7, none⟩ = some (.slice A0_7 l0_7.length c0_7) := (za zF.1 7).trans rfl; have hfz15_0 := zc zF.1 0; have hfz15_1 := zc zF.1 1; have hfz15_2 := zc zF.1 2; have hfz15_3 := zc zF.1 3; have hfz15_4 := zc zF.1 4; have hfz15_5 := zc zF.1 5; have hfz15_6 := zc zF.1 6; have hfz15_7 := zc zF.1 7))
    have n0_ := Aside0.mk (zq zF.1)
    have n1_ := Aside0.mk (zd HB.1)
    clear zF
    clear HB
    have zF := n0_
    have HB := n1_
    clear n0_ n1_
    refine start_ (n := 10) (S := fun w' => w'.cell? ⟨gb223, 0, none⟩ = some (.slice A0_0 l0_0.length c0_0) ∧ w'.cell? ⟨gb223, 1, none⟩ = some (.int .i64 a0_1) ∧ w'.cell? ⟨gb223, 2, none⟩ = some (.slice A0_2 l0_2.length c0_2) ∧ w'.cell? ⟨gb223, 3, none⟩ = some (.int .i64 a0_3) ∧ w'.cell? ⟨gb223, 4, none⟩ = some (.int .i64 a0_4) ∧ w'.cell? ⟨gb223, 5, none⟩ = some (.int .i64 a0_5) ∧ w'.cell? ⟨gb223, 6, none⟩ = some (.slice A0_6 l0_6.length c0_6) ∧ w'.cell? ⟨gb223, 7, none⟩ = some (.slice A0_7 l0_7.length c0_7)) (ds := []) #[false, false, false, false, false, false, false, false, false, false] (by kernel_rfl) rfl rfl ⟨(za zF.1 0).trans rfl, (za zF.1 1).trans rfl, (za zF.1 2).trans rfl, (za zF.1 3).trans rfl, (za zF.1 4).trans rfl, (za zF.1 5).trans rfl, (za zF.1 6).trans rfl, (za zF.1 7).trans rfl⟩ (fun hHeld => ?_); refine with_tabW spec_l4Update.tab4 spec_l4Update.bits4 (fun HT_ HW_ => ?_)
    generalize w14.drew = w16 at zF HB hHeld ⊢
    refine zw (i := 0) (N := some 12) (v := ?_) (a' := ?_) #[true, false, false, false, false, false, false, false, false, false] rfl rfl (zt HT_.1 (by kernel_rfl)) (fun _ _ _ h => h) (Or.inl ⟨by rfl, ?_⟩) ?_ ?_
    rotate_left
    ·
     intro w'
     go_simp
     with_reducible rfl
    rotate_left
    ·
     simp only [Act.put, List.setIfInBounds_toArray, List.set_cons_zero, List.set_cons_succ, zl, zm]
     rfl
    refine zw (i := 1) (N := some 13) (v := ?_) (a' := ?_) #[true, true, false, false, false, false, false, false, false, false] rfl rfl (zt HT_.1 (by kernel_rfl)) (fun _ _ _ h => h) (Or.inl ⟨by rfl, ?_⟩) ?_ ?_
    rotate_left
    ·
     intro w'
     go_simp
     with_reducible rfl
    rotate_left
    ·
     simp only [Act.put, List.setIfInBounds_toArray, List.set_cons_zero, List.set_cons_succ, zl, zm]
     rfl
    refine zw (i := 5) (N := some 17) (v := ?_) (a' := ?_) #[true, true, false, false, false, true, false, false, false, false] rfl rfl (zt HT_.1 (by kernel_rfl)) (fun _ _ _ h => h) (Or.inl ⟨by rfl, ?_⟩) ?_ ?_
    rotate_left
    ·
     intro w'
     go_simp
     with_reducible rfl
    rotate_left
    ·
     simp only [Act.put, List.setIfInBounds_toArray, List.set_cons_zero, List.set_cons_succ, zl, zm]
     rfl
    refine zC (i := 2) (N := some 14) (v := ?_) (a' := ?_) #[true, true, true, false, false, true, false, false, false, false] rfl rfl (zy HT_.1 HW_.1 (by kernel_rfl)) (fun _ _ _ h => h) (Or.inl ⟨by rfl, ?_⟩) hHeld ?_ ?_
    rotate_left
    ·
     rintro w' ⟨s0, s1, s2, s3, s4, s5, s6, s7⟩
     go_simp
     with_reducible rfl
    rotate_left
    ·
     simp only [Act.put, List.setIfInBounds_toArray, List.set_cons_zero, List.set_cons_succ, zl, zm]
     rfl
    refine zC (i := 6) (N := some 18) (v := ?_) (a' := ?_) #[true, true, true, false, false, true, true, false, false, false] rfl rfl (zy HT_.1 HW_.1 (by kernel_rfl)) (fun _ _ _ h => h) (Or.inl ⟨by rfl, ?_⟩) hHeld ?_ ?_
    rotate_left
    ·
     rintro w' ⟨s0, s1, s2, s3, s4, s5, s6, s7⟩
     go_simp
     with_reducible rfl
    rotate_left
    ·
     simp only [Act.put, List.setIfInBounds_toArray, List.set_cons_zero, List.set_cons_succ, zl, zm]
     rfl
    refine one_ (i := 3) (N := some 15) #[true, true, true, true, false, true, true, false, false, false] rfl rfl (zA HT_.1 (by kernel_rfl)) (by decide) (fun K hK => ?_)
    refine zE Try.func113 (by kernel_rfl) rfl #[.agg #[.int .i64 a0_1, .slice A0_2 l0_2.length c0_2, .int .i64 a0_3, .int .i64 a0_4, .int .i64 a0_5, .slice A0_6 l0_6.length c0_6]] (by rfl) rfl rfl (by (try simp only [List.map_toArray, List.map_cons, List.map_nil]); first | done | rfl | (simp only [List.length_drop, List.length_take]; rfl)) ?_
    with_reducible refine (spec_l4Attrs.calls k a0_1 _ _ l0_2 a0_3 a0_4 a0_5 _ _ l0_6 t225 _ ?side1 ?side2 ?side3 ?side4 A8.1).mono ?_
    (case side1 => repeat (first | exact (zh zN.1 HB.1) | (with_reducible refine zi ?_ _) | (with_reducible refine zg ?_ _) | (with_reducible refine zj ?_)))
    (case side2 => exact HC0_2.1)
    (case side3 => repeat (first | exact (zh zO.1 HB.1) | (with_reducible refine zi ?_ _) | (with_reducible refine zg ?_ _) | (with_reducible refine zj ?_)))
    (case side4 => exact HC0_6.1)
    rintro e w17 ⟨rfl, hb⟩
    refine ⟨_, rfl, ?_⟩
    have n0_ := Aside0.mk (zo (g := gb223) (o := .cells #[.slice A0_0 l0_0.length c0_0, .int .i64 a0_1, .slice A0_2 l0_2.length c0_2, .int .i64 a0_3, .int .i64 a0_4, .int .i64 a0_5, .slice A0_6 l0_6.length c0_6, .slice A0_7 l0_7.length c0_7] 53 (0, 0)) (by (with_reducible repeat (first | refine zn ?_ _ | refine zq ?_ | refine zp ?_ _)); exact zF.1) hb)
    have n1_ := Aside0.mk (zf (by repeat (first | (with_reducible first | exact HB.1 | apply ze | apply zb | apply zd | refine zk ?_ zK.1) | exact HB.1)) hb)
    clear zF
    clear HB
    have zF := n0_
    have HB := n1_
    clear n0_ n1_
    (try clear hb)
    (try clear hb2)
    (try clear hk)
    (try clear hi)
    refine hK.out _ _ ⟨(za zF.1 0).trans rfl, (za zF.1 1).trans rfl, (za zF.1 2).trans rfl, (za zF.1 3).trans rfl, (za zF.1 4).trans rfl, (za zF.1 5).trans rfl, (za zF.1 6).trans rfl, (za zF.1 7).trans rfl⟩ (fun hHeld => ?_)
    clear hK K
    refine zD (a' := ?_) ?_ ?_
    rotate_left
    ·
     show Act.put _ (some 15) _ = _
     simp only [Act.put, List.setIfInBounds_toArray, List.set_cons_zero, List.set_cons_succ, zl, zm]
     rfl
    refine zw (i := 4) (N := some 16) (v := ?_) (a' := ?_) #[true, true, true, true, true, true, true, false, false, false] rfl rfl (zt HT_.1 (by kernel_rfl)) (fun _ _ _ h => h) (Or.inl ⟨by rfl, ?_⟩) ?_ ?_
    rotate_left
    ·
     intro w'
     go_simp
     with_reducible rfl
    rotate_left
    ·
     simp only [Act.put, List.setIfInBounds_toArray, List.set_cons_zero, List.set_cons_succ, zl, zm]
     rfl
    refine one_ (i := 7) (N := some 19) #[true, true, true, true, true, true, true, true, false, false] rfl rfl (zA HT_.1 (by kernel_rfl)) (by decide) (fun K hK => ?_)
    refine zE Try.func112 (by kernel_rfl) rfl #[.slice A0_7 l0_7.length c0_7] (by rfl) rfl rfl (by (try simp only [List.map_toArray, List.map_cons, List.map_nil]); first | done | rfl | (simp only [List.length_drop, List.length_take]; rfl)) ?_
    with_reducible refine (spec_l4Prefixes.calls k _ _ l0_7 t226 _ ?side1 ?side2 A10.1).mono ?_
    (case side1 => repeat (first | exact (zh zP.1 HB.1) | (with_reducible refine zi ?_ _) | (with_reducible refine zg ?_ _) | (with_reducible refine zj ?_)))
    (case side2 => exact HC0_7.1)
    rintro e w18 ⟨rfl, hb⟩
    refine ⟨_, rfl, ?_⟩
    have n0_ := Aside0.mk (zo (g := gb223) (o := .cells #[.slice A0_0 l0_0.length c0_0, .int .i64 a0_1, .slice A0_2 l0_2.length c0_2, .int .i64 a0_3, .int .i64 a0_4, .int .i64 a0_5, .slice A0_6 l0_6.length c0_6, .slice A0_7 l0_7.length c0_7] 53 (0, 0)) (by (with_reducible repeat (first | refine zn ?_ _ | refine zq ?_ | refine zp ?_ _)); exact zF.1) hb)
    have n1_ := Aside0.mk (zf (by repeat (first | (with_reducible first | exact HB.1 | apply ze | apply zb | apply zd | refine zk ?_ zK.1) | exact HB.1)) hb)
    clear zF
    clear HB
    have zF := n0_
    have HB := n1_
    clear n0_ n1_
    (try clear hb)
    (try clear hb2)
    (try clear hk)
    (try clear hi)
    refine hK.out _ _ ⟨(za zF.1 0).trans rfl, (za zF.1 1).trans rfl, (za zF.1 2).trans rfl, (za zF.1 3).trans rfl, (za zF.1 4).trans rfl, (za zF.1 5).trans rfl, (za zF.1 6).trans rfl, (za zF.1 7).trans rfl⟩ (fun hHeld => ?_)
    clear hK K
    refine zD (a' := ?_) ?_ ?_
    rotate_left
    ·
     show Act.put _ (some 19) _ = _
     simp only [Act.put, List.setIfInBounds_toArray, List.set_cons_zero, List.set_cons_succ, zl, zm]
     rfl
    refine zw (i := 8) (N := some 20) (v := ?_) (a' := ?_) #[true, true, true, true, true, true, true, true, true, false] rfl rfl (zt HT_.1 (by kernel_rfl)) (fun _ _ _ h => h) (Or.inl ⟨by rfl, ?_⟩) ?_ ?_
    rotate_left
    ·
     intro w'
     go_simp
     with_reducible rfl
    rotate_left
    ·
     simp only [Act.put, List.setIfInBounds_toArray, List.set_cons_zero, List.set_cons_succ, zl, zm]
     rfl
    refine zw (i := 9) (N := some 2) (v := ?_) (a' := ?_) #[true, true, true, true, true, true, true, true, true, true] rfl rfl (zt HT_.1 (by kernel_rfl)) (fun _ _ _ h => h) (Or.inl ⟨by rfl, ?_⟩) ?_ ?_
    rotate_left
    ·
     intro w'
     go_simp
     with_reducible rfl
    rotate_left
    ·
     simp only [Act.put, List.setIfInBounds_toArray, List.set_cons_zero, List.set_cons_succ, zl, zm]
     rfl
    refine done_ (done_of HT_.1 (by kernel_rfl)) ?_
    try go_wp2
    go_ret
    exact ⟨by first | rfl | (simp [errW_none, errW_some] <;> rfl) | (simp [*, errW_none, errW_some] <;> rfl), by repeat (first | (with_reducible first | exact HB.1 | apply ze | apply zb | apply zd | refine zk ?_ zK.1) | exact HB.1)⟩
   ·
    rw [if_neg c11] at H
    exact absurd H (by simp)
  ·
   rw [if_neg c9] at H
   exact absurd H (by simp)

/-! ### spec_UpdateBytes: function 32 -/
def spec_UpdateBytes.f (k : Nat) (l0_0 : List (S35)) (a0_1 : Int) (l0_2 : List Int) (a0_3 : Int) (a0_4 : Int) (a0_5 : Int) (l0_6 : List Int) (l0_7 : List (S35)) : Option (ByteArray × Bool) := (spec_GoodUpdate.f k l0_0 a0_1 l0_2 a0_3 a0_4 a0_5 l0_6 l0_7).bind fun t228 => (if t228 = true then ((spec_l4Update.f k l0_0 a0_1 l0_2 a0_3 a0_4 a0_5 l0_6 l0_7).bind fun t229 => (some (t229, true))) else (some ((⟨#[]⟩ : ByteArray), false)))
theorem spec_UpdateBytes.mono : ∀ a0 a1 a2 a3 a4 a5 a6 a7 k, LeO (spec_UpdateBytes.f k a0 a1 a2 a3 a4 a5 a6 a7) (spec_UpdateBytes.f (k + 1) a0 a1 a2 a3 a4 a5 a6 a7) := by
 intro a0 a1 a2 a3 a4 a5 a6 a7 k
 unfold spec_UpdateBytes.f
 repeat' first
   | (with_reducible exact spec_GoodUpdate.mono _ _ _ _ _ _ _ _ _)
   | (with_reducible exact spec_l4Update.mono _ _ _ _ _ _ _ _ _)
   | (with_reducible exact LeO.refl _)
   | (with_reducible exact zu _)
   | (with_reducible refine zx ?_ ?_)
   | (with_reducible refine zv ?_ (fun _ => ?_))
   | exact spec_GoodUpdate.mono _ _ _ _ _ _ _ _ _
   | exact spec_l4Update.mono _ _ _ _ _ _ _ _ _
   | exact zu _
   | refine zx ?_ ?_
   | refine zv ?_ (fun _ => ?_)
set_option maxHeartbeats 8000000 in
set_option maxRecDepth 100000 in
theorem spec_UpdateBytes.calls (k : Nat) (A0_0 : Option Addr) (c0_0 : Nat) (l0_0 : List (S35)) (a0_1 : Int) (A0_2 : Option Addr) (c0_2 : Nat) (l0_2 : List Int) (a0_3 : Int) (a0_4 : Int) (a0_5 : Int) (A0_6 : Option Addr) (c0_6 : Nat) (l0_6 : List Int) (A0_7 : Option Addr) (c0_7 : Nat) (l0_7 : List (S35)) (r1 : ByteArray) (r2 : Bool) (w : World) (hr0_0 : Kd.C k35 w A0_0 l0_0.length l0_0) (hc0_0 : l0_0.length ≤ c0_0) (hr0_2 : Kd.C (zB .i64) w A0_2 l0_2.length l0_2) (hc0_2 : l0_2.length ≤ c0_2) (hr0_6 : Kd.C (zB .i64) w A0_6 l0_6.length l0_6) (hc0_6 : l0_6.length ≤ c0_6) (hr0_7 : Kd.C k35 w A0_7 l0_7.length l0_7) (hc0_7 : l0_7.length ≤ c0_7) (h : spec_UpdateBytes.f k l0_0 a0_1 l0_2 a0_3 a0_4 a0_5 l0_6 l0_7 = some (r1, r2)) :
  Calls Try.prog 32 #[.agg #[.slice A0_0 l0_0.length c0_0, .int .i64 a0_1, .slice A0_2 l0_2.length c0_2, .int .i64 a0_3, .int .i64 a0_4, .int .i64 a0_5, .slice A0_6 l0_6.length c0_6, .slice A0_7 l0_7.length c0_7]] w fun e w' => e = .returned (.tuple #[.string r1, .bool r2]) ∧ Below w.heap.size w w' := by
 have hu53 := Try.underlying53
 have zL := Aside0.mk hr0_0
 have HC0_0 := Aside0.mk hc0_0
 clear hr0_0 hc0_0
 have zN := Aside0.mk hr0_2
 have HC0_2 := Aside0.mk hc0_2
 clear hr0_2 hc0_2
 have zO := Aside0.mk hr0_6
 have HC0_6 := Aside0.mk hc0_6
 clear hr0_6 hc0_6
 have zP := Aside0.mk hr0_7
 have HC0_7 := Aside0.mk hc0_7
 clear hr0_7 hc0_7
 have HB := Aside0.mk (Below.refl w.heap.size w)
 have H : ((spec_GoodUpdate.f k l0_0 a0_1 l0_2 a0_3 a0_4 a0_5 l0_6 l0_7).bind fun t228 => (if t228 = true then ((spec_l4Update.f k l0_0 a0_1 l0_2 a0_3 a0_4 a0_5 l0_6 l0_7).bind fun t229 => (some (t229, true))) else (some ((⟨#[]⟩ : ByteArray), false)))) = some (r1, r2) := h
 clear h
 replace H := Option.bind_eq_some_iff.mp H
 obtain ⟨t228, A20, H⟩ := H
 replace H : (if t228 = true then ((spec_l4Update.f k l0_0 a0_1 l0_2 a0_3 a0_4 a0_5 l0_6 l0_7).bind fun t229 => (some (t229, true))) else (some ((⟨#[]⟩ : ByteArray), false))) = some (r1, r2) := H
 have A2 := Aside0.mk A20
 clear A20
 by_cases c3 : t228 = true
 ·
  subst c3
  have H1 : ((spec_l4Update.f k l0_0 a0_1 l0_2 a0_3 a0_4 a0_5 l0_6 l0_7).bind fun t229 => (some (t229, true))) = some (r1, r2) := by rw [if_pos rfl] at H; exact H
  clear H
  have H := H1
  clear H1
  replace H := Option.bind_eq_some_iff.mp H
  obtain ⟨t229, A40, H⟩ := H
  replace H : (some (t229, true)) = some (r1, r2) := H
  have A4 := Aside0.mk A40
  clear A40
  simp only [Option.some.injEq, Prod.mk.injEq] at H
  obtain ⟨rfl, rfl⟩ := H
  go_enter Try.func32, Try.ntmps32
  go_wp2_with (first | ((with_reducible refine gate_dst (N := 1) rfl ?_); refine box_event ?hg (N := 1) ?hd (cs := #[.slice A0_0 l0_0.length c0_0, .int .i64 a0_1, .slice A0_2 l0_2.length c0_2, .int .i64 a0_3, .int .i64 a0_4, .int .i64 a0_5, .slice A0_6 l0_6.length c0_6, .slice A0_7 l0_7.length c0_7]) (t := 53) ?hr ?_; (case hd => rfl); (case hg => rfl); (case hr => first | (go_simp; done) | (go_simp; rfl)); intro gb227 hg w5 hbox hb; have n0_ := Aside0.mk (zf (by repeat (first | (with_reducible first | exact HB.1 | apply ze | apply zb | apply zd) | exact HB.1)) hb); have n1_ := Aside0.mk (hbox); have n2_ := Aside0.mk ((by rw [hg]; exact (zs (by repeat (first | (with_reducible first | exact HB.1 | apply ze | apply zb | apply zd) | exact HB.1))) : w.heap.size ≤ gb227)); have n3_ := Aside0.mk ((by rw [hg]; exact (zs (by repeat (first | (with_reducible first | exact HB.1 | apply ze | apply zb | apply zd) | exact HB.1))) : w.heap.size ≤ gb227)); clear HB; have HB := n0_; have zH := n1_; have GW227 := n2_; have zM := n3_; clear n0_ n1_ n2_ n3_; clear hb hbox hg; have hcz6_0 : w5.cell? ⟨gb227, 0, none⟩ = some (.slice A0_0 l0_0.length c0_0) := (za zH.1 0).trans rfl; have hcz6_1 : w5.cell? ⟨gb227, 1, none⟩ = some (.int .i64 a0_1) := (za zH.1 1).trans rfl; have hcz6_2 : w5.cell? ⟨gb227, 2, none⟩ = some (.slice A0_2 l0_2.length c0_2) := (za zH.1 2).trans rfl; have hcz6_3 : w5.cell? ⟨gb227, 3, none⟩ = some (.int .i64 a0_3) := (za zH.1 3).trans rfl; have hcz6_4 : w5.cell? ⟨gb227, 4, none⟩ = some (.int .i64 a0_4) := (za zH.1 4).trans rfl; have hcz6_5 : w5.cell? ⟨gb227, 5, none⟩ = some (.int .i64 a0_5) := (za zH.1 5).trans rfl; have hcz6_6 : w5.cell? ⟨gb227, 6, none⟩ = some (.slice A0_6 l0_6.length c0_6) := (za zH.1 6).trans rfl; have hcz6_7 : w5.cell? ⟨gb227, 7, none⟩ = some (.slice A0_7 l0_7.length c0_7) := (za zH.1 7).trans rfl; have hfz6_0 := zc zH.1 0; have hfz6_1 := zc zH.1 1; have hfz6_2 := zc zH.1 2; have hfz6_3 := zc zH.1 3; have hfz6_4 := zc zH.1 4; have hfz6_5 := zc zH.1 5; have hfz6_6 := zc zH.1 6; have hfz6_7 := zc zH.1 7) | ((with_reducible refine zr (f := 28) rfl ?_); refine zz (some 5) rfl rfl Try.func28 (by kernel_rfl) rfl #[.agg #[.slice A0_0 l0_0.length c0_0, .int .i64 a0_1, .slice A0_2 l0_2.length c0_2, .int .i64 a0_3, .int .i64 a0_4, .int .i64 a0_5, .slice A0_6 l0_6.length c0_6, .slice A0_7 l0_7.length c0_7]] rfl (by (try simp only [List.map_toArray, List.map_cons, List.map_nil]); first | done | rfl | (simp only [List.length_drop, List.length_take]; rfl)) ?_; (with_reducible refine (spec_GoodUpdate.calls k _ _ l0_0 a0_1 _ _ l0_2 a0_3 a0_4 a0_5 _ _ l0_6 _ _ l0_7 true _ ?side1 ?side2 ?side3 ?side4 ?side5 ?side6 ?side7 ?side8 A2.1).mono ?_); (case side1 => repeat (first | exact (zh zL.1 HB.1) | (with_reducible refine zi ?_ _) | (with_reducible refine zg ?_ _) | (with_reducible refine zj ?_))); (case side2 => exact HC0_0.1); (case side3 => repeat (first | exact (zh zN.1 HB.1) | (with_reducible refine zi ?_ _) | (with_reducible refine zg ?_ _) | (with_reducible refine zj ?_))); (case side4 => exact HC0_2.1); (case side5 => repeat (first | exact (zh zO.1 HB.1) | (with_reducible refine zi ?_ _) | (with_reducible refine zg ?_ _) | (with_reducible refine zj ?_))); (case side6 => exact HC0_6.1); (case side7 => repeat (first | exact (zh zP.1 HB.1) | (with_reducible refine zi ?_ _) | (with_reducible refine zg ?_ _) | (with_reducible refine zj ?_))); (case side8 => exact HC0_7.1); rintro e w7 ⟨rfl, hb⟩; refine ⟨_, rfl, ?_⟩; have n0_ := Aside0.mk (zo (g := gb227) (o := .cells #[.slice A0_0 l0_0.length c0_0, .int .i64 a0_1, .slice A0_2 l0_2.length c0_2, .int .i64 a0_3, .int .i64 a0_4, .int .i64 a0_5, .slice A0_6 l0_6.length c0_6, .slice A0_7 l0_7.length c0_7] 53 (0, 0)) (by (with_reducible repeat (first | refine zn ?_ _ | refine zq ?_ | refine zp ?_ _)); exact zH.1) hb); have n1_ := Aside0.mk (zf (by repeat (first | (with_reducible first | exact HB.1 | apply ze | apply zb | apply zd | refine zk ?_ zM.1) | exact HB.1)) hb); clear zH; clear HB; have zH := n0_; have HB := n1_; clear n0_ n1_; (try clear hb); (try clear hb2); (try clear hk); (try clear hi); have hcz8_0 : w7.cell? ⟨gb227, 0, none⟩ = some (.slice A0_0 l0_0.length c0_0) := (za zH.1 0).trans rfl; have hcz8_1 : w7.cell? ⟨gb227, 1, none⟩ = some (.int .i64 a0_1) := (za zH.1 1).trans rfl; have hcz8_2 : w7.cell? ⟨gb227, 2, none⟩ = some (.slice A0_2 l0_2.length c0_2) := (za zH.1 2).trans rfl; have hcz8_3 : w7.cell? ⟨gb227, 3, none⟩ = some (.int .i64 a0_3) := (za zH.1 3).trans rfl; have hcz8_4 : w7.cell? ⟨gb227, 4, none⟩ = some (.int .i64 a0_4) := (za zH.1 4).trans rfl; have hcz8_5 : w7.cell? ⟨gb227, 5, none⟩ = some (.int .i64 a0_5) := (za zH.1 5).trans rfl; have hcz8_6 : w7.cell? ⟨gb227, 6, none⟩ = some (.slice A0_6 l0_6.length c0_6) := (za zH.1 6).trans rfl; have hcz8_7 : w7.cell? ⟨gb227, 7, none⟩ = some (.slice A0_7 l0_7.length c0_7) := (za zH.1 7).trans rfl; have hfz8_0 := zc zH.1 0; have hfz8_1 := zc zH.1 1; have hfz8_2 := zc zH.1 2; have hfz8_3 := zc zH.1 3; have hfz8_4 := zc zH.1 4; have hfz8_5 := zc zH.1 5; have hfz8_6 := zc zH.1 6; have hfz8_7 := zc zH.1 7) | ((with_reducible refine zr (f := 79) rfl ?_); refine zz (some 8) rfl rfl Try.func79 (by kernel_rfl) rfl #[.agg #[.slice A0_0 l0_0.length c0_0, .int .i64 a0_1, .slice A0_2 l0_2.length c0_2, .int .i64 a0_3, .int .i64 a0_4, .int .i64 a0_5, .slice A0_6 l0_6.length c0_6, .slice A0_7 l0_7.length c0_7]] rfl (by (try simp only [List.map_toArray, List.map_cons, List.map_nil]); first | done | rfl | (simp only [List.length_drop, List.length_take]; rfl)) ?_; (with_reducible refine (spec_l4Update.calls k _ _ l0_0 a0_1 _ _ l0_2 a0_3 a0_4 a0_5 _ _ l0_6 _ _ l0_7 t229 _ ?side1 ?side2 ?side3 ?side4 ?side5 ?side6 ?side7 ?side8 A4.1).mono ?_); (case side1 => repeat (first | exact (zh zL.1 HB.1) | (with_reducible refine zi ?_ _) | (with_reducible refine zg ?_ _) | (with_reducible refine zj ?_))); (case side2 => exact HC0_0.1); (case side3 => repeat (first | exact (zh zN.1 HB.1) | (with_reducible refine zi ?_ _) | (with_reducible refine zg ?_ _) | (with_reducible refine zj ?_))); (case side4 => exact HC0_2.1); (case side5 => repeat (first | exact (zh zO.1 HB.1) | (with_reducible refine zi ?_ _) | (with_reducible refine zg ?_ _) | (with_reducible refine zj ?_))); (case side6 => exact HC0_6.1); (case side7 => repeat (first | exact (zh zP.1 HB.1) | (with_reducible refine zi ?_ _) | (with_reducible refine zg ?_ _) | (with_reducible refine zj ?_))); (case side8 => exact HC0_7.1); rintro e w9 ⟨rfl, hb⟩; refine ⟨_, rfl, ?_⟩; have n0_ := Aside0.mk (zo (g := gb227) (o := .cells #[.slice A0_0 l0_0.length c0_0, .int .i64 a0_1, .slice A0_2 l0_2.length c0_2, .int .i64 a0_3, .int .i64 a0_4, .int .i64 a0_5, .slice A0_6 l0_6.length c0_6, .slice A0_7 l0_7.length c0_7] 53 (0, 0)) (by (with_reducible repeat (first | refine zn ?_ _ | refine zq ?_ | refine zp ?_ _)); exact zH.1) hb); have n1_ := Aside0.mk (zf (by repeat (first | (with_reducible first | exact HB.1 | apply ze | apply zb | apply zd | refine zk ?_ zM.1) | exact HB.1)) hb); clear zH; clear HB; have zH := n0_; have HB := n1_; clear n0_ n1_; (try clear hb); (try clear hb2); (try clear hk); (try clear hi)))
  go_ret2
  exact ⟨by first | rfl | (simp [errW_none, errW_some] <;> rfl) | (simp [*, errW_none, errW_some] <;> rfl), by repeat (first | (with_reducible first | exact HB.1 | apply ze | apply zb | apply zd | refine zk ?_ zM.1) | exact HB.1)⟩
 ·
  replace c3 := Bool.eq_false_iff.mpr c3
  subst c3
  have H1 : (some ((⟨#[]⟩ : ByteArray), false)) = some (r1, r2) := by rw [if_neg (show ¬ (false = true) by decide)] at H; exact H
  clear H
  have H := H1
  clear H1
  simp only [Option.some.injEq, Prod.mk.injEq] at H
  obtain ⟨rfl, rfl⟩ := H
  go_enter Try.func32, Try.ntmps32
  go_wp2_with (first | ((with_reducible refine gate_dst (N := 1) rfl ?_); refine box_event ?hg (N := 1) ?hd (cs := #[.slice A0_0 l0_0.length c0_0, .int .i64 a0_1, .slice A0_2 l0_2.length c0_2, .int .i64 a0_3, .int .i64 a0_4, .int .i64 a0_5, .slice A0_6 l0_6.length c0_6, .slice A0_7 l0_7.length c0_7]) (t := 53) ?hr ?_; (case hd => rfl); (case hg => rfl); (case hr => first | (go_simp; done) | (go_simp; rfl)); intro gb227 hg w10 hbox hb; have n0_ := Aside0.mk (zf (by repeat (first | (with_reducible first | exact HB.1 | apply ze | apply zb | apply zd) | exact HB.1)) hb); have n1_ := Aside0.mk (hbox); have n2_ := Aside0.mk ((by rw [hg]; exact (zs (by repeat (first | (with_reducible first | exact HB.1 | apply ze | apply zb | apply zd) | exact HB.1))) : w.heap.size ≤ gb227)); have n3_ := Aside0.mk ((by rw [hg]; exact (zs (by repeat (first | (with_reducible first | exact HB.1 | apply ze | apply zb | apply zd) | exact HB.1))) : w.heap.size ≤ gb227)); clear HB; have HB := n0_; have zH := n1_; have GW227 := n2_; have zM := n3_; clear n0_ n1_ n2_ n3_; clear hb hbox hg; have hcz11_0 : w10.cell? ⟨gb227, 0, none⟩ = some (.slice A0_0 l0_0.length c0_0) := (za zH.1 0).trans rfl; have hcz11_1 : w10.cell? ⟨gb227, 1, none⟩ = some (.int .i64 a0_1) := (za zH.1 1).trans rfl; have hcz11_2 : w10.cell? ⟨gb227, 2, none⟩ = some (.slice A0_2 l0_2.length c0_2) := (za zH.1 2).trans rfl; have hcz11_3 : w10.cell? ⟨gb227, 3, none⟩ = some (.int .i64 a0_3) := (za zH.1 3).trans rfl; have hcz11_4 : w10.cell? ⟨gb227, 4, none⟩ = some (.int .i64 a0_4) := (za zH.1 4).trans rfl; have hcz11_5 : w10.cell? ⟨gb227, 5, none⟩ = some (.int .i64 a0_5) := (za zH.1 5).trans rfl; have hcz11_6 : w10.cell? ⟨gb227, 6, none⟩ = some (.slice A0_6 l0_6.length c0_6) := (za zH.1 6).trans rfl; have hcz11_7 : w10.cell? ⟨gb227, 7, none⟩ = some (.slice A0_7 l0_7.length c0_7) := (za zH.1 7).trans rfl; have hfz11_0 := zc zH.1 0; have hfz11_1 := zc zH.1 1; have hfz11_2 := zc zH.1 2; have hfz11_3 := zc zH.1 3; have hfz11_4 := zc zH.1 4; have hfz11_5 := zc zH.1 5; have hfz11_6 := zc zH.1 6; have hfz11_7 := zc zH.1 7) | ((with_reducible refine zr (f := 28) rfl ?_); refine zz (some 5) rfl rfl Try.func28 (by kernel_rfl) rfl #[.agg #[.slice A0_0 l0_0.length c0_0, .int .i64 a0_1, .slice A0_2 l0_2.length c0_2, .int .i64 a0_3, .int .i64 a0_4, .int .i64 a0_5, .slice A0_6 l0_6.length c0_6, .slice A0_7 l0_7.length c0_7]] rfl (by (try simp only [List.map_toArray, List.map_cons, List.map_nil]); first | done | rfl | (simp only [List.length_drop, List.length_take]; rfl)) ?_; (with_reducible refine (spec_GoodUpdate.calls k _ _ l0_0 a0_1 _ _ l0_2 a0_3 a0_4 a0_5 _ _ l0_6 _ _ l0_7 false _ ?side1 ?side2 ?side3 ?side4 ?side5 ?side6 ?side7 ?side8 A2.1).mono ?_); (case side1 => repeat (first | exact (zh zL.1 HB.1) | (with_reducible refine zi ?_ _) | (with_reducible refine zg ?_ _) | (with_reducible refine zj ?_))); (case side2 => exact HC0_0.1); (case side3 => repeat (first | exact (zh zN.1 HB.1) | (with_reducible refine zi ?_ _) | (with_reducible refine zg ?_ _) | (with_reducible refine zj ?_))); (case side4 => exact HC0_2.1); (case side5 => repeat (first | exact (zh zO.1 HB.1) | (with_reducible refine zi ?_ _) | (with_reducible refine zg ?_ _) | (with_reducible refine zj ?_))); (case side6 => exact HC0_6.1); (case side7 => repeat (first | exact (zh zP.1 HB.1) | (with_reducible refine zi ?_ _) | (with_reducible refine zg ?_ _) | (with_reducible refine zj ?_))); (case side8 => exact HC0_7.1); rintro e w12 ⟨rfl, hb⟩; refine ⟨_, rfl, ?_⟩; have n0_ := Aside0.mk (zo (g := gb227) (o := .cells #[.slice A0_0 l0_0.length c0_0, .int .i64 a0_1, .slice A0_2 l0_2.length c0_2, .int .i64 a0_3, .int .i64 a0_4, .int .i64 a0_5, .slice A0_6 l0_6.length c0_6, .slice A0_7 l0_7.length c0_7] 53 (0, 0)) (by (with_reducible repeat (first | refine zn ?_ _ | refine zq ?_ | refine zp ?_ _)); exact zH.1) hb); have n1_ := Aside0.mk (zf (by repeat (first | (with_reducible first | exact HB.1 | apply ze | apply zb | apply zd | refine zk ?_ zM.1) | exact HB.1)) hb); clear zH; clear HB; have zH := n0_; have HB := n1_; clear n0_ n1_; (try clear hb); (try clear hb2); (try clear hk); (try clear hi)))
  go_ret2
  exact ⟨by first | rfl | (simp [errW_none, errW_some] <;> rfl) | (simp [*, errW_none, errW_some] <;> rfl), by repeat (first | (with_reducible first | exact HB.1 | apply ze | apply zb | apply zd | refine zk ?_ zM.1) | exact HB.1)⟩

/-! ### impl_within: function 50 -/
def impl_within.f (a0 : Int) (a1 : Int) (a2 : Int) : Option (Bool) := if a0 ≥ a1 then (some (decide (a0 ≤ a2))) else (some false)
set_option maxHeartbeats 8000000 in
set_option maxRecDepth 100000 in
theorem impl_within.calls (a0 : Int) (a1 : Int) (a2 : Int) (r : Bool) (w : World) (h : impl_within.f a0 a1 a2 = some r) :
  Calls Try.prog 50 #[.int .i64 a0, .int .i64 a1, .int .i64 a2] w fun e w' => e = .returned (.bool r) ∧ Drawn0 w w' := by
 have H : (if a0 ≥ a1 then (some (decide (a0 ≤ a2))) else (some false)) = some r := h
 clear h
 by_cases c4 : a0 ≥ a1
 ·
  rw [if_pos c4] at H
  have c4b0 : decide (a1 ≤ a0) = true := decide_eq_true c4
  clear c4
  obtain rfl := Option.some.inj H
  go_enter Try.func50, Try.ntmps50
  go_wp2
  go_ret
  exact ⟨by first | rfl | (simp; done) | (simp [*]; done), by repeat (first | exact Drawn0.refl _ | apply Drawn0.step)⟩
 ·
  rw [if_neg c4] at H
  have c4b0 : decide (a1 ≤ a0) = false := decide_eq_false c4
  clear c4
  obtain rfl := Option.some.inj H
  go_enter Try.func50, Try.ntmps50
  go_wp2
  go_ret
  exact ⟨by first | rfl | (simp; done) | (simp [*]; done), by repeat (first | exact Drawn0.refl _ | apply Drawn0.step)⟩

/-! ### impl_isAsn: function 63 -/
def impl_isAsn.f (a0 : Int) : Option (Bool) := (impl_within.f a0 1 65535).bind fun t230 => (some t230)
set_option maxHeartbeats 8000000 in
set_option maxRecDepth 100000 in
theorem impl_isAsn.calls (a0 : Int) (r : Bool) (w : World) (h : impl_isAsn.f a0 = some r) :
  Calls Try.prog 63 #[.int .i64 a0] w fun e w' => e = .returned (.bool r) ∧ Drawn0 w w' := by
 have H : ((impl_within.f a0 1 65535).bind fun t230 => (some t230)) = some r := h
 clear h
 replace H := Option.bind_eq_some_iff.mp H
 obtain ⟨t230, A20, H⟩ := H
 replace H : (some t230) = some r := H
 have A2 := Aside0.mk A20
 clear A20
 obtain rfl := Option.some.inj H
 go_enter Try.func63, Try.ntmps63
 go_wp2_with (first | ((with_reducible refine zr (f := 50) rfl ?_); refine zz (some 4) rfl rfl Try.func50 (by kernel_rfl) rfl #[.int .i64 a0, .int .i64 1, .int .i64 65535] rfl (by (try simp only [List.map_toArray, List.map_cons, List.map_nil]); first | done | rfl | (simp only [List.length_drop, List.length_take]; rfl)) ?_; (with_reducible refine (impl_within.calls a0 1 65535 t230 _ A2.1).mono ?_); rintro e w' ⟨rfl, ⟨nd, rfl⟩⟩; refine ⟨_, rfl, ?_⟩))
 go_ret
 exact ⟨by first | rfl | (simp; done) | (simp [*]; done), by repeat (first | exact Drawn0.refl _ | apply Drawn0.step)⟩

/-! ### impl_isPath_1: function 100 -/
def impl_isPath_1.f (a0 : Int) : Option (Bool) := (impl_isAsn.f a0).bind fun t231 => (some (!t231))
set_option maxHeartbeats 8000000 in
set_option maxRecDepth 100000 in
theorem impl_isPath_1.calls (a0 : Int) (r : Bool) (w : World) (h : impl_isPath_1.f a0 = some r) :
  Calls Try.prog 100 #[.int .i64 a0] w fun e w' => e = .returned (.bool r) ∧ Drawn0 w w' := by
 have H : ((impl_isAsn.f a0).bind fun t231 => (some (!t231))) = some r := h
 clear h
 replace H := Option.bind_eq_some_iff.mp H
 obtain ⟨t231, A20, H⟩ := H
 replace H : (some (!t231)) = some r := H
 have A2 := Aside0.mk A20
 clear A20
 obtain rfl := Option.some.inj H
 go_enter Try.func100, Try.ntmps100
 go_wp2_with (first | ((with_reducible refine zr (f := 63) rfl ?_); refine zz (some 4) rfl rfl Try.func63 (by kernel_rfl) rfl #[.int .i64 a0] rfl (by (try simp only [List.map_toArray, List.map_cons, List.map_nil]); first | done | rfl | (simp only [List.length_drop, List.length_take]; rfl)) ?_; (with_reducible refine (impl_isAsn.calls a0 t231 _ A2.1).mono ?_); rintro e w' ⟨rfl, ⟨nd, rfl⟩⟩; refine ⟨_, rfl, ?_⟩))
 go_ret
 exact ⟨by first | rfl | (simp; done) | (simp [*]; done), by repeat (first | exact Drawn0.refl _ | apply Drawn0.step)⟩

end Go.Proofs.Ytlnfcobloolnnaa.PFnExactUpdateBytes
