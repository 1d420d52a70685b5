/- Go functions told by Lean functions, printed by a program. No condition but what each statement says. -/
import Derived.Test.YtlnfcobloolnnaaYFnPrependx1
import Derived.Test.YtlnfcobloolnnaaYFnPrependx9
import Derived.Test.YtlnfcobloolnnaaYFnPrependx11
import Derived.Test.YtlnfcobloolnnaaYFnPrependx13
namespace Go.Proofs.Ytlnfcobloolnnaa.PFnPrepend
open Go.RowKit Go.Proofs.YtlnfcobloolnnaaW.PrintWords Go.Proofs.YtlnfcobloolnnaaW.PrintLast Go.Proofs.YtlnfcobloolnnaaW.PrintMore
open List renaming setIfInBounds_toArray → kz, set_cons_zero → kj, set_cons_succ → kk, map_toArray → ke, map_cons → kd, map_nil → kc
open Aside0 renaming mk → ky
open Act renaming put → kv
open Option renaming bind_eq_some_iff → kh
open Nat renaming ne_of_lt → kg, ne_of_gt → kf
open Or renaming inl → kb, inr → ko
open Option.some renaming inj → kx
open Bool renaming eq_false_iff → km, true → ku, false → ks
set_option maxHeartbeats 8000000
set_option maxRecDepth 100000
open Go.Proofs.YtlnfcobloolnnaaW.PrintLast renaming any_of → zu, i64_w → zv, i32_w → zw, pure_ → zx, take_ofW → zH, goesL_ → zS, take_ → zT, one_of → zV, norm_ → zW, goes_ → zX
open Go.Proofs.YtlnfcobloolnnaaW.PrintMore.Kd renaming R_told → zK
open Go.Proofs.YtlnfcobloolnnaaW.PrintWords renaming blk_drewN → za, blk_alloc → zb, blk_drew → ze, below_set → zh, blk_cell → zi, pw_below_drewN → zk, below_drew1 → zl, blk_below → zm, below_alloc → zn, blk_far → zq, blk_frozen → zs, Aside0 → zt, blk_lt → zy, below_step → zA, blk_put → zD, below_size → zE, gate_callee → zG, gate_guard → zN, box_event → zP, gate_dst → zR
open Go.Proofs.YtlnfcobloolnnaaW.PrintWords.Kd renaming R_drewN → zc, R_alloc → zd, R_drew → zf, R_far → zg, R_below → zj, R_types → zo, R_mono → zp, R_reads' → zr, int → zz, C_drewN → zB, C_alloc → zC, C_drew → zF, R_new' → zL, R_base → zM, R_lt → zQ
open Go.Proofs.YtlnfcobloolnnaaW.PrintWords.LeO renaming none → zI, bind → zJ, ite → zO, refl → zU
attribute [local go_sem] max2_int min2_int max_two min_two max_three min_three max_four min_four
set_option linter.unusedVariables false
set_option linter.unusedSimpArgs false

attribute [local go_sem high] eqA35
/-! ### laws_FnPrepend: function 10 -/
mutual
def laws_FnPrepend.j0 : Nat → List Int → Int → Int → Bool → Bool → Int → List Int → Int → Int → Int → List Int → Int → List Int → Int → Int → Int → List Int → Option (Bool)
 | 0, _, _, _, _, _, _, _, _, _, _, _, _, _, _, _, _, _ => none
 | k + 1, x1, x6, x7, x9, x71, x465000, x465001, x465002, x465003, x465004, x465005, qI, qD, qJ, qK, qL, qM => if x71 = true then (some false) else (if x9 = true then ((impl_GoodAttrs.f k qI qD qJ qK qL qM).bind fun t492 => (if t492 = true then (if (qD.length : Int) = (wrap64 (x7 + (x465001.length : Int))) then (if 0 ≤ x7 then (if x7 ≤ (qD.length : Int) then ((laws_sameInts.f k (qD.drop (x7 : Int).toNat) x465001).bind fun t497 => (laws_FnPrepend.j1 k x1 x6 x7 (!t497) qI qD qJ qK qL qM)) else (none)) else (none)) else (laws_FnPrepend.j1 k x1 x6 x7 true qI qD qJ qK qL qM)) else (laws_FnPrepend.j1 k x1 x6 x7 true qI qD qJ qK qL qM))) else (laws_FnPrepend.j3 k x1))
def laws_FnPrepend.j3 : Nat → List Int → Option (Bool)
 | 0, _ => none
 | k + 1, x1 => (spec_DrawPrefixBytes.f x1).bind fun bt503 => ((impl_PrefixBytes.f k bt503.1 bt503.2).bind fun bt506 => ((spec_PrefixBytes.f k bt503.1 bt503.2).bind fun bt508 => (if (bt506.2 != bt508.2) = true then (laws_FnPrepend.j4 k x1 bt506.1 bt506.2 true bt503.1 bt503.2) else (laws_FnPrepend.j4 k x1 bt506.1 bt506.2 (bt506.1.toList != bt508.1.toList) bt503.1 bt503.2))))
def laws_FnPrepend.j4 : Nat → List Int → ByteArray → Bool → Bool → Int → Int → Option (Bool)
 | 0, _, _, _, _, _, _ => none
 | k + 1, x1, x15, x16, x129, x506000, x506001 => if x129 = true then (some false) else (if x16 = true then (if x15.size + 1 ≤ 9223372036854775807 then ((impl_TakePrefix.f k (x15 ++ (⟨#[120]⟩ : ByteArray)) 0).bind fun bt510 => (if bt510.2.2.2 = true then (if (!(bt510.1 == x506000) || (!(bt510.2.1 == x506001))) = true then (laws_FnPrepend.j5 k x1 true) else (laws_FnPrepend.j5 k x1 (bt510.2.2.1 != (x15.size : Int)))) else (laws_FnPrepend.j5 k x1 true))) else (none)) else ((spec_DrawTakePrefix.f k x1).bind fun bt527 => ((impl_TakePrefix.f k bt527.1 bt527.2).bind fun bt529 => ((spec_TakePrefix.f k bt527.1 bt527.2).bind fun bt534 => (if (bt529.2.2.2 == bt534.2.2.2) = true then (if (bt529.1 == bt534.1 && (bt529.2.1 == bt534.2.1)) = true then (some (bt529.2.2.1 == bt534.2.2.1)) else (some false)) else (some false))))))
def laws_FnPrepend.j5 : Nat → List Int → Bool → Option (Bool)
 | 0, _, _ => none
 | k + 1, x1, x150 => if x150 = true then (some false) else ((spec_DrawTakePrefix.f k x1).bind fun bt515 => ((impl_TakePrefix.f k bt515.1 bt515.2).bind fun bt517 => ((spec_TakePrefix.f k bt515.1 bt515.2).bind fun bt522 => (if (bt517.2.2.2 == bt522.2.2.2) = true then (if (bt517.1 == bt522.1 && (bt517.2.1 == bt522.2.1)) = true then (some (bt517.2.2.1 == bt522.2.2.1)) else (some false)) else (some false)))))
def laws_FnPrepend.j1 : Nat → List Int → Int → Int → Bool → Int → List Int → Int → Int → Int → List Int → Option (Bool)
 | 0, _, _, _, _, _, _, _, _, _, _ => none
 | k + 1, x1, x6, x7, x96, qI, qD, qJ, qK, qL, qM => if x96 = true then (some false) else (if 0 ≤ x7 then (if x7 ≤ (qD.length : Int) then ((some (qD.take (x7 : Int).toNat : List Int)).bind fun y498 => (laws_FnPrepend.l0 k x1 x6 y498 (y498.length : Int) 0)) else (none)) else (none))
def laws_FnPrepend.l0 : Nat → List Int → Int → List Int → Int → Int → Option (Bool)
 | 0, _, _, _, _, _ => none
 | k + 1, x1, x6, x100, x101, x102 => if x102 < x101 then (if 0 ≤ x102 then (if x102 < (x100.length : Int) then (if (rd x100 x102) = x6 then (laws_FnPrepend.l0 k x1 x6 x100 x101 (wrap64 (x102 + 1))) else (some false)) else (none)) else (none)) else (laws_FnPrepend.j3 k x1)
end
def laws_FnPrepend.f (k : Nat) (l0 : List Int) (l1 : List Int) : Option (Bool) := if (wrap64 ((l0.length : Int) + (l1.length : Int))) > 1048576 then (some true) else ((spec_DrawPrependPath.f k l0).bind fun bt452 => ((impl_PrependPath.f k bt452.1 bt452.2.1 bt452.2.2.1 bt452.2.2.2.1 bt452.2.2.2.2.1 bt452.2.2.2.2.2.1 bt452.2.2.2.2.2.2.1 bt452.2.2.2.2.2.2.2).bind fun bt465 => ((spec_PrependPath.f k bt452.1 bt452.2.1 bt452.2.2.1 bt452.2.2.2.1 bt452.2.2.2.2.1 bt452.2.2.2.2.2.1 bt452.2.2.2.2.2.2.1 bt452.2.2.2.2.2.2.2).bind fun bt477 => (if (bt465.2.2.2.2.2.2 != bt477.2.2.2.2.2.2) = true then (laws_FnPrepend.j0 k l1 bt452.2.2.2.2.2.2.1 bt452.2.2.2.2.2.2.2 bt465.2.2.2.2.2.2 true bt452.1 bt452.2.1 bt452.2.2.1 bt452.2.2.2.1 bt452.2.2.2.2.1 bt452.2.2.2.2.2.1 bt465.1 bt465.2.1 bt465.2.2.1 bt465.2.2.2.1 bt465.2.2.2.2.1 bt465.2.2.2.2.2.1) else ((laws_sameAttrs.f k bt465.1 bt465.2.1 bt465.2.2.1 bt465.2.2.2.1 bt465.2.2.2.2.1 bt465.2.2.2.2.2.1 bt477.1 bt477.2.1 bt477.2.2.1 bt477.2.2.2.1 bt477.2.2.2.2.1 bt477.2.2.2.2.2.1).bind fun t489 => (if t489 = true then ((impl_GoodAttrs.f k bt452.1 bt452.2.1 bt452.2.2.1 bt452.2.2.2.1 bt452.2.2.2.2.1 bt452.2.2.2.2.2.1).bind fun t490 => ((spec_GoodAttrs.f k bt452.1 bt452.2.1 bt452.2.2.1 bt452.2.2.2.1 bt452.2.2.2.2.1 bt452.2.2.2.2.2.1).bind fun t491 => (laws_FnPrepend.j0 k l1 bt452.2.2.2.2.2.2.1 bt452.2.2.2.2.2.2.2 bt465.2.2.2.2.2.2 (t490 != t491) bt452.1 bt452.2.1 bt452.2.2.1 bt452.2.2.2.1 bt452.2.2.2.2.1 bt452.2.2.2.2.2.1 bt465.1 bt465.2.1 bt465.2.2.1 bt465.2.2.2.1 bt465.2.2.2.2.1 bt465.2.2.2.2.2.1))) else (laws_FnPrepend.j0 k l1 bt452.2.2.2.2.2.2.1 bt452.2.2.2.2.2.2.2 bt465.2.2.2.2.2.2 true bt452.1 bt452.2.1 bt452.2.2.1 bt452.2.2.2.1 bt452.2.2.2.2.1 bt452.2.2.2.2.2.1 bt465.1 bt465.2.1 bt465.2.2.1 bt465.2.2.2.1 bt465.2.2.2.2.1 bt465.2.2.2.2.2.1)))))))
theorem laws_FnPrepend.mono_l : ∀ k, (∀ y0 y1 y2 y3 y4 y5 y6 y7 y8 y9 y10 y11 y12 y13 y14 y15 y16, LeO (laws_FnPrepend.j0 k y0 y1 y2 y3 y4 y5 y6 y7 y8 y9 y10 y11 y12 y13 y14 y15 y16) (laws_FnPrepend.j0 (k + 1) y0 y1 y2 y3 y4 y5 y6 y7 y8 y9 y10 y11 y12 y13 y14 y15 y16)) ∧ (∀ y0, LeO (laws_FnPrepend.j3 k y0) (laws_FnPrepend.j3 (k + 1) y0)) ∧ (∀ y0 y1 y2 y3 y4 y5, LeO (laws_FnPrepend.j4 k y0 y1 y2 y3 y4 y5) (laws_FnPrepend.j4 (k + 1) y0 y1 y2 y3 y4 y5)) ∧ (∀ y0 y1, LeO (laws_FnPrepend.j5 k y0 y1) (laws_FnPrepend.j5 (k + 1) y0 y1)) ∧ (∀ y0 y1 y2 y3 y4 y5 y6 y7 y8 y9, LeO (laws_FnPrepend.j1 k y0 y1 y2 y3 y4 y5 y6 y7 y8 y9) (laws_FnPrepend.j1 (k + 1) y0 y1 y2 y3 y4 y5 y6 y7 y8 y9)) ∧ (∀ y0 y1 y2 y3 y4, LeO (laws_FnPrepend.l0 k y0 y1 y2 y3 y4) (laws_FnPrepend.l0 (k + 1) y0 y1 y2 y3 y4))
 | 0 => ⟨fun _ _ _ _ _ _ _ _ _ _ _ _ _ _ _ _ _ r h => by simp [laws_FnPrepend.j0] at h, fun _ r h => by simp [laws_FnPrepend.j3] at h, fun _ _ _ _ _ _ r h => by simp [laws_FnPrepend.j4] at h, fun _ _ r h => by simp [laws_FnPrepend.j5] at h, fun _ _ _ _ _ _ _ _ _ _ r h => by simp [laws_FnPrepend.j1] at h, fun _ _ _ _ _ r h => by simp [laws_FnPrepend.l0] at h⟩
 | k + 1 => by
  obtain ⟨ih0, ih1, ih2, ih3, ih4, ih5⟩ := laws_FnPrepend.mono_l k
  refine ⟨?_, ?_, ?_, ?_, ?_, ?_⟩
  ·
   intro y0 y1 y2 y3 y4 y5 y6 y7 y8 y9 y10 y11 y12 y13 y14 y15 y16
   unfold laws_FnPrepend.j0
   repeat' first
   | (with_reducible exact ih1 _)
   | (with_reducible exact ih4 _ _ _ _ _ _ _ _ _ _)
   | (with_reducible exact impl_GoodAttrs.mono _ _ _ _ _ _ _)
   | (with_reducible exact laws_sameInts.mono _ _ _)
   | (with_reducible exact zU _)
   | (with_reducible refine zO ?_ ?_)
   | (with_reducible refine zJ ?_ (fun _ => ?_))
  ·
   intro y0
   unfold laws_FnPrepend.j3
   repeat' first
   | (with_reducible exact ih2 _ _ _ _ _ _)
   | (with_reducible exact impl_PrefixBytes.mono _ _ _)
   | (with_reducible exact spec_PrefixBytes.mono _ _ _)
   | (with_reducible exact zU _)
   | (with_reducible refine zO ?_ ?_)
   | (with_reducible refine zJ ?_ (fun _ => ?_))
  ·
   intro y0 y1 y2 y3 y4 y5
   unfold laws_FnPrepend.j4
   repeat' first
   | (with_reducible exact ih3 _ _)
   | (with_reducible exact impl_TakePrefix.mono _ _ _)
   | (with_reducible exact spec_DrawTakePrefix.mono _ _)
   | (with_reducible exact spec_TakePrefix.mono _ _ _)
   | (with_reducible exact zU _)
   | (with_reducible refine zO ?_ ?_)
   | (with_reducible refine zJ ?_ (fun _ => ?_))
  ·
   intro y0 y1
   unfold laws_FnPrepend.j5
   repeat' first
   | (with_reducible exact impl_TakePrefix.mono _ _ _)
   | (with_reducible exact spec_DrawTakePrefix.mono _ _)
   | (with_reducible exact spec_TakePrefix.mono _ _ _)
   | (with_reducible exact zU _)
   | (with_reducible refine zO ?_ ?_)
   | (with_reducible refine zJ ?_ (fun _ => ?_))
  ·
   intro y0 y1 y2 y3 y4 y5 y6 y7 y8 y9
   unfold laws_FnPrepend.j1
   repeat' first
   | (with_reducible exact ih5 _ _ _ _ _)
   | (with_reducible exact zU _)
   | (with_reducible refine zO ?_ ?_)
   | (with_reducible refine zJ ?_ (fun _ => ?_))
  ·
   intro y0 y1 y2 y3 y4
   unfold laws_FnPrepend.l0
   repeat' first
   | (with_reducible exact ih1 _)
   | (with_reducible exact ih5 _ _ _ _ _)
   | (with_reducible exact zU _)
   | (with_reducible refine zO ?_ ?_)
theorem laws_FnPrepend.mono : ∀ a0 a1 k, LeO (laws_FnPrepend.f k a0 a1) (laws_FnPrepend.f (k + 1) a0 a1) := by
 intro a0 a1 k
 obtain ⟨ih0, ih1, ih2, ih3, ih4, ih5⟩ := laws_FnPrepend.mono_l k
 unfold laws_FnPrepend.f
 repeat' first
   | (with_reducible exact ih0 _ _ _ _ _ _ _ _ _ _ _ _ _ _ _ _ _)
   | (with_reducible exact impl_GoodAttrs.mono _ _ _ _ _ _ _)
   | (with_reducible exact impl_PrependPath.mono _ _ _ _ _ _ _ _ _)
   | (with_reducible exact laws_sameAttrs.mono _ _ _ _ _ _ _ _ _ _ _ _ _)
   | (with_reducible exact spec_DrawPrependPath.mono _ _)
   | (with_reducible exact spec_GoodAttrs.mono _ _ _ _ _ _ _)
   | (with_reducible exact spec_PrependPath.mono _ _ _ _ _ _ _ _ _)
   | (with_reducible exact zU _)
   | (with_reducible refine zO ?_ ?_)
   | (with_reducible refine zJ ?_ (fun _ => ?_))
def laws_FnPrepend.T6 : Bool × List (List Nat × List Nat) := (true, [([], []), ([], []), ([0, 1], [0, 1]), ([2], [2]), ([3], [3]), ([3], [3]), ([4, 5, 3, 3], [3, 4, 5]), ([6, 3], [3, 6]), ([3, 7], [3, 7]), ([8, 6], [8]), ([9], [9]), ([10, 9, 9], [9, 10]), ([9], [9]), ([12, 11, 9], [9, 12]), ([11, 13, 9], [9, 11, 13]), ([9, 14], [9, 14])])
def laws_FnPrepend.B6 : List Nat := [0, 0, 3, 7, 15, 15, 63, 127, 255, 511, 1023, 2047, 1023, 8191, 16383, 32767]
theorem laws_FnPrepend.tab6 : rtab .any (opsOf Try.f10 6) = laws_FnPrepend.T6 := by kernel_rfl
theorem laws_FnPrepend.bits6 : waitsOk laws_FnPrepend.T6.2 laws_FnPrepend.B6 = true := by kernel_rfl
def laws_FnPrepend.T9 : Bool × List (List Nat × List Nat) := (true, [([], []), ([0], [0]), ([1], [1]), ([2, 1], [2]), ([3], [3]), ([4, 3], [3, 4]), ([5, 3], [3, 5]), ([3], [3]), ([3], [3]), ([8, 3], [3, 8]), ([9, 3], [3, 9]), ([7, 10, 3], [3, 7, 10]), ([6, 11, 3], [3, 6, 11]), ([3, 12], [3, 12]), ([13, 3], [13]), ([14], [14]), ([15, 14], [14, 15]), ([14], [14]), ([16, 17, 14], [14, 16, 17]), ([14], [14]), ([19, 14], [14, 19]), ([18, 20, 14, 14], [14, 18, 20]), ([21, 14], [14, 21]), ([14, 22], [14, 22])])
def laws_FnPrepend.B9 : List Nat := [0, 1, 3, 7, 15, 31, 63, 15, 15, 271, 783, 1935, 4095, 8191, 16383, 32767, 65535, 32767, 262143, 32767, 557055, 2097151, 4194303, 8388607]
theorem laws_FnPrepend.tab9 : rtab .any (opsOf Try.f10 9) = laws_FnPrepend.T9 := by kernel_rfl
theorem laws_FnPrepend.bits9 : waitsOk laws_FnPrepend.T9.2 laws_FnPrepend.B9 = true := by kernel_rfl
theorem laws_FnPrepend.calls (k : Nat) (A0 : Option Addr) (c0 : Nat) (l0 : List Int) (A1 : Option Addr) (c1 : Nat) (l1 : List Int) (r : Bool) (w : World) (hr0 : Kd.C (zz .u8) w A0 l0.length l0) (hc0 : l0.length ≤ c0) (hr1 : Kd.C (zz .u8) w A1 l1.length l1) (hc1 : l1.length ≤ c1) (hT : r = true) (h : laws_FnPrepend.f k l0 l1 = some r) :
  Calls Try.prog 10 #[.slice A0 l0.length c0, .slice A1 l1.length c1] w fun e w' => e = .returned (.bool r) ∧ Below w.heap.size w w' := by
 have hu27 := Try.underlying27
 have hu35 := Try.underlying35
 have HR0 := ky hr0
 have HC0 := ky hc0
 clear hr0 hc0
 have HR1 := ky hr1
 have HC1 := ky hc1
 clear hr1 hc1
 have HB := ky (Below.refl w.heap.size w)
 have H : (if (wrap64 ((l0.length : Int) + (l1.length : Int))) > 1048576 then (some true) else ((spec_DrawPrependPath.f k l0).bind fun bt452 => ((impl_PrependPath.f k bt452.1 bt452.2.1 bt452.2.2.1 bt452.2.2.2.1 bt452.2.2.2.2.1 bt452.2.2.2.2.2.1 bt452.2.2.2.2.2.2.1 bt452.2.2.2.2.2.2.2).bind fun bt465 => ((spec_PrependPath.f k bt452.1 bt452.2.1 bt452.2.2.1 bt452.2.2.2.1 bt452.2.2.2.2.1 bt452.2.2.2.2.2.1 bt452.2.2.2.2.2.2.1 bt452.2.2.2.2.2.2.2).bind fun bt477 => (if (bt465.2.2.2.2.2.2 != bt477.2.2.2.2.2.2) = true then (laws_FnPrepend.j0 k l1 bt452.2.2.2.2.2.2.1 bt452.2.2.2.2.2.2.2 bt465.2.2.2.2.2.2 true bt452.1 bt452.2.1 bt452.2.2.1 bt452.2.2.2.1 bt452.2.2.2.2.1 bt452.2.2.2.2.2.1 bt465.1 bt465.2.1 bt465.2.2.1 bt465.2.2.2.1 bt465.2.2.2.2.1 bt465.2.2.2.2.2.1) else ((laws_sameAttrs.f k bt465.1 bt465.2.1 bt465.2.2.1 bt465.2.2.2.1 bt465.2.2.2.2.1 bt465.2.2.2.2.2.1 bt477.1 bt477.2.1 bt477.2.2.1 bt477.2.2.2.1 bt477.2.2.2.2.1 bt477.2.2.2.2.2.1).bind fun t489 => (if t489 = true then ((impl_GoodAttrs.f k bt452.1 bt452.2.1 bt452.2.2.1 bt452.2.2.2.1 bt452.2.2.2.2.1 bt452.2.2.2.2.2.1).bind fun t490 => ((spec_GoodAttrs.f k bt452.1 bt452.2.1 bt452.2.2.1 bt452.2.2.2.1 bt452.2.2.2.2.1 bt452.2.2.2.2.2.1).bind fun t491 => (laws_FnPrepend.j0 k l1 bt452.2.2.2.2.2.2.1 bt452.2.2.2.2.2.2.2 bt465.2.2.2.2.2.2 (t490 != t491) bt452.1 bt452.2.1 bt452.2.2.1 bt452.2.2.2.1 bt452.2.2.2.2.1 bt452.2.2.2.2.2.1 bt465.1 bt465.2.1 bt465.2.2.1 bt465.2.2.2.1 bt465.2.2.2.2.1 bt465.2.2.2.2.2.1))) else (laws_FnPrepend.j0 k l1 bt452.2.2.2.2.2.2.1 bt452.2.2.2.2.2.2.2 bt465.2.2.2.2.2.2 true bt452.1 bt452.2.1 bt452.2.2.1 bt452.2.2.2.1 bt452.2.2.2.2.1 bt452.2.2.2.2.2.1 bt465.1 bt465.2.1 bt465.2.2.1 bt465.2.2.2.1 bt465.2.2.2.2.1 bt465.2.2.2.2.2.1)))))))) = some r := h
 clear h
 by_cases c3 : (wrap64 ((l0.length : Int) + (l1.length : Int))) > 1048576
 ·
  rw [if_pos c3] at H
  have c3b0 : decide (1048576 < (wrap64 ((l0.length : Int) + (l1.length : Int)))) = true := decide_eq_true c3
  clear c3
  obtain rfl := kx H
  go_enter Try.func10, Try.ntmps10
  go_wp2
  go_ret
  exact ⟨by rfl, by exact HB.1⟩
 ·
  rw [if_neg c3] at H
  have c3b0 : decide (1048576 < (wrap64 ((l0.length : Int) + (l1.length : Int)))) = false := decide_eq_false c3
  clear c3
  replace H := kh.mp H
  obtain ⟨⟨t452, t453, t456, t457, t458, t459, t462, t463⟩, A40, H⟩ := H
  replace H : ((impl_PrependPath.f k t452 t453 t456 t457 t458 t459 t462 t463).bind fun bt465 => ((spec_PrependPath.f k t452 t453 t456 t457 t458 t459 t462 t463).bind fun bt477 => (if (bt465.2.2.2.2.2.2 != bt477.2.2.2.2.2.2) = true then (laws_FnPrepend.j0 k l1 t462 t463 bt465.2.2.2.2.2.2 true t452 t453 t456 t457 t458 t459 bt465.1 bt465.2.1 bt465.2.2.1 bt465.2.2.2.1 bt465.2.2.2.2.1 bt465.2.2.2.2.2.1) else ((laws_sameAttrs.f k bt465.1 bt465.2.1 bt465.2.2.1 bt465.2.2.2.1 bt465.2.2.2.2.1 bt465.2.2.2.2.2.1 bt477.1 bt477.2.1 bt477.2.2.1 bt477.2.2.2.1 bt477.2.2.2.2.1 bt477.2.2.2.2.2.1).bind fun t489 => (if t489 = true then ((impl_GoodAttrs.f k t452 t453 t456 t457 t458 t459).bind fun t490 => ((spec_GoodAttrs.f k t452 t453 t456 t457 t458 t459).bind fun t491 => (laws_FnPrepend.j0 k l1 t462 t463 bt465.2.2.2.2.2.2 (t490 != t491) t452 t453 t456 t457 t458 t459 bt465.1 bt465.2.1 bt465.2.2.1 bt465.2.2.2.1 bt465.2.2.2.2.1 bt465.2.2.2.2.2.1))) else (laws_FnPrepend.j0 k l1 t462 t463 bt465.2.2.2.2.2.2 true t452 t453 t456 t457 t458 t459 bt465.1 bt465.2.1 bt465.2.2.1 bt465.2.2.2.1 bt465.2.2.2.2.1 bt465.2.2.2.2.2.1)))))) = some r := H
  have A4 := ky A40
  clear A40
  replace H := kh.mp H
  obtain ⟨⟨t465, t466, t469, t470, t471, t472, t475⟩, A50, H⟩ := H
  replace H : ((spec_PrependPath.f k t452 t453 t456 t457 t458 t459 t462 t463).bind fun bt477 => (if (t475 != bt477.2.2.2.2.2.2) = true then (laws_FnPrepend.j0 k l1 t462 t463 t475 true t452 t453 t456 t457 t458 t459 t465 t466 t469 t470 t471 t472) else ((laws_sameAttrs.f k t465 t466 t469 t470 t471 t472 bt477.1 bt477.2.1 bt477.2.2.1 bt477.2.2.2.1 bt477.2.2.2.2.1 bt477.2.2.2.2.2.1).bind fun t489 => (if t489 = true then ((impl_GoodAttrs.f k t452 t453 t456 t457 t458 t459).bind fun t490 => ((spec_GoodAttrs.f k t452 t453 t456 t457 t458 t459).bind fun t491 => (laws_FnPrepend.j0 k l1 t462 t463 t475 (t490 != t491) t452 t453 t456 t457 t458 t459 t465 t466 t469 t470 t471 t472))) else (laws_FnPrepend.j0 k l1 t462 t463 t475 true t452 t453 t456 t457 t458 t459 t465 t466 t469 t470 t471 t472))))) = some r := H
  have A5 := ky A50
  clear A50
  replace H := kh.mp H
  obtain ⟨⟨t477, t478, t481, t482, t483, t484, t487⟩, A60, H⟩ := H
  replace H : (if (t475 != t487) = true then (laws_FnPrepend.j0 k l1 t462 t463 t475 true t452 t453 t456 t457 t458 t459 t465 t466 t469 t470 t471 t472) else ((laws_sameAttrs.f k t465 t466 t469 t470 t471 t472 t477 t478 t481 t482 t483 t484).bind fun t489 => (if t489 = true then ((impl_GoodAttrs.f k t452 t453 t456 t457 t458 t459).bind fun t490 => ((spec_GoodAttrs.f k t452 t453 t456 t457 t458 t459).bind fun t491 => (laws_FnPrepend.j0 k l1 t462 t463 t475 (t490 != t491) t452 t453 t456 t457 t458 t459 t465 t466 t469 t470 t471 t472))) else (laws_FnPrepend.j0 k l1 t462 t463 t475 true t452 t453 t456 t457 t458 t459 t465 t466 t469 t470 t471 t472)))) = some r := H
  have A6 := ky A60
  clear A60
  have HC7 := ky H
  clear H
  go_enter Try.func10, Try.ntmps10
  go_upto_region 6 with (first | ((with_reducible refine zG (f := 38) rfl ?_); refine zS (some 38) rfl rfl Try.func38 (by kernel_rfl) rfl #[.slice A0 l0.length c0] rfl (by (try simp only [ke, kd, kc]); rfl) ?_; (with_reducible refine (spec_DrawPrependPath.calls k _ _ l0 t452 t453 t456 t457 t458 t459 t462 t463 _ ?side1 ?side2 A4.1).mono ?_); (case side1 => repeat (exact HR0.1)); (case side2 => exact HC0.1); rintro e w8 ⟨v454, v460, rfl, ho0, ho1, hb⟩; refine ⟨_, rfl, ?_⟩; have qj := ky (Kd.R_lower ho0 (zE HB.1)); have qk := ky (Kd.R_lower ho1 (zE HB.1)); replace HB := ky (zA HB.1 hb); (try clear hb); (try clear hb2); (try clear hk); (try clear hi); (try clear ho0); (try clear ho1)) | ((with_reducible refine zR (N := 5) rfl ?_); (try (refine zN (by rfl) ?_; dsimp only)); refine zP ?hg (N := 5) ?hd (cs := #[.int .i64 0, .slice none 0 0, .int .i64 0, .int .i64 0, .int .i64 0, .slice none 0 0]) (t := 27) ?hr ?_; (case hd => rfl); (case hg => rfl); (case hr => (go_simp; done)); intro gb464 hg w9 hbox hb; replace qj := ky (zj qj.1 hb); replace qk := ky (zj qk.1 hb); have zZ := ky hbox; have qi := ky ((by rw [hg]; exact (zE HB.1) : w.heap.size ≤ gb464)); replace HB := ky (zA HB.1 hb); clear hb hbox hg; have hcz10_0 : w9.cell? ⟨gb464, 0, none⟩ = some (.int .i64 0) := (zi zZ.1 0).trans rfl; have hcz10_1 : w9.cell? ⟨gb464, 1, none⟩ = some (.slice none 0 0) := (zi zZ.1 1).trans rfl; have hcz10_2 : w9.cell? ⟨gb464, 2, none⟩ = some (.int .i64 0) := (zi zZ.1 2).trans rfl; have hcz10_3 : w9.cell? ⟨gb464, 3, none⟩ = some (.int .i64 0) := (zi zZ.1 3).trans rfl; have hcz10_4 : w9.cell? ⟨gb464, 4, none⟩ = some (.int .i64 0) := (zi zZ.1 4).trans rfl; have hcz10_5 : w9.cell? ⟨gb464, 5, none⟩ = some (.slice none 0 0) := (zi zZ.1 5).trans rfl; have hfz10_0 := zs zZ.1 0; have hfz10_1 := zs zZ.1 1; have hfz10_2 := zs zZ.1 2; have hfz10_3 := zs zZ.1 3; have hfz10_4 := zs zZ.1 4; have hfz10_5 := zs zZ.1 5; obtain ⟨Ao11, co11, eo11⟩ := Kd.R_slice qj.1; subst eo11; obtain ⟨Ao12, co12, eo12⟩ := Kd.R_slice qk.1; subst eo12) | ((with_reducible refine zG (f := 24) rfl ?_); refine zS (some 46) rfl rfl Try.func24 (by kernel_rfl) rfl #[.agg #[.int .i64 t452, .slice Ao11 t453.length co11, .int .i64 t456, .int .i64 t457, .int .i64 t458, .slice Ao12 t459.length co12], .int .i64 t462, .int .i64 t463] rfl (by (try simp only [ke, kd, kc]); rfl) ?_; (with_reducible refine (impl_PrependPath.calls k t452 _ _ t453 t456 t457 t458 _ _ t459 t462 t463 t465 t466 t469 t470 t471 t472 t475 _ ?side1 ?side2 ?side3 ?side4 A5.1).mono ?_); (case side1 => refine (zr (e := 3) (base := w.heap.size) (ok := fun k_ => some k_ ≠ (.slice Ao12 t459.length co12 : Value).ownBlock) (n := t453.length) (c := co11) ?_).2.2; exact (by exact (zp (zg (p := ⟨gb464, 5, none⟩) (zg (p := ⟨gb464, 4, none⟩) (zg (p := ⟨gb464, 3, none⟩) (zg (p := ⟨gb464, 2, none⟩) (zg (p := ⟨gb464, 1, none⟩) (zg (p := ⟨gb464, 0, none⟩) (zo qj.1 zZ.1 (by decide)) (fun _ hk => hk.2) (.int .i64 t452)) (fun _ hk => hk.2) (.slice Ao11 t453.length co11)) (fun _ hk => hk.2) (.int .i64 t456)) (fun _ hk => hk.2) (.int .i64 t457)) (fun _ hk => hk.2) (.int .i64 t458)) (fun _ hk => hk.2) (.slice Ao12 t459.length co12)) (fun _ h_ => h_.1)))); (case side2 => exact (zr qj.1).2.1); (case side3 => refine (zr (e := 3) (base := w.heap.size) (ok := fun k_ => some k_ ≠ (.slice Ao11 t453.length co11 : Value).ownBlock) (n := t459.length) (c := co12) ?_).2.2; exact (by exact (zp (zg (p := ⟨gb464, 5, none⟩) (zg (p := ⟨gb464, 4, none⟩) (zg (p := ⟨gb464, 3, none⟩) (zg (p := ⟨gb464, 2, none⟩) (zg (p := ⟨gb464, 1, none⟩) (zg (p := ⟨gb464, 0, none⟩) (zo qk.1 zZ.1 (by decide)) (fun _ hk => hk.2) (.int .i64 t452)) (fun _ hk => hk.2) (.slice Ao11 t453.length co11)) (fun _ hk => hk.2) (.int .i64 t456)) (fun _ hk => hk.2) (.int .i64 t457)) (fun _ hk => hk.2) (.int .i64 t458)) (fun _ hk => hk.2) (.slice Ao12 t459.length co12)) (fun _ h_ => h_.1)))); (case side4 => exact (zr qk.1).2.1); rintro e w13 ⟨v467, v473, rfl, ho0, ho1, hb⟩; refine ⟨_, rfl, ?_⟩; have qo := ky (Kd.R_lower (zL (zL ho0 (zQ (by exact (zp (zg (p := ⟨gb464, 5, none⟩) (zg (p := ⟨gb464, 4, none⟩) (zg (p := ⟨gb464, 3, none⟩) (zg (p := ⟨gb464, 2, none⟩) (zg (p := ⟨gb464, 1, none⟩) (zg (p := ⟨gb464, 0, none⟩) (zo qj.1 zZ.1 (by decide)) (fun _ hk => hk.2) (.int .i64 t452)) (fun _ hk => hk.2) (.slice Ao11 t453.length co11)) (fun _ hk => hk.2) (.int .i64 t456)) (fun _ hk => hk.2) (.int .i64 t457)) (fun _ hk => hk.2) (.int .i64 t458)) (fun _ hk => hk.2) (.slice Ao12 t459.length co12)) (fun _ h_ => h_.1))))) (zQ (by exact (zp (zg (p := ⟨gb464, 5, none⟩) (zg (p := ⟨gb464, 4, none⟩) (zg (p := ⟨gb464, 3, none⟩) (zg (p := ⟨gb464, 2, none⟩) (zg (p := ⟨gb464, 1, none⟩) (zg (p := ⟨gb464, 0, none⟩) (zo qk.1 zZ.1 (by decide)) (fun _ hk => hk.2) (.int .i64 t452)) (fun _ hk => hk.2) (.slice Ao11 t453.length co11)) (fun _ hk => hk.2) (.int .i64 t456)) (fun _ hk => hk.2) (.int .i64 t457)) (fun _ hk => hk.2) (.int .i64 t458)) (fun _ hk => hk.2) (.slice Ao12 t459.length co12)) (fun _ h_ => h_.1))))) (zE (by repeat ((with_reducible first | exact HB.1 | refine zh ?_ qi.1))))); have qp := ky (Kd.R_lower (zL (zL ho1 (zQ (by exact (zp (zg (p := ⟨gb464, 5, none⟩) (zg (p := ⟨gb464, 4, none⟩) (zg (p := ⟨gb464, 3, none⟩) (zg (p := ⟨gb464, 2, none⟩) (zg (p := ⟨gb464, 1, none⟩) (zg (p := ⟨gb464, 0, none⟩) (zo qj.1 zZ.1 (by decide)) (fun _ hk => hk.2) (.int .i64 t452)) (fun _ hk => hk.2) (.slice Ao11 t453.length co11)) (fun _ hk => hk.2) (.int .i64 t456)) (fun _ hk => hk.2) (.int .i64 t457)) (fun _ hk => hk.2) (.int .i64 t458)) (fun _ hk => hk.2) (.slice Ao12 t459.length co12)) (fun _ h_ => h_.1))))) (zQ (by exact (zp (zg (p := ⟨gb464, 5, none⟩) (zg (p := ⟨gb464, 4, none⟩) (zg (p := ⟨gb464, 3, none⟩) (zg (p := ⟨gb464, 2, none⟩) (zg (p := ⟨gb464, 1, none⟩) (zg (p := ⟨gb464, 0, none⟩) (zo qk.1 zZ.1 (by decide)) (fun _ hk => hk.2) (.int .i64 t452)) (fun _ hk => hk.2) (.slice Ao11 t453.length co11)) (fun _ hk => hk.2) (.int .i64 t456)) (fun _ hk => hk.2) (.int .i64 t457)) (fun _ hk => hk.2) (.int .i64 t458)) (fun _ hk => hk.2) (.slice Ao12 t459.length co12)) (fun _ h_ => h_.1))))) (zE (by repeat ((with_reducible first | exact HB.1 | refine zh ?_ qi.1))))); replace qj := ky (zp (zK (zK (Kd.R_old (by exact (zp (zg (p := ⟨gb464, 5, none⟩) (zg (p := ⟨gb464, 4, none⟩) (zg (p := ⟨gb464, 3, none⟩) (zg (p := ⟨gb464, 2, none⟩) (zg (p := ⟨gb464, 1, none⟩) (zg (p := ⟨gb464, 0, none⟩) (zo qj.1 zZ.1 (by decide)) (fun _ hk => hk.2) (.int .i64 t452)) (fun _ hk => hk.2) (.slice Ao11 t453.length co11)) (fun _ hk => hk.2) (.int .i64 t456)) (fun _ hk => hk.2) (.int .i64 t457)) (fun _ hk => hk.2) (.int .i64 t458)) (fun _ hk => hk.2) (.slice Ao12 t459.length co12)) (fun _ h_ => h_.1))) hb) (zM ho0)) (zM ho1)) (fun _ h_ => h_.1)); replace qk := ky (zp (zK (zK (Kd.R_old (by exact (zp (zg (p := ⟨gb464, 5, none⟩) (zg (p := ⟨gb464, 4, none⟩) (zg (p := ⟨gb464, 3, none⟩) (zg (p := ⟨gb464, 2, none⟩) (zg (p := ⟨gb464, 1, none⟩) (zg (p := ⟨gb464, 0, none⟩) (zo qk.1 zZ.1 (by decide)) (fun _ hk => hk.2) (.int .i64 t452)) (fun _ hk => hk.2) (.slice Ao11 t453.length co11)) (fun _ hk => hk.2) (.int .i64 t456)) (fun _ hk => hk.2) (.int .i64 t457)) (fun _ hk => hk.2) (.int .i64 t458)) (fun _ hk => hk.2) (.slice Ao12 t459.length co12)) (fun _ h_ => h_.1))) hb) (zM ho0)) (zM ho1)) (fun _ h_ => h_.1)); replace zZ := ky (zm (g := gb464) (o := .cells #[.int .i64 t452, .slice Ao11 t453.length co11, .int .i64 t456, .int .i64 t457, .int .i64 t458, .slice Ao12 t459.length co12] 27 (0, 0)) (by refine zD (cs := #[.int .i64 t452, .slice Ao11 t453.length co11, .int .i64 t456, .int .i64 t457, .int .i64 t458, .slice none 0 0]) ?_ 5 _ rfl; refine zD (cs := #[.int .i64 t452, .slice Ao11 t453.length co11, .int .i64 t456, .int .i64 t457, .int .i64 0, .slice none 0 0]) ?_ 4 _ rfl; refine zD (cs := #[.int .i64 t452, .slice Ao11 t453.length co11, .int .i64 t456, .int .i64 0, .int .i64 0, .slice none 0 0]) ?_ 3 _ rfl; refine zD (cs := #[.int .i64 t452, .slice Ao11 t453.length co11, .int .i64 0, .int .i64 0, .int .i64 0, .slice none 0 0]) ?_ 2 _ rfl; refine zD (cs := #[.int .i64 t452, .slice none 0 0, .int .i64 0, .int .i64 0, .int .i64 0, .slice none 0 0]) ?_ 1 _ rfl; refine zD (cs := #[.int .i64 0, .slice none 0 0, .int .i64 0, .int .i64 0, .int .i64 0, .slice none 0 0]) ?_ 0 _ rfl; exact zZ.1) hb); replace HB := ky (zA (by repeat ((with_reducible first | exact HB.1 | refine zh ?_ qi.1))) hb); (try clear hb); (try clear hb2); (try clear hk); (try clear hi); (try clear ho0); (try clear ho1)) | ((with_reducible refine zR (N := 8) rfl ?_); (try (refine zN (by rfl) ?_; dsimp only)); refine zP ?hg (N := 8) ?hd (cs := #[.int .i64 0, .slice none 0 0, .int .i64 0, .int .i64 0, .int .i64 0, .slice none 0 0]) (t := 27) ?hr ?_; (case hd => rfl); (case hg => rfl); (case hr => (go_simp; done)); intro gb476 hg w14 hbox hb; replace qj := ky (zj qj.1 hb); replace qk := ky (zj qk.1 hb); replace qo := ky (zj qo.1 hb); replace qp := ky (zj qp.1 hb); have zY := ky hbox; have ql := ky ((by rw [hg]; exact (zE HB.1) : w.heap.size ≤ gb476)); replace HB := ky (zA HB.1 hb); have qC := ky ((by rw [hg]; exact kg (zy (g := gb464) (o := .cells #[.int .i64 t452, .slice Ao11 t453.length co11, .int .i64 t456, .int .i64 t457, .int .i64 t458, .slice Ao12 t459.length co12] 27 (0, 0)) zZ.1) : gb464 ≠ gb476)); have NB476_464 := ky ((by rw [hg]; exact kf (zy (g := gb464) (o := .cells #[.int .i64 t452, .slice Ao11 t453.length co11, .int .i64 t456, .int .i64 t457, .int .i64 t458, .slice Ao12 t459.length co12] 27 (0, 0)) zZ.1) : gb476 ≠ gb464)); replace zZ := ky (zm (g := gb464) (o := .cells #[.int .i64 t452, .slice Ao11 t453.length co11, .int .i64 t456, .int .i64 t457, .int .i64 t458, .slice Ao12 t459.length co12] 27 (0, 0)) zZ.1 hb); clear hb hbox hg; have hnb15 := NB476_464.1; have hnc15 := qC.1; have hcz16_0 : w14.cell? ⟨gb476, 0, none⟩ = some (.int .i64 0) := (zi zY.1 0).trans rfl; have hcz16_1 : w14.cell? ⟨gb476, 1, none⟩ = some (.slice none 0 0) := (zi zY.1 1).trans rfl; have hcz16_2 : w14.cell? ⟨gb476, 2, none⟩ = some (.int .i64 0) := (zi zY.1 2).trans rfl; have hcz16_3 : w14.cell? ⟨gb476, 3, none⟩ = some (.int .i64 0) := (zi zY.1 3).trans rfl; have hcz16_4 : w14.cell? ⟨gb476, 4, none⟩ = some (.int .i64 0) := (zi zY.1 4).trans rfl; have hcz16_5 : w14.cell? ⟨gb476, 5, none⟩ = some (.slice none 0 0) := (zi zY.1 5).trans rfl; have hfz16_0 := zs zY.1 0; have hfz16_1 := zs zY.1 1; have hfz16_2 := zs zY.1 2; have hfz16_3 := zs zY.1 3; have hfz16_4 := zs zY.1 4; have hfz16_5 := zs zY.1 5; obtain ⟨Ao17, co17, eo17⟩ := Kd.R_slice qo.1; subst eo17; obtain ⟨Ao18, co18, eo18⟩ := Kd.R_slice qp.1; subst eo18; have hcz19_0 : w14.cell? ⟨gb464, 0, none⟩ = some (.int .i64 t452) := (zi zZ.1 0).trans rfl; have hcz19_1 : w14.cell? ⟨gb464, 1, none⟩ = some (.slice Ao11 t453.length co11) := (zi zZ.1 1).trans rfl; have hcz19_2 : w14.cell? ⟨gb464, 2, none⟩ = some (.int .i64 t456) := (zi zZ.1 2).trans rfl; have hcz19_3 : w14.cell? ⟨gb464, 3, none⟩ = some (.int .i64 t457) := (zi zZ.1 3).trans rfl; have hcz19_4 : w14.cell? ⟨gb464, 4, none⟩ = some (.int .i64 t458) := (zi zZ.1 4).trans rfl; have hcz19_5 : w14.cell? ⟨gb464, 5, none⟩ = some (.slice Ao12 t459.length co12) := (zi zZ.1 5).trans rfl; have hfz19_0 := zs zZ.1 0; have hfz19_1 := zs zZ.1 1; have hfz19_2 := zs zZ.1 2; have hfz19_3 := zs zZ.1 3; have hfz19_4 := zs zZ.1 4; have hfz19_5 := zs zZ.1 5) | ((with_reducible refine zG (f := 23) rfl ?_); refine zS (some 53) rfl rfl Try.func23 (by kernel_rfl) rfl #[.agg #[.int .i64 t452, .slice Ao11 t453.length co11, .int .i64 t456, .int .i64 t457, .int .i64 t458, .slice Ao12 t459.length co12], .int .i64 t462, .int .i64 t463] rfl (by (try simp only [ke, kd, kc]); rfl) ?_; (with_reducible refine (spec_PrependPath.calls k t452 _ _ t453 t456 t457 t458 _ _ t459 t462 t463 t477 t478 t481 t482 t483 t484 t487 _ ?side1 ?side2 ?side3 ?side4 A6.1).mono ?_); (case side1 => refine (zr (e := 3) (base := w.heap.size) (ok := fun k_ => ((some k_ ≠ (.slice Ao12 t459.length co12 : Value).ownBlock ∧ some k_ ≠ (.slice Ao17 t466.length co17 : Value).ownBlock) ∧ some k_ ≠ (.slice Ao18 t472.length co18 : Value).ownBlock)) (n := t453.length) (c := co11) ?_).2.2; exact (by exact (zp (zg (p := ⟨gb476, 5, none⟩) (zg (p := ⟨gb476, 4, none⟩) (zg (p := ⟨gb476, 3, none⟩) (zg (p := ⟨gb476, 2, none⟩) (zg (p := ⟨gb476, 1, none⟩) (zg (p := ⟨gb476, 0, none⟩) (zo qj.1 zY.1 (by decide)) (fun _ hk => hk.2) (.int .i64 t465)) (fun _ hk => hk.2) (.slice Ao17 t466.length co17)) (fun _ hk => hk.2) (.int .i64 t469)) (fun _ hk => hk.2) (.int .i64 t470)) (fun _ hk => hk.2) (.int .i64 t471)) (fun _ hk => hk.2) (.slice Ao18 t472.length co18)) (fun _ h_ => h_.1)))); (case side2 => exact (zr qj.1).2.1); (case side3 => refine (zr (e := 3) (base := w.heap.size) (ok := fun k_ => ((some k_ ≠ (.slice Ao11 t453.length co11 : Value).ownBlock ∧ some k_ ≠ (.slice Ao17 t466.length co17 : Value).ownBlock) ∧ some k_ ≠ (.slice Ao18 t472.length co18 : Value).ownBlock)) (n := t459.length) (c := co12) ?_).2.2; exact (by exact (zp (zg (p := ⟨gb476, 5, none⟩) (zg (p := ⟨gb476, 4, none⟩) (zg (p := ⟨gb476, 3, none⟩) (zg (p := ⟨gb476, 2, none⟩) (zg (p := ⟨gb476, 1, none⟩) (zg (p := ⟨gb476, 0, none⟩) (zo qk.1 zY.1 (by decide)) (fun _ hk => hk.2) (.int .i64 t465)) (fun _ hk => hk.2) (.slice Ao17 t466.length co17)) (fun _ hk => hk.2) (.int .i64 t469)) (fun _ hk => hk.2) (.int .i64 t470)) (fun _ hk => hk.2) (.int .i64 t471)) (fun _ hk => hk.2) (.slice Ao18 t472.length co18)) (fun _ h_ => h_.1)))); (case side4 => exact (zr qk.1).2.1); rintro e w20 ⟨v479, v485, rfl, ho0, ho1, hb⟩; refine ⟨_, rfl, ?_⟩; have qs := ky (Kd.R_lower (zL (zL (zL (zL ho0 (zQ (by exact (zp (zg (p := ⟨gb476, 5, none⟩) (zg (p := ⟨gb476, 4, none⟩) (zg (p := ⟨gb476, 3, none⟩) (zg (p := ⟨gb476, 2, none⟩) (zg (p := ⟨gb476, 1, none⟩) (zg (p := ⟨gb476, 0, none⟩) (zo qj.1 zY.1 (by decide)) (fun _ hk => hk.2) (.int .i64 t465)) (fun _ hk => hk.2) (.slice Ao17 t466.length co17)) (fun _ hk => hk.2) (.int .i64 t469)) (fun _ hk => hk.2) (.int .i64 t470)) (fun _ hk => hk.2) (.int .i64 t471)) (fun _ hk => hk.2) (.slice Ao18 t472.length co18)) (fun _ h_ => h_.1))))) (zQ (by exact (zp (zg (p := ⟨gb476, 5, none⟩) (zg (p := ⟨gb476, 4, none⟩) (zg (p := ⟨gb476, 3, none⟩) (zg (p := ⟨gb476, 2, none⟩) (zg (p := ⟨gb476, 1, none⟩) (zg (p := ⟨gb476, 0, none⟩) (zo qk.1 zY.1 (by decide)) (fun _ hk => hk.2) (.int .i64 t465)) (fun _ hk => hk.2) (.slice Ao17 t466.length co17)) (fun _ hk => hk.2) (.int .i64 t469)) (fun _ hk => hk.2) (.int .i64 t470)) (fun _ hk => hk.2) (.int .i64 t471)) (fun _ hk => hk.2) (.slice Ao18 t472.length co18)) (fun _ h_ => h_.1))))) (zQ (by exact (zp (zg (p := ⟨gb476, 5, none⟩) (zg (p := ⟨gb476, 4, none⟩) (zg (p := ⟨gb476, 3, none⟩) (zg (p := ⟨gb476, 2, none⟩) (zg (p := ⟨gb476, 1, none⟩) (zg (p := ⟨gb476, 0, none⟩) (zo qo.1 zY.1 (by decide)) (fun _ hk => hk.2) (.int .i64 t465)) (fun _ hk => hk.2) (.slice Ao17 t466.length co17)) (fun _ hk => hk.2) (.int .i64 t469)) (fun _ hk => hk.2) (.int .i64 t470)) (fun _ hk => hk.2) (.int .i64 t471)) (fun _ hk => hk.2) (.slice Ao18 t472.length co18)) (fun _ h_ => h_.1))))) (zQ (by exact (zp (zg (p := ⟨gb476, 5, none⟩) (zg (p := ⟨gb476, 4, none⟩) (zg (p := ⟨gb476, 3, none⟩) (zg (p := ⟨gb476, 2, none⟩) (zg (p := ⟨gb476, 1, none⟩) (zg (p := ⟨gb476, 0, none⟩) (zo qp.1 zY.1 (by decide)) (fun _ hk => hk.2) (.int .i64 t465)) (fun _ hk => hk.2) (.slice Ao17 t466.length co17)) (fun _ hk => hk.2) (.int .i64 t469)) (fun _ hk => hk.2) (.int .i64 t470)) (fun _ hk => hk.2) (.int .i64 t471)) (fun _ hk => hk.2) (.slice Ao18 t472.length co18)) (fun _ h_ => h_.1))))) (zE (by repeat ((with_reducible first | exact HB.1 | refine zh ?_ ql.1))))); have qt := ky (Kd.R_lower (zL (zL (zL (zL ho1 (zQ (by exact (zp (zg (p := ⟨gb476, 5, none⟩) (zg (p := ⟨gb476, 4, none⟩) (zg (p := ⟨gb476, 3, none⟩) (zg (p := ⟨gb476, 2, none⟩) (zg (p := ⟨gb476, 1, none⟩) (zg (p := ⟨gb476, 0, none⟩) (zo qj.1 zY.1 (by decide)) (fun _ hk => hk.2) (.int .i64 t465)) (fun _ hk => hk.2) (.slice Ao17 t466.length co17)) (fun _ hk => hk.2) (.int .i64 t469)) (fun _ hk => hk.2) (.int .i64 t470)) (fun _ hk => hk.2) (.int .i64 t471)) (fun _ hk => hk.2) (.slice Ao18 t472.length co18)) (fun _ h_ => h_.1))))) (zQ (by exact (zp (zg (p := ⟨gb476, 5, none⟩) (zg (p := ⟨gb476, 4, none⟩) (zg (p := ⟨gb476, 3, none⟩) (zg (p := ⟨gb476, 2, none⟩) (zg (p := ⟨gb476, 1, none⟩) (zg (p := ⟨gb476, 0, none⟩) (zo qk.1 zY.1 (by decide)) (fun _ hk => hk.2) (.int .i64 t465)) (fun _ hk => hk.2) (.slice Ao17 t466.length co17)) (fun _ hk => hk.2) (.int .i64 t469)) (fun _ hk => hk.2) (.int .i64 t470)) (fun _ hk => hk.2) (.int .i64 t471)) (fun _ hk => hk.2) (.slice Ao18 t472.length co18)) (fun _ h_ => h_.1))))) (zQ (by exact (zp (zg (p := ⟨gb476, 5, none⟩) (zg (p := ⟨gb476, 4, none⟩) (zg (p := ⟨gb476, 3, none⟩) (zg (p := ⟨gb476, 2, none⟩) (zg (p := ⟨gb476, 1, none⟩) (zg (p := ⟨gb476, 0, none⟩) (zo qo.1 zY.1 (by decide)) (fun _ hk => hk.2) (.int .i64 t465)) (fun _ hk => hk.2) (.slice Ao17 t466.length co17)) (fun _ hk => hk.2) (.int .i64 t469)) (fun _ hk => hk.2) (.int .i64 t470)) (fun _ hk => hk.2) (.int .i64 t471)) (fun _ hk => hk.2) (.slice Ao18 t472.length co18)) (fun _ h_ => h_.1))))) (zQ (by exact (zp (zg (p := ⟨gb476, 5, none⟩) (zg (p := ⟨gb476, 4, none⟩) (zg (p := ⟨gb476, 3, none⟩) (zg (p := ⟨gb476, 2, none⟩) (zg (p := ⟨gb476, 1, none⟩) (zg (p := ⟨gb476, 0, none⟩) (zo qp.1 zY.1 (by decide)) (fun _ hk => hk.2) (.int .i64 t465)) (fun _ hk => hk.2) (.slice Ao17 t466.length co17)) (fun _ hk => hk.2) (.int .i64 t469)) (fun _ hk => hk.2) (.int .i64 t470)) (fun _ hk => hk.2) (.int .i64 t471)) (fun _ hk => hk.2) (.slice Ao18 t472.length co18)) (fun _ h_ => h_.1))))) (zE (by repeat ((with_reducible first | exact HB.1 | refine zh ?_ ql.1))))); replace qj := ky (zp (zK (zK (Kd.R_old (by exact (zp (zg (p := ⟨gb476, 5, none⟩) (zg (p := ⟨gb476, 4, none⟩) (zg (p := ⟨gb476, 3, none⟩) (zg (p := ⟨gb476, 2, none⟩) (zg (p := ⟨gb476, 1, none⟩) (zg (p := ⟨gb476, 0, none⟩) (zo qj.1 zY.1 (by decide)) (fun _ hk => hk.2) (.int .i64 t465)) (fun _ hk => hk.2) (.slice Ao17 t466.length co17)) (fun _ hk => hk.2) (.int .i64 t469)) (fun _ hk => hk.2) (.int .i64 t470)) (fun _ hk => hk.2) (.int .i64 t471)) (fun _ hk => hk.2) (.slice Ao18 t472.length co18)) (fun _ h_ => h_.1))) hb) (zM ho0)) (zM ho1)) (fun _ h_ => h_.1)); replace qk := ky (zp (zK (zK (Kd.R_old (by exact (zp (zg (p := ⟨gb476, 5, none⟩) (zg (p := ⟨gb476, 4, none⟩) (zg (p := ⟨gb476, 3, none⟩) (zg (p := ⟨gb476, 2, none⟩) (zg (p := ⟨gb476, 1, none⟩) (zg (p := ⟨gb476, 0, none⟩) (zo qk.1 zY.1 (by decide)) (fun _ hk => hk.2) (.int .i64 t465)) (fun _ hk => hk.2) (.slice Ao17 t466.length co17)) (fun _ hk => hk.2) (.int .i64 t469)) (fun _ hk => hk.2) (.int .i64 t470)) (fun _ hk => hk.2) (.int .i64 t471)) (fun _ hk => hk.2) (.slice Ao18 t472.length co18)) (fun _ h_ => h_.1))) hb) (zM ho0)) (zM ho1)) (fun _ h_ => h_.1)); replace qo := ky (zp (zK (zK (Kd.R_old (by exact (zp (zg (p := ⟨gb476, 5, none⟩) (zg (p := ⟨gb476, 4, none⟩) (zg (p := ⟨gb476, 3, none⟩) (zg (p := ⟨gb476, 2, none⟩) (zg (p := ⟨gb476, 1, none⟩) (zg (p := ⟨gb476, 0, none⟩) (zo qo.1 zY.1 (by decide)) (fun _ hk => hk.2) (.int .i64 t465)) (fun _ hk => hk.2) (.slice Ao17 t466.length co17)) (fun _ hk => hk.2) (.int .i64 t469)) (fun _ hk => hk.2) (.int .i64 t470)) (fun _ hk => hk.2) (.int .i64 t471)) (fun _ hk => hk.2) (.slice Ao18 t472.length co18)) (fun _ h_ => h_.1))) hb) (zM ho0)) (zM ho1)) (fun _ h_ => h_.1)); replace qp := ky (zp (zK (zK (Kd.R_old (by exact (zp (zg (p := ⟨gb476, 5, none⟩) (zg (p := ⟨gb476, 4, none⟩) (zg (p := ⟨gb476, 3, none⟩) (zg (p := ⟨gb476, 2, none⟩) (zg (p := ⟨gb476, 1, none⟩) (zg (p := ⟨gb476, 0, none⟩) (zo qp.1 zY.1 (by decide)) (fun _ hk => hk.2) (.int .i64 t465)) (fun _ hk => hk.2) (.slice Ao17 t466.length co17)) (fun _ hk => hk.2) (.int .i64 t469)) (fun _ hk => hk.2) (.int .i64 t470)) (fun _ hk => hk.2) (.int .i64 t471)) (fun _ hk => hk.2) (.slice Ao18 t472.length co18)) (fun _ h_ => h_.1))) hb) (zM ho0)) (zM ho1)) (fun _ h_ => h_.1)); replace zZ := ky (zm (g := gb464) (o := .cells #[.int .i64 t452, .slice Ao11 t453.length co11, .int .i64 t456, .int .i64 t457, .int .i64 t458, .slice Ao12 t459.length co12] 27 (0, 0)) (by refine zq ?_ qC.1 _; refine zq ?_ qC.1 _; refine zq ?_ qC.1 _; refine zq ?_ qC.1 _; refine zq ?_ qC.1 _; refine zq ?_ qC.1 _; exact zZ.1) hb); replace zY := ky (zm (g := gb476) (o := .cells #[.int .i64 t465, .slice Ao17 t466.length co17, .int .i64 t469, .int .i64 t470, .int .i64 t471, .slice Ao18 t472.length co18] 27 (0, 0)) (by refine zD (cs := #[.int .i64 t465, .slice Ao17 t466.length co17, .int .i64 t469, .int .i64 t470, .int .i64 t471, .slice none 0 0]) ?_ 5 _ rfl; refine zD (cs := #[.int .i64 t465, .slice Ao17 t466.length co17, .int .i64 t469, .int .i64 t470, .int .i64 0, .slice none 0 0]) ?_ 4 _ rfl; refine zD (cs := #[.int .i64 t465, .slice Ao17 t466.length co17, .int .i64 t469, .int .i64 0, .int .i64 0, .slice none 0 0]) ?_ 3 _ rfl; refine zD (cs := #[.int .i64 t465, .slice Ao17 t466.length co17, .int .i64 0, .int .i64 0, .int .i64 0, .slice none 0 0]) ?_ 2 _ rfl; refine zD (cs := #[.int .i64 t465, .slice none 0 0, .int .i64 0, .int .i64 0, .int .i64 0, .slice none 0 0]) ?_ 1 _ rfl; refine zD (cs := #[.int .i64 0, .slice none 0 0, .int .i64 0, .int .i64 0, .int .i64 0, .slice none 0 0]) ?_ 0 _ rfl; exact zY.1) hb); replace HB := ky (zA (by repeat ((with_reducible first | exact HB.1 | refine zh ?_ ql.1))) hb); (try clear hb); (try clear hb2); (try clear hk); (try clear hi); (try clear ho0); (try clear ho1)) | ((with_reducible refine zR (N := 10) rfl ?_); (try (refine zN (by rfl) ?_; dsimp only)); refine zP ?hg (N := 10) ?hd (cs := #[.int .i64 0, .slice none 0 0, .int .i64 0, .int .i64 0, .int .i64 0, .slice none 0 0]) (t := 27) ?hr ?_; (case hd => rfl); (case hg => rfl); (case hr => (go_simp; done)); intro gb488 hg w21 hbox hb; replace qj := ky (zj qj.1 hb); replace qk := ky (zj qk.1 hb); replace qo := ky (zj qo.1 hb); replace qp := ky (zj qp.1 hb); replace qs := ky (zj qs.1 hb); replace qt := ky (zj qt.1 hb); have qg := ky hbox; have qm := ky ((by rw [hg]; exact (zE HB.1) : w.heap.size ≤ gb488)); replace HB := ky (zA HB.1 hb); have qr := ky ((by rw [hg]; exact kg (zy (g := gb464) (o := .cells #[.int .i64 t452, .slice Ao11 t453.length co11, .int .i64 t456, .int .i64 t457, .int .i64 t458, .slice Ao12 t459.length co12] 27 (0, 0)) zZ.1) : gb464 ≠ gb488)); have NB488_464 := ky ((by rw [hg]; exact kf (zy (g := gb464) (o := .cells #[.int .i64 t452, .slice Ao11 t453.length co11, .int .i64 t456, .int .i64 t457, .int .i64 t458, .slice Ao12 t459.length co12] 27 (0, 0)) zZ.1) : gb488 ≠ gb464)); replace zZ := ky (zm (g := gb464) (o := .cells #[.int .i64 t452, .slice Ao11 t453.length co11, .int .i64 t456, .int .i64 t457, .int .i64 t458, .slice Ao12 t459.length co12] 27 (0, 0)) zZ.1 hb); have qq := ky ((by rw [hg]; exact kg (zy (g := gb476) (o := .cells #[.int .i64 t465, .slice Ao17 t466.length co17, .int .i64 t469, .int .i64 t470, .int .i64 t471, .slice Ao18 t472.length co18] 27 (0, 0)) zY.1) : gb476 ≠ gb488)); have NB488_476 := ky ((by rw [hg]; exact kf (zy (g := gb476) (o := .cells #[.int .i64 t465, .slice Ao17 t466.length co17, .int .i64 t469, .int .i64 t470, .int .i64 t471, .slice Ao18 t472.length co18] 27 (0, 0)) zY.1) : gb488 ≠ gb476)); replace zY := ky (zm (g := gb476) (o := .cells #[.int .i64 t465, .slice Ao17 t466.length co17, .int .i64 t469, .int .i64 t470, .int .i64 t471, .slice Ao18 t472.length co18] 27 (0, 0)) zY.1 hb); clear hb hbox hg; have hnb22 := NB488_464.1; have hnc22 := qr.1; have hnb23 := NB488_476.1; have hnc23 := qq.1; have hcz24_0 : w21.cell? ⟨gb488, 0, none⟩ = some (.int .i64 0) := (zi qg.1 0).trans rfl; have hcz24_1 : w21.cell? ⟨gb488, 1, none⟩ = some (.slice none 0 0) := (zi qg.1 1).trans rfl; have hcz24_2 : w21.cell? ⟨gb488, 2, none⟩ = some (.int .i64 0) := (zi qg.1 2).trans rfl; have hcz24_3 : w21.cell? ⟨gb488, 3, none⟩ = some (.int .i64 0) := (zi qg.1 3).trans rfl; have hcz24_4 : w21.cell? ⟨gb488, 4, none⟩ = some (.int .i64 0) := (zi qg.1 4).trans rfl; have hcz24_5 : w21.cell? ⟨gb488, 5, none⟩ = some (.slice none 0 0) := (zi qg.1 5).trans rfl; have hfz24_0 := zs qg.1 0; have hfz24_1 := zs qg.1 1; have hfz24_2 := zs qg.1 2; have hfz24_3 := zs qg.1 3; have hfz24_4 := zs qg.1 4; have hfz24_5 := zs qg.1 5; obtain ⟨Ao25, co25, eo25⟩ := Kd.R_slice qs.1; subst eo25; obtain ⟨Ao26, co26, eo26⟩ := Kd.R_slice qt.1; subst eo26))
  (try simp only [kv, kz, kj, kk])
  go_cut [71] (fun v71 wc => ∃ (kq : Nat) (x71_6 : Bool), v71 = .bool x71_6 ∧ zt (laws_FnPrepend.j0 kq l1 t462 t463 t475 x71_6 t452 t453 t456 t457 t458 t459 t465 t466 t469 t470 t471 t472 = some r) ∧ zt (kq ≤ k) ∧ zt (Kd.R (zz .i64) 3 wc w.heap.size (fun k_ => some k_ ≠ ((.slice Ao12 t459.length co12) : Value).ownBlock ∧ some k_ ≠ ((.slice Ao17 t466.length co17) : Value).ownBlock ∧ some k_ ≠ ((.slice Ao18 t472.length co18) : Value).ownBlock ∧ some k_ ≠ ((.slice Ao25 t478.length co25) : Value).ownBlock ∧ some k_ ≠ ((.slice Ao26 t484.length co26) : Value).ownBlock) (.slice Ao11 t453.length co11) t453) ∧ zt (Kd.R (zz .i64) 3 wc w.heap.size (fun k_ => some k_ ≠ ((.slice Ao11 t453.length co11) : Value).ownBlock ∧ some k_ ≠ ((.slice Ao17 t466.length co17) : Value).ownBlock ∧ some k_ ≠ ((.slice Ao18 t472.length co18) : Value).ownBlock ∧ some k_ ≠ ((.slice Ao25 t478.length co25) : Value).ownBlock ∧ some k_ ≠ ((.slice Ao26 t484.length co26) : Value).ownBlock) (.slice Ao12 t459.length co12) t459) ∧ zt (Kd.R (zz .i64) 3 wc w.heap.size (fun k_ => some k_ ≠ ((.slice Ao11 t453.length co11) : Value).ownBlock ∧ some k_ ≠ ((.slice Ao12 t459.length co12) : Value).ownBlock ∧ some k_ ≠ ((.slice Ao18 t472.length co18) : Value).ownBlock ∧ some k_ ≠ ((.slice Ao25 t478.length co25) : Value).ownBlock ∧ some k_ ≠ ((.slice Ao26 t484.length co26) : Value).ownBlock) (.slice Ao17 t466.length co17) t466) ∧ zt (Kd.R (zz .i64) 3 wc w.heap.size (fun k_ => some k_ ≠ ((.slice Ao11 t453.length co11) : Value).ownBlock ∧ some k_ ≠ ((.slice Ao12 t459.length co12) : Value).ownBlock ∧ some k_ ≠ ((.slice Ao17 t466.length co17) : Value).ownBlock ∧ some k_ ≠ ((.slice Ao25 t478.length co25) : Value).ownBlock ∧ some k_ ≠ ((.slice Ao26 t484.length co26) : Value).ownBlock) (.slice Ao18 t472.length co18) t472) ∧ zt (Kd.R (zz .i64) 3 wc w.heap.size (fun k_ => some k_ ≠ ((.slice Ao11 t453.length co11) : Value).ownBlock ∧ some k_ ≠ ((.slice Ao12 t459.length co12) : Value).ownBlock ∧ some k_ ≠ ((.slice Ao17 t466.length co17) : Value).ownBlock ∧ some k_ ≠ ((.slice Ao18 t472.length co18) : Value).ownBlock ∧ some k_ ≠ ((.slice Ao26 t484.length co26) : Value).ownBlock) (.slice Ao25 t478.length co25) t478) ∧ zt (Kd.R (zz .i64) 3 wc w.heap.size (fun k_ => some k_ ≠ ((.slice Ao11 t453.length co11) : Value).ownBlock ∧ some k_ ≠ ((.slice Ao12 t459.length co12) : Value).ownBlock ∧ some k_ ≠ ((.slice Ao17 t466.length co17) : Value).ownBlock ∧ some k_ ≠ ((.slice Ao18 t472.length co18) : Value).ownBlock ∧ some k_ ≠ ((.slice Ao25 t478.length co25) : Value).ownBlock) (.slice Ao26 t484.length co26) t484) ∧ zt (wc.heap[gb464]? = some (.cells #[.int .i64 t452, (.slice Ao11 t453.length co11), .int .i64 t456, .int .i64 t457, .int .i64 t458, (.slice Ao12 t459.length co12)] 27 (0, 0))) ∧ zt (wc.heap[gb476]? = some (.cells #[.int .i64 t465, (.slice Ao17 t466.length co17), .int .i64 t469, .int .i64 t470, .int .i64 t471, (.slice Ao18 t472.length co18)] 27 (0, 0))) ∧ zt (wc.heap[gb488]? = some (.cells #[.int .i64 t477, (.slice Ao25 t478.length co25), .int .i64 t481, .int .i64 t482, .int .i64 t483, (.slice Ao26 t484.length co26)] 27 (0, 0))) ∧ zt (Below w.heap.size w wc))
  case first => as_aux_lemma =>
   have H := HC7.1
   clear HC7
   by_cases c27 : (t475 != t487) = true
   ·
    rw [if_pos c27] at H
    have c27b0 : (t475 != t487) = true := c27
    (try (have c27b1 : decide (t475 = t487) = false := by simpa using c27))
    (try (have c27b2 : (t475 == t487) = false := by simpa using c27))
    (try (have c27b3 : ¬ (t475 = t487) := by simpa using c27))
    clear c27
    skip
    have H' := ky H
    clear H
    try go_wp2
    have n0_ : zt (Kd.R (zz .i64) 3 ((((((w21.setCell ⟨gb488, 0, none⟩ (.int .i64 t477)).setCell ⟨gb488, 1, none⟩ (.slice Ao25 t478.length co25)).setCell ⟨gb488, 2, none⟩ (.int .i64 t481)).setCell ⟨gb488, 3, none⟩ (.int .i64 t482)).setCell ⟨gb488, 4, none⟩ (.int .i64 t483)).setCell ⟨gb488, 5, none⟩ (.slice Ao26 t484.length co26)) w.heap.size (fun k_ => some k_ ≠ (.slice Ao12 t459.length co12 : Value).ownBlock ∧ some k_ ≠ (.slice Ao17 t466.length co17 : Value).ownBlock ∧ some k_ ≠ (.slice Ao18 t472.length co18 : Value).ownBlock ∧ some k_ ≠ (.slice Ao25 t478.length co25 : Value).ownBlock ∧ some k_ ≠ (.slice Ao26 t484.length co26 : Value).ownBlock) (.slice Ao11 t453.length co11) t453) := ⟨by exact zp (zg (p := ⟨gb488, 5, none⟩) (zg (p := ⟨gb488, 4, none⟩) (zg (p := ⟨gb488, 3, none⟩) (zg (p := ⟨gb488, 2, none⟩) (zg (p := ⟨gb488, 1, none⟩) (zg (p := ⟨gb488, 0, none⟩) (zo qj.1 qg.1 (by decide)) (fun _ hk => hk.2) (.int .i64 t477)) (fun _ hk => hk.2) (.slice Ao25 t478.length co25)) (fun _ hk => hk.2) (.int .i64 t481)) (fun _ hk => hk.2) (.int .i64 t482)) (fun _ hk => hk.2) (.int .i64 t483)) (fun _ hk => hk.2) (.slice Ao26 t484.length co26)) (fun _ hk => ⟨hk.1.1.1.1.1, ⟨hk.1.1.1.1.2, ⟨hk.1.1.1.2, ⟨hk.1.1.2, hk.1.2⟩⟩⟩⟩)⟩
    have n1_ : zt (Kd.R (zz .i64) 3 ((((((w21.setCell ⟨gb488, 0, none⟩ (.int .i64 t477)).setCell ⟨gb488, 1, none⟩ (.slice Ao25 t478.length co25)).setCell ⟨gb488, 2, none⟩ (.int .i64 t481)).setCell ⟨gb488, 3, none⟩ (.int .i64 t482)).setCell ⟨gb488, 4, none⟩ (.int .i64 t483)).setCell ⟨gb488, 5, none⟩ (.slice Ao26 t484.length co26)) w.heap.size (fun k_ => some k_ ≠ (.slice Ao11 t453.length co11 : Value).ownBlock ∧ some k_ ≠ (.slice Ao17 t466.length co17 : Value).ownBlock ∧ some k_ ≠ (.slice Ao18 t472.length co18 : Value).ownBlock ∧ some k_ ≠ (.slice Ao25 t478.length co25 : Value).ownBlock ∧ some k_ ≠ (.slice Ao26 t484.length co26 : Value).ownBlock) (.slice Ao12 t459.length co12) t459) := ⟨by exact zp (zg (p := ⟨gb488, 5, none⟩) (zg (p := ⟨gb488, 4, none⟩) (zg (p := ⟨gb488, 3, none⟩) (zg (p := ⟨gb488, 2, none⟩) (zg (p := ⟨gb488, 1, none⟩) (zg (p := ⟨gb488, 0, none⟩) (zo qk.1 qg.1 (by decide)) (fun _ hk => hk.2) (.int .i64 t477)) (fun _ hk => hk.2) (.slice Ao25 t478.length co25)) (fun _ hk => hk.2) (.int .i64 t481)) (fun _ hk => hk.2) (.int .i64 t482)) (fun _ hk => hk.2) (.int .i64 t483)) (fun _ hk => hk.2) (.slice Ao26 t484.length co26)) (fun _ hk => ⟨hk.1.1.1.1.1, ⟨hk.1.1.1.1.2, ⟨hk.1.1.1.2, ⟨hk.1.1.2, hk.1.2⟩⟩⟩⟩)⟩
    have n2_ : zt (Kd.R (zz .i64) 3 ((((((w21.setCell ⟨gb488, 0, none⟩ (.int .i64 t477)).setCell ⟨gb488, 1, none⟩ (.slice Ao25 t478.length co25)).setCell ⟨gb488, 2, none⟩ (.int .i64 t481)).setCell ⟨gb488, 3, none⟩ (.int .i64 t482)).setCell ⟨gb488, 4, none⟩ (.int .i64 t483)).setCell ⟨gb488, 5, none⟩ (.slice Ao26 t484.length co26)) w.heap.size (fun k_ => some k_ ≠ (.slice Ao11 t453.length co11 : Value).ownBlock ∧ some k_ ≠ (.slice Ao12 t459.length co12 : Value).ownBlock ∧ some k_ ≠ (.slice Ao18 t472.length co18 : Value).ownBlock ∧ some k_ ≠ (.slice Ao25 t478.length co25 : Value).ownBlock ∧ some k_ ≠ (.slice Ao26 t484.length co26 : Value).ownBlock) (.slice Ao17 t466.length co17) t466) := ⟨by exact zp (zg (p := ⟨gb488, 5, none⟩) (zg (p := ⟨gb488, 4, none⟩) (zg (p := ⟨gb488, 3, none⟩) (zg (p := ⟨gb488, 2, none⟩) (zg (p := ⟨gb488, 1, none⟩) (zg (p := ⟨gb488, 0, none⟩) (zo qo.1 qg.1 (by decide)) (fun _ hk => hk.2) (.int .i64 t477)) (fun _ hk => hk.2) (.slice Ao25 t478.length co25)) (fun _ hk => hk.2) (.int .i64 t481)) (fun _ hk => hk.2) (.int .i64 t482)) (fun _ hk => hk.2) (.int .i64 t483)) (fun _ hk => hk.2) (.slice Ao26 t484.length co26)) (fun _ hk => ⟨hk.1.1.1.1.2, ⟨hk.1.1.1.2, ⟨hk.1.1.1.1.1, ⟨hk.1.1.2, hk.1.2⟩⟩⟩⟩)⟩
    have n3_ : zt (Kd.R (zz .i64) 3 ((((((w21.setCell ⟨gb488, 0, none⟩ (.int .i64 t477)).setCell ⟨gb488, 1, none⟩ (.slice Ao25 t478.length co25)).setCell ⟨gb488, 2, none⟩ (.int .i64 t481)).setCell ⟨gb488, 3, none⟩ (.int .i64 t482)).setCell ⟨gb488, 4, none⟩ (.int .i64 t483)).setCell ⟨gb488, 5, none⟩ (.slice Ao26 t484.length co26)) w.heap.size (fun k_ => some k_ ≠ (.slice Ao11 t453.length co11 : Value).ownBlock ∧ some k_ ≠ (.slice Ao12 t459.length co12 : Value).ownBlock ∧ some k_ ≠ (.slice Ao17 t466.length co17 : Value).ownBlock ∧ some k_ ≠ (.slice Ao25 t478.length co25 : Value).ownBlock ∧ some k_ ≠ (.slice Ao26 t484.length co26 : Value).ownBlock) (.slice Ao18 t472.length co18) t472) := ⟨by exact zp (zg (p := ⟨gb488, 5, none⟩) (zg (p := ⟨gb488, 4, none⟩) (zg (p := ⟨gb488, 3, none⟩) (zg (p := ⟨gb488, 2, none⟩) (zg (p := ⟨gb488, 1, none⟩) (zg (p := ⟨gb488, 0, none⟩) (zo qp.1 qg.1 (by decide)) (fun _ hk => hk.2) (.int .i64 t477)) (fun _ hk => hk.2) (.slice Ao25 t478.length co25)) (fun _ hk => hk.2) (.int .i64 t481)) (fun _ hk => hk.2) (.int .i64 t482)) (fun _ hk => hk.2) (.int .i64 t483)) (fun _ hk => hk.2) (.slice Ao26 t484.length co26)) (fun _ hk => ⟨hk.1.1.1.1.2, ⟨hk.1.1.1.2, ⟨hk.1.1.1.1.1, ⟨hk.1.1.2, hk.1.2⟩⟩⟩⟩)⟩
    have n4_ : zt (Kd.R (zz .i64) 3 ((((((w21.setCell ⟨gb488, 0, none⟩ (.int .i64 t477)).setCell ⟨gb488, 1, none⟩ (.slice Ao25 t478.length co25)).setCell ⟨gb488, 2, none⟩ (.int .i64 t481)).setCell ⟨gb488, 3, none⟩ (.int .i64 t482)).setCell ⟨gb488, 4, none⟩ (.int .i64 t483)).setCell ⟨gb488, 5, none⟩ (.slice Ao26 t484.length co26)) w.heap.size (fun k_ => some k_ ≠ (.slice Ao11 t453.length co11 : Value).ownBlock ∧ some k_ ≠ (.slice Ao12 t459.length co12 : Value).ownBlock ∧ some k_ ≠ (.slice Ao17 t466.length co17 : Value).ownBlock ∧ some k_ ≠ (.slice Ao18 t472.length co18 : Value).ownBlock ∧ some k_ ≠ (.slice Ao26 t484.length co26 : Value).ownBlock) (.slice Ao25 t478.length co25) t478) := ⟨by exact zp (zg (p := ⟨gb488, 5, none⟩) (zg (p := ⟨gb488, 4, none⟩) (zg (p := ⟨gb488, 3, none⟩) (zg (p := ⟨gb488, 2, none⟩) (zg (p := ⟨gb488, 1, none⟩) (zg (p := ⟨gb488, 0, none⟩) (zo qs.1 qg.1 (by decide)) (fun _ hk => hk.2) (.int .i64 t477)) (fun _ hk => hk.2) (.slice Ao25 t478.length co25)) (fun _ hk => hk.2) (.int .i64 t481)) (fun _ hk => hk.2) (.int .i64 t482)) (fun _ hk => hk.2) (.int .i64 t483)) (fun _ hk => hk.2) (.slice Ao26 t484.length co26)) (fun _ hk => ⟨hk.1.1.1.1.2, ⟨hk.1.1.1.2, ⟨hk.1.1.2, ⟨hk.1.2, hk.1.1.1.1.1⟩⟩⟩⟩)⟩
    have n5_ : zt (Kd.R (zz .i64) 3 ((((((w21.setCell ⟨gb488, 0, none⟩ (.int .i64 t477)).setCell ⟨gb488, 1, none⟩ (.slice Ao25 t478.length co25)).setCell ⟨gb488, 2, none⟩ (.int .i64 t481)).setCell ⟨gb488, 3, none⟩ (.int .i64 t482)).setCell ⟨gb488, 4, none⟩ (.int .i64 t483)).setCell ⟨gb488, 5, none⟩ (.slice Ao26 t484.length co26)) w.heap.size (fun k_ => some k_ ≠ (.slice Ao11 t453.length co11 : Value).ownBlock ∧ some k_ ≠ (.slice Ao12 t459.length co12 : Value).ownBlock ∧ some k_ ≠ (.slice Ao17 t466.length co17 : Value).ownBlock ∧ some k_ ≠ (.slice Ao18 t472.length co18 : Value).ownBlock ∧ some k_ ≠ (.slice Ao25 t478.length co25 : Value).ownBlock) (.slice Ao26 t484.length co26) t484) := ⟨by exact zp (zg (p := ⟨gb488, 5, none⟩) (zg (p := ⟨gb488, 4, none⟩) (zg (p := ⟨gb488, 3, none⟩) (zg (p := ⟨gb488, 2, none⟩) (zg (p := ⟨gb488, 1, none⟩) (zg (p := ⟨gb488, 0, none⟩) (zo qt.1 qg.1 (by decide)) (fun _ hk => hk.2) (.int .i64 t477)) (fun _ hk => hk.2) (.slice Ao25 t478.length co25)) (fun _ hk => hk.2) (.int .i64 t481)) (fun _ hk => hk.2) (.int .i64 t482)) (fun _ hk => hk.2) (.int .i64 t483)) (fun _ hk => hk.2) (.slice Ao26 t484.length co26)) (fun _ hk => ⟨hk.1.1.1.1.2, ⟨hk.1.1.1.2, ⟨hk.1.1.2, ⟨hk.1.2, hk.1.1.1.1.1⟩⟩⟩⟩)⟩
    have n6_ : zt (((((((w21.setCell ⟨gb488, 0, none⟩ (.int .i64 t477)).setCell ⟨gb488, 1, none⟩ (.slice Ao25 t478.length co25)).setCell ⟨gb488, 2, none⟩ (.int .i64 t481)).setCell ⟨gb488, 3, none⟩ (.int .i64 t482)).setCell ⟨gb488, 4, none⟩ (.int .i64 t483)).setCell ⟨gb488, 5, none⟩ (.slice Ao26 t484.length co26)).heap[gb464]? = some (.cells #[.int .i64 t452, .slice Ao11 t453.length co11, .int .i64 t456, .int .i64 t457, .int .i64 t458, .slice Ao12 t459.length co12] 27 (0, 0))) := ⟨by refine zq ?_ qr.1 _; refine zq ?_ qr.1 _; refine zq ?_ qr.1 _; refine zq ?_ qr.1 _; refine zq ?_ qr.1 _; refine zq ?_ qr.1 _; exact zZ.1⟩
    have n7_ : zt (((((((w21.setCell ⟨gb488, 0, none⟩ (.int .i64 t477)).setCell ⟨gb488, 1, none⟩ (.slice Ao25 t478.length co25)).setCell ⟨gb488, 2, none⟩ (.int .i64 t481)).setCell ⟨gb488, 3, none⟩ (.int .i64 t482)).setCell ⟨gb488, 4, none⟩ (.int .i64 t483)).setCell ⟨gb488, 5, none⟩ (.slice Ao26 t484.length co26)).heap[gb476]? = some (.cells #[.int .i64 t465, .slice Ao17 t466.length co17, .int .i64 t469, .int .i64 t470, .int .i64 t471, .slice Ao18 t472.length co18] 27 (0, 0))) := ⟨by refine zq ?_ qq.1 _; refine zq ?_ qq.1 _; refine zq ?_ qq.1 _; refine zq ?_ qq.1 _; refine zq ?_ qq.1 _; refine zq ?_ qq.1 _; exact zY.1⟩
    have n8_ : zt (((((((w21.setCell ⟨gb488, 0, none⟩ (.int .i64 t477)).setCell ⟨gb488, 1, none⟩ (.slice Ao25 t478.length co25)).setCell ⟨gb488, 2, none⟩ (.int .i64 t481)).setCell ⟨gb488, 3, none⟩ (.int .i64 t482)).setCell ⟨gb488, 4, none⟩ (.int .i64 t483)).setCell ⟨gb488, 5, none⟩ (.slice Ao26 t484.length co26)).heap[gb488]? = some (.cells #[.int .i64 t477, .slice Ao25 t478.length co25, .int .i64 t481, .int .i64 t482, .int .i64 t483, .slice Ao26 t484.length co26] 27 (0, 0))) := ⟨by refine zD (cs := #[.int .i64 t477, .slice Ao25 t478.length co25, .int .i64 t481, .int .i64 t482, .int .i64 t483, .slice none 0 0]) ?_ 5 _ rfl; refine zD (cs := #[.int .i64 t477, .slice Ao25 t478.length co25, .int .i64 t481, .int .i64 t482, .int .i64 0, .slice none 0 0]) ?_ 4 _ rfl; refine zD (cs := #[.int .i64 t477, .slice Ao25 t478.length co25, .int .i64 t481, .int .i64 0, .int .i64 0, .slice none 0 0]) ?_ 3 _ rfl; refine zD (cs := #[.int .i64 t477, .slice Ao25 t478.length co25, .int .i64 0, .int .i64 0, .int .i64 0, .slice none 0 0]) ?_ 2 _ rfl; refine zD (cs := #[.int .i64 t477, .slice none 0 0, .int .i64 0, .int .i64 0, .int .i64 0, .slice none 0 0]) ?_ 1 _ rfl; refine zD (cs := #[.int .i64 0, .slice none 0 0, .int .i64 0, .int .i64 0, .int .i64 0, .slice none 0 0]) ?_ 0 _ rfl; exact qg.1⟩
    have n9_ : zt (Below w.heap.size w ((((((w21.setCell ⟨gb488, 0, none⟩ (.int .i64 t477)).setCell ⟨gb488, 1, none⟩ (.slice Ao25 t478.length co25)).setCell ⟨gb488, 2, none⟩ (.int .i64 t481)).setCell ⟨gb488, 3, none⟩ (.int .i64 t482)).setCell ⟨gb488, 4, none⟩ (.int .i64 t483)).setCell ⟨gb488, 5, none⟩ (.slice Ao26 t484.length co26))) := ⟨by repeat ((with_reducible first | exact HB.1 | refine zh ?_ qm.1))⟩
    (try clear qj)
    (try clear qk)
    (try clear qo)
    (try clear qp)
    (try clear qs)
    (try clear qt)
    (try clear zZ)
    (try clear zY)
    (try clear qg)
    (try clear HB)
    generalize ((((((w21.setCell ⟨gb488, 0, none⟩ (.int .i64 t477)).setCell ⟨gb488, 1, none⟩ (.slice Ao25 t478.length co25)).setCell ⟨gb488, 2, none⟩ (.int .i64 t481)).setCell ⟨gb488, 3, none⟩ (.int .i64 t482)).setCell ⟨gb488, 4, none⟩ (.int .i64 t483)).setCell ⟨gb488, 5, none⟩ (.slice Ao26 t484.length co26)) = w28 at n0_ n1_ n2_ n3_ n4_ n5_ n6_ n7_ n8_ n9_ ⊢
    have qj := n0_
    have qk := n1_
    have qo := n2_
    have qp := n3_
    have qs := n4_
    have qt := n5_
    have zZ := n6_
    have zY := n7_
    have qg := n8_
    have HB := n9_
    clear n0_ n1_ n2_ n3_ n4_ n5_ n6_ n7_ n8_ n9_
    replace qj := ky (zf qj.1)
    replace qk := ky (zf qk.1)
    replace qo := ky (zf qo.1)
    replace qp := ky (zf qp.1)
    replace qs := ky (zf qs.1)
    replace qt := ky (zf qt.1)
    replace zZ := ky (ze zZ.1)
    replace zY := ky (ze zY.1)
    replace qg := ky (ze qg.1)
    replace HB := ky (zl HB.1)
    refine start_ (n := 16) (S := fun w' => True) (ds := []) #[ks,ks,ks,ks,ks,ks,ks,ks,ks,ks,ks,ks,ks,ks,ks,ks] (by kernel_rfl) rfl rfl trivial (fun hHeld => ?_); refine with_tabW laws_FnPrepend.tab6 laws_FnPrepend.bits6 (fun HT_ HW_ => ?_)
    generalize w28.drew = w29 at qj qk qo qp qs qt zZ zY qg HB hHeld ⊢
    refine zx (i := 0) (N := some 56) (v := ?_) (a' := ?_) #[ku,ks,ks,ks,ks,ks,ks,ks,ks,ks,ks,ks,ks,ks,ks,ks] rfl rfl (zu HT_.1 (by kernel_rfl)) (fun _ _ _ h => h) (kb ⟨by rfl, ?_⟩) ?_ ?_
    rotate_left
    ·
     intro w'
     go_simp
     with_reducible rfl
    rotate_left
    ·
     simp only [kv, kz, kj, kk, zv, zw]
     rfl
    refine zx (i := 1) (N := some 57) (v := ?_) (a' := ?_) #[ku,ku,ks,ks,ks,ks,ks,ks,ks,ks,ks,ks,ks,ks,ks,ks] rfl rfl (zu HT_.1 (by kernel_rfl)) (fun _ _ _ h => h) (kb ⟨by rfl, ?_⟩) ?_ ?_
    rotate_left
    ·
     intro w'
     go_simp
     with_reducible rfl
    rotate_left
    ·
     simp only [kv, kz, kj, kk, zv, zw]
     rfl
    refine zx (i := 2) (N := some 58) (v := ?_) (a' := ?_) #[ku,ku,ku,ks,ks,ks,ks,ks,ks,ks,ks,ks,ks,ks,ks,ks] rfl rfl (zu HT_.1 (by kernel_rfl)) (fun _ _ _ h => h) (kb ⟨by rfl, ?_⟩) ?_ ?_
    rotate_left
    ·
     intro w'
     go_simp
     with_reducible rfl
    rotate_left
    ·
     simp only [kv, kz, kj, kk, zv, zw]
     rfl
    refine zx (i := 3) (N := some 59) (v := ?_) (a' := ?_) #[ku,ku,ku,ku,ks,ks,ks,ks,ks,ks,ks,ks,ks,ks,ks,ks] rfl rfl (zu HT_.1 (by kernel_rfl)) (fun _ _ _ h => h) (kb ⟨by rfl, ?_⟩) ?_ ?_
    rotate_left
    ·
     intro w'
     go_simp
     with_reducible rfl
    rotate_left
    ·
     simp only [kv, kz, kj, kk, zv, zw]
     rfl
    refine zx (i := 4) (N := some 60) (v := undef) (a' := ?_) #[ku,ku,ku,ku,ku,ks,ks,ks,ks,ks,ks,ks,ks,ks,ks,ks] rfl rfl (zu HT_.1 (by kernel_rfl)) (fun _ _ _ h => h) (ko ⟨by rfl, rfl⟩) ?_ ?_
    rotate_left
    ·
     simp only [kv, kz, kj, kk, zv, zw]
     rfl
    refine zx (i := 5) (N := some 61) (v := undef) (a' := ?_) #[ku,ku,ku,ku,ku,ku,ks,ks,ks,ks,ks,ks,ks,ks,ks,ks] rfl rfl (zu HT_.1 (by kernel_rfl)) (fun _ _ _ h => h) (ko ⟨by rfl, rfl⟩) ?_ ?_
    rotate_left
    ·
     simp only [kv, kz, kj, kk, zv, zw]
     rfl
    refine zx (i := 6) (N := some 62) (v := undef) (a' := ?_) #[ku,ku,ku,ku,ku,ku,ku,ks,ks,ks,ks,ks,ks,ks,ks,ks] rfl rfl (zu HT_.1 (by kernel_rfl)) (fun _ _ _ h => h) (ko ⟨by rfl, rfl⟩) ?_ ?_
    rotate_left
    ·
     simp only [kv, kz, kj, kk, zv, zw]
     rfl
    refine zx (i := 7) (N := some 63) (v := undef) (a' := ?_) #[ku,ku,ku,ku,ku,ku,ku,ku,ks,ks,ks,ks,ks,ks,ks,ks] rfl rfl (zu HT_.1 (by kernel_rfl)) (fun _ _ _ h => h) (ko ⟨by rfl, rfl⟩) ?_ ?_
    rotate_left
    ·
     simp only [kv, kz, kj, kk, zv, zw]
     rfl
    refine zx (i := 8) (N := some 64) (v := ?_) (a' := ?_) #[ku,ku,ku,ku,ku,ku,ku,ku,ku,ks,ks,ks,ks,ks,ks,ks] rfl rfl (zu HT_.1 (by kernel_rfl)) (fun _ _ _ h => h) (kb ⟨by rfl, ?_⟩) ?_ ?_
    rotate_left
    ·
     intro w'
     go_simp
     with_reducible rfl
    rotate_left
    ·
     simp only [kv, kz, kj, kk, zv, zw]
     rfl
    refine zx (i := 9) (N := some 65) (v := ?_) (a' := ?_) #[ku,ku,ku,ku,ku,ku,ku,ku,ku,ku,ks,ks,ks,ks,ks,ks] rfl rfl (zu HT_.1 (by kernel_rfl)) (fun _ _ _ h => h) (kb ⟨by rfl, ?_⟩) ?_ ?_
    rotate_left
    ·
     intro w'
     go_simp
     with_reducible rfl
    rotate_left
    ·
     simp only [kv, kz, kj, kk, zv, zw]
     rfl
    refine zx (i := 10) (N := some 66) (v := undef) (a' := ?_) #[ku,ku,ku,ku,ku,ku,ku,ku,ku,ku,ku,ks,ks,ks,ks,ks] rfl rfl (zu HT_.1 (by kernel_rfl)) (fun _ _ _ h => h) (ko ⟨by rfl, rfl⟩) ?_ ?_
    rotate_left
    ·
     simp only [kv, kz, kj, kk, zv, zw]
     rfl
    refine zx (i := 11) (N := some 67) (v := undef) (a' := ?_) #[ku,ku,ku,ku,ku,ku,ku,ku,ku,ku,ku,ku,ks,ks,ks,ks] rfl rfl (zu HT_.1 (by kernel_rfl)) (fun _ _ _ h => h) (ko ⟨by rfl, rfl⟩) ?_ ?_
    rotate_left
    ·
     simp only [kv, kz, kj, kk, zv, zw]
     rfl
    refine zx (i := 12) (N := some 68) (v := undef) (a' := ?_) #[ku,ku,ku,ku,ku,ku,ku,ku,ku,ku,ku,ku,ku,ks,ks,ks] rfl rfl (zu HT_.1 (by kernel_rfl)) (fun _ _ _ h => h) (ko ⟨by rfl, rfl⟩) ?_ ?_
    rotate_left
    ·
     simp only [kv, kz, kj, kk, zv, zw]
     rfl
    refine zx (i := 13) (N := some 69) (v := undef) (a' := ?_) #[ku,ku,ku,ku,ku,ku,ku,ku,ku,ku,ku,ku,ku,ku,ks,ks] rfl rfl (zu HT_.1 (by kernel_rfl)) (fun _ _ _ h => h) (ko ⟨by rfl, rfl⟩) ?_ ?_
    rotate_left
    ·
     simp only [kv, kz, kj, kk, zv, zw]
     rfl
    refine zx (i := 14) (N := some 70) (v := undef) (a' := ?_) #[ku,ku,ku,ku,ku,ku,ku,ku,ku,ku,ku,ku,ku,ku,ku,ks] rfl rfl (zu HT_.1 (by kernel_rfl)) (fun _ _ _ h => h) (ko ⟨by rfl, rfl⟩) ?_ ?_
    rotate_left
    ·
     simp only [kv, kz, kj, kk, zv, zw]
     rfl
    refine zx (i := 15) (N := some 71) (v := ?_) (a' := ?_) #[ku,ku,ku,ku,ku,ku,ku,ku,ku,ku,ku,ku,ku,ku,ku,ku] rfl rfl (zu HT_.1 (by kernel_rfl)) (fun _ _ _ h => h) (kb ⟨by rfl, ?_⟩) ?_ ?_
    rotate_left
    ·
     intro w'
     go_simp
     with_reducible rfl
    rotate_left
    ·
     simp only [kv, kz, kj, kk, zv, zw]
     rfl
    refine done_ (done_of HT_.1 (by kernel_rfl)) ?_
    try go_wp2
    go_meet
    case rel => exact ⟨_, (true), (by rfl), H', ⟨by omega⟩, ⟨by exact qj.1⟩, ⟨by exact qk.1⟩, ⟨by exact qo.1⟩, ⟨by exact qp.1⟩, ⟨by exact qs.1⟩, ⟨by exact qt.1⟩, ⟨by exact zZ.1⟩, ⟨by exact zY.1⟩, ⟨by exact qg.1⟩, ⟨by exact HB.1⟩⟩
   ·
    rw [if_neg c27] at H
    have c27b0 : (t475 != t487) = false := by simpa using c27
    (try (have c27b1 : decide (t475 = t487) = true := by simpa using c27))
    (try (have c27b2 : (t475 == t487) = true := by simpa using c27))
    clear c27
    skip
    replace H := kh.mp H
    obtain ⟨t489, A300, H⟩ := H
    replace H : (if t489 = true then ((impl_GoodAttrs.f k t452 t453 t456 t457 t458 t459).bind fun t490 => ((spec_GoodAttrs.f k t452 t453 t456 t457 t458 t459).bind fun t491 => (laws_FnPrepend.j0 k l1 t462 t463 t475 (t490 != t491) t452 t453 t456 t457 t458 t459 t465 t466 t469 t470 t471 t472))) else (laws_FnPrepend.j0 k l1 t462 t463 t475 true t452 t453 t456 t457 t458 t459 t465 t466 t469 t470 t471 t472)) = some r := H
    have A30 := ky A300
    clear A300
    by_cases c31 : t489 = true
    ·
     subst c31
     have H1 : ((impl_GoodAttrs.f k t452 t453 t456 t457 t458 t459).bind fun t490 => ((spec_GoodAttrs.f k t452 t453 t456 t457 t458 t459).bind fun t491 => (laws_FnPrepend.j0 k l1 t462 t463 t475 (t490 != t491) t452 t453 t456 t457 t458 t459 t465 t466 t469 t470 t471 t472))) = some r := by rw [if_pos rfl] at H; exact H
     clear H
     have H := H1
     clear H1
     replace H := kh.mp H
     obtain ⟨t490, A320, H⟩ := H
     replace H : ((spec_GoodAttrs.f k t452 t453 t456 t457 t458 t459).bind fun t491 => (laws_FnPrepend.j0 k l1 t462 t463 t475 (t490 != t491) t452 t453 t456 t457 t458 t459 t465 t466 t469 t470 t471 t472)) = some r := H
     have A32 := ky A320
     clear A320
     replace H := kh.mp H
     obtain ⟨t491, A330, H⟩ := H
     replace H : (laws_FnPrepend.j0 k l1 t462 t463 t475 (t490 != t491) t452 t453 t456 t457 t458 t459 t465 t466 t469 t470 t471 t472) = some r := H
     have A33 := ky A330
     clear A330
     have H' := ky H
     clear H
     try go_wp2
     have n0_ : zt (Kd.R (zz .i64) 3 ((((((w21.setCell ⟨gb488, 0, none⟩ (.int .i64 t477)).setCell ⟨gb488, 1, none⟩ (.slice Ao25 t478.length co25)).setCell ⟨gb488, 2, none⟩ (.int .i64 t481)).setCell ⟨gb488, 3, none⟩ (.int .i64 t482)).setCell ⟨gb488, 4, none⟩ (.int .i64 t483)).setCell ⟨gb488, 5, none⟩ (.slice Ao26 t484.length co26)) w.heap.size (fun k_ => some k_ ≠ (.slice Ao12 t459.length co12 : Value).ownBlock ∧ some k_ ≠ (.slice Ao17 t466.length co17 : Value).ownBlock ∧ some k_ ≠ (.slice Ao18 t472.length co18 : Value).ownBlock ∧ some k_ ≠ (.slice Ao25 t478.length co25 : Value).ownBlock ∧ some k_ ≠ (.slice Ao26 t484.length co26 : Value).ownBlock) (.slice Ao11 t453.length co11) t453) := ⟨by exact zp (zg (p := ⟨gb488, 5, none⟩) (zg (p := ⟨gb488, 4, none⟩) (zg (p := ⟨gb488, 3, none⟩) (zg (p := ⟨gb488, 2, none⟩) (zg (p := ⟨gb488, 1, none⟩) (zg (p := ⟨gb488, 0, none⟩) (zo qj.1 qg.1 (by decide)) (fun _ hk => hk.2) (.int .i64 t477)) (fun _ hk => hk.2) (.slice Ao25 t478.length co25)) (fun _ hk => hk.2) (.int .i64 t481)) (fun _ hk => hk.2) (.int .i64 t482)) (fun _ hk => hk.2) (.int .i64 t483)) (fun _ hk => hk.2) (.slice Ao26 t484.length co26)) (fun _ hk => ⟨hk.1.1.1.1.1, ⟨hk.1.1.1.1.2, ⟨hk.1.1.1.2, ⟨hk.1.1.2, hk.1.2⟩⟩⟩⟩)⟩
     have n1_ : zt (Kd.R (zz .i64) 3 ((((((w21.setCell ⟨gb488, 0, none⟩ (.int .i64 t477)).setCell ⟨gb488, 1, none⟩ (.slice Ao25 t478.length co25)).setCell ⟨gb488, 2, none⟩ (.int .i64 t481)).setCell ⟨gb488, 3, none⟩ (.int .i64 t482)).setCell ⟨gb488, 4, none⟩ (.int .i64 t483)).setCell ⟨gb488, 5, none⟩ (.slice Ao26 t484.length co26)) w.heap.size (fun k_ => some k_ ≠ (.slice Ao11 t453.length co11 : Value).ownBlock ∧ some k_ ≠ (.slice Ao17 t466.length co17 : Value).ownBlock ∧ some k_ ≠ (.slice Ao18 t472.length co18 : Value).ownBlock ∧ some k_ ≠ (.slice Ao25 t478.length co25 : Value).ownBlock ∧ some k_ ≠ (.slice Ao26 t484.length co26 : Value).ownBlock) (.slice Ao12 t459.length co12) t459) := ⟨by exact zp (zg (p := ⟨gb488, 5, none⟩) (zg (p := ⟨gb488, 4, none⟩) (zg (p := ⟨gb488, 3, none⟩) (zg (p := ⟨gb488, 2, none⟩) (zg (p := ⟨gb488, 1, none⟩) (zg (p := ⟨gb488, 0, none⟩) (zo qk.1 qg.1 (by decide)) (fun _ hk => hk.2) (.int .i64 t477)) (fun _ hk => hk.2) (.slice Ao25 t478.length co25)) (fun _ hk => hk.2) (.int .i64 t481)) (fun _ hk => hk.2) (.int .i64 t482)) (fun _ hk => hk.2) (.int .i64 t483)) (fun _ hk => hk.2) (.slice Ao26 t484.length co26)) (fun _ hk => ⟨hk.1.1.1.1.1, ⟨hk.1.1.1.1.2, ⟨hk.1.1.1.2, ⟨hk.1.1.2, hk.1.2⟩⟩⟩⟩)⟩
     have n2_ : zt (Kd.R (zz .i64) 3 ((((((w21.setCell ⟨gb488, 0, none⟩ (.int .i64 t477)).setCell ⟨gb488, 1, none⟩ (.slice Ao25 t478.length co25)).setCell ⟨gb488, 2, none⟩ (.int .i64 t481)).setCell ⟨gb488, 3, none⟩ (.int .i64 t482)).setCell ⟨gb488, 4, none⟩ (.int .i64 t483)).setCell ⟨gb488, 5, none⟩ (.slice Ao26 t484.length co26)) w.heap.size (fun k_ => some k_ ≠ (.slice Ao11 t453.length co11 : Value).ownBlock ∧ some k_ ≠ (.slice Ao12 t459.length co12 : Value).ownBlock ∧ some k_ ≠ (.slice Ao18 t472.length co18 : Value).ownBlock ∧ some k_ ≠ (.slice Ao25 t478.length co25 : Value).ownBlock ∧ some k_ ≠ (.slice Ao26 t484.length co26 : Value).ownBlock) (.slice Ao17 t466.length co17) t466) := ⟨by exact zp (zg (p := ⟨gb488, 5, none⟩) (zg (p := ⟨gb488, 4, none⟩) (zg (p := ⟨gb488, 3, none⟩) (zg (p := ⟨gb488, 2, none⟩) (zg (p := ⟨gb488, 1, none⟩) (zg (p := ⟨gb488, 0, none⟩) (zo qo.1 qg.1 (by decide)) (fun _ hk => hk.2) (.int .i64 t477)) (fun _ hk => hk.2) (.slice Ao25 t478.length co25)) (fun _ hk => hk.2) (.int .i64 t481)) (fun _ hk => hk.2) (.int .i64 t482)) (fun _ hk => hk.2) (.int .i64 t483)) (fun _ hk => hk.2) (.slice Ao26 t484.length co26)) (fun _ hk => ⟨hk.1.1.1.1.2, ⟨hk.1.1.1.2, ⟨hk.1.1.1.1.1, ⟨hk.1.1.2, hk.1.2⟩⟩⟩⟩)⟩
     have n3_ : zt (Kd.R (zz .i64) 3 ((((((w21.setCell ⟨gb488, 0, none⟩ (.int .i64 t477)).setCell ⟨gb488, 1, none⟩ (.slice Ao25 t478.length co25)).setCell ⟨gb488, 2, none⟩ (.int .i64 t481)).setCell ⟨gb488, 3, none⟩ (.int .i64 t482)).setCell ⟨gb488, 4, none⟩ (.int .i64 t483)).setCell ⟨gb488, 5, none⟩ (.slice Ao26 t484.length co26)) w.heap.size (fun k_ => some k_ ≠ (.slice Ao11 t453.length co11 : Value).ownBlock ∧ some k_ ≠ (.slice Ao12 t459.length co12 : Value).ownBlock ∧ some k_ ≠ (.slice Ao17 t466.length co17 : Value).ownBlock ∧ some k_ ≠ (.slice Ao25 t478.length co25 : Value).ownBlock ∧ some k_ ≠ (.slice Ao26 t484.length co26 : Value).ownBlock) (.slice Ao18 t472.length co18) t472) := ⟨by exact zp (zg (p := ⟨gb488, 5, none⟩) (zg (p := ⟨gb488, 4, none⟩) (zg (p := ⟨gb488, 3, none⟩) (zg (p := ⟨gb488, 2, none⟩) (zg (p := ⟨gb488, 1, none⟩) (zg (p := ⟨gb488, 0, none⟩) (zo qp.1 qg.1 (by decide)) (fun _ hk => hk.2) (.int .i64 t477)) (fun _ hk => hk.2) (.slice Ao25 t478.length co25)) (fun _ hk => hk.2) (.int .i64 t481)) (fun _ hk => hk.2) (.int .i64 t482)) (fun _ hk => hk.2) (.int .i64 t483)) (fun _ hk => hk.2) (.slice Ao26 t484.length co26)) (fun _ hk => ⟨hk.1.1.1.1.2, ⟨hk.1.1.1.2, ⟨hk.1.1.1.1.1, ⟨hk.1.1.2, hk.1.2⟩⟩⟩⟩)⟩
     have n4_ : zt (Kd.R (zz .i64) 3 ((((((w21.setCell ⟨gb488, 0, none⟩ (.int .i64 t477)).setCell ⟨gb488, 1, none⟩ (.slice Ao25 t478.length co25)).setCell ⟨gb488, 2, none⟩ (.int .i64 t481)).setCell ⟨gb488, 3, none⟩ (.int .i64 t482)).setCell ⟨gb488, 4, none⟩ (.int .i64 t483)).setCell ⟨gb488, 5, none⟩ (.slice Ao26 t484.length co26)) w.heap.size (fun k_ => some k_ ≠ (.slice Ao11 t453.length co11 : Value).ownBlock ∧ some k_ ≠ (.slice Ao12 t459.length co12 : Value).ownBlock ∧ some k_ ≠ (.slice Ao17 t466.length co17 : Value).ownBlock ∧ some k_ ≠ (.slice Ao18 t472.length co18 : Value).ownBlock ∧ some k_ ≠ (.slice Ao26 t484.length co26 : Value).ownBlock) (.slice Ao25 t478.length co25) t478) := ⟨by exact zp (zg (p := ⟨gb488, 5, none⟩) (zg (p := ⟨gb488, 4, none⟩) (zg (p := ⟨gb488, 3, none⟩) (zg (p := ⟨gb488, 2, none⟩) (zg (p := ⟨gb488, 1, none⟩) (zg (p := ⟨gb488, 0, none⟩) (zo qs.1 qg.1 (by decide)) (fun _ hk => hk.2) (.int .i64 t477)) (fun _ hk => hk.2) (.slice Ao25 t478.length co25)) (fun _ hk => hk.2) (.int .i64 t481)) (fun _ hk => hk.2) (.int .i64 t482)) (fun _ hk => hk.2) (.int .i64 t483)) (fun _ hk => hk.2) (.slice Ao26 t484.length co26)) (fun _ hk => ⟨hk.1.1.1.1.2, ⟨hk.1.1.1.2, ⟨hk.1.1.2, ⟨hk.1.2, hk.1.1.1.1.1⟩⟩⟩⟩)⟩
     have n5_ : zt (Kd.R (zz .i64) 3 ((((((w21.setCell ⟨gb488, 0, none⟩ (.int .i64 t477)).setCell ⟨gb488, 1, none⟩ (.slice Ao25 t478.length co25)).setCell ⟨gb488, 2, none⟩ (.int .i64 t481)).setCell ⟨gb488, 3, none⟩ (.int .i64 t482)).setCell ⟨gb488, 4, none⟩ (.int .i64 t483)).setCell ⟨gb488, 5, none⟩ (.slice Ao26 t484.length co26)) w.heap.size (fun k_ => some k_ ≠ (.slice Ao11 t453.length co11 : Value).ownBlock ∧ some k_ ≠ (.slice Ao12 t459.length co12 : Value).ownBlock ∧ some k_ ≠ (.slice Ao17 t466.length co17 : Value).ownBlock ∧ some k_ ≠ (.slice Ao18 t472.length co18 : Value).ownBlock ∧ some k_ ≠ (.slice Ao25 t478.length co25 : Value).ownBlock) (.slice Ao26 t484.length co26) t484) := ⟨by exact zp (zg (p := ⟨gb488, 5, none⟩) (zg (p := ⟨gb488, 4, none⟩) (zg (p := ⟨gb488, 3, none⟩) (zg (p := ⟨gb488, 2, none⟩) (zg (p := ⟨gb488, 1, none⟩) (zg (p := ⟨gb488, 0, none⟩) (zo qt.1 qg.1 (by decide)) (fun _ hk => hk.2) (.int .i64 t477)) (fun _ hk => hk.2) (.slice Ao25 t478.length co25)) (fun _ hk => hk.2) (.int .i64 t481)) (fun _ hk => hk.2) (.int .i64 t482)) (fun _ hk => hk.2) (.int .i64 t483)) (fun _ hk => hk.2) (.slice Ao26 t484.length co26)) (fun _ hk => ⟨hk.1.1.1.1.2, ⟨hk.1.1.1.2, ⟨hk.1.1.2, ⟨hk.1.2, hk.1.1.1.1.1⟩⟩⟩⟩)⟩
     have n6_ : zt (((((((w21.setCell ⟨gb488, 0, none⟩ (.int .i64 t477)).setCell ⟨gb488, 1, none⟩ (.slice Ao25 t478.length co25)).setCell ⟨gb488, 2, none⟩ (.int .i64 t481)).setCell ⟨gb488, 3, none⟩ (.int .i64 t482)).setCell ⟨gb488, 4, none⟩ (.int .i64 t483)).setCell ⟨gb488, 5, none⟩ (.slice Ao26 t484.length co26)).heap[gb464]? = some (.cells #[.int .i64 t452, .slice Ao11 t453.length co11, .int .i64 t456, .int .i64 t457, .int .i64 t458, .slice Ao12 t459.length co12] 27 (0, 0))) := ⟨by refine zq ?_ qr.1 _; refine zq ?_ qr.1 _; refine zq ?_ qr.1 _; refine zq ?_ qr.1 _; refine zq ?_ qr.1 _; refine zq ?_ qr.1 _; exact zZ.1⟩
     have n7_ : zt (((((((w21.setCell ⟨gb488, 0, none⟩ (.int .i64 t477)).setCell ⟨gb488, 1, none⟩ (.slice Ao25 t478.length co25)).setCell ⟨gb488, 2, none⟩ (.int .i64 t481)).setCell ⟨gb488, 3, none⟩ (.int .i64 t482)).setCell ⟨gb488, 4, none⟩ (.int .i64 t483)).setCell ⟨gb488, 5, none⟩ (.slice Ao26 t484.length co26)).heap[gb476]? = some (.cells #[.int .i64 t465, .slice Ao17 t466.length co17, .int .i64 t469, .int .i64 t470, .int .i64 t471, .slice Ao18 t472.length co18] 27 (0, 0))) := ⟨by refine zq ?_ qq.1 _; refine zq ?_ qq.1 _; refine zq ?_ qq.1 _; refine zq ?_ qq.1 _; refine zq ?_ qq.1 _; refine zq ?_ qq.1 _; exact zY.1⟩
     have n8_ : zt (((((((w21.setCell ⟨gb488, 0, none⟩ (.int .i64 t477)).setCell ⟨gb488, 1, none⟩ (.slice Ao25 t478.length co25)).setCell ⟨gb488, 2, none⟩ (.int .i64 t481)).setCell ⟨gb488, 3, none⟩ (.int .i64 t482)).setCell ⟨gb488, 4, none⟩ (.int .i64 t483)).setCell ⟨gb488, 5, none⟩ (.slice Ao26 t484.length co26)).heap[gb488]? = some (.cells #[.int .i64 t477, .slice Ao25 t478.length co25, .int .i64 t481, .int .i64 t482, .int .i64 t483, .slice Ao26 t484.length co26] 27 (0, 0))) := ⟨by refine zD (cs := #[.int .i64 t477, .slice Ao25 t478.length co25, .int .i64 t481, .int .i64 t482, .int .i64 t483, .slice none 0 0]) ?_ 5 _ rfl; refine zD (cs := #[.int .i64 t477, .slice Ao25 t478.length co25, .int .i64 t481, .int .i64 t482, .int .i64 0, .slice none 0 0]) ?_ 4 _ rfl; refine zD (cs := #[.int .i64 t477, .slice Ao25 t478.length co25, .int .i64 t481, .int .i64 0, .int .i64 0, .slice none 0 0]) ?_ 3 _ rfl; refine zD (cs := #[.int .i64 t477, .slice Ao25 t478.length co25, .int .i64 0, .int .i64 0, .int .i64 0, .slice none 0 0]) ?_ 2 _ rfl; refine zD (cs := #[.int .i64 t477, .slice none 0 0, .int .i64 0, .int .i64 0, .int .i64 0, .slice none 0 0]) ?_ 1 _ rfl; refine zD (cs := #[.int .i64 0, .slice none 0 0, .int .i64 0, .int .i64 0, .int .i64 0, .slice none 0 0]) ?_ 0 _ rfl; exact qg.1⟩
     have n9_ : zt (Below w.heap.size w ((((((w21.setCell ⟨gb488, 0, none⟩ (.int .i64 t477)).setCell ⟨gb488, 1, none⟩ (.slice Ao25 t478.length co25)).setCell ⟨gb488, 2, none⟩ (.int .i64 t481)).setCell ⟨gb488, 3, none⟩ (.int .i64 t482)).setCell ⟨gb488, 4, none⟩ (.int .i64 t483)).setCell ⟨gb488, 5, none⟩ (.slice Ao26 t484.length co26))) := ⟨by repeat ((with_reducible first | exact HB.1 | refine zh ?_ qm.1))⟩
     (try clear qj)
     (try clear qk)
     (try clear qo)
     (try clear qp)
     (try clear qs)
     (try clear qt)
     (try clear zZ)
     (try clear zY)
     (try clear qg)
     (try clear HB)
     generalize ((((((w21.setCell ⟨gb488, 0, none⟩ (.int .i64 t477)).setCell ⟨gb488, 1, none⟩ (.slice Ao25 t478.length co25)).setCell ⟨gb488, 2, none⟩ (.int .i64 t481)).setCell ⟨gb488, 3, none⟩ (.int .i64 t482)).setCell ⟨gb488, 4, none⟩ (.int .i64 t483)).setCell ⟨gb488, 5, none⟩ (.slice Ao26 t484.length co26)) = w34 at n0_ n1_ n2_ n3_ n4_ n5_ n6_ n7_ n8_ n9_ ⊢
     have qj := n0_
     have qk := n1_
     have qo := n2_
     have qp := n3_
     have qs := n4_
     have qt := n5_
     have zZ := n6_
     have zY := n7_
     have qg := n8_
     have HB := n9_
     clear n0_ n1_ n2_ n3_ n4_ n5_ n6_ n7_ n8_ n9_
     replace qj := ky (zf qj.1)
     replace qk := ky (zf qk.1)
     replace qo := ky (zf qo.1)
     replace qp := ky (zf qp.1)
     replace qs := ky (zf qs.1)
     replace qt := ky (zf qt.1)
     replace zZ := ky (ze zZ.1)
     replace zY := ky (ze zY.1)
     replace qg := ky (ze qg.1)
     replace HB := ky (zl HB.1)
     refine start_ (n := 16) (S := fun w' => w'.cell? ⟨gb476, 0, none⟩ = some (.int .i64 t465) ∧ w'.cell? ⟨gb476, 1, none⟩ = some (.slice Ao17 t466.length co17) ∧ w'.cell? ⟨gb476, 2, none⟩ = some (.int .i64 t469) ∧ w'.cell? ⟨gb476, 3, none⟩ = some (.int .i64 t470) ∧ w'.cell? ⟨gb476, 4, none⟩ = some (.int .i64 t471) ∧ w'.cell? ⟨gb476, 5, none⟩ = some (.slice Ao18 t472.length co18) ∧ w'.cell? ⟨gb488, 0, none⟩ = some (.int .i64 t477) ∧ w'.cell? ⟨gb488, 1, none⟩ = some (.slice Ao25 t478.length co25) ∧ w'.cell? ⟨gb488, 2, none⟩ = some (.int .i64 t481) ∧ w'.cell? ⟨gb488, 3, none⟩ = some (.int .i64 t482) ∧ w'.cell? ⟨gb488, 4, none⟩ = some (.int .i64 t483) ∧ w'.cell? ⟨gb488, 5, none⟩ = some (.slice Ao26 t484.length co26) ∧ w'.cell? ⟨gb464, 0, none⟩ = some (.int .i64 t452) ∧ w'.cell? ⟨gb464, 1, none⟩ = some (.slice Ao11 t453.length co11) ∧ w'.cell? ⟨gb464, 2, none⟩ = some (.int .i64 t456) ∧ w'.cell? ⟨gb464, 3, none⟩ = some (.int .i64 t457) ∧ w'.cell? ⟨gb464, 4, none⟩ = some (.int .i64 t458) ∧ w'.cell? ⟨gb464, 5, none⟩ = some (.slice Ao12 t459.length co12)) (ds := []) #[ks,ks,ks,ks,ks,ks,ks,ks,ks,ks,ks,ks,ks,ks,ks,ks] (by kernel_rfl) rfl rfl ⟨(zi zY.1 0).trans rfl, (zi zY.1 1).trans rfl, (zi zY.1 2).trans rfl, (zi zY.1 3).trans rfl, (zi zY.1 4).trans rfl, (zi zY.1 5).trans rfl, (zi qg.1 0).trans rfl, (zi qg.1 1).trans rfl, (zi qg.1 2).trans rfl, (zi qg.1 3).trans rfl, (zi qg.1 4).trans rfl, (zi qg.1 5).trans rfl, (zi zZ.1 0).trans rfl, (zi zZ.1 1).trans rfl, (zi zZ.1 2).trans rfl, (zi zZ.1 3).trans rfl, (zi zZ.1 4).trans rfl, (zi zZ.1 5).trans rfl⟩ (fun hHeld => ?_); refine with_tabW laws_FnPrepend.tab6 laws_FnPrepend.bits6 (fun HT_ HW_ => ?_)
     generalize w34.drew = w35 at qj qk qo qp qs qt zZ zY qg HB hHeld ⊢
     refine zx (i := 0) (N := some 56) (v := ?_) (a' := ?_) #[ku,ks,ks,ks,ks,ks,ks,ks,ks,ks,ks,ks,ks,ks,ks,ks] rfl rfl (zu HT_.1 (by kernel_rfl)) (fun _ _ _ h => h) (kb ⟨by rfl, ?_⟩) ?_ ?_
     rotate_left
     ·
      intro w'
      go_simp
      with_reducible rfl
     rotate_left
     ·
      simp only [kv, kz, kj, kk, zv, zw]
      rfl
     refine zx (i := 1) (N := some 57) (v := ?_) (a' := ?_) #[ku,ku,ks,ks,ks,ks,ks,ks,ks,ks,ks,ks,ks,ks,ks,ks] rfl rfl (zu HT_.1 (by kernel_rfl)) (fun _ _ _ h => h) (kb ⟨by rfl, ?_⟩) ?_ ?_
     rotate_left
     ·
      intro w'
      go_simp
      with_reducible rfl
     rotate_left
     ·
      simp only [kv, kz, kj, kk, zv, zw]
      rfl
     refine zx (i := 2) (N := some 58) (v := ?_) (a' := ?_) #[ku,ku,ku,ks,ks,ks,ks,ks,ks,ks,ks,ks,ks,ks,ks,ks] rfl rfl (zu HT_.1 (by kernel_rfl)) (fun _ _ _ h => h) (kb ⟨by rfl, ?_⟩) ?_ ?_
     rotate_left
     ·
      intro w'
      go_simp
      with_reducible rfl
     rotate_left
     ·
      simp only [kv, kz, kj, kk, zv, zw]
      rfl
     refine zx (i := 3) (N := some 59) (v := ?_) (a' := ?_) #[ku,ku,ku,ku,ks,ks,ks,ks,ks,ks,ks,ks,ks,ks,ks,ks] rfl rfl (zu HT_.1 (by kernel_rfl)) (fun _ _ _ h => h) (kb ⟨by rfl, ?_⟩) ?_ ?_
     rotate_left
     ·
      intro w'
      go_simp
      with_reducible rfl
     rotate_left
     ·
      simp only [kv, kz, kj, kk, zv, zw]
      rfl
     refine zT (i := 4) (N := some 60) (v := ?_) (a' := ?_) #[ku,ku,ku,ku,ku,ks,ks,ks,ks,ks,ks,ks,ks,ks,ks,ks] rfl rfl (zH HT_.1 HW_.1 (by kernel_rfl)) (fun _ _ _ h => h) (kb ⟨by rfl, ?_⟩) hHeld ?_ ?_
     rotate_left
     ·
      rintro w' ⟨s0, s1, s2, s3, s4, s5, s6, s7, s8, s9, s10, s11, s12, s13, s14, s15, s16, s17⟩
      go_simp
      with_reducible rfl
     rotate_left
     ·
      simp only [kv, kz, kj, kk, zv, zw]
      rfl
     refine zT (i := 5) (N := some 61) (v := ?_) (a' := ?_) #[ku,ku,ku,ku,ku,ku,ks,ks,ks,ks,ks,ks,ks,ks,ks,ks] rfl rfl (zH HT_.1 HW_.1 (by kernel_rfl)) (fun _ _ _ h => h) (kb ⟨by rfl, ?_⟩) hHeld ?_ ?_
     rotate_left
     ·
      rintro w' ⟨s0, s1, s2, s3, s4, s5, s6, s7, s8, s9, s10, s11, s12, s13, s14, s15, s16, s17⟩
      go_simp
      with_reducible rfl
     rotate_left
     ·
      simp only [kv, kz, kj, kk, zv, zw]
      rfl
     refine one_ (i := 6) (N := some 62) #[ku,ku,ku,ku,ku,ku,ku,ks,ks,ks,ks,ks,ks,ks,ks,ks] rfl rfl (zV HT_.1 (by kernel_rfl)) (by decide) (fun K hK => ?_)
     refine zX Try.func39 (by kernel_rfl) rfl #[.agg #[.int .i64 t465, .slice Ao17 t466.length co17, .int .i64 t469, .int .i64 t470, .int .i64 t471, .slice Ao18 t472.length co18], .agg #[.int .i64 t477, .slice Ao25 t478.length co25, .int .i64 t481, .int .i64 t482, .int .i64 t483, .slice Ao26 t484.length co26]] (by rfl) rfl rfl (by (try simp only [ke, kd, kc]); rfl) ?_
     with_reducible refine (laws_sameAttrs.calls k t465 _ _ t466 t469 t470 t471 _ _ t472 t477 _ _ t478 t481 t482 t483 _ _ t484 true _ ?side1 ?side2 ?side3 ?side4 ?side5 ?side6 ?side7 ?side8 A30.1).mono ?_
     (case side1 => repeat (exact (zr qo.1).2.2))
     (case side2 => exact (zr qo.1).2.1)
     (case side3 => repeat (exact (zr qp.1).2.2))
     (case side4 => exact (zr qp.1).2.1)
     (case side5 => repeat (exact (zr qs.1).2.2))
     (case side6 => exact (zr qs.1).2.1)
     (case side7 => repeat (exact (zr qt.1).2.2))
     (case side8 => exact (zr qt.1).2.1)
     rintro e w36 ⟨rfl, hb⟩
     refine ⟨_, rfl, ?_⟩
     replace qj := ky (zj qj.1 hb)
     replace qk := ky (zj qk.1 hb)
     replace qo := ky (zj qo.1 hb)
     replace qp := ky (zj qp.1 hb)
     replace qs := ky (zj qs.1 hb)
     replace qt := ky (zj qt.1 hb)
     replace zZ := ky (zm (g := gb464) (o := .cells #[.int .i64 t452, .slice Ao11 t453.length co11, .int .i64 t456, .int .i64 t457, .int .i64 t458, .slice Ao12 t459.length co12] 27 (0, 0)) zZ.1 hb)
     replace zY := ky (zm (g := gb476) (o := .cells #[.int .i64 t465, .slice Ao17 t466.length co17, .int .i64 t469, .int .i64 t470, .int .i64 t471, .slice Ao18 t472.length co18] 27 (0, 0)) zY.1 hb)
     replace qg := ky (zm (g := gb488) (o := .cells #[.int .i64 t477, .slice Ao25 t478.length co25, .int .i64 t481, .int .i64 t482, .int .i64 t483, .slice Ao26 t484.length co26] 27 (0, 0)) qg.1 hb)
     replace HB := ky (zA HB.1 hb)
     (try clear hb)
     (try clear hb2)
     (try clear hk)
     (try clear hi)
     refine hK.out _ _ ⟨(zi zY.1 0).trans rfl, (zi zY.1 1).trans rfl, (zi zY.1 2).trans rfl, (zi zY.1 3).trans rfl, (zi zY.1 4).trans rfl, (zi zY.1 5).trans rfl, (zi qg.1 0).trans rfl, (zi qg.1 1).trans rfl, (zi qg.1 2).trans rfl, (zi qg.1 3).trans rfl, (zi qg.1 4).trans rfl, (zi qg.1 5).trans rfl, (zi zZ.1 0).trans rfl, (zi zZ.1 1).trans rfl, (zi zZ.1 2).trans rfl, (zi zZ.1 3).trans rfl, (zi zZ.1 4).trans rfl, (zi zZ.1 5).trans rfl⟩ (fun hHeld => ?_)
     clear hK K
     refine zW (a' := ?_) ?_ ?_
     rotate_left
     ·
      show kv _ (some 62) _ = _
      simp only [kv, kz, kj, kk, zv, zw]
      rfl
     refine zx (i := 7) (N := some 63) (v := ?_) (a' := ?_) #[ku,ku,ku,ku,ku,ku,ku,ku,ks,ks,ks,ks,ks,ks,ks,ks] rfl rfl (zu HT_.1 (by kernel_rfl)) (fun _ _ _ h => h) (kb ⟨by rfl, ?_⟩) ?_ ?_
     rotate_left
     ·
      intro w'
      go_simp
      with_reducible rfl
     rotate_left
     ·
      simp only [kv, kz, kj, kk, zv, zw]
      rfl
     refine zx (i := 8) (N := some 64) (v := ?_) (a' := ?_) #[ku,ku,ku,ku,ku,ku,ku,ku,ku,ks,ks,ks,ks,ks,ks,ks] rfl rfl (zu HT_.1 (by kernel_rfl)) (fun _ _ _ h => h) (kb ⟨by rfl, ?_⟩) ?_ ?_
     rotate_left
     ·
      intro w'
      go_simp
      with_reducible rfl
     rotate_left
     ·
      simp only [kv, kz, kj, kk, zv, zw]
      rfl
     refine zx (i := 9) (N := some 65) (v := ?_) (a' := ?_) #[ku,ku,ku,ku,ku,ku,ku,ku,ku,ku,ks,ks,ks,ks,ks,ks] rfl rfl (zu HT_.1 (by kernel_rfl)) (fun _ _ _ h => h) (kb ⟨by rfl, ?_⟩) ?_ ?_
     rotate_left
     ·
      intro w'
      go_simp
      with_reducible rfl
     rotate_left
     ·
      simp only [kv, kz, kj, kk, zv, zw]
      rfl
     refine zT (i := 10) (N := some 66) (v := ?_) (a' := ?_) #[ku,ku,ku,ku,ku,ku,ku,ku,ku,ku,ku,ks,ks,ks,ks,ks] rfl rfl (zH HT_.1 HW_.1 (by kernel_rfl)) (fun _ _ _ h => h) (kb ⟨by rfl, ?_⟩) hHeld ?_ ?_
     rotate_left
     ·
      rintro w' ⟨s0, s1, s2, s3, s4, s5, s6, s7, s8, s9, s10, s11, s12, s13, s14, s15, s16, s17⟩
      go_simp
      with_reducible rfl
     rotate_left
     ·
      simp only [kv, kz, kj, kk, zv, zw]
      rfl
     refine zT (i := 12) (N := some 68) (v := ?_) (a' := ?_) #[ku,ku,ku,ku,ku,ku,ku,ku,ku,ku,ku,ks,ku,ks,ks,ks] rfl rfl (zH HT_.1 HW_.1 (by kernel_rfl)) (fun _ _ _ h => h) (kb ⟨by rfl, ?_⟩) hHeld ?_ ?_
     rotate_left
     ·
      rintro w' ⟨s0, s1, s2, s3, s4, s5, s6, s7, s8, s9, s10, s11, s12, s13, s14, s15, s16, s17⟩
      go_simp
      with_reducible rfl
     rotate_left
     ·
      simp only [kv, kz, kj, kk, zv, zw]
      rfl
     refine one_ (i := 11) (N := some 67) #[ku,ku,ku,ku,ku,ku,ku,ku,ku,ku,ku,ku,ku,ks,ks,ks] rfl rfl (zV HT_.1 (by kernel_rfl)) (by decide) (fun K hK => ?_)
     refine zX Try.func15 (by kernel_rfl) rfl #[.agg #[.int .i64 t452, .slice Ao11 t453.length co11, .int .i64 t456, .int .i64 t457, .int .i64 t458, .slice Ao12 t459.length co12]] (by rfl) rfl rfl (by (try simp only [ke, kd, kc]); rfl) ?_
     with_reducible refine (impl_GoodAttrs.calls k t452 _ _ t453 t456 t457 t458 _ _ t459 t490 _ ?side1 ?side2 ?side3 ?side4 A32.1).mono ?_
     (case side1 => repeat (exact (zr qj.1).2.2))
     (case side2 => exact (zr qj.1).2.1)
     (case side3 => repeat (exact (zr qk.1).2.2))
     (case side4 => exact (zr qk.1).2.1)
     rintro e w37 ⟨rfl, hb⟩
     refine ⟨_, rfl, ?_⟩
     replace qj := ky (zj qj.1 hb)
     replace qk := ky (zj qk.1 hb)
     replace qo := ky (zj qo.1 hb)
     replace qp := ky (zj qp.1 hb)
     replace qs := ky (zj qs.1 hb)
     replace qt := ky (zj qt.1 hb)
     replace zZ := ky (zm (g := gb464) (o := .cells #[.int .i64 t452, .slice Ao11 t453.length co11, .int .i64 t456, .int .i64 t457, .int .i64 t458, .slice Ao12 t459.length co12] 27 (0, 0)) zZ.1 hb)
     replace zY := ky (zm (g := gb476) (o := .cells #[.int .i64 t465, .slice Ao17 t466.length co17, .int .i64 t469, .int .i64 t470, .int .i64 t471, .slice Ao18 t472.length co18] 27 (0, 0)) zY.1 hb)
     replace qg := ky (zm (g := gb488) (o := .cells #[.int .i64 t477, .slice Ao25 t478.length co25, .int .i64 t481, .int .i64 t482, .int .i64 t483, .slice Ao26 t484.length co26] 27 (0, 0)) qg.1 hb)
     replace HB := ky (zA HB.1 hb)
     (try clear hb)
     (try clear hb2)
     (try clear hk)
     (try clear hi)
     refine hK.out _ _ ⟨(zi zY.1 0).trans rfl, (zi zY.1 1).trans rfl, (zi zY.1 2).trans rfl, (zi zY.1 3).trans rfl, (zi zY.1 4).trans rfl, (zi zY.1 5).trans rfl, (zi qg.1 0).trans rfl, (zi qg.1 1).trans rfl, (zi qg.1 2).trans rfl, (zi qg.1 3).trans rfl, (zi qg.1 4).trans rfl, (zi qg.1 5).trans rfl, (zi zZ.1 0).trans rfl, (zi zZ.1 1).trans rfl, (zi zZ.1 2).trans rfl, (zi zZ.1 3).trans rfl, (zi zZ.1 4).trans rfl, (zi zZ.1 5).trans rfl⟩ (fun hHeld => ?_)
     clear hK K
     refine zW (a' := ?_) ?_ ?_
     rotate_left
     ·
      show kv _ (some 67) _ = _
      simp only [kv, kz, kj, kk, zv, zw]
      rfl
     refine one_ (i := 13) (N := some 69) #[ku,ku,ku,ku,ku,ku,ku,ku,ku,ku,ku,ku,ku,ku,ks,ks] rfl rfl (zV HT_.1 (by kernel_rfl)) (by decide) (fun K hK => ?_)
     refine zX Try.func13 (by kernel_rfl) rfl #[.agg #[.int .i64 t452, .slice Ao11 t453.length co11, .int .i64 t456, .int .i64 t457, .int .i64 t458, .slice Ao12 t459.length co12]] (by rfl) rfl rfl (by (try simp only [ke, kd, kc]); rfl) ?_
     with_reducible refine (spec_GoodAttrs.calls k t452 _ _ t453 t456 t457 t458 _ _ t459 t491 _ ?side1 ?side2 ?side3 ?side4 A33.1).mono ?_
     (case side1 => repeat (exact (zr qj.1).2.2))
     (case side2 => exact (zr qj.1).2.1)
     (case side3 => repeat (exact (zr qk.1).2.2))
     (case side4 => exact (zr qk.1).2.1)
     rintro e w38 ⟨rfl, hb⟩
     refine ⟨_, rfl, ?_⟩
     replace qj := ky (zj qj.1 hb)
     replace qk := ky (zj qk.1 hb)
     replace qo := ky (zj qo.1 hb)
     replace qp := ky (zj qp.1 hb)
     replace qs := ky (zj qs.1 hb)
     replace qt := ky (zj qt.1 hb)
     replace zZ := ky (zm (g := gb464) (o := .cells #[.int .i64 t452, .slice Ao11 t453.length co11, .int .i64 t456, .int .i64 t457, .int .i64 t458, .slice Ao12 t459.length co12] 27 (0, 0)) zZ.1 hb)
     replace zY := ky (zm (g := gb476) (o := .cells #[.int .i64 t465, .slice Ao17 t466.length co17, .int .i64 t469, .int .i64 t470, .int .i64 t471, .slice Ao18 t472.length co18] 27 (0, 0)) zY.1 hb)
     replace qg := ky (zm (g := gb488) (o := .cells #[.int .i64 t477, .slice Ao25 t478.length co25, .int .i64 t481, .int .i64 t482, .int .i64 t483, .slice Ao26 t484.length co26] 27 (0, 0)) qg.1 hb)
     replace HB := ky (zA HB.1 hb)
     (try clear hb)
     (try clear hb2)
     (try clear hk)
     (try clear hi)
     refine hK.out _ _ ⟨(zi zY.1 0).trans rfl, (zi zY.1 1).trans rfl, (zi zY.1 2).trans rfl, (zi zY.1 3).trans rfl, (zi zY.1 4).trans rfl, (zi zY.1 5).trans rfl, (zi qg.1 0).trans rfl, (zi qg.1 1).trans rfl, (zi qg.1 2).trans rfl, (zi qg.1 3).trans rfl, (zi qg.1 4).trans rfl, (zi qg.1 5).trans rfl, (zi zZ.1 0).trans rfl, (zi zZ.1 1).trans rfl, (zi zZ.1 2).trans rfl, (zi zZ.1 3).trans rfl, (zi zZ.1 4).trans rfl, (zi zZ.1 5).trans rfl⟩ (fun hHeld => ?_)
     clear hK K
     refine zW (a' := ?_) ?_ ?_
     rotate_left
     ·
      show kv _ (some 69) _ = _
      simp only [kv, kz, kj, kk, zv, zw]
      rfl
     refine zx (i := 14) (N := some 70) (v := ?_) (a' := ?_) #[ku,ku,ku,ku,ku,ku,ku,ku,ku,ku,ku,ku,ku,ku,ku,ks] rfl rfl (zu HT_.1 (by kernel_rfl)) (fun _ _ _ h => h) (kb ⟨by rfl, ?_⟩) ?_ ?_
     rotate_left
     ·
      intro w'
      go_simp
      with_reducible rfl
     rotate_left
     ·
      simp only [kv, kz, kj, kk, zv, zw]
      rfl
     refine zx (i := 15) (N := some 71) (v := ?_) (a' := ?_) #[ku,ku,ku,ku,ku,ku,ku,ku,ku,ku,ku,ku,ku,ku,ku,ku] rfl rfl (zu HT_.1 (by kernel_rfl)) (fun _ _ _ h => h) (kb ⟨by rfl, ?_⟩) ?_ ?_
     rotate_left
     ·
      intro w'
      go_simp
      with_reducible rfl
     rotate_left
     ·
      simp only [kv, kz, kj, kk, zv, zw]
      rfl
     refine done_ (done_of HT_.1 (by kernel_rfl)) ?_
     try go_wp2
     go_meet
     case rel => exact ⟨_, ((t490 != t491)), (by rfl), H', ⟨by omega⟩, ⟨by exact qj.1⟩, ⟨by exact qk.1⟩, ⟨by exact qo.1⟩, ⟨by exact qp.1⟩, ⟨by exact qs.1⟩, ⟨by exact qt.1⟩, ⟨by exact zZ.1⟩, ⟨by exact zY.1⟩, ⟨by exact qg.1⟩, ⟨by exact HB.1⟩⟩
    ·
     replace c31 := km.mpr c31
     subst c31
     have H1 : (laws_FnPrepend.j0 k l1 t462 t463 t475 true t452 t453 t456 t457 t458 t459 t465 t466 t469 t470 t471 t472) = some r := by rw [if_neg (show ¬ (false = true) by decide)] at H; exact H
     clear H
     have H := H1
     clear H1
     have H' := ky H
     clear H
     try go_wp2
     have n0_ : zt (Kd.R (zz .i64) 3 ((((((w21.setCell ⟨gb488, 0, none⟩ (.int .i64 t477)).setCell ⟨gb488, 1, none⟩ (.slice Ao25 t478.length co25)).setCell ⟨gb488, 2, none⟩ (.int .i64 t481)).setCell ⟨gb488, 3, none⟩ (.int .i64 t482)).setCell ⟨gb488, 4, none⟩ (.int .i64 t483)).setCell ⟨gb488, 5, none⟩ (.slice Ao26 t484.length co26)) w.heap.size (fun k_ => some k_ ≠ (.slice Ao12 t459.length co12 : Value).ownBlock ∧ some k_ ≠ (.slice Ao17 t466.length co17 : Value).ownBlock ∧ some k_ ≠ (.slice Ao18 t472.length co18 : Value).ownBlock ∧ some k_ ≠ (.slice Ao25 t478.length co25 : Value).ownBlock ∧ some k_ ≠ (.slice Ao26 t484.length co26 : Value).ownBlock) (.slice Ao11 t453.length co11) t453) := ⟨by exact zp (zg (p := ⟨gb488, 5, none⟩) (zg (p := ⟨gb488, 4, none⟩) (zg (p := ⟨gb488, 3, none⟩) (zg (p := ⟨gb488, 2, none⟩) (zg (p := ⟨gb488, 1, none⟩) (zg (p := ⟨gb488, 0, none⟩) (zo qj.1 qg.1 (by decide)) (fun _ hk => hk.2) (.int .i64 t477)) (fun _ hk => hk.2) (.slice Ao25 t478.length co25)) (fun _ hk => hk.2) (.int .i64 t481)) (fun _ hk => hk.2) (.int .i64 t482)) (fun _ hk => hk.2) (.int .i64 t483)) (fun _ hk => hk.2) (.slice Ao26 t484.length co26)) (fun _ hk => ⟨hk.1.1.1.1.1, ⟨hk.1.1.1.1.2, ⟨hk.1.1.1.2, ⟨hk.1.1.2, hk.1.2⟩⟩⟩⟩)⟩
     have n1_ : zt (Kd.R (zz .i64) 3 ((((((w21.setCell ⟨gb488, 0, none⟩ (.int .i64 t477)).setCell ⟨gb488, 1, none⟩ (.slice Ao25 t478.length co25)).setCell ⟨gb488, 2, none⟩ (.int .i64 t481)).setCell ⟨gb488, 3, none⟩ (.int .i64 t482)).setCell ⟨gb488, 4, none⟩ (.int .i64 t483)).setCell ⟨gb488, 5, none⟩ (.slice Ao26 t484.length co26)) w.heap.size (fun k_ => some k_ ≠ (.slice Ao11 t453.length co11 : Value).ownBlock ∧ some k_ ≠ (.slice Ao17 t466.length co17 : Value).ownBlock ∧ some k_ ≠ (.slice Ao18 t472.length co18 : Value).ownBlock ∧ some k_ ≠ (.slice Ao25 t478.length co25 : Value).ownBlock ∧ some k_ ≠ (.slice Ao26 t484.length co26 : Value).ownBlock) (.slice Ao12 t459.length co12) t459) := ⟨by exact zp (zg (p := ⟨gb488, 5, none⟩) (zg (p := ⟨gb488, 4, none⟩) (zg (p := ⟨gb488, 3, none⟩) (zg (p := ⟨gb488, 2, none⟩) (zg (p := ⟨gb488, 1, none⟩) (zg (p := ⟨gb488, 0, none⟩) (zo qk.1 qg.1 (by decide)) (fun _ hk => hk.2) (.int .i64 t477)) (fun _ hk => hk.2) (.slice Ao25 t478.length co25)) (fun _ hk => hk.2) (.int .i64 t481)) (fun _ hk => hk.2) (.int .i64 t482)) (fun _ hk => hk.2) (.int .i64 t483)) (fun _ hk => hk.2) (.slice Ao26 t484.length co26)) (fun _ hk => ⟨hk.1.1.1.1.1, ⟨hk.1.1.1.1.2, ⟨hk.1.1.1.2, ⟨hk.1.1.2, hk.1.2⟩⟩⟩⟩)⟩
     have n2_ : zt (Kd.R (zz .i64) 3 ((((((w21.setCell ⟨gb488, 0, none⟩ (.int .i64 t477)).setCell ⟨gb488, 1, none⟩ (.slice Ao25 t478.length co25)).setCell ⟨gb488, 2, none⟩ (.int .i64 t481)).setCell ⟨gb488, 3, none⟩ (.int .i64 t482)).setCell ⟨gb488, 4, none⟩ (.int .i64 t483)).setCell ⟨gb488, 5, none⟩ (.slice Ao26 t484.length co26)) w.heap.size (fun k_ => some k_ ≠ (.slice Ao11 t453.length co11 : Value).ownBlock ∧ some k_ ≠ (.slice Ao12 t459.length co12 : Value).ownBlock ∧ some k_ ≠ (.slice Ao18 t472.length co18 : Value).ownBlock ∧ some k_ ≠ (.slice Ao25 t478.length co25 : Value).ownBlock ∧ some k_ ≠ (.slice Ao26 t484.length co26 : Value).ownBlock) (.slice Ao17 t466.length co17) t466) := ⟨by exact zp (zg (p := ⟨gb488, 5, none⟩) (zg (p := ⟨gb488, 4, none⟩) (zg (p := ⟨gb488, 3, none⟩) (zg (p := ⟨gb488, 2, none⟩) (zg (p := ⟨gb488, 1, none⟩) (zg (p := ⟨gb488, 0, none⟩) (zo qo.1 qg.1 (by decide)) (fun _ hk => hk.2) (.int .i64 t477)) (fun _ hk => hk.2) (.slice Ao25 t478.length co25)) (fun _ hk => hk.2) (.int .i64 t481)) (fun _ hk => hk.2) (.int .i64 t482)) (fun _ hk => hk.2) (.int .i64 t483)) (fun _ hk => hk.2) (.slice Ao26 t484.length co26)) (fun _ hk => ⟨hk.1.1.1.1.2, ⟨hk.1.1.1.2, ⟨hk.1.1.1.1.1, ⟨hk.1.1.2, hk.1.2⟩⟩⟩⟩)⟩
     have n3_ : zt (Kd.R (zz .i64) 3 ((((((w21.setCell ⟨gb488, 0, none⟩ (.int .i64 t477)).setCell ⟨gb488, 1, none⟩ (.slice Ao25 t478.length co25)).setCell ⟨gb488, 2, none⟩ (.int .i64 t481)).setCell ⟨gb488, 3, none⟩ (.int .i64 t482)).setCell ⟨gb488, 4, none⟩ (.int .i64 t483)).setCell ⟨gb488, 5, none⟩ (.slice Ao26 t484.length co26)) w.heap.size (fun k_ => some k_ ≠ (.slice Ao11 t453.length co11 : Value).ownBlock ∧ some k_ ≠ (.slice Ao12 t459.length co12 : Value).ownBlock ∧ some k_ ≠ (.slice Ao17 t466.length co17 : Value).ownBlock ∧ some k_ ≠ (.slice Ao25 t478.length co25 : Value).ownBlock ∧ some k_ ≠ (.slice Ao26 t484.length co26 : Value).ownBlock) (.slice Ao18 t472.length co18) t472) := ⟨by exact zp (zg (p := ⟨gb488, 5, none⟩) (zg (p := ⟨gb488, 4, none⟩) (zg (p := ⟨gb488, 3, none⟩) (zg (p := ⟨gb488, 2, none⟩) (zg (p := ⟨gb488, 1, none⟩) (zg (p := ⟨gb488, 0, none⟩) (zo qp.1 qg.1 (by decide)) (fun _ hk => hk.2) (.int .i64 t477)) (fun _ hk => hk.2) (.slice Ao25 t478.length co25)) (fun _ hk => hk.2) (.int .i64 t481)) (fun _ hk => hk.2) (.int .i64 t482)) (fun _ hk => hk.2) (.int .i64 t483)) (fun _ hk => hk.2) (.slice Ao26 t484.length co26)) (fun _ hk => ⟨hk.1.1.1.1.2, ⟨hk.1.1.1.2, ⟨hk.1.1.1.1.1, ⟨hk.1.1.2, hk.1.2⟩⟩⟩⟩)⟩
     have n4_ : zt (Kd.R (zz .i64) 3 ((((((w21.setCell ⟨gb488, 0, none⟩ (.int .i64 t477)).setCell ⟨gb488, 1, none⟩ (.slice Ao25 t478.length co25)).setCell ⟨gb488, 2, none⟩ (.int .i64 t481)).setCell ⟨gb488, 3, none⟩ (.int .i64 t482)).setCell ⟨gb488, 4, none⟩ (.int .i64 t483)).setCell ⟨gb488, 5, none⟩ (.slice Ao26 t484.length co26)) w.heap.size (fun k_ => some k_ ≠ (.slice Ao11 t453.length co11 : Value).ownBlock ∧ some k_ ≠ (.slice Ao12 t459.length co12 : Value).ownBlock ∧ some k_ ≠ (.slice Ao17 t466.length co17 : Value).ownBlock ∧ some k_ ≠ (.slice Ao18 t472.length co18 : Value).ownBlock ∧ some k_ ≠ (.slice Ao26 t484.length co26 : Value).ownBlock) (.slice Ao25 t478.length co25) t478) := ⟨by exact zp (zg (p := ⟨gb488, 5, none⟩) (zg (p := ⟨gb488, 4, none⟩) (zg (p := ⟨gb488, 3, none⟩) (zg (p := ⟨gb488, 2, none⟩) (zg (p := ⟨gb488, 1, none⟩) (zg (p := ⟨gb488, 0, none⟩) (zo qs.1 qg.1 (by decide)) (fun _ hk => hk.2) (.int .i64 t477)) (fun _ hk => hk.2) (.slice Ao25 t478.length co25)) (fun _ hk => hk.2) (.int .i64 t481)) (fun _ hk => hk.2) (.int .i64 t482)) (fun _ hk => hk.2) (.int .i64 t483)) (fun _ hk => hk.2) (.slice Ao26 t484.length co26)) (fun _ hk => ⟨hk.1.1.1.1.2, ⟨hk.1.1.1.2, ⟨hk.1.1.2, ⟨hk.1.2, hk.1.1.1.1.1⟩⟩⟩⟩)⟩
     have n5_ : zt (Kd.R (zz .i64) 3 ((((((w21.setCell ⟨gb488, 0, none⟩ (.int .i64 t477)).setCell ⟨gb488, 1, none⟩ (.slice Ao25 t478.length co25)).setCell ⟨gb488, 2, none⟩ (.int .i64 t481)).setCell ⟨gb488, 3, none⟩ (.int .i64 t482)).setCell ⟨gb488, 4, none⟩ (.int .i64 t483)).setCell ⟨gb488, 5, none⟩ (.slice Ao26 t484.length co26)) w.heap.size (fun k_ => some k_ ≠ (.slice Ao11 t453.length co11 : Value).ownBlock ∧ some k_ ≠ (.slice Ao12 t459.length co12 : Value).ownBlock ∧ some k_ ≠ (.slice Ao17 t466.length co17 : Value).ownBlock ∧ some k_ ≠ (.slice Ao18 t472.length co18 : Value).ownBlock ∧ some k_ ≠ (.slice Ao25 t478.length co25 : Value).ownBlock) (.slice Ao26 t484.length co26) t484) := ⟨by exact zp (zg (p := ⟨gb488, 5, none⟩) (zg (p := ⟨gb488, 4, none⟩) (zg (p := ⟨gb488, 3, none⟩) (zg (p := ⟨gb488, 2, none⟩) (zg (p := ⟨gb488, 1, none⟩) (zg (p := ⟨gb488, 0, none⟩) (zo qt.1 qg.1 (by decide)) (fun _ hk => hk.2) (.int .i64 t477)) (fun _ hk => hk.2) (.slice Ao25 t478.length co25)) (fun _ hk => hk.2) (.int .i64 t481)) (fun _ hk => hk.2) (.int .i64 t482)) (fun _ hk => hk.2) (.int .i64 t483)) (fun _ hk => hk.2) (.slice Ao26 t484.length co26)) (fun _ hk => ⟨hk.1.1.1.1.2, ⟨hk.1.1.1.2, ⟨hk.1.1.2, ⟨hk.1.2, hk.1.1.1.1.1⟩⟩⟩⟩)⟩
     have n6_ : zt (((((((w21.setCell ⟨gb488, 0, none⟩ (.int .i64 t477)).setCell ⟨gb488, 1, none⟩ (.slice Ao25 t478.length co25)).setCell ⟨gb488, 2, none⟩ (.int .i64 t481)).setCell ⟨gb488, 3, none⟩ (.int .i64 t482)).setCell ⟨gb488, 4, none⟩ (.int .i64 t483)).setCell ⟨gb488, 5, none⟩ (.slice Ao26 t484.length co26)).heap[gb464]? = some (.cells #[.int .i64 t452, .slice Ao11 t453.length co11, .int .i64 t456, .int .i64 t457, .int .i64 t458, .slice Ao12 t459.length co12] 27 (0, 0))) := ⟨by refine zq ?_ qr.1 _; refine zq ?_ qr.1 _; refine zq ?_ qr.1 _; refine zq ?_ qr.1 _; refine zq ?_ qr.1 _; refine zq ?_ qr.1 _; exact zZ.1⟩
     have n7_ : zt (((((((w21.setCell ⟨gb488, 0, none⟩ (.int .i64 t477)).setCell ⟨gb488, 1, none⟩ (.slice Ao25 t478.length co25)).setCell ⟨gb488, 2, none⟩ (.int .i64 t481)).setCell ⟨gb488, 3, none⟩ (.int .i64 t482)).setCell ⟨gb488, 4, none⟩ (.int .i64 t483)).setCell ⟨gb488, 5, none⟩ (.slice Ao26 t484.length co26)).heap[gb476]? = some (.cells #[.int .i64 t465, .slice Ao17 t466.length co17, .int .i64 t469, .int .i64 t470, .int .i64 t471, .slice Ao18 t472.length co18] 27 (0, 0))) := ⟨by refine zq ?_ qq.1 _; refine zq ?_ qq.1 _; refine zq ?_ qq.1 _; refine zq ?_ qq.1 _; refine zq ?_ qq.1 _; refine zq ?_ qq.1 _; exact zY.1⟩
     have n8_ : zt (((((((w21.setCell ⟨gb488, 0, none⟩ (.int .i64 t477)).setCell ⟨gb488, 1, none⟩ (.slice Ao25 t478.length co25)).setCell ⟨gb488, 2, none⟩ (.int .i64 t481)).setCell ⟨gb488, 3, none⟩ (.int .i64 t482)).setCell ⟨gb488, 4, none⟩ (.int .i64 t483)).setCell ⟨gb488, 5, none⟩ (.slice Ao26 t484.length co26)).heap[gb488]? = some (.cells #[.int .i64 t477, .slice Ao25 t478.length co25, .int .i64 t481, .int .i64 t482, .int .i64 t483, .slice Ao26 t484.length co26] 27 (0, 0))) := ⟨by refine zD (cs := #[.int .i64 t477, .slice Ao25 t478.length co25, .int .i64 t481, .int .i64 t482, .int .i64 t483, .slice none 0 0]) ?_ 5 _ rfl; refine zD (cs := #[.int .i64 t477, .slice Ao25 t478.length co25, .int .i64 t481, .int .i64 t482, .int .i64 0, .slice none 0 0]) ?_ 4 _ rfl; refine zD (cs := #[.int .i64 t477, .slice Ao25 t478.length co25, .int .i64 t481, .int .i64 0, .int .i64 0, .slice none 0 0]) ?_ 3 _ rfl; refine zD (cs := #[.int .i64 t477, .slice Ao25 t478.length co25, .int .i64 0, .int .i64 0, .int .i64 0, .slice none 0 0]) ?_ 2 _ rfl; refine zD (cs := #[.int .i64 t477, .slice none 0 0, .int .i64 0, .int .i64 0, .int .i64 0, .slice none 0 0]) ?_ 1 _ rfl; refine zD (cs := #[.int .i64 0, .slice none 0 0, .int .i64 0, .int .i64 0, .int .i64 0, .slice none 0 0]) ?_ 0 _ rfl; exact qg.1⟩
     have n9_ : zt (Below w.heap.size w ((((((w21.setCell ⟨gb488, 0, none⟩ (.int .i64 t477)).setCell ⟨gb488, 1, none⟩ (.slice Ao25 t478.length co25)).setCell ⟨gb488, 2, none⟩ (.int .i64 t481)).setCell ⟨gb488, 3, none⟩ (.int .i64 t482)).setCell ⟨gb488, 4, none⟩ (.int .i64 t483)).setCell ⟨gb488, 5, none⟩ (.slice Ao26 t484.length co26))) := ⟨by repeat ((with_reducible first | exact HB.1 | refine zh ?_ qm.1))⟩
     (try clear qj)
     (try clear qk)
     (try clear qo)
     (try clear qp)
     (try clear qs)
     (try clear qt)
     (try clear zZ)
     (try clear zY)
     (try clear qg)
     (try clear HB)
     generalize ((((((w21.setCell ⟨gb488, 0, none⟩ (.int .i64 t477)).setCell ⟨gb488, 1, none⟩ (.slice Ao25 t478.length co25)).setCell ⟨gb488, 2, none⟩ (.int .i64 t481)).setCell ⟨gb488, 3, none⟩ (.int .i64 t482)).setCell ⟨gb488, 4, none⟩ (.int .i64 t483)).setCell ⟨gb488, 5, none⟩ (.slice Ao26 t484.length co26)) = w39 at n0_ n1_ n2_ n3_ n4_ n5_ n6_ n7_ n8_ n9_ ⊢
     have qj := n0_
     have qk := n1_
     have qo := n2_
     have qp := n3_
     have qs := n4_
     have qt := n5_
     have zZ := n6_
     have zY := n7_
     have qg := n8_
     have HB := n9_
     clear n0_ n1_ n2_ n3_ n4_ n5_ n6_ n7_ n8_ n9_
     replace qj := ky (zf qj.1)
     replace qk := ky (zf qk.1)
     replace qo := ky (zf qo.1)
     replace qp := ky (zf qp.1)
     replace qs := ky (zf qs.1)
     replace qt := ky (zf qt.1)
     replace zZ := ky (ze zZ.1)
     replace zY := ky (ze zY.1)
     replace qg := ky (ze qg.1)
     replace HB := ky (zl HB.1)
     refine start_ (n := 16) (S := fun w' => w'.cell? ⟨gb476, 0, none⟩ = some (.int .i64 t465) ∧ w'.cell? ⟨gb476, 1, none⟩ = some (.slice Ao17 t466.length co17) ∧ w'.cell? ⟨gb476, 2, none⟩ = some (.int .i64 t469) ∧ w'.cell? ⟨gb476, 3, none⟩ = some (.int .i64 t470) ∧ w'.cell? ⟨gb476, 4, none⟩ = some (.int .i64 t471) ∧ w'.cell? ⟨gb476, 5, none⟩ = some (.slice Ao18 t472.length co18) ∧ w'.cell? ⟨gb488, 0, none⟩ = some (.int .i64 t477) ∧ w'.cell? ⟨gb488, 1, none⟩ = some (.slice Ao25 t478.length co25) ∧ w'.cell? ⟨gb488, 2, none⟩ = some (.int .i64 t481) ∧ w'.cell? ⟨gb488, 3, none⟩ = some (.int .i64 t482) ∧ w'.cell? ⟨gb488, 4, none⟩ = some (.int .i64 t483) ∧ w'.cell? ⟨gb488, 5, none⟩ = some (.slice Ao26 t484.length co26)) (ds := []) #[ks,ks,ks,ks,ks,ks,ks,ks,ks,ks,ks,ks,ks,ks,ks,ks] (by kernel_rfl) rfl rfl ⟨(zi zY.1 0).trans rfl, (zi zY.1 1).trans rfl, (zi zY.1 2).trans rfl, (zi zY.1 3).trans rfl, (zi zY.1 4).trans rfl, (zi zY.1 5).trans rfl, (zi qg.1 0).trans rfl, (zi qg.1 1).trans rfl, (zi qg.1 2).trans rfl, (zi qg.1 3).trans rfl, (zi qg.1 4).trans rfl, (zi qg.1 5).trans rfl⟩ (fun hHeld => ?_); refine with_tabW laws_FnPrepend.tab6 laws_FnPrepend.bits6 (fun HT_ HW_ => ?_)
     generalize w39.drew = w40 at qj qk qo qp qs qt zZ zY qg HB hHeld ⊢
     refine zx (i := 0) (N := some 56) (v := ?_) (a' := ?_) #[ku,ks,ks,ks,ks,ks,ks,ks,ks,ks,ks,ks,ks,ks,ks,ks] rfl rfl (zu HT_.1 (by kernel_rfl)) (fun _ _ _ h => h) (kb ⟨by rfl, ?_⟩) ?_ ?_
     rotate_left
     ·
      intro w'
      go_simp
      with_reducible rfl
     rotate_left
     ·
      simp only [kv, kz, kj, kk, zv, zw]
      rfl
     refine zx (i := 1) (N := some 57) (v := ?_) (a' := ?_) #[ku,ku,ks,ks,ks,ks,ks,ks,ks,ks,ks,ks,ks,ks,ks,ks] rfl rfl (zu HT_.1 (by kernel_rfl)) (fun _ _ _ h => h) (kb ⟨by rfl, ?_⟩) ?_ ?_
     rotate_left
     ·
      intro w'
      go_simp
      with_reducible rfl
     rotate_left
     ·
      simp only [kv, kz, kj, kk, zv, zw]
      rfl
     refine zx (i := 2) (N := some 58) (v := ?_) (a' := ?_) #[ku,ku,ku,ks,ks,ks,ks,ks,ks,ks,ks,ks,ks,ks,ks,ks] rfl rfl (zu HT_.1 (by kernel_rfl)) (fun _ _ _ h => h) (kb ⟨by rfl, ?_⟩) ?_ ?_
     rotate_left
     ·
      intro w'
      go_simp
      with_reducible rfl
     rotate_left
     ·
      simp only [kv, kz, kj, kk, zv, zw]
      rfl
     refine zx (i := 3) (N := some 59) (v := ?_) (a' := ?_) #[ku,ku,ku,ku,ks,ks,ks,ks,ks,ks,ks,ks,ks,ks,ks,ks] rfl rfl (zu HT_.1 (by kernel_rfl)) (fun _ _ _ h => h) (kb ⟨by rfl, ?_⟩) ?_ ?_
     rotate_left
     ·
      intro w'
      go_simp
      with_reducible rfl
     rotate_left
     ·
      simp only [kv, kz, kj, kk, zv, zw]
      rfl
     refine zT (i := 4) (N := some 60) (v := ?_) (a' := ?_) #[ku,ku,ku,ku,ku,ks,ks,ks,ks,ks,ks,ks,ks,ks,ks,ks] rfl rfl (zH HT_.1 HW_.1 (by kernel_rfl)) (fun _ _ _ h => h) (kb ⟨by rfl, ?_⟩) hHeld ?_ ?_
     rotate_left
     ·
      rintro w' ⟨s0, s1, s2, s3, s4, s5, s6, s7, s8, s9, s10, s11⟩
      go_simp
      with_reducible rfl
     rotate_left
     ·
      simp only [kv, kz, kj, kk, zv, zw]
      rfl
     refine zT (i := 5) (N := some 61) (v := ?_) (a' := ?_) #[ku,ku,ku,ku,ku,ku,ks,ks,ks,ks,ks,ks,ks,ks,ks,ks] rfl rfl (zH HT_.1 HW_.1 (by kernel_rfl)) (fun _ _ _ h => h) (kb ⟨by rfl, ?_⟩) hHeld ?_ ?_
     rotate_left
     ·
      rintro w' ⟨s0, s1, s2, s3, s4, s5, s6, s7, s8, s9, s10, s11⟩
      go_simp
      with_reducible rfl
     rotate_left
     ·
      simp only [kv, kz, kj, kk, zv, zw]
      rfl
     refine one_ (i := 6) (N := some 62) #[ku,ku,ku,ku,ku,ku,ku,ks,ks,ks,ks,ks,ks,ks,ks,ks] rfl rfl (zV HT_.1 (by kernel_rfl)) (by decide) (fun K hK => ?_)
     refine zX Try.func39 (by kernel_rfl) rfl #[.agg #[.int .i64 t465, .slice Ao17 t466.length co17, .int .i64 t469, .int .i64 t470, .int .i64 t471, .slice Ao18 t472.length co18], .agg #[.int .i64 t477, .slice Ao25 t478.length co25, .int .i64 t481, .int .i64 t482, .int .i64 t483, .slice Ao26 t484.length co26]] (by rfl) rfl rfl (by (try simp only [ke, kd, kc]); rfl) ?_
     with_reducible refine (laws_sameAttrs.calls k t465 _ _ t466 t469 t470 t471 _ _ t472 t477 _ _ t478 t481 t482 t483 _ _ t484 false _ ?side1 ?side2 ?side3 ?side4 ?side5 ?side6 ?side7 ?side8 A30.1).mono ?_
     (case side1 => repeat (exact (zr qo.1).2.2))
     (case side2 => exact (zr qo.1).2.1)
     (case side3 => repeat (exact (zr qp.1).2.2))
     (case side4 => exact (zr qp.1).2.1)
     (case side5 => repeat (exact (zr qs.1).2.2))
     (case side6 => exact (zr qs.1).2.1)
     (case side7 => repeat (exact (zr qt.1).2.2))
     (case side8 => exact (zr qt.1).2.1)
     rintro e w41 ⟨rfl, hb⟩
     refine ⟨_, rfl, ?_⟩
     replace qj := ky (zj qj.1 hb)
     replace qk := ky (zj qk.1 hb)
     replace qo := ky (zj qo.1 hb)
     replace qp := ky (zj qp.1 hb)
     replace qs := ky (zj qs.1 hb)
     replace qt := ky (zj qt.1 hb)
     replace zZ := ky (zm (g := gb464) (o := .cells #[.int .i64 t452, .slice Ao11 t453.length co11, .int .i64 t456, .int .i64 t457, .int .i64 t458, .slice Ao12 t459.length co12] 27 (0, 0)) zZ.1 hb)
     replace zY := ky (zm (g := gb476) (o := .cells #[.int .i64 t465, .slice Ao17 t466.length co17, .int .i64 t469, .int .i64 t470, .int .i64 t471, .slice Ao18 t472.length co18] 27 (0, 0)) zY.1 hb)
     replace qg := ky (zm (g := gb488) (o := .cells #[.int .i64 t477, .slice Ao25 t478.length co25, .int .i64 t481, .int .i64 t482, .int .i64 t483, .slice Ao26 t484.length co26] 27 (0, 0)) qg.1 hb)
     replace HB := ky (zA HB.1 hb)
     (try clear hb)
     (try clear hb2)
     (try clear hk)
     (try clear hi)
     refine hK.out _ _ ⟨(zi zY.1 0).trans rfl, (zi zY.1 1).trans rfl, (zi zY.1 2).trans rfl, (zi zY.1 3).trans rfl, (zi zY.1 4).trans rfl, (zi zY.1 5).trans rfl, (zi qg.1 0).trans rfl, (zi qg.1 1).trans rfl, (zi qg.1 2).trans rfl, (zi qg.1 3).trans rfl, (zi qg.1 4).trans rfl, (zi qg.1 5).trans rfl⟩ (fun hHeld => ?_)
     clear hK K
     refine zW (a' := ?_) ?_ ?_
     rotate_left
     ·
      show kv _ (some 62) _ = _
      simp only [kv, kz, kj, kk, zv, zw]
      rfl
     refine zx (i := 7) (N := some 63) (v := ?_) (a' := ?_) #[ku,ku,ku,ku,ku,ku,ku,ku,ks,ks,ks,ks,ks,ks,ks,ks] rfl rfl (zu HT_.1 (by kernel_rfl)) (fun _ _ _ h => h) (kb ⟨by rfl, ?_⟩) ?_ ?_
     rotate_left
     ·
      intro w'
      go_simp
      with_reducible rfl
     rotate_left
     ·
      simp only [kv, kz, kj, kk, zv, zw]
      rfl
     refine zx (i := 8) (N := some 64) (v := ?_) (a' := ?_) #[ku,ku,ku,ku,ku,ku,ku,ku,ku,ks,ks,ks,ks,ks,ks,ks] rfl rfl (zu HT_.1 (by kernel_rfl)) (fun _ _ _ h => h) (kb ⟨by rfl, ?_⟩) ?_ ?_
     rotate_left
     ·
      intro w'
      go_simp
      with_reducible rfl
     rotate_left
     ·
      simp only [kv, kz, kj, kk, zv, zw]
      rfl
     refine zx (i := 9) (N := some 65) (v := ?_) (a' := ?_) #[ku,ku,ku,ku,ku,ku,ku,ku,ku,ku,ks,ks,ks,ks,ks,ks] rfl rfl (zu HT_.1 (by kernel_rfl)) (fun _ _ _ h => h) (kb ⟨by rfl, ?_⟩) ?_ ?_
     rotate_left
     ·
      intro w'
      go_simp
      with_reducible rfl
     rotate_left
     ·
      simp only [kv, kz, kj, kk, zv, zw]
      rfl
     refine zx (i := 10) (N := some 66) (v := undef) (a' := ?_) #[ku,ku,ku,ku,ku,ku,ku,ku,ku,ku,ku,ks,ks,ks,ks,ks] rfl rfl (zu HT_.1 (by kernel_rfl)) (fun _ _ _ h => h) (ko ⟨by rfl, rfl⟩) ?_ ?_
     rotate_left
     ·
      simp only [kv, kz, kj, kk, zv, zw]
      rfl
     refine zx (i := 11) (N := some 67) (v := undef) (a' := ?_) #[ku,ku,ku,ku,ku,ku,ku,ku,ku,ku,ku,ku,ks,ks,ks,ks] rfl rfl (zu HT_.1 (by kernel_rfl)) (fun _ _ _ h => h) (ko ⟨by rfl, rfl⟩) ?_ ?_
     rotate_left
     ·
      simp only [kv, kz, kj, kk, zv, zw]
      rfl
     refine zx (i := 12) (N := some 68) (v := undef) (a' := ?_) #[ku,ku,ku,ku,ku,ku,ku,ku,ku,ku,ku,ku,ku,ks,ks,ks] rfl rfl (zu HT_.1 (by kernel_rfl)) (fun _ _ _ h => h) (ko ⟨by rfl, rfl⟩) ?_ ?_
     rotate_left
     ·
      simp only [kv, kz, kj, kk, zv, zw]
      rfl
     refine zx (i := 13) (N := some 69) (v := undef) (a' := ?_) #[ku,ku,ku,ku,ku,ku,ku,ku,ku,ku,ku,ku,ku,ku,ks,ks] rfl rfl (zu HT_.1 (by kernel_rfl)) (fun _ _ _ h => h) (ko ⟨by rfl, rfl⟩) ?_ ?_
     rotate_left
     ·
      simp only [kv, kz, kj, kk, zv, zw]
      rfl
     refine zx (i := 14) (N := some 70) (v := undef) (a' := ?_) #[ku,ku,ku,ku,ku,ku,ku,ku,ku,ku,ku,ku,ku,ku,ku,ks] rfl rfl (zu HT_.1 (by kernel_rfl)) (fun _ _ _ h => h) (ko ⟨by rfl, rfl⟩) ?_ ?_
     rotate_left
     ·
      simp only [kv, kz, kj, kk, zv, zw]
      rfl
     refine zx (i := 15) (N := some 71) (v := ?_) (a' := ?_) #[ku,ku,ku,ku,ku,ku,ku,ku,ku,ku,ku,ku,ku,ku,ku,ku] rfl rfl (zu HT_.1 (by kernel_rfl)) (fun _ _ _ h => h) (kb ⟨by rfl, ?_⟩) ?_ ?_
     rotate_left
     ·
      intro w'
      go_simp
      with_reducible rfl
     rotate_left
     ·
      simp only [kv, kz, kj, kk, zv, zw]
      rfl
     refine done_ (done_of HT_.1 (by kernel_rfl)) ?_
     try go_wp2
     go_meet
     case rel => exact ⟨_, (true), (by rfl), H', ⟨by omega⟩, ⟨by exact qj.1⟩, ⟨by exact qk.1⟩, ⟨by exact qo.1⟩, ⟨by exact qp.1⟩, ⟨by exact qs.1⟩, ⟨by exact qt.1⟩, ⟨by exact zZ.1⟩, ⟨by exact zY.1⟩, ⟨by exact qg.1⟩, ⟨by exact HB.1⟩⟩
  case rest => as_aux_lemma =>
   clear HC7
   (try clear c1); (try clear c2); (try clear p2); (try clear c3); (try clear c13); (try clear c15); (try clear c27); (try clear c27b0); (try clear c27b1); (try clear c27b2); (try clear c31); (try clear c39)
   obtain ⟨kq, x71_6, rfl, HA, HJ6, qc, qd, qa, qb, qe, qf, zZ, zY, qg, HB⟩ := hcut
   cases kq with
   | zero => exact absurd HA.1 (by simp [laws_FnPrepend.j0])
   | succ kj6 =>
    have H := HA.1
    clear HA
    simp only [laws_FnPrepend.j0] at H
    by_cases c42 : x71_6 = true
    ·
     subst c42
     have H1 : (some false) = some r := by rw [if_pos rfl] at H; exact H
     clear H
     have H := H1
     clear H1
     obtain rfl := kx H
     cases hT
    ·
     replace c42 := km.mpr c42
     subst c42
     have H1 : (if t475 = true then ((impl_GoodAttrs.f kj6 t465 t466 t469 t470 t471 t472).bind fun t492 => (if t492 = true then (if (t466.length : Int) = (wrap64 (t463 + (t453.length : Int))) then (if 0 ≤ t463 then (if t463 ≤ (t466.length : Int) then ((laws_sameInts.f kj6 (t466.drop (t463 : Int).toNat) t453).bind fun t497 => (laws_FnPrepend.j1 kj6 l1 t462 t463 (!t497) t465 t466 t469 t470 t471 t472)) else (none)) else (none)) else (laws_FnPrepend.j1 kj6 l1 t462 t463 true t465 t466 t469 t470 t471 t472)) else (laws_FnPrepend.j1 kj6 l1 t462 t463 true t465 t466 t469 t470 t471 t472))) else (laws_FnPrepend.j3 kj6 l1)) = some r := by rw [if_neg (show ¬ (false = true) by decide)] at H; exact H
     clear H
     have H := H1
     clear H1
     have HC43 := ky H
     clear H
     go_upto_if 72 with (fail)
     go_cut [] (fun wc => ∃ (kq : Nat), zt (laws_FnPrepend.j3 kq l1 = some r) ∧ zt (kq ≤ kj6) ∧ zt (Kd.R (zz .i64) 3 wc w.heap.size (fun k_ => some k_ ≠ ((.slice Ao12 t459.length co12) : Value).ownBlock ∧ some k_ ≠ ((.slice Ao17 t466.length co17) : Value).ownBlock ∧ some k_ ≠ ((.slice Ao18 t472.length co18) : Value).ownBlock ∧ some k_ ≠ ((.slice Ao25 t478.length co25) : Value).ownBlock ∧ some k_ ≠ ((.slice Ao26 t484.length co26) : Value).ownBlock) (.slice Ao11 t453.length co11) t453) ∧ zt (Kd.R (zz .i64) 3 wc w.heap.size (fun k_ => some k_ ≠ ((.slice Ao11 t453.length co11) : Value).ownBlock ∧ some k_ ≠ ((.slice Ao17 t466.length co17) : Value).ownBlock ∧ some k_ ≠ ((.slice Ao18 t472.length co18) : Value).ownBlock ∧ some k_ ≠ ((.slice Ao25 t478.length co25) : Value).ownBlock ∧ some k_ ≠ ((.slice Ao26 t484.length co26) : Value).ownBlock) (.slice Ao12 t459.length co12) t459) ∧ zt (Kd.R (zz .i64) 3 wc w.heap.size (fun k_ => some k_ ≠ ((.slice Ao11 t453.length co11) : Value).ownBlock ∧ some k_ ≠ ((.slice Ao12 t459.length co12) : Value).ownBlock ∧ some k_ ≠ ((.slice Ao18 t472.length co18) : Value).ownBlock ∧ some k_ ≠ ((.slice Ao25 t478.length co25) : Value).ownBlock ∧ some k_ ≠ ((.slice Ao26 t484.length co26) : Value).ownBlock) (.slice Ao17 t466.length co17) t466) ∧ zt (Kd.R (zz .i64) 3 wc w.heap.size (fun k_ => some k_ ≠ ((.slice Ao11 t453.length co11) : Value).ownBlock ∧ some k_ ≠ ((.slice Ao12 t459.length co12) : Value).ownBlock ∧ some k_ ≠ ((.slice Ao17 t466.length co17) : Value).ownBlock ∧ some k_ ≠ ((.slice Ao25 t478.length co25) : Value).ownBlock ∧ some k_ ≠ ((.slice Ao26 t484.length co26) : Value).ownBlock) (.slice Ao18 t472.length co18) t472) ∧ zt (Kd.R (zz .i64) 3 wc w.heap.size (fun k_ => some k_ ≠ ((.slice Ao11 t453.length co11) : Value).ownBlock ∧ some k_ ≠ ((.slice Ao12 t459.length co12) : Value).ownBlock ∧ some k_ ≠ ((.slice Ao17 t466.length co17) : Value).ownBlock ∧ some k_ ≠ ((.slice Ao18 t472.length co18) : Value).ownBlock ∧ some k_ ≠ ((.slice Ao26 t484.length co26) : Value).ownBlock) (.slice Ao25 t478.length co25) t478) ∧ zt (Kd.R (zz .i64) 3 wc w.heap.size (fun k_ => some k_ ≠ ((.slice Ao11 t453.length co11) : Value).ownBlock ∧ some k_ ≠ ((.slice Ao12 t459.length co12) : Value).ownBlock ∧ some k_ ≠ ((.slice Ao17 t466.length co17) : Value).ownBlock ∧ some k_ ≠ ((.slice Ao18 t472.length co18) : Value).ownBlock ∧ some k_ ≠ ((.slice Ao25 t478.length co25) : Value).ownBlock) (.slice Ao26 t484.length co26) t484) ∧ zt (wc.heap[gb464]? = some (.cells #[.int .i64 t452, (.slice Ao11 t453.length co11), .int .i64 t456, .int .i64 t457, .int .i64 t458, (.slice Ao12 t459.length co12)] 27 (0, 0))) ∧ zt (wc.heap[gb476]? = some (.cells #[.int .i64 t465, (.slice Ao17 t466.length co17), .int .i64 t469, .int .i64 t470, .int .i64 t471, (.slice Ao18 t472.length co18)] 27 (0, 0))) ∧ zt (wc.heap[gb488]? = some (.cells #[.int .i64 t477, (.slice Ao25 t478.length co25), .int .i64 t481, .int .i64 t482, .int .i64 t483, (.slice Ao26 t484.length co26)] 27 (0, 0))) ∧ zt (Below w.heap.size w wc))
     case first => as_aux_lemma =>
      have H := HC43.1
      clear HC43
      by_cases c44 : t475 = true
      ·
       subst c44
       have H1 : ((impl_GoodAttrs.f kj6 t465 t466 t469 t470 t471 t472).bind fun t492 => (if t492 = true then (if (t466.length : Int) = (wrap64 (t463 + (t453.length : Int))) then (if 0 ≤ t463 then (if t463 ≤ (t466.length : Int) then ((laws_sameInts.f kj6 (t466.drop (t463 : Int).toNat) t453).bind fun t497 => (laws_FnPrepend.j1 kj6 l1 t462 t463 (!t497) t465 t466 t469 t470 t471 t472)) else (none)) else (none)) else (laws_FnPrepend.j1 kj6 l1 t462 t463 true t465 t466 t469 t470 t471 t472)) else (laws_FnPrepend.j1 kj6 l1 t462 t463 true t465 t466 t469 t470 t471 t472))) = some r := by rw [if_pos rfl] at H; exact H
       clear H
       have H := H1
       clear H1
       have HC45 := ky H
       clear H
       go_upto_region 9 with (fail)
       go_cut [96] (fun v96 wc => ∃ (kq : Nat) (x96_44 : Bool), v96 = .bool x96_44 ∧ zt (laws_FnPrepend.j1 kq l1 t462 t463 x96_44 t465 t466 t469 t470 t471 t472 = some r) ∧ zt (kq ≤ kj6) ∧ zt (Kd.R (zz .i64) 3 wc w.heap.size (fun k_ => some k_ ≠ ((.slice Ao12 t459.length co12) : Value).ownBlock ∧ some k_ ≠ ((.slice Ao17 t466.length co17) : Value).ownBlock ∧ some k_ ≠ ((.slice Ao18 t472.length co18) : Value).ownBlock ∧ some k_ ≠ ((.slice Ao25 t478.length co25) : Value).ownBlock ∧ some k_ ≠ ((.slice Ao26 t484.length co26) : Value).ownBlock) (.slice Ao11 t453.length co11) t453) ∧ zt (Kd.R (zz .i64) 3 wc w.heap.size (fun k_ => some k_ ≠ ((.slice Ao11 t453.length co11) : Value).ownBlock ∧ some k_ ≠ ((.slice Ao17 t466.length co17) : Value).ownBlock ∧ some k_ ≠ ((.slice Ao18 t472.length co18) : Value).ownBlock ∧ some k_ ≠ ((.slice Ao25 t478.length co25) : Value).ownBlock ∧ some k_ ≠ ((.slice Ao26 t484.length co26) : Value).ownBlock) (.slice Ao12 t459.length co12) t459) ∧ zt (Kd.R (zz .i64) 3 wc w.heap.size (fun k_ => some k_ ≠ ((.slice Ao11 t453.length co11) : Value).ownBlock ∧ some k_ ≠ ((.slice Ao12 t459.length co12) : Value).ownBlock ∧ some k_ ≠ ((.slice Ao18 t472.length co18) : Value).ownBlock ∧ some k_ ≠ ((.slice Ao25 t478.length co25) : Value).ownBlock ∧ some k_ ≠ ((.slice Ao26 t484.length co26) : Value).ownBlock) (.slice Ao17 t466.length co17) t466) ∧ zt (Kd.R (zz .i64) 3 wc w.heap.size (fun k_ => some k_ ≠ ((.slice Ao11 t453.length co11) : Value).ownBlock ∧ some k_ ≠ ((.slice Ao12 t459.length co12) : Value).ownBlock ∧ some k_ ≠ ((.slice Ao17 t466.length co17) : Value).ownBlock ∧ some k_ ≠ ((.slice Ao25 t478.length co25) : Value).ownBlock ∧ some k_ ≠ ((.slice Ao26 t484.length co26) : Value).ownBlock) (.slice Ao18 t472.length co18) t472) ∧ zt (Kd.R (zz .i64) 3 wc w.heap.size (fun k_ => some k_ ≠ ((.slice Ao11 t453.length co11) : Value).ownBlock ∧ some k_ ≠ ((.slice Ao12 t459.length co12) : Value).ownBlock ∧ some k_ ≠ ((.slice Ao17 t466.length co17) : Value).ownBlock ∧ some k_ ≠ ((.slice Ao18 t472.length co18) : Value).ownBlock ∧ some k_ ≠ ((.slice Ao26 t484.length co26) : Value).ownBlock) (.slice Ao25 t478.length co25) t478) ∧ zt (Kd.R (zz .i64) 3 wc w.heap.size (fun k_ => some k_ ≠ ((.slice Ao11 t453.length co11) : Value).ownBlock ∧ some k_ ≠ ((.slice Ao12 t459.length co12) : Value).ownBlock ∧ some k_ ≠ ((.slice Ao17 t466.length co17) : Value).ownBlock ∧ some k_ ≠ ((.slice Ao18 t472.length co18) : Value).ownBlock ∧ some k_ ≠ ((.slice Ao25 t478.length co25) : Value).ownBlock) (.slice Ao26 t484.length co26) t484) ∧ zt (wc.heap[gb464]? = some (.cells #[.int .i64 t452, (.slice Ao11 t453.length co11), .int .i64 t456, .int .i64 t457, .int .i64 t458, (.slice Ao12 t459.length co12)] 27 (0, 0))) ∧ zt (wc.heap[gb476]? = some (.cells #[.int .i64 t465, (.slice Ao17 t466.length co17), .int .i64 t469, .int .i64 t470, .int .i64 t471, (.slice Ao18 t472.length co18)] 27 (0, 0))) ∧ zt (wc.heap[gb488]? = some (.cells #[.int .i64 t477, (.slice Ao25 t478.length co25), .int .i64 t481, .int .i64 t482, .int .i64 t483, (.slice Ao26 t484.length co26)] 27 (0, 0))) ∧ zt (Below w.heap.size w wc))
       case first => as_aux_lemma =>
        have H := HC45.1
        clear HC45
        replace H := kh.mp H
        obtain ⟨t492, A460, H⟩ := H
        replace H : (if t492 = true then (if (t466.length : Int) = (wrap64 (t463 + (t453.length : Int))) then (if 0 ≤ t463 then (if t463 ≤ (t466.length : Int) then ((laws_sameInts.f kj6 (t466.drop (t463 : Int).toNat) t453).bind fun t497 => (laws_FnPrepend.j1 kj6 l1 t462 t463 (!t497) t465 t466 t469 t470 t471 t472)) else (none)) else (none)) else (laws_FnPrepend.j1 kj6 l1 t462 t463 true t465 t466 t469 t470 t471 t472)) else (laws_FnPrepend.j1 kj6 l1 t462 t463 true t465 t466 t469 t470 t471 t472)) = some r := H
        have A46 := ky A460
        clear A460
        by_cases c47 : t492 = true
        ·
         subst c47
         have H1 : (if (t466.length : Int) = (wrap64 (t463 + (t453.length : Int))) then (if 0 ≤ t463 then (if t463 ≤ (t466.length : Int) then ((laws_sameInts.f kj6 (t466.drop (t463 : Int).toNat) t453).bind fun t497 => (laws_FnPrepend.j1 kj6 l1 t462 t463 (!t497) t465 t466 t469 t470 t471 t472)) else (none)) else (none)) else (laws_FnPrepend.j1 kj6 l1 t462 t463 true t465 t466 t469 t470 t471 t472)) = some r := by rw [if_pos rfl] at H; exact H
         clear H
         have H := H1
         clear H1
         by_cases c48 : (t466.length : Int) = (wrap64 (t463 + (t453.length : Int)))
         ·
          rw [if_pos c48] at H
          have c48b0 : ((t466.length : Int) == (wrap64 (t463 + (t453.length : Int)))) = true := beq_iff_eq.mpr c48
          have c48b1 : ((t466.length : Int) != (wrap64 (t463 + (t453.length : Int)))) = false := bne_eq_false_iff_eq.mpr c48
          clear c48
          skip
          by_cases c49 : 0 ≤ t463
          ·
           rw [if_pos c49] at H
           have c49b0 := eq_true c49
           have c49b1 : decide (0 ≤ t463) = true := decide_eq_true c49
           clear c49
           by_cases c50 : t463 ≤ (t466.length : Int)
           ·
            rw [if_pos c50] at H
            have c50b0 := eq_true c50
            have c50b1 : decide (t463 ≤ (t466.length : Int)) = true := decide_eq_true c50
            clear c50
            obtain ⟨y493, hy493⟩ : ∃ y_ : List Int, y_ = (t466.drop (t463 : Int).toNat) := ⟨_, rfl⟩
            replace H : ((laws_sameInts.f kj6 y493 t453).bind fun t497 => (laws_FnPrepend.j1 kj6 l1 t462 t463 (!t497) t465 t466 t469 t470 t471 t472)) = some r := by (rw [hy493]; with_reducible exact H)
            have Ny493 := ky hy493
            clear hy493
            replace H := kh.mp H
            obtain ⟨t497, A510, H⟩ := H
            replace H : (laws_FnPrepend.j1 kj6 l1 t462 t463 (!t497) t465 t466 t469 t470 t471 t472) = some r := H
            have A51 := ky A510
            clear A510
            have H' := ky H
            clear H
            try go_wp2
            replace qc := ky (zf qc.1)
            replace qd := ky (zf qd.1)
            replace qa := ky (zf qa.1)
            replace qb := ky (zf qb.1)
            replace qe := ky (zf qe.1)
            replace qf := ky (zf qf.1)
            replace zZ := ky (ze zZ.1)
            replace zY := ky (ze zY.1)
            replace qg := ky (ze qg.1)
            replace HB := ky (zl HB.1)
            refine start_ (n := 24) (S := fun w' => w'.cell? ⟨gb476, 0, none⟩ = some (.int .i64 t465) ∧ w'.cell? ⟨gb476, 1, none⟩ = some (.slice Ao17 t466.length co17) ∧ w'.cell? ⟨gb476, 2, none⟩ = some (.int .i64 t469) ∧ w'.cell? ⟨gb476, 3, none⟩ = some (.int .i64 t470) ∧ w'.cell? ⟨gb476, 4, none⟩ = some (.int .i64 t471) ∧ w'.cell? ⟨gb476, 5, none⟩ = some (.slice Ao18 t472.length co18) ∧ w'.cell? ⟨gb464, 0, none⟩ = some (.int .i64 t452) ∧ w'.cell? ⟨gb464, 1, none⟩ = some (.slice Ao11 t453.length co11) ∧ w'.cell? ⟨gb464, 2, none⟩ = some (.int .i64 t456) ∧ w'.cell? ⟨gb464, 3, none⟩ = some (.int .i64 t457) ∧ w'.cell? ⟨gb464, 4, none⟩ = some (.int .i64 t458) ∧ w'.cell? ⟨gb464, 5, none⟩ = some (.slice Ao12 t459.length co12)) (ds := []) #[ks,ks,ks,ks,ks,ks,ks,ks,ks,ks,ks,ks,ks,ks,ks,ks,ks,ks,ks,ks,ks,ks,ks,ks] (by kernel_rfl) rfl rfl ⟨(zi zY.1 0).trans rfl, (zi zY.1 1).trans rfl, (zi zY.1 2).trans rfl, (zi zY.1 3).trans rfl, (zi zY.1 4).trans rfl, (zi zY.1 5).trans rfl, (zi zZ.1 0).trans rfl, (zi zZ.1 1).trans rfl, (zi zZ.1 2).trans rfl, (zi zZ.1 3).trans rfl, (zi zZ.1 4).trans rfl, (zi zZ.1 5).trans rfl⟩ (fun hHeld => ?_); refine with_tabW laws_FnPrepend.tab9 laws_FnPrepend.bits9 (fun HT_ HW_ => ?_)
            generalize wc.drew = w52 at qc qd qa qb qe qf zZ zY qg HB hHeld ⊢
            refine zT (i := 0) (N := some 73) (v := ?_) (a' := ?_) #[ku,ks,ks,ks,ks,ks,ks,ks,ks,ks,ks,ks,ks,ks,ks,ks,ks,ks,ks,ks,ks,ks,ks,ks] rfl rfl (zH HT_.1 HW_.1 (by kernel_rfl)) (fun _ _ _ h => h) (kb ⟨by rfl, ?_⟩) hHeld ?_ ?_
            rotate_left
            ·
             rintro w' ⟨s0, s1, s2, s3, s4, s5, s6, s7, s8, s9, s10, s11⟩
             go_simp
             with_reducible rfl
            rotate_left
            ·
             simp only [kv, kz, kj, kk, zv, zw]
             rfl
            refine one_ (i := 1) (N := some 74) #[ku,ku,ks,ks,ks,ks,ks,ks,ks,ks,ks,ks,ks,ks,ks,ks,ks,ks,ks,ks,ks,ks,ks,ks] rfl rfl (zV HT_.1 (by kernel_rfl)) (by decide) (fun K hK => ?_)
            refine zX Try.func15 (by kernel_rfl) rfl #[.agg #[.int .i64 t465, .slice Ao17 t466.length co17, .int .i64 t469, .int .i64 t470, .int .i64 t471, .slice Ao18 t472.length co18]] (by rfl) rfl rfl (by (try simp only [ke, kd, kc]); rfl) ?_
            with_reducible refine (impl_GoodAttrs.calls kj6 t465 _ _ t466 t469 t470 t471 _ _ t472 true _ ?side1 ?side2 ?side3 ?side4 A46.1).mono ?_
            (case side1 => repeat (exact (zr qa.1).2.2))
            (case side2 => exact (zr qa.1).2.1)
            (case side3 => repeat (exact (zr qb.1).2.2))
            (case side4 => exact (zr qb.1).2.1)
            rintro e w53 ⟨rfl, hb⟩
            refine ⟨_, rfl, ?_⟩
            replace qc := ky (zj qc.1 hb)
            replace qd := ky (zj qd.1 hb)
            replace qa := ky (zj qa.1 hb)
            replace qb := ky (zj qb.1 hb)
            replace qe := ky (zj qe.1 hb)
            replace qf := ky (zj qf.1 hb)
            replace zZ := ky (zm (g := gb464) (o := .cells #[.int .i64 t452, .slice Ao11 t453.length co11, .int .i64 t456, .int .i64 t457, .int .i64 t458, .slice Ao12 t459.length co12] 27 (0, 0)) zZ.1 hb)
            replace zY := ky (zm (g := gb476) (o := .cells #[.int .i64 t465, .slice Ao17 t466.length co17, .int .i64 t469, .int .i64 t470, .int .i64 t471, .slice Ao18 t472.length co18] 27 (0, 0)) zY.1 hb)
            replace qg := ky (zm (g := gb488) (o := .cells #[.int .i64 t477, .slice Ao25 t478.length co25, .int .i64 t481, .int .i64 t482, .int .i64 t483, .slice Ao26 t484.length co26] 27 (0, 0)) qg.1 hb)
            replace HB := ky (zA HB.1 hb)
            (try clear hb)
            (try clear hb2)
            (try clear hk)
            (try clear hi)
            have q54 : (t463 : Int) ≤ ((t466.length : Int) : Int) := of_decide_eq_true (by (with_reducible assumption))
            obtain ⟨i054, hi054, _, hsz54, _⟩ := info_parts info3
            have hroom54 : t466.length ≤ co17 := (zr qa.1).2.1
            have hC54 : Kd.C (zz .i64) _ Ao17 t466.length t466 := (zr qa.1).2.2
            have q054 : (0 : Int) ≤ (t463 : Int) := of_decide_eq_true (by (with_reducible assumption))
            have hcut54 := cut_from (P := Try.prog) 22 3 .i64 Try.underlying22 hi054 1 hsz54 Ao17 t466.length co17 t463 q054 q54
            have hr54 := Kd.C_drop (m := (t463 : Int).toNat) (c := co17) hC54 (by omega) hroom54
            obtain ⟨A54, hA54⟩ : ∃ A1, A1 = (if co17 = (t463 : Int).toNat then Ao17 else (Ao17 : Option Addr).map (·.add ((t463 : Int).toNat * 1))) := ⟨_, rfl⟩
            obtain ⟨c54, hc54⟩ : ∃ c1, c1 = co17 - (t463 : Int).toNat := ⟨_, rfl⟩
            have hy54 : y493.length = t466.length - (t463 : Int).toNat := (by rw [Ny493.1, List.length_drop] <;> omega)
            rw [show (t466).drop (t463 : Int).toNat = y493 from Ny493.1.symm] at hr54
            replace hr54 : Kd.C (zz .i64) _ A54 y493.length y493 := (by rw [hA54]; exact hr54)
            rw [← hy54, ← hA54, ← hc54] at hcut54
            have HR496 := ky hr54
            have HC496 := ky (show y493.length ≤ c54 from by rw [hy54, hc54]; exact Nat.sub_le_sub_right hroom54 _)
            clear hr54 hC54 hroom54 hi054 hsz54 hc54
            have KY54 := ky hy54
            have KA54 := ky hA54
            clear hy54 hA54
            have KL54 := ky (show (t463 : Int).toNat ≤ t466.length from by omega)
            replace q54 := eq_true q54
            refine hK.out _ _ ⟨(zi zY.1 0).trans rfl, (zi zY.1 1).trans rfl, (zi zY.1 2).trans rfl, (zi zY.1 3).trans rfl, (zi zY.1 4).trans rfl, (zi zY.1 5).trans rfl, (zi zZ.1 0).trans rfl, (zi zZ.1 1).trans rfl, (zi zZ.1 2).trans rfl, (zi zZ.1 3).trans rfl, (zi zZ.1 4).trans rfl, (zi zZ.1 5).trans rfl⟩ (fun hHeld => ?_)
            clear hK K
            refine zW (a' := ?_) ?_ ?_
            rotate_left
            ·
             show kv _ (some 74) _ = _
             simp only [kv, kz, kj, kk, zv, zw]
             rfl
            refine zx (i := 2) (N := some 75) (v := ?_) (a' := ?_) #[ku,ku,ku,ks,ks,ks,ks,ks,ks,ks,ks,ks,ks,ks,ks,ks,ks,ks,ks,ks,ks,ks,ks,ks] rfl rfl (zu HT_.1 (by kernel_rfl)) (fun _ _ _ h => h) (kb ⟨by rfl, ?_⟩) ?_ ?_
            rotate_left
            ·
             intro w'
             go_simp
             with_reducible rfl
            rotate_left
            ·
             simp only [kv, kz, kj, kk, zv, zw]
             rfl
            refine zx (i := 3) (N := some 76) (v := ?_) (a' := ?_) #[ku,ku,ku,ku,ks,ks,ks,ks,ks,ks,ks,ks,ks,ks,ks,ks,ks,ks,ks,ks,ks,ks,ks,ks] rfl rfl (zu HT_.1 (by kernel_rfl)) (fun _ _ _ h => h) (kb ⟨by rfl, ?_⟩) ?_ ?_
            rotate_left
            ·
             intro w'
             go_simp
             with_reducible rfl
            rotate_left
            ·
             simp only [kv, kz, kj, kk, zv, zw]
             rfl
            refine zx (i := 4) (N := some 77) (v := ?_) (a' := ?_) #[ku,ku,ku,ku,ku,ks,ks,ks,ks,ks,ks,ks,ks,ks,ks,ks,ks,ks,ks,ks,ks,ks,ks,ks] rfl rfl (zu HT_.1 (by kernel_rfl)) (fun _ _ _ h => h) (kb ⟨by rfl, ?_⟩) ?_ ?_
            rotate_left
            ·
             intro w'
             go_simp
             with_reducible rfl
            rotate_left
            ·
             simp only [kv, kz, kj, kk, zv, zw]
             rfl
            refine zx (i := 7) (N := some 80) (v := ?_) (a' := ?_) #[ku,ku,ku,ku,ku,ks,ks,ku,ks,ks,ks,ks,ks,ks,ks,ks,ks,ks,ks,ks,ks,ks,ks,ks] rfl rfl (zu HT_.1 (by kernel_rfl)) (fun _ _ _ h => h) (kb ⟨by rfl, ?_⟩) ?_ ?_
            rotate_left
            ·
             intro w'
             go_simp
             with_reducible rfl
            rotate_left
            ·
             simp only [kv, kz, kj, kk, zv, zw]
             rfl
            refine zx (i := 8) (N := some 81) (v := ?_) (a' := ?_) #[ku,ku,ku,ku,ku,ks,ks,ku,ku,ks,ks,ks,ks,ks,ks,ks,ks,ks,ks,ks,ks,ks,ks,ks] rfl rfl (zu HT_.1 (by kernel_rfl)) (fun _ _ _ h => h) (kb ⟨by rfl, ?_⟩) ?_ ?_
            rotate_left
            ·
             intro w'
             go_simp
             with_reducible rfl
            rotate_left
            ·
             simp only [kv, kz, kj, kk, zv, zw]
             rfl
            refine zT (i := 5) (N := some 78) (v := ?_) (a' := ?_) #[ku,ku,ku,ku,ku,ku,ks,ku,ku,ks,ks,ks,ks,ks,ks,ks,ks,ks,ks,ks,ks,ks,ks,ks] rfl rfl (zH HT_.1 HW_.1 (by kernel_rfl)) (fun _ _ _ h => h) (kb ⟨by rfl, ?_⟩) hHeld ?_ ?_
            rotate_left
            ·
             rintro w' ⟨s0, s1, s2, s3, s4, s5, s6, s7, s8, s9, s10, s11⟩
             go_simp
             with_reducible rfl
            rotate_left
            ·
             simp only [kv, kz, kj, kk, zv, zw]
             rfl
            refine zx (i := 6) (N := some 79) (v := ?_) (a' := ?_) #[ku,ku,ku,ku,ku,ku,ku,ku,ku,ks,ks,ks,ks,ks,ks,ks,ks,ks,ks,ks,ks,ks,ks,ks] rfl rfl (zu HT_.1 (by kernel_rfl)) (fun _ _ _ h => h) (kb ⟨by rfl, ?_⟩) ?_ ?_
            rotate_left
            ·
             intro w'
             go_simp
             with_reducible rfl
            rotate_left
            ·
             simp only [kv, kz, kj, kk, zv, zw]
             rfl
            refine zT (i := 9) (N := some 82) (v := ?_) (a' := ?_) #[ku,ku,ku,ku,ku,ku,ku,ku,ku,ku,ks,ks,ks,ks,ks,ks,ks,ks,ks,ks,ks,ks,ks,ks] rfl rfl (zH HT_.1 HW_.1 (by kernel_rfl)) (fun _ _ _ h => h) (kb ⟨by rfl, ?_⟩) hHeld ?_ ?_
            rotate_left
            ·
             rintro w' ⟨s0, s1, s2, s3, s4, s5, s6, s7, s8, s9, s10, s11⟩
             go_simp
             with_reducible rfl
            rotate_left
            ·
             simp only [kv, kz, kj, kk, zv, zw]
             rfl
            refine zx (i := 10) (N := some 83) (v := ?_) (a' := ?_) #[ku,ku,ku,ku,ku,ku,ku,ku,ku,ku,ku,ks,ks,ks,ks,ks,ks,ks,ks,ks,ks,ks,ks,ks] rfl rfl (zu HT_.1 (by kernel_rfl)) (fun _ _ _ h => h) (kb ⟨by rfl, ?_⟩) ?_ ?_
            rotate_left
            ·
             intro w'
             go_simp
             with_reducible rfl
            rotate_left
            ·
             simp only [kv, kz, kj, kk, zv, zw]
             rfl
            refine zx (i := 11) (N := some 84) (v := ?_) (a' := ?_) #[ku,ku,ku,ku,ku,ku,ku,ku,ku,ku,ku,ku,ks,ks,ks,ks,ks,ks,ks,ks,ks,ks,ks,ks] rfl rfl (zu HT_.1 (by kernel_rfl)) (fun _ _ _ h => h) (kb ⟨by rfl, ?_⟩) ?_ ?_
            rotate_left
            ·
             intro w'
             go_simp
             with_reducible rfl
            rotate_left
            ·
             simp only [kv, kz, kj, kk, zv, zw]
             rfl
            refine zx (i := 12) (N := some 85) (v := ?_) (a' := ?_) #[ku,ku,ku,ku,ku,ku,ku,ku,ku,ku,ku,ku,ku,ks,ks,ks,ks,ks,ks,ks,ks,ks,ks,ks] rfl rfl (zu HT_.1 (by kernel_rfl)) (fun _ _ _ h => h) (kb ⟨by rfl, ?_⟩) ?_ ?_
            rotate_left
            ·
             intro w'
             go_simp
             with_reducible rfl
            rotate_left
            ·
             simp only [kv, kz, kj, kk, zv, zw]
             rfl
            refine zx (i := 13) (N := some 86) (v := ?_) (a' := ?_) #[ku,ku,ku,ku,ku,ku,ku,ku,ku,ku,ku,ku,ku,ku,ks,ks,ks,ks,ks,ks,ks,ks,ks,ks] rfl rfl (zu HT_.1 (by kernel_rfl)) (fun _ _ _ h => h) (kb ⟨by rfl, ?_⟩) ?_ ?_
            rotate_left
            ·
             intro w'
             go_simp
             with_reducible rfl
            rotate_left
            ·
             simp only [kv, kz, kj, kk, zv, zw]
             rfl
            refine zx (i := 14) (N := some 87) (v := ?_) (a' := ?_) #[ku,ku,ku,ku,ku,ku,ku,ku,ku,ku,ku,ku,ku,ku,ku,ks,ks,ks,ks,ks,ks,ks,ks,ks] rfl rfl (zu HT_.1 (by kernel_rfl)) (fun _ _ _ h => h) (kb ⟨by rfl, ?_⟩) ?_ ?_
            rotate_left
            ·
             intro w'
             go_simp
             with_reducible rfl
            rotate_left
            ·
             simp only [kv, kz, kj, kk, zv, zw]
             rfl
            refine zx (i := 15) (N := some 88) (v := ?_) (a' := ?_) #[ku,ku,ku,ku,ku,ku,ku,ku,ku,ku,ku,ku,ku,ku,ku,ku,ks,ks,ks,ks,ks,ks,ks,ks] rfl rfl (zu HT_.1 (by kernel_rfl)) (fun _ _ _ h => h) (kb ⟨by rfl, ?_⟩) ?_ ?_
            rotate_left
            ·
             intro w'
             go_simp
             with_reducible rfl
            rotate_left
            ·
             simp only [kv, kz, kj, kk, zv, zw]
             rfl
            refine zx (i := 17) (N := some 90) (v := ?_) (a' := ?_) #[ku,ku,ku,ku,ku,ku,ku,ku,ku,ku,ku,ku,ku,ku,ku,ku,ks,ku,ks,ks,ks,ks,ks,ks] rfl rfl (zu HT_.1 (by kernel_rfl)) (fun _ _ _ h => h) (kb ⟨by rfl, ?_⟩) ?_ ?_
            rotate_left
            ·
             intro w'
             go_simp
             with_reducible rfl
            rotate_left
            ·
             simp only [kv, kz, kj, kk, zv, zw]
             rfl
            refine zx (i := 19) (N := some 92) (v := ?_) (a' := ?_) #[ku,ku,ku,ku,ku,ku,ku,ku,ku,ku,ku,ku,ku,ku,ku,ku,ks,ku,ks,ku,ks,ks,ks,ks] rfl rfl (zu HT_.1 (by kernel_rfl)) (fun _ _ _ h => h) (kb ⟨by rfl, ?_⟩) ?_ ?_
            rotate_left
            ·
             intro w'
             go_simp
             with_reducible rfl
            rotate_left
            ·
             simp only [kv, kz, kj, kk, zv, zw]
             rfl
            refine zT (i := 16) (N := some 89) (v := ?_) (a' := ?_) #[ku,ku,ku,ku,ku,ku,ku,ku,ku,ku,ku,ku,ku,ku,ku,ku,ku,ku,ks,ku,ks,ks,ks,ks] rfl rfl (zH HT_.1 HW_.1 (by kernel_rfl)) (fun _ _ _ h => h) (kb ⟨by rfl, ?_⟩) hHeld ?_ ?_
            rotate_left
            ·
             rintro w' ⟨s0, s1, s2, s3, s4, s5, s6, s7, s8, s9, s10, s11⟩
             go_simp
             with_reducible rfl
            rotate_left
            ·
             simp only [kv, kz, kj, kk, zv, zw]
             rfl
            refine zx (i := 18) (N := some 91) (v := ?_) (a' := ?_) #[ku,ku,ku,ku,ku,ku,ku,ku,ku,ku,ku,ku,ku,ku,ku,ku,ku,ku,ku,ku,ks,ks,ks,ks] rfl rfl (zu HT_.1 (by kernel_rfl)) (fun _ _ _ h => h) (kb ⟨by rfl, ?_⟩) ?_ ?_
            rotate_left
            ·
             intro w'
             go_simp
             with_reducible rfl
            rotate_left
            ·
             simp only [kv, kz, kj, kk, zv, zw]
             rfl
            refine zT (i := 20) (N := some 93) (v := ?_) (a' := ?_) #[ku,ku,ku,ku,ku,ku,ku,ku,ku,ku,ku,ku,ku,ku,ku,ku,ku,ku,ku,ku,ku,ks,ks,ks] rfl rfl (zH HT_.1 HW_.1 (by kernel_rfl)) (fun _ _ _ h => h) (kb ⟨by rfl, ?_⟩) hHeld ?_ ?_
            rotate_left
            ·
             rintro w' ⟨s0, s1, s2, s3, s4, s5, s6, s7, s8, s9, s10, s11⟩
             go_simp
             with_reducible rfl
            rotate_left
            ·
             simp only [kv, kz, kj, kk, zv, zw]
             rfl
            refine one_ (i := 21) (N := some 94) #[ku,ku,ku,ku,ku,ku,ku,ku,ku,ku,ku,ku,ku,ku,ku,ku,ku,ku,ku,ku,ku,ku,ks,ks] rfl rfl (zV HT_.1 (by kernel_rfl)) (by decide) (fun K hK => ?_)
            refine zX Try.func40 (by kernel_rfl) rfl #[.slice A54 y493.length c54, .slice Ao11 t453.length co11] (by rfl) rfl rfl (by (try simp only [ke, kd, kc]); rfl) ?_
            with_reducible refine (laws_sameInts.calls kj6 _ _ y493 _ _ t453 t497 _ ?side1 ?side2 ?side3 ?side4 A51.1).mono ?_
            (case side1 => repeat (exact HR496.1))
            (case side2 => exact HC496.1)
            (case side3 => repeat (exact (zr qc.1).2.2))
            (case side4 => exact (zr qc.1).2.1)
            rintro e w' ⟨rfl, ⟨nd, rfl⟩⟩
            refine ⟨_, rfl, ?_⟩
            refine hK.out _ _ ⟨(zi zY.1 0).trans rfl, (zi zY.1 1).trans rfl, (zi zY.1 2).trans rfl, (zi zY.1 3).trans rfl, (zi zY.1 4).trans rfl, (zi zY.1 5).trans rfl, (zi zZ.1 0).trans rfl, (zi zZ.1 1).trans rfl, (zi zZ.1 2).trans rfl, (zi zZ.1 3).trans rfl, (zi zZ.1 4).trans rfl, (zi zZ.1 5).trans rfl⟩ (fun hHeld => ?_)
            clear hK K
            refine zW (a' := ?_) ?_ ?_
            rotate_left
            ·
             show kv _ (some 94) _ = _
             simp only [kv, kz, kj, kk, zv, zw]
             rfl
            refine zx (i := 22) (N := some 95) (v := ?_) (a' := ?_) #[ku,ku,ku,ku,ku,ku,ku,ku,ku,ku,ku,ku,ku,ku,ku,ku,ku,ku,ku,ku,ku,ku,ku,ks] rfl rfl (zu HT_.1 (by kernel_rfl)) (fun _ _ _ h => h) (kb ⟨by rfl, ?_⟩) ?_ ?_
            rotate_left
            ·
             intro w'
             go_simp
             with_reducible rfl
            rotate_left
            ·
             simp only [kv, kz, kj, kk, zv, zw]
             rfl
            refine zx (i := 23) (N := some 96) (v := ?_) (a' := ?_) #[ku,ku,ku,ku,ku,ku,ku,ku,ku,ku,ku,ku,ku,ku,ku,ku,ku,ku,ku,ku,ku,ku,ku,ku] rfl rfl (zu HT_.1 (by kernel_rfl)) (fun _ _ _ h => h) (kb ⟨by rfl, ?_⟩) ?_ ?_
            rotate_left
            ·
             intro w'
             go_simp
             with_reducible rfl
            rotate_left
            ·
             simp only [kv, kz, kj, kk, zv, zw]
             rfl
            refine done_ (done_of HT_.1 (by kernel_rfl)) ?_
            try go_wp2
            go_meet
            case rel => exact ⟨_, (!t497), (by rfl), H', ⟨by have := HJ6.1; omega⟩, ⟨by (with_reducible repeat (apply zc)); exact qc.1⟩, ⟨by (with_reducible repeat (apply zc)); exact qd.1⟩, ⟨by (with_reducible repeat (apply zc)); exact qa.1⟩, ⟨by (with_reducible repeat (apply zc)); exact qb.1⟩, ⟨by (with_reducible repeat (apply zc)); exact qe.1⟩, ⟨by (with_reducible repeat (apply zc)); exact qf.1⟩, ⟨by (with_reducible repeat (refine za ?_ _)); exact zZ.1⟩, ⟨by (with_reducible repeat (refine za ?_ _)); exact zY.1⟩, ⟨by (with_reducible repeat (refine za ?_ _)); exact qg.1⟩, ⟨by repeat ((with_reducible first | exact HB.1 | apply zk))⟩⟩
           ·
            rw [if_neg c50] at H
            exact absurd H (by simp)
          ·
           rw [if_neg c49] at H
           exact absurd H (by simp)
         ·
          rw [if_neg c48] at H
          have c48b0 : ((t466.length : Int) == (wrap64 (t463 + (t453.length : Int)))) = false := beq_eq_false_iff_ne.mpr c48
          have c48b1 : ((t466.length : Int) != (wrap64 (t463 + (t453.length : Int)))) = true := bne_iff_ne.mpr c48
          skip
          have H' := ky H
          clear H
          try go_wp2
          replace qc := ky (zf qc.1)
          replace qd := ky (zf qd.1)
          replace qa := ky (zf qa.1)
          replace qb := ky (zf qb.1)
          replace qe := ky (zf qe.1)
          replace qf := ky (zf qf.1)
          replace zZ := ky (ze zZ.1)
          replace zY := ky (ze zY.1)
          replace qg := ky (ze qg.1)
          replace HB := ky (zl HB.1)
          refine start_ (n := 24) (S := fun w' => w'.cell? ⟨gb476, 0, none⟩ = some (.int .i64 t465) ∧ w'.cell? ⟨gb476, 1, none⟩ = some (.slice Ao17 t466.length co17) ∧ w'.cell? ⟨gb476, 2, none⟩ = some (.int .i64 t469) ∧ w'.cell? ⟨gb476, 3, none⟩ = some (.int .i64 t470) ∧ w'.cell? ⟨gb476, 4, none⟩ = some (.int .i64 t471) ∧ w'.cell? ⟨gb476, 5, none⟩ = some (.slice Ao18 t472.length co18) ∧ w'.cell? ⟨gb464, 0, none⟩ = some (.int .i64 t452) ∧ w'.cell? ⟨gb464, 1, none⟩ = some (.slice Ao11 t453.length co11) ∧ w'.cell? ⟨gb464, 2, none⟩ = some (.int .i64 t456) ∧ w'.cell? ⟨gb464, 3, none⟩ = some (.int .i64 t457) ∧ w'.cell? ⟨gb464, 4, none⟩ = some (.int .i64 t458) ∧ w'.cell? ⟨gb464, 5, none⟩ = some (.slice Ao12 t459.length co12)) (ds := []) #[ks,ks,ks,ks,ks,ks,ks,ks,ks,ks,ks,ks,ks,ks,ks,ks,ks,ks,ks,ks,ks,ks,ks,ks] (by kernel_rfl) rfl rfl ⟨(zi zY.1 0).trans rfl, (zi zY.1 1).trans rfl, (zi zY.1 2).trans rfl, (zi zY.1 3).trans rfl, (zi zY.1 4).trans rfl, (zi zY.1 5).trans rfl, (zi zZ.1 0).trans rfl, (zi zZ.1 1).trans rfl, (zi zZ.1 2).trans rfl, (zi zZ.1 3).trans rfl, (zi zZ.1 4).trans rfl, (zi zZ.1 5).trans rfl⟩ (fun hHeld => ?_); refine with_tabW laws_FnPrepend.tab9 laws_FnPrepend.bits9 (fun HT_ HW_ => ?_)
          generalize wc.drew = w55 at qc qd qa qb qe qf zZ zY qg HB hHeld ⊢
          refine zT (i := 0) (N := some 73) (v := ?_) (a' := ?_) #[ku,ks,ks,ks,ks,ks,ks,ks,ks,ks,ks,ks,ks,ks,ks,ks,ks,ks,ks,ks,ks,ks,ks,ks] rfl rfl (zH HT_.1 HW_.1 (by kernel_rfl)) (fun _ _ _ h => h) (kb ⟨by rfl, ?_⟩) hHeld ?_ ?_
          rotate_left
          ·
           rintro w' ⟨s0, s1, s2, s3, s4, s5, s6, s7, s8, s9, s10, s11⟩
           go_simp
           with_reducible rfl
          rotate_left
          ·
           simp only [kv, kz, kj, kk, zv, zw]
           rfl
          refine one_ (i := 1) (N := some 74) #[ku,ku,ks,ks,ks,ks,ks,ks,ks,ks,ks,ks,ks,ks,ks,ks,ks,ks,ks,ks,ks,ks,ks,ks] rfl rfl (zV HT_.1 (by kernel_rfl)) (by decide) (fun K hK => ?_)
          refine zX Try.func15 (by kernel_rfl) rfl #[.agg #[.int .i64 t465, .slice Ao17 t466.length co17, .int .i64 t469, .int .i64 t470, .int .i64 t471, .slice Ao18 t472.length co18]] (by rfl) rfl rfl (by (try simp only [ke, kd, kc]); rfl) ?_
          with_reducible refine (impl_GoodAttrs.calls kj6 t465 _ _ t466 t469 t470 t471 _ _ t472 true _ ?side1 ?side2 ?side3 ?side4 A46.1).mono ?_
          (case side1 => repeat (exact (zr qa.1).2.2))
          (case side2 => exact (zr qa.1).2.1)
          (case side3 => repeat (exact (zr qb.1).2.2))
          (case side4 => exact (zr qb.1).2.1)
          rintro e w56 ⟨rfl, hb⟩
          refine ⟨_, rfl, ?_⟩
          replace qc := ky (zj qc.1 hb)
          replace qd := ky (zj qd.1 hb)
          replace qa := ky (zj qa.1 hb)
          replace qb := ky (zj qb.1 hb)
          replace qe := ky (zj qe.1 hb)
          replace qf := ky (zj qf.1 hb)
          replace zZ := ky (zm (g := gb464) (o := .cells #[.int .i64 t452, .slice Ao11 t453.length co11, .int .i64 t456, .int .i64 t457, .int .i64 t458, .slice Ao12 t459.length co12] 27 (0, 0)) zZ.1 hb)
          replace zY := ky (zm (g := gb476) (o := .cells #[.int .i64 t465, .slice Ao17 t466.length co17, .int .i64 t469, .int .i64 t470, .int .i64 t471, .slice Ao18 t472.length co18] 27 (0, 0)) zY.1 hb)
          replace qg := ky (zm (g := gb488) (o := .cells #[.int .i64 t477, .slice Ao25 t478.length co25, .int .i64 t481, .int .i64 t482, .int .i64 t483, .slice Ao26 t484.length co26] 27 (0, 0)) qg.1 hb)
          replace HB := ky (zA HB.1 hb)
          (try clear hb)
          (try clear hb2)
          (try clear hk)
          (try clear hi)
          refine hK.out _ _ ⟨(zi zY.1 0).trans rfl, (zi zY.1 1).trans rfl, (zi zY.1 2).trans rfl, (zi zY.1 3).trans rfl, (zi zY.1 4).trans rfl, (zi zY.1 5).trans rfl, (zi zZ.1 0).trans rfl, (zi zZ.1 1).trans rfl, (zi zZ.1 2).trans rfl, (zi zZ.1 3).trans rfl, (zi zZ.1 4).trans rfl, (zi zZ.1 5).trans rfl⟩ (fun hHeld => ?_)
          clear hK K
          refine zW (a' := ?_) ?_ ?_
          rotate_left
          ·
           show kv _ (some 74) _ = _
           simp only [kv, kz, kj, kk, zv, zw]
           rfl
          refine zx (i := 2) (N := some 75) (v := ?_) (a' := ?_) #[ku,ku,ku,ks,ks,ks,ks,ks,ks,ks,ks,ks,ks,ks,ks,ks,ks,ks,ks,ks,ks,ks,ks,ks] rfl rfl (zu HT_.1 (by kernel_rfl)) (fun _ _ _ h => h) (kb ⟨by rfl, ?_⟩) ?_ ?_
          rotate_left
          ·
           intro w'
           go_simp
           with_reducible rfl
          rotate_left
          ·
           simp only [kv, kz, kj, kk, zv, zw]
           rfl
          refine zx (i := 3) (N := some 76) (v := ?_) (a' := ?_) #[ku,ku,ku,ku,ks,ks,ks,ks,ks,ks,ks,ks,ks,ks,ks,ks,ks,ks,ks,ks,ks,ks,ks,ks] rfl rfl (zu HT_.1 (by kernel_rfl)) (fun _ _ _ h => h) (kb ⟨by rfl, ?_⟩) ?_ ?_
          rotate_left
          ·
           intro w'
           go_simp
           with_reducible rfl
          rotate_left
          ·
           simp only [kv, kz, kj, kk, zv, zw]
           rfl
          refine zx (i := 4) (N := some 77) (v := ?_) (a' := ?_) #[ku,ku,ku,ku,ku,ks,ks,ks,ks,ks,ks,ks,ks,ks,ks,ks,ks,ks,ks,ks,ks,ks,ks,ks] rfl rfl (zu HT_.1 (by kernel_rfl)) (fun _ _ _ h => h) (kb ⟨by rfl, ?_⟩) ?_ ?_
          rotate_left
          ·
           intro w'
           go_simp
           with_reducible rfl
          rotate_left
          ·
           simp only [kv, kz, kj, kk, zv, zw]
           rfl
          refine zx (i := 7) (N := some 80) (v := ?_) (a' := ?_) #[ku,ku,ku,ku,ku,ks,ks,ku,ks,ks,ks,ks,ks,ks,ks,ks,ks,ks,ks,ks,ks,ks,ks,ks] rfl rfl (zu HT_.1 (by kernel_rfl)) (fun _ _ _ h => h) (kb ⟨by rfl, ?_⟩) ?_ ?_
          rotate_left
          ·
           intro w'
           go_simp
           with_reducible rfl
          rotate_left
          ·
           simp only [kv, kz, kj, kk, zv, zw]
           rfl
          refine zx (i := 8) (N := some 81) (v := ?_) (a' := ?_) #[ku,ku,ku,ku,ku,ks,ks,ku,ku,ks,ks,ks,ks,ks,ks,ks,ks,ks,ks,ks,ks,ks,ks,ks] rfl rfl (zu HT_.1 (by kernel_rfl)) (fun _ _ _ h => h) (kb ⟨by rfl, ?_⟩) ?_ ?_
          rotate_left
          ·
           intro w'
           go_simp
           with_reducible rfl
          rotate_left
          ·
           simp only [kv, kz, kj, kk, zv, zw]
           rfl
          refine zT (i := 5) (N := some 78) (v := ?_) (a' := ?_) #[ku,ku,ku,ku,ku,ku,ks,ku,ku,ks,ks,ks,ks,ks,ks,ks,ks,ks,ks,ks,ks,ks,ks,ks] rfl rfl (zH HT_.1 HW_.1 (by kernel_rfl)) (fun _ _ _ h => h) (kb ⟨by rfl, ?_⟩) hHeld ?_ ?_
          rotate_left
          ·
           rintro w' ⟨s0, s1, s2, s3, s4, s5, s6, s7, s8, s9, s10, s11⟩
           go_simp
           with_reducible rfl
          rotate_left
          ·
           simp only [kv, kz, kj, kk, zv, zw]
           rfl
          refine zx (i := 6) (N := some 79) (v := ?_) (a' := ?_) #[ku,ku,ku,ku,ku,ku,ku,ku,ku,ks,ks,ks,ks,ks,ks,ks,ks,ks,ks,ks,ks,ks,ks,ks] rfl rfl (zu HT_.1 (by kernel_rfl)) (fun _ _ _ h => h) (kb ⟨by rfl, ?_⟩) ?_ ?_
          rotate_left
          ·
           intro w'
           go_simp
           with_reducible rfl
          rotate_left
          ·
           simp only [kv, kz, kj, kk, zv, zw]
           rfl
          refine zT (i := 9) (N := some 82) (v := ?_) (a' := ?_) #[ku,ku,ku,ku,ku,ku,ku,ku,ku,ku,ks,ks,ks,ks,ks,ks,ks,ks,ks,ks,ks,ks,ks,ks] rfl rfl (zH HT_.1 HW_.1 (by kernel_rfl)) (fun _ _ _ h => h) (kb ⟨by rfl, ?_⟩) hHeld ?_ ?_
          rotate_left
          ·
           rintro w' ⟨s0, s1, s2, s3, s4, s5, s6, s7, s8, s9, s10, s11⟩
           go_simp
           with_reducible rfl
          rotate_left
          ·
           simp only [kv, kz, kj, kk, zv, zw]
           rfl
          refine zx (i := 10) (N := some 83) (v := ?_) (a' := ?_) #[ku,ku,ku,ku,ku,ku,ku,ku,ku,ku,ku,ks,ks,ks,ks,ks,ks,ks,ks,ks,ks,ks,ks,ks] rfl rfl (zu HT_.1 (by kernel_rfl)) (fun _ _ _ h => h) (kb ⟨by rfl, ?_⟩) ?_ ?_
          rotate_left
          ·
           intro w'
           go_simp
           with_reducible rfl
          rotate_left
          ·
           simp only [kv, kz, kj, kk, zv, zw]
           rfl
          refine zx (i := 11) (N := some 84) (v := ?_) (a' := ?_) #[ku,ku,ku,ku,ku,ku,ku,ku,ku,ku,ku,ku,ks,ks,ks,ks,ks,ks,ks,ks,ks,ks,ks,ks] rfl rfl (zu HT_.1 (by kernel_rfl)) (fun _ _ _ h => h) (kb ⟨by rfl, ?_⟩) ?_ ?_
          rotate_left
          ·
           intro w'
           go_simp
           with_reducible rfl
          rotate_left
          ·
           simp only [kv, kz, kj, kk, zv, zw]
           rfl
          refine zx (i := 12) (N := some 85) (v := ?_) (a' := ?_) #[ku,ku,ku,ku,ku,ku,ku,ku,ku,ku,ku,ku,ku,ks,ks,ks,ks,ks,ks,ks,ks,ks,ks,ks] rfl rfl (zu HT_.1 (by kernel_rfl)) (fun _ _ _ h => h) (kb ⟨by rfl, ?_⟩) ?_ ?_
          rotate_left
          ·
           intro w'
           go_simp
           with_reducible rfl
          rotate_left
          ·
           simp only [kv, kz, kj, kk, zv, zw]
           rfl
          refine zx (i := 13) (N := some 86) (v := ?_) (a' := ?_) #[ku,ku,ku,ku,ku,ku,ku,ku,ku,ku,ku,ku,ku,ku,ks,ks,ks,ks,ks,ks,ks,ks,ks,ks] rfl rfl (zu HT_.1 (by kernel_rfl)) (fun _ _ _ h => h) (kb ⟨by rfl, ?_⟩) ?_ ?_
          rotate_left
          ·
           intro w'
           go_simp
           with_reducible rfl
          rotate_left
          ·
           simp only [kv, kz, kj, kk, zv, zw]
           rfl
          refine zx (i := 14) (N := some 87) (v := ?_) (a' := ?_) #[ku,ku,ku,ku,ku,ku,ku,ku,ku,ku,ku,ku,ku,ku,ku,ks,ks,ks,ks,ks,ks,ks,ks,ks] rfl rfl (zu HT_.1 (by kernel_rfl)) (fun _ _ _ h => h) (kb ⟨by rfl, ?_⟩) ?_ ?_
          rotate_left
          ·
           intro w'
           go_simp
           with_reducible rfl
          rotate_left
          ·
           simp only [kv, kz, kj, kk, zv, zw]
           rfl
          refine zx (i := 15) (N := some 88) (v := undef) (a' := ?_) #[ku,ku,ku,ku,ku,ku,ku,ku,ku,ku,ku,ku,ku,ku,ku,ku,ks,ks,ks,ks,ks,ks,ks,ks] rfl rfl (zu HT_.1 (by kernel_rfl)) (fun _ _ _ h => h) (ko ⟨by rfl, rfl⟩) ?_ ?_
          rotate_left
          ·
           simp only [kv, kz, kj, kk, zv, zw]
           rfl
          refine zx (i := 16) (N := some 89) (v := undef) (a' := ?_) #[ku,ku,ku,ku,ku,ku,ku,ku,ku,ku,ku,ku,ku,ku,ku,ku,ku,ks,ks,ks,ks,ks,ks,ks] rfl rfl (zu HT_.1 (by kernel_rfl)) (fun _ _ _ h => h) (ko ⟨by rfl, rfl⟩) ?_ ?_
          rotate_left
          ·
           simp only [kv, kz, kj, kk, zv, zw]
           rfl
          refine zx (i := 17) (N := some 90) (v := undef) (a' := ?_) #[ku,ku,ku,ku,ku,ku,ku,ku,ku,ku,ku,ku,ku,ku,ku,ku,ku,ku,ks,ks,ks,ks,ks,ks] rfl rfl (zu HT_.1 (by kernel_rfl)) (fun _ _ _ h => h) (ko ⟨by rfl, rfl⟩) ?_ ?_
          rotate_left
          ·
           simp only [kv, kz, kj, kk, zv, zw]
           rfl
          refine zx (i := 18) (N := some 91) (v := undef) (a' := ?_) #[ku,ku,ku,ku,ku,ku,ku,ku,ku,ku,ku,ku,ku,ku,ku,ku,ku,ku,ku,ks,ks,ks,ks,ks] rfl rfl (zu HT_.1 (by kernel_rfl)) (fun _ _ _ h => h) (ko ⟨by rfl, rfl⟩) ?_ ?_
          rotate_left
          ·
           simp only [kv, kz, kj, kk, zv, zw]
           rfl
          refine zx (i := 19) (N := some 92) (v := undef) (a' := ?_) #[ku,ku,ku,ku,ku,ku,ku,ku,ku,ku,ku,ku,ku,ku,ku,ku,ku,ku,ku,ku,ks,ks,ks,ks] rfl rfl (zu HT_.1 (by kernel_rfl)) (fun _ _ _ h => h) (ko ⟨by rfl, rfl⟩) ?_ ?_
          rotate_left
          ·
           simp only [kv, kz, kj, kk, zv, zw]
           rfl
          refine zx (i := 20) (N := some 93) (v := undef) (a' := ?_) #[ku,ku,ku,ku,ku,ku,ku,ku,ku,ku,ku,ku,ku,ku,ku,ku,ku,ku,ku,ku,ku,ks,ks,ks] rfl rfl (zu HT_.1 (by kernel_rfl)) (fun _ _ _ h => h) (ko ⟨by rfl, rfl⟩) ?_ ?_
          rotate_left
          ·
           simp only [kv, kz, kj, kk, zv, zw]
           rfl
          refine zx (i := 21) (N := some 94) (v := undef) (a' := ?_) #[ku,ku,ku,ku,ku,ku,ku,ku,ku,ku,ku,ku,ku,ku,ku,ku,ku,ku,ku,ku,ku,ku,ks,ks] rfl rfl (zu HT_.1 (by kernel_rfl)) (fun _ _ _ h => h) (ko ⟨by rfl, rfl⟩) ?_ ?_
          rotate_left
          ·
           simp only [kv, kz, kj, kk, zv, zw]
           rfl
          refine zx (i := 22) (N := some 95) (v := undef) (a' := ?_) #[ku,ku,ku,ku,ku,ku,ku,ku,ku,ku,ku,ku,ku,ku,ku,ku,ku,ku,ku,ku,ku,ku,ku,ks] rfl rfl (zu HT_.1 (by kernel_rfl)) (fun _ _ _ h => h) (ko ⟨by rfl, rfl⟩) ?_ ?_
          rotate_left
          ·
           simp only [kv, kz, kj, kk, zv, zw]
           rfl
          refine zx (i := 23) (N := some 96) (v := ?_) (a' := ?_) #[ku,ku,ku,ku,ku,ku,ku,ku,ku,ku,ku,ku,ku,ku,ku,ku,ku,ku,ku,ku,ku,ku,ku,ku] rfl rfl (zu HT_.1 (by kernel_rfl)) (fun _ _ _ h => h) (kb ⟨by rfl, ?_⟩) ?_ ?_
          rotate_left
          ·
           intro w'
           go_simp
           with_reducible rfl
          rotate_left
          ·
           simp only [kv, kz, kj, kk, zv, zw]
           rfl
          refine done_ (done_of HT_.1 (by kernel_rfl)) ?_
          try go_wp2
          go_meet
          case rel => exact ⟨_, (true), (by rfl), H', ⟨by have := HJ6.1; omega⟩, ⟨by exact qc.1⟩, ⟨by exact qd.1⟩, ⟨by exact qa.1⟩, ⟨by exact qb.1⟩, ⟨by exact qe.1⟩, ⟨by exact qf.1⟩, ⟨by exact zZ.1⟩, ⟨by exact zY.1⟩, ⟨by exact qg.1⟩, ⟨by exact HB.1⟩⟩
        ·
         replace c47 := km.mpr c47
         subst c47
         have H1 : (laws_FnPrepend.j1 kj6 l1 t462 t463 true t465 t466 t469 t470 t471 t472) = some r := by rw [if_neg (show ¬ (false = true) by decide)] at H; exact H
         clear H
         have H := H1
         clear H1
         have H' := ky H
         clear H
         try go_wp2
         replace qc := ky (zf qc.1)
         replace qd := ky (zf qd.1)
         replace qa := ky (zf qa.1)
         replace qb := ky (zf qb.1)
         replace qe := ky (zf qe.1)
         replace qf := ky (zf qf.1)
         replace zZ := ky (ze zZ.1)
         replace zY := ky (ze zY.1)
         replace qg := ky (ze qg.1)
         replace HB := ky (zl HB.1)
         refine start_ (n := 24) (S := fun w' => w'.cell? ⟨gb476, 0, none⟩ = some (.int .i64 t465) ∧ w'.cell? ⟨gb476, 1, none⟩ = some (.slice Ao17 t466.length co17) ∧ w'.cell? ⟨gb476, 2, none⟩ = some (.int .i64 t469) ∧ w'.cell? ⟨gb476, 3, none⟩ = some (.int .i64 t470) ∧ w'.cell? ⟨gb476, 4, none⟩ = some (.int .i64 t471) ∧ w'.cell? ⟨gb476, 5, none⟩ = some (.slice Ao18 t472.length co18)) (ds := []) #[ks,ks,ks,ks,ks,ks,ks,ks,ks,ks,ks,ks,ks,ks,ks,ks,ks,ks,ks,ks,ks,ks,ks,ks] (by kernel_rfl) rfl rfl ⟨(zi zY.1 0).trans rfl, (zi zY.1 1).trans rfl, (zi zY.1 2).trans rfl, (zi zY.1 3).trans rfl, (zi zY.1 4).trans rfl, (zi zY.1 5).trans rfl⟩ (fun hHeld => ?_); refine with_tabW laws_FnPrepend.tab9 laws_FnPrepend.bits9 (fun HT_ HW_ => ?_)
         generalize wc.drew = w57 at qc qd qa qb qe qf zZ zY qg HB hHeld ⊢
         refine zT (i := 0) (N := some 73) (v := ?_) (a' := ?_) #[ku,ks,ks,ks,ks,ks,ks,ks,ks,ks,ks,ks,ks,ks,ks,ks,ks,ks,ks,ks,ks,ks,ks,ks] rfl rfl (zH HT_.1 HW_.1 (by kernel_rfl)) (fun _ _ _ h => h) (kb ⟨by rfl, ?_⟩) hHeld ?_ ?_
         rotate_left
         ·
          rintro w' ⟨s0, s1, s2, s3, s4, s5⟩
          go_simp
          with_reducible rfl
         rotate_left
         ·
          simp only [kv, kz, kj, kk, zv, zw]
          rfl
         refine one_ (i := 1) (N := some 74) #[ku,ku,ks,ks,ks,ks,ks,ks,ks,ks,ks,ks,ks,ks,ks,ks,ks,ks,ks,ks,ks,ks,ks,ks] rfl rfl (zV HT_.1 (by kernel_rfl)) (by decide) (fun K hK => ?_)
         refine zX Try.func15 (by kernel_rfl) rfl #[.agg #[.int .i64 t465, .slice Ao17 t466.length co17, .int .i64 t469, .int .i64 t470, .int .i64 t471, .slice Ao18 t472.length co18]] (by rfl) rfl rfl (by (try simp only [ke, kd, kc]); rfl) ?_
         with_reducible refine (impl_GoodAttrs.calls kj6 t465 _ _ t466 t469 t470 t471 _ _ t472 false _ ?side1 ?side2 ?side3 ?side4 A46.1).mono ?_
         (case side1 => repeat (exact (zr qa.1).2.2))
         (case side2 => exact (zr qa.1).2.1)
         (case side3 => repeat (exact (zr qb.1).2.2))
         (case side4 => exact (zr qb.1).2.1)
         rintro e w58 ⟨rfl, hb⟩
         refine ⟨_, rfl, ?_⟩
         replace qc := ky (zj qc.1 hb)
         replace qd := ky (zj qd.1 hb)
         replace qa := ky (zj qa.1 hb)
         replace qb := ky (zj qb.1 hb)
         replace qe := ky (zj qe.1 hb)
         replace qf := ky (zj qf.1 hb)
         replace zZ := ky (zm (g := gb464) (o := .cells #[.int .i64 t452, .slice Ao11 t453.length co11, .int .i64 t456, .int .i64 t457, .int .i64 t458, .slice Ao12 t459.length co12] 27 (0, 0)) zZ.1 hb)
         replace zY := ky (zm (g := gb476) (o := .cells #[.int .i64 t465, .slice Ao17 t466.length co17, .int .i64 t469, .int .i64 t470, .int .i64 t471, .slice Ao18 t472.length co18] 27 (0, 0)) zY.1 hb)
         replace qg := ky (zm (g := gb488) (o := .cells #[.int .i64 t477, .slice Ao25 t478.length co25, .int .i64 t481, .int .i64 t482, .int .i64 t483, .slice Ao26 t484.length co26] 27 (0, 0)) qg.1 hb)
         replace HB := ky (zA HB.1 hb)
         (try clear hb)
         (try clear hb2)
         (try clear hk)
         (try clear hi)
         refine hK.out _ _ ⟨(zi zY.1 0).trans rfl, (zi zY.1 1).trans rfl, (zi zY.1 2).trans rfl, (zi zY.1 3).trans rfl, (zi zY.1 4).trans rfl, (zi zY.1 5).trans rfl⟩ (fun hHeld => ?_)
         clear hK K
         refine zW (a' := ?_) ?_ ?_
         rotate_left
         ·
          show kv _ (some 74) _ = _
          simp only [kv, kz, kj, kk, zv, zw]
          rfl
         refine zx (i := 2) (N := some 75) (v := ?_) (a' := ?_) #[ku,ku,ku,ks,ks,ks,ks,ks,ks,ks,ks,ks,ks,ks,ks,ks,ks,ks,ks,ks,ks,ks,ks,ks] rfl rfl (zu HT_.1 (by kernel_rfl)) (fun _ _ _ h => h) (kb ⟨by rfl, ?_⟩) ?_ ?_
         rotate_left
         ·
          intro w'
          go_simp
          with_reducible rfl
         rotate_left
         ·
          simp only [kv, kz, kj, kk, zv, zw]
          rfl
         refine zx (i := 3) (N := some 76) (v := ?_) (a' := ?_) #[ku,ku,ku,ku,ks,ks,ks,ks,ks,ks,ks,ks,ks,ks,ks,ks,ks,ks,ks,ks,ks,ks,ks,ks] rfl rfl (zu HT_.1 (by kernel_rfl)) (fun _ _ _ h => h) (kb ⟨by rfl, ?_⟩) ?_ ?_
         rotate_left
         ·
          intro w'
          go_simp
          with_reducible rfl
         rotate_left
         ·
          simp only [kv, kz, kj, kk, zv, zw]
          rfl
         refine zx (i := 4) (N := some 77) (v := undef) (a' := ?_) #[ku,ku,ku,ku,ku,ks,ks,ks,ks,ks,ks,ks,ks,ks,ks,ks,ks,ks,ks,ks,ks,ks,ks,ks] rfl rfl (zu HT_.1 (by kernel_rfl)) (fun _ _ _ h => h) (ko ⟨by rfl, rfl⟩) ?_ ?_
         rotate_left
         ·
          simp only [kv, kz, kj, kk, zv, zw]
          rfl
         refine zx (i := 5) (N := some 78) (v := undef) (a' := ?_) #[ku,ku,ku,ku,ku,ku,ks,ks,ks,ks,ks,ks,ks,ks,ks,ks,ks,ks,ks,ks,ks,ks,ks,ks] rfl rfl (zu HT_.1 (by kernel_rfl)) (fun _ _ _ h => h) (ko ⟨by rfl, rfl⟩) ?_ ?_
         rotate_left
         ·
          simp only [kv, kz, kj, kk, zv, zw]
          rfl
         refine zx (i := 6) (N := some 79) (v := undef) (a' := ?_) #[ku,ku,ku,ku,ku,ku,ku,ks,ks,ks,ks,ks,ks,ks,ks,ks,ks,ks,ks,ks,ks,ks,ks,ks] rfl rfl (zu HT_.1 (by kernel_rfl)) (fun _ _ _ h => h) (ko ⟨by rfl, rfl⟩) ?_ ?_
         rotate_left
         ·
          simp only [kv, kz, kj, kk, zv, zw]
          rfl
         refine zx (i := 7) (N := some 80) (v := undef) (a' := ?_) #[ku,ku,ku,ku,ku,ku,ku,ku,ks,ks,ks,ks,ks,ks,ks,ks,ks,ks,ks,ks,ks,ks,ks,ks] rfl rfl (zu HT_.1 (by kernel_rfl)) (fun _ _ _ h => h) (ko ⟨by rfl, rfl⟩) ?_ ?_
         rotate_left
         ·
          simp only [kv, kz, kj, kk, zv, zw]
          rfl
         refine zx (i := 8) (N := some 81) (v := undef) (a' := ?_) #[ku,ku,ku,ku,ku,ku,ku,ku,ku,ks,ks,ks,ks,ks,ks,ks,ks,ks,ks,ks,ks,ks,ks,ks] rfl rfl (zu HT_.1 (by kernel_rfl)) (fun _ _ _ h => h) (ko ⟨by rfl, rfl⟩) ?_ ?_
         rotate_left
         ·
          simp only [kv, kz, kj, kk, zv, zw]
          rfl
         refine zx (i := 9) (N := some 82) (v := undef) (a' := ?_) #[ku,ku,ku,ku,ku,ku,ku,ku,ku,ku,ks,ks,ks,ks,ks,ks,ks,ks,ks,ks,ks,ks,ks,ks] rfl rfl (zu HT_.1 (by kernel_rfl)) (fun _ _ _ h => h) (ko ⟨by rfl, rfl⟩) ?_ ?_
         rotate_left
         ·
          simp only [kv, kz, kj, kk, zv, zw]
          rfl
         refine zx (i := 10) (N := some 83) (v := undef) (a' := ?_) #[ku,ku,ku,ku,ku,ku,ku,ku,ku,ku,ku,ks,ks,ks,ks,ks,ks,ks,ks,ks,ks,ks,ks,ks] rfl rfl (zu HT_.1 (by kernel_rfl)) (fun _ _ _ h => h) (ko ⟨by rfl, rfl⟩) ?_ ?_
         rotate_left
         ·
          simp only [kv, kz, kj, kk, zv, zw]
          rfl
         refine zx (i := 11) (N := some 84) (v := undef) (a' := ?_) #[ku,ku,ku,ku,ku,ku,ku,ku,ku,ku,ku,ku,ks,ks,ks,ks,ks,ks,ks,ks,ks,ks,ks,ks] rfl rfl (zu HT_.1 (by kernel_rfl)) (fun _ _ _ h => h) (ko ⟨by rfl, rfl⟩) ?_ ?_
         rotate_left
         ·
          simp only [kv, kz, kj, kk, zv, zw]
          rfl
         refine zx (i := 12) (N := some 85) (v := undef) (a' := ?_) #[ku,ku,ku,ku,ku,ku,ku,ku,ku,ku,ku,ku,ku,ks,ks,ks,ks,ks,ks,ks,ks,ks,ks,ks] rfl rfl (zu HT_.1 (by kernel_rfl)) (fun _ _ _ h => h) (ko ⟨by rfl, rfl⟩) ?_ ?_
         rotate_left
         ·
          simp only [kv, kz, kj, kk, zv, zw]
          rfl
         refine zx (i := 13) (N := some 86) (v := ?_) (a' := ?_) #[ku,ku,ku,ku,ku,ku,ku,ku,ku,ku,ku,ku,ku,ku,ks,ks,ks,ks,ks,ks,ks,ks,ks,ks] rfl rfl (zu HT_.1 (by kernel_rfl)) (fun _ _ _ h => h) (kb ⟨by rfl, ?_⟩) ?_ ?_
         rotate_left
         ·
          intro w'
          go_simp
          with_reducible rfl
         rotate_left
         ·
          simp only [kv, kz, kj, kk, zv, zw]
          rfl
         refine zx (i := 14) (N := some 87) (v := ?_) (a' := ?_) #[ku,ku,ku,ku,ku,ku,ku,ku,ku,ku,ku,ku,ku,ku,ku,ks,ks,ks,ks,ks,ks,ks,ks,ks] rfl rfl (zu HT_.1 (by kernel_rfl)) (fun _ _ _ h => h) (kb ⟨by rfl, ?_⟩) ?_ ?_
         rotate_left
         ·
          intro w'
          go_simp
          with_reducible rfl
         rotate_left
         ·
          simp only [kv, kz, kj, kk, zv, zw]
          rfl
         refine zx (i := 15) (N := some 88) (v := undef) (a' := ?_) #[ku,ku,ku,ku,ku,ku,ku,ku,ku,ku,ku,ku,ku,ku,ku,ku,ks,ks,ks,ks,ks,ks,ks,ks] rfl rfl (zu HT_.1 (by kernel_rfl)) (fun _ _ _ h => h) (ko ⟨by rfl, rfl⟩) ?_ ?_
         rotate_left
         ·
          simp only [kv, kz, kj, kk, zv, zw]
          rfl
         refine zx (i := 16) (N := some 89) (v := undef) (a' := ?_) #[ku,ku,ku,ku,ku,ku,ku,ku,ku,ku,ku,ku,ku,ku,ku,ku,ku,ks,ks,ks,ks,ks,ks,ks] rfl rfl (zu HT_.1 (by kernel_rfl)) (fun _ _ _ h => h) (ko ⟨by rfl, rfl⟩) ?_ ?_
         rotate_left
         ·
          simp only [kv, kz, kj, kk, zv, zw]
          rfl
         refine zx (i := 17) (N := some 90) (v := undef) (a' := ?_) #[ku,ku,ku,ku,ku,ku,ku,ku,ku,ku,ku,ku,ku,ku,ku,ku,ku,ku,ks,ks,ks,ks,ks,ks] rfl rfl (zu HT_.1 (by kernel_rfl)) (fun _ _ _ h => h) (ko ⟨by rfl, rfl⟩) ?_ ?_
         rotate_left
         ·
          simp only [kv, kz, kj, kk, zv, zw]
          rfl
         refine zx (i := 18) (N := some 91) (v := undef) (a' := ?_) #[ku,ku,ku,ku,ku,ku,ku,ku,ku,ku,ku,ku,ku,ku,ku,ku,ku,ku,ku,ks,ks,ks,ks,ks] rfl rfl (zu HT_.1 (by kernel_rfl)) (fun _ _ _ h => h) (ko ⟨by rfl, rfl⟩) ?_ ?_
         rotate_left
         ·
          simp only [kv, kz, kj, kk, zv, zw]
          rfl
         refine zx (i := 19) (N := some 92) (v := undef) (a' := ?_) #[ku,ku,ku,ku,ku,ku,ku,ku,ku,ku,ku,ku,ku,ku,ku,ku,ku,ku,ku,ku,ks,ks,ks,ks] rfl rfl (zu HT_.1 (by kernel_rfl)) (fun _ _ _ h => h) (ko ⟨by rfl, rfl⟩) ?_ ?_
         rotate_left
         ·
          simp only [kv, kz, kj, kk, zv, zw]
          rfl
         refine zx (i := 20) (N := some 93) (v := undef) (a' := ?_) #[ku,ku,ku,ku,ku,ku,ku,ku,ku,ku,ku,ku,ku,ku,ku,ku,ku,ku,ku,ku,ku,ks,ks,ks] rfl rfl (zu HT_.1 (by kernel_rfl)) (fun _ _ _ h => h) (ko ⟨by rfl, rfl⟩) ?_ ?_
         rotate_left
         ·
          simp only [kv, kz, kj, kk, zv, zw]
          rfl
         refine zx (i := 21) (N := some 94) (v := undef) (a' := ?_) #[ku,ku,ku,ku,ku,ku,ku,ku,ku,ku,ku,ku,ku,ku,ku,ku,ku,ku,ku,ku,ku,ku,ks,ks] rfl rfl (zu HT_.1 (by kernel_rfl)) (fun _ _ _ h => h) (ko ⟨by rfl, rfl⟩) ?_ ?_
         rotate_left
         ·
          simp only [kv, kz, kj, kk, zv, zw]
          rfl
         refine zx (i := 22) (N := some 95) (v := undef) (a' := ?_) #[ku,ku,ku,ku,ku,ku,ku,ku,ku,ku,ku,ku,ku,ku,ku,ku,ku,ku,ku,ku,ku,ku,ku,ks] rfl rfl (zu HT_.1 (by kernel_rfl)) (fun _ _ _ h => h) (ko ⟨by rfl, rfl⟩) ?_ ?_
         rotate_left
         ·
          simp only [kv, kz, kj, kk, zv, zw]
          rfl
         refine zx (i := 23) (N := some 96) (v := ?_) (a' := ?_) #[ku,ku,ku,ku,ku,ku,ku,ku,ku,ku,ku,ku,ku,ku,ku,ku,ku,ku,ku,ku,ku,ku,ku,ku] rfl rfl (zu HT_.1 (by kernel_rfl)) (fun _ _ _ h => h) (kb ⟨by rfl, ?_⟩) ?_ ?_
         rotate_left
         ·
          intro w'
          go_simp
          with_reducible rfl
         rotate_left
         ·
          simp only [kv, kz, kj, kk, zv, zw]
          rfl
         refine done_ (done_of HT_.1 (by kernel_rfl)) ?_
         try go_wp2
         go_meet
         case rel => exact ⟨_, (true), (by rfl), H', ⟨by have := HJ6.1; omega⟩, ⟨by exact qc.1⟩, ⟨by exact qd.1⟩, ⟨by exact qa.1⟩, ⟨by exact qb.1⟩, ⟨by exact qe.1⟩, ⟨by exact qf.1⟩, ⟨by exact zZ.1⟩, ⟨by exact zY.1⟩, ⟨by exact qg.1⟩, ⟨by exact HB.1⟩⟩
       case rest => as_aux_lemma =>
        clear HC45
        (try clear c1); (try clear p2); (try clear c4); (try clear c5); (try clear p6); (try clear c15); (try clear c40); (try clear c47); (try clear c48); (try clear c48b0); (try clear c48b1); (try clear c49); (try clear c50); (try clear c54)
        obtain ⟨kq, x96_44, rfl, HA, HJ44, qc, qd, qa, qb, qe, qf, zZ, zY, qg, HB⟩ := hcut
        cases kq with
        | zero => exact absurd HA.1 (by simp [laws_FnPrepend.j1])
        | succ kj44 =>
         have H := HA.1
         clear HA
         simp only [laws_FnPrepend.j1] at H
         by_cases c59 : x96_44 = true
         ·
          subst c59
          have H1 : (some false) = some r := by rw [if_pos rfl] at H; exact H
          clear H
          have H := H1
          clear H1
          obtain rfl := kx H
          cases hT
         ·
          replace c59 := km.mpr c59
          subst c59
          have H1 : (if 0 ≤ t463 then (if t463 ≤ (t466.length : Int) then ((some (t466.take (t463 : Int).toNat : List Int)).bind fun y498 => (laws_FnPrepend.l0 kj44 l1 t462 y498 (y498.length : Int) 0)) else (none)) else (none)) = some r := by rw [if_neg (show ¬ (false = true) by decide)] at H; exact H
          clear H
          have H := H1
          clear H1
          by_cases c60 : 0 ≤ t463
          ·
           rw [if_pos c60] at H
           have c60b0 := eq_true c60
           have c60b1 : decide (0 ≤ t463) = true := decide_eq_true c60
           clear c60
           by_cases c61 : t463 ≤ (t466.length : Int)
           ·
            rw [if_pos c61] at H
            have c61b0 := eq_true c61
            have c61b1 : decide (t463 ≤ (t466.length : Int)) = true := decide_eq_true c61
            clear c61
            obtain ⟨y498, hy498⟩ : ∃ y_ : List Int, y_ = (t466.take (t463 : Int).toNat) := ⟨_, rfl⟩
            replace H : (laws_FnPrepend.l0 kj44 l1 t462 y498 (y498.length : Int) 0) = some r := by (have H2_ := (Option.bind_some _ _).symm.trans H; rw [hy498]; with_reducible exact H2_)
            have Ny498 := ky hy498
            clear hy498
            have H' := ky H
            clear H
            have hnb62 := NB476_464.1
            have hnc62 := qC.1
            have hnb63 := qq.1
            have hnc63 := NB488_476.1
            have hcz64_0 : wc.cell? ⟨gb476, 0, none⟩ = some (.int .i64 t465) := (zi zY.1 0).trans rfl
            have hcz64_1 : wc.cell? ⟨gb476, 1, none⟩ = some (.slice Ao17 t466.length co17) := (zi zY.1 1).trans rfl
            have hcz64_2 : wc.cell? ⟨gb476, 2, none⟩ = some (.int .i64 t469) := (zi zY.1 2).trans rfl
            have hcz64_3 : wc.cell? ⟨gb476, 3, none⟩ = some (.int .i64 t470) := (zi zY.1 3).trans rfl
            have hcz64_4 : wc.cell? ⟨gb476, 4, none⟩ = some (.int .i64 t471) := (zi zY.1 4).trans rfl
            have hcz64_5 : wc.cell? ⟨gb476, 5, none⟩ = some (.slice Ao18 t472.length co18) := (zi zY.1 5).trans rfl
            have hfz64_0 := zs zY.1 0
            have hfz64_1 := zs zY.1 1
            have hfz64_2 := zs zY.1 2
            have hfz64_3 := zs zY.1 3
            have hfz64_4 := zs zY.1 4
            have hfz64_5 := zs zY.1 5
            have q65 : (t463 : Int) ≤ ((t466.length : Int) : Int) := of_decide_eq_true (by (with_reducible assumption))
            obtain ⟨i065, hi065, _, hsz65, _⟩ := info_parts info3
            have hroom65 : t466.length ≤ co17 := (zr qa.1).2.1
            have hC65 : Kd.C (zz .i64) _ Ao17 t466.length t466 := (zr qa.1).2.2
            have hcut65 := cut_to (P := Try.prog) 22 3 .i64 Try.underlying22 hi065 Ao17 t466.length co17 t463 (of_decide_eq_true (by (with_reducible assumption))) q65 hroom65
            have hr65 := Kd.C_take (m := (t463 : Int).toNat) hC65 (by omega)
            have hy65 : y498.length = (t463 : Int).toNat := (by rw [Ny498.1, List.length_take]; omega)
            rw [← Ny498.1] at hr65
            rw [← hy65] at hcut65
            have qN := ky hr65
            have HC501 := ky (show y498.length ≤ co17 from by omega)
            clear hr65 hC65 hroom65 hi065 hsz65
            have KY65 := ky hy65
            clear hy65
            have KL65 := ky (show (t463 : Int).toNat ≤ t466.length from by omega)
            replace q65 := eq_true q65
            go_wp2
            go_loopg [102] kj44 (fun kq v102 w' => ∃ (qv : Int), v102 = .int .i64 qv ∧ zt (laws_FnPrepend.l0 kq l1 t462 y498 (y498.length : Int) qv = some r) ∧ zt (kq ≤ kj44) ∧ zt (Kd.R (zz .i64) 3 w' w.heap.size (fun k_ => some k_ ≠ ((.slice Ao12 t459.length co12) : Value).ownBlock ∧ some k_ ≠ ((.slice Ao17 t466.length co17) : Value).ownBlock ∧ some k_ ≠ ((.slice Ao18 t472.length co18) : Value).ownBlock ∧ some k_ ≠ ((.slice Ao25 t478.length co25) : Value).ownBlock ∧ some k_ ≠ ((.slice Ao26 t484.length co26) : Value).ownBlock) (.slice Ao11 t453.length co11) t453) ∧ zt (Kd.R (zz .i64) 3 w' w.heap.size (fun k_ => some k_ ≠ ((.slice Ao11 t453.length co11) : Value).ownBlock ∧ some k_ ≠ ((.slice Ao17 t466.length co17) : Value).ownBlock ∧ some k_ ≠ ((.slice Ao18 t472.length co18) : Value).ownBlock ∧ some k_ ≠ ((.slice Ao25 t478.length co25) : Value).ownBlock ∧ some k_ ≠ ((.slice Ao26 t484.length co26) : Value).ownBlock) (.slice Ao12 t459.length co12) t459) ∧ zt (Kd.R (zz .i64) 3 w' w.heap.size (fun k_ => some k_ ≠ ((.slice Ao11 t453.length co11) : Value).ownBlock ∧ some k_ ≠ ((.slice Ao12 t459.length co12) : Value).ownBlock ∧ some k_ ≠ ((.slice Ao18 t472.length co18) : Value).ownBlock ∧ some k_ ≠ ((.slice Ao25 t478.length co25) : Value).ownBlock ∧ some k_ ≠ ((.slice Ao26 t484.length co26) : Value).ownBlock) (.slice Ao17 t466.length co17) t466) ∧ zt (Kd.R (zz .i64) 3 w' w.heap.size (fun k_ => some k_ ≠ ((.slice Ao11 t453.length co11) : Value).ownBlock ∧ some k_ ≠ ((.slice Ao12 t459.length co12) : Value).ownBlock ∧ some k_ ≠ ((.slice Ao17 t466.length co17) : Value).ownBlock ∧ some k_ ≠ ((.slice Ao25 t478.length co25) : Value).ownBlock ∧ some k_ ≠ ((.slice Ao26 t484.length co26) : Value).ownBlock) (.slice Ao18 t472.length co18) t472) ∧ zt (Kd.R (zz .i64) 3 w' w.heap.size (fun k_ => some k_ ≠ ((.slice Ao11 t453.length co11) : Value).ownBlock ∧ some k_ ≠ ((.slice Ao12 t459.length co12) : Value).ownBlock ∧ some k_ ≠ ((.slice Ao17 t466.length co17) : Value).ownBlock ∧ some k_ ≠ ((.slice Ao18 t472.length co18) : Value).ownBlock ∧ some k_ ≠ ((.slice Ao26 t484.length co26) : Value).ownBlock) (.slice Ao25 t478.length co25) t478) ∧ zt (Kd.R (zz .i64) 3 w' w.heap.size (fun k_ => some k_ ≠ ((.slice Ao11 t453.length co11) : Value).ownBlock ∧ some k_ ≠ ((.slice Ao12 t459.length co12) : Value).ownBlock ∧ some k_ ≠ ((.slice Ao17 t466.length co17) : Value).ownBlock ∧ some k_ ≠ ((.slice Ao18 t472.length co18) : Value).ownBlock ∧ some k_ ≠ ((.slice Ao25 t478.length co25) : Value).ownBlock) (.slice Ao26 t484.length co26) t484) ∧ zt (w'.heap[gb464]? = some (.cells #[.int .i64 t452, (.slice Ao11 t453.length co11), .int .i64 t456, .int .i64 t457, .int .i64 t458, (.slice Ao12 t459.length co12)] 27 (0, 0))) ∧ zt (w'.heap[gb476]? = some (.cells #[.int .i64 t465, (.slice Ao17 t466.length co17), .int .i64 t469, .int .i64 t470, .int .i64 t471, (.slice Ao18 t472.length co18)] 27 (0, 0))) ∧ zt (w'.heap[gb488]? = some (.cells #[.int .i64 t477, (.slice Ao25 t478.length co25), .int .i64 t481, .int .i64 t482, .int .i64 t483, (.slice Ao26 t484.length co26)] 27 (0, 0))) ∧ zt (Kd.C (zz .i64) w' Ao17 y498.length y498) ∧ zt (Below w.heap.size w w'))
            case atStart => exact ⟨(0), (by rfl), H', ⟨Nat.le_refl _⟩, ⟨by exact qc.1⟩, ⟨by exact qd.1⟩, ⟨by exact qa.1⟩, ⟨by exact qb.1⟩, ⟨by exact qe.1⟩, ⟨by exact qf.1⟩, ⟨by exact zZ.1⟩, ⟨by exact zY.1⟩, ⟨by exact qg.1⟩, ⟨by exact qN.1⟩, ⟨by exact HB.1⟩⟩
            case round => as_aux_lemma =>
             clear H'
             (try clear c1); (try clear p2); (try clear c4); (try clear c5); (try clear c6); (try clear p6); (try clear q6); (try clear c15); (try clear c40); (try clear c47); (try clear c48); (try clear c48b0); (try clear c48b1); (try clear c49); (try clear c50); (try clear c54); (try clear c59); (try clear c60); (try clear c60b0); (try clear c60b1); (try clear c61); (try clear c61b0); (try clear c61b1); (try clear c62); (try clear c63); (try clear p64); (try clear q65); (try clear hcz64_0); (try clear hcz64_1); (try clear hcz64_2); (try clear hcz64_3); (try clear hcz64_4); (try clear hcz64_5); (try clear hfz64_0); (try clear hfz64_1); (try clear hfz64_2); (try clear hfz64_3); (try clear hfz64_4); (try clear hfz64_5); (try clear p2); (try clear p6); (try clear q65)
             obtain ⟨qv, rfl, HA, HK3, qc, qd, qa, qb, qe, qf, zZ, zY, qg, qN, HB⟩ := hrel
             cases gk with
             | zero => exact absurd HA.1 (by simp [laws_FnPrepend.l0])
             | succ k3 =>
              have H := HA.1
              clear HA
              simp only [laws_FnPrepend.l0] at H
              by_cases c66 : qv < (y498.length : Int)
              ·
               rw [if_pos c66] at H
               have c66b0 : decide (qv < (y498.length : Int)) = true := decide_eq_true c66
               clear c66
               by_cases c67 : 0 ≤ qv
               ·
                rw [if_pos c67] at H
                have c67b0 : decide (0 ≤ qv) = true := decide_eq_true c67
                clear c67
                by_cases c68 : qv < (y498.length : Int)
                ·
                 rw [if_pos c68] at H
                 have c68b0 : decide (qv < (y498.length : Int)) = true := decide_eq_true c68
                 clear c68
                 by_cases c69 : (rd y498 qv) = t462
                 ·
                  rw [if_pos c69] at H
                  have c69b0 : ((rd y498 qv) == t462) = true := beq_iff_eq.mpr c69
                  have c69b1 : ((rd y498 qv) != t462) = false := bne_eq_false_iff_eq.mpr c69
                  clear c69
                  have H' := ky H
                  clear H
                  have p502 : 0 ≤ (qv : Int) := of_decide_eq_true (by (with_reducible assumption))
                  have q502 : qv < (y498.length : Int) := of_decide_eq_true (by (with_reducible assumption))
                  obtain ⟨ad502, e502, hx502_0⟩ := Kd.at_int qN.1 qv p502 q502
                  cases e502
                  skip
                  replace p502 := eq_true p502
                  replace q502 := eq_true q502
                  go_wp2
                  go_roundg k3
                  case measure => have := HJ6.1; have := HJ44.1; have := HK3.1; omega
                  case rel => exact ⟨(wrap64 (qv + 1)), (by rfl), H', ⟨by have := HJ6.1; have := HJ44.1; have := HK3.1; omega⟩, ⟨by exact qc.1⟩, ⟨by exact qd.1⟩, ⟨by exact qa.1⟩, ⟨by exact qb.1⟩, ⟨by exact qe.1⟩, ⟨by exact qf.1⟩, ⟨by exact zZ.1⟩, ⟨by exact zY.1⟩, ⟨by exact qg.1⟩, ⟨by exact qN.1⟩, ⟨by exact HB.1⟩⟩
                 ·
                  rw [if_neg c69] at H
                  have c69b0 : ((rd y498 qv) == t462) = false := beq_eq_false_iff_ne.mpr c69
                  have c69b1 : ((rd y498 qv) != t462) = true := bne_iff_ne.mpr c69
                  obtain rfl := kx H
                  cases hT
                ·
                 rw [if_neg c68] at H
                 exact absurd H (by simp)
               ·
                rw [if_neg c67] at H
                exact absurd H (by simp)
              ·
               rw [if_neg c66] at H
               have c66b0 : decide (qv < (y498.length : Int)) = false := decide_eq_false c66
               clear c66
               have H' := ky H
               clear H
               go_wp2
               go_meet
               case rel => exact ⟨_, H', ⟨by have := HJ6.1; have := HJ44.1; have := HK3.1; omega⟩, ⟨by exact qc.1⟩, ⟨by exact qd.1⟩, ⟨by exact qa.1⟩, ⟨by exact qb.1⟩, ⟨by exact qe.1⟩, ⟨by exact qf.1⟩, ⟨by exact zZ.1⟩, ⟨by exact zY.1⟩, ⟨by exact qg.1⟩, ⟨by exact HB.1⟩⟩
           ·
            rw [if_neg c61] at H
            exact absurd H (by simp)
          ·
           rw [if_neg c60] at H
           exact absurd H (by simp)
      ·
       replace c44 := km.mpr c44
       subst c44
       have H1 : (laws_FnPrepend.j3 kj6 l1) = some r := by rw [if_neg (show ¬ (false = true) by decide)] at H; exact H
       clear H
       have H := H1
       clear H1
       have H' := ky H
       clear H
       go_wp2
       go_meet
       case rel => exact ⟨_, H', ⟨by have := HJ6.1; omega⟩, ⟨by exact qc.1⟩, ⟨by exact qd.1⟩, ⟨by exact qa.1⟩, ⟨by exact qb.1⟩, ⟨by exact qe.1⟩, ⟨by exact qf.1⟩, ⟨by exact zZ.1⟩, ⟨by exact zY.1⟩, ⟨by exact qg.1⟩, ⟨by exact HB.1⟩⟩
     case rest => as_aux_lemma =>
      clear HC43
      (try clear c1); (try clear p2); (try clear c4); (try clear c5); (try clear p5); (try clear q5); (try clear hx5); (try clear c6); (try clear p6); (try clear q6); (try clear c15); (try clear c40); (try clear c44); (try clear c47); (try clear c48); (try clear c48b0); (try clear c48b1); (try clear c49); (try clear c50); (try clear p50); (try clear q50); (try clear hx50); (try clear c54); (try clear c59); (try clear c60); (try clear c60b0); (try clear c60b1); (try clear c61); (try clear c61b0); (try clear c61b1); (try clear c62); (try clear c63); (try clear p64); (try clear q65); (try clear c66); (try clear c66b0); (try clear c67); (try clear c67b0); (try clear c68); (try clear c68b0); (try clear c69); (try clear c69b0); (try clear c69b1); (try clear hcz64_0); (try clear hcz64_1); (try clear hcz64_2); (try clear hcz64_3); (try clear hcz64_4); (try clear hcz64_5); (try clear hfz64_0); (try clear hfz64_1); (try clear hfz64_2); (try clear hfz64_3); (try clear hfz64_4); (try clear hfz64_5); (try clear hx502_0); (try clear p2); (try clear p502); (try clear p6); (try clear p64); (try clear q502); (try clear q6); (try clear q65)
      obtain ⟨kq, HA, HJ42, qc, qd, qa, qb, qe, qf, zZ, zY, qg, HB⟩ := hcut
      cases kq with
      | zero => exact absurd HA.1 (by simp [laws_FnPrepend.j3])
      | succ kj42 =>
       have H := HA.1
       clear HA
       simp only [laws_FnPrepend.j3] at H
       replace H := kh.mp H
       obtain ⟨⟨t503, t504⟩, A700, H⟩ := H
       replace H : ((impl_PrefixBytes.f kj42 t503 t504).bind fun bt506 => ((spec_PrefixBytes.f kj42 t503 t504).bind fun bt508 => (if (bt506.2 != bt508.2) = true then (laws_FnPrepend.j4 kj42 l1 bt506.1 bt506.2 true t503 t504) else (laws_FnPrepend.j4 kj42 l1 bt506.1 bt506.2 (bt506.1.toList != bt508.1.toList) t503 t504)))) = some r := H
       have A70 := ky A700
       clear A700
       replace H := kh.mp H
       obtain ⟨⟨t506, t507⟩, A710, H⟩ := H
       replace H : ((spec_PrefixBytes.f kj42 t503 t504).bind fun bt508 => (if (t507 != bt508.2) = true then (laws_FnPrepend.j4 kj42 l1 t506 t507 true t503 t504) else (laws_FnPrepend.j4 kj42 l1 t506 t507 (t506.toList != bt508.1.toList) t503 t504))) = some r := H
       have A71 := ky A710
       clear A710
       replace H := kh.mp H
       obtain ⟨⟨t508, t509⟩, A720, H⟩ := H
       replace H : (if (t507 != t509) = true then (laws_FnPrepend.j4 kj42 l1 t506 t507 true t503 t504) else (laws_FnPrepend.j4 kj42 l1 t506 t507 (t506.toList != t508.toList) t503 t504)) = some r := H
       have A72 := ky A720
       clear A720
       have HC73 := ky H
       clear H
       go_upto_region 20 with (first | ((with_reducible refine zG (f := 41) rfl ?_); refine zS (some 111) rfl rfl Try.func41 (by kernel_rfl) rfl #[.slice A1 l1.length c1] rfl (by (try simp only [ke, kd, kc]); rfl) ?_; (with_reducible refine (spec_DrawPrefixBytes.calls _ _ l1 t503 t504 _ ?side1 ?side2 A70.1).mono ?_); (case side1 => repeat (exact (Kd.C_below HR1.1 HB.1))); (case side2 => exact HC1.1); rintro e w74 ⟨rfl, hb⟩; refine ⟨_, rfl, ?_⟩; replace qc := ky (zj qc.1 hb); replace qd := ky (zj qd.1 hb); replace qa := ky (zj qa.1 hb); replace qb := ky (zj qb.1 hb); replace qe := ky (zj qe.1 hb); replace qf := ky (zj qf.1 hb); replace zZ := ky (zm (g := gb464) (o := .cells #[.int .i64 t452, .slice Ao11 t453.length co11, .int .i64 t456, .int .i64 t457, .int .i64 t458, .slice Ao12 t459.length co12] 27 (0, 0)) zZ.1 hb); replace zY := ky (zm (g := gb476) (o := .cells #[.int .i64 t465, .slice Ao17 t466.length co17, .int .i64 t469, .int .i64 t470, .int .i64 t471, .slice Ao18 t472.length co18] 27 (0, 0)) zY.1 hb); replace qg := ky (zm (g := gb488) (o := .cells #[.int .i64 t477, .slice Ao25 t478.length co25, .int .i64 t481, .int .i64 t482, .int .i64 t483, .slice Ao26 t484.length co26] 27 (0, 0)) qg.1 hb); replace HB := ky (zA HB.1 hb); (try clear hb); (try clear hb2); (try clear hk); (try clear hi)) | ((with_reducible refine zR (N := 14) rfl ?_); (try (refine zN (by rfl) ?_; dsimp only)); refine zP ?hg (N := 14) ?hd (cs := #[.int .i64 0, .int .i64 0]) (t := 35) ?hr ?_; (case hd => rfl); (case hg => rfl); (case hr => (go_simp; done)); intro gb505 hg w75 hbox hb; replace qc := ky (zj qc.1 hb); replace qd := ky (zj qd.1 hb); replace qa := ky (zj qa.1 hb); replace qb := ky (zj qb.1 hb); replace qe := ky (zj qe.1 hb); replace qf := ky (zj qf.1 hb); have qh := ky hbox; have qu := ky ((by rw [hg]; exact (zE HB.1) : w.heap.size ≤ gb505)); replace HB := ky (zA HB.1 hb); have qE := ky ((by rw [hg]; exact kg (zy (g := gb464) (o := .cells #[.int .i64 t452, .slice Ao11 t453.length co11, .int .i64 t456, .int .i64 t457, .int .i64 t458, .slice Ao12 t459.length co12] 27 (0, 0)) zZ.1) : gb464 ≠ gb505)); have NB505_464 := ky ((by rw [hg]; exact kf (zy (g := gb464) (o := .cells #[.int .i64 t452, .slice Ao11 t453.length co11, .int .i64 t456, .int .i64 t457, .int .i64 t458, .slice Ao12 t459.length co12] 27 (0, 0)) zZ.1) : gb505 ≠ gb464)); replace zZ := ky (zm (g := gb464) (o := .cells #[.int .i64 t452, .slice Ao11 t453.length co11, .int .i64 t456, .int .i64 t457, .int .i64 t458, .slice Ao12 t459.length co12] 27 (0, 0)) zZ.1 hb); have qF := ky ((by rw [hg]; exact kg (zy (g := gb476) (o := .cells #[.int .i64 t465, .slice Ao17 t466.length co17, .int .i64 t469, .int .i64 t470, .int .i64 t471, .slice Ao18 t472.length co18] 27 (0, 0)) zY.1) : gb476 ≠ gb505)); have NB505_476 := ky ((by rw [hg]; exact kf (zy (g := gb476) (o := .cells #[.int .i64 t465, .slice Ao17 t466.length co17, .int .i64 t469, .int .i64 t470, .int .i64 t471, .slice Ao18 t472.length co18] 27 (0, 0)) zY.1) : gb505 ≠ gb476)); replace zY := ky (zm (g := gb476) (o := .cells #[.int .i64 t465, .slice Ao17 t466.length co17, .int .i64 t469, .int .i64 t470, .int .i64 t471, .slice Ao18 t472.length co18] 27 (0, 0)) zY.1 hb); have qG := ky ((by rw [hg]; exact kg (zy (g := gb488) (o := .cells #[.int .i64 t477, .slice Ao25 t478.length co25, .int .i64 t481, .int .i64 t482, .int .i64 t483, .slice Ao26 t484.length co26] 27 (0, 0)) qg.1) : gb488 ≠ gb505)); have NB505_488 := ky ((by rw [hg]; exact kf (zy (g := gb488) (o := .cells #[.int .i64 t477, .slice Ao25 t478.length co25, .int .i64 t481, .int .i64 t482, .int .i64 t483, .slice Ao26 t484.length co26] 27 (0, 0)) qg.1) : gb505 ≠ gb488)); replace qg := ky (zm (g := gb488) (o := .cells #[.int .i64 t477, .slice Ao25 t478.length co25, .int .i64 t481, .int .i64 t482, .int .i64 t483, .slice Ao26 t484.length co26] 27 (0, 0)) qg.1 hb); clear hb hbox hg; have hnb76 := NB505_464.1; have hnc76 := qE.1; have hnb77 := NB505_476.1; have hnc77 := qF.1; have hnb78 := NB505_488.1; have hnc78 := qG.1; have hcz79_0 : w75.cell? ⟨gb505, 0, none⟩ = some (.int .i64 0) := (zi qh.1 0).trans rfl; have hcz79_1 : w75.cell? ⟨gb505, 1, none⟩ = some (.int .i64 0) := (zi qh.1 1).trans rfl; have hfz79_0 := zs qh.1 0; have hfz79_1 := zs qh.1 1) | ((with_reducible refine zG (f := 19) rfl ?_); refine zS (some 114) rfl rfl Try.func19 (by kernel_rfl) rfl #[.agg #[.int .i64 t503, .int .i64 t504]] rfl (by (try simp only [ke, kd, kc]); rfl) ?_; (with_reducible refine (impl_PrefixBytes.calls kj42 t503 t504 t506 t507 _ A71.1).mono ?_); rintro e w80 ⟨rfl, hb⟩; refine ⟨_, rfl, ?_⟩; replace qc := ky (zj (by exact (zp (zg (p := ⟨gb505, 1, none⟩) (zg (p := ⟨gb505, 0, none⟩) (zo qc.1 qh.1 (by decide)) (fun _ hk => hk.2) (.int .i64 t503)) (fun _ hk => hk.2) (.int .i64 t504)) (fun _ h_ => h_.1))) hb); replace qd := ky (zj (by exact (zp (zg (p := ⟨gb505, 1, none⟩) (zg (p := ⟨gb505, 0, none⟩) (zo qd.1 qh.1 (by decide)) (fun _ hk => hk.2) (.int .i64 t503)) (fun _ hk => hk.2) (.int .i64 t504)) (fun _ h_ => h_.1))) hb); replace qa := ky (zj (by exact (zp (zg (p := ⟨gb505, 1, none⟩) (zg (p := ⟨gb505, 0, none⟩) (zo qa.1 qh.1 (by decide)) (fun _ hk => hk.2) (.int .i64 t503)) (fun _ hk => hk.2) (.int .i64 t504)) (fun _ h_ => h_.1))) hb); replace qb := ky (zj (by exact (zp (zg (p := ⟨gb505, 1, none⟩) (zg (p := ⟨gb505, 0, none⟩) (zo qb.1 qh.1 (by decide)) (fun _ hk => hk.2) (.int .i64 t503)) (fun _ hk => hk.2) (.int .i64 t504)) (fun _ h_ => h_.1))) hb); replace qe := ky (zj (by exact (zp (zg (p := ⟨gb505, 1, none⟩) (zg (p := ⟨gb505, 0, none⟩) (zo qe.1 qh.1 (by decide)) (fun _ hk => hk.2) (.int .i64 t503)) (fun _ hk => hk.2) (.int .i64 t504)) (fun _ h_ => h_.1))) hb); replace qf := ky (zj (by exact (zp (zg (p := ⟨gb505, 1, none⟩) (zg (p := ⟨gb505, 0, none⟩) (zo qf.1 qh.1 (by decide)) (fun _ hk => hk.2) (.int .i64 t503)) (fun _ hk => hk.2) (.int .i64 t504)) (fun _ h_ => h_.1))) hb); replace zZ := ky (zm (g := gb464) (o := .cells #[.int .i64 t452, .slice Ao11 t453.length co11, .int .i64 t456, .int .i64 t457, .int .i64 t458, .slice Ao12 t459.length co12] 27 (0, 0)) (by refine zq ?_ qE.1 _; refine zq ?_ qE.1 _; exact zZ.1) hb); replace zY := ky (zm (g := gb476) (o := .cells #[.int .i64 t465, .slice Ao17 t466.length co17, .int .i64 t469, .int .i64 t470, .int .i64 t471, .slice Ao18 t472.length co18] 27 (0, 0)) (by refine zq ?_ qF.1 _; refine zq ?_ qF.1 _; exact zY.1) hb); replace qg := ky (zm (g := gb488) (o := .cells #[.int .i64 t477, .slice Ao25 t478.length co25, .int .i64 t481, .int .i64 t482, .int .i64 t483, .slice Ao26 t484.length co26] 27 (0, 0)) (by refine zq ?_ qG.1 _; refine zq ?_ qG.1 _; exact qg.1) hb); replace qh := ky (zm (g := gb505) (o := .cells #[.int .i64 t503, .int .i64 t504] 35 (0, 0)) (by refine zD (cs := #[.int .i64 t503, .int .i64 0]) ?_ 1 _ rfl; refine zD (cs := #[.int .i64 0, .int .i64 0]) ?_ 0 _ rfl; exact qh.1) hb); replace HB := ky (zA (by repeat ((with_reducible first | exact HB.1 | refine zh ?_ qu.1))) hb); (try clear hb); (try clear hb2); (try clear hk); (try clear hi); have hcz81_0 : w80.cell? ⟨gb505, 0, none⟩ = some (.int .i64 t503) := (zi qh.1 0).trans rfl; have hcz81_1 : w80.cell? ⟨gb505, 1, none⟩ = some (.int .i64 t504) := (zi qh.1 1).trans rfl; have hfz81_0 := zs qh.1 0; have hfz81_1 := zs qh.1 1) | ((with_reducible refine zG (f := 17) rfl ?_); refine zS (some 119) rfl rfl Try.func17 (by kernel_rfl) rfl #[.agg #[.int .i64 t503, .int .i64 t504]] rfl (by (try simp only [ke, kd, kc]); rfl) ?_; (with_reducible refine (spec_PrefixBytes.calls kj42 t503 t504 t508 t509 _ A72.1).mono ?_); rintro e w82 ⟨rfl, hb⟩; refine ⟨_, rfl, ?_⟩; replace qc := ky (zj qc.1 hb); replace qd := ky (zj qd.1 hb); replace qa := ky (zj qa.1 hb); replace qb := ky (zj qb.1 hb); replace qe := ky (zj qe.1 hb); replace qf := ky (zj qf.1 hb); replace zZ := ky (zm (g := gb464) (o := .cells #[.int .i64 t452, .slice Ao11 t453.length co11, .int .i64 t456, .int .i64 t457, .int .i64 t458, .slice Ao12 t459.length co12] 27 (0, 0)) zZ.1 hb); replace zY := ky (zm (g := gb476) (o := .cells #[.int .i64 t465, .slice Ao17 t466.length co17, .int .i64 t469, .int .i64 t470, .int .i64 t471, .slice Ao18 t472.length co18] 27 (0, 0)) zY.1 hb); replace qg := ky (zm (g := gb488) (o := .cells #[.int .i64 t477, .slice Ao25 t478.length co25, .int .i64 t481, .int .i64 t482, .int .i64 t483, .slice Ao26 t484.length co26] 27 (0, 0)) qg.1 hb); replace qh := ky (zm (g := gb505) (o := .cells #[.int .i64 t503, .int .i64 t504] 35 (0, 0)) qh.1 hb); replace HB := ky (zA HB.1 hb); (try clear hb); (try clear hb2); (try clear hk); (try clear hi)))
       (try simp only [kv, kz, kj, kk])
       go_cut [129] (fun v129 wc => ∃ (kq : Nat) (x129_72 : Bool), v129 = .bool x129_72 ∧ zt (laws_FnPrepend.j4 kq l1 t506 t507 x129_72 t503 t504 = some r) ∧ zt (kq ≤ kj42) ∧ zt (Kd.R (zz .i64) 3 wc w.heap.size (fun k_ => some k_ ≠ ((.slice Ao12 t459.length co12) : Value).ownBlock ∧ some k_ ≠ ((.slice Ao17 t466.length co17) : Value).ownBlock ∧ some k_ ≠ ((.slice Ao18 t472.length co18) : Value).ownBlock ∧ some k_ ≠ ((.slice Ao25 t478.length co25) : Value).ownBlock ∧ some k_ ≠ ((.slice Ao26 t484.length co26) : Value).ownBlock) (.slice Ao11 t453.length co11) t453) ∧ zt (Kd.R (zz .i64) 3 wc w.heap.size (fun k_ => some k_ ≠ ((.slice Ao11 t453.length co11) : Value).ownBlock ∧ some k_ ≠ ((.slice Ao17 t466.length co17) : Value).ownBlock ∧ some k_ ≠ ((.slice Ao18 t472.length co18) : Value).ownBlock ∧ some k_ ≠ ((.slice Ao25 t478.length co25) : Value).ownBlock ∧ some k_ ≠ ((.slice Ao26 t484.length co26) : Value).ownBlock) (.slice Ao12 t459.length co12) t459) ∧ zt (Kd.R (zz .i64) 3 wc w.heap.size (fun k_ => some k_ ≠ ((.slice Ao11 t453.length co11) : Value).ownBlock ∧ some k_ ≠ ((.slice Ao12 t459.length co12) : Value).ownBlock ∧ some k_ ≠ ((.slice Ao18 t472.length co18) : Value).ownBlock ∧ some k_ ≠ ((.slice Ao25 t478.length co25) : Value).ownBlock ∧ some k_ ≠ ((.slice Ao26 t484.length co26) : Value).ownBlock) (.slice Ao17 t466.length co17) t466) ∧ zt (Kd.R (zz .i64) 3 wc w.heap.size (fun k_ => some k_ ≠ ((.slice Ao11 t453.length co11) : Value).ownBlock ∧ some k_ ≠ ((.slice Ao12 t459.length co12) : Value).ownBlock ∧ some k_ ≠ ((.slice Ao17 t466.length co17) : Value).ownBlock ∧ some k_ ≠ ((.slice Ao25 t478.length co25) : Value).ownBlock ∧ some k_ ≠ ((.slice Ao26 t484.length co26) : Value).ownBlock) (.slice Ao18 t472.length co18) t472) ∧ zt (Kd.R (zz .i64) 3 wc w.heap.size (fun k_ => some k_ ≠ ((.slice Ao11 t453.length co11) : Value).ownBlock ∧ some k_ ≠ ((.slice Ao12 t459.length co12) : Value).ownBlock ∧ some k_ ≠ ((.slice Ao17 t466.length co17) : Value).ownBlock ∧ some k_ ≠ ((.slice Ao18 t472.length co18) : Value).ownBlock ∧ some k_ ≠ ((.slice Ao26 t484.length co26) : Value).ownBlock) (.slice Ao25 t478.length co25) t478) ∧ zt (Kd.R (zz .i64) 3 wc w.heap.size (fun k_ => some k_ ≠ ((.slice Ao11 t453.length co11) : Value).ownBlock ∧ some k_ ≠ ((.slice Ao12 t459.length co12) : Value).ownBlock ∧ some k_ ≠ ((.slice Ao17 t466.length co17) : Value).ownBlock ∧ some k_ ≠ ((.slice Ao18 t472.length co18) : Value).ownBlock ∧ some k_ ≠ ((.slice Ao25 t478.length co25) : Value).ownBlock) (.slice Ao26 t484.length co26) t484) ∧ zt (wc.heap[gb464]? = some (.cells #[.int .i64 t452, (.slice Ao11 t453.length co11), .int .i64 t456, .int .i64 t457, .int .i64 t458, (.slice Ao12 t459.length co12)] 27 (0, 0))) ∧ zt (wc.heap[gb476]? = some (.cells #[.int .i64 t465, (.slice Ao17 t466.length co17), .int .i64 t469, .int .i64 t470, .int .i64 t471, (.slice Ao18 t472.length co18)] 27 (0, 0))) ∧ zt (wc.heap[gb488]? = some (.cells #[.int .i64 t477, (.slice Ao25 t478.length co25), .int .i64 t481, .int .i64 t482, .int .i64 t483, (.slice Ao26 t484.length co26)] 27 (0, 0))) ∧ zt (wc.heap[gb505]? = some (.cells #[.int .i64 t503, .int .i64 t504] 35 (0, 0))) ∧ zt (Below w.heap.size w wc))
       case first => as_aux_lemma =>
        have H := HC73.1
        clear HC73
        by_cases c83 : (t507 != t509) = true
        ·
         rw [if_pos c83] at H
         have c83b0 : (t507 != t509) = true := c83
         (try (have c83b1 : decide (t507 = t509) = false := by simpa using c83))
         (try (have c83b2 : (t507 == t509) = false := by simpa using c83))
         (try (have c83b3 : ¬ (t507 = t509) := by simpa using c83))
         clear c83
         skip
         have H' := ky H
         clear H
         go_wp2
         go_meet
         case rel => exact ⟨_, (true), (by rfl), H', ⟨by have := HJ6.1; have := HJ42.1; omega⟩, ⟨by exact qc.1⟩, ⟨by exact qd.1⟩, ⟨by exact qa.1⟩, ⟨by exact qb.1⟩, ⟨by exact qe.1⟩, ⟨by exact qf.1⟩, ⟨by exact zZ.1⟩, ⟨by exact zY.1⟩, ⟨by exact qg.1⟩, ⟨by exact qh.1⟩, ⟨by exact HB.1⟩⟩
        ·
         rw [if_neg c83] at H
         have c83b0 : (t507 != t509) = false := by simpa using c83
         (try (have c83b1 : decide (t507 = t509) = true := by simpa using c83))
         (try (have c83b2 : (t507 == t509) = true := by simpa using c83))
         clear c83
         skip
         have H' := ky H
         clear H
         go_wp2
         go_meet
         case rel => exact ⟨_, ((t506.toList != t508.toList)), (by rfl), H', ⟨by have := HJ6.1; have := HJ42.1; omega⟩, ⟨by exact qc.1⟩, ⟨by exact qd.1⟩, ⟨by exact qa.1⟩, ⟨by exact qb.1⟩, ⟨by exact qe.1⟩, ⟨by exact qf.1⟩, ⟨by exact zZ.1⟩, ⟨by exact zY.1⟩, ⟨by exact qg.1⟩, ⟨by exact qh.1⟩, ⟨by exact HB.1⟩⟩
       case rest => as_aux_lemma =>
        clear HC73
        (try clear c1); (try clear p2); (try clear c4); (try clear c5); (try clear p5); (try clear q5); (try clear hx5); (try clear c6); (try clear p6); (try clear q6); (try clear c7); (try clear c8); (try clear c15); (try clear c17); (try clear c19); (try clear c40); (try clear c41); (try clear c44); (try clear c47); (try clear c48); (try clear c48b0); (try clear c48b1); (try clear c49); (try clear c50); (try clear p50); (try clear q50); (try clear hx50); (try clear c54); (try clear c59); (try clear c60); (try clear c60b0); (try clear c60b1); (try clear c61); (try clear c61b0); (try clear c61b1); (try clear c62); (try clear c63); (try clear p64); (try clear q65); (try clear c66); (try clear c66b0); (try clear c67); (try clear c67b0); (try clear c68); (try clear c68b0); (try clear c69); (try clear c69b0); (try clear c69b1); (try clear c76); (try clear c77); (try clear c78); (try clear c83); (try clear c83b0); (try clear c83b1); (try clear c83b2); (try clear hcz64_0); (try clear hcz64_1); (try clear hcz64_2); (try clear hcz64_3); (try clear hcz64_4); (try clear hcz64_5); (try clear hcz79_0); (try clear hcz79_1); (try clear hcz81_0); (try clear hcz81_1); (try clear hfz64_0); (try clear hfz64_1); (try clear hfz64_2); (try clear hfz64_3); (try clear hfz64_4); (try clear hfz64_5); (try clear hfz79_0); (try clear hfz79_1); (try clear hfz81_0); (try clear hfz81_1); (try clear hx502_0); (try clear p2); (try clear p5); (try clear p50); (try clear p502); (try clear p6); (try clear p64); (try clear q5); (try clear q50); (try clear q502); (try clear q6); (try clear q65)
        obtain ⟨kq, x129_72, rfl, HA, HJ72, qc, qd, qa, qb, qe, qf, zZ, zY, qg, qh, HB⟩ := hcut
        cases kq with
        | zero => exact absurd HA.1 (by simp [laws_FnPrepend.j4])
        | succ kj72 =>
         have H := HA.1
         clear HA
         simp only [laws_FnPrepend.j4] at H
         by_cases c84 : x129_72 = true
         ·
          subst c84
          have H1 : (some false) = some r := by rw [if_pos rfl] at H; exact H
          clear H
          have H := H1
          clear H1
          obtain rfl := kx H
          cases hT
         ·
          replace c84 := km.mpr c84
          subst c84
          have H1 : (if t507 = true then (if t506.size + 1 ≤ 9223372036854775807 then ((impl_TakePrefix.f kj72 (t506 ++ (⟨#[120]⟩ : ByteArray)) 0).bind fun bt510 => (if bt510.2.2.2 = true then (if (!(bt510.1 == t503) || (!(bt510.2.1 == t504))) = true then (laws_FnPrepend.j5 kj72 l1 true) else (laws_FnPrepend.j5 kj72 l1 (bt510.2.2.1 != (t506.size : Int)))) else (laws_FnPrepend.j5 kj72 l1 true))) else (none)) else ((spec_DrawTakePrefix.f kj72 l1).bind fun bt527 => ((impl_TakePrefix.f kj72 bt527.1 bt527.2).bind fun bt529 => ((spec_TakePrefix.f kj72 bt527.1 bt527.2).bind fun bt534 => (if (bt529.2.2.2 == bt534.2.2.2) = true then (if (bt529.1 == bt534.1 && (bt529.2.1 == bt534.2.1)) = true then (some (bt529.2.2.1 == bt534.2.2.1)) else (some false)) else (some false)))))) = some r := by rw [if_neg (show ¬ (false = true) by decide)] at H; exact H
          clear H
          have H := H1
          clear H1
          by_cases c85 : t507 = true
          ·
           subst c85
           have H1 : (if t506.size + 1 ≤ 9223372036854775807 then ((impl_TakePrefix.f kj72 (t506 ++ (⟨#[120]⟩ : ByteArray)) 0).bind fun bt510 => (if bt510.2.2.2 = true then (if (!(bt510.1 == t503) || (!(bt510.2.1 == t504))) = true then (laws_FnPrepend.j5 kj72 l1 true) else (laws_FnPrepend.j5 kj72 l1 (bt510.2.2.1 != (t506.size : Int)))) else (laws_FnPrepend.j5 kj72 l1 true))) else (none)) = some r := by rw [if_pos rfl] at H; exact H
           clear H
           have H := H1
           clear H1
           by_cases c86 : t506.size + 1 ≤ 9223372036854775807
           ·
            rw [if_pos c86] at H
            have c86b0 := eq_true c86
            have c86b1 : decide (t506.size + 1 ≤ 9223372036854775807) = true := decide_eq_true c86
            try have c86b2 : (9223372036854775807 < t506.size + 1) = False := eq_false (Nat.not_lt.2 c86)
            replace H := kh.mp H
            obtain ⟨⟨t510, t511, t512, t513⟩, A870, H⟩ := H
            replace H : (if t513 = true then (if (!(t510 == t503) || (!(t511 == t504))) = true then (laws_FnPrepend.j5 kj72 l1 true) else (laws_FnPrepend.j5 kj72 l1 (t512 != (t506.size : Int)))) else (laws_FnPrepend.j5 kj72 l1 true)) = some r := H
            have A87 := ky A870
            clear A870
            have HC88 := ky H
            clear H
            go_upto_region 24 with (first | ((with_reducible refine zG (f := 21) rfl ?_); refine zS (some 134) rfl rfl Try.func21 (by kernel_rfl) rfl #[.string (t506 ++ (⟨#[120]⟩ : ByteArray)), .int .i64 0] rfl (by (try simp only [ke, kd, kc]); rfl) ?_; (with_reducible refine (impl_TakePrefix.calls kj72 (t506 ++ (⟨#[120]⟩ : ByteArray)) 0 t510 t511 t512 t513 _ A87.1).mono ?_); rintro e w89 ⟨rfl, hb⟩; refine ⟨_, rfl, ?_⟩; replace qc := ky (zj qc.1 hb); replace qd := ky (zj qd.1 hb); replace qa := ky (zj qa.1 hb); replace qb := ky (zj qb.1 hb); replace qe := ky (zj qe.1 hb); replace qf := ky (zj qf.1 hb); replace zZ := ky (zm (g := gb464) (o := .cells #[.int .i64 t452, .slice Ao11 t453.length co11, .int .i64 t456, .int .i64 t457, .int .i64 t458, .slice Ao12 t459.length co12] 27 (0, 0)) zZ.1 hb); replace zY := ky (zm (g := gb476) (o := .cells #[.int .i64 t465, .slice Ao17 t466.length co17, .int .i64 t469, .int .i64 t470, .int .i64 t471, .slice Ao18 t472.length co18] 27 (0, 0)) zY.1 hb); replace qg := ky (zm (g := gb488) (o := .cells #[.int .i64 t477, .slice Ao25 t478.length co25, .int .i64 t481, .int .i64 t482, .int .i64 t483, .slice Ao26 t484.length co26] 27 (0, 0)) qg.1 hb); replace qh := ky (zm (g := gb505) (o := .cells #[.int .i64 t503, .int .i64 t504] 35 (0, 0)) qh.1 hb); replace HB := ky (zA HB.1 hb); (try clear hb); (try clear hb2); (try clear hk); (try clear hi)) | ((with_reducible refine zR (N := 19) rfl ?_); (try (refine zN (by rfl) ?_; dsimp only)); refine zP ?hg (N := 19) ?hd (cs := #[.int .i64 0, .int .i64 0]) (t := 35) ?hr ?_; (case hd => rfl); (case hg => rfl); (case hr => (go_simp; done)); intro gb514 hg w90 hbox hb; replace qc := ky (zj qc.1 hb); replace qd := ky (zj qd.1 hb); replace qa := ky (zj qa.1 hb); replace qb := ky (zj qb.1 hb); replace qe := ky (zj qe.1 hb); replace qf := ky (zj qf.1 hb); have qn := ky hbox; have qH := ky ((by rw [hg]; exact (zE HB.1) : w.heap.size ≤ gb514)); replace HB := ky (zA HB.1 hb); have qw := ky ((by rw [hg]; exact kg (zy (g := gb464) (o := .cells #[.int .i64 t452, .slice Ao11 t453.length co11, .int .i64 t456, .int .i64 t457, .int .i64 t458, .slice Ao12 t459.length co12] 27 (0, 0)) zZ.1) : gb464 ≠ gb514)); have NB514_464 := ky ((by rw [hg]; exact kf (zy (g := gb464) (o := .cells #[.int .i64 t452, .slice Ao11 t453.length co11, .int .i64 t456, .int .i64 t457, .int .i64 t458, .slice Ao12 t459.length co12] 27 (0, 0)) zZ.1) : gb514 ≠ gb464)); replace zZ := ky (zm (g := gb464) (o := .cells #[.int .i64 t452, .slice Ao11 t453.length co11, .int .i64 t456, .int .i64 t457, .int .i64 t458, .slice Ao12 t459.length co12] 27 (0, 0)) zZ.1 hb); have qx := ky ((by rw [hg]; exact kg (zy (g := gb476) (o := .cells #[.int .i64 t465, .slice Ao17 t466.length co17, .int .i64 t469, .int .i64 t470, .int .i64 t471, .slice Ao18 t472.length co18] 27 (0, 0)) zY.1) : gb476 ≠ gb514)); have NB514_476 := ky ((by rw [hg]; exact kf (zy (g := gb476) (o := .cells #[.int .i64 t465, .slice Ao17 t466.length co17, .int .i64 t469, .int .i64 t470, .int .i64 t471, .slice Ao18 t472.length co18] 27 (0, 0)) zY.1) : gb514 ≠ gb476)); replace zY := ky (zm (g := gb476) (o := .cells #[.int .i64 t465, .slice Ao17 t466.length co17, .int .i64 t469, .int .i64 t470, .int .i64 t471, .slice Ao18 t472.length co18] 27 (0, 0)) zY.1 hb); have qy := ky ((by rw [hg]; exact kg (zy (g := gb488) (o := .cells #[.int .i64 t477, .slice Ao25 t478.length co25, .int .i64 t481, .int .i64 t482, .int .i64 t483, .slice Ao26 t484.length co26] 27 (0, 0)) qg.1) : gb488 ≠ gb514)); have NB514_488 := ky ((by rw [hg]; exact kf (zy (g := gb488) (o := .cells #[.int .i64 t477, .slice Ao25 t478.length co25, .int .i64 t481, .int .i64 t482, .int .i64 t483, .slice Ao26 t484.length co26] 27 (0, 0)) qg.1) : gb514 ≠ gb488)); replace qg := ky (zm (g := gb488) (o := .cells #[.int .i64 t477, .slice Ao25 t478.length co25, .int .i64 t481, .int .i64 t482, .int .i64 t483, .slice Ao26 t484.length co26] 27 (0, 0)) qg.1 hb); have qz := ky ((by rw [hg]; exact kg (zy (g := gb505) (o := .cells #[.int .i64 t503, .int .i64 t504] 35 (0, 0)) qh.1) : gb505 ≠ gb514)); have NB514_505 := ky ((by rw [hg]; exact kf (zy (g := gb505) (o := .cells #[.int .i64 t503, .int .i64 t504] 35 (0, 0)) qh.1) : gb514 ≠ gb505)); replace qh := ky (zm (g := gb505) (o := .cells #[.int .i64 t503, .int .i64 t504] 35 (0, 0)) qh.1 hb); clear hb hbox hg; have hnb91 := NB514_464.1; have hnc91 := qw.1; have hnb92 := NB514_476.1; have hnc92 := qx.1; have hnb93 := NB514_488.1; have hnc93 := qy.1; have hnb94 := NB514_505.1; have hnc94 := qz.1; have hcz95_0 : w90.cell? ⟨gb514, 0, none⟩ = some (.int .i64 0) := (zi qn.1 0).trans rfl; have hcz95_1 : w90.cell? ⟨gb514, 1, none⟩ = some (.int .i64 0) := (zi qn.1 1).trans rfl; have hfz95_0 := zs qn.1 0; have hfz95_1 := zs qn.1 1))
            (try simp only [kv, kz, kj, kk])
            go_cut [150] (fun v150 wc => ∃ (kq : Nat) (x150_87 : Bool), v150 = .bool x150_87 ∧ zt (laws_FnPrepend.j5 kq l1 x150_87 = some r) ∧ zt (kq ≤ kj72) ∧ zt (Kd.R (zz .i64) 3 wc w.heap.size (fun k_ => some k_ ≠ ((.slice Ao12 t459.length co12) : Value).ownBlock ∧ some k_ ≠ ((.slice Ao17 t466.length co17) : Value).ownBlock ∧ some k_ ≠ ((.slice Ao18 t472.length co18) : Value).ownBlock ∧ some k_ ≠ ((.slice Ao25 t478.length co25) : Value).ownBlock ∧ some k_ ≠ ((.slice Ao26 t484.length co26) : Value).ownBlock) (.slice Ao11 t453.length co11) t453) ∧ zt (Kd.R (zz .i64) 3 wc w.heap.size (fun k_ => some k_ ≠ ((.slice Ao11 t453.length co11) : Value).ownBlock ∧ some k_ ≠ ((.slice Ao17 t466.length co17) : Value).ownBlock ∧ some k_ ≠ ((.slice Ao18 t472.length co18) : Value).ownBlock ∧ some k_ ≠ ((.slice Ao25 t478.length co25) : Value).ownBlock ∧ some k_ ≠ ((.slice Ao26 t484.length co26) : Value).ownBlock) (.slice Ao12 t459.length co12) t459) ∧ zt (Kd.R (zz .i64) 3 wc w.heap.size (fun k_ => some k_ ≠ ((.slice Ao11 t453.length co11) : Value).ownBlock ∧ some k_ ≠ ((.slice Ao12 t459.length co12) : Value).ownBlock ∧ some k_ ≠ ((.slice Ao18 t472.length co18) : Value).ownBlock ∧ some k_ ≠ ((.slice Ao25 t478.length co25) : Value).ownBlock ∧ some k_ ≠ ((.slice Ao26 t484.length co26) : Value).ownBlock) (.slice Ao17 t466.length co17) t466) ∧ zt (Kd.R (zz .i64) 3 wc w.heap.size (fun k_ => some k_ ≠ ((.slice Ao11 t453.length co11) : Value).ownBlock ∧ some k_ ≠ ((.slice Ao12 t459.length co12) : Value).ownBlock ∧ some k_ ≠ ((.slice Ao17 t466.length co17) : Value).ownBlock ∧ some k_ ≠ ((.slice Ao25 t478.length co25) : Value).ownBlock ∧ some k_ ≠ ((.slice Ao26 t484.length co26) : Value).ownBlock) (.slice Ao18 t472.length co18) t472) ∧ zt (Kd.R (zz .i64) 3 wc w.heap.size (fun k_ => some k_ ≠ ((.slice Ao11 t453.length co11) : Value).ownBlock ∧ some k_ ≠ ((.slice Ao12 t459.length co12) : Value).ownBlock ∧ some k_ ≠ ((.slice Ao17 t466.length co17) : Value).ownBlock ∧ some k_ ≠ ((.slice Ao18 t472.length co18) : Value).ownBlock ∧ some k_ ≠ ((.slice Ao26 t484.length co26) : Value).ownBlock) (.slice Ao25 t478.length co25) t478) ∧ zt (Kd.R (zz .i64) 3 wc w.heap.size (fun k_ => some k_ ≠ ((.slice Ao11 t453.length co11) : Value).ownBlock ∧ some k_ ≠ ((.slice Ao12 t459.length co12) : Value).ownBlock ∧ some k_ ≠ ((.slice Ao17 t466.length co17) : Value).ownBlock ∧ some k_ ≠ ((.slice Ao18 t472.length co18) : Value).ownBlock ∧ some k_ ≠ ((.slice Ao25 t478.length co25) : Value).ownBlock) (.slice Ao26 t484.length co26) t484) ∧ zt (wc.heap[gb464]? = some (.cells #[.int .i64 t452, (.slice Ao11 t453.length co11), .int .i64 t456, .int .i64 t457, .int .i64 t458, (.slice Ao12 t459.length co12)] 27 (0, 0))) ∧ zt (wc.heap[gb476]? = some (.cells #[.int .i64 t465, (.slice Ao17 t466.length co17), .int .i64 t469, .int .i64 t470, .int .i64 t471, (.slice Ao18 t472.length co18)] 27 (0, 0))) ∧ zt (wc.heap[gb488]? = some (.cells #[.int .i64 t477, (.slice Ao25 t478.length co25), .int .i64 t481, .int .i64 t482, .int .i64 t483, (.slice Ao26 t484.length co26)] 27 (0, 0))) ∧ zt (wc.heap[gb505]? = some (.cells #[.int .i64 t503, .int .i64 t504] 35 (0, 0))) ∧ zt (wc.heap[gb514]? = some (.cells #[.int .i64 t510, .int .i64 t511] 35 (0, 0))) ∧ zt (Below w.heap.size w wc))
            case first => as_aux_lemma =>
             have H := HC88.1
             clear HC88
             by_cases c96 : t513 = true
             ·
              subst c96
              have H1 : (if (!(t510 == t503) || (!(t511 == t504))) = true then (laws_FnPrepend.j5 kj72 l1 true) else (laws_FnPrepend.j5 kj72 l1 (t512 != (t506.size : Int)))) = some r := by rw [if_pos rfl] at H; exact H
              clear H
              have H := H1
              clear H1
              by_cases c97 : (!(t510 == t503) || (!(t511 == t504))) = true
              ·
               rw [if_pos c97] at H
               have c97b0 : (!(t510 == t503) || (!(t511 == t504))) = true := c97
               clear c97
               skip
               have H' := ky H
               clear H
               have hnb98 := NB514_464.1
               have hnc98 := qw.1
               have hnb99 := NB514_476.1
               have hnc99 := qx.1
               have hnb100 := NB514_488.1
               have hnc100 := qy.1
               have hnb101 := NB514_505.1
               have hnc101 := qz.1
               have hcz102_0 : w90.cell? ⟨gb514, 0, none⟩ = some (.int .i64 0) := (zi qn.1 0).trans rfl
               have hcz102_1 : w90.cell? ⟨gb514, 1, none⟩ = some (.int .i64 0) := (zi qn.1 1).trans rfl
               have hfz102_0 := zs qn.1 0
               have hfz102_1 := zs qn.1 1
               have hnb103 := NB505_464.1
               have hnc103 := qE.1
               have hnb104 := NB505_476.1
               have hnc104 := qF.1
               have hnb105 := NB505_488.1
               have hnc105 := qG.1
               have hcz106_0 : w90.cell? ⟨gb505, 0, none⟩ = some (.int .i64 t503) := (zi qh.1 0).trans rfl
               have hcz106_1 : w90.cell? ⟨gb505, 1, none⟩ = some (.int .i64 t504) := (zi qh.1 1).trans rfl
               have hfz106_0 := zs qh.1 0
               have hfz106_1 := zs qh.1 1
               go_wp2
               go_meet
               case rel => exact ⟨_, (true), (by rfl), H', ⟨by have := HJ6.1; have := HJ42.1; have := HJ72.1; omega⟩, ⟨by exact zp (zg (p := ⟨gb514, 1, none⟩) (zg (p := ⟨gb514, 0, none⟩) (zo qc.1 qn.1 (by decide)) (fun _ hk => hk.2) (.int .i64 t510)) (fun _ hk => hk.2) (.int .i64 t511)) (fun _ hk => ⟨hk.1.1, ⟨hk.1.2.1, ⟨hk.1.2.2.1, ⟨hk.1.2.2.2.1, hk.1.2.2.2.2⟩⟩⟩⟩)⟩, ⟨by exact zp (zg (p := ⟨gb514, 1, none⟩) (zg (p := ⟨gb514, 0, none⟩) (zo qd.1 qn.1 (by decide)) (fun _ hk => hk.2) (.int .i64 t510)) (fun _ hk => hk.2) (.int .i64 t511)) (fun _ hk => ⟨hk.1.1, ⟨hk.1.2.1, ⟨hk.1.2.2.1, ⟨hk.1.2.2.2.1, hk.1.2.2.2.2⟩⟩⟩⟩)⟩, ⟨by exact zp (zg (p := ⟨gb514, 1, none⟩) (zg (p := ⟨gb514, 0, none⟩) (zo qa.1 qn.1 (by decide)) (fun _ hk => hk.2) (.int .i64 t510)) (fun _ hk => hk.2) (.int .i64 t511)) (fun _ hk => ⟨hk.1.1, ⟨hk.1.2.1, ⟨hk.1.2.2.1, ⟨hk.1.2.2.2.1, hk.1.2.2.2.2⟩⟩⟩⟩)⟩, ⟨by exact zp (zg (p := ⟨gb514, 1, none⟩) (zg (p := ⟨gb514, 0, none⟩) (zo qb.1 qn.1 (by decide)) (fun _ hk => hk.2) (.int .i64 t510)) (fun _ hk => hk.2) (.int .i64 t511)) (fun _ hk => ⟨hk.1.1, ⟨hk.1.2.1, ⟨hk.1.2.2.1, ⟨hk.1.2.2.2.1, hk.1.2.2.2.2⟩⟩⟩⟩)⟩, ⟨by exact zp (zg (p := ⟨gb514, 1, none⟩) (zg (p := ⟨gb514, 0, none⟩) (zo qe.1 qn.1 (by decide)) (fun _ hk => hk.2) (.int .i64 t510)) (fun _ hk => hk.2) (.int .i64 t511)) (fun _ hk => ⟨hk.1.1, ⟨hk.1.2.1, ⟨hk.1.2.2.1, ⟨hk.1.2.2.2.1, hk.1.2.2.2.2⟩⟩⟩⟩)⟩, ⟨by exact zp (zg (p := ⟨gb514, 1, none⟩) (zg (p := ⟨gb514, 0, none⟩) (zo qf.1 qn.1 (by decide)) (fun _ hk => hk.2) (.int .i64 t510)) (fun _ hk => hk.2) (.int .i64 t511)) (fun _ hk => ⟨hk.1.1, ⟨hk.1.2.1, ⟨hk.1.2.2.1, ⟨hk.1.2.2.2.1, hk.1.2.2.2.2⟩⟩⟩⟩)⟩, ⟨by refine zq ?_ qw.1 _; refine zq ?_ qw.1 _; exact zZ.1⟩, ⟨by refine zq ?_ qx.1 _; refine zq ?_ qx.1 _; exact zY.1⟩, ⟨by refine zq ?_ qy.1 _; refine zq ?_ qy.1 _; exact qg.1⟩, ⟨by refine zq ?_ qz.1 _; refine zq ?_ qz.1 _; exact qh.1⟩, ⟨by refine zD (cs := #[.int .i64 t510, .int .i64 0]) ?_ 1 _ rfl; refine zD (cs := #[.int .i64 0, .int .i64 0]) ?_ 0 _ rfl; exact qn.1⟩, ⟨by repeat ((with_reducible first | exact HB.1 | refine zh ?_ qH.1))⟩⟩
              ·
               rw [if_neg c97] at H
               have c97b0 : (!(t510 == t503) || (!(t511 == t504))) = false := by simpa using c97
               clear c97
               skip
               have H' := ky H
               clear H
               have hnb107 := NB514_464.1
               have hnc107 := qw.1
               have hnb108 := NB514_476.1
               have hnc108 := qx.1
               have hnb109 := NB514_488.1
               have hnc109 := qy.1
               have hnb110 := NB514_505.1
               have hnc110 := qz.1
               have hcz111_0 : w90.cell? ⟨gb514, 0, none⟩ = some (.int .i64 0) := (zi qn.1 0).trans rfl
               have hcz111_1 : w90.cell? ⟨gb514, 1, none⟩ = some (.int .i64 0) := (zi qn.1 1).trans rfl
               have hfz111_0 := zs qn.1 0
               have hfz111_1 := zs qn.1 1
               have hnb112 := NB505_464.1
               have hnc112 := qE.1
               have hnb113 := NB505_476.1
               have hnc113 := qF.1
               have hnb114 := NB505_488.1
               have hnc114 := qG.1
               have hcz115_0 : w90.cell? ⟨gb505, 0, none⟩ = some (.int .i64 t503) := (zi qh.1 0).trans rfl
               have hcz115_1 : w90.cell? ⟨gb505, 1, none⟩ = some (.int .i64 t504) := (zi qh.1 1).trans rfl
               have hfz115_0 := zs qh.1 0
               have hfz115_1 := zs qh.1 1
               go_wp2
               go_meet
               case rel => exact ⟨_, ((t512 != (t506.size : Int))), (by rfl), H', ⟨by have := HJ6.1; have := HJ42.1; have := HJ72.1; omega⟩, ⟨by exact zp (zg (p := ⟨gb514, 1, none⟩) (zg (p := ⟨gb514, 0, none⟩) (zo qc.1 qn.1 (by decide)) (fun _ hk => hk.2) (.int .i64 t510)) (fun _ hk => hk.2) (.int .i64 t511)) (fun _ hk => ⟨hk.1.1, ⟨hk.1.2.1, ⟨hk.1.2.2.1, ⟨hk.1.2.2.2.1, hk.1.2.2.2.2⟩⟩⟩⟩)⟩, ⟨by exact zp (zg (p := ⟨gb514, 1, none⟩) (zg (p := ⟨gb514, 0, none⟩) (zo qd.1 qn.1 (by decide)) (fun _ hk => hk.2) (.int .i64 t510)) (fun _ hk => hk.2) (.int .i64 t511)) (fun _ hk => ⟨hk.1.1, ⟨hk.1.2.1, ⟨hk.1.2.2.1, ⟨hk.1.2.2.2.1, hk.1.2.2.2.2⟩⟩⟩⟩)⟩, ⟨by exact zp (zg (p := ⟨gb514, 1, none⟩) (zg (p := ⟨gb514, 0, none⟩) (zo qa.1 qn.1 (by decide)) (fun _ hk => hk.2) (.int .i64 t510)) (fun _ hk => hk.2) (.int .i64 t511)) (fun _ hk => ⟨hk.1.1, ⟨hk.1.2.1, ⟨hk.1.2.2.1, ⟨hk.1.2.2.2.1, hk.1.2.2.2.2⟩⟩⟩⟩)⟩, ⟨by exact zp (zg (p := ⟨gb514, 1, none⟩) (zg (p := ⟨gb514, 0, none⟩) (zo qb.1 qn.1 (by decide)) (fun _ hk => hk.2) (.int .i64 t510)) (fun _ hk => hk.2) (.int .i64 t511)) (fun _ hk => ⟨hk.1.1, ⟨hk.1.2.1, ⟨hk.1.2.2.1, ⟨hk.1.2.2.2.1, hk.1.2.2.2.2⟩⟩⟩⟩)⟩, ⟨by exact zp (zg (p := ⟨gb514, 1, none⟩) (zg (p := ⟨gb514, 0, none⟩) (zo qe.1 qn.1 (by decide)) (fun _ hk => hk.2) (.int .i64 t510)) (fun _ hk => hk.2) (.int .i64 t511)) (fun _ hk => ⟨hk.1.1, ⟨hk.1.2.1, ⟨hk.1.2.2.1, ⟨hk.1.2.2.2.1, hk.1.2.2.2.2⟩⟩⟩⟩)⟩, ⟨by exact zp (zg (p := ⟨gb514, 1, none⟩) (zg (p := ⟨gb514, 0, none⟩) (zo qf.1 qn.1 (by decide)) (fun _ hk => hk.2) (.int .i64 t510)) (fun _ hk => hk.2) (.int .i64 t511)) (fun _ hk => ⟨hk.1.1, ⟨hk.1.2.1, ⟨hk.1.2.2.1, ⟨hk.1.2.2.2.1, hk.1.2.2.2.2⟩⟩⟩⟩)⟩, ⟨by refine zq ?_ qw.1 _; refine zq ?_ qw.1 _; exact zZ.1⟩, ⟨by refine zq ?_ qx.1 _; refine zq ?_ qx.1 _; exact zY.1⟩, ⟨by refine zq ?_ qy.1 _; refine zq ?_ qy.1 _; exact qg.1⟩, ⟨by refine zq ?_ qz.1 _; refine zq ?_ qz.1 _; exact qh.1⟩, ⟨by refine zD (cs := #[.int .i64 t510, .int .i64 0]) ?_ 1 _ rfl; refine zD (cs := #[.int .i64 0, .int .i64 0]) ?_ 0 _ rfl; exact qn.1⟩, ⟨by repeat ((with_reducible first | exact HB.1 | refine zh ?_ qH.1))⟩⟩
             ·
              replace c96 := km.mpr c96
              subst c96
              have H1 : (laws_FnPrepend.j5 kj72 l1 true) = some r := by rw [if_neg (show ¬ (false = true) by decide)] at H; exact H
              clear H
              have H := H1
              clear H1
              have H' := ky H
              clear H
              go_wp2
              go_meet
              case rel => exact ⟨_, (true), (by rfl), H', ⟨by have := HJ6.1; have := HJ42.1; have := HJ72.1; omega⟩, ⟨by exact zp (zg (p := ⟨gb514, 1, none⟩) (zg (p := ⟨gb514, 0, none⟩) (zo qc.1 qn.1 (by decide)) (fun _ hk => hk.2) (.int .i64 t510)) (fun _ hk => hk.2) (.int .i64 t511)) (fun _ hk => ⟨hk.1.1, ⟨hk.1.2.1, ⟨hk.1.2.2.1, ⟨hk.1.2.2.2.1, hk.1.2.2.2.2⟩⟩⟩⟩)⟩, ⟨by exact zp (zg (p := ⟨gb514, 1, none⟩) (zg (p := ⟨gb514, 0, none⟩) (zo qd.1 qn.1 (by decide)) (fun _ hk => hk.2) (.int .i64 t510)) (fun _ hk => hk.2) (.int .i64 t511)) (fun _ hk => ⟨hk.1.1, ⟨hk.1.2.1, ⟨hk.1.2.2.1, ⟨hk.1.2.2.2.1, hk.1.2.2.2.2⟩⟩⟩⟩)⟩, ⟨by exact zp (zg (p := ⟨gb514, 1, none⟩) (zg (p := ⟨gb514, 0, none⟩) (zo qa.1 qn.1 (by decide)) (fun _ hk => hk.2) (.int .i64 t510)) (fun _ hk => hk.2) (.int .i64 t511)) (fun _ hk => ⟨hk.1.1, ⟨hk.1.2.1, ⟨hk.1.2.2.1, ⟨hk.1.2.2.2.1, hk.1.2.2.2.2⟩⟩⟩⟩)⟩, ⟨by exact zp (zg (p := ⟨gb514, 1, none⟩) (zg (p := ⟨gb514, 0, none⟩) (zo qb.1 qn.1 (by decide)) (fun _ hk => hk.2) (.int .i64 t510)) (fun _ hk => hk.2) (.int .i64 t511)) (fun _ hk => ⟨hk.1.1, ⟨hk.1.2.1, ⟨hk.1.2.2.1, ⟨hk.1.2.2.2.1, hk.1.2.2.2.2⟩⟩⟩⟩)⟩, ⟨by exact zp (zg (p := ⟨gb514, 1, none⟩) (zg (p := ⟨gb514, 0, none⟩) (zo qe.1 qn.1 (by decide)) (fun _ hk => hk.2) (.int .i64 t510)) (fun _ hk => hk.2) (.int .i64 t511)) (fun _ hk => ⟨hk.1.1, ⟨hk.1.2.1, ⟨hk.1.2.2.1, ⟨hk.1.2.2.2.1, hk.1.2.2.2.2⟩⟩⟩⟩)⟩, ⟨by exact zp (zg (p := ⟨gb514, 1, none⟩) (zg (p := ⟨gb514, 0, none⟩) (zo qf.1 qn.1 (by decide)) (fun _ hk => hk.2) (.int .i64 t510)) (fun _ hk => hk.2) (.int .i64 t511)) (fun _ hk => ⟨hk.1.1, ⟨hk.1.2.1, ⟨hk.1.2.2.1, ⟨hk.1.2.2.2.1, hk.1.2.2.2.2⟩⟩⟩⟩)⟩, ⟨by refine zq ?_ qw.1 _; refine zq ?_ qw.1 _; exact zZ.1⟩, ⟨by refine zq ?_ qx.1 _; refine zq ?_ qx.1 _; exact zY.1⟩, ⟨by refine zq ?_ qy.1 _; refine zq ?_ qy.1 _; exact qg.1⟩, ⟨by refine zq ?_ qz.1 _; refine zq ?_ qz.1 _; exact qh.1⟩, ⟨by refine zD (cs := #[.int .i64 t510, .int .i64 0]) ?_ 1 _ rfl; refine zD (cs := #[.int .i64 0, .int .i64 0]) ?_ 0 _ rfl; exact qn.1⟩, ⟨by repeat ((with_reducible first | exact HB.1 | refine zh ?_ qH.1))⟩⟩
            case rest => as_aux_lemma =>
             clear HC88
             (try clear c1); (try clear c2); (try clear p2); (try clear c4); (try clear c5); (try clear p5); (try clear q5); (try clear hx5); (try clear c6); (try clear p6); (try clear q6); (try clear c7); (try clear c8); (try clear c9); (try clear c10); (try clear c11); (try clear c15); (try clear c17); (try clear c19); (try clear c21); (try clear c40); (try clear c41); (try clear c44); (try clear c47); (try clear c48); (try clear c48b0); (try clear c48b1); (try clear c49); (try clear c50); (try clear p50); (try clear q50); (try clear hx50); (try clear c54); (try clear c59); (try clear c60); (try clear c60b0); (try clear c60b1); (try clear c61); (try clear c61b0); (try clear c61b1); (try clear c62); (try clear c63); (try clear p64); (try clear q65); (try clear c66); (try clear c66b0); (try clear c67); (try clear c67b0); (try clear c68); (try clear c68b0); (try clear c69); (try clear c69b0); (try clear c69b1); (try clear c76); (try clear c77); (try clear c78); (try clear c83); (try clear c83b0); (try clear c83b1); (try clear c83b2); (try clear c84); (try clear c85); (try clear c86); (try clear c86b0); (try clear c86b1); (try clear c86b2); (try clear c91); (try clear c92); (try clear c93); (try clear c94); (try clear c96); (try clear c97); (try clear c97b0); (try clear c98); (try clear c99); (try clear c100); (try clear c101); (try clear c103); (try clear c104); (try clear c105); (try clear c107); (try clear c108); (try clear c109); (try clear c110); (try clear c112); (try clear c113); (try clear c114); (try clear hcz102_0); (try clear hcz102_1); (try clear hcz106_0); (try clear hcz106_1); (try clear hcz111_0); (try clear hcz111_1); (try clear hcz115_0); (try clear hcz115_1); (try clear hcz64_0); (try clear hcz64_1); (try clear hcz64_2); (try clear hcz64_3); (try clear hcz64_4); (try clear hcz64_5); (try clear hcz79_0); (try clear hcz79_1); (try clear hcz81_0); (try clear hcz81_1); (try clear hcz95_0); (try clear hcz95_1); (try clear hfz102_0); (try clear hfz102_1); (try clear hfz106_0); (try clear hfz106_1); (try clear hfz111_0); (try clear hfz111_1); (try clear hfz115_0); (try clear hfz115_1); (try clear hfz64_0); (try clear hfz64_1); (try clear hfz64_2); (try clear hfz64_3); (try clear hfz64_4); (try clear hfz64_5); (try clear hfz79_0); (try clear hfz79_1); (try clear hfz81_0); (try clear hfz81_1); (try clear hfz95_0); (try clear hfz95_1); (try clear hx502_0); (try clear p2); (try clear p5); (try clear p50); (try clear p502); (try clear p6); (try clear p64); (try clear q5); (try clear q50); (try clear q502); (try clear q6); (try clear q65)
             obtain ⟨kq, x150_87, rfl, HA, HJ87, qc, qd, qa, qb, qe, qf, zZ, zY, qg, qh, qn, HB⟩ := hcut
             cases kq with
             | zero => exact absurd HA.1 (by simp [laws_FnPrepend.j5])
             | succ kj87 =>
              have H := HA.1
              clear HA
              simp only [laws_FnPrepend.j5] at H
              by_cases c116 : x150_87 = true
              ·
               subst c116
               have H1 : (some false) = some r := by rw [if_pos rfl] at H; exact H
               clear H
               have H := H1
               clear H1
               obtain rfl := kx H
               cases hT
              ·
               replace c116 := km.mpr c116
               subst c116
               have H1 : ((spec_DrawTakePrefix.f kj87 l1).bind fun bt515 => ((impl_TakePrefix.f kj87 bt515.1 bt515.2).bind fun bt517 => ((spec_TakePrefix.f kj87 bt515.1 bt515.2).bind fun bt522 => (if (bt517.2.2.2 == bt522.2.2.2) = true then (if (bt517.1 == bt522.1 && (bt517.2.1 == bt522.2.1)) = true then (some (bt517.2.2.1 == bt522.2.2.1)) else (some false)) else (some false))))) = some r := by rw [if_neg (show ¬ (false = true) by decide)] at H; exact H
               clear H
               have H := H1
               clear H1
               replace H := kh.mp H
               obtain ⟨⟨t515, t516⟩, A1170, H⟩ := H
               replace H : ((impl_TakePrefix.f kj87 t515 t516).bind fun bt517 => ((spec_TakePrefix.f kj87 t515 t516).bind fun bt522 => (if (bt517.2.2.2 == bt522.2.2.2) = true then (if (bt517.1 == bt522.1 && (bt517.2.1 == bt522.2.1)) = true then (some (bt517.2.2.1 == bt522.2.2.1)) else (some false)) else (some false)))) = some r := H
               have A117 := ky A1170
               clear A1170
               replace H := kh.mp H
               obtain ⟨⟨t517, t518, t519, t520⟩, A1180, H⟩ := H
               replace H : ((spec_TakePrefix.f kj87 t515 t516).bind fun bt522 => (if (t520 == bt522.2.2.2) = true then (if (t517 == bt522.1 && (t518 == bt522.2.1)) = true then (some (t519 == bt522.2.2.1)) else (some false)) else (some false))) = some r := H
               have A118 := ky A1180
               clear A1180
               replace H := kh.mp H
               obtain ⟨⟨t522, t523, t524, t525⟩, A1190, H⟩ := H
               replace H : (if (t520 == t525) = true then (if (t517 == t522 && (t518 == t523)) = true then (some (t519 == t524)) else (some false)) else (some false)) = some r := H
               have A119 := ky A1190
               clear A1190
               by_cases c120 : (t520 == t525) = true
               ·
                rw [if_pos c120] at H
                have c120b0 : (t520 == t525) = true := c120
                (try (have c120b1 : decide (t520 = t525) = true := by simpa using c120))
                (try (have c120b2 : (t520 == t525) = true := by simpa using c120))
                clear c120
                by_cases c121 : (t517 == t522 && (t518 == t523)) = true
                ·
                 rw [if_pos c121] at H
                 have c121b0 : (t517 == t522 && (t518 == t523)) = true := c121
                 (try (have c121b1 : decide (t517 = t522 && (t518 == t523)) = true := by simpa using c121))
                 (try (have c121b2 : (t517 == t522 && (t518 == t523)) = true := by simpa using c121))
                 clear c121
                 obtain rfl := kx H
                 go_wp2_with (first | ((with_reducible refine zG (f := 42) rfl ?_); refine zS (some 153) rfl rfl Try.func42 (by kernel_rfl) rfl #[.slice A1 l1.length c1] rfl (by (try simp only [ke, kd, kc]); rfl) ?_; (with_reducible refine (spec_DrawTakePrefix.calls kj87 _ _ l1 t515 t516 _ ?side1 ?side2 A117.1).mono ?_); (case side1 => repeat (exact (Kd.C_below HR1.1 HB.1))); (case side2 => exact HC1.1); rintro e w122 ⟨rfl, hb⟩; refine ⟨_, rfl, ?_⟩; replace zZ := ky (zm (g := gb464) (o := .cells #[.int .i64 t452, .slice Ao11 t453.length co11, .int .i64 t456, .int .i64 t457, .int .i64 t458, .slice Ao12 t459.length co12] 27 (0, 0)) zZ.1 hb); replace zY := ky (zm (g := gb476) (o := .cells #[.int .i64 t465, .slice Ao17 t466.length co17, .int .i64 t469, .int .i64 t470, .int .i64 t471, .slice Ao18 t472.length co18] 27 (0, 0)) zY.1 hb); replace qg := ky (zm (g := gb488) (o := .cells #[.int .i64 t477, .slice Ao25 t478.length co25, .int .i64 t481, .int .i64 t482, .int .i64 t483, .slice Ao26 t484.length co26] 27 (0, 0)) qg.1 hb); replace qh := ky (zm (g := gb505) (o := .cells #[.int .i64 t503, .int .i64 t504] 35 (0, 0)) qh.1 hb); replace qn := ky (zm (g := gb514) (o := .cells #[.int .i64 t510, .int .i64 t511] 35 (0, 0)) qn.1 hb); replace HB := ky (zA HB.1 hb); (try clear hb); (try clear hb2); (try clear hk); (try clear hi)) | ((with_reducible refine zG (f := 21) rfl ?_); refine zS (some 159) rfl rfl Try.func21 (by kernel_rfl) rfl #[.string t515, .int .i64 t516] rfl (by (try simp only [ke, kd, kc]); rfl) ?_; (with_reducible refine (impl_TakePrefix.calls kj87 t515 t516 t517 t518 t519 t520 _ A118.1).mono ?_); rintro e w123 ⟨rfl, hb⟩; refine ⟨_, rfl, ?_⟩; replace zZ := ky (zm (g := gb464) (o := .cells #[.int .i64 t452, .slice Ao11 t453.length co11, .int .i64 t456, .int .i64 t457, .int .i64 t458, .slice Ao12 t459.length co12] 27 (0, 0)) zZ.1 hb); replace zY := ky (zm (g := gb476) (o := .cells #[.int .i64 t465, .slice Ao17 t466.length co17, .int .i64 t469, .int .i64 t470, .int .i64 t471, .slice Ao18 t472.length co18] 27 (0, 0)) zY.1 hb); replace qg := ky (zm (g := gb488) (o := .cells #[.int .i64 t477, .slice Ao25 t478.length co25, .int .i64 t481, .int .i64 t482, .int .i64 t483, .slice Ao26 t484.length co26] 27 (0, 0)) qg.1 hb); replace qh := ky (zm (g := gb505) (o := .cells #[.int .i64 t503, .int .i64 t504] 35 (0, 0)) qh.1 hb); replace qn := ky (zm (g := gb514) (o := .cells #[.int .i64 t510, .int .i64 t511] 35 (0, 0)) qn.1 hb); replace HB := ky (zA HB.1 hb); (try clear hb); (try clear hb2); (try clear hk); (try clear hi)) | ((with_reducible refine zR (N := 24) rfl ?_); (try (refine zN (by rfl) ?_; dsimp only)); refine zP ?hg (N := 24) ?hd (cs := #[.int .i64 0, .int .i64 0]) (t := 35) ?hr ?_; (case hd => rfl); (case hg => rfl); (case hr => (go_simp; done)); intro gb521 hg w124 hbox hb; have qA := ky hbox; have qO := ky ((by rw [hg]; exact (zE HB.1) : w.heap.size ≤ gb521)); replace HB := ky (zA HB.1 hb); have NB464_521 := ky ((by rw [hg]; exact kg (zy (g := gb464) (o := .cells #[.int .i64 t452, .slice Ao11 t453.length co11, .int .i64 t456, .int .i64 t457, .int .i64 t458, .slice Ao12 t459.length co12] 27 (0, 0)) zZ.1) : gb464 ≠ gb521)); have NB521_464 := ky ((by rw [hg]; exact kf (zy (g := gb464) (o := .cells #[.int .i64 t452, .slice Ao11 t453.length co11, .int .i64 t456, .int .i64 t457, .int .i64 t458, .slice Ao12 t459.length co12] 27 (0, 0)) zZ.1) : gb521 ≠ gb464)); replace zZ := ky (zm (g := gb464) (o := .cells #[.int .i64 t452, .slice Ao11 t453.length co11, .int .i64 t456, .int .i64 t457, .int .i64 t458, .slice Ao12 t459.length co12] 27 (0, 0)) zZ.1 hb); have NB476_521 := ky ((by rw [hg]; exact kg (zy (g := gb476) (o := .cells #[.int .i64 t465, .slice Ao17 t466.length co17, .int .i64 t469, .int .i64 t470, .int .i64 t471, .slice Ao18 t472.length co18] 27 (0, 0)) zY.1) : gb476 ≠ gb521)); have NB521_476 := ky ((by rw [hg]; exact kf (zy (g := gb476) (o := .cells #[.int .i64 t465, .slice Ao17 t466.length co17, .int .i64 t469, .int .i64 t470, .int .i64 t471, .slice Ao18 t472.length co18] 27 (0, 0)) zY.1) : gb521 ≠ gb476)); replace zY := ky (zm (g := gb476) (o := .cells #[.int .i64 t465, .slice Ao17 t466.length co17, .int .i64 t469, .int .i64 t470, .int .i64 t471, .slice Ao18 t472.length co18] 27 (0, 0)) zY.1 hb); have NB488_521 := ky ((by rw [hg]; exact kg (zy (g := gb488) (o := .cells #[.int .i64 t477, .slice Ao25 t478.length co25, .int .i64 t481, .int .i64 t482, .int .i64 t483, .slice Ao26 t484.length co26] 27 (0, 0)) qg.1) : gb488 ≠ gb521)); have NB521_488 := ky ((by rw [hg]; exact kf (zy (g := gb488) (o := .cells #[.int .i64 t477, .slice Ao25 t478.length co25, .int .i64 t481, .int .i64 t482, .int .i64 t483, .slice Ao26 t484.length co26] 27 (0, 0)) qg.1) : gb521 ≠ gb488)); replace qg := ky (zm (g := gb488) (o := .cells #[.int .i64 t477, .slice Ao25 t478.length co25, .int .i64 t481, .int .i64 t482, .int .i64 t483, .slice Ao26 t484.length co26] 27 (0, 0)) qg.1 hb); have NB505_521 := ky ((by rw [hg]; exact kg (zy (g := gb505) (o := .cells #[.int .i64 t503, .int .i64 t504] 35 (0, 0)) qh.1) : gb505 ≠ gb521)); have NB521_505 := ky ((by rw [hg]; exact kf (zy (g := gb505) (o := .cells #[.int .i64 t503, .int .i64 t504] 35 (0, 0)) qh.1) : gb521 ≠ gb505)); replace qh := ky (zm (g := gb505) (o := .cells #[.int .i64 t503, .int .i64 t504] 35 (0, 0)) qh.1 hb); have NB514_521 := ky ((by rw [hg]; exact kg (zy (g := gb514) (o := .cells #[.int .i64 t510, .int .i64 t511] 35 (0, 0)) qn.1) : gb514 ≠ gb521)); have NB521_514 := ky ((by rw [hg]; exact kf (zy (g := gb514) (o := .cells #[.int .i64 t510, .int .i64 t511] 35 (0, 0)) qn.1) : gb521 ≠ gb514)); replace qn := ky (zm (g := gb514) (o := .cells #[.int .i64 t510, .int .i64 t511] 35 (0, 0)) qn.1 hb); clear hb hbox hg; have hnb125 := NB521_464.1; have hnc125 := NB464_521.1; have hnb126 := NB521_476.1; have hnc126 := NB476_521.1; have hnb127 := NB521_488.1; have hnc127 := NB488_521.1; have hnb128 := NB521_505.1; have hnc128 := NB505_521.1; have hnb129 := NB521_514.1; have hnc129 := NB514_521.1; have hcz130_0 : w124.cell? ⟨gb521, 0, none⟩ = some (.int .i64 0) := (zi qA.1 0).trans rfl; have hcz130_1 : w124.cell? ⟨gb521, 1, none⟩ = some (.int .i64 0) := (zi qA.1 1).trans rfl; have hfz130_0 := zs qA.1 0; have hfz130_1 := zs qA.1 1) | ((with_reducible refine zG (f := 20) rfl ?_); refine zS (some 166) rfl rfl Try.func20 (by kernel_rfl) rfl #[.string t515, .int .i64 t516] rfl (by (try simp only [ke, kd, kc]); rfl) ?_; (with_reducible refine (spec_TakePrefix.calls kj87 t515 t516 t522 t523 t524 t525 _ A119.1).mono ?_); rintro e w131 ⟨rfl, hb⟩; refine ⟨_, rfl, ?_⟩; replace zZ := ky (zm (g := gb464) (o := .cells #[.int .i64 t452, .slice Ao11 t453.length co11, .int .i64 t456, .int .i64 t457, .int .i64 t458, .slice Ao12 t459.length co12] 27 (0, 0)) (by refine zq ?_ NB464_521.1 _; refine zq ?_ NB464_521.1 _; exact zZ.1) hb); replace zY := ky (zm (g := gb476) (o := .cells #[.int .i64 t465, .slice Ao17 t466.length co17, .int .i64 t469, .int .i64 t470, .int .i64 t471, .slice Ao18 t472.length co18] 27 (0, 0)) (by refine zq ?_ NB476_521.1 _; refine zq ?_ NB476_521.1 _; exact zY.1) hb); replace qg := ky (zm (g := gb488) (o := .cells #[.int .i64 t477, .slice Ao25 t478.length co25, .int .i64 t481, .int .i64 t482, .int .i64 t483, .slice Ao26 t484.length co26] 27 (0, 0)) (by refine zq ?_ NB488_521.1 _; refine zq ?_ NB488_521.1 _; exact qg.1) hb); replace qh := ky (zm (g := gb505) (o := .cells #[.int .i64 t503, .int .i64 t504] 35 (0, 0)) (by refine zq ?_ NB505_521.1 _; refine zq ?_ NB505_521.1 _; exact qh.1) hb); replace qn := ky (zm (g := gb514) (o := .cells #[.int .i64 t510, .int .i64 t511] 35 (0, 0)) (by refine zq ?_ NB514_521.1 _; refine zq ?_ NB514_521.1 _; exact qn.1) hb); replace qA := ky (zm (g := gb521) (o := .cells #[.int .i64 t517, .int .i64 t518] 35 (0, 0)) (by refine zD (cs := #[.int .i64 t517, .int .i64 0]) ?_ 1 _ rfl; refine zD (cs := #[.int .i64 0, .int .i64 0]) ?_ 0 _ rfl; exact qA.1) hb); replace HB := ky (zA (by repeat ((with_reducible first | exact HB.1 | refine zh ?_ qO.1))) hb); (try clear hb); (try clear hb2); (try clear hk); (try clear hi)) | ((with_reducible refine zR (N := 27) rfl ?_); (try (refine zN (by rfl) ?_; dsimp only)); refine zP ?hg (N := 27) ?hd (cs := #[.int .i64 0, .int .i64 0]) (t := 35) ?hr ?_; (case hd => rfl); (case hg => rfl); (case hr => (go_simp; done)); intro gb526 hg w132 hbox hb; have BK526 := ky hbox; have GE526 := ky ((by rw [hg]; exact (zE HB.1) : w.heap.size ≤ gb526)); replace HB := ky (zA HB.1 hb); have NB464_526 := ky ((by rw [hg]; exact kg (zy (g := gb464) (o := .cells #[.int .i64 t452, .slice Ao11 t453.length co11, .int .i64 t456, .int .i64 t457, .int .i64 t458, .slice Ao12 t459.length co12] 27 (0, 0)) zZ.1) : gb464 ≠ gb526)); have NB526_464 := ky ((by rw [hg]; exact kf (zy (g := gb464) (o := .cells #[.int .i64 t452, .slice Ao11 t453.length co11, .int .i64 t456, .int .i64 t457, .int .i64 t458, .slice Ao12 t459.length co12] 27 (0, 0)) zZ.1) : gb526 ≠ gb464)); replace zZ := ky (zm (g := gb464) (o := .cells #[.int .i64 t452, .slice Ao11 t453.length co11, .int .i64 t456, .int .i64 t457, .int .i64 t458, .slice Ao12 t459.length co12] 27 (0, 0)) zZ.1 hb); have NB476_526 := ky ((by rw [hg]; exact kg (zy (g := gb476) (o := .cells #[.int .i64 t465, .slice Ao17 t466.length co17, .int .i64 t469, .int .i64 t470, .int .i64 t471, .slice Ao18 t472.length co18] 27 (0, 0)) zY.1) : gb476 ≠ gb526)); have NB526_476 := ky ((by rw [hg]; exact kf (zy (g := gb476) (o := .cells #[.int .i64 t465, .slice Ao17 t466.length co17, .int .i64 t469, .int .i64 t470, .int .i64 t471, .slice Ao18 t472.length co18] 27 (0, 0)) zY.1) : gb526 ≠ gb476)); replace zY := ky (zm (g := gb476) (o := .cells #[.int .i64 t465, .slice Ao17 t466.length co17, .int .i64 t469, .int .i64 t470, .int .i64 t471, .slice Ao18 t472.length co18] 27 (0, 0)) zY.1 hb); have NB488_526 := ky ((by rw [hg]; exact kg (zy (g := gb488) (o := .cells #[.int .i64 t477, .slice Ao25 t478.length co25, .int .i64 t481, .int .i64 t482, .int .i64 t483, .slice Ao26 t484.length co26] 27 (0, 0)) qg.1) : gb488 ≠ gb526)); have NB526_488 := ky ((by rw [hg]; exact kf (zy (g := gb488) (o := .cells #[.int .i64 t477, .slice Ao25 t478.length co25, .int .i64 t481, .int .i64 t482, .int .i64 t483, .slice Ao26 t484.length co26] 27 (0, 0)) qg.1) : gb526 ≠ gb488)); replace qg := ky (zm (g := gb488) (o := .cells #[.int .i64 t477, .slice Ao25 t478.length co25, .int .i64 t481, .int .i64 t482, .int .i64 t483, .slice Ao26 t484.length co26] 27 (0, 0)) qg.1 hb); have NB505_526 := ky ((by rw [hg]; exact kg (zy (g := gb505) (o := .cells #[.int .i64 t503, .int .i64 t504] 35 (0, 0)) qh.1) : gb505 ≠ gb526)); have NB526_505 := ky ((by rw [hg]; exact kf (zy (g := gb505) (o := .cells #[.int .i64 t503, .int .i64 t504] 35 (0, 0)) qh.1) : gb526 ≠ gb505)); replace qh := ky (zm (g := gb505) (o := .cells #[.int .i64 t503, .int .i64 t504] 35 (0, 0)) qh.1 hb); have NB514_526 := ky ((by rw [hg]; exact kg (zy (g := gb514) (o := .cells #[.int .i64 t510, .int .i64 t511] 35 (0, 0)) qn.1) : gb514 ≠ gb526)); have NB526_514 := ky ((by rw [hg]; exact kf (zy (g := gb514) (o := .cells #[.int .i64 t510, .int .i64 t511] 35 (0, 0)) qn.1) : gb526 ≠ gb514)); have NB521_526 := ky ((by rw [hg]; exact kg (zy (g := gb521) (o := .cells #[.int .i64 t517, .int .i64 t518] 35 (0, 0)) qA.1) : gb521 ≠ gb526)); have NB526_521 := ky ((by rw [hg]; exact kf (zy (g := gb521) (o := .cells #[.int .i64 t517, .int .i64 t518] 35 (0, 0)) qA.1) : gb526 ≠ gb521)); replace qA := ky (zm (g := gb521) (o := .cells #[.int .i64 t517, .int .i64 t518] 35 (0, 0)) qA.1 hb); clear hb hbox hg; have hnb133 := NB526_464.1; have hnc133 := NB464_526.1; have hnb134 := NB526_476.1; have hnc134 := NB476_526.1; have hnb135 := NB526_488.1; have hnc135 := NB488_526.1; have hnb136 := NB526_505.1; have hnc136 := NB505_526.1; have hnb137 := NB526_514.1; have hnc137 := NB514_526.1; have hnb138 := NB526_521.1; have hnc138 := NB521_526.1; have hcz139_0 : w132.cell? ⟨gb526, 0, none⟩ = some (.int .i64 0) := (zi BK526.1 0).trans rfl; have hcz139_1 : w132.cell? ⟨gb526, 1, none⟩ = some (.int .i64 0) := (zi BK526.1 1).trans rfl; have hfz139_0 := zs BK526.1 0; have hfz139_1 := zs BK526.1 1; have hcz140_0 : w132.cell? ⟨gb521, 0, none⟩ = some (.int .i64 t517) := (zi qA.1 0).trans rfl; have hcz140_1 : w132.cell? ⟨gb521, 1, none⟩ = some (.int .i64 t518) := (zi qA.1 1).trans rfl; have hfz140_0 := zs qA.1 0; have hfz140_1 := zs qA.1 1))
                 go_ret
                 exact ⟨by rfl, by repeat ((with_reducible first | exact HB.1 | refine zh ?_ GE526.1))⟩
                ·
                 rw [if_neg c121] at H
                 have c121b0 : (t517 == t522 && (t518 == t523)) = false := by simpa using c121
                 (try (have c121b1 : decide (t517 = t522 && (t518 == t523)) = false := by simpa using c121))
                 (try (have c121b2 : (t517 == t522 && (t518 == t523)) = false := by simpa using c121))
                 (try (have c121b3 : ¬ (t517 = t522 && (t518 == t523)) := by simpa using c121))
                 clear c121
                 obtain rfl := kx H
                 cases hT
               ·
                rw [if_neg c120] at H
                have c120b0 : (t520 == t525) = false := by simpa using c120
                (try (have c120b1 : decide (t520 = t525) = false := by simpa using c120))
                (try (have c120b2 : (t520 == t525) = false := by simpa using c120))
                (try (have c120b3 : ¬ (t520 = t525) := by simpa using c120))
                clear c120
                obtain rfl := kx H
                cases hT
           ·
            rw [if_neg c86] at H
            exact absurd H (by simp)
          ·
           replace c85 := km.mpr c85
           subst c85
           have H1 : ((spec_DrawTakePrefix.f kj72 l1).bind fun bt527 => ((impl_TakePrefix.f kj72 bt527.1 bt527.2).bind fun bt529 => ((spec_TakePrefix.f kj72 bt527.1 bt527.2).bind fun bt534 => (if (bt529.2.2.2 == bt534.2.2.2) = true then (if (bt529.1 == bt534.1 && (bt529.2.1 == bt534.2.1)) = true then (some (bt529.2.2.1 == bt534.2.2.1)) else (some false)) else (some false))))) = some r := by rw [if_neg (show ¬ (false = true) by decide)] at H; exact H
           clear H
           have H := H1
           clear H1
           replace H := kh.mp H
           obtain ⟨⟨t527, t528⟩, A1410, H⟩ := H
           replace H : ((impl_TakePrefix.f kj72 t527 t528).bind fun bt529 => ((spec_TakePrefix.f kj72 t527 t528).bind fun bt534 => (if (bt529.2.2.2 == bt534.2.2.2) = true then (if (bt529.1 == bt534.1 && (bt529.2.1 == bt534.2.1)) = true then (some (bt529.2.2.1 == bt534.2.2.1)) else (some false)) else (some false)))) = some r := H
           have A141 := ky A1410
           clear A1410
           replace H := kh.mp H
           obtain ⟨⟨t529, t530, t531, t532⟩, A1420, H⟩ := H
           replace H : ((spec_TakePrefix.f kj72 t527 t528).bind fun bt534 => (if (t532 == bt534.2.2.2) = true then (if (t529 == bt534.1 && (t530 == bt534.2.1)) = true then (some (t531 == bt534.2.2.1)) else (some false)) else (some false))) = some r := H
           have A142 := ky A1420
           clear A1420
           replace H := kh.mp H
           obtain ⟨⟨t534, t535, t536, t537⟩, A1430, H⟩ := H
           replace H : (if (t532 == t537) = true then (if (t529 == t534 && (t530 == t535)) = true then (some (t531 == t536)) else (some false)) else (some false)) = some r := H
           have A143 := ky A1430
           clear A1430
           by_cases c144 : (t532 == t537) = true
           ·
            rw [if_pos c144] at H
            have c144b0 : (t532 == t537) = true := c144
            (try (have c144b1 : decide (t532 = t537) = true := by simpa using c144))
            (try (have c144b2 : (t532 == t537) = true := by simpa using c144))
            clear c144
            by_cases c145 : (t529 == t534 && (t530 == t535)) = true
            ·
             rw [if_pos c145] at H
             have c145b0 : (t529 == t534 && (t530 == t535)) = true := c145
             (try (have c145b1 : decide (t529 = t534 && (t530 == t535)) = true := by simpa using c145))
             (try (have c145b2 : (t529 == t534 && (t530 == t535)) = true := by simpa using c145))
             clear c145
             obtain rfl := kx H
             go_wp2_with (first | ((with_reducible refine zG (f := 42) rfl ?_); refine zS (some 153) rfl rfl Try.func42 (by kernel_rfl) rfl #[.slice A1 l1.length c1] rfl (by (try simp only [ke, kd, kc]); rfl) ?_; (with_reducible refine (spec_DrawTakePrefix.calls kj72 _ _ l1 t527 t528 _ ?side1 ?side2 A141.1).mono ?_); (case side1 => repeat (exact (Kd.C_below HR1.1 HB.1))); (case side2 => exact HC1.1); rintro e w146 ⟨rfl, hb⟩; refine ⟨_, rfl, ?_⟩; replace zZ := ky (zm (g := gb464) (o := .cells #[.int .i64 t452, .slice Ao11 t453.length co11, .int .i64 t456, .int .i64 t457, .int .i64 t458, .slice Ao12 t459.length co12] 27 (0, 0)) zZ.1 hb); replace zY := ky (zm (g := gb476) (o := .cells #[.int .i64 t465, .slice Ao17 t466.length co17, .int .i64 t469, .int .i64 t470, .int .i64 t471, .slice Ao18 t472.length co18] 27 (0, 0)) zY.1 hb); replace qg := ky (zm (g := gb488) (o := .cells #[.int .i64 t477, .slice Ao25 t478.length co25, .int .i64 t481, .int .i64 t482, .int .i64 t483, .slice Ao26 t484.length co26] 27 (0, 0)) qg.1 hb); replace qh := ky (zm (g := gb505) (o := .cells #[.int .i64 t503, .int .i64 t504] 35 (0, 0)) qh.1 hb); replace HB := ky (zA HB.1 hb); (try clear hb); (try clear hb2); (try clear hk); (try clear hi)) | ((with_reducible refine zG (f := 21) rfl ?_); refine zS (some 159) rfl rfl Try.func21 (by kernel_rfl) rfl #[.string t527, .int .i64 t528] rfl (by (try simp only [ke, kd, kc]); rfl) ?_; (with_reducible refine (impl_TakePrefix.calls kj72 t527 t528 t529 t530 t531 t532 _ A142.1).mono ?_); rintro e w147 ⟨rfl, hb⟩; refine ⟨_, rfl, ?_⟩; replace zZ := ky (zm (g := gb464) (o := .cells #[.int .i64 t452, .slice Ao11 t453.length co11, .int .i64 t456, .int .i64 t457, .int .i64 t458, .slice Ao12 t459.length co12] 27 (0, 0)) zZ.1 hb); replace zY := ky (zm (g := gb476) (o := .cells #[.int .i64 t465, .slice Ao17 t466.length co17, .int .i64 t469, .int .i64 t470, .int .i64 t471, .slice Ao18 t472.length co18] 27 (0, 0)) zY.1 hb); replace qg := ky (zm (g := gb488) (o := .cells #[.int .i64 t477, .slice Ao25 t478.length co25, .int .i64 t481, .int .i64 t482, .int .i64 t483, .slice Ao26 t484.length co26] 27 (0, 0)) qg.1 hb); replace qh := ky (zm (g := gb505) (o := .cells #[.int .i64 t503, .int .i64 t504] 35 (0, 0)) qh.1 hb); replace HB := ky (zA HB.1 hb); (try clear hb); (try clear hb2); (try clear hk); (try clear hi)) | ((with_reducible refine zR (N := 24) rfl ?_); (try (refine zN (by rfl) ?_; dsimp only)); refine zP ?hg (N := 24) ?hd (cs := #[.int .i64 0, .int .i64 0]) (t := 35) ?hr ?_; (case hd => rfl); (case hg => rfl); (case hr => (go_simp; done)); intro gb533 hg w148 hbox hb; have qB := ky hbox; have qP := ky ((by rw [hg]; exact (zE HB.1) : w.heap.size ≤ gb533)); replace HB := ky (zA HB.1 hb); have NB464_533 := ky ((by rw [hg]; exact kg (zy (g := gb464) (o := .cells #[.int .i64 t452, .slice Ao11 t453.length co11, .int .i64 t456, .int .i64 t457, .int .i64 t458, .slice Ao12 t459.length co12] 27 (0, 0)) zZ.1) : gb464 ≠ gb533)); have NB533_464 := ky ((by rw [hg]; exact kf (zy (g := gb464) (o := .cells #[.int .i64 t452, .slice Ao11 t453.length co11, .int .i64 t456, .int .i64 t457, .int .i64 t458, .slice Ao12 t459.length co12] 27 (0, 0)) zZ.1) : gb533 ≠ gb464)); replace zZ := ky (zm (g := gb464) (o := .cells #[.int .i64 t452, .slice Ao11 t453.length co11, .int .i64 t456, .int .i64 t457, .int .i64 t458, .slice Ao12 t459.length co12] 27 (0, 0)) zZ.1 hb); have NB476_533 := ky ((by rw [hg]; exact kg (zy (g := gb476) (o := .cells #[.int .i64 t465, .slice Ao17 t466.length co17, .int .i64 t469, .int .i64 t470, .int .i64 t471, .slice Ao18 t472.length co18] 27 (0, 0)) zY.1) : gb476 ≠ gb533)); have NB533_476 := ky ((by rw [hg]; exact kf (zy (g := gb476) (o := .cells #[.int .i64 t465, .slice Ao17 t466.length co17, .int .i64 t469, .int .i64 t470, .int .i64 t471, .slice Ao18 t472.length co18] 27 (0, 0)) zY.1) : gb533 ≠ gb476)); replace zY := ky (zm (g := gb476) (o := .cells #[.int .i64 t465, .slice Ao17 t466.length co17, .int .i64 t469, .int .i64 t470, .int .i64 t471, .slice Ao18 t472.length co18] 27 (0, 0)) zY.1 hb); have NB488_533 := ky ((by rw [hg]; exact kg (zy (g := gb488) (o := .cells #[.int .i64 t477, .slice Ao25 t478.length co25, .int .i64 t481, .int .i64 t482, .int .i64 t483, .slice Ao26 t484.length co26] 27 (0, 0)) qg.1) : gb488 ≠ gb533)); have NB533_488 := ky ((by rw [hg]; exact kf (zy (g := gb488) (o := .cells #[.int .i64 t477, .slice Ao25 t478.length co25, .int .i64 t481, .int .i64 t482, .int .i64 t483, .slice Ao26 t484.length co26] 27 (0, 0)) qg.1) : gb533 ≠ gb488)); replace qg := ky (zm (g := gb488) (o := .cells #[.int .i64 t477, .slice Ao25 t478.length co25, .int .i64 t481, .int .i64 t482, .int .i64 t483, .slice Ao26 t484.length co26] 27 (0, 0)) qg.1 hb); have NB505_533 := ky ((by rw [hg]; exact kg (zy (g := gb505) (o := .cells #[.int .i64 t503, .int .i64 t504] 35 (0, 0)) qh.1) : gb505 ≠ gb533)); have NB533_505 := ky ((by rw [hg]; exact kf (zy (g := gb505) (o := .cells #[.int .i64 t503, .int .i64 t504] 35 (0, 0)) qh.1) : gb533 ≠ gb505)); replace qh := ky (zm (g := gb505) (o := .cells #[.int .i64 t503, .int .i64 t504] 35 (0, 0)) qh.1 hb); clear hb hbox hg; have hnb149 := NB533_464.1; have hnc149 := NB464_533.1; have hnb150 := NB533_476.1; have hnc150 := NB476_533.1; have hnb151 := NB533_488.1; have hnc151 := NB488_533.1; have hnb152 := NB533_505.1; have hnc152 := NB505_533.1; have hcz153_0 : w148.cell? ⟨gb533, 0, none⟩ = some (.int .i64 0) := (zi qB.1 0).trans rfl; have hcz153_1 : w148.cell? ⟨gb533, 1, none⟩ = some (.int .i64 0) := (zi qB.1 1).trans rfl; have hfz153_0 := zs qB.1 0; have hfz153_1 := zs qB.1 1) | ((with_reducible refine zG (f := 20) rfl ?_); refine zS (some 166) rfl rfl Try.func20 (by kernel_rfl) rfl #[.string t527, .int .i64 t528] rfl (by (try simp only [ke, kd, kc]); rfl) ?_; (with_reducible refine (spec_TakePrefix.calls kj72 t527 t528 t534 t535 t536 t537 _ A143.1).mono ?_); rintro e w154 ⟨rfl, hb⟩; refine ⟨_, rfl, ?_⟩; replace zZ := ky (zm (g := gb464) (o := .cells #[.int .i64 t452, .slice Ao11 t453.length co11, .int .i64 t456, .int .i64 t457, .int .i64 t458, .slice Ao12 t459.length co12] 27 (0, 0)) (by refine zq ?_ NB464_533.1 _; refine zq ?_ NB464_533.1 _; exact zZ.1) hb); replace zY := ky (zm (g := gb476) (o := .cells #[.int .i64 t465, .slice Ao17 t466.length co17, .int .i64 t469, .int .i64 t470, .int .i64 t471, .slice Ao18 t472.length co18] 27 (0, 0)) (by refine zq ?_ NB476_533.1 _; refine zq ?_ NB476_533.1 _; exact zY.1) hb); replace qg := ky (zm (g := gb488) (o := .cells #[.int .i64 t477, .slice Ao25 t478.length co25, .int .i64 t481, .int .i64 t482, .int .i64 t483, .slice Ao26 t484.length co26] 27 (0, 0)) (by refine zq ?_ NB488_533.1 _; refine zq ?_ NB488_533.1 _; exact qg.1) hb); replace qh := ky (zm (g := gb505) (o := .cells #[.int .i64 t503, .int .i64 t504] 35 (0, 0)) (by refine zq ?_ NB505_533.1 _; refine zq ?_ NB505_533.1 _; exact qh.1) hb); replace qB := ky (zm (g := gb533) (o := .cells #[.int .i64 t529, .int .i64 t530] 35 (0, 0)) (by refine zD (cs := #[.int .i64 t529, .int .i64 0]) ?_ 1 _ rfl; refine zD (cs := #[.int .i64 0, .int .i64 0]) ?_ 0 _ rfl; exact qB.1) hb); replace HB := ky (zA (by repeat ((with_reducible first | exact HB.1 | refine zh ?_ qP.1))) hb); (try clear hb); (try clear hb2); (try clear hk); (try clear hi)) | ((with_reducible refine zR (N := 27) rfl ?_); (try (refine zN (by rfl) ?_; dsimp only)); refine zP ?hg (N := 27) ?hd (cs := #[.int .i64 0, .int .i64 0]) (t := 35) ?hr ?_; (case hd => rfl); (case hg => rfl); (case hr => (go_simp; done)); intro gb538 hg w155 hbox hb; have BK538 := ky hbox; have GE538 := ky ((by rw [hg]; exact (zE HB.1) : w.heap.size ≤ gb538)); replace HB := ky (zA HB.1 hb); have NB464_538 := ky ((by rw [hg]; exact kg (zy (g := gb464) (o := .cells #[.int .i64 t452, .slice Ao11 t453.length co11, .int .i64 t456, .int .i64 t457, .int .i64 t458, .slice Ao12 t459.length co12] 27 (0, 0)) zZ.1) : gb464 ≠ gb538)); have NB538_464 := ky ((by rw [hg]; exact kf (zy (g := gb464) (o := .cells #[.int .i64 t452, .slice Ao11 t453.length co11, .int .i64 t456, .int .i64 t457, .int .i64 t458, .slice Ao12 t459.length co12] 27 (0, 0)) zZ.1) : gb538 ≠ gb464)); have NB476_538 := ky ((by rw [hg]; exact kg (zy (g := gb476) (o := .cells #[.int .i64 t465, .slice Ao17 t466.length co17, .int .i64 t469, .int .i64 t470, .int .i64 t471, .slice Ao18 t472.length co18] 27 (0, 0)) zY.1) : gb476 ≠ gb538)); have NB538_476 := ky ((by rw [hg]; exact kf (zy (g := gb476) (o := .cells #[.int .i64 t465, .slice Ao17 t466.length co17, .int .i64 t469, .int .i64 t470, .int .i64 t471, .slice Ao18 t472.length co18] 27 (0, 0)) zY.1) : gb538 ≠ gb476)); have NB488_538 := ky ((by rw [hg]; exact kg (zy (g := gb488) (o := .cells #[.int .i64 t477, .slice Ao25 t478.length co25, .int .i64 t481, .int .i64 t482, .int .i64 t483, .slice Ao26 t484.length co26] 27 (0, 0)) qg.1) : gb488 ≠ gb538)); have NB538_488 := ky ((by rw [hg]; exact kf (zy (g := gb488) (o := .cells #[.int .i64 t477, .slice Ao25 t478.length co25, .int .i64 t481, .int .i64 t482, .int .i64 t483, .slice Ao26 t484.length co26] 27 (0, 0)) qg.1) : gb538 ≠ gb488)); have NB505_538 := ky ((by rw [hg]; exact kg (zy (g := gb505) (o := .cells #[.int .i64 t503, .int .i64 t504] 35 (0, 0)) qh.1) : gb505 ≠ gb538)); have NB538_505 := ky ((by rw [hg]; exact kf (zy (g := gb505) (o := .cells #[.int .i64 t503, .int .i64 t504] 35 (0, 0)) qh.1) : gb538 ≠ gb505)); have NB533_538 := ky ((by rw [hg]; exact kg (zy (g := gb533) (o := .cells #[.int .i64 t529, .int .i64 t530] 35 (0, 0)) qB.1) : gb533 ≠ gb538)); have NB538_533 := ky ((by rw [hg]; exact kf (zy (g := gb533) (o := .cells #[.int .i64 t529, .int .i64 t530] 35 (0, 0)) qB.1) : gb538 ≠ gb533)); replace qB := ky (zm (g := gb533) (o := .cells #[.int .i64 t529, .int .i64 t530] 35 (0, 0)) qB.1 hb); clear hb hbox hg; have hnb156 := NB538_464.1; have hnc156 := NB464_538.1; have hnb157 := NB538_476.1; have hnc157 := NB476_538.1; have hnb158 := NB538_488.1; have hnc158 := NB488_538.1; have hnb159 := NB538_505.1; have hnc159 := NB505_538.1; have hnb160 := NB538_533.1; have hnc160 := NB533_538.1; have hcz161_0 : w155.cell? ⟨gb538, 0, none⟩ = some (.int .i64 0) := (zi BK538.1 0).trans rfl; have hcz161_1 : w155.cell? ⟨gb538, 1, none⟩ = some (.int .i64 0) := (zi BK538.1 1).trans rfl; have hfz161_0 := zs BK538.1 0; have hfz161_1 := zs BK538.1 1; have hcz162_0 : w155.cell? ⟨gb533, 0, none⟩ = some (.int .i64 t529) := (zi qB.1 0).trans rfl; have hcz162_1 : w155.cell? ⟨gb533, 1, none⟩ = some (.int .i64 t530) := (zi qB.1 1).trans rfl; have hfz162_0 := zs qB.1 0; have hfz162_1 := zs qB.1 1))
             go_ret
             exact ⟨by rfl, by repeat ((with_reducible first | exact HB.1 | refine zh ?_ GE538.1))⟩
            ·
             rw [if_neg c145] at H
             have c145b0 : (t529 == t534 && (t530 == t535)) = false := by simpa using c145
             (try (have c145b1 : decide (t529 = t534 && (t530 == t535)) = false := by simpa using c145))
             (try (have c145b2 : (t529 == t534 && (t530 == t535)) = false := by simpa using c145))
             (try (have c145b3 : ¬ (t529 = t534 && (t530 == t535)) := by simpa using c145))
             clear c145
             obtain rfl := kx H
             cases hT
           ·
            rw [if_neg c144] at H
            have c144b0 : (t532 == t537) = false := by simpa using c144
            (try (have c144b1 : decide (t532 = t537) = false := by simpa using c144))
            (try (have c144b2 : (t532 == t537) = false := by simpa using c144))
            (try (have c144b3 : ¬ (t532 = t537) := by simpa using c144))
            clear c144
            obtain rfl := kx H
            cases hT

/-- THE ONE PURE STATEMENT of laws_FnPrepend: yours. -/
def laws_FnPrepend.Pure : Prop := ∀ (l0 : List Int) (l1 : List Int), l0.length ≤ maxLen → l0.length * 1 ≤ 140737488351232 → (∀ x ∈ l0, (Lit.int .u8 x).wf = true) → l1.length ≤ maxLen → l1.length * 1 ≤ 140737488351232 → (∀ x ∈ l1, (Lit.int .u8 x).wf = true) → ∃ k, laws_FnPrepend.f k l0 l1 = some true
theorem laws_FnPrepend.walk (P : laws_FnPrepend.Pure) (a0 : Option Addr) (len0 cap0 : Nat) (z0 : List Int) (a1 : Option Addr) (len1 cap1 : Nat) (z1 : List Int) (w : World) (w0 : (a0 = none ∧ len0 = 0 ∧ cap0 = 0 ∧ z0 = []) ∨ ∃ x, a0 = some x ∧ len0 ≤ cap0 ∧ cap0 ≤ maxLen ∧ z0.length = cap0 ∧ (∀ i, i < z0.length → w.cell? (x.add i) = some (.int .u8 (z0.getD i 0))) ∧ ∀ n ∈ z0, (Lit.int .u8 n).wf = true) (y0 : len0 * 1 ≤ 140737488351232) (w1 : (a1 = none ∧ len1 = 0 ∧ cap1 = 0 ∧ z1 = []) ∨ ∃ x, a1 = some x ∧ len1 ≤ cap1 ∧ cap1 ≤ maxLen ∧ z1.length = cap1 ∧ (∀ i, i < z1.length → w.cell? (x.add i) = some (.int .u8 (z1.getD i 0))) ∧ ∀ n ∈ z1, (Lit.int .u8 n).wf = true) (y1 : len1 * 1 ≤ 140737488351232) :
  Calls Try.prog 10 #[.slice a0 len0 cap0, .slice a1 len1 cap1] w fun e w' => e = .returned (.bool true) ∧ Below w.heap.size w w' := by
 obtain ⟨l0, rfl, hr0, hm0, hw0, hc0⟩ := ReadsInt.ofRowC w0
 obtain ⟨l1, rfl, hr1, hm1, hw1, hc1⟩ := ReadsInt.ofRowC w1
 obtain ⟨k, h⟩ := P l0 l1 hm0 y0 hw0 hm1 y1 hw1
 refine (laws_FnPrepend.calls k _ _ l0 _ _ l1 true w (Kd.C_of_reads (d := (0 : Int)) (h1 := fun _ => rfl) hr0) hc0 (Kd.C_of_reads (d := (0 : Int)) (h1 := fun _ => rfl) hr1) hc1 rfl h).mono ?_
 rintro e w' ⟨rfl, hd⟩
 exact ⟨rfl, hd⟩

end Go.Proofs.Ytlnfcobloolnnaa.PFnPrepend
