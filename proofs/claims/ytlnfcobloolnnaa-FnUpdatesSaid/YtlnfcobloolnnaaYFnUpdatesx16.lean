/- Go functions told by Lean functions, printed by a program. No condition but what each statement says. -/
import Derived.Test.YtlnfcobloolnnaaYFnUpdatesx0
namespace Go.Proofs.Ytlnfcobloolnnaa.PFnUpdates
open Go.RowKit Go.Proofs.YtlnfcobloolnnaaW.PrintWords Go.Proofs.YtlnfcobloolnnaaW.PrintLast Go.Proofs.YtlnfcobloolnnaaW.PrintMore
open Aside0 renaming mk → kz
open Option.some renaming injEq → ky
open Option renaming bind_eq_some_iff → kj
open Int renaming tdiv → kk
open Try renaming underlying35 → kv
open List renaming map_toArray → kh, map_cons → kg
set_option maxHeartbeats 8000000
set_option maxRecDepth 100000
open Go.Proofs.YtlnfcobloolnnaaW.PrintLast renaming i64_w → zA
open Go.Proofs.YtlnfcobloolnnaaW.PrintWords renaming blk_frozen → za, pw_below_drewN → zc, below_set → zd, keep_drewN → ze, Aside0 → zm, blk_cell → zn, keep_far → zo, blk_put → zv, KeepBut → zy, blk_far → zz
open Go.Proofs.YtlnfcobloolnnaaW.PrintWords.KeepBut renaming set_ → zb, trans → zr
open Go.Proofs.YtlnfcobloolnnaaW.PrintWords.LeO renaming bind → zq, ite → zs, refl → zx
attribute [local go_sem] max2_int min2_int max_two min_two max_three min_three max_four min_four
set_option linter.unusedVariables false
set_option linter.unusedSimpArgs false
/-- A state of type 85 at block g of W; what its slices lead to came in by w0. -/
def IsS85 (w0 W : World) (g : Nat) (f0 : ByteArray) (f1 : Int) (f2 : Int) : Prop := W.heap[g]? = some (.cells #[.string f0, .int .i64 f1, .int .i64 f2] 85 (0, 0)) ∧ w0.heap.size ≤ g
theorem IsS85.grown {w0 W : World} {g : Nat} {f0 : ByteArray} {f1 : Int} {f2 : Int} {W1 : World} {row : Option Nat} (h : IsS85 w0 W g f0 f1 f2) (hw : W.grownBy W1 row) (hne : some g ≠ row) : IsS85 w0 W1 g f0 f1 f2 := by
 obtain ⟨hb, hg⟩ := h; exact ⟨blk_grown hb hw hne, hg⟩
theorem IsS85.below {w0 W : World} {g : Nat} {f0 : ByteArray} {f1 : Int} {f2 : Int} {W1 : World} (h : IsS85 w0 W g f0 f1 f2) (hw : Below W.heap.size W W1) : IsS85 w0 W1 g f0 f1 f2 := h.grown (grown_of_below hw none) (by simp)
theorem IsS85.drewN {w0 W : World} {g : Nat} {f0 : ByteArray} {f1 : Int} {f2 : Int} (h : IsS85 w0 W g f0 f1 f2) (m : Nat) : IsS85 w0 (W.drewN m) g f0 f1 f2 := h
theorem IsS85.apart {w0 W : World} {g : Nat} {f0 : ByteArray} {f1 : Int} {f2 : Int} {α : Type} {d : Kd α} {e : Nat} {base : Nat} {ok : Nat → Prop} {v : Value} {xs : List α} (h : IsS85 w0 W g f0 f1 f2) (ho : d.R e W base ok v xs) (ht : ∀ q, q ∈ e :: d.E → q ≠ 85) : d.R e W base (fun k => ok k ∧ k ≠ g) v xs := by
 obtain ⟨hb, hg⟩ := h; exact Kd.R_types ho hb ht
theorem IsS85.own_ne {w0 W : World} {g : Nat} {f0 : ByteArray} {f1 : Int} {f2 : Int} {α : Type} {d : Kd α} {e : Nat} {base : Nat} {ok : Nat → Prop} {v : Value} {xs : List α} (h : IsS85 w0 W g f0 f1 f2) (ho : d.R e W base ok v xs) (ht : e ≠ 85) : some g ≠ v.ownBlock := by
 obtain ⟨hb, hg⟩ := h; exact Kd.R_ne ho hb ht
theorem IsS85.lt {w0 W : World} {g : Nat} {f0 : ByteArray} {f1 : Int} {f2 : Int} (h : IsS85 w0 W g f0 f1 f2) : g < W.heap.size := by
 obtain ⟨hb, hg⟩ := h; exact blk_lt hb
theorem IsS85.ge {w0 W : World} {g : Nat} {f0 : ByteArray} {f1 : Int} {f2 : Int} (h : IsS85 w0 W g f0 f1 f2) : w0.heap.size ≤ g := by
 obtain ⟨hb, hg⟩ := h; exact hg
theorem IsS85.far {w0 W : World} {g : Nat} {f0 : ByteArray} {f1 : Int} {f2 : Int} {p : Addr} (h : IsS85 w0 W g f0 f1 f2) (hne : g ≠ p.block) (u : Value) : IsS85 w0 (W.setCell p u) g f0 f1 f2 := by
 obtain ⟨hb, hg⟩ := h; exact ⟨zz hb hne u, hg⟩
theorem cellS85_0 {W : World} {g : Nat} {f0 : ByteArray} {f1 : Int} {f2 : Int} (h : W.heap[g]? = some (.cells #[.string f0, .int .i64 f1, .int .i64 f2] 85 (0, 0))) : W.cell? ⟨g, 0, none⟩ = some (.string f0) := (zn h 0).trans rfl
theorem cellS85_1 {W : World} {g : Nat} {f0 : ByteArray} {f1 : Int} {f2 : Int} (h : W.heap[g]? = some (.cells #[.string f0, .int .i64 f1, .int .i64 f2] 85 (0, 0))) : W.cell? ⟨g, 1, none⟩ = some (.int .i64 f1) := (zn h 1).trans rfl
theorem IsS85.set_1 {w0 W : World} {g : Nat} {f0 : ByteArray} {f1 : Int} {f2 : Int} (h : IsS85 w0 W g f0 f1 f2) (x : Int) : IsS85 w0 (W.setCell ⟨g, 1, none⟩ (.int .i64 x)) g f0 x f2 := by
 obtain ⟨hb, hg⟩ := h; exact ⟨by simpa using blk_set hb 1 (.int .i64 x), hg⟩
theorem cellS85_2 {W : World} {g : Nat} {f0 : ByteArray} {f1 : Int} {f2 : Int} (h : W.heap[g]? = some (.cells #[.string f0, .int .i64 f1, .int .i64 f2] 85 (0, 0))) : W.cell? ⟨g, 2, none⟩ = some (.int .i64 f2) := (zn h 2).trans rfl
theorem IsS85.set_2 {w0 W : World} {g : Nat} {f0 : ByteArray} {f1 : Int} {f2 : Int} (h : IsS85 w0 W g f0 f1 f2) (x : Int) : IsS85 w0 (W.setCell ⟨g, 2, none⟩ (.int .i64 x)) g f0 f1 x := by
 obtain ⟨hb, hg⟩ := h; exact ⟨by simpa using blk_set hb 2 (.int .i64 x), hg⟩
/-! ### impl_input_number: function 85 -/
mutual
def impl_input_number.j0 : Nat → Int → Bool → ByteArray → Int → Int → Option (Int × ByteArray × Int × Int)
 | 0, _, _, _, _, _ => none
 | k + 1, x1, x24, zH, zG, zK => if x24 = true then (impl_input_number.j1 k x1 zH zG 1) else (impl_input_number.j1 k x1 zH zG zK)
def impl_input_number.j1 : Nat → Int → ByteArray → Int → Int → Option (Int × ByteArray × Int × Int)
 | 0, _, _, _, _ => none
 | k + 1, x1, zH, zG, zK => if zK = 0 then (impl_input_number.l0 k 0 x1 0 zH zG zK) else (some (0, zH, zG, zK))
def impl_input_number.l0 : Nat → Int → Int → Int → ByteArray → Int → Int → Option (Int × ByteArray × Int × Int)
 | 0, _, _, _, _, _, _ => none
 | k + 1, x5, x33, x34, zH, zG, zK => if x34 < x33 then (if 0 ≤ zG then (if zG < (zH.size : Int) then (impl_input_number.l0 k (Go.bits .or .i64 (wrap64 (x5 * 256)) (wrap64 (bt zH zG))) x33 (wrap64 (x34 + 1)) zH (wrap64 (zG + 1)) zK) else (none)) else (none)) else (some (x5, zH, zG, zK))
end
def impl_input_number.f (k : Nat) (s0_0 : ByteArray) (s0_1 : Int) (s0_2 : Int) (a1 : Int) : Option (Int × ByteArray × Int × Int) := if s0_2 = 0 then (impl_input_number.j0 k a1 (decide ((wrap64 (s0_1 + a1)) > (s0_0.size : Int))) s0_0 s0_1 s0_2) else (impl_input_number.j0 k a1 false s0_0 s0_1 s0_2)
theorem impl_input_number.mono_l : ∀ k, (∀ y0 y1 y2 y3 y4, LeO (impl_input_number.j0 k y0 y1 y2 y3 y4) (impl_input_number.j0 (k + 1) y0 y1 y2 y3 y4)) ∧ (∀ y0 y1 y2 y3, LeO (impl_input_number.j1 k y0 y1 y2 y3) (impl_input_number.j1 (k + 1) y0 y1 y2 y3)) ∧ (∀ y0 y1 y2 y3 y4 y5, LeO (impl_input_number.l0 k y0 y1 y2 y3 y4 y5) (impl_input_number.l0 (k + 1) y0 y1 y2 y3 y4 y5))
 | 0 => ⟨fun _ _ _ _ _ r h => by simp [impl_input_number.j0] at h, fun _ _ _ _ r h => by simp [impl_input_number.j1] at h, fun _ _ _ _ _ _ r h => by simp [impl_input_number.l0] at h⟩
 | k + 1 => by
  obtain ⟨ih0, ih1, ih2⟩ := impl_input_number.mono_l k; refine ⟨?_, ?_, ?_⟩
  ·
   intro y0 y1 y2 y3 y4; unfold impl_input_number.j0; repeat' first
   | (with_reducible exact ih1 _ _ _ _)
   | (with_reducible refine zs ?_ ?_)
  ·
   intro y0 y1 y2 y3; unfold impl_input_number.j1; repeat' first
   | (with_reducible exact ih2 _ _ _ _ _ _)
   | (with_reducible exact zx _)
   | (with_reducible refine zs ?_ ?_)
  ·
   intro y0 y1 y2 y3 y4 y5; unfold impl_input_number.l0; repeat' first
   | (with_reducible exact ih2 _ _ _ _ _ _)
   | (with_reducible exact zx _)
   | (with_reducible refine zs ?_ ?_)
theorem impl_input_number.mono : ∀ a0 a1 a2 a3 k, LeO (impl_input_number.f k a0 a1 a2 a3) (impl_input_number.f (k + 1) a0 a1 a2 a3) := by
 intro a0 a1 a2 a3 k; obtain ⟨ih0, ih1, ih2⟩ := impl_input_number.mono_l k; unfold impl_input_number.f
 repeat' first
   | (with_reducible exact ih0 _ _ _ _ _)
   | (with_reducible refine zs ?_ ?_)
theorem impl_input_number.calls (k : Nat) (g : Nat) (s0_0 : ByteArray) (s0_1 : Int) (s0_2 : Int) (a1 : Int) (r1 : Int) (r2 : ByteArray) (r3 : Int) (r4 : Int) (w0 w : World) (hI : IsS85 w0 w g s0_0 s0_1 s0_2) (hB : Below w0.heap.size w0 w) (h : impl_input_number.f k s0_0 s0_1 s0_2 a1 = some (r1, r2, r3, r4)) :
  Calls Try.prog 85 #[.pointer (some ⟨g, 0, none⟩), .int .i64 a1] w fun e w' => e = .returned (.int .i64 r1) ∧ IsS85 w0 w' g r2 r3 r4 ∧ Below w0.heap.size w0 w' ∧ zy w w' g none := by
 have HI0 := kz hI; have HK := kz (KeepBut.refl w g none); have HL := kz hB.size; clear hI; have HW0 := kz hB.size; have HB := kz hB; clear hB; have H : (if s0_2 = 0 then (impl_input_number.j0 k a1 (decide ((wrap64 (s0_1 + a1)) > (s0_0.size : Int))) s0_0 s0_1 s0_2) else (impl_input_number.j0 k a1 false s0_0 s0_1 s0_2)) = some (r1, r2, r3, r4) := h; clear h; have HC3 := kz H; clear H; go_enter Try.func85, Try.ntmps85; go_upto_region 1 with (fail)
 repeat (go_quiet (fail); go_upto_region 1 with (fail))
 go_cut [24] (fun v24 wc => ∃ (kq : Nat) (x24_2 : Bool), v24 = .bool x24_2 ∧ zm (impl_input_number.j0 kq a1 x24_2 s0_0 s0_1 s0_2 = some (r1, r2, r3, r4)) ∧ zm (kq ≤ k) ∧ zm (IsS85 w0 wc g s0_0 s0_1 s0_2) ∧ zm (zy w wc g none) ∧ zm (Below w0.heap.size w0 wc))
 case first =>
  have H := HC3.1; clear HC3; by_cases c4 : s0_2 = 0
  ·
   rw [if_pos c4] at H; have c4b0 : (s0_2 == 0) = true := beq_iff_eq.mpr c4; have c4b1 : (s0_2 != 0) = false := bne_eq_false_iff_eq.mpr c4; clear c4; skip; have H' := kz H; clear H; obtain ⟨HGz5, hgz5⟩ := HI0.1; have hcz5_0 := cellS85_0 HGz5; have hcz5_1 := cellS85_1 HGz5; have hcz5_2 := cellS85_2 HGz5; have hfz5_0 := za HGz5 0; have hfz5_1 := za HGz5 1; have hfz5_2 := za HGz5 2; clear HGz5 hgz5; go_wp2; repeat (go_quiet (fail); try go_wp2)
   go_meet; case rel => exact ⟨_, (decide ((wrap64 (s0_1 + a1)) > (s0_0.size : Int))), (by rfl), H', ⟨by omega⟩, ⟨by repeat ((with_reducible first | exact HI0.1 | apply IsS85.drewN))⟩, ⟨by repeat ((with_reducible first | exact HK.1 | apply ze))⟩, ⟨by repeat ((with_reducible first | exact HB.1 | apply zc))⟩⟩
  ·
   rw [if_neg c4] at H; have c4b0 : (s0_2 == 0) = false := beq_eq_false_iff_ne.mpr c4; have c4b1 : (s0_2 != 0) = true := bne_iff_ne.mpr c4; skip; have H' := kz H; clear H; obtain ⟨HGz6, hgz6⟩ := HI0.1; have hcz6_0 := cellS85_0 HGz6; have hcz6_1 := cellS85_1 HGz6; have hcz6_2 := cellS85_2 HGz6; have hfz6_0 := za HGz6 0; have hfz6_1 := za HGz6 1; have hfz6_2 := za HGz6 2; clear HGz6 hgz6; go_wp2; repeat (go_quiet (fail); try go_wp2)
   go_meet; case rel => exact ⟨_, (false), (by rfl), H', ⟨by omega⟩, ⟨by repeat ((with_reducible first | exact HI0.1 | apply IsS85.drewN))⟩, ⟨by repeat ((with_reducible first | exact HK.1 | apply ze))⟩, ⟨by repeat ((with_reducible first | exact HB.1 | apply zc))⟩⟩
 case rest =>
  clear HC3; obtain ⟨kq, x24_2, rfl, HA, HJ2, HI0, HK, HB⟩ := hcut; cases kq with
  | zero => exact absurd HA.1 (by simp [impl_input_number.j0])
  | succ kj2 =>
   have H := HA.1; clear HA; simp only [impl_input_number.j0] at H; have HC7 := kz H; clear H; go_upto_if 24 with (fail)
   repeat (go_quiet (fail); go_upto_if 24 with (fail))
   go_cut [] (fun wc => ∃ (kq : Nat) (zI : Int), zm (impl_input_number.j1 kq a1 s0_0 s0_1 zI = some (r1, r2, r3, r4)) ∧ zm (kq ≤ kj2) ∧ zm (IsS85 w0 wc g s0_0 s0_1 zI) ∧ zm (zy w wc g none) ∧ zm (Below w0.heap.size w0 wc))
   case first =>
    have H := HC7.1; clear HC7; by_cases c8 : x24_2 = true
    ·
     subst c8; rw [if_pos rfl] at H; have H' := kz H; clear H; obtain ⟨HGz9, hgz9⟩ := HI0.1; have hcz9_0 := cellS85_0 HGz9; have hcz9_1 := cellS85_1 HGz9; have hcz9_2 := cellS85_2 HGz9; have hfz9_0 := za HGz9 0; have hfz9_1 := za HGz9 1; have hfz9_2 := za HGz9 2; clear HGz9 hgz9; go_wp2; repeat (go_quiet (fail); try go_wp2)
     go_meet; case rel => exact ⟨_, (1), H', ⟨by have := HJ2.1; omega⟩, ⟨by repeat ((with_reducible first | exact HI0.1 | apply IsS85.set_2))⟩, ⟨by repeat ((with_reducible first | exact HK.1 | apply zb))⟩, ⟨by repeat ((with_reducible first | exact HB.1 | refine zd ?_ (IsS85.ge HI0.1)))⟩⟩
    ·
     replace c8 := Bool.eq_false_iff.mpr c8; subst c8; rw [if_neg (show ¬ (false = true) by decide)] at H; have H' := kz H; clear H; go_wp2; repeat (go_quiet (fail); try go_wp2)
     go_meet; case rel => exact ⟨_, (s0_2), H', ⟨by have := HJ2.1; omega⟩, ⟨by exact HI0.1⟩, ⟨by exact HK.1⟩, ⟨by exact HB.1⟩⟩
   case rest =>
    clear HC7; obtain ⟨kq, zI, HA, HJ6, HI0, HK, HB⟩ := hcut; cases kq with
    | zero => exact absurd HA.1 (by simp [impl_input_number.j1])
    | succ kj6 =>
     have H := HA.1; clear HA; simp only [impl_input_number.j1] at H; by_cases c10 : zI = 0
     ·
      rw [if_pos c10] at H; have c10b0 : (zI == 0) = true := beq_iff_eq.mpr c10; have c10b1 : (zI != 0) = false := bne_eq_false_iff_eq.mpr c10; clear c10; have H' := kz H; clear H; obtain ⟨HGz11, hgz11⟩ := HI0.1; have hcz11_0 := cellS85_0 HGz11; have hcz11_1 := cellS85_1 HGz11; have hcz11_2 := cellS85_2 HGz11; have hfz11_0 := za HGz11 0; have hfz11_1 := za HGz11 1; have hfz11_2 := za HGz11 2; clear HGz11 hgz11; go_wp2; repeat (go_quiet (fail); try go_wp2)
      go_loopg [5, 34] kj6 (fun kq v5 v34 w' => ∃ (x5_3 : Int) (zS : Int) (zF : Int), v5 = .int .i64 x5_3 ∧ v34 = .int .i64 zS ∧ zm (impl_input_number.l0 kq x5_3 a1 zS s0_0 zF zI = some (r1, r2, r3, r4)) ∧ zm (kq ≤ kj6) ∧ zm (IsS85 w0 w' g s0_0 zF zI) ∧ zm (zy w w' g none) ∧ zm (Below w0.heap.size w0 w')); case atStart => exact ⟨(0), (0), (s0_1), (by rfl), (by rfl), H', ⟨Nat.le_refl _⟩, ⟨by exact HI0.1⟩, ⟨by exact HK.1⟩, ⟨by exact HB.1⟩⟩
      case round =>
       clear H'; obtain ⟨x5_3, zS, zF, rfl, rfl, HA, HK3, HI0, HK, HB⟩ := hrel; cases gk with
       | zero => exact absurd HA.1 (by simp [impl_input_number.l0])
       | succ k3 =>
        have H := HA.1; clear HA; simp only [impl_input_number.l0] at H; by_cases c12 : zS < a1
        ·
         rw [if_pos c12] at H; have c12b0 := decide_eq_true c12; clear c12; by_cases c13 : 0 ≤ zF
         ·
          rw [if_pos c13] at H; have c13b0 := decide_eq_true c13; clear c13; by_cases c14 : zF < (s0_0.size : Int)
          ·
           rw [if_pos c14] at H; have c14b0 := decide_eq_true c14; clear c14; have H' := kz H; clear H; obtain ⟨HGz16, hgz16⟩ := HI0.1; have hcz16_0 := cellS85_0 HGz16; have hcz16_1 := cellS85_1 HGz16; have hcz16_2 := cellS85_2 HGz16; have hfz16_0 := za HGz16 0; have hfz16_1 := za HGz16 1; have hfz16_2 := za HGz16 2; clear HGz16 hgz16; have p15 : 0 ≤ (zF : Int) := of_decide_eq_true (by (with_reducible assumption)); have q15 : zF < (s0_0.size : Int) := of_decide_eq_true (by (with_reducible assumption)); have hx15 := bt_at s0_0 zF; replace p15 := eq_true p15; replace q15 := eq_true q15; go_wp2; repeat (go_quiet (fail); try go_wp2)
           go_roundg k3; case measure => have := HJ2.1; have := HJ6.1; have := HK3.1; omega
           case rel => exact ⟨(Go.bits .or .i64 (wrap64 (x5_3 * 256)) (wrap64 (bt s0_0 zF))), (wrap64 (zS + 1)), (wrap64 (zF + 1)), (by rfl), (by rfl), H', ⟨by have := HJ2.1; have := HJ6.1; have := HK3.1; omega⟩, ⟨by repeat ((with_reducible first | exact HI0.1 | apply IsS85.drewN | apply IsS85.set_1))⟩, ⟨by repeat ((with_reducible first | exact HK.1 | apply zb | apply ze))⟩, ⟨by repeat ((with_reducible first | exact HB.1 | apply zc | refine zd ?_ (IsS85.ge HI0.1)))⟩⟩
          · rw [if_neg c14] at H; exact absurd H (by simp)
         · rw [if_neg c13] at H; exact absurd H (by simp)
        ·
         rw [if_neg c12] at H; have c12b0 := decide_eq_false c12; clear c12; simp only [ky, Prod.mk.injEq] at H; obtain ⟨rfl, rfl, rfl, rfl⟩ := H; go_wp2; repeat (go_quiet (fail); try go_wp2)
         go_ret; exact ⟨by rfl, by exact HI0.1, by exact HB.1, by exact HK.1⟩
     ·
      rw [if_neg c10] at H; have c10b0 : (zI == 0) = false := beq_eq_false_iff_ne.mpr c10; have c10b1 : (zI != 0) = true := bne_iff_ne.mpr c10; simp only [ky, Prod.mk.injEq] at H; obtain ⟨rfl, rfl, rfl, rfl⟩ := H; obtain ⟨HGz17, hgz17⟩ := HI0.1; have hcz17_0 := cellS85_0 HGz17; have hcz17_1 := cellS85_1 HGz17; have hcz17_2 := cellS85_2 HGz17; have hfz17_0 := za HGz17 0; have hfz17_1 := za HGz17 1; have hfz17_2 := za HGz17 2; clear HGz17 hgz17; go_wp2; repeat (go_quiet (fail); try go_wp2)
      go_ret; exact ⟨by rfl, by exact HI0.1, by exact HB.1, by exact HK.1⟩
/-! ### impl_input_prefix: function 61 -/
def impl_input_prefix.j0 : Nat → Bool → ByteArray → Int → Int → Int → Int → Option (Int × Int × ByteArray × Int × Int)
 | 0, _, _, _, _, _, _ => none
 | k + 1, x17, zH, zG, zK, x330000, x330001 => if x17 = true then (some (0, 0, zH, zG, 3)) else (if zK = 0 then ((impl_input_number.f k zH zG zK (wrap64 (kk (wrap64 (x330001 + 7)) 8))).bind fun bt330 => (if 0 ≤ (wrap64 (32 - (wrap64 (8 * (wrap64 (kk (wrap64 (x330001 + 7)) 8)))))) then (some (shl .i64 bt330.1 (wrap64 (32 - (wrap64 (8 * (wrap64 (kk (wrap64 (x330001 + 7)) 8)))))), x330001, bt330.2.1, bt330.2.2.1, bt330.2.2.2)) else (none))) else (some (0, 0, zH, zG, zK)))
def impl_input_prefix.f (k : Nat) (s0_0 : ByteArray) (s0_1 : Int) (s0_2 : Int) : Option (Int × Int × ByteArray × Int × Int) := (impl_input_number.f k s0_0 s0_1 s0_2 1).bind fun bt325 => (if bt325.2.2.2 = 0 then (impl_input_prefix.j0 k (decide (bt325.1 > 32)) bt325.2.1 bt325.2.2.1 bt325.2.2.2 0 bt325.1) else (impl_input_prefix.j0 k false bt325.2.1 bt325.2.2.1 bt325.2.2.2 0 bt325.1))
theorem impl_input_prefix.mono_l : ∀ k, (∀ y0 y1 y2 y3 y4 y5, LeO (impl_input_prefix.j0 k y0 y1 y2 y3 y4 y5) (impl_input_prefix.j0 (k + 1) y0 y1 y2 y3 y4 y5))
 | 0 => fun _ _ _ _ _ _ r h => by simp [impl_input_prefix.j0] at h
 | k + 1 => by
  have ih0 := impl_input_prefix.mono_l k
  ·
   intro y0 y1 y2 y3 y4 y5; unfold impl_input_prefix.j0; repeat' first
   | (with_reducible exact impl_input_number.mono _ _ _ _ _)
   | (with_reducible exact zx _)
   | (with_reducible refine zs ?_ ?_)
   | (with_reducible refine zq ?_ (fun _ => ?_))
theorem impl_input_prefix.mono : ∀ a0 a1 a2 k, LeO (impl_input_prefix.f k a0 a1 a2) (impl_input_prefix.f (k + 1) a0 a1 a2) := by
 intro a0 a1 a2 k; have ih0 := impl_input_prefix.mono_l k; unfold impl_input_prefix.f
 repeat' first
   | (with_reducible exact ih0 _ _ _ _ _ _)
   | (with_reducible exact impl_input_number.mono _ _ _ _ _)
   | (with_reducible refine zs ?_ ?_)
   | (with_reducible refine zq ?_ (fun _ => ?_))
theorem impl_input_prefix.calls (k : Nat) (g : Nat) (s0_0 : ByteArray) (s0_1 : Int) (s0_2 : Int) (r1 : Int) (r2 : Int) (r3 : ByteArray) (r4 : Int) (r5 : Int) (w0 w : World) (hI : IsS85 w0 w g s0_0 s0_1 s0_2) (hB : Below w0.heap.size w0 w) (h : impl_input_prefix.f k s0_0 s0_1 s0_2 = some (r1, r2, r3, r4, r5)) :
  Calls Try.prog 61 #[.pointer (some ⟨g, 0, none⟩)] w fun e w' => e = .returned (.agg #[.int .i64 r1, .int .i64 r2]) ∧ IsS85 w0 w' g r3 r4 r5 ∧ Below w0.heap.size w0 w' ∧ zy w w' g none := by
 have hu35 := kv; have HI0 := kz hI; have HK := kz (KeepBut.refl w g none); have HL := kz hB.size; clear hI; have HW0 := kz hB.size; have HB := kz hB; clear hB; have H : ((impl_input_number.f k s0_0 s0_1 s0_2 1).bind fun bt325 => (if bt325.2.2.2 = 0 then (impl_input_prefix.j0 k (decide (bt325.1 > 32)) bt325.2.1 bt325.2.2.1 bt325.2.2.2 0 bt325.1) else (impl_input_prefix.j0 k false bt325.2.1 bt325.2.2.1 bt325.2.2.2 0 bt325.1))) = some (r1, r2, r3, r4, r5) := h; clear h; replace H := kj.mp H; obtain ⟨⟨t325, t326, t327, t328⟩, A20, H⟩ := H; have A2 := kz A20; clear A20; have HC3 := kz H; clear H; go_enter Try.func61, Try.ntmps61
 go_upto_region 2 with (first | ((with_reducible refine gate_dst (N := 2) rfl ?_); refine box_event ?hg (N := 2) ?hd (cs := #[.int .i64 0, .int .i64 0]) (t := 35) ?hr ?_; (case hd => rfl); (case hg => rfl); (case hr => (go_simp; done)); intro gb324 hg w4 hbox hb; replace HB := kz (below_step HB.1 hb); have zB := kz hbox; have zO := kz ((by rw [hg]; exact (keep_size (w := w) (g := g) (row := none) HK.1) : w.heap.size ≤ gb324)); have zR := kz ((Nat.le_trans HW0.1 (by rw [hg]; exact (keep_size (w := w) (g := g) (row := none) HK.1) : w.heap.size ≤ gb324) : w0.heap.size ≤ gb324)); replace HK := kz (zr HK.1 (KeepBut.of_below hb g none) (.inl rfl)); have zD := kz ((by rw [hg]; exact Nat.ne_of_lt (IsS85.lt (show IsS85 w0 _ g s0_0 s0_1 s0_2 from HI0.1)) : g ≠ gb324)); have zN := kz ((by rw [hg]; exact Nat.ne_of_gt (IsS85.lt (show IsS85 w0 _ g s0_0 s0_1 s0_2 from HI0.1)) : gb324 ≠ g)); replace HI0 := kz (IsS85.below HI0.1 hb); clear hb hbox hg) | ((with_reducible refine gate_callee (f := 85) rfl ?_); refine goesL_ (some 6) rfl rfl Try.func85 (by kernel_rfl) rfl #[.pointer (some ⟨g, 0, none⟩), .int .i64 1] rfl (by (try simp only [kh, kg, List.map_nil]); rfl) ?_; (with_reducible refine (impl_input_number.calls k g s0_0 s0_1 s0_2 1 t325 t326 t327 t328 w0 _ ?side1 ?side2 A2.1).mono ?_); (case side1 => repeat (with_reducible exact HI0.1)); (case side2 => repeat (with_reducible exact HB.1)); rintro e w5 ⟨rfl, hi, hb, hk⟩; refine ⟨_, rfl, ?_⟩; replace zB := kz (KeepBut.blk hk (g' := gb324) (o := .cells #[.int .i64 0, .int .i64 0] 35 (0, 0)) zB.1 zN.1 (by simp)); replace HK := kz (zr HK.1 hk (.inl rfl)); replace HB := kz hb; replace HI0 := kz hi; (try clear hi)) | ((with_reducible refine gate_dst (N := 3) rfl ?_); refine box_event ?hg (N := 3) ?hd (cs := #[.int .i64 0, .int .i64 0]) (t := 35) ?hr ?_; (case hd => rfl); (case hg => rfl); (case hr => (go_simp; done)); intro gb329 hg w6 hbox hb; replace HB := kz (below_step HB.1 hb); have zE := kz hbox; have zT := kz ((by rw [hg]; exact (keep_size (w := w) (g := g) (row := none) HK.1) : w.heap.size ≤ gb329)); have zU := kz ((Nat.le_trans HW0.1 (by rw [hg]; exact (keep_size (w := w) (g := g) (row := none) HK.1) : w.heap.size ≤ gb329) : w0.heap.size ≤ gb329)); replace HK := kz (zr HK.1 (KeepBut.of_below hb g none) (.inl rfl)); have zC := kz ((by rw [hg]; exact Nat.ne_of_lt (blk_lt (g := gb324) (o := .cells #[.int .i64 0, .int .i64 0] 35 (0, 0)) zB.1) : gb324 ≠ gb329)); have zM := kz ((by rw [hg]; exact Nat.ne_of_gt (blk_lt (g := gb324) (o := .cells #[.int .i64 0, .int .i64 0] 35 (0, 0)) zB.1) : gb329 ≠ gb324)); replace zB := kz (blk_below (g := gb324) (o := .cells #[.int .i64 0, .int .i64 0] 35 (0, 0)) zB.1 hb); have zL := kz ((by rw [hg]; exact Nat.ne_of_lt (IsS85.lt (show IsS85 w0 _ g t326 t327 t328 from HI0.1)) : g ≠ gb329)); have NB329_0 := kz ((by rw [hg]; exact Nat.ne_of_gt (IsS85.lt (show IsS85 w0 _ g t326 t327 t328 from HI0.1)) : gb329 ≠ g)); replace HI0 := kz (IsS85.below HI0.1 hb); clear hb hbox hg; have hnb7 := zM.1; have hnc7 := zC.1; have hnb8 := NB329_0.1; have hnc8 := zL.1; have hcz9_0 := bc2 zE.1))
 (try simp only [Act.put, List.setIfInBounds_toArray, List.set_cons_zero, List.set_cons_succ]); go_cut [17] (fun v17 wc => ∃ (kq : Nat) (x17_2 : Bool), v17 = .bool x17_2 ∧ zm (impl_input_prefix.j0 kq x17_2 t326 t327 t328 0 t325 = some (r1, r2, r3, r4, r5)) ∧ zm (kq ≤ k) ∧ zm (wc.heap[gb324]? = some (.cells #[.int .i64 0, .int .i64 0] 35 (0, 0))) ∧ zm (wc.heap[gb329]? = some (.cells #[.int .i64 0, .int .i64 t325] 35 (0, 0))) ∧ zm (IsS85 w0 wc g t326 t327 t328) ∧ zm (zy w wc g none) ∧ zm (Below w0.heap.size w0 wc))
 case first =>
  have H := HC3.1; clear HC3; by_cases c10 : t328 = 0; · rw [if_pos c10] at H; have c10b0 : (t328 == 0) = true := beq_iff_eq.mpr c10; have c10b1 : (t328 != 0) = false := bne_eq_false_iff_eq.mpr c10; clear c10; skip; have H' := kz H; clear H; obtain ⟨HGz11, hgz11⟩ := HI0.1; have hcz11_0 := cellS85_0 HGz11; have hcz11_1 := cellS85_1 HGz11; have hcz11_2 := cellS85_2 HGz11; have hfz11_0 := za HGz11 0; have hfz11_1 := za HGz11 1; have hfz11_2 := za HGz11 2; clear HGz11 hgz11; have hnb12 := zM.1; have hnc12 := zC.1; have hnb13 := NB329_0.1; have hnc13 := zL.1; have hcz14_0 := bc2 zE.1; go_wp2; go_meet; case rel => exact ⟨_, (decide (t325 > 32)), (by rfl), H', ⟨by omega⟩, ⟨by refine zz ?_ zC.1 _; refine zz ?_ zC.1 _; exact zB.1⟩, ⟨by refine zv (cs := #[.int .i64 0, .int .i64 0]) ?_ 1 _ rfl; refine zv (cs := #[.int .i64 0, .int .i64 0]) ?_ 0 _ rfl; exact zE.1⟩, ⟨by repeat ((with_reducible first | exact HI0.1 | refine IsS85.far ?_ zL.1 _))⟩, ⟨by repeat ((with_reducible first | exact HK.1 | refine zo ?_ zT.1 _))⟩, ⟨by repeat ((with_reducible first | exact HB.1 | refine zd ?_ zU.1))⟩⟩
  · rw [if_neg c10] at H; have c10b0 : (t328 == 0) = false := beq_eq_false_iff_ne.mpr c10; have c10b1 : (t328 != 0) = true := bne_iff_ne.mpr c10; skip; have H' := kz H; clear H; obtain ⟨HGz15, hgz15⟩ := HI0.1; have hcz15_0 := cellS85_0 HGz15; have hcz15_1 := cellS85_1 HGz15; have hcz15_2 := cellS85_2 HGz15; have hfz15_0 := za HGz15 0; have hfz15_1 := za HGz15 1; have hfz15_2 := za HGz15 2; clear HGz15 hgz15; go_wp2; go_meet; case rel => exact ⟨_, (false), (by rfl), H', ⟨by omega⟩, ⟨by refine zz ?_ zC.1 _; refine zz ?_ zC.1 _; exact zB.1⟩, ⟨by refine zv (cs := #[.int .i64 0, .int .i64 0]) ?_ 1 _ rfl; refine zv (cs := #[.int .i64 0, .int .i64 0]) ?_ 0 _ rfl; exact zE.1⟩, ⟨by repeat ((with_reducible first | exact HI0.1 | refine IsS85.far ?_ zL.1 _))⟩, ⟨by repeat ((with_reducible first | exact HK.1 | refine zo ?_ zT.1 _))⟩, ⟨by repeat ((with_reducible first | exact HB.1 | refine zd ?_ zU.1))⟩⟩
 case rest =>
  clear HC3; obtain ⟨kq, x17_2, rfl, HA, HJ2, zB, zE, HI0, HK, HB⟩ := hcut; cases kq with
  | zero => exact absurd HA.1 (by simp [impl_input_prefix.j0])
  | succ kj2 =>
   have H := HA.1; clear HA; simp only [impl_input_prefix.j0] at H; by_cases c16 : x17_2 = true
   ·
    subst c16; rw [if_pos rfl] at H; simp only [ky, Prod.mk.injEq] at H; obtain ⟨rfl, rfl, rfl, rfl, rfl⟩ := H; obtain ⟨HGz17, hgz17⟩ := HI0.1; have hcz17_0 := cellS85_0 HGz17; have hcz17_1 := cellS85_1 HGz17; have hcz17_2 := cellS85_2 HGz17; have hfz17_0 := za HGz17 0; have hfz17_1 := za HGz17 1; have hfz17_2 := za HGz17 2; clear HGz17 hgz17; have hnb18 := zC.1; have hnc18 := zM.1; have hnb19 := zN.1; have hnc19 := zD.1; have hcz20_0 := bc2 zB.1; go_wp2; refine bodyPost_ret (results_cell_row rfl _ _ gb324 35 #[.int .i64 0, .int .i64 0] (0, 0) _ rfl (by refine zv (cs := #[.int .i64 0, .int .i64 0]) ?_ 1 _ rfl; refine zv (cs := #[.int .i64 0, .int .i64 0]) ?_ 0 _ rfl; refine zz ?_ zN.1 _; exact zB.1) kv rfl (by kernel_rfl)) rfl ?_; exact ⟨by rfl, by repeat ((with_reducible first | exact HI0.1 | apply IsS85.set_2 | refine IsS85.far ?_ zD.1 _)), by repeat ((with_reducible first | exact HB.1 | refine zd ?_ (IsS85.ge HI0.1) | refine zd ?_ zR.1)), by repeat ((with_reducible first | exact HK.1 | apply zb | refine zo ?_ zO.1 _))⟩
   ·
    replace c16 := Bool.eq_false_iff.mpr c16; subst c16; rw [if_neg (show ¬ (false = true) by decide)] at H; by_cases c21 : t328 = 0
    ·
     rw [if_pos c21] at H; have c21b0 : (t328 == 0) = true := beq_iff_eq.mpr c21; have c21b1 : (t328 != 0) = false := bne_eq_false_iff_eq.mpr c21; clear c21; replace H := kj.mp H; obtain ⟨⟨t330, t331, t332, t333⟩, A220, H⟩ := H; have A22 := kz A220; clear A220; obtain ⟨ji23, hji23⟩ : ∃ j_ : Int, (wrap64 (32 - (wrap64 (8 * (wrap64 (kk (wrap64 (t325 + 7)) 8)))))) = j_ := ⟨_, rfl⟩
     replace H : (if 0 ≤ (ji23) then (some (shl .i64 t330 (ji23), t325, t331, t332, t333)) else (none)) = some (r1, r2, r3, r4, r5) := by (rw [hji23] at H; exact H)
     (try rw [hji23] at A22); have hji23w : (IntKind.i64.wrap (32 - (wrap64 (8 * (wrap64 (kk (wrap64 (t325 + 7)) 8)))))) = ji23 := (zA _).trans hji23; by_cases c24 : 0 ≤ (ji23)
     ·
      rw [if_pos c24] at H; have c24b0 := eq_true c24; have c24b1 : decide (0 ≤ (ji23)) = true := decide_eq_true c24; clear c24; obtain ⟨ji25, hji25⟩ : ∃ j_ : Int, (shl .i64 t330 (ji23)) = j_ := ⟨_, rfl⟩
      replace H : (some (ji25, t325, t331, t332, t333)) = some (r1, r2, r3, r4, r5) := by (rw [hji25] at H; exact H)
      (try rw [hji25] at A22); have hji25_ : (IntKind.i64.wrap (t330 * 2 ^ min (ji23).toNat 64)) = ji25 := hji25; have hji25z : (ji23) ≤ 64 → (IntKind.i64.wrap (t330 * 2 ^ (ji23).toNat)) = ji25 := shl_small hji25; have hji25y : (wrap64 (t330 * 2 ^ min (ji23).toNat 64)) = ji25 := (zA _).symm.trans hji25_; have hji25x : (ji23) ≤ 64 → (wrap64 (t330 * 2 ^ (ji23).toNat)) = ji25 := fun h_ => (zA _).symm.trans (hji25z h_)
      simp only [ky, Prod.mk.injEq] at H; obtain ⟨rfl, rfl, rfl, rfl, rfl⟩ := H; obtain ⟨HGz26, hgz26⟩ := HI0.1; have hcz26_0 := cellS85_0 HGz26; have hcz26_1 := cellS85_1 HGz26; have hcz26_2 := cellS85_2 HGz26; have hfz26_0 := za HGz26 0; have hfz26_1 := za HGz26 1; have hfz26_2 := za HGz26 2; clear HGz26 hgz26; have hnb27 := zM.1; have hnc27 := zC.1; have hnb28 := NB329_0.1; have hnc28 := zL.1; have hcz29_0 := bc2 zE.1; go_wp2_with (((with_reducible refine gate_callee (f := 85) rfl ?_); refine goesL_ (some 33) rfl rfl Try.func85 (by kernel_rfl) rfl #[.pointer (some ⟨g, 0, none⟩), .int .i64 (wrap64 (kk (wrap64 (t325 + 7)) 8))] rfl (by (try simp only [kh, kg, List.map_nil]); rfl) ?_; (with_reducible refine (impl_input_number.calls kj2 g t326 t327 t328 (wrap64 (kk (wrap64 (t325 + 7)) 8)) t330 t331 t332 t333 w0 _ ?side1 ?side2 A22.1).mono ?_); (case side1 => repeat (with_reducible exact HI0.1)); (case side2 => repeat (with_reducible exact HB.1)); rintro e w30 ⟨rfl, hi, hb, hk⟩; refine ⟨_, rfl, ?_⟩; replace zB := kz (KeepBut.blk hk (g' := gb324) (o := .cells #[.int .i64 0, .int .i64 0] 35 (0, 0)) zB.1 zN.1 (by simp)); replace zE := kz (KeepBut.blk hk (g' := gb329) (o := .cells #[.int .i64 0, .int .i64 t325] 35 (0, 0)) zE.1 NB329_0.1 (by simp)); replace HK := kz (zr HK.1 hk (.inl rfl)); replace HB := kz hb; replace HI0 := kz hi; have hcz31_0 := bc2 zE.1; have hnb32 := zN.1; have hnc32 := zD.1; have hcz33_0 := bc2 zB.1)); refine bodyPost_ret (results_cell_row rfl _ _ gb324 35 #[.int .i64 ji25, .int .i64 t325] (0, 0) _ rfl (by refine zv (cs := #[.int .i64 ji25, .int .i64 0]) ?_ 1 _ rfl; refine zv (cs := #[.int .i64 0, .int .i64 0]) ?_ 0 _ rfl; refine zz ?_ zC.1 _; exact zB.1) kv rfl (by kernel_rfl)) rfl ?_; exact ⟨by rfl, by repeat ((with_reducible first | exact HI0.1 | refine IsS85.far ?_ zD.1 _ | refine IsS85.far ?_ zL.1 _)), by repeat ((with_reducible first | exact HB.1 | refine zd ?_ zR.1 | refine zd ?_ zU.1)), by repeat ((with_reducible first | exact HK.1 | refine zo ?_ zO.1 _ | refine zo ?_ zT.1 _))⟩
     · rw [if_neg c24] at H; exact absurd H (by simp)
    · rw [if_neg c21] at H; have c21b0 : (t328 == 0) = false := beq_eq_false_iff_ne.mpr c21; have c21b1 : (t328 != 0) = true := bne_iff_ne.mpr c21; simp only [ky, Prod.mk.injEq] at H; obtain ⟨rfl, rfl, rfl, rfl, rfl⟩ := H; obtain ⟨HGz34, hgz34⟩ := HI0.1; have hcz34_0 := cellS85_0 HGz34; have hcz34_1 := cellS85_1 HGz34; have hcz34_2 := cellS85_2 HGz34; have hfz34_0 := za HGz34 0; have hfz34_1 := za HGz34 1; have hfz34_2 := za HGz34 2; clear HGz34 hgz34; have hnb35 := zC.1; have hnc35 := zM.1; have hnb36 := zN.1; have hnc36 := zD.1; have hcz37_0 := bc2 zB.1; go_wp2; refine bodyPost_ret (results_cell_row rfl _ _ gb324 35 #[.int .i64 0, .int .i64 0] (0, 0) _ rfl (by refine zv (cs := #[.int .i64 0, .int .i64 0]) ?_ 1 _ rfl; refine zv (cs := #[.int .i64 0, .int .i64 0]) ?_ 0 _ rfl; exact zB.1) kv rfl (by kernel_rfl)) rfl ?_; exact ⟨by rfl, by repeat ((with_reducible first | exact HI0.1 | refine IsS85.far ?_ zD.1 _)), by repeat ((with_reducible first | exact HB.1 | refine zd ?_ zR.1)), by repeat ((with_reducible first | exact HK.1 | refine zo ?_ zO.1 _))⟩
/-! ### impl_input_prefixes: function 84 -/
def impl_input_prefixes.l0 : Nat → List (S35) → Int → ByteArray → Int → Int → Option ((List (S35)) × ByteArray × Int × Int)
 | 0, _, _, _, _, _ => none
 | k + 1, x3, x4, zH, zG, zK => if x4 > 0 then (if zK = 0 then ((impl_input_prefix.f k zH zG zK).bind fun bt341 => (if x3.length < 8796093022208 then (impl_input_prefixes.l0 k (x3 ++ [(⟨bt341.1, bt341.2.1⟩ : S35)]) (wrap64 (x4 - 1)) bt341.2.2.1 bt341.2.2.2.1 bt341.2.2.2.2) else (none))) else (some (x3, zH, zG, zK))) else (some (x3, zH, zG, zK))
def impl_input_prefixes.f (k : Nat) (s0_0 : ByteArray) (s0_1 : Int) (s0_2 : Int) : Option ((List (S35)) × ByteArray × Int × Int) := (impl_input_number.f k s0_0 s0_1 s0_2 1).bind fun bt337 => (impl_input_prefixes.l0 k (([] : List (S35))) bt337.1 bt337.2.1 bt337.2.2.1 bt337.2.2.2)
theorem impl_input_prefixes.calls (k : Nat) (g : Nat) (s0_0 : ByteArray) (s0_1 : Int) (s0_2 : Int) (r1 : List (S35)) (r2 : ByteArray) (r3 : Int) (r4 : Int) (w0 w : World) (hI : IsS85 w0 w g s0_0 s0_1 s0_2) (hB : Below w0.heap.size w0 w) (h : impl_input_prefixes.f k s0_0 s0_1 s0_2 = some (r1, r2, r3, r4)) :
  Calls Try.prog 84 #[.pointer (some ⟨g, 0, none⟩)] w fun e w' => ∃ v0_ : Value, e = .returned (v0_) ∧ Kd.R k35 35 w' w.heap.size (fun _ => True) v0_ r1 ∧ IsS85 w0 w' g r2 r3 r4 ∧ Below w0.heap.size w0 w' ∧ zy w w' g none := by
 have HI0 := kz hI; have HK := kz (KeepBut.refl w g none); have HL := kz hB.size; clear hI; have HW0 := kz hB.size; have HB := kz hB; clear hB; have H : ((impl_input_number.f k s0_0 s0_1 s0_2 1).bind fun bt337 => (impl_input_prefixes.l0 k (([] : List (S35))) bt337.1 bt337.2.1 bt337.2.2.1 bt337.2.2.2)) = some (r1, r2, r3, r4) := h; clear h; obtain ⟨y334, hy334⟩ : ∃ y_ : List (S35), y_ = (([] : List (S35))) := ⟨_, rfl⟩
 replace H : ((impl_input_number.f k s0_0 s0_1 s0_2 1).bind fun bt337 => (impl_input_prefixes.l0 k y334 bt337.1 bt337.2.1 bt337.2.2.1 bt337.2.2.2)) = some (r1, r2, r3, r4) := by (rw [hy334]; with_reducible exact H)
 have Ny334 := kz hy334; clear hy334; replace H := kj.mp H; obtain ⟨⟨t337, t338, t339, t340⟩, A20, H⟩ := H; have A2 := kz A20; clear A20; have H' := kz H; clear H; go_enter Try.func84, Try.ntmps84; go_wp2_with (first | ((with_reducible refine gate_dst (N := 5) rfl ?_); refine Kd.R_lit k35 _ 35 ?hg (N := 5) ?hd (xs := ([] : List (S35))) (inner := []) (ok := fun _ => True) (okp := fun _ => True) ?hr ?hp (fun _ hk => hk) trivial (Below.refl _ _) (Nat.le_refl _) (by simp) ?_; (case hd => rfl); (case hg => rfl); (case hr => (go_simp; done)); (case hp => exact (Reps.none _ _)); intro v335 w3 ho4 hb hg_ hnew_; clear hg_ hnew_; (rw [← Ny334.1] at ho4); have HO336 := kz (Kd.R_lower ho4 (keep_size (w := w) (g := g) (row := none) HK.1)); replace HI0 := kz (IsS85.below HI0.1 hb); replace HK := kz (zr HK.1 (KeepBut.of_below hb g none) (.inl rfl)); replace HB := kz (below_step HB.1 hb); clear hb ho4) | ((with_reducible refine gate_callee (f := 85) rfl ?_); refine goesL_ (some 7) rfl rfl Try.func85 (by kernel_rfl) rfl #[.pointer (some ⟨g, 0, none⟩), .int .i64 1] rfl (by (try simp only [kh, kg, List.map_nil]); rfl) ?_; (with_reducible refine (impl_input_number.calls k g s0_0 s0_1 s0_2 1 t337 t338 t339 t340 w0 _ ?side1 ?side2 A2.1).mono ?_); (case side1 => repeat (with_reducible exact HI0.1)); (case side2 => repeat (with_reducible exact HB.1)); rintro e w5 ⟨rfl, hi, hb, hk⟩; refine ⟨_, rfl, ?_⟩; replace HO336 := kz (Kd.R_mono (Kd.R_keep (IsS85.apart (show IsS85 w0 _ g s0_0 s0_1 s0_2 from HI0.1) HO336.1 (by decide)) hk (fun _ h => h.2)) (fun _ h => h.1)); replace HK := kz (zr HK.1 hk (.inl rfl)); replace HB := kz hb; replace HI0 := kz hi; (try clear hi))); go_loopg [3, 4] k (fun kq v3 v4 w' => ∃ (x3_1 : List (S35)) (x4_1 : Int) (zP : ByteArray) (zQ : Int) (zJ : Int), v4 = .int .i64 x4_1 ∧ zm (impl_input_prefixes.l0 kq x3_1 x4_1 zP zQ zJ = some (r1, r2, r3, r4)) ∧ zm (kq ≤ k) ∧ zm (Kd.R k35 35 w' w.heap.size (fun _ => True) v3 x3_1) ∧ zm (IsS85 w0 w' g zP zQ zJ) ∧ zm (zy w w' g none) ∧ zm (Below w0.heap.size w0 w')); case atStart => exact ⟨(y334), (t337), (t338), (t339), (t340), (by rfl), H', ⟨Nat.le_refl _⟩, ⟨by exact HO336.1⟩, ⟨by exact HI0.1⟩, ⟨by exact HK.1⟩, ⟨by exact HB.1⟩⟩
 case round =>
  clear H'; obtain ⟨x3_1, x4_1, zP, zQ, zJ, rfl, HA, HK1, HO_3, HI0, HK, HB⟩ := hrel; cases gk with
  | zero => exact absurd HA.1 (by simp [impl_input_prefixes.l0])
  | succ k1 =>
   have H := HA.1; clear HA; simp only [impl_input_prefixes.l0] at H; by_cases c6 : x4_1 > 0
   ·
    rw [if_pos c6] at H; have c6b0 := decide_eq_true c6; clear c6; by_cases c7 : zJ = 0
    ·
     rw [if_pos c7] at H; have c7b0 : (zJ == 0) = true := beq_iff_eq.mpr c7; have c7b1 : (zJ != 0) = false := bne_eq_false_iff_eq.mpr c7; clear c7; replace H := kj.mp H; obtain ⟨⟨t341, t342, t343, t344, t345⟩, A80, H⟩ := H; have A8 := kz A80; clear A80; by_cases c9 : x3_1.length < 8796093022208
     ·
      rw [if_pos c9] at H; have LMc9 := kz c9; clear c9; obtain ⟨y346, hy346⟩ : ∃ y_ : List (S35), y_ = (x3_1 ++ [(⟨t341, t342⟩ : S35)]) := ⟨_, rfl⟩
      replace H : (impl_input_prefixes.l0 k1 y346 (wrap64 (x4_1 - 1)) t343 t344 t345) = some (r1, r2, r3, r4) := by (rw [hy346]; with_reducible exact H)
      have Ny346 := kz hy346; clear hy346; have H' := kz H; clear H; obtain ⟨HGz10, hgz10⟩ := HI0.1; have hcz10_0 := cellS85_0 HGz10; have hcz10_1 := cellS85_1 HGz10; have hcz10_2 := cellS85_2 HGz10; have hfz10_0 := za HGz10 0; have hfz10_1 := za HGz10 1; have hfz10_2 := za HGz10 2; clear HGz10 hgz10; go_wp2_with (first | ((with_reducible refine gate_callee (f := 61) rfl ?_); refine goesL_ (some 21) rfl rfl Try.func61 (by kernel_rfl) rfl #[.pointer (some ⟨g, 0, none⟩)] rfl (by (try simp only [kh, kg, List.map_nil]); rfl) ?_; (with_reducible refine (impl_input_prefix.calls k1 g zP zQ zJ t341 t342 t343 t344 t345 w0 _ ?side1 ?side2 A8.1).mono ?_); (case side1 => repeat (with_reducible exact HI0.1)); (case side2 => repeat (with_reducible exact HB.1)); rintro e w11 ⟨rfl, hi, hb, hk⟩; refine ⟨_, rfl, ?_⟩; replace HO_3 := kz (Kd.R_mono (Kd.R_keep (IsS85.apart (show IsS85 w0 _ g zP zQ zJ from HI0.1) HO_3.1 (by decide)) hk (fun _ h => h.2)) (fun _ h => h.1)); replace HK := kz (zr HK.1 hk (.inl rfl)); replace HB := kz hb; replace HI0 := kz hi; (try clear hi)) | ((with_reducible refine gate_builtin (b := .append) (xs := #[.tmp 19, .tmp 22]) rfl ?_); at_builtin; refine Kd.R_append k35 w.heap.size rfl (.tmp 19) (.tmp 22) 51 35 (.agg #[(.int .i64 0), (.int .i64 0)]) 16 rfl Try.underlying51 info35 rfl (by decide) (by omega) u3 x3_1 (⟨t341, t342⟩ : S35) [.int .i64 t341, .int .i64 t342] (fun _ => True) (fun _ => False) rfl rfl ?aP (fun _ hk => hk.elim) ?aF ?aO (Below.refl _ _) ?aS ?aL ?_; (case aP => exact k35_mkM _ _ _ (⟨t341, t342⟩ : S35)); (case aF => exact (fun _ _ => trivial)); (case aO => exact HO_3.1); (case aS => exact (keep_size (w := w) (g := g) (row := none) HK.1)); (case aL => have := LMc9.1; omega); intro v347 w12 ho hb hg hat; rw [← Ny346.1] at ho; replace HI0 := kz (IsS85.grown (show IsS85 w0 _ g t343 t344 t345 from HI0.1) hg (IsS85.own_ne HI0.1 HO_3.1 (by decide))); replace HB := kz (below_weaken HB.1 HL.1 hb); replace HK := kz (zr HK.1 (KeepBut.of_grown hg g) (Kd.R_base2 HO_3.1)); have HO348 := kz ho; clear ho hb hg hat)); go_roundg k1; case measure => have := HK1.1; omega
      case rel => exact ⟨(y346), (wrap64 (x4_1 - 1)), (t343), (t344), (t345), (by rfl), H', ⟨by have := HK1.1; omega⟩, ⟨by exact HO348.1⟩, ⟨by exact HI0.1⟩, ⟨by exact HK.1⟩, ⟨by exact HB.1⟩⟩
     · rw [if_neg c9] at H; exact absurd H (by simp)
    · rw [if_neg c7] at H; have c7b0 : (zJ == 0) = false := beq_eq_false_iff_ne.mpr c7; have c7b1 : (zJ != 0) = true := bne_iff_ne.mpr c7; simp only [ky, Prod.mk.injEq] at H; obtain ⟨rfl, rfl, rfl, rfl⟩ := H; obtain ⟨HGz13, hgz13⟩ := HI0.1; have hcz13_0 := cellS85_0 HGz13; have hcz13_1 := cellS85_1 HGz13; have hcz13_2 := cellS85_2 HGz13; have hfz13_0 := za HGz13 0; have hfz13_1 := za HGz13 1; have hfz13_2 := za HGz13 2; clear HGz13 hgz13; go_wp2; go_ret; exact ⟨_, by rfl, by exact HO_3.1, by exact HI0.1, by exact HB.1, by exact HK.1⟩
   · rw [if_neg c6] at H; have c6b0 := decide_eq_false c6; clear c6; simp only [ky, Prod.mk.injEq] at H; obtain ⟨rfl, rfl, rfl, rfl⟩ := H; go_wp2; go_ret; exact ⟨_, by rfl, by exact HO_3.1, by exact HI0.1, by exact HB.1, by exact HK.1⟩
end Go.Proofs.Ytlnfcobloolnnaa.PFnUpdates
