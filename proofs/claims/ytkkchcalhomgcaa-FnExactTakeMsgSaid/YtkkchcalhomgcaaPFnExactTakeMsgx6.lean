/- Written by this session's own program over the kit's print: Lean functions that tell what Go functions answer, each with a proof that the call does so. No condition but what each statement says. -/
import Derived.Test.YtkkchcalhomgcaaPFnExactTakeMsgx0
import Derived.Test.YtkkchcalhomgcaaPFnExactTakeMsgx5
namespace Go.Proofs.Ytkkchcalhomgcaa.PFnExactTakeMsg
open Go.RowKit Go.Proofs.YtkkchcalhomgcaaW.PrintWords Go.Proofs.YtkkchcalhomgcaaW.PrintLast Go.Proofs.YtkkchcalhomgcaaW.PrintMore
open Go.Proofs.YtkkchcalhomgcaaW.PrintLast renaming i64_w → zh, i32_w → zi
open Go.Proofs.YtkkchcalhomgcaaW.PrintWords renaming pw_below_drewN → za, below_drew1 → zb, below_alloc → zc, Aside0 → zg
open Go.Proofs.YtkkchcalhomgcaaW.PrintWords.LeO renaming none → zd, bind → ze, ite → zf
attribute [local go_sem] max2_int min2_int max_two min_two max_three min_three max_four min_four   -- for this text's walks alone
set_option linter.unusedVariables false
set_option linter.unusedSimpArgs false

/-! ### impl_headFault: function 104 -/
mutual
def impl_headFault.l0 : Nat → ByteArray → Int → Int → Option (Int)
 | 0, _, _, _ => none
 | k + 1, x0, x7, x8 => if x8 < x7 then (if 0 ≤ x8 then (if x8 < (x0.size : Int) then (if x8 < 2 then (impl_headFault.j1 k x0 x8 (wrap64 (bt x0 x8)) x7 x8 ((wrap64 (bt x0 x8)) != 255)) else (impl_headFault.j1 k x0 x8 (wrap64 (bt x0 x8)) x7 x8 false)) else (none)) else (none)) else (some 0)
def impl_headFault.j1 : Nat → ByteArray → Int → Int → Int → Int → Bool → Option (Int)
 | 0, _, _, _, _, _, _ => none
 | k + 1, x0, x3, x4, x7, x8, x15 => if x15 = true then (some 1) else (if x3 = 2 then ((impl_within.f x4 5 65).bind fun t177 => (impl_headFault.j2 k x0 x3 x4 x7 x8 (!t177))) else (impl_headFault.j2 k x0 x3 x4 x7 x8 false))
def impl_headFault.j2 : Nat → ByteArray → Int → Int → Int → Int → Bool → Option (Int)
 | 0, _, _, _, _, _, _ => none
 | k + 1, x0, x3, x4, x7, x8, x22 => if x22 = true then (impl_headFault.j3 k x0 x3 x4 x7 x8 x22) else (if x3 = 3 then (impl_headFault.j3 k x0 x3 x4 x7 x8 (x4 != 0)) else (impl_headFault.j3 k x0 x3 x4 x7 x8 false))
def impl_headFault.j3 : Nat → ByteArray → Int → Int → Int → Int → Bool → Option (Int)
 | 0, _, _, _, _, _, _ => none
 | k + 1, x0, x3, x4, x7, x8, x22 => if x22 = true then (some 2) else (if x3 = 4 then ((impl_within.f x4 1 4).bind fun t178 => (impl_headFault.j4 k x0 x3 x4 x7 x8 (!t178))) else (impl_headFault.j4 k x0 x3 x4 x7 x8 false))
def impl_headFault.j4 : Nat → ByteArray → Int → Int → Int → Int → Bool → Option (Int)
 | 0, _, _, _, _, _, _ => none
 | k + 1, x0, x3, x4, x7, x8, x36 => if x36 = true then (some 3) else (if x3 = 4 then (if x4 = 4 then (if 2 < (x0.size : Int) then (if (bt x0 2) > 5 then (some 4) else (impl_headFault.l0 k x0 x7 (wrap64 (x8 + 1)))) else (none)) else (impl_headFault.l0 k x0 x7 (wrap64 (x8 + 1)))) else (impl_headFault.l0 k x0 x7 (wrap64 (x8 + 1))))
end
def impl_headFault.f (k : Nat) (a0 : ByteArray) : Option (Int) := impl_headFault.l0 k a0 (mn 5 (a0.size : Int)) 0
theorem impl_headFault.mono_l : ∀ k, (∀ y0 y1 y2, LeO (impl_headFault.l0 k y0 y1 y2) (impl_headFault.l0 (k + 1) y0 y1 y2)) ∧ (∀ y0 y1 y2 y3 y4 y5, LeO (impl_headFault.j1 k y0 y1 y2 y3 y4 y5) (impl_headFault.j1 (k + 1) y0 y1 y2 y3 y4 y5)) ∧ (∀ y0 y1 y2 y3 y4 y5, LeO (impl_headFault.j2 k y0 y1 y2 y3 y4 y5) (impl_headFault.j2 (k + 1) y0 y1 y2 y3 y4 y5)) ∧ (∀ y0 y1 y2 y3 y4 y5, LeO (impl_headFault.j3 k y0 y1 y2 y3 y4 y5) (impl_headFault.j3 (k + 1) y0 y1 y2 y3 y4 y5)) ∧ (∀ y0 y1 y2 y3 y4 y5, LeO (impl_headFault.j4 k y0 y1 y2 y3 y4 y5) (impl_headFault.j4 (k + 1) y0 y1 y2 y3 y4 y5))
 | 0 => ⟨fun _ _ _ r h => by simp [impl_headFault.l0] at h, fun _ _ _ _ _ _ r h => by simp [impl_headFault.j1] at h, fun _ _ _ _ _ _ r h => by simp [impl_headFault.j2] at h, fun _ _ _ _ _ _ r h => by simp [impl_headFault.j3] at h, fun _ _ _ _ _ _ r h => by simp [impl_headFault.j4] at h⟩
 | k + 1 => by
  obtain ⟨ih0, ih1, ih2, ih3, ih4⟩ := impl_headFault.mono_l k
  refine ⟨?_, ?_, ?_, ?_, ?_⟩
  ·
   intro y0 y1 y2
   unfold impl_headFault.l0
   repeat' first
   | (with_reducible exact ih0 _ _ _)
   | (with_reducible exact ih1 _ _ _ _ _ _)
   | (with_reducible exact ih2 _ _ _ _ _ _)
   | (with_reducible exact ih3 _ _ _ _ _ _)
   | (with_reducible exact ih4 _ _ _ _ _ _)
   | (with_reducible exact LeO.refl _)
   | (with_reducible exact zd _)
   | (with_reducible refine zf ?_ ?_)
   | (with_reducible refine ze ?_ (fun _ => ?_))
   | exact ih0 _ _ _
   | exact ih1 _ _ _ _ _ _
   | exact ih2 _ _ _ _ _ _
   | exact ih3 _ _ _ _ _ _
   | exact ih4 _ _ _ _ _ _
   | exact zd _
   | refine zf ?_ ?_
   | refine ze ?_ (fun _ => ?_)
  ·
   intro y0 y1 y2 y3 y4 y5
   unfold impl_headFault.j1
   repeat' first
   | (with_reducible exact ih0 _ _ _)
   | (with_reducible exact ih1 _ _ _ _ _ _)
   | (with_reducible exact ih2 _ _ _ _ _ _)
   | (with_reducible exact ih3 _ _ _ _ _ _)
   | (with_reducible exact ih4 _ _ _ _ _ _)
   | (with_reducible exact LeO.refl _)
   | (with_reducible exact zd _)
   | (with_reducible refine zf ?_ ?_)
   | (with_reducible refine ze ?_ (fun _ => ?_))
   | exact ih0 _ _ _
   | exact ih1 _ _ _ _ _ _
   | exact ih2 _ _ _ _ _ _
   | exact ih3 _ _ _ _ _ _
   | exact ih4 _ _ _ _ _ _
   | exact zd _
   | refine zf ?_ ?_
   | refine ze ?_ (fun _ => ?_)
  ·
   intro y0 y1 y2 y3 y4 y5
   unfold impl_headFault.j2
   repeat' first
   | (with_reducible exact ih0 _ _ _)
   | (with_reducible exact ih1 _ _ _ _ _ _)
   | (with_reducible exact ih2 _ _ _ _ _ _)
   | (with_reducible exact ih3 _ _ _ _ _ _)
   | (with_reducible exact ih4 _ _ _ _ _ _)
   | (with_reducible exact LeO.refl _)
   | (with_reducible exact zd _)
   | (with_reducible refine zf ?_ ?_)
   | (with_reducible refine ze ?_ (fun _ => ?_))
   | exact ih0 _ _ _
   | exact ih1 _ _ _ _ _ _
   | exact ih2 _ _ _ _ _ _
   | exact ih3 _ _ _ _ _ _
   | exact ih4 _ _ _ _ _ _
   | exact zd _
   | refine zf ?_ ?_
   | refine ze ?_ (fun _ => ?_)
  ·
   intro y0 y1 y2 y3 y4 y5
   unfold impl_headFault.j3
   repeat' first
   | (with_reducible exact ih0 _ _ _)
   | (with_reducible exact ih1 _ _ _ _ _ _)
   | (with_reducible exact ih2 _ _ _ _ _ _)
   | (with_reducible exact ih3 _ _ _ _ _ _)
   | (with_reducible exact ih4 _ _ _ _ _ _)
   | (with_reducible exact LeO.refl _)
   | (with_reducible exact zd _)
   | (with_reducible refine zf ?_ ?_)
   | (with_reducible refine ze ?_ (fun _ => ?_))
   | exact ih0 _ _ _
   | exact ih1 _ _ _ _ _ _
   | exact ih2 _ _ _ _ _ _
   | exact ih3 _ _ _ _ _ _
   | exact ih4 _ _ _ _ _ _
   | exact zd _
   | refine zf ?_ ?_
   | refine ze ?_ (fun _ => ?_)
  ·
   intro y0 y1 y2 y3 y4 y5
   unfold impl_headFault.j4
   repeat' first
   | (with_reducible exact ih0 _ _ _)
   | (with_reducible exact ih1 _ _ _ _ _ _)
   | (with_reducible exact ih2 _ _ _ _ _ _)
   | (with_reducible exact ih3 _ _ _ _ _ _)
   | (with_reducible exact ih4 _ _ _ _ _ _)
   | (with_reducible exact LeO.refl _)
   | (with_reducible exact zd _)
   | (with_reducible refine zf ?_ ?_)
   | (with_reducible refine ze ?_ (fun _ => ?_))
   | exact ih0 _ _ _
   | exact ih1 _ _ _ _ _ _
   | exact ih2 _ _ _ _ _ _
   | exact ih3 _ _ _ _ _ _
   | exact ih4 _ _ _ _ _ _
   | exact zd _
   | refine zf ?_ ?_
   | refine ze ?_ (fun _ => ?_)
theorem impl_headFault.mono : ∀ a0 k, LeO (impl_headFault.f k a0) (impl_headFault.f (k + 1) a0) := by
 intro a0 k
 obtain ⟨ih0, ih1, ih2, ih3, ih4⟩ := impl_headFault.mono_l k
 unfold impl_headFault.f
 repeat' first
   | (with_reducible exact ih0 _ _ _)
   | (with_reducible exact ih1 _ _ _ _ _ _)
   | (with_reducible exact ih2 _ _ _ _ _ _)
   | (with_reducible exact ih3 _ _ _ _ _ _)
   | (with_reducible exact ih4 _ _ _ _ _ _)
   | (with_reducible exact LeO.refl _)
   | (with_reducible exact zd _)
   | (with_reducible refine zf ?_ ?_)
   | (with_reducible refine ze ?_ (fun _ => ?_))
   | exact ih0 _ _ _
   | exact ih1 _ _ _ _ _ _
   | exact ih2 _ _ _ _ _ _
   | exact ih3 _ _ _ _ _ _
   | exact ih4 _ _ _ _ _ _
   | exact zd _
   | refine zf ?_ ?_
   | refine ze ?_ (fun _ => ?_)
set_option maxHeartbeats 8000000 in
set_option maxRecDepth 100000 in
theorem impl_headFault.calls (k : Nat) (a0 : ByteArray) (r : Int) (w : World) (h : impl_headFault.f k a0 = some r) :
  Calls Try.prog 104 #[.string a0] w fun e w' => e = .returned (.int .i64 r) ∧ Below w.heap.size w w' := by
 have HB := Aside0.mk (Below.refl w.heap.size w)
 have H : (impl_headFault.l0 k a0 (mn 5 (a0.size : Int)) 0) = some r := h
 clear h
 obtain ⟨ji2, hji2⟩ : ∃ j_ : Int, (mn 5 (a0.size : Int)) = j_ := ⟨_, rfl⟩
 replace H : (impl_headFault.l0 k a0 ji2 0) = some r := by first | (rw [hji2] at H; exact H) | (simp only [hji2] at H ⊢; exact H)
 (try (have hji2h : ji2 ≤ 5 := by (rw [← hji2]; unfold mn; (repeat' split) <;> omega)))
 (try (have hji2g : ji2 ≤ 64 := by omega))
 (try (have hji2l : 0 ≤ ji2 := by (rw [← hji2]; unfold mn; (repeat' split) <;> omega)))
 (try (have hji2m : 0 ≤ ji2 := by omega))
 have hji2_ : (if (a0.size : Int) < 5 then (a0.size : Int) else 5) = ji2 := hji2
 have H' := Aside0.mk H
 clear H
 go_enter Try.func104, Try.ntmps104
 go_wp2
 go_loopg [8] k (fun kq v8 w' => ∃ (x8_1 : Int), v8 = .int .i64 x8_1 ∧ zg (impl_headFault.l0 kq a0 ji2 x8_1 = some r) ∧ zg (kq ≤ k) ∧ zg (Below w.heap.size w w'))
 case atStart => exact ⟨(0), (by first | rfl | (simp; done) | (simp [*]; done)), H', ⟨Nat.le_refl _⟩, ⟨by repeat (first | (with_reducible first | exact HB.1 | apply zc | apply za | apply zb) | exact HB.1)⟩⟩
 case round =>
  clear H'
  (try clear c1); (try clear p2)
  obtain ⟨x8_1, rfl, HA, HK1, HB⟩ := hrel
  cases gk with
  | zero => exact absurd HA.1 (by simp [impl_headFault.l0])
  | succ k1 =>
   have H := HA.1
   clear HA
   simp only [impl_headFault.l0] at H
   by_cases c3 : x8_1 < ji2
   ·
    rw [if_pos c3] at H
    have c3b0 : decide (x8_1 < ji2) = true := decide_eq_true c3
    clear c3
    by_cases c4 : 0 ≤ x8_1
    ·
     rw [if_pos c4] at H
     have c4b0 : decide (0 ≤ x8_1) = true := decide_eq_true c4
     clear c4
     by_cases c5 : x8_1 < (a0.size : Int)
     ·
      rw [if_pos c5] at H
      have c5b0 : decide (x8_1 < (a0.size : Int)) = true := decide_eq_true c5
      clear c5
      have HC7 := Aside0.mk H
      clear H
      have p6 : 0 ≤ (x8_1 : Int) := of_decide_eq_true (by first | (with_reducible assumption) | assumption)
      have q6 : x8_1 < (a0.size : Int) := of_decide_eq_true (by first | (with_reducible assumption) | assumption)
      have hx6 := bt_at a0 x8_1
      replace p6 := eq_true p6
      replace q6 := eq_true q6
      go_upto_region 5 with (fail)
      go_cut [15] (fun v15 wc => ∃ (kq : Nat) (x15_6 : Bool), v15 = .bool x15_6 ∧ zg (impl_headFault.j1 kq a0 x8_1 (wrap64 (bt a0 x8_1)) ji2 x8_1 x15_6 = some r) ∧ zg (kq ≤ k1) ∧ zg (Below w.heap.size w wc))
      case first =>
       have H := HC7.1
       clear HC7
       by_cases c8 : x8_1 < 2
       ·
        rw [if_pos c8] at H
        have c8b0 : decide (x8_1 < 2) = true := decide_eq_true c8
        clear c8
        (first | rw [c8b0] | (simp only [zh, zi]; rw [c8b0]) | skip)
        have H' := Aside0.mk H
        clear H
        go_wp2
        go_meet
        case rel => exact ⟨_, (((wrap64 (bt a0 x8_1)) != 255)), (by first | rfl | (simp; done) | (simp [*]; done)), H', ⟨by have := HK1.1; first | omega | exact Nat.le_refl _⟩, ⟨by repeat (first | (with_reducible first | exact HB.1 | apply zc | apply za | apply zb) | exact HB.1)⟩⟩
       ·
        rw [if_neg c8] at H
        have c8b0 : decide (x8_1 < 2) = false := decide_eq_false c8
        clear c8
        (first | rw [c8b0] | (simp only [zh, zi]; rw [c8b0]) | skip)
        have H' := Aside0.mk H
        clear H
        go_wp2
        go_meet
        case rel => exact ⟨_, (false), (by first | rfl | (simp; done) | (simp [*]; done)), H', ⟨by have := HK1.1; first | omega | exact Nat.le_refl _⟩, ⟨by repeat (first | (with_reducible first | exact HB.1 | apply zc | apply za | apply zb) | exact HB.1)⟩⟩
      case rest =>
       clear HC7
       (try clear c1); (try clear p2); (try clear c3); (try clear c3b0); (try clear c4); (try clear c4b0); (try clear c5); (try clear c5b0); (try clear p6); (try clear q6); (try clear hx6); (try clear c8); (try clear c8b0); (try clear p2); (try clear p6); (try clear q6)
       obtain ⟨kq, x15_6, rfl, HA, HJ6, HB⟩ := hcut
       cases kq with
       | zero => exact absurd HA.1 (by simp [impl_headFault.j1])
       | succ kj6 =>
        have H := HA.1
        clear HA
        simp only [impl_headFault.j1] at H
        by_cases c9 : x15_6 = true
        ·
         subst c9
         have H1 : (some 1) = some r := by rw [if_pos rfl] at H; exact H
         clear H
         have H := H1
         clear H1
         obtain rfl := Option.some.inj H
         go_wp2
         go_ret
         exact ⟨by first | rfl | (simp [errW_none, errW_some] <;> rfl) | (simp only [← hji2]; first | rfl | (simp [errW_none, errW_some] <;> rfl)) | (simp [*, errW_none, errW_some] <;> rfl), by repeat (first | (with_reducible first | exact HB.1 | apply zc | apply za | apply zb) | exact HB.1)⟩
        ·
         replace c9 := Bool.eq_false_iff.mpr c9
         subst c9
         have H1 : (if x8_1 = 2 then ((impl_within.f (wrap64 (bt a0 x8_1)) 5 65).bind fun t177 => (impl_headFault.j2 kj6 a0 x8_1 (wrap64 (bt a0 x8_1)) ji2 x8_1 (!t177))) else (impl_headFault.j2 kj6 a0 x8_1 (wrap64 (bt a0 x8_1)) ji2 x8_1 false)) = some r := by rw [if_neg (show ¬ (false = true) by decide)] at H; exact H
         clear H
         have H := H1
         clear H1
         have HC10 := Aside0.mk H
         clear H
         go_upto_region 7 with (fail)
         go_cut [22] (fun v22 wc => ∃ (kq : Nat) (x22_9 : Bool), v22 = .bool x22_9 ∧ zg (impl_headFault.j2 kq a0 x8_1 (wrap64 (bt a0 x8_1)) ji2 x8_1 x22_9 = some r) ∧ zg (kq ≤ kj6) ∧ zg (Below w.heap.size w wc))
         case first =>
          have H := HC10.1
          clear HC10
          by_cases c11 : x8_1 = 2
          ·
           rw [if_pos c11] at H
           have c11b0 : (x8_1 == 2) = true := beq_iff_eq.mpr c11
           have c11b1 : (x8_1 != 2) = false := bne_eq_false_iff_eq.mpr c11
           clear c11
           (first | rw [c11b0] | (simp only [zh, zi]; rw [c11b0]) | skip)
           replace H := Option.bind_eq_some_iff.mp H
           obtain ⟨t177, A120, H⟩ := H
           replace H : (impl_headFault.j2 kj6 a0 x8_1 (wrap64 (bt a0 x8_1)) ji2 x8_1 (!t177)) = some r := H
           have A12 := Aside0.mk A120
           clear A120
           have H' := Aside0.mk H
           clear H
           go_wp2_with (first | (go_at_call 63; (with_reducible refine (impl_within.calls (wrap64 (bt a0 x8_1)) 5 65 t177 _ A12.1).mono ?_); rintro e w' ⟨rfl, ⟨nd, rfl⟩⟩))
           go_meet
           case rel => exact ⟨_, (!t177), (by first | rfl | (simp; done) | (simp [*]; done)), H', ⟨by have := HK1.1; have := HJ6.1; first | omega | exact Nat.le_refl _⟩, ⟨by repeat (first | (with_reducible first | exact HB.1 | apply zc | apply za | apply zb) | exact HB.1)⟩⟩
          ·
           rw [if_neg c11] at H
           have c11b0 : (x8_1 == 2) = false := beq_eq_false_iff_ne.mpr c11
           have c11b1 : (x8_1 != 2) = true := bne_iff_ne.mpr c11
           (first | rw [c11b0] | (simp only [zh, zi]; rw [c11b0]) | skip)
           have H' := Aside0.mk H
           clear H
           go_wp2
           go_meet
           case rel => exact ⟨_, (false), (by first | rfl | (simp; done) | (simp [*]; done)), H', ⟨by have := HK1.1; have := HJ6.1; first | omega | exact Nat.le_refl _⟩, ⟨by repeat (first | (with_reducible first | exact HB.1 | apply zc | apply za | apply zb) | exact HB.1)⟩⟩
         case rest =>
          clear HC10
          (try clear c1); (try clear p2); (try clear c3); (try clear c3b0); (try clear c4); (try clear c4b0); (try clear c5); (try clear c5b0); (try clear p6); (try clear q6); (try clear hx6); (try clear c8); (try clear c8b0); (try clear c9); (try clear c10); (try clear c11); (try clear c11b0); (try clear c11b1); (try clear p2); (try clear p6); (try clear q6)
          obtain ⟨kq, x22_9, rfl, HA, HJ9, HB⟩ := hcut
          cases kq with
          | zero => exact absurd HA.1 (by simp [impl_headFault.j2])
          | succ kj9 =>
           have H := HA.1
           clear HA
           simp only [impl_headFault.j2] at H
           have HC13 := Aside0.mk H
           clear H
           go_upto_if 22 with (fail)
           go_cut [22] (fun v22 wc => ∃ (kq : Nat) (x22_12 : Bool), v22 = .bool x22_12 ∧ zg (impl_headFault.j3 kq a0 x8_1 (wrap64 (bt a0 x8_1)) ji2 x8_1 x22_12 = some r) ∧ zg (kq ≤ kj9) ∧ zg (Below w.heap.size w wc))
           case first =>
            have H := HC13.1
            clear HC13
            by_cases c14 : x22_9 = true
            ·
             subst c14
             have H1 : (impl_headFault.j3 kj9 a0 x8_1 (wrap64 (bt a0 x8_1)) ji2 x8_1 true) = some r := by rw [if_pos rfl] at H; exact H
             clear H
             have H := H1
             clear H1
             have H' := Aside0.mk H
             clear H
             go_wp2
             go_meet
             case rel => exact ⟨_, (true), (by first | rfl | (simp; done) | (simp [*]; done)), H', ⟨by have := HK1.1; have := HJ6.1; have := HJ9.1; first | omega | exact Nat.le_refl _⟩, ⟨by repeat (first | (with_reducible first | exact HB.1 | apply zc | apply za | apply zb) | exact HB.1)⟩⟩
            ·
             replace c14 := Bool.eq_false_iff.mpr c14
             subst c14
             have H1 : (if x8_1 = 3 then (impl_headFault.j3 kj9 a0 x8_1 (wrap64 (bt a0 x8_1)) ji2 x8_1 ((wrap64 (bt a0 x8_1)) != 0)) else (impl_headFault.j3 kj9 a0 x8_1 (wrap64 (bt a0 x8_1)) ji2 x8_1 false)) = some r := by rw [if_neg (show ¬ (false = true) by decide)] at H; exact H
             clear H
             have H := H1
             clear H1
             by_cases c15 : x8_1 = 3
             ·
              rw [if_pos c15] at H
              have c15b0 : (x8_1 == 3) = true := beq_iff_eq.mpr c15
              have c15b1 : (x8_1 != 3) = false := bne_eq_false_iff_eq.mpr c15
              clear c15
              (first | rw [c15b0] | (simp only [zh, zi]; rw [c15b0]) | skip)
              have H' := Aside0.mk H
              clear H
              go_wp2
              go_meet
              case rel => exact ⟨_, (((wrap64 (bt a0 x8_1)) != 0)), (by first | rfl | (simp; done) | (simp [*]; done)), H', ⟨by have := HK1.1; have := HJ6.1; have := HJ9.1; first | omega | exact Nat.le_refl _⟩, ⟨by repeat (first | (with_reducible first | exact HB.1 | apply zc | apply za | apply zb) | exact HB.1)⟩⟩
             ·
              rw [if_neg c15] at H
              have c15b0 : (x8_1 == 3) = false := beq_eq_false_iff_ne.mpr c15
              have c15b1 : (x8_1 != 3) = true := bne_iff_ne.mpr c15
              (first | rw [c15b0] | (simp only [zh, zi]; rw [c15b0]) | skip)
              have H' := Aside0.mk H
              clear H
              go_wp2
              go_meet
              case rel => exact ⟨_, (false), (by first | rfl | (simp; done) | (simp [*]; done)), H', ⟨by have := HK1.1; have := HJ6.1; have := HJ9.1; first | omega | exact Nat.le_refl _⟩, ⟨by repeat (first | (with_reducible first | exact HB.1 | apply zc | apply za | apply zb) | exact HB.1)⟩⟩
           case rest =>
            clear HC13
            (try clear c1); (try clear p2); (try clear c3); (try clear c3b0); (try clear c4); (try clear c4b0); (try clear c5); (try clear c5b0); (try clear p6); (try clear q6); (try clear hx6); (try clear c8); (try clear c8b0); (try clear c9); (try clear c10); (try clear c11); (try clear c11b0); (try clear c11b1); (try clear c14); (try clear c15); (try clear c15b0); (try clear c15b1); (try clear p2); (try clear p6); (try clear q6)
            obtain ⟨kq, x22_12, rfl, HA, HJ12, HB⟩ := hcut
            cases kq with
            | zero => exact absurd HA.1 (by simp [impl_headFault.j3])
            | succ kj12 =>
             have H := HA.1
             clear HA
             simp only [impl_headFault.j3] at H
             by_cases c16 : x22_12 = true
             ·
              subst c16
              have H1 : (some 2) = some r := by rw [if_pos rfl] at H; exact H
              clear H
              have H := H1
              clear H1
              obtain rfl := Option.some.inj H
              go_wp2
              go_ret
              exact ⟨by first | rfl | (simp [errW_none, errW_some] <;> rfl) | (simp only [← hji2]; first | rfl | (simp [errW_none, errW_some] <;> rfl)) | (simp [*, errW_none, errW_some] <;> rfl), by repeat (first | (with_reducible first | exact HB.1 | apply zc | apply za | apply zb) | exact HB.1)⟩
             ·
              replace c16 := Bool.eq_false_iff.mpr c16
              subst c16
              have H1 : (if x8_1 = 4 then ((impl_within.f (wrap64 (bt a0 x8_1)) 1 4).bind fun t178 => (impl_headFault.j4 kj12 a0 x8_1 (wrap64 (bt a0 x8_1)) ji2 x8_1 (!t178))) else (impl_headFault.j4 kj12 a0 x8_1 (wrap64 (bt a0 x8_1)) ji2 x8_1 false)) = some r := by rw [if_neg (show ¬ (false = true) by decide)] at H; exact H
              clear H
              have H := H1
              clear H1
              have HC17 := Aside0.mk H
              clear H
              go_upto_region 10 with (fail)
              go_cut [36] (fun v36 wc => ∃ (kq : Nat) (x36_16 : Bool), v36 = .bool x36_16 ∧ zg (impl_headFault.j4 kq a0 x8_1 (wrap64 (bt a0 x8_1)) ji2 x8_1 x36_16 = some r) ∧ zg (kq ≤ kj12) ∧ zg (Below w.heap.size w wc))
              case first =>
               have H := HC17.1
               clear HC17
               by_cases c18 : x8_1 = 4
               ·
                rw [if_pos c18] at H
                have c18b0 : (x8_1 == 4) = true := beq_iff_eq.mpr c18
                have c18b1 : (x8_1 != 4) = false := bne_eq_false_iff_eq.mpr c18
                clear c18
                (first | rw [c18b0] | (simp only [zh, zi]; rw [c18b0]) | skip)
                replace H := Option.bind_eq_some_iff.mp H
                obtain ⟨t178, A190, H⟩ := H
                replace H : (impl_headFault.j4 kj12 a0 x8_1 (wrap64 (bt a0 x8_1)) ji2 x8_1 (!t178)) = some r := H
                have A19 := Aside0.mk A190
                clear A190
                have H' := Aside0.mk H
                clear H
                go_wp2_with (first | (go_at_call 63; (with_reducible refine (impl_within.calls (wrap64 (bt a0 x8_1)) 1 4 t178 _ A19.1).mono ?_); rintro e w' ⟨rfl, ⟨nd, rfl⟩⟩))
                go_meet
                case rel => exact ⟨_, (!t178), (by first | rfl | (simp; done) | (simp [*]; done)), H', ⟨by have := HK1.1; have := HJ6.1; have := HJ9.1; have := HJ12.1; first | omega | exact Nat.le_refl _⟩, ⟨by repeat (first | (with_reducible first | exact HB.1 | apply zc | apply za | apply zb) | exact HB.1)⟩⟩
               ·
                rw [if_neg c18] at H
                have c18b0 : (x8_1 == 4) = false := beq_eq_false_iff_ne.mpr c18
                have c18b1 : (x8_1 != 4) = true := bne_iff_ne.mpr c18
                (first | rw [c18b0] | (simp only [zh, zi]; rw [c18b0]) | skip)
                have H' := Aside0.mk H
                clear H
                go_wp2
                go_meet
                case rel => exact ⟨_, (false), (by first | rfl | (simp; done) | (simp [*]; done)), H', ⟨by have := HK1.1; have := HJ6.1; have := HJ9.1; have := HJ12.1; first | omega | exact Nat.le_refl _⟩, ⟨by repeat (first | (with_reducible first | exact HB.1 | apply zc | apply za | apply zb) | exact HB.1)⟩⟩
              case rest =>
               clear HC17
               (try clear c1); (try clear p2); (try clear c3); (try clear c3b0); (try clear c4); (try clear c4b0); (try clear c5); (try clear c5b0); (try clear p6); (try clear q6); (try clear hx6); (try clear c8); (try clear c8b0); (try clear c9); (try clear c10); (try clear c11); (try clear c11b0); (try clear c11b1); (try clear c14); (try clear c15); (try clear c15b0); (try clear c15b1); (try clear c16); (try clear c18); (try clear c18b0); (try clear c18b1); (try clear p2); (try clear p6); (try clear q6)
               obtain ⟨kq, x36_16, rfl, HA, HJ16, HB⟩ := hcut
               cases kq with
               | zero => exact absurd HA.1 (by simp [impl_headFault.j4])
               | succ kj16 =>
                have H := HA.1
                clear HA
                simp only [impl_headFault.j4] at H
                by_cases c20 : x36_16 = true
                ·
                 subst c20
                 have H1 : (some 3) = some r := by rw [if_pos rfl] at H; exact H
                 clear H
                 have H := H1
                 clear H1
                 obtain rfl := Option.some.inj H
                 go_wp2
                 go_ret
                 exact ⟨by first | rfl | (simp [errW_none, errW_some] <;> rfl) | (simp only [← hji2]; first | rfl | (simp [errW_none, errW_some] <;> rfl)) | (simp [*, errW_none, errW_some] <;> rfl), by repeat (first | (with_reducible first | exact HB.1 | apply zc | apply za | apply zb) | exact HB.1)⟩
                ·
                 replace c20 := Bool.eq_false_iff.mpr c20
                 subst c20
                 have H1 : (if x8_1 = 4 then (if (wrap64 (bt a0 x8_1)) = 4 then (if 2 < (a0.size : Int) then (if (bt a0 2) > 5 then (some 4) else (impl_headFault.l0 kj16 a0 ji2 (wrap64 (x8_1 + 1)))) else (none)) else (impl_headFault.l0 kj16 a0 ji2 (wrap64 (x8_1 + 1)))) else (impl_headFault.l0 kj16 a0 ji2 (wrap64 (x8_1 + 1)))) = some r := by rw [if_neg (show ¬ (false = true) by decide)] at H; exact H
                 clear H
                 have H := H1
                 clear H1
                 by_cases c21 : x8_1 = 4
                 ·
                  rw [if_pos c21] at H
                  have c21b0 : (x8_1 == 4) = true := beq_iff_eq.mpr c21
                  have c21b1 : (x8_1 != 4) = false := bne_eq_false_iff_eq.mpr c21
                  clear c21
                  by_cases c22 : (wrap64 (bt a0 x8_1)) = 4
                  ·
                   rw [if_pos c22] at H
                   have c22b0 : ((wrap64 (bt a0 x8_1)) == 4) = true := beq_iff_eq.mpr c22
                   have c22b1 : ((wrap64 (bt a0 x8_1)) != 4) = false := bne_eq_false_iff_eq.mpr c22
                   clear c22
                   by_cases c23 : 2 < (a0.size : Int)
                   ·
                    rw [if_pos c23] at H
                    have c23b0 : decide (2 < (a0.size : Int)) = true := decide_eq_true c23
                    have c23b1 : decide (2 < a0.size) = true := decide_eq_true (by omega)
                    clear c23
                    by_cases c25 : (bt a0 2) > 5
                    ·
                     rw [if_pos c25] at H
                     have c25b0 : decide (5 < (bt a0 2)) = true := decide_eq_true c25
                     clear c25
                     obtain rfl := Option.some.inj H
                     have p24 : 0 ≤ (2 : Int) := (by omega)
                     have q24 : 2 < a0.size := (by have : (2 : Int) < (a0.size : Int) := of_decide_eq_true (by first | (with_reducible assumption) | assumption); omega)
                     have hx24 : ∀ h : 2 < a0.size, ((a0[2]'h).toNat : Int) = bt a0 2 := bt_at a0 2
                     clear p24
                     have qi24 : (2 < (a0.size : Int)) = True := eq_true (of_decide_eq_true (by first | (with_reducible assumption) | assumption))
                     replace q24 := eq_true q24
                     go_wp2
                     go_ret
                     exact ⟨by first | rfl | (simp [errW_none, errW_some] <;> rfl) | (simp only [← hji2]; first | rfl | (simp [errW_none, errW_some] <;> rfl)) | (simp [*, errW_none, errW_some] <;> rfl), by repeat (first | (with_reducible first | exact HB.1 | apply zc | apply za | apply zb) | exact HB.1)⟩
                    ·
                     rw [if_neg c25] at H
                     have c25b0 : decide (5 < (bt a0 2)) = false := decide_eq_false c25
                     clear c25
                     have H' := Aside0.mk H
                     clear H
                     have p24 : 0 ≤ (2 : Int) := (by omega)
                     have q24 : 2 < a0.size := (by have : (2 : Int) < (a0.size : Int) := of_decide_eq_true (by first | (with_reducible assumption) | assumption); omega)
                     have hx24 : ∀ h : 2 < a0.size, ((a0[2]'h).toNat : Int) = bt a0 2 := bt_at a0 2
                     clear p24
                     have qi24 : (2 < (a0.size : Int)) = True := eq_true (of_decide_eq_true (by first | (with_reducible assumption) | assumption))
                     replace q24 := eq_true q24
                     go_wp2
                     go_roundg kj16
                     case measure => have := HK1.1; have := HJ6.1; have := HJ9.1; have := HJ12.1; have := HJ16.1; omega
                     case rel => exact ⟨(wrap64 (x8_1 + 1)), (by first | rfl | (simp; done) | (simp [*]; done)), H', ⟨by have := HK1.1; have := HJ6.1; have := HJ9.1; have := HJ12.1; have := HJ16.1; omega⟩, ⟨by repeat (first | (with_reducible first | exact HB.1 | apply zc | apply za | apply zb) | exact HB.1)⟩⟩
                   ·
                    rw [if_neg c23] at H
                    exact absurd H (by simp)
                  ·
                   rw [if_neg c22] at H
                   have c22b0 : ((wrap64 (bt a0 x8_1)) == 4) = false := beq_eq_false_iff_ne.mpr c22
                   have c22b1 : ((wrap64 (bt a0 x8_1)) != 4) = true := bne_iff_ne.mpr c22
                   have H' := Aside0.mk H
                   clear H
                   go_wp2
                   go_roundg kj16
                   case measure => have := HK1.1; have := HJ6.1; have := HJ9.1; have := HJ12.1; have := HJ16.1; omega
                   case rel => exact ⟨(wrap64 (x8_1 + 1)), (by first | rfl | (simp; done) | (simp [*]; done)), H', ⟨by have := HK1.1; have := HJ6.1; have := HJ9.1; have := HJ12.1; have := HJ16.1; omega⟩, ⟨by repeat (first | (with_reducible first | exact HB.1 | apply zc | apply za | apply zb) | exact HB.1)⟩⟩
                 ·
                  rw [if_neg c21] at H
                  have c21b0 : (x8_1 == 4) = false := beq_eq_false_iff_ne.mpr c21
                  have c21b1 : (x8_1 != 4) = true := bne_iff_ne.mpr c21
                  have H' := Aside0.mk H
                  clear H
                  go_wp2
                  go_roundg kj16
                  case measure => have := HK1.1; have := HJ6.1; have := HJ9.1; have := HJ12.1; have := HJ16.1; omega
                  case rel => exact ⟨(wrap64 (x8_1 + 1)), (by first | rfl | (simp; done) | (simp [*]; done)), H', ⟨by have := HK1.1; have := HJ6.1; have := HJ9.1; have := HJ12.1; have := HJ16.1; omega⟩, ⟨by repeat (first | (with_reducible first | exact HB.1 | apply zc | apply za | apply zb) | exact HB.1)⟩⟩
     ·
      rw [if_neg c5] at H
      exact absurd H (by simp)
    ·
     rw [if_neg c4] at H
     exact absurd H (by simp)
   ·
    rw [if_neg c3] at H
    have c3b0 : decide (x8_1 < ji2) = false := decide_eq_false c3
    clear c3
    obtain rfl := Option.some.inj H
    go_wp2
    go_ret
    exact ⟨by first | rfl | (simp [errW_none, errW_some] <;> rfl) | (simp only [← hji2]; first | rfl | (simp [errW_none, errW_some] <;> rfl)) | (simp [*, errW_none, errW_some] <;> rfl), by repeat (first | (with_reducible first | exact HB.1 | apply zc | apply za | apply zb) | exact HB.1)⟩

end Go.Proofs.Ytkkchcalhomgcaa.PFnExactTakeMsg
