/- Written by this session's own program over the kit's print: Lean functions that tell what Go functions answer, each with a proof that the call does so. No condition but what each statement says. -/
import Derived.Test.YtkkchcalhomgcaaPFnExactTakeMsgx0
import Derived.Test.YtkkchcalhomgcaaPFnExactTakeMsgx2
namespace Go.Proofs.Ytkkchcalhomgcaa.PFnExactTakeMsg
open Go.RowKit Go.Proofs.YtkkchcalhomgcaaW.PrintWords Go.Proofs.YtkkchcalhomgcaaW.PrintLast Go.Proofs.YtkkchcalhomgcaaW.PrintMore
open Go.Proofs.YtkkchcalhomgcaaW.PrintLast renaming i64_w → zh, i32_w → zi
open Go.Proofs.YtkkchcalhomgcaaW.PrintWords renaming Aside0 → zf, Drawn0 → zj
open Go.Proofs.YtkkchcalhomgcaaW.PrintWords.Drawn0 renaming step → za, refl → zb
open Go.Proofs.YtkkchcalhomgcaaW.PrintWords.LeO renaming none → zc, bind → zd, ite → ze, refl → zg
attribute [local go_sem] max2_int min2_int max_two min_two max_three min_three max_four min_four   -- for this text's walks alone
set_option linter.unusedVariables false
set_option linter.unusedSimpArgs false

/-! ### spec_l5Fault: function 103 -/
mutual
def spec_l5Fault.l0 : Nat → ByteArray → Int → Option (Int)
 | 0, _, _ => none
 | k + 1, x0, x3 => if x3 < (x0.size : Int) then (spec_l5Fault.j1 k x0 x3 (decide (x3 < 5))) else (spec_l5Fault.j1 k x0 x3 false)
def spec_l5Fault.j1 : Nat → ByteArray → Int → Bool → Option (Int)
 | 0, _, _, _ => none
 | k + 1, x0, x3, x12 => if x12 = true then (if 0 ≤ x3 then (if x3 < (x0.size : Int) then (if x3 < 2 then (spec_l5Fault.j2 k x0 x3 (wrap64 (bt x0 x3)) ((wrap64 (bt x0 x3)) != 255)) else (spec_l5Fault.j2 k x0 x3 (wrap64 (bt x0 x3)) false)) else (none)) else (none)) else (some 0)
def spec_l5Fault.j2 : Nat → ByteArray → Int → Int → Bool → Option (Int)
 | 0, _, _, _, _ => none
 | k + 1, x0, x3, x4, x19 => if x19 = true then (some 1) else (if x3 = 2 then ((spec_l1In.f x4 5 65).bind fun t146 => (spec_l5Fault.j3 k x0 x3 x4 (!t146))) else (spec_l5Fault.j3 k x0 x3 x4 false))
def spec_l5Fault.j3 : Nat → ByteArray → Int → Int → Bool → Option (Int)
 | 0, _, _, _, _ => none
 | k + 1, x0, x3, x4, x26 => if x26 = true then (spec_l5Fault.j4 k x0 x3 x4 x26) else (if x3 = 3 then (spec_l5Fault.j4 k x0 x3 x4 (x4 != 0)) else (spec_l5Fault.j4 k x0 x3 x4 false))
def spec_l5Fault.j4 : Nat → ByteArray → Int → Int → Bool → Option (Int)
 | 0, _, _, _, _ => none
 | k + 1, x0, x3, x4, x26 => if x26 = true then (some 2) else (if x3 = 4 then ((spec_l1In.f x4 1 4).bind fun t147 => (spec_l5Fault.j5 k x0 x3 x4 (!t147))) else (spec_l5Fault.j5 k x0 x3 x4 false))
def spec_l5Fault.j5 : Nat → ByteArray → Int → Int → Bool → Option (Int)
 | 0, _, _, _, _ => none
 | k + 1, x0, x3, x4, x40 => if x40 = true then (some 3) else (if x3 = 4 then (if x4 = 4 then (if 2 < (x0.size : Int) then (if (bt x0 2) = 5 then (spec_l5Fault.l0 k x0 (wrap64 (x3 + 1))) else (some 4)) else (none)) else (spec_l5Fault.l0 k x0 (wrap64 (x3 + 1)))) else (spec_l5Fault.l0 k x0 (wrap64 (x3 + 1))))
end
def spec_l5Fault.f (k : Nat) (a0 : ByteArray) : Option (Int) := spec_l5Fault.l0 k a0 0
theorem spec_l5Fault.mono_l : ∀ k, (∀ y0 y1, LeO (spec_l5Fault.l0 k y0 y1) (spec_l5Fault.l0 (k + 1) y0 y1)) ∧ (∀ y0 y1 y2, LeO (spec_l5Fault.j1 k y0 y1 y2) (spec_l5Fault.j1 (k + 1) y0 y1 y2)) ∧ (∀ y0 y1 y2 y3, LeO (spec_l5Fault.j2 k y0 y1 y2 y3) (spec_l5Fault.j2 (k + 1) y0 y1 y2 y3)) ∧ (∀ y0 y1 y2 y3, LeO (spec_l5Fault.j3 k y0 y1 y2 y3) (spec_l5Fault.j3 (k + 1) y0 y1 y2 y3)) ∧ (∀ y0 y1 y2 y3, LeO (spec_l5Fault.j4 k y0 y1 y2 y3) (spec_l5Fault.j4 (k + 1) y0 y1 y2 y3)) ∧ (∀ y0 y1 y2 y3, LeO (spec_l5Fault.j5 k y0 y1 y2 y3) (spec_l5Fault.j5 (k + 1) y0 y1 y2 y3))
 | 0 => ⟨fun _ _ r h => by simp [spec_l5Fault.l0] at h, fun _ _ _ r h => by simp [spec_l5Fault.j1] at h, fun _ _ _ _ r h => by simp [spec_l5Fault.j2] at h, fun _ _ _ _ r h => by simp [spec_l5Fault.j3] at h, fun _ _ _ _ r h => by simp [spec_l5Fault.j4] at h, fun _ _ _ _ r h => by simp [spec_l5Fault.j5] at h⟩
 | k + 1 => by
  obtain ⟨ih0, ih1, ih2, ih3, ih4, ih5⟩ := spec_l5Fault.mono_l k
  refine ⟨?_, ?_, ?_, ?_, ?_, ?_⟩
  ·
   intro y0 y1
   unfold spec_l5Fault.l0
   repeat' first
   | (with_reducible exact ih0 _ _)
   | (with_reducible exact ih1 _ _ _)
   | (with_reducible exact ih2 _ _ _ _)
   | (with_reducible exact ih3 _ _ _ _)
   | (with_reducible exact ih4 _ _ _ _)
   | (with_reducible exact ih5 _ _ _ _)
   | (with_reducible exact zg _)
   | (with_reducible exact zc _)
   | (with_reducible refine ze ?_ ?_)
   | (with_reducible refine zd ?_ (fun _ => ?_))
   | exact ih0 _ _
   | exact ih1 _ _ _
   | exact ih2 _ _ _ _
   | exact ih3 _ _ _ _
   | exact ih4 _ _ _ _
   | exact ih5 _ _ _ _
   | exact zc _
   | refine ze ?_ ?_
   | refine zd ?_ (fun _ => ?_)
  ·
   intro y0 y1 y2
   unfold spec_l5Fault.j1
   repeat' first
   | (with_reducible exact ih0 _ _)
   | (with_reducible exact ih1 _ _ _)
   | (with_reducible exact ih2 _ _ _ _)
   | (with_reducible exact ih3 _ _ _ _)
   | (with_reducible exact ih4 _ _ _ _)
   | (with_reducible exact ih5 _ _ _ _)
   | (with_reducible exact zg _)
   | (with_reducible exact zc _)
   | (with_reducible refine ze ?_ ?_)
   | (with_reducible refine zd ?_ (fun _ => ?_))
   | exact ih0 _ _
   | exact ih1 _ _ _
   | exact ih2 _ _ _ _
   | exact ih3 _ _ _ _
   | exact ih4 _ _ _ _
   | exact ih5 _ _ _ _
   | exact zc _
   | refine ze ?_ ?_
   | refine zd ?_ (fun _ => ?_)
  ·
   intro y0 y1 y2 y3
   unfold spec_l5Fault.j2
   repeat' first
   | (with_reducible exact ih0 _ _)
   | (with_reducible exact ih1 _ _ _)
   | (with_reducible exact ih2 _ _ _ _)
   | (with_reducible exact ih3 _ _ _ _)
   | (with_reducible exact ih4 _ _ _ _)
   | (with_reducible exact ih5 _ _ _ _)
   | (with_reducible exact zg _)
   | (with_reducible exact zc _)
   | (with_reducible refine ze ?_ ?_)
   | (with_reducible refine zd ?_ (fun _ => ?_))
   | exact ih0 _ _
   | exact ih1 _ _ _
   | exact ih2 _ _ _ _
   | exact ih3 _ _ _ _
   | exact ih4 _ _ _ _
   | exact ih5 _ _ _ _
   | exact zc _
   | refine ze ?_ ?_
   | refine zd ?_ (fun _ => ?_)
  ·
   intro y0 y1 y2 y3
   unfold spec_l5Fault.j3
   repeat' first
   | (with_reducible exact ih0 _ _)
   | (with_reducible exact ih1 _ _ _)
   | (with_reducible exact ih2 _ _ _ _)
   | (with_reducible exact ih3 _ _ _ _)
   | (with_reducible exact ih4 _ _ _ _)
   | (with_reducible exact ih5 _ _ _ _)
   | (with_reducible exact zg _)
   | (with_reducible exact zc _)
   | (with_reducible refine ze ?_ ?_)
   | (with_reducible refine zd ?_ (fun _ => ?_))
   | exact ih0 _ _
   | exact ih1 _ _ _
   | exact ih2 _ _ _ _
   | exact ih3 _ _ _ _
   | exact ih4 _ _ _ _
   | exact ih5 _ _ _ _
   | exact zc _
   | refine ze ?_ ?_
   | refine zd ?_ (fun _ => ?_)
  ·
   intro y0 y1 y2 y3
   unfold spec_l5Fault.j4
   repeat' first
   | (with_reducible exact ih0 _ _)
   | (with_reducible exact ih1 _ _ _)
   | (with_reducible exact ih2 _ _ _ _)
   | (with_reducible exact ih3 _ _ _ _)
   | (with_reducible exact ih4 _ _ _ _)
   | (with_reducible exact ih5 _ _ _ _)
   | (with_reducible exact zg _)
   | (with_reducible exact zc _)
   | (with_reducible refine ze ?_ ?_)
   | (with_reducible refine zd ?_ (fun _ => ?_))
   | exact ih0 _ _
   | exact ih1 _ _ _
   | exact ih2 _ _ _ _
   | exact ih3 _ _ _ _
   | exact ih4 _ _ _ _
   | exact ih5 _ _ _ _
   | exact zc _
   | refine ze ?_ ?_
   | refine zd ?_ (fun _ => ?_)
  ·
   intro y0 y1 y2 y3
   unfold spec_l5Fault.j5
   repeat' first
   | (with_reducible exact ih0 _ _)
   | (with_reducible exact ih1 _ _ _)
   | (with_reducible exact ih2 _ _ _ _)
   | (with_reducible exact ih3 _ _ _ _)
   | (with_reducible exact ih4 _ _ _ _)
   | (with_reducible exact ih5 _ _ _ _)
   | (with_reducible exact zg _)
   | (with_reducible exact zc _)
   | (with_reducible refine ze ?_ ?_)
   | (with_reducible refine zd ?_ (fun _ => ?_))
   | exact ih0 _ _
   | exact ih1 _ _ _
   | exact ih2 _ _ _ _
   | exact ih3 _ _ _ _
   | exact ih4 _ _ _ _
   | exact ih5 _ _ _ _
   | exact zc _
   | refine ze ?_ ?_
   | refine zd ?_ (fun _ => ?_)
theorem spec_l5Fault.mono : ∀ a0 k, LeO (spec_l5Fault.f k a0) (spec_l5Fault.f (k + 1) a0) := by
 intro a0 k
 obtain ⟨ih0, ih1, ih2, ih3, ih4, ih5⟩ := spec_l5Fault.mono_l k
 unfold spec_l5Fault.f
 repeat' first
   | (with_reducible exact ih0 _ _)
   | (with_reducible exact ih1 _ _ _)
   | (with_reducible exact ih2 _ _ _ _)
   | (with_reducible exact ih3 _ _ _ _)
   | (with_reducible exact ih4 _ _ _ _)
   | (with_reducible exact ih5 _ _ _ _)
   | (with_reducible exact zg _)
   | (with_reducible exact zc _)
   | (with_reducible refine ze ?_ ?_)
   | (with_reducible refine zd ?_ (fun _ => ?_))
   | exact ih0 _ _
   | exact ih1 _ _ _
   | exact ih2 _ _ _ _
   | exact ih3 _ _ _ _
   | exact ih4 _ _ _ _
   | exact ih5 _ _ _ _
   | exact zc _
   | refine ze ?_ ?_
   | refine zd ?_ (fun _ => ?_)
set_option maxHeartbeats 8000000 in
set_option maxRecDepth 100000 in
theorem spec_l5Fault.calls (k : Nat) (a0 : ByteArray) (r : Int) (w : World) (h : spec_l5Fault.f k a0 = some r) :
  Calls Try.prog 103 #[.string a0] w fun e w' => e = .returned (.int .i64 r) ∧ zj w w' := by
 have H : (spec_l5Fault.l0 k a0 0) = some r := h
 clear h
 have H' := Aside0.mk H
 clear H
 go_enter Try.func103, Try.ntmps103
 go_wp2
 go_loopg [3] k (fun kq v3 w' => ∃ (x3_1 : Int), v3 = .int .i64 x3_1 ∧ zf (spec_l5Fault.l0 kq a0 x3_1 = some r) ∧ zf (kq ≤ k) ∧ zj w w')
 case atStart => exact ⟨(0), (by first | rfl | (simp; done) | (simp [*]; done)), H', ⟨Nat.le_refl _⟩, by repeat (first | exact zb _ | apply za)⟩
 case round =>
  clear H'
  (try clear c1)
  obtain ⟨x3_1, rfl, HA, HK1, ⟨m1, rfl⟩⟩ := hrel
  cases gk with
  | zero => exact absurd HA.1 (by simp [spec_l5Fault.l0])
  | succ k1 =>
   have H := HA.1
   clear HA
   simp only [spec_l5Fault.l0] at H
   have HC2 := Aside0.mk H
   clear H
   go_upto_region 2 with (fail)
   go_cut [12] (fun v12 wc => ∃ (kq : Nat) (x12_1 : Bool), v12 = .bool x12_1 ∧ zf (spec_l5Fault.j1 kq a0 x3_1 x12_1 = some r) ∧ zf (kq ≤ k1) ∧ zj w wc)
   case first =>
    have H := HC2.1
    clear HC2
    by_cases c3 : x3_1 < (a0.size : Int)
    ·
     rw [if_pos c3] at H
     have c3b0 : decide (x3_1 < (a0.size : Int)) = true := decide_eq_true c3
     clear c3
     (first | rw [c3b0] | (simp only [zh, zi]; rw [c3b0]) | skip)
     have H' := Aside0.mk H
     clear H
     go_wp2
     go_meet
     case rel => exact ⟨_, (decide (x3_1 < 5)), (by first | rfl | (simp; done) | (simp [*]; done)), H', ⟨by have := HK1.1; first | omega | exact Nat.le_refl _⟩, by repeat (first | exact zb _ | apply za)⟩
    ·
     rw [if_neg c3] at H
     have c3b0 : decide (x3_1 < (a0.size : Int)) = false := decide_eq_false c3
     clear c3
     (first | rw [c3b0] | (simp only [zh, zi]; rw [c3b0]) | skip)
     have H' := Aside0.mk H
     clear H
     go_wp2
     go_meet
     case rel => exact ⟨_, (false), (by first | rfl | (simp; done) | (simp [*]; done)), H', ⟨by have := HK1.1; first | omega | exact Nat.le_refl _⟩, by repeat (first | exact zb _ | apply za)⟩
   case rest =>
    clear HC2
    (try clear c1); (try clear p2); (try clear c3); (try clear c3b0)
    obtain ⟨kq, x12_1, rfl, HA, HJ1, ⟨mc1, rfl⟩⟩ := hcut
    cases kq with
    | zero => exact absurd HA.1 (by simp [spec_l5Fault.j1])
    | succ kj1 =>
     have H := HA.1
     clear HA
     simp only [spec_l5Fault.j1] at H
     by_cases c4 : x12_1 = true
     ·
      subst c4
      have H1 : (if 0 ≤ x3_1 then (if x3_1 < (a0.size : Int) then (if x3_1 < 2 then (spec_l5Fault.j2 kj1 a0 x3_1 (wrap64 (bt a0 x3_1)) ((wrap64 (bt a0 x3_1)) != 255)) else (spec_l5Fault.j2 kj1 a0 x3_1 (wrap64 (bt a0 x3_1)) false)) else (none)) else (none)) = some r := by rw [if_pos rfl] at H; exact H
      clear H
      have H := H1
      clear H1
      by_cases c5 : 0 ≤ x3_1
      ·
       rw [if_pos c5] at H
       have c5b0 : decide (0 ≤ x3_1) = true := decide_eq_true c5
       clear c5
       by_cases c6 : x3_1 < (a0.size : Int)
       ·
        rw [if_pos c6] at H
        have c6b0 : decide (x3_1 < (a0.size : Int)) = true := decide_eq_true c6
        clear c6
        have HC8 := Aside0.mk H
        clear H
        have p7 : 0 ≤ (x3_1 : Int) := of_decide_eq_true (by first | (with_reducible assumption) | assumption)
        have q7 : x3_1 < (a0.size : Int) := of_decide_eq_true (by first | (with_reducible assumption) | assumption)
        have hx7 := bt_at a0 x3_1
        replace p7 := eq_true p7
        replace q7 := eq_true q7
        go_upto_region 5 with (fail)
        go_cut [19] (fun v19 wc => ∃ (kq : Nat) (x19_7 : Bool), v19 = .bool x19_7 ∧ zf (spec_l5Fault.j2 kq a0 x3_1 (wrap64 (bt a0 x3_1)) x19_7 = some r) ∧ zf (kq ≤ kj1) ∧ zj w wc)
        case first =>
         have H := HC8.1
         clear HC8
         by_cases c9 : x3_1 < 2
         ·
          rw [if_pos c9] at H
          have c9b0 : decide (x3_1 < 2) = true := decide_eq_true c9
          clear c9
          (first | rw [c9b0] | (simp only [zh, zi]; rw [c9b0]) | skip)
          have H' := Aside0.mk H
          clear H
          go_wp2
          go_meet
          case rel => exact ⟨_, (((wrap64 (bt a0 x3_1)) != 255)), (by first | rfl | (simp; done) | (simp [*]; done)), H', ⟨by have := HK1.1; have := HJ1.1; first | omega | exact Nat.le_refl _⟩, by repeat (first | exact zb _ | apply za)⟩
         ·
          rw [if_neg c9] at H
          have c9b0 : decide (x3_1 < 2) = false := decide_eq_false c9
          clear c9
          (first | rw [c9b0] | (simp only [zh, zi]; rw [c9b0]) | skip)
          have H' := Aside0.mk H
          clear H
          go_wp2
          go_meet
          case rel => exact ⟨_, (false), (by first | rfl | (simp; done) | (simp [*]; done)), H', ⟨by have := HK1.1; have := HJ1.1; first | omega | exact Nat.le_refl _⟩, by repeat (first | exact zb _ | apply za)⟩
        case rest =>
         clear HC8
         (try clear c1); (try clear p2); (try clear c3); (try clear c3b0); (try clear c4); (try clear c5); (try clear c5b0); (try clear c6); (try clear c6b0); (try clear p6); (try clear p7); (try clear q7); (try clear hx7); (try clear c9); (try clear c9b0); (try clear p2); (try clear p7); (try clear q7)
         obtain ⟨kq, x19_7, rfl, HA, HJ7, ⟨mc7, rfl⟩⟩ := hcut
         cases kq with
         | zero => exact absurd HA.1 (by simp [spec_l5Fault.j2])
         | succ kj7 =>
          have H := HA.1
          clear HA
          simp only [spec_l5Fault.j2] at H
          by_cases c10 : x19_7 = true
          ·
           subst c10
           have H1 : (some 1) = some r := by rw [if_pos rfl] at H; exact H
           clear H
           have H := H1
           clear H1
           obtain rfl := Option.some.inj H
           go_wp2
           go_ret
           exact ⟨by first | rfl | (simp; done) | (simp [*]; done), by repeat (first | exact zb _ | apply za)⟩
          ·
           replace c10 := Bool.eq_false_iff.mpr c10
           subst c10
           have H1 : (if x3_1 = 2 then ((spec_l1In.f (wrap64 (bt a0 x3_1)) 5 65).bind fun t146 => (spec_l5Fault.j3 kj7 a0 x3_1 (wrap64 (bt a0 x3_1)) (!t146))) else (spec_l5Fault.j3 kj7 a0 x3_1 (wrap64 (bt a0 x3_1)) false)) = some r := by rw [if_neg (show ¬ (false = true) by decide)] at H; exact H
           clear H
           have H := H1
           clear H1
           have HC11 := Aside0.mk H
           clear H
           go_upto_region 7 with (fail)
           go_cut [26] (fun v26 wc => ∃ (kq : Nat) (x26_10 : Bool), v26 = .bool x26_10 ∧ zf (spec_l5Fault.j3 kq a0 x3_1 (wrap64 (bt a0 x3_1)) x26_10 = some r) ∧ zf (kq ≤ kj7) ∧ zj w wc)
           case first =>
            have H := HC11.1
            clear HC11
            by_cases c12 : x3_1 = 2
            ·
             rw [if_pos c12] at H
             have c12b0 : (x3_1 == 2) = true := beq_iff_eq.mpr c12
             have c12b1 : (x3_1 != 2) = false := bne_eq_false_iff_eq.mpr c12
             clear c12
             (first | rw [c12b0] | (simp only [zh, zi]; rw [c12b0]) | skip)
             replace H := Option.bind_eq_some_iff.mp H
             obtain ⟨t146, A130, H⟩ := H
             replace H : (spec_l5Fault.j3 kj7 a0 x3_1 (wrap64 (bt a0 x3_1)) (!t146)) = some r := H
             have A13 := Aside0.mk A130
             clear A130
             have H' := Aside0.mk H
             clear H
             go_wp2_with (first | (go_at_call 62; (with_reducible refine (spec_l1In.calls (wrap64 (bt a0 x3_1)) 5 65 t146 _ A13.1).mono ?_); rintro e w' ⟨rfl, ⟨nd, rfl⟩⟩))
             go_meet
             case rel => exact ⟨_, (!t146), (by first | rfl | (simp; done) | (simp [*]; done)), H', ⟨by have := HK1.1; have := HJ1.1; have := HJ7.1; first | omega | exact Nat.le_refl _⟩, by repeat (first | exact zb _ | apply za)⟩
            ·
             rw [if_neg c12] at H
             have c12b0 : (x3_1 == 2) = false := beq_eq_false_iff_ne.mpr c12
             have c12b1 : (x3_1 != 2) = true := bne_iff_ne.mpr c12
             (first | rw [c12b0] | (simp only [zh, zi]; rw [c12b0]) | skip)
             have H' := Aside0.mk H
             clear H
             go_wp2
             go_meet
             case rel => exact ⟨_, (false), (by first | rfl | (simp; done) | (simp [*]; done)), H', ⟨by have := HK1.1; have := HJ1.1; have := HJ7.1; first | omega | exact Nat.le_refl _⟩, by repeat (first | exact zb _ | apply za)⟩
           case rest =>
            clear HC11
            (try clear c1); (try clear p2); (try clear c3); (try clear c3b0); (try clear c4); (try clear c5); (try clear c5b0); (try clear c6); (try clear c6b0); (try clear p6); (try clear c7); (try clear p7); (try clear q7); (try clear hx7); (try clear c9); (try clear c9b0); (try clear c10); (try clear c12); (try clear c12b0); (try clear c12b1); (try clear p2); (try clear p6); (try clear p7); (try clear q7)
            obtain ⟨kq, x26_10, rfl, HA, HJ10, ⟨mc10, rfl⟩⟩ := hcut
            cases kq with
            | zero => exact absurd HA.1 (by simp [spec_l5Fault.j3])
            | succ kj10 =>
             have H := HA.1
             clear HA
             simp only [spec_l5Fault.j3] at H
             have HC14 := Aside0.mk H
             clear H
             go_upto_if 26 with (fail)
             go_cut [26] (fun v26 wc => ∃ (kq : Nat) (x26_13 : Bool), v26 = .bool x26_13 ∧ zf (spec_l5Fault.j4 kq a0 x3_1 (wrap64 (bt a0 x3_1)) x26_13 = some r) ∧ zf (kq ≤ kj10) ∧ zj w wc)
             case first =>
              have H := HC14.1
              clear HC14
              by_cases c15 : x26_10 = true
              ·
               subst c15
               have H1 : (spec_l5Fault.j4 kj10 a0 x3_1 (wrap64 (bt a0 x3_1)) true) = some r := by rw [if_pos rfl] at H; exact H
               clear H
               have H := H1
               clear H1
               have H' := Aside0.mk H
               clear H
               go_wp2
               go_meet
               case rel => exact ⟨_, (true), (by first | rfl | (simp; done) | (simp [*]; done)), H', ⟨by have := HK1.1; have := HJ1.1; have := HJ7.1; have := HJ10.1; first | omega | exact Nat.le_refl _⟩, by repeat (first | exact zb _ | apply za)⟩
              ·
               replace c15 := Bool.eq_false_iff.mpr c15
               subst c15
               have H1 : (if x3_1 = 3 then (spec_l5Fault.j4 kj10 a0 x3_1 (wrap64 (bt a0 x3_1)) ((wrap64 (bt a0 x3_1)) != 0)) else (spec_l5Fault.j4 kj10 a0 x3_1 (wrap64 (bt a0 x3_1)) false)) = some r := by rw [if_neg (show ¬ (false = true) by decide)] at H; exact H
               clear H
               have H := H1
               clear H1
               by_cases c16 : x3_1 = 3
               ·
                rw [if_pos c16] at H
                have c16b0 : (x3_1 == 3) = true := beq_iff_eq.mpr c16
                have c16b1 : (x3_1 != 3) = false := bne_eq_false_iff_eq.mpr c16
                clear c16
                (first | rw [c16b0] | (simp only [zh, zi]; rw [c16b0]) | skip)
                have H' := Aside0.mk H
                clear H
                go_wp2
                go_meet
                case rel => exact ⟨_, (((wrap64 (bt a0 x3_1)) != 0)), (by first | rfl | (simp; done) | (simp [*]; done)), H', ⟨by have := HK1.1; have := HJ1.1; have := HJ7.1; have := HJ10.1; first | omega | exact Nat.le_refl _⟩, by repeat (first | exact zb _ | apply za)⟩
               ·
                rw [if_neg c16] at H
                have c16b0 : (x3_1 == 3) = false := beq_eq_false_iff_ne.mpr c16
                have c16b1 : (x3_1 != 3) = true := bne_iff_ne.mpr c16
                (first | rw [c16b0] | (simp only [zh, zi]; rw [c16b0]) | skip)
                have H' := Aside0.mk H
                clear H
                go_wp2
                go_meet
                case rel => exact ⟨_, (false), (by first | rfl | (simp; done) | (simp [*]; done)), H', ⟨by have := HK1.1; have := HJ1.1; have := HJ7.1; have := HJ10.1; first | omega | exact Nat.le_refl _⟩, by repeat (first | exact zb _ | apply za)⟩
             case rest =>
              clear HC14
              (try clear c1); (try clear p2); (try clear c3); (try clear c3b0); (try clear c4); (try clear c5); (try clear c5b0); (try clear c6); (try clear c6b0); (try clear p6); (try clear c7); (try clear p7); (try clear q7); (try clear hx7); (try clear c9); (try clear c9b0); (try clear c10); (try clear c12); (try clear c12b0); (try clear c12b1); (try clear c15); (try clear c16); (try clear c16b0); (try clear c16b1); (try clear p2); (try clear p6); (try clear p7); (try clear q7)
              obtain ⟨kq, x26_13, rfl, HA, HJ13, ⟨mc13, rfl⟩⟩ := hcut
              cases kq with
              | zero => exact absurd HA.1 (by simp [spec_l5Fault.j4])
              | succ kj13 =>
               have H := HA.1
               clear HA
               simp only [spec_l5Fault.j4] at H
               by_cases c17 : x26_13 = true
               ·
                subst c17
                have H1 : (some 2) = some r := by rw [if_pos rfl] at H; exact H
                clear H
                have H := H1
                clear H1
                obtain rfl := Option.some.inj H
                go_wp2
                go_ret
                exact ⟨by first | rfl | (simp; done) | (simp [*]; done), by repeat (first | exact zb _ | apply za)⟩
               ·
                replace c17 := Bool.eq_false_iff.mpr c17
                subst c17
                have H1 : (if x3_1 = 4 then ((spec_l1In.f (wrap64 (bt a0 x3_1)) 1 4).bind fun t147 => (spec_l5Fault.j5 kj13 a0 x3_1 (wrap64 (bt a0 x3_1)) (!t147))) else (spec_l5Fault.j5 kj13 a0 x3_1 (wrap64 (bt a0 x3_1)) false)) = some r := by rw [if_neg (show ¬ (false = true) by decide)] at H; exact H
                clear H
                have H := H1
                clear H1
                have HC18 := Aside0.mk H
                clear H
                go_upto_region 10 with (fail)
                go_cut [40] (fun v40 wc => ∃ (kq : Nat) (x40_17 : Bool), v40 = .bool x40_17 ∧ zf (spec_l5Fault.j5 kq a0 x3_1 (wrap64 (bt a0 x3_1)) x40_17 = some r) ∧ zf (kq ≤ kj13) ∧ zj w wc)
                case first =>
                 have H := HC18.1
                 clear HC18
                 by_cases c19 : x3_1 = 4
                 ·
                  rw [if_pos c19] at H
                  have c19b0 : (x3_1 == 4) = true := beq_iff_eq.mpr c19
                  have c19b1 : (x3_1 != 4) = false := bne_eq_false_iff_eq.mpr c19
                  clear c19
                  (first | rw [c19b0] | (simp only [zh, zi]; rw [c19b0]) | skip)
                  replace H := Option.bind_eq_some_iff.mp H
                  obtain ⟨t147, A200, H⟩ := H
                  replace H : (spec_l5Fault.j5 kj13 a0 x3_1 (wrap64 (bt a0 x3_1)) (!t147)) = some r := H
                  have A20 := Aside0.mk A200
                  clear A200
                  have H' := Aside0.mk H
                  clear H
                  go_wp2_with (first | (go_at_call 62; (with_reducible refine (spec_l1In.calls (wrap64 (bt a0 x3_1)) 1 4 t147 _ A20.1).mono ?_); rintro e w' ⟨rfl, ⟨nd, rfl⟩⟩))
                  go_meet
                  case rel => exact ⟨_, (!t147), (by first | rfl | (simp; done) | (simp [*]; done)), H', ⟨by have := HK1.1; have := HJ1.1; have := HJ7.1; have := HJ10.1; have := HJ13.1; first | omega | exact Nat.le_refl _⟩, by repeat (first | exact zb _ | apply za)⟩
                 ·
                  rw [if_neg c19] at H
                  have c19b0 : (x3_1 == 4) = false := beq_eq_false_iff_ne.mpr c19
                  have c19b1 : (x3_1 != 4) = true := bne_iff_ne.mpr c19
                  (first | rw [c19b0] | (simp only [zh, zi]; rw [c19b0]) | skip)
                  have H' := Aside0.mk H
                  clear H
                  go_wp2
                  go_meet
                  case rel => exact ⟨_, (false), (by first | rfl | (simp; done) | (simp [*]; done)), H', ⟨by have := HK1.1; have := HJ1.1; have := HJ7.1; have := HJ10.1; have := HJ13.1; first | omega | exact Nat.le_refl _⟩, by repeat (first | exact zb _ | apply za)⟩
                case rest =>
                 clear HC18
                 (try clear c1); (try clear p2); (try clear c3); (try clear c3b0); (try clear c4); (try clear c5); (try clear c5b0); (try clear c6); (try clear c6b0); (try clear p6); (try clear c7); (try clear p7); (try clear q7); (try clear hx7); (try clear c9); (try clear c9b0); (try clear c10); (try clear c12); (try clear c12b0); (try clear c12b1); (try clear c13); (try clear c15); (try clear c16); (try clear c16b0); (try clear c16b1); (try clear c17); (try clear c19); (try clear c19b0); (try clear c19b1); (try clear p2); (try clear p6); (try clear p7); (try clear q7)
                 obtain ⟨kq, x40_17, rfl, HA, HJ17, ⟨mc17, rfl⟩⟩ := hcut
                 cases kq with
                 | zero => exact absurd HA.1 (by simp [spec_l5Fault.j5])
                 | succ kj17 =>
                  have H := HA.1
                  clear HA
                  simp only [spec_l5Fault.j5] at H
                  by_cases c21 : x40_17 = true
                  ·
                   subst c21
                   have H1 : (some 3) = some r := by rw [if_pos rfl] at H; exact H
                   clear H
                   have H := H1
                   clear H1
                   obtain rfl := Option.some.inj H
                   go_wp2
                   go_ret
                   exact ⟨by first | rfl | (simp; done) | (simp [*]; done), by repeat (first | exact zb _ | apply za)⟩
                  ·
                   replace c21 := Bool.eq_false_iff.mpr c21
                   subst c21
                   have H1 : (if x3_1 = 4 then (if (wrap64 (bt a0 x3_1)) = 4 then (if 2 < (a0.size : Int) then (if (bt a0 2) = 5 then (spec_l5Fault.l0 kj17 a0 (wrap64 (x3_1 + 1))) else (some 4)) else (none)) else (spec_l5Fault.l0 kj17 a0 (wrap64 (x3_1 + 1)))) else (spec_l5Fault.l0 kj17 a0 (wrap64 (x3_1 + 1)))) = some r := by rw [if_neg (show ¬ (false = true) by decide)] at H; exact H
                   clear H
                   have H := H1
                   clear H1
                   by_cases c22 : x3_1 = 4
                   ·
                    rw [if_pos c22] at H
                    have c22b0 : (x3_1 == 4) = true := beq_iff_eq.mpr c22
                    have c22b1 : (x3_1 != 4) = false := bne_eq_false_iff_eq.mpr c22
                    clear c22
                    by_cases c23 : (wrap64 (bt a0 x3_1)) = 4
                    ·
                     rw [if_pos c23] at H
                     have c23b0 : ((wrap64 (bt a0 x3_1)) == 4) = true := beq_iff_eq.mpr c23
                     have c23b1 : ((wrap64 (bt a0 x3_1)) != 4) = false := bne_eq_false_iff_eq.mpr c23
                     clear c23
                     by_cases c24 : 2 < (a0.size : Int)
                     ·
                      rw [if_pos c24] at H
                      have c24b0 : decide (2 < (a0.size : Int)) = true := decide_eq_true c24
                      have c24b1 : decide (2 < a0.size) = true := decide_eq_true (by omega)
                      clear c24
                      by_cases c26 : (bt a0 2) = 5
                      ·
                       rw [if_pos c26] at H
                       have c26b0 : ((bt a0 2) == 5) = true := beq_iff_eq.mpr c26
                       have c26b1 : ((bt a0 2) != 5) = false := bne_eq_false_iff_eq.mpr c26
                       clear c26
                       have H' := Aside0.mk H
                       clear H
                       have p25 : 0 ≤ (2 : Int) := (by omega)
                       have q25 : 2 < a0.size := (by have : (2 : Int) < (a0.size : Int) := of_decide_eq_true (by first | (with_reducible assumption) | assumption); omega)
                       have hx25 : ∀ h : 2 < a0.size, ((a0[2]'h).toNat : Int) = bt a0 2 := bt_at a0 2
                       clear p25
                       have qi25 : (2 < (a0.size : Int)) = True := eq_true (of_decide_eq_true (by first | (with_reducible assumption) | assumption))
                       replace q25 := eq_true q25
                       go_wp2
                       go_roundg kj17
                       case measure => have := HK1.1; have := HJ1.1; have := HJ7.1; have := HJ10.1; have := HJ13.1; have := HJ17.1; omega
                       case rel => exact ⟨(wrap64 (x3_1 + 1)), (by first | rfl | (simp; done) | (simp [*]; done)), H', ⟨by have := HK1.1; have := HJ1.1; have := HJ7.1; have := HJ10.1; have := HJ13.1; have := HJ17.1; omega⟩, by repeat (first | exact zb _ | apply za)⟩
                      ·
                       rw [if_neg c26] at H
                       have c26b0 : ((bt a0 2) == 5) = false := beq_eq_false_iff_ne.mpr c26
                       have c26b1 : ((bt a0 2) != 5) = true := bne_iff_ne.mpr c26
                       obtain rfl := Option.some.inj H
                       have p25 : 0 ≤ (2 : Int) := (by omega)
                       have q25 : 2 < a0.size := (by have : (2 : Int) < (a0.size : Int) := of_decide_eq_true (by first | (with_reducible assumption) | assumption); omega)
                       have hx25 : ∀ h : 2 < a0.size, ((a0[2]'h).toNat : Int) = bt a0 2 := bt_at a0 2
                       clear p25
                       have qi25 : (2 < (a0.size : Int)) = True := eq_true (of_decide_eq_true (by first | (with_reducible assumption) | assumption))
                       replace q25 := eq_true q25
                       go_wp2
                       go_ret
                       exact ⟨by first | rfl | (simp; done) | (simp [*]; done), by repeat (first | exact zb _ | apply za)⟩
                     ·
                      rw [if_neg c24] at H
                      exact absurd H (by simp)
                    ·
                     rw [if_neg c23] at H
                     have c23b0 : ((wrap64 (bt a0 x3_1)) == 4) = false := beq_eq_false_iff_ne.mpr c23
                     have c23b1 : ((wrap64 (bt a0 x3_1)) != 4) = true := bne_iff_ne.mpr c23
                     have H' := Aside0.mk H
                     clear H
                     go_wp2
                     go_roundg kj17
                     case measure => have := HK1.1; have := HJ1.1; have := HJ7.1; have := HJ10.1; have := HJ13.1; have := HJ17.1; omega
                     case rel => exact ⟨(wrap64 (x3_1 + 1)), (by first | rfl | (simp; done) | (simp [*]; done)), H', ⟨by have := HK1.1; have := HJ1.1; have := HJ7.1; have := HJ10.1; have := HJ13.1; have := HJ17.1; omega⟩, by repeat (first | exact zb _ | apply za)⟩
                   ·
                    rw [if_neg c22] at H
                    have c22b0 : (x3_1 == 4) = false := beq_eq_false_iff_ne.mpr c22
                    have c22b1 : (x3_1 != 4) = true := bne_iff_ne.mpr c22
                    have H' := Aside0.mk H
                    clear H
                    go_wp2
                    go_roundg kj17
                    case measure => have := HK1.1; have := HJ1.1; have := HJ7.1; have := HJ10.1; have := HJ13.1; have := HJ17.1; omega
                    case rel => exact ⟨(wrap64 (x3_1 + 1)), (by first | rfl | (simp; done) | (simp [*]; done)), H', ⟨by have := HK1.1; have := HJ1.1; have := HJ7.1; have := HJ10.1; have := HJ13.1; have := HJ17.1; omega⟩, by repeat (first | exact zb _ | apply za)⟩
       ·
        rw [if_neg c6] at H
        exact absurd H (by simp)
      ·
       rw [if_neg c5] at H
       exact absurd H (by simp)
     ·
      replace c4 := Bool.eq_false_iff.mpr c4
      subst c4
      have H1 : (some 0) = some r := by rw [if_neg (show ¬ (false = true) by decide)] at H; exact H
      clear H
      have H := H1
      clear H1
      obtain rfl := Option.some.inj H
      go_wp2
      go_ret
      exact ⟨by first | rfl | (simp; done) | (simp [*]; done), by repeat (first | exact zb _ | apply za)⟩

end Go.Proofs.Ytkkchcalhomgcaa.PFnExactTakeMsg
