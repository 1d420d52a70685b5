/- Go functions told by Lean functions, printed by a program. No condition but what each statement says. -/
import Derived.Test.YtlnfcobloolnnaaYFnExactReadUpdatex15
namespace Go.Proofs.Ytlnfcobloolnnaa.PFnExactReadUpdate
open Go.RowKit Go.Proofs.YtlnfcobloolnnaaW.PrintWords Go.Proofs.YtlnfcobloolnnaaW.PrintLast Go.Proofs.YtlnfcobloolnnaaW.PrintMore
open Aside0 renaming mk → kz
set_option maxHeartbeats 8000000
set_option maxRecDepth 100000
open Go.Proofs.YtlnfcobloolnnaaW.PrintWords renaming pw_below_drewN → zb, keep_drewN → zc, keep_alloc → zd, below_drew1 → ze, below_alloc → zf, keep_drew → zg, below_set → zh
open Go.Proofs.YtlnfcobloolnnaaW.PrintWords.Kd renaming R_drewN → zi, R_alloc → zj, R_drew → zk
open Go.Proofs.YtlnfcobloolnnaaW.PrintWords.KeepBut renaming set_ → za
attribute [local go_sem] max2_int min2_int max_two min_two max_three min_three max_four min_four
set_option linter.unusedVariables false
set_option linter.unusedSimpArgs false

/-! ### impl_input_numbers: function 86 -/
def impl_input_numbers.l0 : Nat → Int → List Int → Int → ByteArray → Int → Int → Option (List Int × ByteArray × Int × Int)
 | 0, _, _, _, _, _, _ => none
 | k + 1, x1, x5, x6, x1000, x1001, x1002 => if x6 > 0 then (if x1002 = 0 then ((impl_input_number.f k x1000 x1001 x1002 x1).bind fun bt341 => (if x5.length < 17592186044416 then (impl_input_numbers.l0 k x1 (x5 ++ [bt341.1]) (wrap64 (x6 - 1)) bt341.2.1 bt341.2.2.1 bt341.2.2.2) else (none))) else (some (x5, x1000, x1001, x1002))) else (some (x5, x1000, x1001, x1002))
def impl_input_numbers.f (k : Nat) (s0_0 : ByteArray) (s0_1 : Int) (s0_2 : Int) (a1 : Int) : Option (List Int × ByteArray × Int × Int) := (impl_input_number.f k s0_0 s0_1 s0_2 1).bind fun bt337 => (impl_input_numbers.l0 k a1 (([] : List Int)) bt337.1 bt337.2.1 bt337.2.2.1 bt337.2.2.2)
theorem impl_input_numbers.mono_l : ∀ k, (∀ y0 y1 y2 y3 y4 y5, LeO (impl_input_numbers.l0 k y0 y1 y2 y3 y4 y5) (impl_input_numbers.l0 (k + 1) y0 y1 y2 y3 y4 y5))
 | 0 => fun _ _ _ _ _ _ r h => by simp [impl_input_numbers.l0] at h
 | k + 1 => by
  have ih0 := impl_input_numbers.mono_l k
  ·
   intro y0 y1 y2 y3 y4 y5; unfold impl_input_numbers.l0; repeat' first
   | (with_reducible exact ih0 _ _ _ _ _ _)
   | (with_reducible exact impl_input_number.mono _ _ _ _ _)
   | (with_reducible exact LeO.refl _)
   | (with_reducible refine LeO.ite ?_ ?_)
   | (with_reducible refine LeO.bind ?_ (fun _ => ?_))
theorem impl_input_numbers.mono : ∀ a0 a1 a2 a3 k, LeO (impl_input_numbers.f k a0 a1 a2 a3) (impl_input_numbers.f (k + 1) a0 a1 a2 a3) := by
 intro a0 a1 a2 a3 k; have ih0 := impl_input_numbers.mono_l k; unfold impl_input_numbers.f
 repeat' first
   | (with_reducible exact ih0 _ _ _ _ _ _)
   | (with_reducible exact impl_input_number.mono _ _ _ _ _)
   | (with_reducible refine LeO.bind ?_ (fun _ => ?_))
theorem impl_input_numbers.calls (k : Nat) (g : Nat) (s0_0 : ByteArray) (s0_1 : Int) (s0_2 : Int) (a1 : Int) (r1 : List Int) (r2 : ByteArray) (r3 : Int) (r4 : Int) (w0 w : World) (hI : IsS85 w0 w g s0_0 s0_1 s0_2) (hB : Below w0.heap.size w0 w) (h : impl_input_numbers.f k s0_0 s0_1 s0_2 a1 = some (r1, r2, r3, r4)) :
  Calls Try.prog 86 #[.pointer (some ⟨g, 0, none⟩), .int .i64 a1] w fun e w' => ∃ v0_ : Value, e = .returned (v0_) ∧ Kd.R (Kd.int .i64) 3 w' w.heap.size (fun _ => True) v0_ r1 ∧ IsS85 w0 w' g r2 r3 r4 ∧ Below w0.heap.size w0 w' ∧ KeepBut w w' g none := by
 have HI0 := kz hI; have HK := kz (KeepBut.refl w g none); have HL := kz hB.size; clear hI; have HW0 := kz hB.size; have HB := kz hB; clear hB; have H : ((impl_input_number.f k s0_0 s0_1 s0_2 1).bind fun bt337 => (impl_input_numbers.l0 k a1 (([] : List Int)) bt337.1 bt337.2.1 bt337.2.2.1 bt337.2.2.2)) = some (r1, r2, r3, r4) := h; clear h; obtain ⟨y334, hy334⟩ : ∃ y_ : List Int, y_ = (([] : List Int)) := ⟨_, rfl⟩
 replace H : ((impl_input_number.f k s0_0 s0_1 s0_2 1).bind fun bt337 => (impl_input_numbers.l0 k a1 y334 bt337.1 bt337.2.1 bt337.2.2.1 bt337.2.2.2)) = some (r1, r2, r3, r4) := by (rw [hy334]; with_reducible exact H)
 have Ny334 := kz hy334; clear hy334; replace H := Option.bind_eq_some_iff.mp H; obtain ⟨⟨t337, t338, t339, t340⟩, A30, H⟩ := H; replace H : (impl_input_numbers.l0 k a1 y334 t337 t338 t339 t340) = some (r1, r2, r3, r4) := H; have A3 := kz A30; clear A30; have H' := kz H; clear H; go_enter Try.func86, Try.ntmps86; go_wp2_with (first | ((with_reducible refine gate_dst (N := 7) rfl ?_); refine Kd.R_lit (Kd.int .i64) _ 3 ?hg (N := 7) ?hd (xs := ([] : List Int)) (inner := []) (ok := fun _ => True) (okp := fun _ => True) ?hr ?hp (fun _ hk => hk) trivial (Below.refl _ _) (Nat.le_refl _) (by simp) ?_; (case hd => rfl); (case hg => rfl); (case hr => (go_simp; done)); (case hp => exact (Reps.none _ _)); intro v335 w4 ho5 hb hg_ hnew_; clear hg_ hnew_; (rw [← Ny334.1] at ho5); have HO336 := kz (Kd.R_lower ho5 (keep_size (w := w) (g := g) (row := none) HK.1)); replace HI0 := kz (IsS85.below HI0.1 hb); replace HK := kz (KeepBut.trans HK.1 (KeepBut.of_below hb g none) (.inl rfl)); replace HB := kz (below_step HB.1 hb); clear hb ho5) | ((with_reducible refine gate_callee (f := 85) rfl ?_); refine goesL_ (some 9) rfl rfl Try.func85 (by kernel_rfl) rfl #[.pointer (some ⟨g, 0, none⟩), .int .i64 1] rfl (by (try simp only [List.map_toArray, List.map_cons, List.map_nil]); rfl) ?_; (with_reducible refine (impl_input_number.calls k g s0_0 s0_1 s0_2 1 t337 t338 t339 t340 w0 _ ?side1 ?side2 A3.1).mono ?_); (case side1 => repeat (with_reducible exact HI0.1)); (case side2 => repeat (with_reducible exact HB.1)); rintro e w6 ⟨rfl, hi, hb, hk⟩; refine ⟨_, rfl, ?_⟩; replace HO336 := kz (Kd.R_mono (Kd.R_keep (IsS85.apart (show IsS85 w0 _ g s0_0 s0_1 s0_2 from HI0.1) HO336.1 (by decide)) hk (fun _ h => h.2)) (fun _ h => h.1)); replace HK := kz (KeepBut.trans HK.1 hk (.inl rfl)); replace HB := kz hb; replace HI0 := kz hi; (try clear hi))); go_loopg [5, 6] k (fun kq v5 v6 w' => ∃ (x5_1 : List Int) (x6_1 : Int) (zm : ByteArray) (zn : Int) (zl : Int), v6 = .int .i64 x6_1 ∧ Aside0 (impl_input_numbers.l0 kq a1 x5_1 x6_1 zm zn zl = some (r1, r2, r3, r4)) ∧ Aside0 (kq ≤ k) ∧ Aside0 (Kd.R (Kd.int .i64) 3 w' w.heap.size (fun _ => True) v5 x5_1) ∧ Aside0 (IsS85 w0 w' g zm zn zl) ∧ Aside0 (KeepBut w w' g none) ∧ Aside0 (Below w0.heap.size w0 w')); case atStart => exact ⟨(y334), (t337), (t338), (t339), (t340), (by rfl), H', ⟨Nat.le_refl _⟩, ⟨by exact HO336.1⟩, ⟨by exact HI0.1⟩, ⟨by exact HK.1⟩, ⟨by exact HB.1⟩⟩
 case round =>
  clear H'; obtain ⟨x5_1, x6_1, zm, zn, zl, rfl, HA, HK1, HO_5, HI0, HK, HB⟩ := hrel; cases gk with
  | zero => exact absurd HA.1 (by simp [impl_input_numbers.l0])
  | succ k1 =>
   have H := HA.1; clear HA; simp only [impl_input_numbers.l0] at H; by_cases c7 : x6_1 > 0
   ·
    rw [if_pos c7] at H; have c7b0 : decide (0 < x6_1) = true := decide_eq_true c7; clear c7; by_cases c8 : zl = 0
    ·
     rw [if_pos c8] at H; have c8b0 : (zl == 0) = true := beq_iff_eq.mpr c8; have c8b1 : (zl != 0) = false := bne_eq_false_iff_eq.mpr c8; clear c8; replace H := Option.bind_eq_some_iff.mp H; obtain ⟨⟨t341, t342, t343, t344⟩, A90, H⟩ := H; replace H : (if x5_1.length < 17592186044416 then (impl_input_numbers.l0 k1 a1 (x5_1 ++ [t341]) (wrap64 (x6_1 - 1)) t342 t343 t344) else (none)) = some (r1, r2, r3, r4) := H; have A9 := kz A90; clear A90; by_cases c10 : x5_1.length < 17592186044416
     ·
      rw [if_pos c10] at H; have LMc10 := kz c10; clear c10; obtain ⟨y345, hy345⟩ : ∃ y_ : List Int, y_ = (x5_1 ++ [t341]) := ⟨_, rfl⟩
      replace H : (impl_input_numbers.l0 k1 a1 y345 (wrap64 (x6_1 - 1)) t342 t343 t344) = some (r1, r2, r3, r4) := by (rw [hy345]; with_reducible exact H)
      have Ny345 := kz hy345; clear hy345; have H' := kz H; clear H; obtain ⟨HGz11, hgz11⟩ := HI0.1; have hcz11_0 := cellS85_0 HGz11; have hcz11_1 := cellS85_1 HGz11; have hcz11_2 := cellS85_2 HGz11; have hfz11_0 := blk_frozen HGz11 0; have hfz11_1 := blk_frozen HGz11 1; have hfz11_2 := blk_frozen HGz11 2; clear HGz11 hgz11; go_wp2_with (first | ((with_reducible refine gate_callee (f := 85) rfl ?_); refine goesL_ (some 24) rfl rfl Try.func85 (by kernel_rfl) rfl #[.pointer (some ⟨g, 0, none⟩), .int .i64 a1] rfl (by (try simp only [List.map_toArray, List.map_cons, List.map_nil]); rfl) ?_; (with_reducible refine (impl_input_number.calls k1 g zm zn zl a1 t341 t342 t343 t344 w0 _ ?side1 ?side2 A9.1).mono ?_); (case side1 => repeat (with_reducible exact HI0.1)); (case side2 => repeat (with_reducible exact HB.1)); rintro e w12 ⟨rfl, hi, hb, hk⟩; refine ⟨_, rfl, ?_⟩; replace HO_5 := kz (Kd.R_mono (Kd.R_keep (IsS85.apart (show IsS85 w0 _ g zm zn zl from HI0.1) HO_5.1 (by decide)) hk (fun _ h => h.2)) (fun _ h => h.1)); replace HK := kz (KeepBut.trans HK.1 hk (.inl rfl)); replace HB := kz hb; replace HI0 := kz hi; (try clear hi)) | ((with_reducible refine gate_builtin (b := .append) (xs := #[.tmp 21, .tmp 25]) rfl ?_); at_builtin; refine Kd.R_append (Kd.int .i64) w.heap.size rfl (.tmp 21) (.tmp 25) 22 3 (.int .i64 0) 8 rfl Try.underlying22 info3 rfl (by decide) (by omega) u5 x5_1 t341 [.int .i64 t341] (fun _ => True) (fun _ => False) rfl rfl ?aP (fun _ hk => hk.elim) ?aF ?aO (Below.refl _ _) ?aS ?aL ?_; (case aP => exact rfl); (case aF => exact (fun _ _ => trivial)); (case aO => exact HO_5.1); (case aS => exact (keep_size (w := w) (g := g) (row := none) HK.1)); (case aL => have := LMc10.1; omega); intro v346 w13 ho hb hg hat; rw [← Ny345.1] at ho; replace HI0 := kz (IsS85.grown (show IsS85 w0 _ g t342 t343 t344 from HI0.1) hg (IsS85.own_ne HI0.1 HO_5.1 (by decide))); replace HB := kz (below_weaken HB.1 HL.1 hb); replace HK := kz (KeepBut.trans HK.1 (KeepBut.of_grown hg g) (Kd.R_base2 HO_5.1)); have HO347 := kz ho; clear ho hb hg hat)); go_roundg k1; case measure => have := HK1.1; omega
      case rel => exact ⟨(y345), (wrap64 (x6_1 - 1)), (t342), (t343), (t344), (by rfl), H', ⟨by have := HK1.1; omega⟩, ⟨by exact HO347.1⟩, ⟨by exact HI0.1⟩, ⟨by exact HK.1⟩, ⟨by exact HB.1⟩⟩
     · rw [if_neg c10] at H; exact absurd H (by simp)
    · rw [if_neg c8] at H; have c8b0 : (zl == 0) = false := beq_eq_false_iff_ne.mpr c8; have c8b1 : (zl != 0) = true := bne_iff_ne.mpr c8; simp only [Option.some.injEq, Prod.mk.injEq] at H; obtain ⟨rfl, rfl, rfl, rfl⟩ := H; obtain ⟨HGz14, hgz14⟩ := HI0.1; have hcz14_0 := cellS85_0 HGz14; have hcz14_1 := cellS85_1 HGz14; have hcz14_2 := cellS85_2 HGz14; have hfz14_0 := blk_frozen HGz14 0; have hfz14_1 := blk_frozen HGz14 1; have hfz14_2 := blk_frozen HGz14 2; clear HGz14 hgz14; go_wp2; go_ret; exact ⟨_, by rfl, by exact HO_5.1, by exact HI0.1, by exact HB.1, by exact HK.1⟩
   · rw [if_neg c7] at H; have c7b0 : decide (0 < x6_1) = false := decide_eq_false c7; clear c7; simp only [Option.some.injEq, Prod.mk.injEq] at H; obtain ⟨rfl, rfl, rfl, rfl⟩ := H; go_wp2; go_ret; exact ⟨_, by rfl, by exact HO_5.1, by exact HI0.1, by exact HB.1, by exact HK.1⟩

end Go.Proofs.Ytlnfcobloolnnaa.PFnExactReadUpdate
