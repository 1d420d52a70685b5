/- Go functions told by Lean functions, printed by a program. No condition but what each statement says. -/
import Derived.Test.YtakoaogbkajkcaaYFnTrieStepsx15
namespace Go.Proofs.Ytakoaogbkajkcaa.PFnTrieSteps
open Go.RowKit Go.Proofs.YtakoaogbkajkcaaW.PrintWords Go.Proofs.YtakoaogbkajkcaaW.PrintLast Go.Proofs.YtakoaogbkajkcaaW.PrintMore
open Aside0 renaming mk → kz
open Option renaming bind_eq_some_iff → ky
open List renaming length_take → kj, map_toArray → kv, length_append → kh, length_drop → kf, take_append_of_le_length → ke, map_cons → kb, map_nil → kd
open Option.some renaming inj → kk
open Nat renaming mul_le_mul_right → kg, le_refl → ko
open Try renaming prog → kc, underlying39 → km
open Bool renaming eq_false_iff → kx
set_option maxHeartbeats 8000000
set_option maxRecDepth 100000
open Go.Proofs.YtakoaogbkajkcaaW.PrintLast renaming goesL_ → zB
open Go.Proofs.YtakoaogbkajkcaaW.PrintWords renaming pw_below_drewN → za, below_step → zd, below_size → ze, blk_frozen → zk, blk_cell → zp, below_set → zq, blk_drewN → zs, gate_callee → zv, Aside0 → zy, gate_dst → zA
open Go.Proofs.YtakoaogbkajkcaaW.PrintWords.Kd renaming R_reads' → zm, R_far → zr, R_below → zz
attribute [local go_sem] max2_int min2_int max_two min_two max_three min_three max_four min_four
set_option linter.unusedVariables false
set_option linter.unusedSimpArgs false
attribute [local go_sem high] eqA37
/-! ### impl_prefixesOf: function 54 -/
def impl_prefixesOf.l0 : Nat → List (S37) → List (S39) → Int → Int → Option ((List (S37)))
 | 0, _, _, _, _ => none
 | k + 1, x3, x7, x8, x9 => if x9 < x8 then (if 0 ≤ x9 then (if x9 < (x7.length : Int) then (if x3.length < 8796093022208 then (impl_prefixesOf.l0 k (x3 ++ [(⟨(rd_T39 x7 x9).f0.f0, (rd_T39 x7 x9).f0.f1⟩ : S37)]) x7 x8 (wrap64 (x9 + 1))) else (none)) else (none)) else (none)) else (some x3)
def impl_prefixesOf.f (k : Nat) (l0 : List (S39)) : Option ((List (S37))) := impl_prefixesOf.l0 k (([] : List (S37))) l0 (l0.length : Int) 0
theorem impl_prefixesOf.calls (k : Nat) (A0 : Option Addr) (c0 : Nat) (l0 : List (S39)) (r : List (S37)) (w : World) (hr0 : Kd.C k39 w A0 l0.length l0) (hc0 : l0.length ≤ c0) (h : impl_prefixesOf.f k l0 = some r) :
  Calls kc 54 #[.slice A0 l0.length c0] w fun e w' => ∃ v0_ : Value, e = .returned (v0_) ∧ Kd.R k37 37 w' w.heap.size (fun _ => True) v0_ r ∧ Below w.heap.size w w' := by
 have hu39 := km
 have hu37 := Try.underlying37
 have HR0 := kz hr0
 have HC0 := kz hc0
 clear hr0 hc0
 have HB := kz (Below.refl w.heap.size w)
 have H : (impl_prefixesOf.l0 k (([] : List (S37))) l0 (l0.length : Int) 0) = some r := h
 clear h
 obtain ⟨y310, hy310⟩ : ∃ y_ : List (S37), y_ = (([] : List (S37))) := ⟨_, rfl⟩
 replace H : (impl_prefixesOf.l0 k y310 l0 (l0.length : Int) 0) = some r := by (rw [hy310]; with_reducible exact H)
 have Ny310 := kz hy310
 clear hy310
 have H' := kz H
 clear H
 go_enter Try.func54, Try.ntmps54
 go_wp2_with (((with_reducible refine zA (N := 6) rfl ?_); refine Kd.R_lit k37 _ 37 rfl (N := 6) rfl (xs := ([] : List (S37))) (inner := []) (ok := fun _ => True) (okp := fun _ => True) ?hr ?hp (fun _ hk => hk) trivial (Below.refl _ _) (ko _) (by simp) ?_; (case hr => go_simp; done); (case hp => exact (Reps.none _ _)); intro v311 w2 ho3 hb hg_ hnew_; clear hg_ hnew_; (rw [← Ny310.1] at ho3); have HO312 := kz (Kd.R_lower ho3 (ze HB.1)); replace HB := kz (zd HB.1 hb); clear hb ho3))
 go_loopg [3, 9] k (fun kq v3 v9 w' => ∃ (x3_1 : List (S37)) (x9_1 : Int), v9 = .int .i64 x9_1 ∧ zy (impl_prefixesOf.l0 kq x3_1 l0 (l0.length : Int) x9_1 = some r) ∧ zy (kq ≤ k) ∧ zy (Kd.R k37 37 w' w.heap.size (fun _ => True) v3 x3_1) ∧ zy (Below w.heap.size w w'))
 case atStart => exact ⟨(y310), (0), (by rfl), H', ⟨ko _⟩, ⟨by exact HO312.1⟩, ⟨by exact HB.1⟩⟩
 case round =>
  clear H'
  obtain ⟨x3_1, x9_1, rfl, HA, HK1, HO_3, HB⟩ := hrel
  cases gk with
  | zero => exact absurd HA.1 (by simp [impl_prefixesOf.l0])
  | succ k1 =>
   have H := HA.1
   clear HA
   simp only [impl_prefixesOf.l0] at H
   by_cases c4 : x9_1 < (l0.length : Int)
   ·
    rw [if_pos c4] at H
    have c4b0 : decide (x9_1 < (l0.length : Int)) = true := decide_eq_true c4
    clear c4
    by_cases c5 : 0 ≤ x9_1
    ·
     rw [if_pos c5] at H
     have c5b0 : decide (0 ≤ x9_1) = true := decide_eq_true c5
     clear c5
     by_cases c6 : x9_1 < (l0.length : Int)
     ·
      rw [if_pos c6] at H
      have c6b0 : decide (x9_1 < (l0.length : Int)) = true := decide_eq_true c6
      clear c6
      by_cases c7 : x3_1.length < 8796093022208
      ·
       rw [if_pos c7] at H
       have LMc7 := kz c7
       clear c7
       obtain ⟨y315, hy315⟩ : ∃ y_ : List (S37), y_ = (x3_1 ++ [(⟨(rd_T39 l0 x9_1).f0.f0, (rd_T39 l0 x9_1).f0.f1⟩ : S37)]) := ⟨_, rfl⟩
       replace H : (impl_prefixesOf.l0 k1 y315 l0 (l0.length : Int) (wrap64 (x9_1 + 1))) = some r := by (rw [hy315]; with_reducible exact H)
       have Ny315 := kz hy315
       clear hy315
       have H' := kz H
       clear H
       have p313 : 0 ≤ (x9_1 : Int) := of_decide_eq_true (by (with_reducible assumption))
       have q313 : x9_1 < (l0.length : Int) := of_decide_eq_true (by (with_reducible assumption))
       obtain ⟨ad313, e313, hx313_0, hx313_1, hx313_2⟩ := at_T39 HR0.1 x9_1 p313 q313
       cases e313
       try replace hx313_0 := (HB.1.cell (World.block_lt_of_cell? w _ hx313_0)).trans hx313_0
       try replace hx313_1 := (HB.1.cell (World.block_lt_of_cell? w _ hx313_1)).trans hx313_1
       try replace hx313_2 := (HB.1.cell (World.block_lt_of_cell? w _ hx313_2)).trans hx313_2
       replace p313 := eq_true p313
       replace q313 := eq_true q313
       go_wp2_with (first | ((with_reducible refine zA (N := 5) rfl ?_); refine box_event rfl (N := 5) rfl (cs := #[.int .i64 0, .int .i64 0, .int .i64 0]) (t := 39) ?hr ?_; (case hr => go_simp; done); intro gb314 hg w8 hbox hb; replace HO_3 := kz (zz HO_3.1 hb); have zG := kz hbox; have GE314 := kz (by rw [hg]; exact (ze HB.1) : w.heap.size ≤ gb314); replace HB := kz (zd HB.1 hb); clear hb hbox hg; have hcz9_0 : w8.cell? ⟨gb314, 0, none⟩ = some (.int .i64 0) := (zp zG.1 0).trans rfl; have hcz9_1 : w8.cell? ⟨gb314, 1, none⟩ = some (.int .i64 0) := (zp zG.1 1).trans rfl; have hcz9_2 : w8.cell? ⟨gb314, 2, none⟩ = some (.int .i64 0) := (zp zG.1 2).trans rfl; have hfz9_0 := zk zG.1 0; have hfz9_1 := zk zG.1 1; have hfz9_2 := zk zG.1 2) | ((with_reducible refine gate_builtin (b := .append) (xs := #[.tmp 13, .tmp 16]) rfl ?_); at_builtin; refine Kd.R_append k37 (w0 := w) w.heap.size rfl (.tmp 13) (.tmp 16) 79 37 (.agg #[(.int .i64 0), (.int .i64 0)]) 16 rfl Try.underlying79 info37 rfl (by decide) (by omega) u3 x3_1 (⟨(rd_T39 l0 x9_1).f0.f0, (rd_T39 l0 x9_1).f0.f1⟩ : S37) [.int .i64 ((rd_T39 l0 x9_1).f0.f0), .int .i64 ((rd_T39 l0 x9_1).f0.f1)] (fun _ => True) (fun _ => False) rfl (by (go_simp; done)) ?aP (fun _ hk => hk.elim) ?aF ?aO ?aB ?aS ?aL ?_; (case aP => exact k37_mkM _ _ _ (⟨(rd_T39 l0 x9_1).f0.f0, (rd_T39 l0 x9_1).f0.f1⟩ : S37)); (case aB => exact (by repeat ((with_reducible first | exact HB.1 | refine zq ?_ GE314.1)))); (case aF => exact (fun _ _ => trivial)); (case aO => exact (by exact Kd.R_mono (zr (p := ⟨gb314, 2, none⟩) (zr (p := ⟨gb314, 1, none⟩) (zr (p := ⟨gb314, 0, none⟩) (Kd.R_types HO_3.1 zG.1 (by decide)) (fun _ hk => hk.2) _) (fun _ hk => hk.2) _) (fun _ hk => hk.2) _) (fun _ hk => trivial))); (case aS => exact (ze (by repeat ((with_reducible first | exact HB.1 | refine zq ?_ GE314.1))))); (case aL => have := LMc7.1; omega); intro v316 w10 ho hb hg hat; rw [← Ny315.1] at ho; replace HB := kz hb; have HO317 := kz ho; clear ho hb hg hat))
       go_roundg k1
       case measure => have := HK1.1; omega
       case rel => exact ⟨(y315), (wrap64 (x9_1 + 1)), (by rfl), H', ⟨by have := HK1.1; omega⟩, ⟨by exact HO317.1⟩, ⟨by exact HB.1⟩⟩
      ·
       rw [if_neg c7] at H
       exact absurd H (by simp)
     ·
      rw [if_neg c6] at H
      exact absurd H (by simp)
    ·
     rw [if_neg c5] at H
     exact absurd H (by simp)
   ·
    rw [if_neg c4] at H
    have c4b0 : decide (x9_1 < (l0.length : Int)) = false := decide_eq_false c4
    clear c4
    obtain rfl := kk H
    go_wp2
    go_ret
    exact ⟨_, by rfl, by exact HO_3.1, by exact HB.1⟩
/-! ### impl_GoodTable_1: function 56 -/
def impl_GoodTable_1.f (a0_0 : Int) (a0_1 : Int) (a0_2 : Int) : Option (Bool) := (impl_isValue.f a0_2).bind fun t319 => (some (!t319))
theorem impl_GoodTable_1.calls (a0_0 : Int) (a0_1 : Int) (a0_2 : Int) (r : Bool) (w : World) (h : impl_GoodTable_1.f a0_0 a0_1 a0_2 = some r) :
  Calls kc 56 #[.agg #[.int .i64 a0_0, .int .i64 a0_1, .int .i64 a0_2]] w fun e w' => e = .returned (.bool r) ∧ Below w.heap.size w w' := by
 have hu39 := km
 have HB := kz (Below.refl w.heap.size w)
 have H : ((impl_isValue.f a0_2).bind fun t319 => (some (!t319))) = some r := h
 clear h
 replace H := ky.mp H
 obtain ⟨t319, A20, H⟩ := H
 replace H : (some (!t319)) = some r := H
 have A2 := kz A20
 clear A20
 obtain rfl := kk H
 go_enter Try.func56, Try.ntmps56
 go_wp2_with (first | ((with_reducible refine zA (N := 1) rfl ?_); refine box_event rfl (N := 1) rfl (cs := #[.int .i64 a0_0, .int .i64 a0_1, .int .i64 a0_2]) (t := 39) ?hr ?_; (case hr => go_simp; done); intro gb318 hg w3 hbox hb; replace HB := kz (zd HB.1 hb); have zH := kz hbox; clear hb hbox hg; have hcz4_0 : w3.cell? ⟨gb318, 0, none⟩ = some (.int .i64 a0_0) := (zp zH.1 0).trans rfl; have hcz4_1 : w3.cell? ⟨gb318, 1, none⟩ = some (.int .i64 a0_1) := (zp zH.1 1).trans rfl; have hcz4_2 : w3.cell? ⟨gb318, 2, none⟩ = some (.int .i64 a0_2) := (zp zH.1 2).trans rfl; have hfz4_0 := zk zH.1 0; have hfz4_1 := zk zH.1 1; have hfz4_2 := zk zH.1 2) | ((with_reducible refine zv (f := 57) rfl ?_); refine zB (some 5) rfl rfl Try.func57 (by kernel_rfl) rfl #[.int .i64 a0_2] rfl (by (try simp only [kv, kb, kd]); rfl) ?_; (with_reducible refine (impl_isValue.calls a0_2 t319 _ A2.1).mono ?_); rintro e w' ⟨rfl, ⟨nd, rfl⟩⟩; refine ⟨_, rfl, ?_⟩))
 go_ret
 exact ⟨by rfl, by repeat ((with_reducible first | exact HB.1 | apply za))⟩
/-! ### slices_IndexFunc_impl_Entry_impl_Entry: function 90 -/
def slices_IndexFunc_impl_Entry_impl_Entry.l0 : Nat → List (S39) → Int → Int → Option (Int)
 | 0, _, _, _ => none
 | k + 1, x0, x7, x8 => if x8 < x7 then (if 0 ≤ x8 then (if x8 < (x0.length : Int) then ((impl_GoodTable_1.f ((rd_T39 x0 x8).f0.f0) ((rd_T39 x0 x8).f0.f1) ((rd_T39 x0 x8).f1)).bind fun t321 => (if t321 = true then (some x8) else (slices_IndexFunc_impl_Entry_impl_Entry.l0 k x0 x7 (wrap64 (x8 + 1))))) else (none)) else (none)) else (some (-1))
def slices_IndexFunc_impl_Entry_impl_Entry.f (k : Nat) (l0 : List (S39))  : Option (Int) := slices_IndexFunc_impl_Entry_impl_Entry.l0 k l0 (l0.length : Int) 0
theorem slices_IndexFunc_impl_Entry_impl_Entry.calls (k : Nat) (A0 : Option Addr) (c0 : Nat) (l0 : List (S39))  (r : Int) (w : World) (hr0 : Kd.C k39 w A0 l0.length l0) (hc0 : l0.length ≤ c0) (h : slices_IndexFunc_impl_Entry_impl_Entry.f k l0 = some r) :
  Calls kc 90 #[.slice A0 l0.length c0, .func (.func 56) #[] #[]] w fun e w' => e = .returned (.int .i64 r) ∧ Below w.heap.size w w' := by
 have hu39 := km
 have HR0 := kz hr0
 have HC0 := kz hc0
 clear hr0 hc0
 have HB := kz (Below.refl w.heap.size w)
 have H : (slices_IndexFunc_impl_Entry_impl_Entry.l0 k l0 (l0.length : Int) 0) = some r := h
 clear h
 have H' := kz H
 clear H
 go_enter Try.func90, Try.ntmps90
 go_wp2
 go_loopg [8] k (fun kq v8 w' => ∃ (x8_1 : Int), v8 = .int .i64 x8_1 ∧ zy (slices_IndexFunc_impl_Entry_impl_Entry.l0 kq l0 (l0.length : Int) x8_1 = some r) ∧ zy (kq ≤ k) ∧ zy (Below w.heap.size w w'))
 case atStart => exact ⟨(0), (by rfl), H', ⟨ko _⟩, ⟨by exact HB.1⟩⟩
 case round =>
  clear H'
  obtain ⟨x8_1, rfl, HA, HK1, HB⟩ := hrel
  cases gk with
  | zero => exact absurd HA.1 (by simp [slices_IndexFunc_impl_Entry_impl_Entry.l0])
  | succ k1 =>
   have H := HA.1
   clear HA
   simp only [slices_IndexFunc_impl_Entry_impl_Entry.l0] at H
   by_cases c3 : x8_1 < (l0.length : Int)
   ·
    rw [if_pos c3] at H
    have c3b0 : decide (x8_1 < (l0.length : Int)) = true := decide_eq_true c3
    clear c3
    by_cases c4 : 0 ≤ x8_1
    ·
     rw [if_pos c4] at H
     have c4b0 : decide (0 ≤ x8_1) = true := decide_eq_true c4
     clear c4
     by_cases c5 : x8_1 < (l0.length : Int)
     ·
      rw [if_pos c5] at H
      have c5b0 : decide (x8_1 < (l0.length : Int)) = true := decide_eq_true c5
      clear c5
      replace H := ky.mp H
      obtain ⟨t321, A60, H⟩ := H
      replace H : (if t321 = true then (some x8_1) else (slices_IndexFunc_impl_Entry_impl_Entry.l0 k1 l0 (l0.length : Int) (wrap64 (x8_1 + 1)))) = some r := H
      have A6 := kz A60
      clear A60
      by_cases c7 : t321 = true
      ·
       subst c7
       have H1 : (some x8_1) = some r := by rw [if_pos rfl] at H; exact H
       clear H
       have H := H1
       clear H1
       obtain rfl := kk H
       have p320 : 0 ≤ (x8_1 : Int) := of_decide_eq_true (by (with_reducible assumption))
       have q320 : x8_1 < (l0.length : Int) := of_decide_eq_true (by (with_reducible assumption))
       obtain ⟨ad320, e320, hx320_0, hx320_1, hx320_2⟩ := at_T39 HR0.1 x8_1 p320 q320
       cases e320
       try replace hx320_0 := (HB.1.cell (World.block_lt_of_cell? w _ hx320_0)).trans hx320_0
       try replace hx320_1 := (HB.1.cell (World.block_lt_of_cell? w _ hx320_1)).trans hx320_1
       try replace hx320_2 := (HB.1.cell (World.block_lt_of_cell? w _ hx320_2)).trans hx320_2
       replace p320 := eq_true p320
       replace q320 := eq_true q320
       go_wp2_with ((go_at_call 56; (with_reducible refine (impl_GoodTable_1.calls ((rd_T39 l0 x8_1).f0.f0) ((rd_T39 l0 x8_1).f0.f1) ((rd_T39 l0 x8_1).f1) true _ A6.1).mono ?_); rintro e w8 ⟨rfl, hb⟩; replace HB := kz (zd HB.1 hb)))
       go_ret
       exact ⟨by rfl, by exact HB.1⟩
      ·
       replace c7 := kx.mpr c7
       subst c7
       have H1 : (slices_IndexFunc_impl_Entry_impl_Entry.l0 k1 l0 (l0.length : Int) (wrap64 (x8_1 + 1))) = some r := by rw [if_neg (show ¬ (false = true) by decide)] at H; exact H
       clear H
       have H := H1
       clear H1
       have H' := kz H
       clear H
       have p320 : 0 ≤ (x8_1 : Int) := of_decide_eq_true (by (with_reducible assumption))
       have q320 : x8_1 < (l0.length : Int) := of_decide_eq_true (by (with_reducible assumption))
       obtain ⟨ad320, e320, hx320_0, hx320_1, hx320_2⟩ := at_T39 HR0.1 x8_1 p320 q320
       cases e320
       try replace hx320_0 := (HB.1.cell (World.block_lt_of_cell? w _ hx320_0)).trans hx320_0
       try replace hx320_1 := (HB.1.cell (World.block_lt_of_cell? w _ hx320_1)).trans hx320_1
       try replace hx320_2 := (HB.1.cell (World.block_lt_of_cell? w _ hx320_2)).trans hx320_2
       replace p320 := eq_true p320
       replace q320 := eq_true q320
       go_wp2_with ((go_at_call 56; (with_reducible refine (impl_GoodTable_1.calls ((rd_T39 l0 x8_1).f0.f0) ((rd_T39 l0 x8_1).f0.f1) ((rd_T39 l0 x8_1).f1) false _ A6.1).mono ?_); rintro e w9 ⟨rfl, hb⟩; replace HB := kz (zd HB.1 hb)))
       go_roundg k1
       case measure => have := HK1.1; omega
       case rel => exact ⟨(wrap64 (x8_1 + 1)), (by rfl), H', ⟨by have := HK1.1; omega⟩, ⟨by exact HB.1⟩⟩
     ·
      rw [if_neg c5] at H
      exact absurd H (by simp)
    ·
     rw [if_neg c4] at H
     exact absurd H (by simp)
   ·
    rw [if_neg c3] at H
    have c3b0 : decide (x8_1 < (l0.length : Int)) = false := decide_eq_false c3
    clear c3
    obtain rfl := kk H
    go_wp2
    go_ret
    exact ⟨by rfl, by exact HB.1⟩
/-! ### slices_ContainsFunc_impl_Entry_impl_Entry: function 55 -/
def slices_ContainsFunc_impl_Entry_impl_Entry.f (k : Nat) (l0 : List (S39))  : Option (Bool) := (slices_IndexFunc_impl_Entry_impl_Entry.f k l0).bind fun t322 => (some (decide (t322 ≥ 0)))
theorem slices_ContainsFunc_impl_Entry_impl_Entry.calls (k : Nat) (A0 : Option Addr) (c0 : Nat) (l0 : List (S39))  (r : Bool) (w : World) (hr0 : Kd.C k39 w A0 l0.length l0) (hc0 : l0.length ≤ c0) (h : slices_ContainsFunc_impl_Entry_impl_Entry.f k l0 = some r) :
  Calls kc 55 #[.slice A0 l0.length c0, .func (.func 56) #[] #[]] w fun e w' => e = .returned (.bool r) ∧ Below w.heap.size w w' := by
 have HR0 := kz hr0
 have HC0 := kz hc0
 clear hr0 hc0
 have HB := kz (Below.refl w.heap.size w)
 have H : ((slices_IndexFunc_impl_Entry_impl_Entry.f k l0).bind fun t322 => (some (decide (t322 ≥ 0)))) = some r := h
 clear h
 replace H := ky.mp H
 obtain ⟨t322, A30, H⟩ := H
 replace H : (some (decide (t322 ≥ 0))) = some r := H
 have A3 := kz A30
 clear A30
 obtain rfl := kk H
 go_enter Try.func55, Try.ntmps55
 go_wp2_with (((with_reducible refine zv (f := 90) rfl ?_); refine zB (some 7) rfl rfl Try.func90 (by kernel_rfl) rfl #[.slice A0 l0.length c0, .func (.func 56) #[] #[]] rfl (by (try simp only [kv, kb, kd]); rfl) ?_; (with_reducible refine (slices_IndexFunc_impl_Entry_impl_Entry.calls k _ _ l0  t322 _ ?side1 ?side2 A3.1).mono ?_); (case side1 => repeat (exact HR0.1)); (case side2 => exact HC0.1); rintro e w4 ⟨rfl, hb⟩; refine ⟨_, rfl, ?_⟩; replace HB := kz (zd HB.1 hb)))
 go_ret
 exact ⟨by rfl, by exact HB.1⟩
/-! ### impl_GoodTable: function 16 -/
def impl_GoodTable.f (k : Nat) (l0 : List (S39)) : Option (Bool) := if (l0.length : Int) ≤ 30 then ((impl_prefixesOf.f k l0).bind fun t323 => ((impl_areRising.f k t323).bind fun t326 => (if t326 = true then ((slices_ContainsFunc_impl_Entry_impl_Entry.f k l0).bind fun t327 => (some (!t327))) else (some false)))) else (some false)
theorem impl_GoodTable.calls (k : Nat) (A0 : Option Addr) (c0 : Nat) (l0 : List (S39)) (r : Bool) (w : World) (hr0 : Kd.C k39 w A0 l0.length l0) (hc0 : l0.length ≤ c0) (h : impl_GoodTable.f k l0 = some r) :
  Calls kc 16 #[.slice A0 l0.length c0] w fun e w' => e = .returned (.bool r) ∧ Below w.heap.size w w' := by
 have HR0 := kz hr0
 have HC0 := kz hc0
 clear hr0 hc0
 have HB := kz (Below.refl w.heap.size w)
 have H : (if (l0.length : Int) ≤ 30 then ((impl_prefixesOf.f k l0).bind fun t323 => ((impl_areRising.f k t323).bind fun t326 => (if t326 = true then ((slices_ContainsFunc_impl_Entry_impl_Entry.f k l0).bind fun t327 => (some (!t327))) else (some false)))) else (some false)) = some r := h
 clear h
 by_cases c2 : (l0.length : Int) ≤ 30
 ·
  rw [if_pos c2] at H
  have c2b0 : decide ((l0.length : Int) ≤ 30) = true := decide_eq_true c2
  have c2b1 : decide (l0.length ≤ 30) = true := decide_eq_true (by omega)
  clear c2
  replace H := ky.mp H
  obtain ⟨t323, A30, H⟩ := H
  replace H : ((impl_areRising.f k t323).bind fun t326 => (if t326 = true then ((slices_ContainsFunc_impl_Entry_impl_Entry.f k l0).bind fun t327 => (some (!t327))) else (some false))) = some r := H
  have A3 := kz A30
  clear A30
  replace H := ky.mp H
  obtain ⟨t326, A40, H⟩ := H
  replace H : (if t326 = true then ((slices_ContainsFunc_impl_Entry_impl_Entry.f k l0).bind fun t327 => (some (!t327))) else (some false)) = some r := H
  have A4 := kz A40
  clear A40
  by_cases c5 : t326 = true
  ·
   subst c5
   have H1 : ((slices_ContainsFunc_impl_Entry_impl_Entry.f k l0).bind fun t327 => (some (!t327))) = some r := by rw [if_pos rfl] at H; exact H
   clear H
   have H := H1
   clear H1
   replace H := ky.mp H
   obtain ⟨t327, A60, H⟩ := H
   replace H : (some (!t327)) = some r := H
   have A6 := kz A60
   clear A60
   obtain rfl := kk H
   go_enter Try.func16, Try.ntmps16
   go_wp2_with (first | (go_at_call 54; (with_reducible refine (impl_prefixesOf.calls k _ _ l0 t323 _ ?side1 ?side2 A3.1).mono ?_); (case side1 => repeat (exact HR0.1)); (case side2 => exact HC0.1); rintro e w7 ⟨v324, rfl, ho0, hb⟩; have zD := kz (Kd.R_lower ho0 (ze HB.1)); replace HB := kz (zd HB.1 hb); obtain ⟨Ao8, co8, eo8⟩ := Kd.R_slice zD.1; subst eo8) | (go_at_call 53; (with_reducible refine (impl_areRising.calls k _ _ t323 true _ ?side1 ?side2 A4.1).mono ?_); (case side1 => repeat (exact (zm zD.1).2.2)); (case side2 => exact (zm zD.1).2.1); rintro e w9 ⟨rfl, hb⟩; replace zD := kz (zz zD.1 hb); replace HB := kz (zd HB.1 hb)) | (go_at_call 55; (with_reducible refine (slices_ContainsFunc_impl_Entry_impl_Entry.calls k _ _ l0  t327 _ ?side1 ?side2 A6.1).mono ?_); (case side1 => repeat (exact (Kd.C_below HR0.1 HB.1))); (case side2 => exact HC0.1); rintro e w10 ⟨rfl, hb⟩; replace zD := kz (zz zD.1 hb); replace HB := kz (zd HB.1 hb)))
   go_ret
   exact ⟨by rfl, by exact HB.1⟩
  ·
   replace c5 := kx.mpr c5
   subst c5
   have H1 : (some false) = some r := by rw [if_neg (show ¬ (false = true) by decide)] at H; exact H
   clear H
   have H := H1
   clear H1
   obtain rfl := kk H
   go_enter Try.func16, Try.ntmps16
   go_wp2_with (first | (go_at_call 54; (with_reducible refine (impl_prefixesOf.calls k _ _ l0 t323 _ ?side1 ?side2 A3.1).mono ?_); (case side1 => repeat (exact HR0.1)); (case side2 => exact HC0.1); rintro e w11 ⟨v324, rfl, ho0, hb⟩; have zD := kz (Kd.R_lower ho0 (ze HB.1)); replace HB := kz (zd HB.1 hb); obtain ⟨Ao12, co12, eo12⟩ := Kd.R_slice zD.1; subst eo12) | (go_at_call 53; (with_reducible refine (impl_areRising.calls k _ _ t323 false _ ?side1 ?side2 A4.1).mono ?_); (case side1 => repeat (exact (zm zD.1).2.2)); (case side2 => exact (zm zD.1).2.1); rintro e w13 ⟨rfl, hb⟩; replace HB := kz (zd HB.1 hb)))
   go_ret
   exact ⟨by rfl, by exact HB.1⟩
 ·
  rw [if_neg c2] at H
  have c2b0 : decide ((l0.length : Int) ≤ 30) = false := decide_eq_false c2
  have c2b1 : decide (l0.length ≤ 30) = false := decide_eq_false (by omega)
  clear c2
  obtain rfl := kk H
  go_enter Try.func16, Try.ntmps16
  go_wp2
  go_ret
  exact ⟨by rfl, by exact HB.1⟩
/-! ### impl_BuildTrie: function 38 -/
def impl_BuildTrie.l0 : Nat → List (S86) → List (S39) → Int → Int → Option ((List (S86)) × Bool)
 | 0, _, _, _, _ => none
 | k + 1, x4, x12, x13, x14 => if x14 < x13 then (if 0 ≤ x14 then (if x14 < (x12.length : Int) then ((impl_inserted.f k x4 ((rd_T39 x12 x14).f0.f0) ((rd_T39 x12 x14).f0.f1) ((rd_T39 x12 x14).f1)).bind fun t334 => (impl_BuildTrie.l0 k t334 x12 x13 (wrap64 (x14 + 1)))) else (none)) else (none)) else ((impl_GoodTrie.f k x4).bind fun t337 => (if t337 = true then (some (x4, true)) else (some (([] : List (S86)), false))))
def impl_BuildTrie.f (k : Nat) (l0 : List (S39)) : Option ((List (S86)) × Bool) := (impl_GoodTable.f k l0).bind fun t328 => (if t328 = true then (impl_BuildTrie.l0 k (([(⟨0, 0, false, 0⟩ : S86)] : List (S86))) l0 (l0.length : Int) 0) else (some (([] : List (S86)), false)))
theorem impl_BuildTrie.calls (k : Nat) (A0 : Option Addr) (c0 : Nat) (l0 : List (S39)) (r1 : List (S86)) (r2 : Bool) (w : World) (hr0 : Kd.C k39 w A0 l0.length l0) (hc0 : l0.length ≤ c0) (h : impl_BuildTrie.f k l0 = some (r1, r2)) :
  Calls kc 38 #[.slice A0 l0.length c0] w fun e w' => ∃ v0_ : Value, e = .returned (.tuple #[v0_, .bool r2]) ∧ Kd.R k86 86 w' w.heap.size (fun _ => True) v0_ r1 ∧ Below w.heap.size w w' := by
 have hu86 := Try.underlying86
 have hu39 := km
 have hu37 := Try.underlying37
 have HR0 := kz hr0
 have HC0 := kz hc0
 clear hr0 hc0
 have HB := kz (Below.refl w.heap.size w)
 have H : ((impl_GoodTable.f k l0).bind fun t328 => (if t328 = true then (impl_BuildTrie.l0 k (([(⟨0, 0, false, 0⟩ : S86)] : List (S86))) l0 (l0.length : Int) 0) else (some (([] : List (S86)), false)))) = some (r1, r2) := h
 clear h
 replace H := ky.mp H
 obtain ⟨t328, A20, H⟩ := H
 replace H : (if t328 = true then (impl_BuildTrie.l0 k (([(⟨0, 0, false, 0⟩ : S86)] : List (S86))) l0 (l0.length : Int) 0) else (some (([] : List (S86)), false))) = some (r1, r2) := H
 have A2 := kz A20
 clear A20
 by_cases c3 : t328 = true
 ·
  subst c3
  have H1 : (impl_BuildTrie.l0 k (([(⟨0, 0, false, 0⟩ : S86)] : List (S86))) l0 (l0.length : Int) 0) = some (r1, r2) := by rw [if_pos rfl] at H; exact H
  clear H
  have H := H1
  clear H1
  obtain ⟨y329, hy329⟩ : ∃ y_ : List (S86), y_ = (([(⟨0, 0, false, 0⟩ : S86)] : List (S86))) := ⟨_, rfl⟩
  replace H : (impl_BuildTrie.l0 k y329 l0 (l0.length : Int) 0) = some (r1, r2) := by (rw [hy329]; with_reducible exact H)
  have Ny329 := kz hy329
  clear hy329
  have H' := kz H
  clear H
  go_enter Try.func38, Try.ntmps38
  go_wp2_with (first | ((with_reducible refine zv (f := 16) rfl ?_); refine zB (some 8) rfl rfl Try.func16 (by kernel_rfl) rfl #[.slice A0 l0.length c0] rfl (by (try simp only [kv, kb, kd]); rfl) ?_; (with_reducible refine (impl_GoodTable.calls k _ _ l0 true _ ?side1 ?side2 A2.1).mono ?_); (case side1 => repeat (exact HR0.1)); (case side2 => exact HC0.1); rintro e w4 ⟨rfl, hb⟩; refine ⟨_, rfl, ?_⟩; replace HB := kz (zd HB.1 hb)) | ((with_reducible refine zA (N := 11) rfl ?_); refine Kd.R_lit k86 _ 86 rfl (N := 11) rfl (xs := ([(⟨0, 0, false, 0⟩ : S86)] : List (S86))) (inner := [.int .i64 0, .int .i64 0, .bool false, .int .i64 0]) (ok := fun _ => True) (okp := fun _ => True) ?hr ?hp (fun _ hk => hk) trivial (Below.refl _ _) (ko _) (by simp) ?_; (case hr => go_simp; done); (case hp => exact (Reps.c4 (show Kd.M k86 _ _ _ (⟨0, 0, false, 0⟩ : S86) [.int .i64 0, .int .i64 0, .bool false, .int .i64 0] from (k86_mkM _ _ _ (⟨0, 0, false, 0⟩ : S86) )) (Reps.none _ _))); intro v330 w5 ho6 hb hg_ hnew_; clear hg_ hnew_; (rw [← Ny329.1] at ho6); have HO331 := kz (Kd.R_lower ho6 (ze HB.1)); replace HB := kz (zd HB.1 hb); clear hb ho6))
  go_loopg [4, 14] k (fun kq v4 v14 w' => ∃ (x4_1 : List (S86)) (zC : Int), v14 = .int .i64 zC ∧ zy (impl_BuildTrie.l0 kq x4_1 l0 (l0.length : Int) zC = some (r1, r2)) ∧ zy (kq ≤ k) ∧ zy (Kd.R k86 86 w' w.heap.size (fun _ => True) v4 x4_1) ∧ zy (Below w.heap.size w w'))
  case atStart => exact ⟨(y329), (0), (by rfl), H', ⟨ko _⟩, ⟨by exact HO331.1⟩, ⟨by exact HB.1⟩⟩
  case round =>
   clear H'
   obtain ⟨x4_1, zC, rfl, HA, HK1, HO_4, HB⟩ := hrel
   cases gk with
   | zero => exact absurd HA.1 (by simp [impl_BuildTrie.l0])
   | succ k1 =>
    have H := HA.1
    clear HA
    simp only [impl_BuildTrie.l0] at H
    by_cases c7 : zC < (l0.length : Int)
    ·
     rw [if_pos c7] at H
     have c7b0 : decide (zC < (l0.length : Int)) = true := decide_eq_true c7
     clear c7
     by_cases c8 : 0 ≤ zC
     ·
      rw [if_pos c8] at H
      have c8b0 : decide (0 ≤ zC) = true := decide_eq_true c8
      clear c8
      by_cases c9 : zC < (l0.length : Int)
      ·
       rw [if_pos c9] at H
       have c9b0 : decide (zC < (l0.length : Int)) = true := decide_eq_true c9
       clear c9
       replace H := ky.mp H
       obtain ⟨t334, A100, H⟩ := H
       replace H : (impl_BuildTrie.l0 k1 t334 l0 (l0.length : Int) (wrap64 (zC + 1))) = some (r1, r2) := H
       have A10 := kz A100
       clear A100
       have H' := kz H
       clear H
       have p332 : 0 ≤ (zC : Int) := of_decide_eq_true (by (with_reducible assumption))
       have q332 : zC < (l0.length : Int) := of_decide_eq_true (by (with_reducible assumption))
       obtain ⟨ad332, e332, hx332_0, hx332_1, hx332_2⟩ := at_T39 HR0.1 zC p332 q332
       cases e332
       try replace hx332_0 := (HB.1.cell (World.block_lt_of_cell? w _ hx332_0)).trans hx332_0
       try replace hx332_1 := (HB.1.cell (World.block_lt_of_cell? w _ hx332_1)).trans hx332_1
       try replace hx332_2 := (HB.1.cell (World.block_lt_of_cell? w _ hx332_2)).trans hx332_2
       replace p332 := eq_true p332
       replace q332 := eq_true q332
       go_wp2_with (first | ((with_reducible refine zA (N := 6) rfl ?_); refine box_event rfl (N := 6) rfl (cs := #[.int .i64 0, .int .i64 0, .int .i64 0]) (t := 39) ?hr ?_; (case hr => go_simp; done); intro gb333 hg w11 hbox hb; replace HO_4 := kz (zz HO_4.1 hb); have zF := kz hbox; have GE333 := kz (by rw [hg]; exact (ze HB.1) : w.heap.size ≤ gb333); replace HB := kz (zd HB.1 hb); clear hb hbox hg; have hcz12_0 : w11.cell? ⟨gb333, 0, none⟩ = some (.int .i64 0) := (zp zF.1 0).trans rfl; have hcz12_1 : w11.cell? ⟨gb333, 1, none⟩ = some (.int .i64 0) := (zp zF.1 1).trans rfl; have hcz12_2 : w11.cell? ⟨gb333, 2, none⟩ = some (.int .i64 0) := (zp zF.1 2).trans rfl; have hfz12_0 := zk zF.1 0; have hfz12_1 := zk zF.1 1; have hfz12_2 := zk zF.1 2; obtain ⟨Ao13, co13, eo13⟩ := Kd.R_slice HO_4.1; subst eo13) | ((with_reducible refine zv (f := 76) rfl ?_); refine zB (some 23) rfl rfl Try.func76 (by kernel_rfl) rfl #[.slice Ao13 x4_1.length co13, .agg #[.int .i64 ((rd_T39 l0 zC).f0.f0), .int .i64 ((rd_T39 l0 zC).f0.f1)], .int .i64 ((rd_T39 l0 zC).f1)] rfl (by (try simp only [kv, kb, kd]); rfl) ?_; (with_reducible refine (impl_inserted.calls k1 _ _ x4_1 ((rd_T39 l0 zC).f0.f0) ((rd_T39 l0 zC).f0.f1) ((rd_T39 l0 zC).f1) t334 _ ?side1 ?side2 A10.1).mono ?_); (case side1 => refine (zm (e := 86) (base := w.heap.size) (ok := fun k_ => True) (n := x4_1.length) (c := co13) ?_).2.2; exact (Kd.R_mono (zr (p := ⟨gb333, 2, none⟩) (zr (p := ⟨gb333, 1, none⟩) (zr (p := ⟨gb333, 0, none⟩) (Kd.R_types HO_4.1 zF.1 (by decide)) (fun _ hk => hk.2) _) (fun _ hk => hk.2) _) (fun _ hk => hk.2) _) (fun _ h_ => h_.1))); (case side2 => exact (zm HO_4.1).2.1); rintro e w14 ⟨v335, rfl, ho0, hb⟩; refine ⟨_, rfl, ?_⟩; have HO336 := kz (Kd.R_lower (Kd.R_new' ho0 (Kd.R_lt (Kd.R_mono (zr (p := ⟨gb333, 2, none⟩) (zr (p := ⟨gb333, 1, none⟩) (zr (p := ⟨gb333, 0, none⟩) (Kd.R_types HO_4.1 zF.1 (by decide)) (fun _ hk => hk.2) _) (fun _ hk => hk.2) _) (fun _ hk => hk.2) _) (fun _ h_ => h_.1)))) (ze (by repeat ((with_reducible first | exact HB.1 | refine zq ?_ GE333.1))))); replace HO_4 := kz (Kd.R_elder' (Kd.R_mono (zr (p := ⟨gb333, 2, none⟩) (zr (p := ⟨gb333, 1, none⟩) (zr (p := ⟨gb333, 0, none⟩) (Kd.R_types HO_4.1 zF.1 (by decide)) (fun _ hk => hk.2) _) (fun _ hk => hk.2) _) (fun _ hk => hk.2) _) (fun _ h_ => h_.1)) (Kd.R_base ho0) hb); replace HB := kz (zd (by repeat ((with_reducible first | exact HB.1 | refine zq ?_ GE333.1))) hb)))
       go_roundg k1
       case measure => have := HK1.1; omega
       case rel => exact ⟨(t334), (wrap64 (zC + 1)), (by rfl), H', ⟨by have := HK1.1; omega⟩, ⟨by exact Kd.R_mono HO336.1 (fun _ hk => trivial)⟩, ⟨by exact HB.1⟩⟩
      ·
       rw [if_neg c9] at H
       exact absurd H (by simp)
     ·
      rw [if_neg c8] at H
      exact absurd H (by simp)
    ·
     rw [if_neg c7] at H
     have c7b0 : decide (zC < (l0.length : Int)) = false := decide_eq_false c7
     clear c7
     replace H := ky.mp H
     obtain ⟨t337, A150, H⟩ := H
     replace H : (if t337 = true then (some (x4_1, true)) else (some (([] : List (S86)), false))) = some (r1, r2) := H
     have A15 := kz A150
     clear A150
     by_cases c16 : t337 = true
     ·
      subst c16
      have H1 : (some (x4_1, true)) = some (r1, r2) := by rw [if_pos rfl] at H; exact H
      clear H
      have H := H1
      clear H1
      simp only [Option.some.injEq, Prod.mk.injEq] at H
      obtain ⟨rfl, rfl⟩ := H
      obtain ⟨Ao17, co17, eo17⟩ := Kd.R_slice HO_4.1
      subst eo17
      go_wp2_with (((with_reducible refine zv (f := 21) rfl ?_); refine zB (some 26) rfl rfl Try.func21 (by kernel_rfl) rfl #[.slice Ao17 x4_1.length co17] rfl (by (try simp only [kv, kb, kd]); rfl) ?_; (with_reducible refine (impl_GoodTrie.calls k1 _ _ x4_1 true _ ?side1 ?side2 A15.1).mono ?_); (case side1 => repeat (exact (zm HO_4.1).2.2)); (case side2 => exact (zm HO_4.1).2.1); rintro e w18 ⟨rfl, hb⟩; refine ⟨_, rfl, ?_⟩; replace HO_4 := kz (zz HO_4.1 hb); replace HB := kz (zd HB.1 hb)))
      go_ret2
      exact ⟨_, by rfl, by exact HO_4.1, by exact HB.1⟩
     ·
      replace c16 := kx.mpr c16
      subst c16
      have H1 : (some (([] : List (S86)), false)) = some (r1, r2) := by rw [if_neg (show ¬ (false = true) by decide)] at H; exact H
      clear H
      have H := H1
      clear H1
      simp only [Option.some.injEq, Prod.mk.injEq] at H
      obtain ⟨rfl, rfl⟩ := H
      obtain ⟨Ao19, co19, eo19⟩ := Kd.R_slice HO_4.1
      subst eo19
      go_wp2_with (((with_reducible refine zv (f := 21) rfl ?_); refine zB (some 26) rfl rfl Try.func21 (by kernel_rfl) rfl #[.slice Ao19 x4_1.length co19] rfl (by (try simp only [kv, kb, kd]); rfl) ?_; (with_reducible refine (impl_GoodTrie.calls k1 _ _ x4_1 false _ ?side1 ?side2 A15.1).mono ?_); (case side1 => repeat (exact (zm HO_4.1).2.2)); (case side2 => exact (zm HO_4.1).2.1); rintro e w20 ⟨rfl, hb⟩; refine ⟨_, rfl, ?_⟩; replace HB := kz (zd HB.1 hb)))
      go_ret2
      exact ⟨_, by rfl, by exact Kd.R_nil _ _ _ _ _, by exact HB.1⟩
 ·
  replace c3 := kx.mpr c3
  subst c3
  have H1 : (some (([] : List (S86)), false)) = some (r1, r2) := by rw [if_neg (show ¬ (false = true) by decide)] at H; exact H
  clear H
  have H := H1
  clear H1
  simp only [Option.some.injEq, Prod.mk.injEq] at H
  obtain ⟨rfl, rfl⟩ := H
  go_enter Try.func38, Try.ntmps38
  go_wp2_with (((with_reducible refine zv (f := 16) rfl ?_); refine zB (some 8) rfl rfl Try.func16 (by kernel_rfl) rfl #[.slice A0 l0.length c0] rfl (by (try simp only [kv, kb, kd]); rfl) ?_; (with_reducible refine (impl_GoodTable.calls k _ _ l0 false _ ?side1 ?side2 A2.1).mono ?_); (case side1 => repeat (exact HR0.1)); (case side2 => exact HC0.1); rintro e w21 ⟨rfl, hb⟩; refine ⟨_, rfl, ?_⟩; replace HB := kz (zd HB.1 hb)))
  go_ret2
  exact ⟨_, by rfl, by exact Kd.R_nil _ _ _ _ _, by exact HB.1⟩
/-! ### slices_Index_impl_Prefix_impl_Prefix: function 78 -/
def slices_Index_impl_Prefix_impl_Prefix.l0 : Nat → List (S37) → Int → Int → Int → Int → Option (Int)
 | 0, _, _, _, _, _ => none
 | k + 1, x0, x7, x8, x339000, x339001 => if x8 < x7 then (if 0 ≤ x8 then (if x8 < (x0.length : Int) then (if (x339000 == ((rd_T37 x0 x8).f0) && (x339001 == ((rd_T37 x0 x8).f1))) = true then (some x8) else (slices_Index_impl_Prefix_impl_Prefix.l0 k x0 x7 (wrap64 (x8 + 1)) x339000 x339001)) else (none)) else (none)) else (some (-1))
def slices_Index_impl_Prefix_impl_Prefix.f (k : Nat) (l0 : List (S37)) (a1_0 : Int) (a1_1 : Int) : Option (Int) := slices_Index_impl_Prefix_impl_Prefix.l0 k l0 (l0.length : Int) 0 a1_0 a1_1
theorem slices_Index_impl_Prefix_impl_Prefix.calls (k : Nat) (A0 : Option Addr) (c0 : Nat) (l0 : List (S37)) (a1_0 : Int) (a1_1 : Int) (r : Int) (w : World) (hr0 : Kd.C k37 w A0 l0.length l0) (hc0 : l0.length ≤ c0) (h : slices_Index_impl_Prefix_impl_Prefix.f k l0 a1_0 a1_1 = some r) :
  Calls kc 78 #[.slice A0 l0.length c0, .agg #[.int .i64 a1_0, .int .i64 a1_1]] w fun e w' => e = .returned (.int .i64 r) ∧ Below w.heap.size w w' := by
 have hu37 := Try.underlying37
 have HR0 := kz hr0
 have HC0 := kz hc0
 clear hr0 hc0
 have HB := kz (Below.refl w.heap.size w)
 have H : (slices_Index_impl_Prefix_impl_Prefix.l0 k l0 (l0.length : Int) 0 a1_0 a1_1) = some r := h
 clear h
 have H' := kz H
 clear H
 go_enter Try.func78, Try.ntmps78
 go_wp2_with (((with_reducible refine zA (N := 3) rfl ?_); refine box_event rfl (N := 3) rfl (cs := #[.int .i64 a1_0, .int .i64 a1_1]) (t := 37) ?hr ?_; (case hr => go_simp; done); intro gb338 hg w3 hbox hb; replace HB := kz (zd HB.1 hb); have zE := kz hbox; clear hb hbox hg))
 repeat (go_quiet (fail); try go_wp2_with (fail))
 go_loopg [8] k (fun kq v8 w' => ∃ (x8_1 : Int), v8 = .int .i64 x8_1 ∧ zy (slices_Index_impl_Prefix_impl_Prefix.l0 kq l0 (l0.length : Int) x8_1 a1_0 a1_1 = some r) ∧ zy (kq ≤ k) ∧ zy (w'.heap[gb338]? = some (.cells #[.int .i64 a1_0, .int .i64 a1_1] 37 (0, 0))) ∧ zy (Below w.heap.size w w'))
 case atStart => exact ⟨(0), (by rfl), H', ⟨ko _⟩, ⟨by exact zE.1⟩, ⟨by exact HB.1⟩⟩
 case round =>
  clear H'
  obtain ⟨x8_1, rfl, HA, HK1, zE, HB⟩ := hrel
  cases gk with
  | zero => exact absurd HA.1 (by simp [slices_Index_impl_Prefix_impl_Prefix.l0])
  | succ k1 =>
   have H := HA.1
   clear HA
   simp only [slices_Index_impl_Prefix_impl_Prefix.l0] at H
   by_cases c4 : x8_1 < (l0.length : Int)
   ·
    rw [if_pos c4] at H
    have c4b0 : decide (x8_1 < (l0.length : Int)) = true := decide_eq_true c4
    clear c4
    by_cases c5 : 0 ≤ x8_1
    ·
     rw [if_pos c5] at H
     have c5b0 : decide (0 ≤ x8_1) = true := decide_eq_true c5
     clear c5
     by_cases c6 : x8_1 < (l0.length : Int)
     ·
      rw [if_pos c6] at H
      have c6b0 : decide (x8_1 < (l0.length : Int)) = true := decide_eq_true c6
      clear c6
      by_cases c7 : (a1_0 == ((rd_T37 l0 x8_1).f0) && (a1_1 == ((rd_T37 l0 x8_1).f1))) = true
      ·
       rw [if_pos c7] at H
       have c7b0 : (a1_0 == ((rd_T37 l0 x8_1).f0) && (a1_1 == ((rd_T37 l0 x8_1).f1))) = true := c7
       (try (have c7b1 : decide (a1_0 = ((rd_T37 l0 x8_1).f0) && (a1_1 == ((rd_T37 l0 x8_1).f1))) = true := by simpa using c7))
       (try (have c7b2 : (a1_0 == ((rd_T37 l0 x8_1).f0) && (a1_1 == ((rd_T37 l0 x8_1).f1))) = true := by simpa using c7))
       clear c7
       obtain rfl := kk H
       have hcz8_0 : wr.cell? ⟨gb338, 0, none⟩ = some (.int .i64 a1_0) := (zp zE.1 0).trans rfl
       have hcz8_1 : wr.cell? ⟨gb338, 1, none⟩ = some (.int .i64 a1_1) := (zp zE.1 1).trans rfl
       have hfz8_0 := zk zE.1 0
       have hfz8_1 := zk zE.1 1
       have p339 : 0 ≤ (x8_1 : Int) := of_decide_eq_true (by (with_reducible assumption))
       have q339 : x8_1 < (l0.length : Int) := of_decide_eq_true (by (with_reducible assumption))
       obtain ⟨ad339, e339, hx339_0, hx339_1⟩ := at_T37 HR0.1 x8_1 p339 q339
       cases e339
       try replace hx339_0 := (HB.1.cell (World.block_lt_of_cell? w _ hx339_0)).trans hx339_0
       try replace hx339_1 := (HB.1.cell (World.block_lt_of_cell? w _ hx339_1)).trans hx339_1
       replace p339 := eq_true p339
       replace q339 := eq_true q339
       go_wp2
       repeat (go_quiet (fail); try go_wp2)
       go_ret
       exact ⟨by rfl, by repeat ((with_reducible first | exact HB.1 | apply za))⟩
      ·
       rw [if_neg c7] at H
       have c7b0 : (a1_0 == ((rd_T37 l0 x8_1).f0) && (a1_1 == ((rd_T37 l0 x8_1).f1))) = false := by simpa using c7
       (try (have c7b1 : decide (a1_0 = ((rd_T37 l0 x8_1).f0) && (a1_1 == ((rd_T37 l0 x8_1).f1))) = false := by simpa using c7))
       (try (have c7b2 : (a1_0 == ((rd_T37 l0 x8_1).f0) && (a1_1 == ((rd_T37 l0 x8_1).f1))) = false := by simpa using c7))
       (try (have c7b3 : ¬ (a1_0 = ((rd_T37 l0 x8_1).f0) && (a1_1 == ((rd_T37 l0 x8_1).f1))) := by simpa using c7))
       clear c7
       have H' := kz H
       clear H
       have hcz9_0 : wr.cell? ⟨gb338, 0, none⟩ = some (.int .i64 a1_0) := (zp zE.1 0).trans rfl
       have hcz9_1 : wr.cell? ⟨gb338, 1, none⟩ = some (.int .i64 a1_1) := (zp zE.1 1).trans rfl
       have hfz9_0 := zk zE.1 0
       have hfz9_1 := zk zE.1 1
       have p339 : 0 ≤ (x8_1 : Int) := of_decide_eq_true (by (with_reducible assumption))
       have q339 : x8_1 < (l0.length : Int) := of_decide_eq_true (by (with_reducible assumption))
       obtain ⟨ad339, e339, hx339_0, hx339_1⟩ := at_T37 HR0.1 x8_1 p339 q339
       cases e339
       try replace hx339_0 := (HB.1.cell (World.block_lt_of_cell? w _ hx339_0)).trans hx339_0
       try replace hx339_1 := (HB.1.cell (World.block_lt_of_cell? w _ hx339_1)).trans hx339_1
       replace p339 := eq_true p339
       replace q339 := eq_true q339
       go_wp2
       repeat (go_quiet (fail); try go_wp2)
       go_roundg k1
       case measure => have := HK1.1; omega
       case rel => exact ⟨(wrap64 (x8_1 + 1)), (by rfl), H', ⟨by have := HK1.1; omega⟩, ⟨by (with_reducible repeat (refine zs ?_ _)); exact zE.1⟩, ⟨by repeat ((with_reducible first | exact HB.1 | apply za))⟩⟩
     ·
      rw [if_neg c6] at H
      exact absurd H (by simp)
    ·
     rw [if_neg c5] at H
     exact absurd H (by simp)
   ·
    rw [if_neg c4] at H
    have c4b0 : decide (x8_1 < (l0.length : Int)) = false := decide_eq_false c4
    clear c4
    obtain rfl := kk H
    go_wp2
    repeat (go_quiet (fail); try go_wp2)
    go_ret
    exact ⟨by rfl, by exact HB.1⟩
/-- 'clear(s)', s one element of some cells. -/
theorem run_clear_one {P : Program} (w : World) (t e ty : TypeId) (z : Value) (cs : List Value) (ht : P.underlying t = some (.slice e)) (hv : ∀ w, (zeroValue e).run P w = .ok z w) (hz : z.cells.toList = cs) (h1 : ∀ u ∈ cs, u.oneCell' = true) (b o c : Nat)
  (hc : ∀ j, j < cs.length → (w.cell? ⟨b, o + j, none⟩).isSome = true) (hf : ∀ j, j < cs.length → w.frozen? ⟨b, o + j, none⟩ = false) :
  (Builtin.clear_ #[t] ty #[.slice (some ⟨b, o, none⟩) 1 c]).run P w = .ok (.tuple #[]) (w.setCells b o cs) := by
 have hzc : (Builtin.zeroCells z.cells 1).toList = cs := by
  rw [← hz]
  simp [Builtin.zeroCells]
  apply List.ext_getElem
  ·
   simp
  ·
   intro i h1 h2
   simp at h1 h2
   simp [Nat.mod_eq_of_lt h2, getElem!_pos, h2]
 have hst := run_storeCells_cells (P := P) b o cs 0 w (by simpa using hc) (by simpa using hf) h1
 simp only [Nat.add_zero] at hst
 simp [Builtin.clear_, run_underlying ht, hv, hzc, hst]
theorem zero39 : ∀ w, (zeroValue 39).run kc w = .ok (.agg #[(.int .i64 0), (.int .i64 0), (.int .i64 0)]) w := fun w => by
 have := info39
 cases h : Try.prog.info? 39 with
 | none => rw [h] at this; cases this
 | some i0 =>
  rw [h] at this
  have hz : i0.zero = some (.agg #[(.int .i64 0), (.int .i64 0), (.int .i64 0)]) := congrArg (fun o => (o.map (fun x => x.1)).getD none) this
  simp [zeroValue, typeInfo, h, hz]
theorem slices_Delete_impl_Entry_impl_Entry_row (w : World) (g n c i j : Nat) (cur : Array Value) (hg : w.heap[g]? = some (.cells cur 39 (0, 0))) (hnc : n ≤ c) (hc : c ≤ maxLen) (hcur : cur.size = c * 3) (hij : i < j) (hj : j ≤ n) (hone : j = i + 1) (h1 : ∀ u ∈ cur.toList.take (n * 3), u.oneCell' = true) :
  Calls kc 79 #[.slice (some ⟨g, 0, none⟩) n c, .int .i64 (i : Nat), .int .i64 (j : Nat)] w fun e w' => e = .returned (.slice (some ⟨g, 0, none⟩) (n - 1) c) ∧ w' = (w.drew.setCells g (0 + i * 3) ((cur.toList.take (n * 3)).drop (j * 3))).setCells g ((n - 1) * 3) [.int .i64 0, .int .i64 0, .int .i64 0] := by
 have hu25 := Try.underlying25
 obtain ⟨i0, hi0, hz1⟩ : ∃ i0, Try.prog.info? 39 = some i0 ∧ i0.size = 3 := by
  have := info39
  cases h : Try.prog.info? 39 with
  | none => rw [h] at this; cases this
  | some i0 =>
   rw [h] at this
   exact ⟨i0, rfl, by simpa using congrArg (fun o => (o.map (fun x => x.2.1)).getD 0) this⟩
 obtain ⟨news, hnews⟩ : ∃ news, news = (cur.toList.take (n * 3)).drop (j * 3) := ⟨_, rfl⟩
 have hcl : cur.toList.length = c * 3 := by rw [Array.length_toList]; exact hcur
 have hn3 : n * 3 ≤ c * 3 := kg 3 hnc
 have hlen : news.length = (n - j) * 3 := by rw [hnews, kf, kj]; omega
 obtain ⟨A, hA, hsrc⟩ : ∃ A : Addr, (if c = j then some (⟨g, 0, none⟩ : Addr) else some ⟨g, j * 3, none⟩) = some A ∧ Hid (∀ t u, news[t]? = some u → w.drew.cell? (A.add t) = some u) := by
  by_cases h : c = j
  ·
   refine ⟨⟨g, 0, none⟩, by simp [h], fun t u hu => ?_⟩
   have h0 : news.length = 0 := by rw [hlen]; omega
   rw [List.length_eq_zero_iff.1 h0] at hu
   simp at hu
  ·
   refine ⟨⟨g, j * 3, none⟩, by simp [h], fun t u hu => ?_⟩
   rw [hnews, List.getElem?_drop, List.getElem?_take] at hu
   split at hu
   ·
    rw [Addr.add_lit]
    show w.cell? _ = some u
    rw [cell_of_row w g _ cur 39 (0, 0) hg, ← hu, Array.getElem?_toList]
   ·
    cases hu
 have s1 : Hid (news.length = (n - j) * 3) := hlen
 have s2 : Hid (∀ u ∈ news, u.oneCell' = true) := fun u hu => h1 u (List.mem_of_mem_drop (by rw [← hnews]; exact hu))
 have s3 : Hid (∀ t, t < news.length → (w.drew.cell? ⟨g, 0 + i * 3 + t, none⟩).isSome = true ∧ w.drew.frozen? ⟨g, 0 + i * 3 + t, none⟩ = false) := by
  intro t ht
  rw [hlen] at ht
  refine ⟨?_, ?_⟩
  ·
   show (w.cell? _).isSome = true
   rw [cell_of_row w g _ cur 39 (0, 0) hg, Array.getElem?_eq_getElem (by omega)]
   rfl
  ·
   show w.frozen? _ = false
   exact frozen_of_row w g _ cur 39 hg
 obtain ⟨W1, hW1⟩ : ∃ W1, W1 = w.drew.setCells g (0 + i * 3) news := ⟨_, rfl⟩
 obtain ⟨cur1, q1, q2, q3⟩ := setCells_row (g := g) (e := 39) news (0 + i * 3) w.drew cur hg (by rw [hlen]; omega)
 rw [← hW1] at q1
 have hclr : ∀ ty, (Builtin.clear_ #[25] ty #[.slice (some ⟨g, (i + (n - j)) * 3, none⟩) (n - (i + (n - j))) (c - (i + (n - j)))]).run kc W1 = .ok (.tuple #[]) (W1.setCells g ((n - 1) * 3) [.int .i64 0, .int .i64 0, .int .i64 0]) := fun ty => by
  rw [show n - (i + (n - j)) = 1 by omega, show (i + (n - j)) * 3 = (n - 1) * 3 by omega]
  exact run_clear_one W1 25 39 ty _ [.int .i64 0, .int .i64 0, .int .i64 0] Try.underlying25 zero39 rfl (by simp [Value.oneCell']) g _ _ (fun j hj => by
   rw [cell_of_row W1 g _ cur1 39 (0, 0) q1, Array.getElem?_eq_getElem (by simp at hj; omega)]; rfl) (fun j hj => frozen_of_row W1 g _ cur1 39 q1)
 have hW : Hid (W1 = w.drew.setCells g (0 + i * 3) news) := hW1
 have hic : i ≤ c := by omega
 have hjc : j ≤ c := by omega
 have hcm : c ≤ 9223372036854775807 := by simp only [maxLen] at hc; omega
 have hX : Hid (news = (cur.toList.take (n * 3)).drop (j * 3)) := hnews
 clear hnews hg hcur h1 hcl hlen hW1 q1 q2 q3
 have hone' : Hid (j = i + 1) := hone
 clear hone
 have hsz : Try.prog.info? 39 = some i0 := hi0
 go_enter Try.func79, Try.ntmps79
 go_wp2_with fail
 go_region_law (refine step_append_room rfl (.tmp 22) (.tmp 25) 25 rfl 39 i0 3 Try.underlying25 hi0 hz1 g 0 i c (by simp [Act.eval, Act.put]) A (n - j) (c - j) news (by simp [Act.eval, Act.put, hA]) s1.out hsrc.out s2.out (by omega) s3.out ?_; rw [← hW.out])
 go_wp2
 go_ret
 refine ⟨by rw [show n - 1 = i + (n - j) by have := hone'.out; omega]; rfl, ?_⟩
 rw [hW.out, hX.out]
/-- slices.Delete of one element: elsewhere its answer isn't told. -/
def slices_Delete_impl_Entry_impl_Entry.f (l0 : List S39) (a1 a2 : Int) : Option (List S39) := if 0 ≤ a1 ∧ a1 < (l0.length : Int) ∧ a2 = a1 + 1 then some (l0.take a1.toNat ++ l0.drop a2.toNat) else none
theorem reps_cut {α : Type} {R : α → List Value → Prop} {size : Nat} {ps : List α} {cs : List Value} (h : Reps R size ps cs) (i : Nat) (hi : i < ps.length) : Reps R size (ps.take i ++ ps.drop (i + 1)) (cs.take (i * size) ++ cs.drop ((i + 1) * size)) := by
 obtain ⟨h1, h2⟩ := h
 have hs : (i + 1) * size = i * size + size := Nat.succ_mul i size
 have hle : (i + 1) * size ≤ cs.length := by rw [h1]; exact kg _ hi
 have hl : (cs.take (i * size)).length = i * size := by rw [kj]; omega
 refine ⟨?_, fun j p hj => ?_⟩
 ·
  have hA : (i + (ps.length - (i + 1))) * size = i * size + (ps.length * size - (i + 1) * size) := by rw [Nat.add_mul, Nat.sub_mul]
  rw [kh, hl, kf, h1, kh, kj, kf, show min i ps.length = i by omega, hA]
 ·
  by_cases hji : j < i
  ·
   rw [List.getElem?_append_left (by rw [kj]; omega), List.getElem?_take, if_pos hji] at hj
   have hm : (j + 1) * size ≤ i * size := kg _ hji
   rw [Nat.succ_mul] at hm
   rw [List.drop_append_of_le_length (by omega), ke (by rw [kf]; omega), List.drop_take, List.take_take, show min size (i * size - j * size) = size by omega]
   exact h2 j p hj
  ·
   rw [List.getElem?_append_right (by rw [kj]; omega), kj, show min i ps.length = i by omega, List.getElem?_drop] at hj
   have hm : i * size ≤ j * size := kg _ (by omega)
   have e : (cs.take (i * size) ++ cs.drop ((i + 1) * size)).drop (j * size) = cs.drop ((j + 1) * size) := by
    rw [List.drop_append, hl, List.drop_of_length_le (by omega), List.nil_append, List.drop_drop]
    congr 1
    rw [Nat.succ_mul j size]
    omega
   rw [e]
   exact h2 (j + 1) p (by rw [← hj]; congr 1; omega)
theorem slices_Delete_impl_Entry_impl_Entry.calls (v0 : Value) (l0 : List S39) (a1 a2 : Int) (base : Nat) (r : List S39) (w : World) (hr0 : Kd.R k39 39 w base (fun _ => True) v0 l0) (h : slices_Delete_impl_Entry_impl_Entry.f l0 a1 a2 = some r) :
  Calls kc 79 #[v0, .int .i64 a1, .int .i64 a2] w fun e w' => ∃ v0_ : Value, e = .returned (v0_) ∧ Kd.R k39 39 w' base (fun _ => True) v0_ r ∧ w.grownBy w' v0.ownBlock := by
 unfold slices_Delete_impl_Entry_impl_Entry.f at h
 by_cases hc : 0 ≤ a1 ∧ a1 < (l0.length : Int) ∧ a2 = a1 + 1
 case neg => rw [if_neg hc] at h; cases h
 rw [if_pos hc] at h
 obtain rfl := kk h
 obtain ⟨i0, i1, rfl⟩ := hc
 obtain ⟨i, rfl⟩ := Int.eq_ofNat_of_zero_le i0
 have hi : i < l0.length := by omega
 obtain ⟨_, inner, hown, hreps⟩ := hr0
 rcases hown.2 with ⟨rfl, hn⟩ | ⟨g, cap, cur, rfl, hb, hg, hnc, hcm, hcur, htake⟩
 ·
  omega
 have hin : ∀ u ∈ inner, u.oneCell' = true := fun u hu => by
  obtain ⟨q, hq, rfl⟩ := List.mem_iff_getElem.1 hu
  have hsz : k39.sz = 3 := rfl
  have hlen : inner.length = l0.length * 3 := hown.1
  have hql : q / 3 < l0.length := by omega
  have hM := hreps.2 (q / 3) _ (List.getElem?_eq_getElem hql)
  refine k39.K_one (k39.K_of_M hM) _ ?_
  rw [hsz]
  refine List.mem_iff_getElem?.2 ⟨q % 3, ?_⟩
  rw [List.getElem?_take, if_pos (Nat.mod_lt _ (by omega)), List.getElem?_drop, show q / 3 * 3 + q % 3 = q by omega, List.getElem?_eq_getElem hq]
 have hcur' : cur.size = cap * 3 := hcur
 have htake' : cur.toList.take (l0.length * 3) = inner := htake
 refine ((slices_Delete_impl_Entry_impl_Entry_row w g l0.length cap i (i + 1) cur hg hnc hcm hcur' (by omega) (by omega) rfl (by rw [htake']; exact hin))).mono ?_
 rintro e w' ⟨rfl, rfl⟩
 have hcl : cur.toList.length = cap * 3 := by rw [Array.length_toList]; exact hcur'
 have hn3 : l0.length * 3 ≤ cap * 3 := kg 3 hnc
 have hil : inner.length = l0.length * 3 := hown.1
 rw [htake']
 have hnl : (inner.drop ((i + 1) * 3)).length = (l0.length - (i + 1)) * 3 := by rw [kf]; omega
 obtain ⟨cur1, q1, q2, q3⟩ := setCells_row (g := g) (e := 39) (inner.drop ((i + 1) * 3)) (0 + i * 3) w.drew cur hg (by rw [hnl]; omega)
 obtain ⟨cur2, p1, p2, p3⟩ := setCells_row (g := g) (e := 39) [.int .i64 0, .int .i64 0, .int .i64 0] ((l0.length - 1) * 3) (w.drew.setCells g (0 + i * 3) (inner.drop ((i + 1) * 3))) cur1 q1 (by simp; omega)
 obtain ⟨s1, s2, s3, s4⟩ := setCells_same g (inner.drop ((i + 1) * 3)) (0 + i * 3) w.drew
 obtain ⟨t1, t2, t3, t4⟩ := setCells_same g [.int .i64 0, .int .i64 0, .int .i64 0] ((l0.length - 1) * 3) (w.drew.setCells g (0 + i * 3) (inner.drop ((i + 1) * 3)))
 have hfar : ∀ k, k ≠ g → ((w.drew.setCells g (0 + i * 3) (inner.drop ((i + 1) * 3))).setCells g ((l0.length - 1) * 3) [.int .i64 0, .int .i64 0, .int .i64 0]).heap[k]? = w.heap[k]? := fun k hk => by
  rw [setCells_far _ _ k hk, setCells_far _ _ k hk]
  rfl
 have hgrown : w.grownBy ((w.drew.setCells g (0 + i * 3) (inner.drop ((i + 1) * 3))).setCells g ((l0.length - 1) * 3) [.int .i64 0, .int .i64 0, .int .i64 0]) (some g) :=
  ⟨t1.trans s1, t2.trans s2, t3.trans s3, by rw [t4, s4]; exact ko _, fun k _ hk => hfar k (fun e => hk (by rw [e]))⟩
 have hlen' : (l0.take ((i : Nat) : Int).toNat ++ l0.drop (((i : Nat) : Int) + 1).toNat).length = l0.length - 1 := by
  rw [kh, kj, kf]; omega
 have hcut := reps_cut hreps i hi
 have e1 : (((i : Nat) : Int)).toNat = i := by omega
 have e2 : (((i : Nat) : Int) + 1).toNat = i + 1 := by omega
 rw [e1, e2] at hlen' ⊢
 refine ⟨.slice (some ⟨g, 0, none⟩) (l0.length - 1) cap, rfl, ⟨fun _ _ => trivial, inner.take (i * 3) ++ inner.drop ((i + 1) * 3), ?_, ?_⟩, hgrown⟩
 ·
  rw [hlen']
  refine ⟨by rw [kh, kj, hnl]; show _ = (l0.length - 1) * 3; omega, .inr ⟨g, cap, cur2, rfl, hb, p1, by omega, hcm, by rw [p2, q2]; exact hcur, ?_⟩⟩
  show cur2.toList.take ((l0.length - 1) * 3) = _
  have h1 : (cur1.toList).take ((l0.length - 1) * 3) = inner.take (i * 3) ++ inner.drop ((i + 1) * 3) := by
   have e3 : cur.toList.take (0 + i * 3) = inner.take (i * 3) := by rw [← htake', List.take_take, Nat.zero_add, show min (i * 3) (l0.length * 3) = i * 3 by omega]
   rw [q3, e3, ke (by rw [kh, kj, hnl]; omega), List.take_of_length_le (by rw [kh, kj, hnl]; omega)]
  have hc1 : cur1.toList.length = cap * 3 := by rw [Array.length_toList, q2]; exact hcur'
  rw [p3, List.append_assoc, ke (by rw [kj]; omega), List.take_take, Nat.min_self, h1]
 ·
  exact hcut.imp_ (fun x cs hM => k39.M_mono (ok := fun k => True ∧ some k ≠ (Value.slice (some (⟨g, 0, none⟩ : Addr)) l0.length cap).ownBlock) (fun k hk => hk) (k39.M_move (fun k hk => hfar k (fun e => hk.2 (by rw [e]; rfl))) hM))
end Go.Proofs.Ytakoaogbkajkcaa.PFnTrieSteps
