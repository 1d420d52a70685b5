/- Go functions told by Lean functions, printed by a program. No condition but what each statement says. -/
import Derived.Test.YtakoaogbkajkcaaYFnLongestx5
namespace Go.Proofs.Ytakoaogbkajkcaa.PFnLongest
open Go.RowKit Go.Proofs.YtakoaogbkajkcaaW.PrintWords Go.Proofs.YtakoaogbkajkcaaW.PrintLast Go.Proofs.YtakoaogbkajkcaaW.PrintMore
open Aside0 renaming mk → kz
open Option renaming bind_eq_some_iff → ky
open Option.some renaming inj → kj
open List renaming map_toArray → kk, map_cons → kh
open Try renaming prog → kv
set_option maxHeartbeats 8000000
set_option maxRecDepth 100000
open Go.Proofs.YtakoaogbkajkcaaW.PrintWords renaming pw_below_drewN → za, below_step → zd, below_size → zg, Aside0 → zl
attribute [local go_sem] max2_int min2_int max_two min_two max_three min_three max_four min_four
set_option linter.unusedVariables false
set_option linter.unusedSimpArgs false
/-! ### impl_prefixesOf: function 54 -/
def impl_prefixesOf.l0 : Nat → List (S37) → List (S39) → Int → Int → Option ((List (S37)))
 | 0, _, _, _, _ => none
 | k + 1, x3, x7, x8, x9 => if x9 < x8 then (if 0 ≤ x9 then (if x9 < (x7.length : Int) then (if x3.length < 8796093022208 then (impl_prefixesOf.l0 k (x3 ++ [(⟨(rd_T39 x7 x9).f0.f0, (rd_T39 x7 x9).f0.f1⟩ : S37)]) x7 x8 (wrap64 (x9 + 1))) else (none)) else (none)) else (none)) else (some x3)
def impl_prefixesOf.f (k : Nat) (l0 : List (S39)) : Option ((List (S37))) := impl_prefixesOf.l0 k (([] : List (S37))) l0 (l0.length : Int) 0
theorem impl_prefixesOf.calls (k : Nat) (A0 : Option Addr) (c0 : Nat) (l0 : List (S39)) (r : List (S37)) (w : World) (hr0 : Kd.C k39 w A0 l0.length l0) (hc0 : l0.length ≤ c0) (h : impl_prefixesOf.f k l0 = some r) :
  Calls kv 54 #[.slice A0 l0.length c0] w fun e w' => ∃ v0_ : Value, e = .returned (v0_) ∧ Kd.R k37 37 w' w.heap.size (fun _ => True) v0_ r ∧ Below w.heap.size w w' := by
 have hu39 := Try.underlying39; have hu37 := Try.underlying37; have HR0 := kz hr0; have HC0 := kz hc0; clear hr0 hc0; have HB := kz (Below.refl w.heap.size w); have H : (impl_prefixesOf.l0 k (([] : List (S37))) l0 (l0.length : Int) 0) = some r := h; clear h; obtain ⟨y122, hy122⟩ : ∃ y_ : List (S37), y_ = (([] : List (S37))) := ⟨_, rfl⟩
 replace H : (impl_prefixesOf.l0 k y122 l0 (l0.length : Int) 0) = some r := by (rw [hy122]; with_reducible exact H)
 have Ny122 := kz hy122; clear hy122; have H' := kz H; clear H; go_enter Try.func54, Try.ntmps54; go_wp2_with (((with_reducible refine gate_dst (N := 6) rfl ?_); refine Kd.R_lit k37 _ 37 rfl (N := 6) rfl (xs := ([] : List (S37))) (inner := []) (ok := fun _ => True) (okp := fun _ => True) ?hr ?hp (fun _ hk => hk) trivial (Below.refl _ _) (Nat.le_refl _) (by simp) ?_; (case hr => go_simp; done); (case hp => exact (Reps.none _ _)); intro v123 w2 ho3 hb hg_ hnew_; clear hg_ hnew_; (rw [← Ny122.1] at ho3); have HO124 := kz (Kd.R_lower ho3 (zg HB.1)); replace HB := kz (zd HB.1 hb); clear hb ho3)); go_loopg [3, 9] k (fun kq v3 v9 w' => ∃ (x3_1 : List (S37)) (x9_1 : Int), v9 = .int .i64 x9_1 ∧ zl (impl_prefixesOf.l0 kq x3_1 l0 (l0.length : Int) x9_1 = some r) ∧ zl (kq ≤ k) ∧ zl (Kd.R k37 37 w' w.heap.size (fun _ => True) v3 x3_1) ∧ zl (Below w.heap.size w w')); case atStart => exact ⟨(y122), (0), (by rfl), H', ⟨Nat.le_refl _⟩, ⟨by exact HO124.1⟩, ⟨by exact HB.1⟩⟩
 case round =>
  clear H'; obtain ⟨x3_1, x9_1, rfl, HA, HK1, HO_3, HB⟩ := hrel; cases gk with
  | zero => exact absurd HA.1 (by simp [impl_prefixesOf.l0])
  | succ k1 =>
   have H := HA.1; clear HA; simp only [impl_prefixesOf.l0] at H; by_cases c4 : x9_1 < (l0.length : Int)
   ·
    rw [if_pos c4] at H; have c4b0 : decide (x9_1 < (l0.length : Int)) = true := decide_eq_true c4; clear c4; by_cases c5 : 0 ≤ x9_1
    ·
     rw [if_pos c5] at H; have c5b0 : decide (0 ≤ x9_1) = true := decide_eq_true c5; clear c5; by_cases c6 : x9_1 < (l0.length : Int)
     ·
      rw [if_pos c6] at H; have c6b0 : decide (x9_1 < (l0.length : Int)) = true := decide_eq_true c6; clear c6; by_cases c7 : x3_1.length < 8796093022208
      ·
       rw [if_pos c7] at H; have LMc7 := kz c7; clear c7; obtain ⟨y127, hy127⟩ : ∃ y_ : List (S37), y_ = (x3_1 ++ [(⟨(rd_T39 l0 x9_1).f0.f0, (rd_T39 l0 x9_1).f0.f1⟩ : S37)]) := ⟨_, rfl⟩
       replace H : (impl_prefixesOf.l0 k1 y127 l0 (l0.length : Int) (wrap64 (x9_1 + 1))) = some r := by (rw [hy127]; with_reducible exact H)
       have Ny127 := kz hy127; clear hy127; have H' := kz H; clear H; have p125 : 0 ≤ (x9_1 : Int) := of_decide_eq_true (by (with_reducible assumption)); have q125 : x9_1 < (l0.length : Int) := of_decide_eq_true (by (with_reducible assumption)); obtain ⟨ad125, e125, hx125_0, hx125_1, hx125_2⟩ := at_T39 HR0.1 x9_1 p125 q125; cases e125; try replace hx125_0 := (HB.1.cell (World.block_lt_of_cell? w _ hx125_0)).trans hx125_0
       try replace hx125_1 := (HB.1.cell (World.block_lt_of_cell? w _ hx125_1)).trans hx125_1
       try replace hx125_2 := (HB.1.cell (World.block_lt_of_cell? w _ hx125_2)).trans hx125_2
       replace p125 := eq_true p125; replace q125 := eq_true q125; go_wp2_with (first | ((with_reducible refine gate_dst (N := 5) rfl ?_); refine box_event rfl (N := 5) rfl (cs := #[.int .i64 0, .int .i64 0, .int .i64 0]) (t := 39) ?hr ?_; (case hr => go_simp; done); intro gb126 hg w8 hbox hb; replace HO_3 := kz (Kd.R_below HO_3.1 hb); have zn := kz hbox; have GE126 := kz (by rw [hg]; exact (zg HB.1) : w.heap.size ≤ gb126); replace HB := kz (zd HB.1 hb); clear hb hbox hg; have hcz9_0 : w8.cell? ⟨gb126, 0, none⟩ = some (.int .i64 0) := (blk_cell zn.1 0).trans rfl; have hcz9_1 : w8.cell? ⟨gb126, 1, none⟩ = some (.int .i64 0) := (blk_cell zn.1 1).trans rfl; have hcz9_2 : w8.cell? ⟨gb126, 2, none⟩ = some (.int .i64 0) := (blk_cell zn.1 2).trans rfl; have hfz9_0 := blk_frozen zn.1 0; have hfz9_1 := blk_frozen zn.1 1; have hfz9_2 := blk_frozen zn.1 2) | ((with_reducible refine gate_builtin (b := .append) (xs := #[.tmp 13, .tmp 16]) rfl ?_); at_builtin; refine Kd.R_append k37 (w0 := w) w.heap.size rfl (.tmp 13) (.tmp 16) 79 37 (.agg #[(.int .i64 0), (.int .i64 0)]) 16 rfl Try.underlying79 info37 rfl (by decide) (by omega) u3 x3_1 (⟨(rd_T39 l0 x9_1).f0.f0, (rd_T39 l0 x9_1).f0.f1⟩ : S37) [.int .i64 ((rd_T39 l0 x9_1).f0.f0), .int .i64 ((rd_T39 l0 x9_1).f0.f1)] (fun _ => True) (fun _ => False) rfl (by (go_simp; done)) ?aP (fun _ hk => hk.elim) ?aF ?aO ?aB ?aS ?aL ?_; (case aP => exact k37_mkM _ _ _ (⟨(rd_T39 l0 x9_1).f0.f0, (rd_T39 l0 x9_1).f0.f1⟩ : S37)); (case aB => exact (by repeat ((with_reducible first | exact HB.1 | refine below_set ?_ GE126.1)))); (case aF => exact (fun _ _ => trivial)); (case aO => exact (by exact Kd.R_mono (Kd.R_far (p := ⟨gb126, 2, none⟩) (Kd.R_far (p := ⟨gb126, 1, none⟩) (Kd.R_far (p := ⟨gb126, 0, none⟩) (Kd.R_types HO_3.1 zn.1 (by decide)) (fun _ hk => hk.2) _) (fun _ hk => hk.2) _) (fun _ hk => hk.2) _) (fun _ hk => trivial))); (case aS => exact (zg (by repeat ((with_reducible first | exact HB.1 | refine below_set ?_ GE126.1))))); (case aL => have := LMc7.1; omega); intro v128 w10 ho hb hg hat; rw [← Ny127.1] at ho; replace HB := kz hb; have HO129 := kz ho; clear ho hb hg hat)); go_roundg k1; case measure => have := HK1.1; omega
       case rel => exact ⟨(y127), (wrap64 (x9_1 + 1)), (by rfl), H', ⟨by have := HK1.1; omega⟩, ⟨by exact HO129.1⟩, ⟨by exact HB.1⟩⟩
      · rw [if_neg c7] at H; exact absurd H (by simp)
     · rw [if_neg c6] at H; exact absurd H (by simp)
    · rw [if_neg c5] at H; exact absurd H (by simp)
   · rw [if_neg c4] at H; have c4b0 : decide (x9_1 < (l0.length : Int)) = false := decide_eq_false c4; clear c4; obtain rfl := kj H; go_wp2; go_ret; exact ⟨_, by rfl, by exact HO_3.1, by exact HB.1⟩
/-! ### impl_isValue: function 57 -/
def impl_isValue.f (a0 : Int) : Option (Bool) := (impl_within.f a0 0 1000000).bind fun t130 => (some t130)
theorem impl_isValue.calls (a0 : Int) (r : Bool) (w : World) (h : impl_isValue.f a0 = some r) :
  Calls kv 57 #[.int .i64 a0] w fun e w' => e = .returned (.bool r) ∧ Drawn0 w w' := by
 have H : ((impl_within.f a0 0 1000000).bind fun t130 => (some t130)) = some r := h; clear h; replace H := ky.mp H; obtain ⟨t130, A20, H⟩ := H; replace H : (some t130) = some r := H; have A2 := kz A20; clear A20; obtain rfl := kj H; go_enter Try.func57, Try.ntmps57; go_wp2_with (((with_reducible refine gate_callee (f := 60) rfl ?_); refine goesL_ (some 4) rfl rfl Try.func60 (by kernel_rfl) rfl #[.int .i64 a0, .int .i64 0, .int .i64 1000000] rfl (by (try simp only [kk, kh, List.map_nil]); rfl) ?_; (with_reducible refine (impl_within.calls a0 0 1000000 t130 _ A2.1).mono ?_); rintro e w' ⟨rfl, ⟨nd, rfl⟩⟩; refine ⟨_, rfl, ?_⟩)); go_ret; exact ⟨by rfl, by repeat (first | exact Drawn0.refl _ | apply Drawn0.step)⟩
/-! ### impl_GoodTable_1: function 56 -/
def impl_GoodTable_1.f (a0_0 : Int) (a0_1 : Int) (a0_2 : Int) : Option (Bool) := (impl_isValue.f a0_2).bind fun t132 => (some (!t132))
theorem impl_GoodTable_1.calls (a0_0 : Int) (a0_1 : Int) (a0_2 : Int) (r : Bool) (w : World) (h : impl_GoodTable_1.f a0_0 a0_1 a0_2 = some r) :
  Calls kv 56 #[.agg #[.int .i64 a0_0, .int .i64 a0_1, .int .i64 a0_2]] w fun e w' => e = .returned (.bool r) ∧ Below w.heap.size w w' := by
 have hu39 := Try.underlying39; have HB := kz (Below.refl w.heap.size w); have H : ((impl_isValue.f a0_2).bind fun t132 => (some (!t132))) = some r := h; clear h; replace H := ky.mp H; obtain ⟨t132, A20, H⟩ := H; replace H : (some (!t132)) = some r := H; have A2 := kz A20; clear A20; obtain rfl := kj H; go_enter Try.func56, Try.ntmps56; go_wp2_with (first | ((with_reducible refine gate_dst (N := 1) rfl ?_); refine box_event rfl (N := 1) rfl (cs := #[.int .i64 a0_0, .int .i64 a0_1, .int .i64 a0_2]) (t := 39) ?hr ?_; (case hr => go_simp; done); intro gb131 hg w3 hbox hb; replace HB := kz (zd HB.1 hb); have zo := kz hbox; clear hb hbox hg; have hcz4_0 : w3.cell? ⟨gb131, 0, none⟩ = some (.int .i64 a0_0) := (blk_cell zo.1 0).trans rfl; have hcz4_1 : w3.cell? ⟨gb131, 1, none⟩ = some (.int .i64 a0_1) := (blk_cell zo.1 1).trans rfl; have hcz4_2 : w3.cell? ⟨gb131, 2, none⟩ = some (.int .i64 a0_2) := (blk_cell zo.1 2).trans rfl; have hfz4_0 := blk_frozen zo.1 0; have hfz4_1 := blk_frozen zo.1 1; have hfz4_2 := blk_frozen zo.1 2) | ((with_reducible refine gate_callee (f := 57) rfl ?_); refine goesL_ (some 5) rfl rfl Try.func57 (by kernel_rfl) rfl #[.int .i64 a0_2] rfl (by (try simp only [kk, kh, List.map_nil]); rfl) ?_; (with_reducible refine (impl_isValue.calls a0_2 t132 _ A2.1).mono ?_); rintro e w' ⟨rfl, ⟨nd, rfl⟩⟩; refine ⟨_, rfl, ?_⟩)); go_ret; exact ⟨by rfl, by repeat ((with_reducible first | exact HB.1 | apply za))⟩
/-! ### slices_IndexFunc_impl_Entry_impl_Entry: function 90 -/
def slices_IndexFunc_impl_Entry_impl_Entry.l0 : Nat → List (S39) → Int → Int → Option (Int)
 | 0, _, _, _ => none
 | k + 1, x0, x7, x8 => if x8 < x7 then (if 0 ≤ x8 then (if x8 < (x0.length : Int) then ((impl_GoodTable_1.f ((rd_T39 x0 x8).f0.f0) ((rd_T39 x0 x8).f0.f1) ((rd_T39 x0 x8).f1)).bind fun t134 => (if t134 = true then (some x8) else (slices_IndexFunc_impl_Entry_impl_Entry.l0 k x0 x7 (wrap64 (x8 + 1))))) else (none)) else (none)) else (some (-1))
def slices_IndexFunc_impl_Entry_impl_Entry.f (k : Nat) (l0 : List (S39))  : Option (Int) := slices_IndexFunc_impl_Entry_impl_Entry.l0 k l0 (l0.length : Int) 0
theorem slices_IndexFunc_impl_Entry_impl_Entry.calls (k : Nat) (A0 : Option Addr) (c0 : Nat) (l0 : List (S39))  (r : Int) (w : World) (hr0 : Kd.C k39 w A0 l0.length l0) (hc0 : l0.length ≤ c0) (h : slices_IndexFunc_impl_Entry_impl_Entry.f k l0 = some r) :
  Calls kv 90 #[.slice A0 l0.length c0, .func (.func 56) #[] #[]] w fun e w' => e = .returned (.int .i64 r) ∧ Below w.heap.size w w' := by
 have hu39 := Try.underlying39; have HR0 := kz hr0; have HC0 := kz hc0; clear hr0 hc0; have HB := kz (Below.refl w.heap.size w); have H : (slices_IndexFunc_impl_Entry_impl_Entry.l0 k l0 (l0.length : Int) 0) = some r := h; clear h; have H' := kz H; clear H; go_enter Try.func90, Try.ntmps90; go_wp2; go_loopg [8] k (fun kq v8 w' => ∃ (x8_1 : Int), v8 = .int .i64 x8_1 ∧ zl (slices_IndexFunc_impl_Entry_impl_Entry.l0 kq l0 (l0.length : Int) x8_1 = some r) ∧ zl (kq ≤ k) ∧ zl (Below w.heap.size w w')); case atStart => exact ⟨(0), (by rfl), H', ⟨Nat.le_refl _⟩, ⟨by exact HB.1⟩⟩
 case round =>
  clear H'; obtain ⟨x8_1, rfl, HA, HK1, HB⟩ := hrel; cases gk with
  | zero => exact absurd HA.1 (by simp [slices_IndexFunc_impl_Entry_impl_Entry.l0])
  | succ k1 =>
   have H := HA.1; clear HA; simp only [slices_IndexFunc_impl_Entry_impl_Entry.l0] at H; by_cases c3 : x8_1 < (l0.length : Int)
   ·
    rw [if_pos c3] at H; have c3b0 : decide (x8_1 < (l0.length : Int)) = true := decide_eq_true c3; clear c3; by_cases c4 : 0 ≤ x8_1
    ·
     rw [if_pos c4] at H; have c4b0 : decide (0 ≤ x8_1) = true := decide_eq_true c4; clear c4; by_cases c5 : x8_1 < (l0.length : Int)
     ·
      rw [if_pos c5] at H; have c5b0 : decide (x8_1 < (l0.length : Int)) = true := decide_eq_true c5; clear c5; replace H := ky.mp H; obtain ⟨t134, A60, H⟩ := H; replace H : (if t134 = true then (some x8_1) else (slices_IndexFunc_impl_Entry_impl_Entry.l0 k1 l0 (l0.length : Int) (wrap64 (x8_1 + 1)))) = some r := H; have A6 := kz A60; clear A60; by_cases c7 : t134 = true
      ·
       subst c7; have H1 : (some x8_1) = some r := by rw [if_pos rfl] at H; exact H
       clear H; have H := H1; clear H1; obtain rfl := kj H; have p133 : 0 ≤ (x8_1 : Int) := of_decide_eq_true (by (with_reducible assumption)); have q133 : x8_1 < (l0.length : Int) := of_decide_eq_true (by (with_reducible assumption)); obtain ⟨ad133, e133, hx133_0, hx133_1, hx133_2⟩ := at_T39 HR0.1 x8_1 p133 q133; cases e133; try replace hx133_0 := (HB.1.cell (World.block_lt_of_cell? w _ hx133_0)).trans hx133_0
       try replace hx133_1 := (HB.1.cell (World.block_lt_of_cell? w _ hx133_1)).trans hx133_1
       try replace hx133_2 := (HB.1.cell (World.block_lt_of_cell? w _ hx133_2)).trans hx133_2
       replace p133 := eq_true p133; replace q133 := eq_true q133; go_wp2_with ((go_at_call 56; (with_reducible refine (impl_GoodTable_1.calls ((rd_T39 l0 x8_1).f0.f0) ((rd_T39 l0 x8_1).f0.f1) ((rd_T39 l0 x8_1).f1) true _ A6.1).mono ?_); rintro e w8 ⟨rfl, hb⟩; replace HB := kz (zd HB.1 hb))); go_ret; exact ⟨by rfl, by exact HB.1⟩
      ·
       replace c7 := Bool.eq_false_iff.mpr c7; subst c7; have H1 : (slices_IndexFunc_impl_Entry_impl_Entry.l0 k1 l0 (l0.length : Int) (wrap64 (x8_1 + 1))) = some r := by rw [if_neg (show ¬ (false = true) by decide)] at H; exact H
       clear H; have H := H1; clear H1; have H' := kz H; clear H; have p133 : 0 ≤ (x8_1 : Int) := of_decide_eq_true (by (with_reducible assumption)); have q133 : x8_1 < (l0.length : Int) := of_decide_eq_true (by (with_reducible assumption)); obtain ⟨ad133, e133, hx133_0, hx133_1, hx133_2⟩ := at_T39 HR0.1 x8_1 p133 q133; cases e133; try replace hx133_0 := (HB.1.cell (World.block_lt_of_cell? w _ hx133_0)).trans hx133_0
       try replace hx133_1 := (HB.1.cell (World.block_lt_of_cell? w _ hx133_1)).trans hx133_1
       try replace hx133_2 := (HB.1.cell (World.block_lt_of_cell? w _ hx133_2)).trans hx133_2
       replace p133 := eq_true p133; replace q133 := eq_true q133; go_wp2_with ((go_at_call 56; (with_reducible refine (impl_GoodTable_1.calls ((rd_T39 l0 x8_1).f0.f0) ((rd_T39 l0 x8_1).f0.f1) ((rd_T39 l0 x8_1).f1) false _ A6.1).mono ?_); rintro e w9 ⟨rfl, hb⟩; replace HB := kz (zd HB.1 hb))); go_roundg k1; case measure => have := HK1.1; omega
       case rel => exact ⟨(wrap64 (x8_1 + 1)), (by rfl), H', ⟨by have := HK1.1; omega⟩, ⟨by exact HB.1⟩⟩
     · rw [if_neg c5] at H; exact absurd H (by simp)
    · rw [if_neg c4] at H; exact absurd H (by simp)
   · rw [if_neg c3] at H; have c3b0 : decide (x8_1 < (l0.length : Int)) = false := decide_eq_false c3; clear c3; obtain rfl := kj H; go_wp2; go_ret; exact ⟨by rfl, by exact HB.1⟩
/-! ### slices_ContainsFunc_impl_Entry_impl_Entry: function 55 -/
def slices_ContainsFunc_impl_Entry_impl_Entry.f (k : Nat) (l0 : List (S39))  : Option (Bool) := (slices_IndexFunc_impl_Entry_impl_Entry.f k l0).bind fun t135 => (some (decide (t135 ≥ 0)))
theorem slices_ContainsFunc_impl_Entry_impl_Entry.calls (k : Nat) (A0 : Option Addr) (c0 : Nat) (l0 : List (S39))  (r : Bool) (w : World) (hr0 : Kd.C k39 w A0 l0.length l0) (hc0 : l0.length ≤ c0) (h : slices_ContainsFunc_impl_Entry_impl_Entry.f k l0 = some r) :
  Calls kv 55 #[.slice A0 l0.length c0, .func (.func 56) #[] #[]] w fun e w' => e = .returned (.bool r) ∧ Below w.heap.size w w' := by
 have HR0 := kz hr0; have HC0 := kz hc0; clear hr0 hc0; have HB := kz (Below.refl w.heap.size w); have H : ((slices_IndexFunc_impl_Entry_impl_Entry.f k l0).bind fun t135 => (some (decide (t135 ≥ 0)))) = some r := h; clear h; replace H := ky.mp H; obtain ⟨t135, A30, H⟩ := H; replace H : (some (decide (t135 ≥ 0))) = some r := H; have A3 := kz A30; clear A30; obtain rfl := kj H; go_enter Try.func55, Try.ntmps55; go_wp2_with (((with_reducible refine gate_callee (f := 90) rfl ?_); refine goesL_ (some 7) rfl rfl Try.func90 (by kernel_rfl) rfl #[.slice A0 l0.length c0, .func (.func 56) #[] #[]] rfl (by (try simp only [kk, kh, List.map_nil]); rfl) ?_; (with_reducible refine (slices_IndexFunc_impl_Entry_impl_Entry.calls k _ _ l0  t135 _ ?side1 ?side2 A3.1).mono ?_); (case side1 => repeat (exact HR0.1)); (case side2 => exact HC0.1); rintro e w4 ⟨rfl, hb⟩; refine ⟨_, rfl, ?_⟩; replace HB := kz (zd HB.1 hb))); go_ret; exact ⟨by rfl, by exact HB.1⟩
/-! ### impl_GoodTable: function 16 -/
def impl_GoodTable.f (k : Nat) (l0 : List (S39)) : Option (Bool) := if (l0.length : Int) ≤ 30 then ((impl_prefixesOf.f k l0).bind fun t136 => ((impl_areRising.f k t136).bind fun t139 => (if t139 = true then ((slices_ContainsFunc_impl_Entry_impl_Entry.f k l0).bind fun t140 => (some (!t140))) else (some false)))) else (some false)
theorem impl_GoodTable.calls (k : Nat) (A0 : Option Addr) (c0 : Nat) (l0 : List (S39)) (r : Bool) (w : World) (hr0 : Kd.C k39 w A0 l0.length l0) (hc0 : l0.length ≤ c0) (h : impl_GoodTable.f k l0 = some r) :
  Calls kv 16 #[.slice A0 l0.length c0] w fun e w' => e = .returned (.bool r) ∧ Below w.heap.size w w' := by
 have HR0 := kz hr0; have HC0 := kz hc0; clear hr0 hc0; have HB := kz (Below.refl w.heap.size w); have H : (if (l0.length : Int) ≤ 30 then ((impl_prefixesOf.f k l0).bind fun t136 => ((impl_areRising.f k t136).bind fun t139 => (if t139 = true then ((slices_ContainsFunc_impl_Entry_impl_Entry.f k l0).bind fun t140 => (some (!t140))) else (some false)))) else (some false)) = some r := h; clear h; by_cases c2 : (l0.length : Int) ≤ 30
 ·
  rw [if_pos c2] at H; have c2b0 : decide ((l0.length : Int) ≤ 30) = true := decide_eq_true c2; have c2b1 : decide (l0.length ≤ 30) = true := decide_eq_true (by omega); clear c2; replace H := ky.mp H; obtain ⟨t136, A30, H⟩ := H; replace H : ((impl_areRising.f k t136).bind fun t139 => (if t139 = true then ((slices_ContainsFunc_impl_Entry_impl_Entry.f k l0).bind fun t140 => (some (!t140))) else (some false))) = some r := H; have A3 := kz A30; clear A30; replace H := ky.mp H; obtain ⟨t139, A40, H⟩ := H; replace H : (if t139 = true then ((slices_ContainsFunc_impl_Entry_impl_Entry.f k l0).bind fun t140 => (some (!t140))) else (some false)) = some r := H; have A4 := kz A40; clear A40; by_cases c5 : t139 = true
  ·
   subst c5; have H1 : ((slices_ContainsFunc_impl_Entry_impl_Entry.f k l0).bind fun t140 => (some (!t140))) = some r := by rw [if_pos rfl] at H; exact H
   clear H; have H := H1; clear H1; replace H := ky.mp H; obtain ⟨t140, A60, H⟩ := H; replace H : (some (!t140)) = some r := H; have A6 := kz A60; clear A60; obtain rfl := kj H; go_enter Try.func16, Try.ntmps16; go_wp2_with (first | (go_at_call 54; (with_reducible refine (impl_prefixesOf.calls k _ _ l0 t136 _ ?side1 ?side2 A3.1).mono ?_); (case side1 => repeat (exact HR0.1)); (case side2 => exact HC0.1); rintro e w7 ⟨v137, rfl, ho0, hb⟩; have zm := kz (Kd.R_lower ho0 (zg HB.1)); replace HB := kz (zd HB.1 hb); obtain ⟨Ao8, co8, eo8⟩ := Kd.R_slice zm.1; subst eo8) | (go_at_call 53; (with_reducible refine (impl_areRising.calls k _ _ t136 true _ ?side1 ?side2 A4.1).mono ?_); (case side1 => repeat (exact (Kd.R_reads' zm.1).2.2)); (case side2 => exact (Kd.R_reads' zm.1).2.1); rintro e w9 ⟨rfl, hb⟩; replace zm := kz (Kd.R_below zm.1 hb); replace HB := kz (zd HB.1 hb)) | (go_at_call 55; (with_reducible refine (slices_ContainsFunc_impl_Entry_impl_Entry.calls k _ _ l0  t140 _ ?side1 ?side2 A6.1).mono ?_); (case side1 => repeat (exact (Kd.C_below HR0.1 HB.1))); (case side2 => exact HC0.1); rintro e w10 ⟨rfl, hb⟩; replace zm := kz (Kd.R_below zm.1 hb); replace HB := kz (zd HB.1 hb))); go_ret; exact ⟨by rfl, by exact HB.1⟩
  ·
   replace c5 := Bool.eq_false_iff.mpr c5; subst c5; have H1 : (some false) = some r := by rw [if_neg (show ¬ (false = true) by decide)] at H; exact H
   clear H; have H := H1; clear H1; obtain rfl := kj H; go_enter Try.func16, Try.ntmps16; go_wp2_with (first | (go_at_call 54; (with_reducible refine (impl_prefixesOf.calls k _ _ l0 t136 _ ?side1 ?side2 A3.1).mono ?_); (case side1 => repeat (exact HR0.1)); (case side2 => exact HC0.1); rintro e w11 ⟨v137, rfl, ho0, hb⟩; have zm := kz (Kd.R_lower ho0 (zg HB.1)); replace HB := kz (zd HB.1 hb); obtain ⟨Ao12, co12, eo12⟩ := Kd.R_slice zm.1; subst eo12) | (go_at_call 53; (with_reducible refine (impl_areRising.calls k _ _ t136 false _ ?side1 ?side2 A4.1).mono ?_); (case side1 => repeat (exact (Kd.R_reads' zm.1).2.2)); (case side2 => exact (Kd.R_reads' zm.1).2.1); rintro e w13 ⟨rfl, hb⟩; replace HB := kz (zd HB.1 hb))); go_ret; exact ⟨by rfl, by exact HB.1⟩
 · rw [if_neg c2] at H; have c2b0 : decide ((l0.length : Int) ≤ 30) = false := decide_eq_false c2; have c2b1 : decide (l0.length ≤ 30) = false := decide_eq_false (by omega); clear c2; obtain rfl := kj H; go_enter Try.func16, Try.ntmps16; go_wp2; go_ret; exact ⟨by rfl, by exact HB.1⟩
/-! ### spec_l1In: function 58 -/
def spec_l1In.f (a0 : Int) (a1 : Int) (a2 : Int) : Option (Bool) := if a0 ≥ a1 then (some (decide (a0 ≤ a2))) else (some false)
theorem spec_l1In.calls (a0 : Int) (a1 : Int) (a2 : Int) (r : Bool) (w : World) (h : spec_l1In.f a0 a1 a2 = some r) :
  Calls kv 58 #[.int .i64 a0, .int .i64 a1, .int .i64 a2] w fun e w' => e = .returned (.bool r) ∧ Drawn0 w w' := by
 have H : (if a0 ≥ a1 then (some (decide (a0 ≤ a2))) else (some false)) = some r := h; clear h; by_cases c4 : a0 ≥ a1; · rw [if_pos c4] at H; have c4b0 : decide (a1 ≤ a0) = true := decide_eq_true c4; clear c4; obtain rfl := kj H; go_enter Try.func58, Try.ntmps58; go_wp2; go_ret; exact ⟨by rfl, by repeat (exact Drawn0.refl _)⟩
 · rw [if_neg c4] at H; have c4b0 : decide (a1 ≤ a0) = false := decide_eq_false c4; clear c4; obtain rfl := kj H; go_enter Try.func58, Try.ntmps58; go_wp2; go_ret; exact ⟨by rfl, by repeat (exact Drawn0.refl _)⟩
/-! ### spec_l2Value: function 50 -/
def spec_l2Value.f (a0 : Int) : Option (Bool) := (spec_l1In.f a0 0 1000000).bind fun t141 => (some t141)
theorem spec_l2Value.calls (a0 : Int) (r : Bool) (w : World) (h : spec_l2Value.f a0 = some r) :
  Calls kv 50 #[.int .i64 a0] w fun e w' => e = .returned (.bool r) ∧ Drawn0 w w' := by
 have H : ((spec_l1In.f a0 0 1000000).bind fun t141 => (some t141)) = some r := h; clear h; replace H := ky.mp H; obtain ⟨t141, A20, H⟩ := H; replace H : (some t141) = some r := H; have A2 := kz A20; clear A20; obtain rfl := kj H; go_enter Try.func50, Try.ntmps50; go_wp2_with (((with_reducible refine gate_callee (f := 58) rfl ?_); refine goesL_ (some 4) rfl rfl Try.func58 (by kernel_rfl) rfl #[.int .i64 a0, .int .i64 0, .int .i64 1000000] rfl (by (try simp only [kk, kh, List.map_nil]); rfl) ?_; (with_reducible refine (spec_l1In.calls a0 0 1000000 t141 _ A2.1).mono ?_); rintro e w' ⟨rfl, ⟨nd, rfl⟩⟩; refine ⟨_, rfl, ?_⟩)); go_ret; exact ⟨by rfl, by repeat (first | exact Drawn0.refl _ | apply Drawn0.step)⟩
end Go.Proofs.Ytakoaogbkajkcaa.PFnLongest
