/- Written by this session's own program over the kit's print: Lean functions that tell what Go functions answer, each with a proof that the call does so. No condition but what each statement says. -/
import Derived.Test.YtlnfcobloolnnaaYFnExactUpdateBytesx0
import Derived.Test.YtlnfcobloolnnaaYFnExactUpdateBytesx1
import Derived.Test.YtlnfcobloolnnaaYFnExactUpdateBytesx9
import Derived.Test.YtlnfcobloolnnaaYFnExactUpdateBytesx11
namespace Go.Proofs.Ytlnfcobloolnnaa.PFnExactUpdateBytes
open Go.RowKit Go.Proofs.YtlnfcobloolnnaaW.PrintWords Go.Proofs.YtlnfcobloolnnaaW.PrintLast Go.Proofs.YtlnfcobloolnnaaW.PrintMore
open Go.Proofs.YtlnfcobloolnnaaW.PrintWords renaming pw_below_drewN → za, blk_cell → zb, below_drew1 → zc, below_alloc → zd, blk_frozen → ze, below_step → zf, below_set → zh, below_size → zi, box_event → zj, gate_dst → zk, blk_drewN → zl, blk_alloc → zm, blk_drew → zn, blk_lt → zq, Aside0 → zv, blk_below → zx
open Go.Proofs.YtlnfcobloolnnaaW.PrintWords.Kd renaming C_below → zg, C_drewN → zr, C_alloc → zs, C_drew → zt, int → zy
open Go.Proofs.YtlnfcobloolnnaaW.PrintWords.LeO renaming bind → zo, none → zp, ite → zu, refl → zw
attribute [local go_sem] max2_int min2_int max_two min_two max_three min_three max_four min_four   -- for this text's walks alone
set_option linter.unusedVariables false
set_option linter.unusedSimpArgs false

attribute [local go_sem high] eqA35
/-! ### slices_Index_impl_Prefix_impl_Prefix: function 110 -/
def slices_Index_impl_Prefix_impl_Prefix.l0 : Nat → List (S35) → Int → Int → Int → Int → Option (Int)
 | 0, _, _, _, _, _ => none
 | k + 1, x0, x7, x8, x269000, x269001 => if x8 < x7 then (if 0 ≤ x8 then (if x8 < (x0.length : Int) then (if (x269000 == ((rd_T35 x0 x8).f0) && (x269001 == ((rd_T35 x0 x8).f1))) = true then (some x8) else (slices_Index_impl_Prefix_impl_Prefix.l0 k x0 x7 (wrap64 (x8 + 1)) x269000 x269001)) else (none)) else (none)) else (some (-1))
def slices_Index_impl_Prefix_impl_Prefix.f (k : Nat) (l0 : List (S35)) (a1_0 : Int) (a1_1 : Int) : Option (Int) := slices_Index_impl_Prefix_impl_Prefix.l0 k l0 (l0.length : Int) 0 a1_0 a1_1
theorem slices_Index_impl_Prefix_impl_Prefix.mono_l : ∀ k, (∀ y0 y1 y2 y3 y4, LeO (slices_Index_impl_Prefix_impl_Prefix.l0 k y0 y1 y2 y3 y4) (slices_Index_impl_Prefix_impl_Prefix.l0 (k + 1) y0 y1 y2 y3 y4))
 | 0 => fun _ _ _ _ _ r h => by simp [slices_Index_impl_Prefix_impl_Prefix.l0] at h
 | k + 1 => by
  have ih0 := slices_Index_impl_Prefix_impl_Prefix.mono_l k
  ·
   intro y0 y1 y2 y3 y4
   unfold slices_Index_impl_Prefix_impl_Prefix.l0
   repeat' first
   | (with_reducible exact ih0 _ _ _ _ _)
   | (with_reducible exact zw _)
   | (with_reducible exact zp _)
   | (with_reducible refine zu ?_ ?_)
   | (with_reducible refine zo ?_ (fun _ => ?_))
   | exact ih0 _ _ _ _ _
   | exact zp _
   | refine zu ?_ ?_
   | refine zo ?_ (fun _ => ?_)
theorem slices_Index_impl_Prefix_impl_Prefix.mono : ∀ a0 a1 a2 k, LeO (slices_Index_impl_Prefix_impl_Prefix.f k a0 a1 a2) (slices_Index_impl_Prefix_impl_Prefix.f (k + 1) a0 a1 a2) := by
 intro a0 a1 a2 k
 have ih0 := slices_Index_impl_Prefix_impl_Prefix.mono_l k
 unfold slices_Index_impl_Prefix_impl_Prefix.f
 repeat' first
   | (with_reducible exact ih0 _ _ _ _ _)
   | (with_reducible exact zw _)
   | (with_reducible exact zp _)
   | (with_reducible refine zu ?_ ?_)
   | (with_reducible refine zo ?_ (fun _ => ?_))
   | exact ih0 _ _ _ _ _
   | exact zp _
   | refine zu ?_ ?_
   | refine zo ?_ (fun _ => ?_)
set_option maxHeartbeats 8000000 in
set_option maxRecDepth 100000 in
theorem slices_Index_impl_Prefix_impl_Prefix.calls (k : Nat) (A0 : Option Addr) (c0 : Nat) (l0 : List (S35)) (a1_0 : Int) (a1_1 : Int) (r : Int) (w : World) (hr0 : Kd.C k35 w A0 l0.length l0) (hc0 : l0.length ≤ c0) (h : slices_Index_impl_Prefix_impl_Prefix.f k l0 a1_0 a1_1 = some r) :
  Calls Try.prog 110 #[.slice A0 l0.length c0, .agg #[.int .i64 a1_0, .int .i64 a1_1]] w fun e w' => e = .returned (.int .i64 r) ∧ Below w.heap.size w w' := by
 have hu35 := Try.underlying35
 have HR0 := Aside0.mk hr0
 have HC0 := Aside0.mk hc0
 clear hr0 hc0
 have HB := Aside0.mk (Below.refl w.heap.size w)
 have H : (slices_Index_impl_Prefix_impl_Prefix.l0 k l0 (l0.length : Int) 0 a1_0 a1_1) = some r := h
 clear h
 have H' := Aside0.mk H
 clear H
 go_enter Try.func110, Try.ntmps110
 go_wp2_with (first | ((with_reducible refine zk (N := 3) rfl ?_); refine zj ?hg (N := 3) ?hd (cs := #[.int .i64 a1_0, .int .i64 a1_1]) (t := 35) ?hr ?_; (case hd => rfl); (case hg => rfl); (case hr => first | (go_simp; done) | (go_simp; rfl)); intro gb268 hg w3 hbox hb; have n0_ := Aside0.mk (zf (by repeat (first | (with_reducible first | exact HB.1 | apply zd | apply za | apply zc) | exact HB.1)) hb); have n1_ := Aside0.mk (hbox); have n2_ := Aside0.mk ((by rw [hg]; exact (zi (by repeat (first | (with_reducible first | exact HB.1 | apply zd | apply za | apply zc) | exact HB.1))) : w.heap.size ≤ gb268)); have n3_ := Aside0.mk ((by rw [hg]; exact (zi (by repeat (first | (with_reducible first | exact HB.1 | apply zd | apply za | apply zc) | exact HB.1))) : w.heap.size ≤ gb268)); clear HB; have HB := n0_; have zF := n1_; have GW268 := n2_; have zK := n3_; clear n0_ n1_ n2_ n3_; clear hb hbox hg))
 repeat (go_quiet (first | ((with_reducible refine zk (N := 3) rfl ?_); refine zj ?hg (N := 3) ?hd (cs := #[.int .i64 a1_0, .int .i64 a1_1]) (t := 35) ?hr ?_; (case hd => rfl); (case hg => rfl); (case hr => first | (go_simp; done) | (go_simp; rfl)); intro gb268 hg w3 hbox hb; have n0_ := Aside0.mk (zf (by repeat (first | (with_reducible first | exact HB.1 | apply zd | apply za | apply zc) | exact HB.1)) hb); have n1_ := Aside0.mk (hbox); have n2_ := Aside0.mk ((by rw [hg]; exact (zi (by repeat (first | (with_reducible first | exact HB.1 | apply zd | apply za | apply zc) | exact HB.1))) : w.heap.size ≤ gb268)); have n3_ := Aside0.mk ((by rw [hg]; exact (zi (by repeat (first | (with_reducible first | exact HB.1 | apply zd | apply za | apply zc) | exact HB.1))) : w.heap.size ≤ gb268)); clear HB; have HB := n0_; have zF := n1_; have GW268 := n2_; have zK := n3_; clear n0_ n1_ n2_ n3_; clear hb hbox hg)); try go_wp2_with (first | ((with_reducible refine zk (N := 3) rfl ?_); refine zj ?hg (N := 3) ?hd (cs := #[.int .i64 a1_0, .int .i64 a1_1]) (t := 35) ?hr ?_; (case hd => rfl); (case hg => rfl); (case hr => first | (go_simp; done) | (go_simp; rfl)); intro gb268 hg w3 hbox hb; have n0_ := Aside0.mk (zf (by repeat (first | (with_reducible first | exact HB.1 | apply zd | apply za | apply zc) | exact HB.1)) hb); have n1_ := Aside0.mk (hbox); have n2_ := Aside0.mk ((by rw [hg]; exact (zi (by repeat (first | (with_reducible first | exact HB.1 | apply zd | apply za | apply zc) | exact HB.1))) : w.heap.size ≤ gb268)); have n3_ := Aside0.mk ((by rw [hg]; exact (zi (by repeat (first | (with_reducible first | exact HB.1 | apply zd | apply za | apply zc) | exact HB.1))) : w.heap.size ≤ gb268)); clear HB; have HB := n0_; have zF := n1_; have GW268 := n2_; have zK := n3_; clear n0_ n1_ n2_ n3_; clear hb hbox hg)))
 go_loopg [8] k (fun kq v8 w' => ∃ (x8_1 : Int), v8 = .int .i64 x8_1 ∧ zv (slices_Index_impl_Prefix_impl_Prefix.l0 kq l0 (l0.length : Int) x8_1 a1_0 a1_1 = some r) ∧ zv (kq ≤ k) ∧ zv (w'.heap[gb268]? = some (.cells #[.int .i64 a1_0, .int .i64 a1_1] 35 (0, 0))) ∧ zv (Below w.heap.size w w'))
 case atStart => exact ⟨(0), (by first | rfl | (simp; done) | (simp [*]; done)), H', ⟨Nat.le_refl _⟩, ⟨by (with_reducible repeat (first | refine zl ?_ _ | refine zn ?_ | refine zm ?_ _)); exact zF.1⟩, ⟨by repeat (first | (with_reducible first | exact HB.1 | apply zd | apply za | apply zc | refine zh ?_ zK.1) | exact HB.1)⟩⟩
 case round =>
  clear H'
  (try clear c1); (try clear p2)
  obtain ⟨x8_1, rfl, HA, HK1, zF, HB⟩ := hrel
  cases gk with
  | zero => exact absurd HA.1 (by simp [slices_Index_impl_Prefix_impl_Prefix.l0])
  | succ k1 =>
   have H := HA.1
   clear HA
   simp only [slices_Index_impl_Prefix_impl_Prefix.l0] at H
   by_cases c4 : x8_1 < (l0.length : Int)
   ·
    rw [if_pos c4] at H
    have c4b0 : decide (x8_1 < (l0.length : Int)) = true := decide_eq_true c4
    clear c4
    by_cases c5 : 0 ≤ x8_1
    ·
     rw [if_pos c5] at H
     have c5b0 : decide (0 ≤ x8_1) = true := decide_eq_true c5
     clear c5
     by_cases c6 : x8_1 < (l0.length : Int)
     ·
      rw [if_pos c6] at H
      have c6b0 : decide (x8_1 < (l0.length : Int)) = true := decide_eq_true c6
      clear c6
      by_cases c7 : (a1_0 == ((rd_T35 l0 x8_1).f0) && (a1_1 == ((rd_T35 l0 x8_1).f1))) = true
      ·
       rw [if_pos c7] at H
       have c7b0 : (a1_0 == ((rd_T35 l0 x8_1).f0) && (a1_1 == ((rd_T35 l0 x8_1).f1))) = true := c7
       (try (have c7b1 : decide (a1_0 = ((rd_T35 l0 x8_1).f0) && (a1_1 == ((rd_T35 l0 x8_1).f1))) = true := by simpa using c7))
       (try (have c7b2 : (a1_0 == ((rd_T35 l0 x8_1).f0) && (a1_1 == ((rd_T35 l0 x8_1).f1))) = true := by simpa using c7))
       clear c7
       obtain rfl := Option.some.inj H
       have hcz8_0 : wr.cell? ⟨gb268, 0, none⟩ = some (.int .i64 a1_0) := (zb zF.1 0).trans rfl
       have hcz8_1 : wr.cell? ⟨gb268, 1, none⟩ = some (.int .i64 a1_1) := (zb zF.1 1).trans rfl
       have hfz8_0 := ze zF.1 0
       have hfz8_1 := ze zF.1 1
       have p269 : 0 ≤ (x8_1 : Int) := of_decide_eq_true (by first | (with_reducible assumption) | assumption)
       have q269 : x8_1 < (l0.length : Int) := of_decide_eq_true (by first | (with_reducible assumption) | assumption)
       obtain ⟨ad269, e269, hx269_0, hx269_1⟩ := at_T35 HR0.1 x8_1 p269 q269
       cases e269
       replace hx269_0 := (HB.1.cell (World.block_lt_of_cell? w _ hx269_0)).trans hx269_0
       replace hx269_1 := (HB.1.cell (World.block_lt_of_cell? w _ hx269_1)).trans hx269_1
       replace p269 := eq_true p269
       replace q269 := eq_true q269
       go_wp2
       repeat (go_quiet (fail); try go_wp2)
       go_ret
       exact ⟨by first | rfl | (simp [errW_none, errW_some] <;> rfl) | (simp [*, errW_none, errW_some] <;> rfl), by repeat (first | (with_reducible first | exact HB.1 | apply zd | apply za | apply zc | refine zh ?_ zK.1) | exact HB.1)⟩
      ·
       rw [if_neg c7] at H
       have c7b0 : (a1_0 == ((rd_T35 l0 x8_1).f0) && (a1_1 == ((rd_T35 l0 x8_1).f1))) = false := by simpa using c7
       (try (have c7b1 : decide (a1_0 = ((rd_T35 l0 x8_1).f0) && (a1_1 == ((rd_T35 l0 x8_1).f1))) = false := by simpa using c7))
       (try (have c7b2 : (a1_0 == ((rd_T35 l0 x8_1).f0) && (a1_1 == ((rd_T35 l0 x8_1).f1))) = false := by simpa using c7))
       (try (have c7b3 : ¬ (a1_0 = ((rd_T35 l0 x8_1).f0) && (a1_1 == ((rd_T35 l0 x8_1).f1))) := by simpa using c7))
       clear c7
       have H' := Aside0.mk H
       clear H
       have hcz9_0 : wr.cell? ⟨gb268, 0, none⟩ = some (.int .i64 a1_0) := (zb zF.1 0).trans rfl
       have hcz9_1 : wr.cell? ⟨gb268, 1, none⟩ = some (.int .i64 a1_1) := (zb zF.1 1).trans rfl
       have hfz9_0 := ze zF.1 0
       have hfz9_1 := ze zF.1 1
       have p269 : 0 ≤ (x8_1 : Int) := of_decide_eq_true (by first | (with_reducible assumption) | assumption)
       have q269 : x8_1 < (l0.length : Int) := of_decide_eq_true (by first | (with_reducible assumption) | assumption)
       obtain ⟨ad269, e269, hx269_0, hx269_1⟩ := at_T35 HR0.1 x8_1 p269 q269
       cases e269
       replace hx269_0 := (HB.1.cell (World.block_lt_of_cell? w _ hx269_0)).trans hx269_0
       replace hx269_1 := (HB.1.cell (World.block_lt_of_cell? w _ hx269_1)).trans hx269_1
       replace p269 := eq_true p269
       replace q269 := eq_true q269
       go_wp2
       repeat (go_quiet (fail); try go_wp2)
       go_roundg k1
       case measure => have := HK1.1; omega
       case rel => exact ⟨(wrap64 (x8_1 + 1)), (by first | rfl | (simp; done) | (simp [*]; done)), H', ⟨by have := HK1.1; omega⟩, ⟨by (with_reducible repeat (first | refine zl ?_ _ | refine zn ?_ | refine zm ?_ _)); exact zF.1⟩, ⟨by repeat (first | (with_reducible first | exact HB.1 | apply zd | apply za | apply zc | refine zh ?_ zK.1) | exact HB.1)⟩⟩
     ·
      rw [if_neg c6] at H
      exact absurd H (by simp)
    ·
     rw [if_neg c5] at H
     exact absurd H (by simp)
   ·
    rw [if_neg c4] at H
    have c4b0 : decide (x8_1 < (l0.length : Int)) = false := decide_eq_false c4
    clear c4
    obtain rfl := Option.some.inj H
    go_wp2
    repeat (go_quiet (fail); try go_wp2)
    go_ret
    exact ⟨by first | rfl | (simp [errW_none, errW_some] <;> rfl) | (simp [*, errW_none, errW_some] <;> rfl), by repeat (first | (with_reducible first | exact HB.1 | apply zd | apply za | apply zc | refine zh ?_ zK.1) | exact HB.1)⟩

/-! ### slices_Contains_impl_Prefix_impl_Prefix: function 76 -/
def slices_Contains_impl_Prefix_impl_Prefix.f (k : Nat) (l0 : List (S35)) (a1_0 : Int) (a1_1 : Int) : Option (Bool) := (slices_Index_impl_Prefix_impl_Prefix.f k l0 a1_0 a1_1).bind fun t271 => (some (decide (t271 ≥ 0)))
theorem slices_Contains_impl_Prefix_impl_Prefix.mono : ∀ a0 a1 a2 k, LeO (slices_Contains_impl_Prefix_impl_Prefix.f k a0 a1 a2) (slices_Contains_impl_Prefix_impl_Prefix.f (k + 1) a0 a1 a2) := by
 intro a0 a1 a2 k
 unfold slices_Contains_impl_Prefix_impl_Prefix.f
 repeat' first
   | (with_reducible exact slices_Index_impl_Prefix_impl_Prefix.mono _ _ _ _)
   | (with_reducible exact zw _)
   | (with_reducible exact zp _)
   | (with_reducible refine zu ?_ ?_)
   | (with_reducible refine zo ?_ (fun _ => ?_))
   | exact slices_Index_impl_Prefix_impl_Prefix.mono _ _ _ _
   | exact zp _
   | refine zu ?_ ?_
   | refine zo ?_ (fun _ => ?_)
set_option maxHeartbeats 8000000 in
set_option maxRecDepth 100000 in
theorem slices_Contains_impl_Prefix_impl_Prefix.calls (k : Nat) (A0 : Option Addr) (c0 : Nat) (l0 : List (S35)) (a1_0 : Int) (a1_1 : Int) (r : Bool) (w : World) (hr0 : Kd.C k35 w A0 l0.length l0) (hc0 : l0.length ≤ c0) (h : slices_Contains_impl_Prefix_impl_Prefix.f k l0 a1_0 a1_1 = some r) :
  Calls Try.prog 76 #[.slice A0 l0.length c0, .agg #[.int .i64 a1_0, .int .i64 a1_1]] w fun e w' => e = .returned (.bool r) ∧ Below w.heap.size w w' := by
 have hu35 := Try.underlying35
 have HR0 := Aside0.mk hr0
 have HC0 := Aside0.mk hc0
 clear hr0 hc0
 have HB := Aside0.mk (Below.refl w.heap.size w)
 have H : ((slices_Index_impl_Prefix_impl_Prefix.f k l0 a1_0 a1_1).bind fun t271 => (some (decide (t271 ≥ 0)))) = some r := h
 clear h
 replace H := Option.bind_eq_some_iff.mp H
 obtain ⟨t271, A30, H⟩ := H
 replace H : (some (decide (t271 ≥ 0))) = some r := H
 have A3 := Aside0.mk A30
 clear A30
 obtain rfl := Option.some.inj H
 go_enter Try.func76, Try.ntmps76
 go_wp2_with (first | ((with_reducible refine zk (N := 3) rfl ?_); refine zj ?hg (N := 3) ?hd (cs := #[.int .i64 a1_0, .int .i64 a1_1]) (t := 35) ?hr ?_; (case hd => rfl); (case hg => rfl); (case hr => first | (go_simp; done) | (go_simp; rfl)); intro gb270 hg w4 hbox hb; have n0_ := Aside0.mk (zf (by repeat (first | (with_reducible first | exact HB.1 | apply zd | apply za | apply zc) | exact HB.1)) hb); have n1_ := Aside0.mk (hbox); have n2_ := Aside0.mk ((by rw [hg]; exact (zi (by repeat (first | (with_reducible first | exact HB.1 | apply zd | apply za | apply zc) | exact HB.1))) : w.heap.size ≤ gb270)); have n3_ := Aside0.mk ((by rw [hg]; exact (zi (by repeat (first | (with_reducible first | exact HB.1 | apply zd | apply za | apply zc) | exact HB.1))) : w.heap.size ≤ gb270)); clear HB; have HB := n0_; have zJ := n1_; have GW270 := n2_; have GE270 := n3_; clear n0_ n1_ n2_ n3_; clear hb hbox hg; have hcz5_0 : w4.cell? ⟨gb270, 0, none⟩ = some (.int .i64 a1_0) := (zb zJ.1 0).trans rfl; have hcz5_1 : w4.cell? ⟨gb270, 1, none⟩ = some (.int .i64 a1_1) := (zb zJ.1 1).trans rfl; have hfz5_0 := ze zJ.1 0; have hfz5_1 := ze zJ.1 1) | ((with_reducible refine gate_callee (f := 110) rfl ?_); refine goesL_ (some 7) rfl rfl Try.func110 (by kernel_rfl) rfl #[.slice A0 l0.length c0, .agg #[.int .i64 a1_0, .int .i64 a1_1]] rfl (by (try simp only [List.map_toArray, List.map_cons, List.map_nil]); first | done | rfl | (simp only [List.length_drop, List.length_take]; rfl)) ?_; (with_reducible refine (slices_Index_impl_Prefix_impl_Prefix.calls k _ _ l0 a1_0 a1_1 t271 _ ?side1 ?side2 A3.1).mono ?_); (case side1 => repeat (first | exact (zg HR0.1 HB.1) | (with_reducible refine zs ?_ _) | (with_reducible refine zr ?_ _) | (with_reducible refine zt ?_))); (case side2 => exact HC0.1); rintro e w6 ⟨rfl, hb⟩; refine ⟨_, rfl, ?_⟩; have n0_ := Aside0.mk (zx (g := gb270) (o := .cells #[.int .i64 a1_0, .int .i64 a1_1] 35 (0, 0)) (by (with_reducible repeat (first | refine zl ?_ _ | refine zn ?_ | refine zm ?_ _)); exact zJ.1) hb); have n1_ := Aside0.mk (zf (by repeat (first | (with_reducible first | exact HB.1 | apply zd | apply za | apply zc | refine zh ?_ GE270.1) | exact HB.1)) hb); clear zJ; clear HB; have zJ := n0_; have HB := n1_; clear n0_ n1_; (try clear hb); (try clear hb2); (try clear hk); (try clear hi)))
 go_ret
 exact ⟨by first | rfl | (simp [errW_none, errW_some] <;> rfl) | (simp [*, errW_none, errW_some] <;> rfl), by repeat (first | (with_reducible first | exact HB.1 | apply zd | apply za | apply zc | refine zh ?_ GE270.1) | exact HB.1)⟩

-- NOT PRINTED: function 75 (impl_GoodUpdate_1)

/-! ### slices_Equal_int_int: function 111 -/
def slices_Equal_int_int.l0 : Nat → List Int → List Int → Int → Int → Option (Bool)
 | 0, _, _, _, _ => none
 | k + 1, x0, x1, x12, x13 => if x13 < x12 then (if 0 ≤ x13 then (if x13 < (x0.length : Int) then (if x13 < (x1.length : Int) then (if (rd x0 x13) = (rd x1 x13) then (slices_Equal_int_int.l0 k x0 x1 x12 (wrap64 (x13 + 1))) else (some false)) else (none)) else (none)) else (none)) else (some true)
def slices_Equal_int_int.f (k : Nat) (l0 : List Int) (l1 : List Int) : Option (Bool) := if (l0.length : Int) = (l1.length : Int) then (slices_Equal_int_int.l0 k l0 l1 (l0.length : Int) 0) else (some false)
theorem slices_Equal_int_int.mono_l : ∀ k, (∀ y0 y1 y2 y3, LeO (slices_Equal_int_int.l0 k y0 y1 y2 y3) (slices_Equal_int_int.l0 (k + 1) y0 y1 y2 y3))
 | 0 => fun _ _ _ _ r h => by simp [slices_Equal_int_int.l0] at h
 | k + 1 => by
  have ih0 := slices_Equal_int_int.mono_l k
  ·
   intro y0 y1 y2 y3
   unfold slices_Equal_int_int.l0
   repeat' first
   | (with_reducible exact ih0 _ _ _ _)
   | (with_reducible exact zw _)
   | (with_reducible exact zp _)
   | (with_reducible refine zu ?_ ?_)
   | (with_reducible refine zo ?_ (fun _ => ?_))
   | exact ih0 _ _ _ _
   | exact zp _
   | refine zu ?_ ?_
   | refine zo ?_ (fun _ => ?_)
theorem slices_Equal_int_int.mono : ∀ a0 a1 k, LeO (slices_Equal_int_int.f k a0 a1) (slices_Equal_int_int.f (k + 1) a0 a1) := by
 intro a0 a1 k
 have ih0 := slices_Equal_int_int.mono_l k
 unfold slices_Equal_int_int.f
 repeat' first
   | (with_reducible exact ih0 _ _ _ _)
   | (with_reducible exact zw _)
   | (with_reducible exact zp _)
   | (with_reducible refine zu ?_ ?_)
   | (with_reducible refine zo ?_ (fun _ => ?_))
   | exact ih0 _ _ _ _
   | exact zp _
   | refine zu ?_ ?_
   | refine zo ?_ (fun _ => ?_)
set_option maxHeartbeats 8000000 in
set_option maxRecDepth 100000 in
theorem slices_Equal_int_int.calls (k : Nat) (A0 : Option Addr) (c0 : Nat) (l0 : List Int) (A1 : Option Addr) (c1 : Nat) (l1 : List Int) (r : Bool) (w : World) (hr0 : Kd.C (zy .i64) w A0 l0.length l0) (hc0 : l0.length ≤ c0) (hr1 : Kd.C (zy .i64) w A1 l1.length l1) (hc1 : l1.length ≤ c1) (h : slices_Equal_int_int.f k l0 l1 = some r) :
  Calls Try.prog 111 #[.slice A0 l0.length c0, .slice A1 l1.length c1] w fun e w' => e = .returned (.bool r) ∧ Drawn0 w w' := by
 have HR0 := Aside0.mk hr0
 have HC0 := Aside0.mk hc0
 clear hr0 hc0
 have HR1 := Aside0.mk hr1
 have HC1 := Aside0.mk hc1
 clear hr1 hc1
 have H : (if (l0.length : Int) = (l1.length : Int) then (slices_Equal_int_int.l0 k l0 l1 (l0.length : Int) 0) else (some false)) = some r := h
 clear h
 by_cases c3 : (l0.length : Int) = (l1.length : Int)
 ·
  rw [if_pos c3] at H
  have c3b0 : ((l0.length : Int) == (l1.length : Int)) = true := beq_iff_eq.mpr c3
  have c3b1 : ((l0.length : Int) != (l1.length : Int)) = false := bne_eq_false_iff_eq.mpr c3
  have c3b2 : (l0.length == l1.length) = true := by first | simpa using c3 | (simp at c3 ⊢; omega)
  clear c3
  have H' := Aside0.mk H
  clear H
  go_enter Try.func111, Try.ntmps111
  go_wp2
  repeat (go_quiet (fail); try go_wp2)
  go_loopg [13] k (fun kq v13 w' => ∃ (zB : Int), v13 = .int .i64 zB ∧ zv (slices_Equal_int_int.l0 kq l0 l1 (l0.length : Int) zB = some r) ∧ zv (kq ≤ k) ∧ Drawn0 w w')
  case atStart => exact ⟨(0), (by first | rfl | (simp; done) | (simp [*]; done)), H', ⟨Nat.le_refl _⟩, by repeat (first | exact Drawn0.refl _ | apply Drawn0.step)⟩
  case round =>
   clear H'
   (try clear c1); (try clear p2); (try clear c3); (try clear c3b0); (try clear c3b1); (try clear c3b2)
   obtain ⟨zB, rfl, HA, HK1, ⟨m1, rfl⟩⟩ := hrel
   cases gk with
   | zero => exact absurd HA.1 (by simp [slices_Equal_int_int.l0])
   | succ k1 =>
    have H := HA.1
    clear HA
    simp only [slices_Equal_int_int.l0] at H
    by_cases c4 : zB < (l0.length : Int)
    ·
     rw [if_pos c4] at H
     have c4b0 : decide (zB < (l0.length : Int)) = true := decide_eq_true c4
     clear c4
     by_cases c5 : 0 ≤ zB
     ·
      rw [if_pos c5] at H
      have c5b0 : decide (0 ≤ zB) = true := decide_eq_true c5
      clear c5
      by_cases c6 : zB < (l0.length : Int)
      ·
       rw [if_pos c6] at H
       have c6b0 : decide (zB < (l0.length : Int)) = true := decide_eq_true c6
       clear c6
       by_cases c7 : zB < (l1.length : Int)
       ·
        rw [if_pos c7] at H
        have c7b0 : decide (zB < (l1.length : Int)) = true := decide_eq_true c7
        clear c7
        by_cases c8 : (rd l0 zB) = (rd l1 zB)
        ·
         rw [if_pos c8] at H
         have c8b0 : ((rd l0 zB) == (rd l1 zB)) = true := beq_iff_eq.mpr c8
         have c8b1 : ((rd l0 zB) != (rd l1 zB)) = false := bne_eq_false_iff_eq.mpr c8
         clear c8
         have H' := Aside0.mk H
         clear H
         have p273 : 0 ≤ (zB : Int) := of_decide_eq_true (by first | (with_reducible assumption) | assumption)
         have q273 : zB < (l0.length : Int) := of_decide_eq_true (by first | (with_reducible assumption) | assumption)
         obtain ⟨ad273, e273, hx273_0⟩ := Kd.at_int HR0.1 zB p273 q273
         cases e273
         replace p273 := eq_true p273
         replace q273 := eq_true q273
         have p274 : 0 ≤ (zB : Int) := of_decide_eq_true (by first | (with_reducible assumption) | assumption)
         have q274 : zB < (l1.length : Int) := of_decide_eq_true (by first | (with_reducible assumption) | assumption)
         obtain ⟨ad274, e274, hx274_0⟩ := Kd.at_int HR1.1 zB p274 q274
         cases e274
         replace p274 := eq_true p274
         replace q274 := eq_true q274
         go_wp2
         repeat (go_quiet (fail); try go_wp2)
         go_roundg k1
         case measure => have := HK1.1; omega
         case rel => exact ⟨(wrap64 (zB + 1)), (by first | rfl | (simp; done) | (simp [*]; done)), H', ⟨by have := HK1.1; omega⟩, by repeat (first | exact Drawn0.refl _ | apply Drawn0.step)⟩
        ·
         rw [if_neg c8] at H
         have c8b0 : ((rd l0 zB) == (rd l1 zB)) = false := beq_eq_false_iff_ne.mpr c8
         have c8b1 : ((rd l0 zB) != (rd l1 zB)) = true := bne_iff_ne.mpr c8
         obtain rfl := Option.some.inj H
         have p273 : 0 ≤ (zB : Int) := of_decide_eq_true (by first | (with_reducible assumption) | assumption)
         have q273 : zB < (l0.length : Int) := of_decide_eq_true (by first | (with_reducible assumption) | assumption)
         obtain ⟨ad273, e273, hx273_0⟩ := Kd.at_int HR0.1 zB p273 q273
         cases e273
         replace p273 := eq_true p273
         replace q273 := eq_true q273
         have p274 : 0 ≤ (zB : Int) := of_decide_eq_true (by first | (with_reducible assumption) | assumption)
         have q274 : zB < (l1.length : Int) := of_decide_eq_true (by first | (with_reducible assumption) | assumption)
         obtain ⟨ad274, e274, hx274_0⟩ := Kd.at_int HR1.1 zB p274 q274
         cases e274
         replace p274 := eq_true p274
         replace q274 := eq_true q274
         go_wp2
         repeat (go_quiet (fail); try go_wp2)
         go_ret
         exact ⟨by first | rfl | (simp; done) | (simp [*]; done), by repeat (first | exact Drawn0.refl _ | apply Drawn0.step)⟩
       ·
        rw [if_neg c7] at H
        exact absurd H (by simp)
      ·
       rw [if_neg c6] at H
       exact absurd H (by simp)
     ·
      rw [if_neg c5] at H
      exact absurd H (by simp)
    ·
     rw [if_neg c4] at H
     have c4b0 : decide (zB < (l0.length : Int)) = false := decide_eq_false c4
     clear c4
     obtain rfl := Option.some.inj H
     go_wp2
     repeat (go_quiet (fail); try go_wp2)
     go_ret
     exact ⟨by first | rfl | (simp; done) | (simp [*]; done), by repeat (first | exact Drawn0.refl _ | apply Drawn0.step)⟩
 ·
  rw [if_neg c3] at H
  have c3b0 : ((l0.length : Int) == (l1.length : Int)) = false := beq_eq_false_iff_ne.mpr c3
  have c3b1 : ((l0.length : Int) != (l1.length : Int)) = true := bne_iff_ne.mpr c3
  have c3b2 : (l0.length == l1.length) = false := by first | simpa using c3 | (simp at c3 ⊢; omega)
  obtain rfl := Option.some.inj H
  go_enter Try.func111, Try.ntmps111
  go_wp2
  repeat (go_quiet (fail); try go_wp2)
  go_ret
  exact ⟨by first | rfl | (simp; done) | (simp [*]; done), by repeat (first | exact Drawn0.refl _ | apply Drawn0.step)⟩

/-! ### impl_sameAttrs: function 77 -/
def impl_sameAttrs.f (k : Nat) (a0_0 : Int) (l0_1 : List Int) (a0_2 : Int) (a0_3 : Int) (a0_4 : Int) (l0_5 : List Int) (a1_0 : Int) (l1_1 : List Int) (a1_2 : Int) (a1_3 : Int) (a1_4 : Int) (l1_5 : List Int) : Option (Bool) := if a0_0 = a1_0 then ((slices_Equal_int_int.f k l0_1 l1_1).bind fun t277 => (if t277 = true then (if a0_2 = a1_2 then (if a0_3 = a1_3 then (if a0_4 = a1_4 then ((slices_Equal_int_int.f k l0_5 l1_5).bind fun t278 => (some t278)) else (some false)) else (some false)) else (some false)) else (some false))) else (some false)
theorem impl_sameAttrs.mono : ∀ a0 a1 a2 a3 a4 a5 a6 a7 a8 a9 a10 a11 k, LeO (impl_sameAttrs.f k a0 a1 a2 a3 a4 a5 a6 a7 a8 a9 a10 a11) (impl_sameAttrs.f (k + 1) a0 a1 a2 a3 a4 a5 a6 a7 a8 a9 a10 a11) := by
 intro a0 a1 a2 a3 a4 a5 a6 a7 a8 a9 a10 a11 k
 unfold impl_sameAttrs.f
 repeat' first
   | (with_reducible exact slices_Equal_int_int.mono _ _ _)
   | (with_reducible exact zw _)
   | (with_reducible exact zp _)
   | (with_reducible refine zu ?_ ?_)
   | (with_reducible refine zo ?_ (fun _ => ?_))
   | exact slices_Equal_int_int.mono _ _ _
   | exact zp _
   | refine zu ?_ ?_
   | refine zo ?_ (fun _ => ?_)
set_option maxHeartbeats 8000000 in
set_option maxRecDepth 100000 in
theorem impl_sameAttrs.calls (k : Nat) (a0_0 : Int) (A0_1 : Option Addr) (c0_1 : Nat) (l0_1 : List Int) (a0_2 : Int) (a0_3 : Int) (a0_4 : Int) (A0_5 : Option Addr) (c0_5 : Nat) (l0_5 : List Int) (a1_0 : Int) (A1_1 : Option Addr) (c1_1 : Nat) (l1_1 : List Int) (a1_2 : Int) (a1_3 : Int) (a1_4 : Int) (A1_5 : Option Addr) (c1_5 : Nat) (l1_5 : List Int) (r : Bool) (w : World) (hr0_1 : Kd.C (zy .i64) w A0_1 l0_1.length l0_1) (hc0_1 : l0_1.length ≤ c0_1) (hr0_5 : Kd.C (zy .i64) w A0_5 l0_5.length l0_5) (hc0_5 : l0_5.length ≤ c0_5) (hr1_1 : Kd.C (zy .i64) w A1_1 l1_1.length l1_1) (hc1_1 : l1_1.length ≤ c1_1) (hr1_5 : Kd.C (zy .i64) w A1_5 l1_5.length l1_5) (hc1_5 : l1_5.length ≤ c1_5) (h : impl_sameAttrs.f k a0_0 l0_1 a0_2 a0_3 a0_4 l0_5 a1_0 l1_1 a1_2 a1_3 a1_4 l1_5 = some r) :
  Calls Try.prog 77 #[.agg #[.int .i64 a0_0, .slice A0_1 l0_1.length c0_1, .int .i64 a0_2, .int .i64 a0_3, .int .i64 a0_4, .slice A0_5 l0_5.length c0_5], .agg #[.int .i64 a1_0, .slice A1_1 l1_1.length c1_1, .int .i64 a1_2, .int .i64 a1_3, .int .i64 a1_4, .slice A1_5 l1_5.length c1_5]] w fun e w' => e = .returned (.bool r) ∧ Below w.heap.size w w' := by
 have hu27 := Try.underlying27
 have zL := Aside0.mk hr0_1
 have HC0_1 := Aside0.mk hc0_1
 clear hr0_1 hc0_1
 have HR0_5 := Aside0.mk hr0_5
 have HC0_5 := Aside0.mk hc0_5
 clear hr0_5 hc0_5
 have zM := Aside0.mk hr1_1
 have HC1_1 := Aside0.mk hc1_1
 clear hr1_1 hc1_1
 have HR1_5 := Aside0.mk hr1_5
 have HC1_5 := Aside0.mk hc1_5
 clear hr1_5 hc1_5
 have HB := Aside0.mk (Below.refl w.heap.size w)
 have H : (if a0_0 = a1_0 then ((slices_Equal_int_int.f k l0_1 l1_1).bind fun t277 => (if t277 = true then (if a0_2 = a1_2 then (if a0_3 = a1_3 then (if a0_4 = a1_4 then ((slices_Equal_int_int.f k l0_5 l1_5).bind fun t278 => (some t278)) else (some false)) else (some false)) else (some false)) else (some false))) else (some false)) = some r := h
 clear h
 by_cases c3 : a0_0 = a1_0
 ·
  rw [if_pos c3] at H
  have c3b0 : (a0_0 == a1_0) = true := beq_iff_eq.mpr c3
  have c3b1 : (a0_0 != a1_0) = false := bne_eq_false_iff_eq.mpr c3
  clear c3
  replace H := Option.bind_eq_some_iff.mp H
  obtain ⟨t277, A40, H⟩ := H
  replace H : (if t277 = true then (if a0_2 = a1_2 then (if a0_3 = a1_3 then (if a0_4 = a1_4 then ((slices_Equal_int_int.f k l0_5 l1_5).bind fun t278 => (some t278)) else (some false)) else (some false)) else (some false)) else (some false)) = some r := H
  have A4 := Aside0.mk A40
  clear A40
  by_cases c5 : t277 = true
  ·
   subst c5
   have H1 : (if a0_2 = a1_2 then (if a0_3 = a1_3 then (if a0_4 = a1_4 then ((slices_Equal_int_int.f k l0_5 l1_5).bind fun t278 => (some t278)) else (some false)) else (some false)) else (some false)) = some r := by rw [if_pos rfl] at H; exact H
   clear H
   have H := H1
   clear H1
   by_cases c6 : a0_2 = a1_2
   ·
    rw [if_pos c6] at H
    have c6b0 : (a0_2 == a1_2) = true := beq_iff_eq.mpr c6
    have c6b1 : (a0_2 != a1_2) = false := bne_eq_false_iff_eq.mpr c6
    clear c6
    by_cases c7 : a0_3 = a1_3
    ·
     rw [if_pos c7] at H
     have c7b0 : (a0_3 == a1_3) = true := beq_iff_eq.mpr c7
     have c7b1 : (a0_3 != a1_3) = false := bne_eq_false_iff_eq.mpr c7
     clear c7
     by_cases c8 : a0_4 = a1_4
     ·
      rw [if_pos c8] at H
      have c8b0 : (a0_4 == a1_4) = true := beq_iff_eq.mpr c8
      have c8b1 : (a0_4 != a1_4) = false := bne_eq_false_iff_eq.mpr c8
      clear c8
      replace H := Option.bind_eq_some_iff.mp H
      obtain ⟨t278, A90, H⟩ := H
      replace H : (some t278) = some r := H
      have A9 := Aside0.mk A90
      clear A90
      obtain rfl := Option.some.inj H
      go_enter Try.func77, Try.ntmps77
      go_wp2_with (first | ((with_reducible refine zk (N := 2) rfl ?_); refine zj ?hg (N := 2) ?hd (cs := #[.int .i64 a0_0, .slice A0_1 l0_1.length c0_1, .int .i64 a0_2, .int .i64 a0_3, .int .i64 a0_4, .slice A0_5 l0_5.length c0_5]) (t := 27) ?hr ?_; (case hd => rfl); (case hg => rfl); (case hr => first | (go_simp; done) | (go_simp; rfl)); intro gb275 hg w10 hbox hb; have n0_ := Aside0.mk (zf (by repeat (first | (with_reducible first | exact HB.1 | apply zd | apply za | apply zc) | exact HB.1)) hb); have n1_ := Aside0.mk (hbox); have n2_ := Aside0.mk ((by rw [hg]; exact (zi (by repeat (first | (with_reducible first | exact HB.1 | apply zd | apply za | apply zc) | exact HB.1))) : w.heap.size ≤ gb275)); have n3_ := Aside0.mk ((by rw [hg]; exact (zi (by repeat (first | (with_reducible first | exact HB.1 | apply zd | apply za | apply zc) | exact HB.1))) : w.heap.size ≤ gb275)); clear HB; have HB := n0_; have zz := n1_; have zN := n2_; have zC := n3_; clear n0_ n1_ n2_ n3_; clear hb hbox hg) | ((with_reducible refine zk (N := 3) rfl ?_); refine zj ?hg (N := 3) ?hd (cs := #[.int .i64 a1_0, .slice A1_1 l1_1.length c1_1, .int .i64 a1_2, .int .i64 a1_3, .int .i64 a1_4, .slice A1_5 l1_5.length c1_5]) (t := 27) ?hr ?_; (case hd => rfl); (case hg => rfl); (case hr => first | (go_simp; done) | (go_simp; rfl)); intro gb276 hg w11 hbox hb; have n0_ := Aside0.mk (zx (g := gb275) (o := .cells #[.int .i64 a0_0, .slice A0_1 l0_1.length c0_1, .int .i64 a0_2, .int .i64 a0_3, .int .i64 a0_4, .slice A0_5 l0_5.length c0_5] 27 (0, 0)) (by (with_reducible repeat (first | refine zl ?_ _ | refine zn ?_ | refine zm ?_ _)); exact zz.1) hb); have n1_ := Aside0.mk (zf (by repeat (first | (with_reducible first | exact HB.1 | apply zd | apply za | apply zc | refine zh ?_ zC.1) | exact HB.1)) hb); have n2_ := Aside0.mk (hbox); have n3_ := Aside0.mk ((by rw [hg]; exact (zi (by repeat (first | (with_reducible first | exact HB.1 | apply zd | apply za | apply zc | refine zh ?_ zC.1) | exact HB.1))) : w.heap.size ≤ gb276)); have n4_ := Aside0.mk ((by rw [hg]; exact (zi (by repeat (first | (with_reducible first | exact HB.1 | apply zd | apply za | apply zc | refine zh ?_ zC.1) | exact HB.1))) : w.heap.size ≤ gb276)); have n5_ := Aside0.mk ((by rw [hg]; exact Nat.ne_of_lt (zq (g := gb275) (o := .cells #[.int .i64 a0_0, .slice A0_1 l0_1.length c0_1, .int .i64 a0_2, .int .i64 a0_3, .int .i64 a0_4, .slice A0_5 l0_5.length c0_5] 27 (0, 0)) (by (with_reducible repeat (first | refine zl ?_ _ | refine zn ?_ | refine zm ?_ _)); exact zz.1)) : gb275 ≠ gb276)); have n6_ := Aside0.mk ((by rw [hg]; exact Nat.ne_of_gt (zq (g := gb275) (o := .cells #[.int .i64 a0_0, .slice A0_1 l0_1.length c0_1, .int .i64 a0_2, .int .i64 a0_3, .int .i64 a0_4, .slice A0_5 l0_5.length c0_5] 27 (0, 0)) (by (with_reducible repeat (first | refine zl ?_ _ | refine zn ?_ | refine zm ?_ _)); exact zz.1)) : gb276 ≠ gb275)); clear zz; clear HB; have zz := n0_; have HB := n1_; have zA := n2_; have zO := n3_; have zG := n4_; have zD := n5_; have zE := n6_; clear n0_ n1_ n2_ n3_ n4_ n5_ n6_; clear hb hbox hg; have hnb12 := zD.1; have hnc12 := zE.1; have hcz13_0 : w11.cell? ⟨gb275, 0, none⟩ = some (.int .i64 a0_0) := (zb zz.1 0).trans rfl; have hcz13_1 : w11.cell? ⟨gb275, 1, none⟩ = some (.slice A0_1 l0_1.length c0_1) := (zb zz.1 1).trans rfl; have hcz13_2 : w11.cell? ⟨gb275, 2, none⟩ = some (.int .i64 a0_2) := (zb zz.1 2).trans rfl; have hcz13_3 : w11.cell? ⟨gb275, 3, none⟩ = some (.int .i64 a0_3) := (zb zz.1 3).trans rfl; have hcz13_4 : w11.cell? ⟨gb275, 4, none⟩ = some (.int .i64 a0_4) := (zb zz.1 4).trans rfl; have hcz13_5 : w11.cell? ⟨gb275, 5, none⟩ = some (.slice A0_5 l0_5.length c0_5) := (zb zz.1 5).trans rfl; have hfz13_0 := ze zz.1 0; have hfz13_1 := ze zz.1 1; have hfz13_2 := ze zz.1 2; have hfz13_3 := ze zz.1 3; have hfz13_4 := ze zz.1 4; have hfz13_5 := ze zz.1 5; have hcz14_0 : w11.cell? ⟨gb276, 0, none⟩ = some (.int .i64 a1_0) := (zb zA.1 0).trans rfl; have hcz14_1 : w11.cell? ⟨gb276, 1, none⟩ = some (.slice A1_1 l1_1.length c1_1) := (zb zA.1 1).trans rfl; have hcz14_2 : w11.cell? ⟨gb276, 2, none⟩ = some (.int .i64 a1_2) := (zb zA.1 2).trans rfl; have hcz14_3 : w11.cell? ⟨gb276, 3, none⟩ = some (.int .i64 a1_3) := (zb zA.1 3).trans rfl; have hcz14_4 : w11.cell? ⟨gb276, 4, none⟩ = some (.int .i64 a1_4) := (zb zA.1 4).trans rfl; have hcz14_5 : w11.cell? ⟨gb276, 5, none⟩ = some (.slice A1_5 l1_5.length c1_5) := (zb zA.1 5).trans rfl; have hfz14_0 := ze zA.1 0; have hfz14_1 := ze zA.1 1; have hfz14_2 := ze zA.1 2; have hfz14_3 := ze zA.1 3; have hfz14_4 := ze zA.1 4; have hfz14_5 := ze zA.1 5) | (go_at_call 111; (with_reducible refine (slices_Equal_int_int.calls k _ _ l0_1 _ _ l1_1 true _ ?side1 ?side2 ?side3 ?side4 A4.1).mono ?_); (case side1 => repeat (first | exact (zg zL.1 HB.1) | (with_reducible refine zs ?_ _) | (with_reducible refine zr ?_ _) | (with_reducible refine zt ?_))); (case side2 => exact HC0_1.1); (case side3 => repeat (first | exact (zg zM.1 HB.1) | (with_reducible refine zs ?_ _) | (with_reducible refine zr ?_ _) | (with_reducible refine zt ?_))); (case side4 => exact HC1_1.1); rintro e w' ⟨rfl, ⟨nd, rfl⟩⟩) | (go_at_call 111; (with_reducible refine (slices_Equal_int_int.calls k _ _ l0_5 _ _ l1_5 t278 _ ?side1 ?side2 ?side3 ?side4 A9.1).mono ?_); (case side1 => repeat (first | exact (zg HR0_5.1 (by repeat (first | (with_reducible first | exact HB.1 | apply zd | apply za | apply zc | refine zh ?_ zC.1 | refine zh ?_ zG.1) | exact HB.1))) | (with_reducible refine zs ?_ _) | (with_reducible refine zr ?_ _) | (with_reducible refine zt ?_))); (case side2 => exact HC0_5.1); (case side3 => repeat (first | exact (zg HR1_5.1 (by repeat (first | (with_reducible first | exact HB.1 | apply zd | apply za | apply zc | refine zh ?_ zC.1 | refine zh ?_ zG.1) | exact HB.1))) | (with_reducible refine zs ?_ _) | (with_reducible refine zr ?_ _) | (with_reducible refine zt ?_))); (case side4 => exact HC1_5.1); rintro e w' ⟨rfl, ⟨nd, rfl⟩⟩))
      go_ret
      exact ⟨by first | rfl | (simp [errW_none, errW_some] <;> rfl) | (simp [*, errW_none, errW_some] <;> rfl), by repeat (first | (with_reducible first | exact HB.1 | apply zd | apply za | apply zc | refine zh ?_ zC.1 | refine zh ?_ zG.1) | exact HB.1)⟩
     ·
      rw [if_neg c8] at H
      have c8b0 : (a0_4 == a1_4) = false := beq_eq_false_iff_ne.mpr c8
      have c8b1 : (a0_4 != a1_4) = true := bne_iff_ne.mpr c8
      obtain rfl := Option.some.inj H
      go_enter Try.func77, Try.ntmps77
      go_wp2_with (first | ((with_reducible refine zk (N := 2) rfl ?_); refine zj ?hg (N := 2) ?hd (cs := #[.int .i64 a0_0, .slice A0_1 l0_1.length c0_1, .int .i64 a0_2, .int .i64 a0_3, .int .i64 a0_4, .slice A0_5 l0_5.length c0_5]) (t := 27) ?hr ?_; (case hd => rfl); (case hg => rfl); (case hr => first | (go_simp; done) | (go_simp; rfl)); intro gb275 hg w15 hbox hb; have n0_ := Aside0.mk (zf (by repeat (first | (with_reducible first | exact HB.1 | apply zd | apply za | apply zc) | exact HB.1)) hb); have n1_ := Aside0.mk (hbox); have n2_ := Aside0.mk ((by rw [hg]; exact (zi (by repeat (first | (with_reducible first | exact HB.1 | apply zd | apply za | apply zc) | exact HB.1))) : w.heap.size ≤ gb275)); have n3_ := Aside0.mk ((by rw [hg]; exact (zi (by repeat (first | (with_reducible first | exact HB.1 | apply zd | apply za | apply zc) | exact HB.1))) : w.heap.size ≤ gb275)); clear HB; have HB := n0_; have zz := n1_; have zN := n2_; have zC := n3_; clear n0_ n1_ n2_ n3_; clear hb hbox hg) | ((with_reducible refine zk (N := 3) rfl ?_); refine zj ?hg (N := 3) ?hd (cs := #[.int .i64 a1_0, .slice A1_1 l1_1.length c1_1, .int .i64 a1_2, .int .i64 a1_3, .int .i64 a1_4, .slice A1_5 l1_5.length c1_5]) (t := 27) ?hr ?_; (case hd => rfl); (case hg => rfl); (case hr => first | (go_simp; done) | (go_simp; rfl)); intro gb276 hg w16 hbox hb; have n0_ := Aside0.mk (zx (g := gb275) (o := .cells #[.int .i64 a0_0, .slice A0_1 l0_1.length c0_1, .int .i64 a0_2, .int .i64 a0_3, .int .i64 a0_4, .slice A0_5 l0_5.length c0_5] 27 (0, 0)) (by (with_reducible repeat (first | refine zl ?_ _ | refine zn ?_ | refine zm ?_ _)); exact zz.1) hb); have n1_ := Aside0.mk (zf (by repeat (first | (with_reducible first | exact HB.1 | apply zd | apply za | apply zc | refine zh ?_ zC.1) | exact HB.1)) hb); have n2_ := Aside0.mk (hbox); have n3_ := Aside0.mk ((by rw [hg]; exact (zi (by repeat (first | (with_reducible first | exact HB.1 | apply zd | apply za | apply zc | refine zh ?_ zC.1) | exact HB.1))) : w.heap.size ≤ gb276)); have n4_ := Aside0.mk ((by rw [hg]; exact (zi (by repeat (first | (with_reducible first | exact HB.1 | apply zd | apply za | apply zc | refine zh ?_ zC.1) | exact HB.1))) : w.heap.size ≤ gb276)); have n5_ := Aside0.mk ((by rw [hg]; exact Nat.ne_of_lt (zq (g := gb275) (o := .cells #[.int .i64 a0_0, .slice A0_1 l0_1.length c0_1, .int .i64 a0_2, .int .i64 a0_3, .int .i64 a0_4, .slice A0_5 l0_5.length c0_5] 27 (0, 0)) (by (with_reducible repeat (first | refine zl ?_ _ | refine zn ?_ | refine zm ?_ _)); exact zz.1)) : gb275 ≠ gb276)); have n6_ := Aside0.mk ((by rw [hg]; exact Nat.ne_of_gt (zq (g := gb275) (o := .cells #[.int .i64 a0_0, .slice A0_1 l0_1.length c0_1, .int .i64 a0_2, .int .i64 a0_3, .int .i64 a0_4, .slice A0_5 l0_5.length c0_5] 27 (0, 0)) (by (with_reducible repeat (first | refine zl ?_ _ | refine zn ?_ | refine zm ?_ _)); exact zz.1)) : gb276 ≠ gb275)); clear zz; clear HB; have zz := n0_; have HB := n1_; have zA := n2_; have zO := n3_; have zG := n4_; have zD := n5_; have zE := n6_; clear n0_ n1_ n2_ n3_ n4_ n5_ n6_; clear hb hbox hg; have hnb17 := zD.1; have hnc17 := zE.1; have hcz18_0 : w16.cell? ⟨gb275, 0, none⟩ = some (.int .i64 a0_0) := (zb zz.1 0).trans rfl; have hcz18_1 : w16.cell? ⟨gb275, 1, none⟩ = some (.slice A0_1 l0_1.length c0_1) := (zb zz.1 1).trans rfl; have hcz18_2 : w16.cell? ⟨gb275, 2, none⟩ = some (.int .i64 a0_2) := (zb zz.1 2).trans rfl; have hcz18_3 : w16.cell? ⟨gb275, 3, none⟩ = some (.int .i64 a0_3) := (zb zz.1 3).trans rfl; have hcz18_4 : w16.cell? ⟨gb275, 4, none⟩ = some (.int .i64 a0_4) := (zb zz.1 4).trans rfl; have hcz18_5 : w16.cell? ⟨gb275, 5, none⟩ = some (.slice A0_5 l0_5.length c0_5) := (zb zz.1 5).trans rfl; have hfz18_0 := ze zz.1 0; have hfz18_1 := ze zz.1 1; have hfz18_2 := ze zz.1 2; have hfz18_3 := ze zz.1 3; have hfz18_4 := ze zz.1 4; have hfz18_5 := ze zz.1 5; have hcz19_0 : w16.cell? ⟨gb276, 0, none⟩ = some (.int .i64 a1_0) := (zb zA.1 0).trans rfl; have hcz19_1 : w16.cell? ⟨gb276, 1, none⟩ = some (.slice A1_1 l1_1.length c1_1) := (zb zA.1 1).trans rfl; have hcz19_2 : w16.cell? ⟨gb276, 2, none⟩ = some (.int .i64 a1_2) := (zb zA.1 2).trans rfl; have hcz19_3 : w16.cell? ⟨gb276, 3, none⟩ = some (.int .i64 a1_3) := (zb zA.1 3).trans rfl; have hcz19_4 : w16.cell? ⟨gb276, 4, none⟩ = some (.int .i64 a1_4) := (zb zA.1 4).trans rfl; have hcz19_5 : w16.cell? ⟨gb276, 5, none⟩ = some (.slice A1_5 l1_5.length c1_5) := (zb zA.1 5).trans rfl; have hfz19_0 := ze zA.1 0; have hfz19_1 := ze zA.1 1; have hfz19_2 := ze zA.1 2; have hfz19_3 := ze zA.1 3; have hfz19_4 := ze zA.1 4; have hfz19_5 := ze zA.1 5) | (go_at_call 111; (with_reducible refine (slices_Equal_int_int.calls k _ _ l0_1 _ _ l1_1 true _ ?side1 ?side2 ?side3 ?side4 A4.1).mono ?_); (case side1 => repeat (first | exact (zg zL.1 HB.1) | (with_reducible refine zs ?_ _) | (with_reducible refine zr ?_ _) | (with_reducible refine zt ?_))); (case side2 => exact HC0_1.1); (case side3 => repeat (first | exact (zg zM.1 HB.1) | (with_reducible refine zs ?_ _) | (with_reducible refine zr ?_ _) | (with_reducible refine zt ?_))); (case side4 => exact HC1_1.1); rintro e w' ⟨rfl, ⟨nd, rfl⟩⟩))
      go_ret
      exact ⟨by first | rfl | (simp [errW_none, errW_some] <;> rfl) | (simp [*, errW_none, errW_some] <;> rfl), by repeat (first | (with_reducible first | exact HB.1 | apply zd | apply za | apply zc | refine zh ?_ zC.1 | refine zh ?_ zG.1) | exact HB.1)⟩
    ·
     rw [if_neg c7] at H
     have c7b0 : (a0_3 == a1_3) = false := beq_eq_false_iff_ne.mpr c7
     have c7b1 : (a0_3 != a1_3) = true := bne_iff_ne.mpr c7
     obtain rfl := Option.some.inj H
     go_enter Try.func77, Try.ntmps77
     go_wp2_with (first | ((with_reducible refine zk (N := 2) rfl ?_); refine zj ?hg (N := 2) ?hd (cs := #[.int .i64 a0_0, .slice A0_1 l0_1.length c0_1, .int .i64 a0_2, .int .i64 a0_3, .int .i64 a0_4, .slice A0_5 l0_5.length c0_5]) (t := 27) ?hr ?_; (case hd => rfl); (case hg => rfl); (case hr => first | (go_simp; done) | (go_simp; rfl)); intro gb275 hg w20 hbox hb; have n0_ := Aside0.mk (zf (by repeat (first | (with_reducible first | exact HB.1 | apply zd | apply za | apply zc) | exact HB.1)) hb); have n1_ := Aside0.mk (hbox); have n2_ := Aside0.mk ((by rw [hg]; exact (zi (by repeat (first | (with_reducible first | exact HB.1 | apply zd | apply za | apply zc) | exact HB.1))) : w.heap.size ≤ gb275)); have n3_ := Aside0.mk ((by rw [hg]; exact (zi (by repeat (first | (with_reducible first | exact HB.1 | apply zd | apply za | apply zc) | exact HB.1))) : w.heap.size ≤ gb275)); clear HB; have HB := n0_; have zz := n1_; have zN := n2_; have zC := n3_; clear n0_ n1_ n2_ n3_; clear hb hbox hg) | ((with_reducible refine zk (N := 3) rfl ?_); refine zj ?hg (N := 3) ?hd (cs := #[.int .i64 a1_0, .slice A1_1 l1_1.length c1_1, .int .i64 a1_2, .int .i64 a1_3, .int .i64 a1_4, .slice A1_5 l1_5.length c1_5]) (t := 27) ?hr ?_; (case hd => rfl); (case hg => rfl); (case hr => first | (go_simp; done) | (go_simp; rfl)); intro gb276 hg w21 hbox hb; have n0_ := Aside0.mk (zx (g := gb275) (o := .cells #[.int .i64 a0_0, .slice A0_1 l0_1.length c0_1, .int .i64 a0_2, .int .i64 a0_3, .int .i64 a0_4, .slice A0_5 l0_5.length c0_5] 27 (0, 0)) (by (with_reducible repeat (first | refine zl ?_ _ | refine zn ?_ | refine zm ?_ _)); exact zz.1) hb); have n1_ := Aside0.mk (zf (by repeat (first | (with_reducible first | exact HB.1 | apply zd | apply za | apply zc | refine zh ?_ zC.1) | exact HB.1)) hb); have n2_ := Aside0.mk (hbox); have n3_ := Aside0.mk ((by rw [hg]; exact (zi (by repeat (first | (with_reducible first | exact HB.1 | apply zd | apply za | apply zc | refine zh ?_ zC.1) | exact HB.1))) : w.heap.size ≤ gb276)); have n4_ := Aside0.mk ((by rw [hg]; exact (zi (by repeat (first | (with_reducible first | exact HB.1 | apply zd | apply za | apply zc | refine zh ?_ zC.1) | exact HB.1))) : w.heap.size ≤ gb276)); have n5_ := Aside0.mk ((by rw [hg]; exact Nat.ne_of_lt (zq (g := gb275) (o := .cells #[.int .i64 a0_0, .slice A0_1 l0_1.length c0_1, .int .i64 a0_2, .int .i64 a0_3, .int .i64 a0_4, .slice A0_5 l0_5.length c0_5] 27 (0, 0)) (by (with_reducible repeat (first | refine zl ?_ _ | refine zn ?_ | refine zm ?_ _)); exact zz.1)) : gb275 ≠ gb276)); have n6_ := Aside0.mk ((by rw [hg]; exact Nat.ne_of_gt (zq (g := gb275) (o := .cells #[.int .i64 a0_0, .slice A0_1 l0_1.length c0_1, .int .i64 a0_2, .int .i64 a0_3, .int .i64 a0_4, .slice A0_5 l0_5.length c0_5] 27 (0, 0)) (by (with_reducible repeat (first | refine zl ?_ _ | refine zn ?_ | refine zm ?_ _)); exact zz.1)) : gb276 ≠ gb275)); clear zz; clear HB; have zz := n0_; have HB := n1_; have zA := n2_; have zO := n3_; have zG := n4_; have zD := n5_; have zE := n6_; clear n0_ n1_ n2_ n3_ n4_ n5_ n6_; clear hb hbox hg; have hnb22 := zD.1; have hnc22 := zE.1; have hcz23_0 : w21.cell? ⟨gb275, 0, none⟩ = some (.int .i64 a0_0) := (zb zz.1 0).trans rfl; have hcz23_1 : w21.cell? ⟨gb275, 1, none⟩ = some (.slice A0_1 l0_1.length c0_1) := (zb zz.1 1).trans rfl; have hcz23_2 : w21.cell? ⟨gb275, 2, none⟩ = some (.int .i64 a0_2) := (zb zz.1 2).trans rfl; have hcz23_3 : w21.cell? ⟨gb275, 3, none⟩ = some (.int .i64 a0_3) := (zb zz.1 3).trans rfl; have hcz23_4 : w21.cell? ⟨gb275, 4, none⟩ = some (.int .i64 a0_4) := (zb zz.1 4).trans rfl; have hcz23_5 : w21.cell? ⟨gb275, 5, none⟩ = some (.slice A0_5 l0_5.length c0_5) := (zb zz.1 5).trans rfl; have hfz23_0 := ze zz.1 0; have hfz23_1 := ze zz.1 1; have hfz23_2 := ze zz.1 2; have hfz23_3 := ze zz.1 3; have hfz23_4 := ze zz.1 4; have hfz23_5 := ze zz.1 5; have hcz24_0 : w21.cell? ⟨gb276, 0, none⟩ = some (.int .i64 a1_0) := (zb zA.1 0).trans rfl; have hcz24_1 : w21.cell? ⟨gb276, 1, none⟩ = some (.slice A1_1 l1_1.length c1_1) := (zb zA.1 1).trans rfl; have hcz24_2 : w21.cell? ⟨gb276, 2, none⟩ = some (.int .i64 a1_2) := (zb zA.1 2).trans rfl; have hcz24_3 : w21.cell? ⟨gb276, 3, none⟩ = some (.int .i64 a1_3) := (zb zA.1 3).trans rfl; have hcz24_4 : w21.cell? ⟨gb276, 4, none⟩ = some (.int .i64 a1_4) := (zb zA.1 4).trans rfl; have hcz24_5 : w21.cell? ⟨gb276, 5, none⟩ = some (.slice A1_5 l1_5.length c1_5) := (zb zA.1 5).trans rfl; have hfz24_0 := ze zA.1 0; have hfz24_1 := ze zA.1 1; have hfz24_2 := ze zA.1 2; have hfz24_3 := ze zA.1 3; have hfz24_4 := ze zA.1 4; have hfz24_5 := ze zA.1 5) | (go_at_call 111; (with_reducible refine (slices_Equal_int_int.calls k _ _ l0_1 _ _ l1_1 true _ ?side1 ?side2 ?side3 ?side4 A4.1).mono ?_); (case side1 => repeat (first | exact (zg zL.1 HB.1) | (with_reducible refine zs ?_ _) | (with_reducible refine zr ?_ _) | (with_reducible refine zt ?_))); (case side2 => exact HC0_1.1); (case side3 => repeat (first | exact (zg zM.1 HB.1) | (with_reducible refine zs ?_ _) | (with_reducible refine zr ?_ _) | (with_reducible refine zt ?_))); (case side4 => exact HC1_1.1); rintro e w' ⟨rfl, ⟨nd, rfl⟩⟩))
     go_ret
     exact ⟨by first | rfl | (simp [errW_none, errW_some] <;> rfl) | (simp [*, errW_none, errW_some] <;> rfl), by repeat (first | (with_reducible first | exact HB.1 | apply zd | apply za | apply zc | refine zh ?_ zC.1 | refine zh ?_ zG.1) | exact HB.1)⟩
   ·
    rw [if_neg c6] at H
    have c6b0 : (a0_2 == a1_2) = false := beq_eq_false_iff_ne.mpr c6
    have c6b1 : (a0_2 != a1_2) = true := bne_iff_ne.mpr c6
    obtain rfl := Option.some.inj H
    go_enter Try.func77, Try.ntmps77
    go_wp2_with (first | ((with_reducible refine zk (N := 2) rfl ?_); refine zj ?hg (N := 2) ?hd (cs := #[.int .i64 a0_0, .slice A0_1 l0_1.length c0_1, .int .i64 a0_2, .int .i64 a0_3, .int .i64 a0_4, .slice A0_5 l0_5.length c0_5]) (t := 27) ?hr ?_; (case hd => rfl); (case hg => rfl); (case hr => first | (go_simp; done) | (go_simp; rfl)); intro gb275 hg w25 hbox hb; have n0_ := Aside0.mk (zf (by repeat (first | (with_reducible first | exact HB.1 | apply zd | apply za | apply zc) | exact HB.1)) hb); have n1_ := Aside0.mk (hbox); have n2_ := Aside0.mk ((by rw [hg]; exact (zi (by repeat (first | (with_reducible first | exact HB.1 | apply zd | apply za | apply zc) | exact HB.1))) : w.heap.size ≤ gb275)); have n3_ := Aside0.mk ((by rw [hg]; exact (zi (by repeat (first | (with_reducible first | exact HB.1 | apply zd | apply za | apply zc) | exact HB.1))) : w.heap.size ≤ gb275)); clear HB; have HB := n0_; have zz := n1_; have zN := n2_; have zC := n3_; clear n0_ n1_ n2_ n3_; clear hb hbox hg) | ((with_reducible refine zk (N := 3) rfl ?_); refine zj ?hg (N := 3) ?hd (cs := #[.int .i64 a1_0, .slice A1_1 l1_1.length c1_1, .int .i64 a1_2, .int .i64 a1_3, .int .i64 a1_4, .slice A1_5 l1_5.length c1_5]) (t := 27) ?hr ?_; (case hd => rfl); (case hg => rfl); (case hr => first | (go_simp; done) | (go_simp; rfl)); intro gb276 hg w26 hbox hb; have n0_ := Aside0.mk (zx (g := gb275) (o := .cells #[.int .i64 a0_0, .slice A0_1 l0_1.length c0_1, .int .i64 a0_2, .int .i64 a0_3, .int .i64 a0_4, .slice A0_5 l0_5.length c0_5] 27 (0, 0)) (by (with_reducible repeat (first | refine zl ?_ _ | refine zn ?_ | refine zm ?_ _)); exact zz.1) hb); have n1_ := Aside0.mk (zf (by repeat (first | (with_reducible first | exact HB.1 | apply zd | apply za | apply zc | refine zh ?_ zC.1) | exact HB.1)) hb); have n2_ := Aside0.mk (hbox); have n3_ := Aside0.mk ((by rw [hg]; exact (zi (by repeat (first | (with_reducible first | exact HB.1 | apply zd | apply za | apply zc | refine zh ?_ zC.1) | exact HB.1))) : w.heap.size ≤ gb276)); have n4_ := Aside0.mk ((by rw [hg]; exact (zi (by repeat (first | (with_reducible first | exact HB.1 | apply zd | apply za | apply zc | refine zh ?_ zC.1) | exact HB.1))) : w.heap.size ≤ gb276)); have n5_ := Aside0.mk ((by rw [hg]; exact Nat.ne_of_lt (zq (g := gb275) (o := .cells #[.int .i64 a0_0, .slice A0_1 l0_1.length c0_1, .int .i64 a0_2, .int .i64 a0_3, .int .i64 a0_4, .slice A0_5 l0_5.length c0_5] 27 (0, 0)) (by (with_reducible repeat (first | refine zl ?_ _ | refine zn ?_ | refine zm ?_ _)); exact zz.1)) : gb275 ≠ gb276)); have n6_ := Aside0.mk ((by rw [hg]; exact Nat.ne_of_gt (zq (g := gb275) (o := .cells #[.int .i64 a0_0, .slice A0_1 l0_1.length c0_1, .int .i64 a0_2, .int .i64 a0_3, .int .i64 a0_4, .slice A0_5 l0_5.length c0_5] 27 (0, 0)) (by (with_reducible repeat (first | refine zl ?_ _ | refine zn ?_ | refine zm ?_ _)); exact zz.1)) : gb276 ≠ gb275)); clear zz; clear HB; have zz := n0_; have HB := n1_; have zA := n2_; have zO := n3_; have zG := n4_; have zD := n5_; have zE := n6_; clear n0_ n1_ n2_ n3_ n4_ n5_ n6_; clear hb hbox hg; have hnb27 := zD.1; have hnc27 := zE.1; have hcz28_0 : w26.cell? ⟨gb275, 0, none⟩ = some (.int .i64 a0_0) := (zb zz.1 0).trans rfl; have hcz28_1 : w26.cell? ⟨gb275, 1, none⟩ = some (.slice A0_1 l0_1.length c0_1) := (zb zz.1 1).trans rfl; have hcz28_2 : w26.cell? ⟨gb275, 2, none⟩ = some (.int .i64 a0_2) := (zb zz.1 2).trans rfl; have hcz28_3 : w26.cell? ⟨gb275, 3, none⟩ = some (.int .i64 a0_3) := (zb zz.1 3).trans rfl; have hcz28_4 : w26.cell? ⟨gb275, 4, none⟩ = some (.int .i64 a0_4) := (zb zz.1 4).trans rfl; have hcz28_5 : w26.cell? ⟨gb275, 5, none⟩ = some (.slice A0_5 l0_5.length c0_5) := (zb zz.1 5).trans rfl; have hfz28_0 := ze zz.1 0; have hfz28_1 := ze zz.1 1; have hfz28_2 := ze zz.1 2; have hfz28_3 := ze zz.1 3; have hfz28_4 := ze zz.1 4; have hfz28_5 := ze zz.1 5; have hcz29_0 : w26.cell? ⟨gb276, 0, none⟩ = some (.int .i64 a1_0) := (zb zA.1 0).trans rfl; have hcz29_1 : w26.cell? ⟨gb276, 1, none⟩ = some (.slice A1_1 l1_1.length c1_1) := (zb zA.1 1).trans rfl; have hcz29_2 : w26.cell? ⟨gb276, 2, none⟩ = some (.int .i64 a1_2) := (zb zA.1 2).trans rfl; have hcz29_3 : w26.cell? ⟨gb276, 3, none⟩ = some (.int .i64 a1_3) := (zb zA.1 3).trans rfl; have hcz29_4 : w26.cell? ⟨gb276, 4, none⟩ = some (.int .i64 a1_4) := (zb zA.1 4).trans rfl; have hcz29_5 : w26.cell? ⟨gb276, 5, none⟩ = some (.slice A1_5 l1_5.length c1_5) := (zb zA.1 5).trans rfl; have hfz29_0 := ze zA.1 0; have hfz29_1 := ze zA.1 1; have hfz29_2 := ze zA.1 2; have hfz29_3 := ze zA.1 3; have hfz29_4 := ze zA.1 4; have hfz29_5 := ze zA.1 5) | (go_at_call 111; (with_reducible refine (slices_Equal_int_int.calls k _ _ l0_1 _ _ l1_1 true _ ?side1 ?side2 ?side3 ?side4 A4.1).mono ?_); (case side1 => repeat (first | exact (zg zL.1 HB.1) | (with_reducible refine zs ?_ _) | (with_reducible refine zr ?_ _) | (with_reducible refine zt ?_))); (case side2 => exact HC0_1.1); (case side3 => repeat (first | exact (zg zM.1 HB.1) | (with_reducible refine zs ?_ _) | (with_reducible refine zr ?_ _) | (with_reducible refine zt ?_))); (case side4 => exact HC1_1.1); rintro e w' ⟨rfl, ⟨nd, rfl⟩⟩))
    go_ret
    exact ⟨by first | rfl | (simp [errW_none, errW_some] <;> rfl) | (simp [*, errW_none, errW_some] <;> rfl), by repeat (first | (with_reducible first | exact HB.1 | apply zd | apply za | apply zc | refine zh ?_ zC.1 | refine zh ?_ zG.1) | exact HB.1)⟩
  ·
   replace c5 := Bool.eq_false_iff.mpr c5
   subst c5
   have H1 : (some false) = some r := by rw [if_neg (show ¬ (false = true) by decide)] at H; exact H
   clear H
   have H := H1
   clear H1
   obtain rfl := Option.some.inj H
   go_enter Try.func77, Try.ntmps77
   go_wp2_with (first | ((with_reducible refine zk (N := 2) rfl ?_); refine zj ?hg (N := 2) ?hd (cs := #[.int .i64 a0_0, .slice A0_1 l0_1.length c0_1, .int .i64 a0_2, .int .i64 a0_3, .int .i64 a0_4, .slice A0_5 l0_5.length c0_5]) (t := 27) ?hr ?_; (case hd => rfl); (case hg => rfl); (case hr => first | (go_simp; done) | (go_simp; rfl)); intro gb275 hg w30 hbox hb; have n0_ := Aside0.mk (zf (by repeat (first | (with_reducible first | exact HB.1 | apply zd | apply za | apply zc) | exact HB.1)) hb); have n1_ := Aside0.mk (hbox); have n2_ := Aside0.mk ((by rw [hg]; exact (zi (by repeat (first | (with_reducible first | exact HB.1 | apply zd | apply za | apply zc) | exact HB.1))) : w.heap.size ≤ gb275)); have n3_ := Aside0.mk ((by rw [hg]; exact (zi (by repeat (first | (with_reducible first | exact HB.1 | apply zd | apply za | apply zc) | exact HB.1))) : w.heap.size ≤ gb275)); clear HB; have HB := n0_; have zz := n1_; have zN := n2_; have zC := n3_; clear n0_ n1_ n2_ n3_; clear hb hbox hg) | ((with_reducible refine zk (N := 3) rfl ?_); refine zj ?hg (N := 3) ?hd (cs := #[.int .i64 a1_0, .slice A1_1 l1_1.length c1_1, .int .i64 a1_2, .int .i64 a1_3, .int .i64 a1_4, .slice A1_5 l1_5.length c1_5]) (t := 27) ?hr ?_; (case hd => rfl); (case hg => rfl); (case hr => first | (go_simp; done) | (go_simp; rfl)); intro gb276 hg w31 hbox hb; have n0_ := Aside0.mk (zx (g := gb275) (o := .cells #[.int .i64 a0_0, .slice A0_1 l0_1.length c0_1, .int .i64 a0_2, .int .i64 a0_3, .int .i64 a0_4, .slice A0_5 l0_5.length c0_5] 27 (0, 0)) (by (with_reducible repeat (first | refine zl ?_ _ | refine zn ?_ | refine zm ?_ _)); exact zz.1) hb); have n1_ := Aside0.mk (zf (by repeat (first | (with_reducible first | exact HB.1 | apply zd | apply za | apply zc | refine zh ?_ zC.1) | exact HB.1)) hb); have n2_ := Aside0.mk (hbox); have n3_ := Aside0.mk ((by rw [hg]; exact (zi (by repeat (first | (with_reducible first | exact HB.1 | apply zd | apply za | apply zc | refine zh ?_ zC.1) | exact HB.1))) : w.heap.size ≤ gb276)); have n4_ := Aside0.mk ((by rw [hg]; exact (zi (by repeat (first | (with_reducible first | exact HB.1 | apply zd | apply za | apply zc | refine zh ?_ zC.1) | exact HB.1))) : w.heap.size ≤ gb276)); have n5_ := Aside0.mk ((by rw [hg]; exact Nat.ne_of_lt (zq (g := gb275) (o := .cells #[.int .i64 a0_0, .slice A0_1 l0_1.length c0_1, .int .i64 a0_2, .int .i64 a0_3, .int .i64 a0_4, .slice A0_5 l0_5.length c0_5] 27 (0, 0)) (by (with_reducible repeat (first | refine zl ?_ _ | refine zn ?_ | refine zm ?_ _)); exact zz.1)) : gb275 ≠ gb276)); have n6_ := Aside0.mk ((by rw [hg]; exact Nat.ne_of_gt (zq (g := gb275) (o := .cells #[.int .i64 a0_0, .slice A0_1 l0_1.length c0_1, .int .i64 a0_2, .int .i64 a0_3, .int .i64 a0_4, .slice A0_5 l0_5.length c0_5] 27 (0, 0)) (by (with_reducible repeat (first | refine zl ?_ _ | refine zn ?_ | refine zm ?_ _)); exact zz.1)) : gb276 ≠ gb275)); clear zz; clear HB; have zz := n0_; have HB := n1_; have zA := n2_; have zO := n3_; have zG := n4_; have zD := n5_; have zE := n6_; clear n0_ n1_ n2_ n3_ n4_ n5_ n6_; clear hb hbox hg; have hnb32 := zD.1; have hnc32 := zE.1; have hcz33_0 : w31.cell? ⟨gb275, 0, none⟩ = some (.int .i64 a0_0) := (zb zz.1 0).trans rfl; have hcz33_1 : w31.cell? ⟨gb275, 1, none⟩ = some (.slice A0_1 l0_1.length c0_1) := (zb zz.1 1).trans rfl; have hcz33_2 : w31.cell? ⟨gb275, 2, none⟩ = some (.int .i64 a0_2) := (zb zz.1 2).trans rfl; have hcz33_3 : w31.cell? ⟨gb275, 3, none⟩ = some (.int .i64 a0_3) := (zb zz.1 3).trans rfl; have hcz33_4 : w31.cell? ⟨gb275, 4, none⟩ = some (.int .i64 a0_4) := (zb zz.1 4).trans rfl; have hcz33_5 : w31.cell? ⟨gb275, 5, none⟩ = some (.slice A0_5 l0_5.length c0_5) := (zb zz.1 5).trans rfl; have hfz33_0 := ze zz.1 0; have hfz33_1 := ze zz.1 1; have hfz33_2 := ze zz.1 2; have hfz33_3 := ze zz.1 3; have hfz33_4 := ze zz.1 4; have hfz33_5 := ze zz.1 5; have hcz34_0 : w31.cell? ⟨gb276, 0, none⟩ = some (.int .i64 a1_0) := (zb zA.1 0).trans rfl; have hcz34_1 : w31.cell? ⟨gb276, 1, none⟩ = some (.slice A1_1 l1_1.length c1_1) := (zb zA.1 1).trans rfl; have hcz34_2 : w31.cell? ⟨gb276, 2, none⟩ = some (.int .i64 a1_2) := (zb zA.1 2).trans rfl; have hcz34_3 : w31.cell? ⟨gb276, 3, none⟩ = some (.int .i64 a1_3) := (zb zA.1 3).trans rfl; have hcz34_4 : w31.cell? ⟨gb276, 4, none⟩ = some (.int .i64 a1_4) := (zb zA.1 4).trans rfl; have hcz34_5 : w31.cell? ⟨gb276, 5, none⟩ = some (.slice A1_5 l1_5.length c1_5) := (zb zA.1 5).trans rfl; have hfz34_0 := ze zA.1 0; have hfz34_1 := ze zA.1 1; have hfz34_2 := ze zA.1 2; have hfz34_3 := ze zA.1 3; have hfz34_4 := ze zA.1 4; have hfz34_5 := ze zA.1 5) | (go_at_call 111; (with_reducible refine (slices_Equal_int_int.calls k _ _ l0_1 _ _ l1_1 false _ ?side1 ?side2 ?side3 ?side4 A4.1).mono ?_); (case side1 => repeat (first | exact (zg zL.1 HB.1) | (with_reducible refine zs ?_ _) | (with_reducible refine zr ?_ _) | (with_reducible refine zt ?_))); (case side2 => exact HC0_1.1); (case side3 => repeat (first | exact (zg zM.1 HB.1) | (with_reducible refine zs ?_ _) | (with_reducible refine zr ?_ _) | (with_reducible refine zt ?_))); (case side4 => exact HC1_1.1); rintro e w' ⟨rfl, ⟨nd, rfl⟩⟩))
   go_ret
   exact ⟨by first | rfl | (simp [errW_none, errW_some] <;> rfl) | (simp [*, errW_none, errW_some] <;> rfl), by repeat (first | (with_reducible first | exact HB.1 | apply zd | apply za | apply zc | refine zh ?_ zC.1 | refine zh ?_ zG.1) | exact HB.1)⟩
 ·
  rw [if_neg c3] at H
  have c3b0 : (a0_0 == a1_0) = false := beq_eq_false_iff_ne.mpr c3
  have c3b1 : (a0_0 != a1_0) = true := bne_iff_ne.mpr c3
  obtain rfl := Option.some.inj H
  go_enter Try.func77, Try.ntmps77
  go_wp2_with (first | ((with_reducible refine zk (N := 2) rfl ?_); refine zj ?hg (N := 2) ?hd (cs := #[.int .i64 a0_0, .slice A0_1 l0_1.length c0_1, .int .i64 a0_2, .int .i64 a0_3, .int .i64 a0_4, .slice A0_5 l0_5.length c0_5]) (t := 27) ?hr ?_; (case hd => rfl); (case hg => rfl); (case hr => first | (go_simp; done) | (go_simp; rfl)); intro gb275 hg w35 hbox hb; have n0_ := Aside0.mk (zf (by repeat (first | (with_reducible first | exact HB.1 | apply zd | apply za | apply zc) | exact HB.1)) hb); have n1_ := Aside0.mk (hbox); have n2_ := Aside0.mk ((by rw [hg]; exact (zi (by repeat (first | (with_reducible first | exact HB.1 | apply zd | apply za | apply zc) | exact HB.1))) : w.heap.size ≤ gb275)); have n3_ := Aside0.mk ((by rw [hg]; exact (zi (by repeat (first | (with_reducible first | exact HB.1 | apply zd | apply za | apply zc) | exact HB.1))) : w.heap.size ≤ gb275)); clear HB; have HB := n0_; have zz := n1_; have zN := n2_; have zC := n3_; clear n0_ n1_ n2_ n3_; clear hb hbox hg) | ((with_reducible refine zk (N := 3) rfl ?_); refine zj ?hg (N := 3) ?hd (cs := #[.int .i64 a1_0, .slice A1_1 l1_1.length c1_1, .int .i64 a1_2, .int .i64 a1_3, .int .i64 a1_4, .slice A1_5 l1_5.length c1_5]) (t := 27) ?hr ?_; (case hd => rfl); (case hg => rfl); (case hr => first | (go_simp; done) | (go_simp; rfl)); intro gb276 hg w36 hbox hb; have n0_ := Aside0.mk (zx (g := gb275) (o := .cells #[.int .i64 a0_0, .slice A0_1 l0_1.length c0_1, .int .i64 a0_2, .int .i64 a0_3, .int .i64 a0_4, .slice A0_5 l0_5.length c0_5] 27 (0, 0)) (by (with_reducible repeat (first | refine zl ?_ _ | refine zn ?_ | refine zm ?_ _)); exact zz.1) hb); have n1_ := Aside0.mk (zf (by repeat (first | (with_reducible first | exact HB.1 | apply zd | apply za | apply zc | refine zh ?_ zC.1) | exact HB.1)) hb); have n2_ := Aside0.mk (hbox); have n3_ := Aside0.mk ((by rw [hg]; exact (zi (by repeat (first | (with_reducible first | exact HB.1 | apply zd | apply za | apply zc | refine zh ?_ zC.1) | exact HB.1))) : w.heap.size ≤ gb276)); have n4_ := Aside0.mk ((by rw [hg]; exact (zi (by repeat (first | (with_reducible first | exact HB.1 | apply zd | apply za | apply zc | refine zh ?_ zC.1) | exact HB.1))) : w.heap.size ≤ gb276)); have n5_ := Aside0.mk ((by rw [hg]; exact Nat.ne_of_lt (zq (g := gb275) (o := .cells #[.int .i64 a0_0, .slice A0_1 l0_1.length c0_1, .int .i64 a0_2, .int .i64 a0_3, .int .i64 a0_4, .slice A0_5 l0_5.length c0_5] 27 (0, 0)) (by (with_reducible repeat (first | refine zl ?_ _ | refine zn ?_ | refine zm ?_ _)); exact zz.1)) : gb275 ≠ gb276)); have n6_ := Aside0.mk ((by rw [hg]; exact Nat.ne_of_gt (zq (g := gb275) (o := .cells #[.int .i64 a0_0, .slice A0_1 l0_1.length c0_1, .int .i64 a0_2, .int .i64 a0_3, .int .i64 a0_4, .slice A0_5 l0_5.length c0_5] 27 (0, 0)) (by (with_reducible repeat (first | refine zl ?_ _ | refine zn ?_ | refine zm ?_ _)); exact zz.1)) : gb276 ≠ gb275)); clear zz; clear HB; have zz := n0_; have HB := n1_; have zA := n2_; have zO := n3_; have zG := n4_; have zD := n5_; have zE := n6_; clear n0_ n1_ n2_ n3_ n4_ n5_ n6_; clear hb hbox hg; have hnb37 := zD.1; have hnc37 := zE.1; have hcz38_0 : w36.cell? ⟨gb275, 0, none⟩ = some (.int .i64 a0_0) := (zb zz.1 0).trans rfl; have hcz38_1 : w36.cell? ⟨gb275, 1, none⟩ = some (.slice A0_1 l0_1.length c0_1) := (zb zz.1 1).trans rfl; have hcz38_2 : w36.cell? ⟨gb275, 2, none⟩ = some (.int .i64 a0_2) := (zb zz.1 2).trans rfl; have hcz38_3 : w36.cell? ⟨gb275, 3, none⟩ = some (.int .i64 a0_3) := (zb zz.1 3).trans rfl; have hcz38_4 : w36.cell? ⟨gb275, 4, none⟩ = some (.int .i64 a0_4) := (zb zz.1 4).trans rfl; have hcz38_5 : w36.cell? ⟨gb275, 5, none⟩ = some (.slice A0_5 l0_5.length c0_5) := (zb zz.1 5).trans rfl; have hfz38_0 := ze zz.1 0; have hfz38_1 := ze zz.1 1; have hfz38_2 := ze zz.1 2; have hfz38_3 := ze zz.1 3; have hfz38_4 := ze zz.1 4; have hfz38_5 := ze zz.1 5; have hcz39_0 : w36.cell? ⟨gb276, 0, none⟩ = some (.int .i64 a1_0) := (zb zA.1 0).trans rfl; have hcz39_1 : w36.cell? ⟨gb276, 1, none⟩ = some (.slice A1_1 l1_1.length c1_1) := (zb zA.1 1).trans rfl; have hcz39_2 : w36.cell? ⟨gb276, 2, none⟩ = some (.int .i64 a1_2) := (zb zA.1 2).trans rfl; have hcz39_3 : w36.cell? ⟨gb276, 3, none⟩ = some (.int .i64 a1_3) := (zb zA.1 3).trans rfl; have hcz39_4 : w36.cell? ⟨gb276, 4, none⟩ = some (.int .i64 a1_4) := (zb zA.1 4).trans rfl; have hcz39_5 : w36.cell? ⟨gb276, 5, none⟩ = some (.slice A1_5 l1_5.length c1_5) := (zb zA.1 5).trans rfl; have hfz39_0 := ze zA.1 0; have hfz39_1 := ze zA.1 1; have hfz39_2 := ze zA.1 2; have hfz39_3 := ze zA.1 3; have hfz39_4 := ze zA.1 4; have hfz39_5 := ze zA.1 5))
  go_ret
  exact ⟨by first | rfl | (simp [errW_none, errW_some] <;> rfl) | (simp [*, errW_none, errW_some] <;> rfl), by repeat (first | (with_reducible first | exact HB.1 | apply zd | apply za | apply zc | refine zh ?_ zC.1 | refine zh ?_ zG.1) | exact HB.1)⟩


/-! ### impl_GoodUpdate_1: function 75, the update that it captured at block cg -/
def impl_GoodUpdate_1.f (k : Nat) (a0_0 a0_1 : Int) (cl : List S35) : Option Bool := slices_Contains_impl_Prefix_impl_Prefix.f k cl a0_0 a0_1
theorem impl_GoodUpdate_1.mono (a b : Int) (cl : List S35) (k : Nat) : LeO (impl_GoodUpdate_1.f k a b cl) (impl_GoodUpdate_1.f (k + 1) a b cl) := slices_Contains_impl_Prefix_impl_Prefix.mono _ _ _ k
set_option maxHeartbeats 8000000 in
set_option maxRecDepth 100000 in
theorem impl_GoodUpdate_1.calls (k : Nat) (a0_0 a0_1 : Int) (cl : List S35) (cg : Nat) (CA : Option Addr) (cc : Nat) (r : Bool) (w : World) (hc_0 : w.cell? ⟨cg, 7, none⟩ = some (.slice CA cl.length cc)) (hc_1 : zv (Kd.C k35 w CA cl.length cl)) (hc_2 : zv (cl.length ≤ cc)) (h : impl_GoodUpdate_1.f k a0_0 a0_1 cl = some r) :
  Calls Try.prog 75 #[.agg #[.int .i64 a0_0, .int .i64 a0_1], .pointer (some ⟨cg, 0, none⟩)] w fun e w' => e = .returned (.bool r) ∧ Below w.heap.size w w' := by
 have hu35 := Try.underlying35
 have hu53 := Try.underlying53
 have hu23 := Try.underlying23
 have HB := Aside0.mk (Below.refl w.heap.size w)
 have A2 := Aside0.mk (show slices_Contains_impl_Prefix_impl_Prefix.f k cl a0_0 a0_1 = some r from h)
 clear h
 go_enter Try.func75, Try.ntmps75
 go_wp2_with (first | ((with_reducible refine zk (N := 2) rfl ?_); refine zj ?hg (N := 2) ?hd (cs := #[.int .i64 a0_0, .int .i64 a0_1]) (t := 35) ?hr ?_; (case hd => rfl); (case hg => rfl); (case hr => first | (go_simp; done) | (go_simp; rfl)); intro gb hg w3 hbox hb; have hcc : w3.cell? ⟨cg, 7, none⟩ = some (.slice CA cl.length cc) := (hb.cell (World.block_lt_of_cell? w _ hc_0)).trans hc_0; have n0_ := Aside0.mk (zf HB.1 hb); clear HB; have HB := n0_; clear n0_; have BK := Aside0.mk hbox; clear hb hbox hg; have hcz_0 : w3.cell? ⟨gb, 0, none⟩ = some (.int .i64 a0_0) := (zb BK.1 0).trans rfl; have hcz_1 : w3.cell? ⟨gb, 1, none⟩ = some (.int .i64 a0_1) := (zb BK.1 1).trans rfl; have hfz_0 := ze BK.1 0; have hfz_1 := ze BK.1 1) | (go_at_call 76; (with_reducible refine (slices_Contains_impl_Prefix_impl_Prefix.calls k _ _ cl a0_0 a0_1 r _ (zg hc_1.out HB.1) hc_2.out A2.1).mono ?_); rintro e w4 ⟨rfl, hb⟩; have n0_ := Aside0.mk (zf (by repeat (first | (with_reducible first | exact HB.1 | apply zd | apply za | apply zc) | exact HB.1)) hb); clear HB; have HB := n0_; clear n0_; clear hb))
 go_ret
 exact ⟨by first | rfl | (simp; done) | (simp [*]; done), by repeat (first | (with_reducible first | exact HB.1 | apply zd | apply za | apply zc) | exact HB.1)⟩

/-! ### impl_GoodUpdate_ix -/
def impl_GoodUpdate_ix.l0 (cl : List S35) : Nat → List (S35) → Int → Int → Option (Int)
 | 0, _, _, _ => none
 | k + 1, x0, x7, x8 => if x8 < x7 then (if 0 ≤ x8 then (if x8 < (x0.length : Int) then ((impl_GoodUpdate_1.f k ((rd_T35 x0 x8).f0) ((rd_T35 x0 x8).f1) cl).bind fun t165 => (if t165 = true then (some x8) else (impl_GoodUpdate_ix.l0 cl k x0 x7 (wrap64 (x8 + 1))))) else (none)) else (none)) else (some (-1))
def impl_GoodUpdate_ix.f (k : Nat) (l0 : List (S35)) (cl : List S35) : Option (Int) := impl_GoodUpdate_ix.l0 cl k l0 (l0.length : Int) 0
theorem impl_GoodUpdate_ix.mono_l (cl : List S35) : ∀ k, (∀ y0 y1 y2, LeO (impl_GoodUpdate_ix.l0 cl k y0 y1 y2) (impl_GoodUpdate_ix.l0 cl (k + 1) y0 y1 y2))
 | 0 => fun _ _ _ r h => by simp [impl_GoodUpdate_ix.l0] at h
 | k + 1 => by
  have ih0 := impl_GoodUpdate_ix.mono_l cl k
  ·
   intro y0 y1 y2
   unfold impl_GoodUpdate_ix.l0
   repeat' first
   | (with_reducible exact ih0 _ _ _)
   | (with_reducible exact impl_GoodUpdate_1.mono _ _ _ _)
   | (with_reducible exact zw _)
   | (with_reducible exact zp _)
   | (with_reducible refine zu ?_ ?_)
   | (with_reducible refine zo ?_ (fun _ => ?_))
theorem impl_GoodUpdate_ix.mono (cl : List S35) : ∀ a0 k, LeO (impl_GoodUpdate_ix.f k a0 cl) (impl_GoodUpdate_ix.f (k + 1) a0 cl) := fun a0 k => impl_GoodUpdate_ix.mono_l cl k _ _ _
set_option maxHeartbeats 8000000 in
set_option maxRecDepth 100000 in
theorem impl_GoodUpdate_ix.calls (k : Nat) (A0 : Option Addr) (c0 : Nat) (l0 : List (S35)) (cl : List S35) (cg : Nat) (CA : Option Addr) (cc : Nat) (r : Int) (w : World) (hr0 : Kd.C k35 w A0 l0.length l0) (hc0 : l0.length ≤ c0) (hc_0 : w.cell? ⟨cg, 7, none⟩ = some (.slice CA cl.length cc)) (hc_1 : zv (Kd.C k35 w CA cl.length cl)) (hc_2 : zv (cl.length ≤ cc)) (h : impl_GoodUpdate_ix.f k l0 cl = some r) :
  Calls Try.prog 109 #[.slice A0 l0.length c0, .func (.func 75) #[] #[.pointer (some ⟨cg, 0, none⟩)]] w fun e w' => e = .returned (.int .i64 r) ∧ Below w.heap.size w w' := by
 have HR0 := Aside0.mk hr0
 have HC0 := Aside0.mk hc0
 clear hr0 hc0
 have HB := Aside0.mk (Below.refl w.heap.size w)
 have H : (impl_GoodUpdate_ix.l0 cl k l0 (l0.length : Int) 0) = some r := h
 clear h
 have H' := Aside0.mk H
 clear H
 go_enter Try.func109, Try.ntmps109
 go_wp2
 go_loopg [8] k (fun kq v8 w' => ∃ (x8_1 : Int), v8 = .int .i64 x8_1 ∧ zv (impl_GoodUpdate_ix.l0 cl kq l0 (l0.length : Int) x8_1 = some r) ∧ zv (kq ≤ k) ∧ zv (Below w.heap.size w w'))
 case atStart => exact ⟨(0), (by first | rfl | (simp; done) | (simp [*]; done)), H', ⟨Nat.le_refl _⟩, ⟨by repeat (first | (with_reducible first | exact HB.1 | apply zd | apply za | apply zc) | exact HB.1)⟩⟩
 case round =>
  clear H'
  (try clear p2)
  obtain ⟨x8_1, rfl, HA, HK1, HB⟩ := hrel
  cases gk with
  | zero => exact absurd HA.1 (by simp [impl_GoodUpdate_ix.l0])
  | succ k1 =>
   have H := HA.1
   clear HA
   simp only [impl_GoodUpdate_ix.l0] at H
   by_cases c3 : x8_1 < (l0.length : Int)
   ·
    rw [if_pos c3] at H
    have c3b0 : decide (x8_1 < (l0.length : Int)) = true := decide_eq_true c3
    clear c3
    by_cases c4 : 0 ≤ x8_1
    ·
     rw [if_pos c4] at H
     have c4b0 : decide (0 ≤ x8_1) = true := decide_eq_true c4
     clear c4
     by_cases c5 : x8_1 < (l0.length : Int)
     ·
      rw [if_pos c5] at H
      have c5b0 : decide (x8_1 < (l0.length : Int)) = true := decide_eq_true c5
      clear c5
      replace H := Option.bind_eq_some_iff.mp H
      obtain ⟨t165, A60, H⟩ := H
      replace H : (if t165 = true then (some x8_1) else (impl_GoodUpdate_ix.l0 cl k1 l0 (l0.length : Int) (wrap64 (x8_1 + 1)))) = some r := H
      have A6 := Aside0.mk A60
      clear A60
      by_cases c7 : t165 = true
      ·
       subst c7
       have H1 : (some x8_1) = some r := by rw [if_pos rfl] at H; exact H
       clear H
       have H := H1
       clear H1
       obtain rfl := Option.some.inj H
       have p164 : 0 ≤ (x8_1 : Int) := of_decide_eq_true (by first | (with_reducible assumption) | assumption)
       have q164 : x8_1 < (l0.length : Int) := of_decide_eq_true (by first | (with_reducible assumption) | assumption)
       obtain ⟨ad164, e164, hx_0, hx_1⟩ := at_T35 HR0.1 x8_1 p164 q164
       cases e164
       replace hx_0 := (HB.1.cell (World.block_lt_of_cell? w _ hx_0)).trans hx_0
       replace hx_1 := (HB.1.cell (World.block_lt_of_cell? w _ hx_1)).trans hx_1
       replace p164 := eq_true p164
       replace q164 := eq_true q164
       go_wp2_with (first | (go_at_call 75; have hcap_0 := (HB.1.cell (World.block_lt_of_cell? w _ hc_0)).trans hc_0; have hcap_1 := Aside0.mk (zg hc_1.out HB.1); have hcap_2 := hc_2; (with_reducible refine (impl_GoodUpdate_1.calls k1 ((rd_T35 l0 x8_1).f0) ((rd_T35 l0 x8_1).f1) cl cg CA cc true _ hcap_0 hcap_1 hcap_2 A6.1).mono ?_); rintro e w8 ⟨rfl, hb⟩; have n0_ := Aside0.mk (zf (by repeat (first | (with_reducible first | exact HB.1 | apply zd | apply za | apply zc) | exact HB.1)) hb); clear HB; have HB := n0_; clear n0_; (try clear hb)))
       go_ret
       exact ⟨by first | rfl | (simp [errW_none, errW_some] <;> rfl) | (simp [*, errW_none, errW_some] <;> rfl), by repeat (first | (with_reducible first | exact HB.1 | apply zd | apply za | apply zc) | exact HB.1)⟩
      ·
       replace c7 := Bool.eq_false_iff.mpr c7
       subst c7
       have H1 : (impl_GoodUpdate_ix.l0 cl k1 l0 (l0.length : Int) (wrap64 (x8_1 + 1))) = some r := by rw [if_neg (show ¬ (false = true) by decide)] at H; exact H
       clear H
       have H := H1
       clear H1
       have H' := Aside0.mk H
       clear H
       have p164 : 0 ≤ (x8_1 : Int) := of_decide_eq_true (by first | (with_reducible assumption) | assumption)
       have q164 : x8_1 < (l0.length : Int) := of_decide_eq_true (by first | (with_reducible assumption) | assumption)
       obtain ⟨ad164, e164, hx_0, hx_1⟩ := at_T35 HR0.1 x8_1 p164 q164
       cases e164
       replace hx_0 := (HB.1.cell (World.block_lt_of_cell? w _ hx_0)).trans hx_0
       replace hx_1 := (HB.1.cell (World.block_lt_of_cell? w _ hx_1)).trans hx_1
       replace p164 := eq_true p164
       replace q164 := eq_true q164
       go_wp2_with (first | (go_at_call 75; have hcap_0 := (HB.1.cell (World.block_lt_of_cell? w _ hc_0)).trans hc_0; have hcap_1 := Aside0.mk (zg hc_1.out HB.1); have hcap_2 := hc_2; (with_reducible refine (impl_GoodUpdate_1.calls k1 ((rd_T35 l0 x8_1).f0) ((rd_T35 l0 x8_1).f1) cl cg CA cc false _ hcap_0 hcap_1 hcap_2 A6.1).mono ?_); rintro e w9 ⟨rfl, hb⟩; have n0_ := Aside0.mk (zf (by repeat (first | (with_reducible first | exact HB.1 | apply zd | apply za | apply zc) | exact HB.1)) hb); clear HB; have HB := n0_; clear n0_; (try clear hb)))
       go_roundg k1
       case measure => have := HK1.1; omega
       case rel => exact ⟨(wrap64 (x8_1 + 1)), (by first | rfl | (simp; done) | (simp [*]; done)), H', ⟨by have := HK1.1; omega⟩, ⟨by repeat (first | (with_reducible first | exact HB.1 | apply zd | apply za | apply zc) | exact HB.1)⟩⟩
     ·
      rw [if_neg c5] at H
      exact absurd H (by simp)
    ·
     rw [if_neg c4] at H
     exact absurd H (by simp)
   ·
    rw [if_neg c3] at H
    have c3b0 : decide (x8_1 < (l0.length : Int)) = false := decide_eq_false c3
    clear c3
    obtain rfl := Option.some.inj H
    go_wp2
    go_ret
    exact ⟨by first | rfl | (simp [errW_none, errW_some] <;> rfl) | (simp [*, errW_none, errW_some] <;> rfl), by repeat (first | (with_reducible first | exact HB.1 | apply zd | apply za | apply zc) | exact HB.1)⟩

/-! ### impl_GoodUpdate_ct -/
def impl_GoodUpdate_ct.f (k : Nat) (l0 : List (S35)) (cl : List S35) : Option (Bool) := (impl_GoodUpdate_ix.f k l0 cl).bind fun t166 => (some (decide (t166 ≥ 0)))
theorem impl_GoodUpdate_ct.mono (cl : List S35) : ∀ a0 k, LeO (impl_GoodUpdate_ct.f k a0 cl) (impl_GoodUpdate_ct.f (k + 1) a0 cl) := fun a0 k => zo (impl_GoodUpdate_ix.mono cl _ _) (fun _ => zw _)
set_option maxHeartbeats 8000000 in
set_option maxRecDepth 100000 in
theorem impl_GoodUpdate_ct.calls (k : Nat) (A0 : Option Addr) (c0 : Nat) (l0 : List (S35)) (cl : List S35) (cg : Nat) (CA : Option Addr) (cc : Nat) (r : Bool) (w : World) (hr0 : Kd.C k35 w A0 l0.length l0) (hc0 : l0.length ≤ c0) (hc_0 : w.cell? ⟨cg, 7, none⟩ = some (.slice CA cl.length cc)) (hc_1 : zv (Kd.C k35 w CA cl.length cl)) (hc_2 : zv (cl.length ≤ cc)) (h : impl_GoodUpdate_ct.f k l0 cl = some r) :
  Calls Try.prog 74 #[.slice A0 l0.length c0, .func (.func 75) #[] #[.pointer (some ⟨cg, 0, none⟩)]] w fun e w' => e = .returned (.bool r) ∧ Below w.heap.size w w' := by
 have HR0 := Aside0.mk hr0
 have HC0 := Aside0.mk hc0
 clear hr0 hc0
 have H : ((impl_GoodUpdate_ix.f k l0 cl).bind fun t166 => (some (decide (t166 ≥ 0)))) = some r := h
 clear h
 replace H := Option.bind_eq_some_iff.mp H
 obtain ⟨t166, A30, H⟩ := H
 replace H : (some (decide (t166 ≥ 0))) = some r := H
 have A3 := Aside0.mk A30
 clear A30
 obtain rfl := Option.some.inj H
 go_enter Try.func74, Try.ntmps74
 go_wp2_with (first | (go_at_call 109; (with_reducible refine (impl_GoodUpdate_ix.calls k _ _ l0 cl cg CA cc t166 _ HR0.1 HC0.1 hc_0 hc_1 hc_2 A3.1).mono ?_); rintro e w4 ⟨rfl, hb⟩; have HB := Aside0.mk hb; clear hb))
 go_ret
 exact ⟨by first | rfl | (simp; done) | (simp [*]; done), by repeat (first | (with_reducible first | exact HB.1 | apply zd | apply za | apply zc) | exact HB.1)⟩
/-! ### impl_GoodUpdate: function 30 -/
def impl_GoodUpdate.f (k : Nat) (l0_0 : List S35) (a0_1 : Int) (l0_2 : List Int) (a0_3 : Int) (a0_4 : Int) (a0_5 : Int) (l0_6 : List Int) (l0_7 : List S35) : Option Bool := if (l0_0.length : Int) > 10 then some false else (if (l0_7.length : Int) > 10 then some false else ((impl_areRising.f k l0_0).bind fun t1 => (if t1 = true then ((impl_areRising.f k l0_7).bind fun t2 => (if t2 = true then ((impl_GoodAttrs.f k a0_1 l0_2 a0_3 a0_4 a0_5 l0_6).bind fun t3 => (if t3 = true then ((impl_GoodUpdate_ct.f k l0_0 l0_7).bind fun t4 => (if t4 = true then some false else (if (l0_7.length : Int) > 0 then some true else (impl_sameAttrs.f k a0_1 l0_2 a0_3 a0_4 a0_5 l0_6 0 [] 0 0 0 [])))) else some false)) else some false)) else some false)))
theorem impl_GoodUpdate.mono : ∀ a0 a1 a2 a3 a4 a5 a6 a7 k, LeO (impl_GoodUpdate.f k a0 a1 a2 a3 a4 a5 a6 a7) (impl_GoodUpdate.f (k + 1) a0 a1 a2 a3 a4 a5 a6 a7) := by
 intro a0 a1 a2 a3 a4 a5 a6 a7 k
 unfold impl_GoodUpdate.f
 repeat' first
   | (with_reducible exact impl_areRising.mono _ _)
   | (with_reducible exact impl_GoodAttrs.mono _ _ _ _ _ _ _)
   | (with_reducible exact impl_GoodUpdate_ct.mono _ _ _)
   | (with_reducible exact impl_sameAttrs.mono _ _ _ _ _ _ _ _ _ _ _ _ _)
   | (with_reducible exact zw _)
   | (with_reducible exact zp _)
   | (with_reducible refine zu ?_ ?_)
   | (with_reducible refine zo ?_ (fun _ => ?_))
set_option maxHeartbeats 8000000 in
set_option maxRecDepth 100000 in
theorem impl_GoodUpdate.calls (k : Nat) (A0_0 : Option Addr) (c0_0 : Nat) (l0_0 : List S35) (a0_1 : Int) (A0_2 : Option Addr) (c0_2 : Nat) (l0_2 : List Int) (a0_3 : Int) (a0_4 : Int) (a0_5 : Int) (A0_6 : Option Addr) (c0_6 : Nat) (l0_6 : List Int) (A0_7 : Option Addr) (c0_7 : Nat) (l0_7 : List S35) (r : Bool) (w : World) (hr0_0 : Kd.C k35 w A0_0 l0_0.length l0_0) (hc0_0 : l0_0.length ≤ c0_0) (hr0_2 : Kd.C (zy .i64) w A0_2 l0_2.length l0_2) (hc0_2 : l0_2.length ≤ c0_2) (hr0_6 : Kd.C (zy .i64) w A0_6 l0_6.length l0_6) (hc0_6 : l0_6.length ≤ c0_6) (hr0_7 : Kd.C k35 w A0_7 l0_7.length l0_7) (hc0_7 : l0_7.length ≤ c0_7) (h : impl_GoodUpdate.f k l0_0 a0_1 l0_2 a0_3 a0_4 a0_5 l0_6 l0_7 = some r) :
  Calls Try.prog 30 #[.agg #[.slice A0_0 l0_0.length c0_0, .int .i64 a0_1, .slice A0_2 l0_2.length c0_2, .int .i64 a0_3, .int .i64 a0_4, .int .i64 a0_5, .slice A0_6 l0_6.length c0_6, .slice A0_7 l0_7.length c0_7]] w fun e w' => e = .returned (.bool r) ∧ Below w.heap.size w w' := by
 have hu53 := Try.underlying53
 have hu23 := Try.underlying23
 have hu35 := Try.underlying35
 have zH := Aside0.mk hr0_0
 have HC0_0 := Aside0.mk hc0_0
 clear hr0_0 hc0_0
 have zP := Aside0.mk hr0_2
 have HC0_2 := Aside0.mk hc0_2
 clear hr0_2 hc0_2
 have zQ := Aside0.mk hr0_6
 have HC0_6 := Aside0.mk hc0_6
 clear hr0_6 hc0_6
 have zI := Aside0.mk hr0_7
 have HC0_7 := Aside0.mk hc0_7
 clear hr0_7 hc0_7
 have HB := Aside0.mk (Below.refl w.heap.size w)
 have hmf : ∀ (fn : Fn) (first cap : Array Value) (w : World), (Instr.makeFunc fn first cap).run Try.prog w = .ok (.func fn first cap) w := fun _ _ _ _ => rfl
 have H : (if (l0_0.length : Int) > 10 then some false else (if (l0_7.length : Int) > 10 then some false else ((impl_areRising.f k l0_0).bind fun t1 => (if t1 = true then ((impl_areRising.f k l0_7).bind fun t2 => (if t2 = true then ((impl_GoodAttrs.f k a0_1 l0_2 a0_3 a0_4 a0_5 l0_6).bind fun t3 => (if t3 = true then ((impl_GoodUpdate_ct.f k l0_0 l0_7).bind fun t4 => (if t4 = true then some false else (if (l0_7.length : Int) > 0 then some true else (impl_sameAttrs.f k a0_1 l0_2 a0_3 a0_4 a0_5 l0_6 0 [] 0 0 0 [])))) else some false)) else some false)) else some false)))) = some r := h
 clear h
 by_cases c7 : (l0_0.length : Int) > 10
 ·
  rw [if_pos c7] at H
  have c7b0 : decide ((10 : Int) < (l0_0.length : Int)) = true := decide_eq_true c7
  have c7b1 : decide (10 < l0_0.length) = true := decide_eq_true (by omega)
  clear c7
  obtain rfl := Option.some.inj H
  clear H
  go_enter Try.func30, Try.ntmps30
  go_wp2_with (first | ((with_reducible refine zk (N := 1) rfl ?_); refine zj ?hg (N := 1) ?hd (cs := #[.slice A0_0 l0_0.length c0_0, .int .i64 a0_1, .slice A0_2 l0_2.length c0_2, .int .i64 a0_3, .int .i64 a0_4, .int .i64 a0_5, .slice A0_6 l0_6.length c0_6, .slice A0_7 l0_7.length c0_7]) (t := 53) ?hr ?_; (case hd => rfl); (case hg => rfl); (case hr => first | (go_simp; done) | (go_simp; rfl)); intro gb hg w3 hbox hb; have n0_ := Aside0.mk (zf (by repeat (first | (with_reducible first | exact HB.1 | apply zd | apply za | apply zc) | exact HB.1)) hb); clear HB; have HB := n0_; clear n0_; have BK := Aside0.mk hbox; clear hb hbox hg; have hcz_0 : w3.cell? ⟨gb, 0, none⟩ = some (.slice A0_0 l0_0.length c0_0) := (zb BK.1 0).trans rfl; have hcz_1 : w3.cell? ⟨gb, 1, none⟩ = some (.int .i64 a0_1) := (zb BK.1 1).trans rfl; have hcz_2 : w3.cell? ⟨gb, 2, none⟩ = some (.slice A0_2 l0_2.length c0_2) := (zb BK.1 2).trans rfl; have hcz_3 : w3.cell? ⟨gb, 3, none⟩ = some (.int .i64 a0_3) := (zb BK.1 3).trans rfl; have hcz_4 : w3.cell? ⟨gb, 4, none⟩ = some (.int .i64 a0_4) := (zb BK.1 4).trans rfl; have hcz_5 : w3.cell? ⟨gb, 5, none⟩ = some (.int .i64 a0_5) := (zb BK.1 5).trans rfl; have hcz_6 : w3.cell? ⟨gb, 6, none⟩ = some (.slice A0_6 l0_6.length c0_6) := (zb BK.1 6).trans rfl; have hcz_7 : w3.cell? ⟨gb, 7, none⟩ = some (.slice A0_7 l0_7.length c0_7) := (zb BK.1 7).trans rfl))
  go_ret
  exact ⟨by first | rfl | (simp; done) | (simp [*]; done), by repeat (first | (with_reducible first | exact HB.1 | apply zd | apply za | apply zc) | exact HB.1)⟩
 ·
  rw [if_neg c7] at H
  have c7b0 : decide ((10 : Int) < (l0_0.length : Int)) = false := decide_eq_false c7
  have c7b1 : decide (10 < l0_0.length) = false := decide_eq_false (by omega)
  clear c7
  by_cases c8 : (l0_7.length : Int) > 10
  ·
   rw [if_pos c8] at H
   have c8b0 : decide ((10 : Int) < (l0_7.length : Int)) = true := decide_eq_true c8
   have c8b1 : decide (10 < l0_7.length) = true := decide_eq_true (by omega)
   clear c8
   obtain rfl := Option.some.inj H
   clear H
   go_enter Try.func30, Try.ntmps30
   go_wp2_with (first | ((with_reducible refine zk (N := 1) rfl ?_); refine zj ?hg (N := 1) ?hd (cs := #[.slice A0_0 l0_0.length c0_0, .int .i64 a0_1, .slice A0_2 l0_2.length c0_2, .int .i64 a0_3, .int .i64 a0_4, .int .i64 a0_5, .slice A0_6 l0_6.length c0_6, .slice A0_7 l0_7.length c0_7]) (t := 53) ?hr ?_; (case hd => rfl); (case hg => rfl); (case hr => first | (go_simp; done) | (go_simp; rfl)); intro gb hg w3 hbox hb; have n0_ := Aside0.mk (zf (by repeat (first | (with_reducible first | exact HB.1 | apply zd | apply za | apply zc) | exact HB.1)) hb); clear HB; have HB := n0_; clear n0_; have BK := Aside0.mk hbox; clear hb hbox hg; have hcz_0 : w3.cell? ⟨gb, 0, none⟩ = some (.slice A0_0 l0_0.length c0_0) := (zb BK.1 0).trans rfl; have hcz_1 : w3.cell? ⟨gb, 1, none⟩ = some (.int .i64 a0_1) := (zb BK.1 1).trans rfl; have hcz_2 : w3.cell? ⟨gb, 2, none⟩ = some (.slice A0_2 l0_2.length c0_2) := (zb BK.1 2).trans rfl; have hcz_3 : w3.cell? ⟨gb, 3, none⟩ = some (.int .i64 a0_3) := (zb BK.1 3).trans rfl; have hcz_4 : w3.cell? ⟨gb, 4, none⟩ = some (.int .i64 a0_4) := (zb BK.1 4).trans rfl; have hcz_5 : w3.cell? ⟨gb, 5, none⟩ = some (.int .i64 a0_5) := (zb BK.1 5).trans rfl; have hcz_6 : w3.cell? ⟨gb, 6, none⟩ = some (.slice A0_6 l0_6.length c0_6) := (zb BK.1 6).trans rfl; have hcz_7 : w3.cell? ⟨gb, 7, none⟩ = some (.slice A0_7 l0_7.length c0_7) := (zb BK.1 7).trans rfl))
   go_ret
   exact ⟨by first | rfl | (simp; done) | (simp [*]; done), by repeat (first | (with_reducible first | exact HB.1 | apply zd | apply za | apply zc) | exact HB.1)⟩
  ·
   rw [if_neg c8] at H
   have c8b0 : decide ((10 : Int) < (l0_7.length : Int)) = false := decide_eq_false c8
   have c8b1 : decide (10 < l0_7.length) = false := decide_eq_false (by omega)
   clear c8
   replace H := Option.bind_eq_some_iff.mp H
   obtain ⟨t1, A10, H⟩ := H
   replace H : (if t1 = true then ((impl_areRising.f k l0_7).bind fun t2 => (if t2 = true then ((impl_GoodAttrs.f k a0_1 l0_2 a0_3 a0_4 a0_5 l0_6).bind fun t3 => (if t3 = true then ((impl_GoodUpdate_ct.f k l0_0 l0_7).bind fun t4 => (if t4 = true then some false else (if (l0_7.length : Int) > 0 then some true else (impl_sameAttrs.f k a0_1 l0_2 a0_3 a0_4 a0_5 l0_6 0 [] 0 0 0 [])))) else some false)) else some false)) else some false) = some r := H
   have A1 := Aside0.mk A10
   clear A10
   by_cases c1 : t1 = true
   ·
    subst c1
    rw [if_pos rfl] at H
    replace H := Option.bind_eq_some_iff.mp H
    obtain ⟨t2, A20, H⟩ := H
    replace H : (if t2 = true then ((impl_GoodAttrs.f k a0_1 l0_2 a0_3 a0_4 a0_5 l0_6).bind fun t3 => (if t3 = true then ((impl_GoodUpdate_ct.f k l0_0 l0_7).bind fun t4 => (if t4 = true then some false else (if (l0_7.length : Int) > 0 then some true else (impl_sameAttrs.f k a0_1 l0_2 a0_3 a0_4 a0_5 l0_6 0 [] 0 0 0 [])))) else some false)) else some false) = some r := H
    have A2 := Aside0.mk A20
    clear A20
    by_cases c2 : t2 = true
    ·
     subst c2
     rw [if_pos rfl] at H
     replace H := Option.bind_eq_some_iff.mp H
     obtain ⟨t3, A30, H⟩ := H
     replace H : (if t3 = true then ((impl_GoodUpdate_ct.f k l0_0 l0_7).bind fun t4 => (if t4 = true then some false else (if (l0_7.length : Int) > 0 then some true else (impl_sameAttrs.f k a0_1 l0_2 a0_3 a0_4 a0_5 l0_6 0 [] 0 0 0 [])))) else some false) = some r := H
     have A3 := Aside0.mk A30
     clear A30
     by_cases c3 : t3 = true
     ·
      subst c3
      rw [if_pos rfl] at H
      replace H := Option.bind_eq_some_iff.mp H
      obtain ⟨t4, A40, H⟩ := H
      replace H : (if t4 = true then some false else (if (l0_7.length : Int) > 0 then some true else (impl_sameAttrs.f k a0_1 l0_2 a0_3 a0_4 a0_5 l0_6 0 [] 0 0 0 []))) = some r := H
      have A4 := Aside0.mk A40
      clear A40
      by_cases c4 : t4 = true
      ·
       subst c4
       rw [if_pos rfl] at H
       obtain rfl := Option.some.inj H
       clear H
       go_enter Try.func30, Try.ntmps30
       go_wp2_with (first | ((with_reducible refine zk (N := 1) rfl ?_); refine zj ?hg (N := 1) ?hd (cs := #[.slice A0_0 l0_0.length c0_0, .int .i64 a0_1, .slice A0_2 l0_2.length c0_2, .int .i64 a0_3, .int .i64 a0_4, .int .i64 a0_5, .slice A0_6 l0_6.length c0_6, .slice A0_7 l0_7.length c0_7]) (t := 53) ?hr ?_; (case hd => rfl); (case hg => rfl); (case hr => first | (go_simp; done) | (go_simp; rfl)); intro gb hg w3 hbox hb; have n0_ := Aside0.mk (zf (by repeat (first | (with_reducible first | exact HB.1 | apply zd | apply za | apply zc) | exact HB.1)) hb); clear HB; have HB := n0_; clear n0_; have BK := Aside0.mk hbox; clear hb hbox hg; have hcz_0 : w3.cell? ⟨gb, 0, none⟩ = some (.slice A0_0 l0_0.length c0_0) := (zb BK.1 0).trans rfl; have hcz_1 : w3.cell? ⟨gb, 1, none⟩ = some (.int .i64 a0_1) := (zb BK.1 1).trans rfl; have hcz_2 : w3.cell? ⟨gb, 2, none⟩ = some (.slice A0_2 l0_2.length c0_2) := (zb BK.1 2).trans rfl; have hcz_3 : w3.cell? ⟨gb, 3, none⟩ = some (.int .i64 a0_3) := (zb BK.1 3).trans rfl; have hcz_4 : w3.cell? ⟨gb, 4, none⟩ = some (.int .i64 a0_4) := (zb BK.1 4).trans rfl; have hcz_5 : w3.cell? ⟨gb, 5, none⟩ = some (.int .i64 a0_5) := (zb BK.1 5).trans rfl; have hcz_6 : w3.cell? ⟨gb, 6, none⟩ = some (.slice A0_6 l0_6.length c0_6) := (zb BK.1 6).trans rfl; have hcz_7 : w3.cell? ⟨gb, 7, none⟩ = some (.slice A0_7 l0_7.length c0_7) := (zb BK.1 7).trans rfl) | (go_at_call 73; (first | ((with_reducible refine (impl_areRising.calls k _ _ l0_0 true _ (zg zH.1 (by repeat (first | (with_reducible first | exact HB.1 | apply zd | apply za | apply zc) | exact HB.1))) HC0_0.1 A1.1).mono ?_)) | ((with_reducible refine (impl_areRising.calls k _ _ l0_7 true _ (zg zI.1 (by repeat (first | (with_reducible first | exact HB.1 | apply zd | apply za | apply zc) | exact HB.1))) HC0_7.1 A2.1).mono ?_))); rintro e w4 ⟨rfl, hb⟩; have n0_ := Aside0.mk (zf (by repeat (first | (with_reducible first | exact HB.1 | apply zd | apply za | apply zc) | exact HB.1)) hb); have n1_ := Aside0.mk ((hb.block gb (zq BK.1)).trans BK.1); clear HB BK; have HB := n0_; have BK := n1_; clear n0_ n1_ hb; clear hcz_0 hcz_1 hcz_2 hcz_3 hcz_4 hcz_5 hcz_6 hcz_7; have hcz_0 : w4.cell? ⟨gb, 0, none⟩ = some (.slice A0_0 l0_0.length c0_0) := (zb BK.1 0).trans rfl; have hcz_1 : w4.cell? ⟨gb, 1, none⟩ = some (.int .i64 a0_1) := (zb BK.1 1).trans rfl; have hcz_2 : w4.cell? ⟨gb, 2, none⟩ = some (.slice A0_2 l0_2.length c0_2) := (zb BK.1 2).trans rfl; have hcz_3 : w4.cell? ⟨gb, 3, none⟩ = some (.int .i64 a0_3) := (zb BK.1 3).trans rfl; have hcz_4 : w4.cell? ⟨gb, 4, none⟩ = some (.int .i64 a0_4) := (zb BK.1 4).trans rfl; have hcz_5 : w4.cell? ⟨gb, 5, none⟩ = some (.int .i64 a0_5) := (zb BK.1 5).trans rfl; have hcz_6 : w4.cell? ⟨gb, 6, none⟩ = some (.slice A0_6 l0_6.length c0_6) := (zb BK.1 6).trans rfl; have hcz_7 : w4.cell? ⟨gb, 7, none⟩ = some (.slice A0_7 l0_7.length c0_7) := (zb BK.1 7).trans rfl) | (go_at_call 15; (with_reducible refine (impl_GoodAttrs.calls k a0_1 _ _ l0_2 a0_3 a0_4 a0_5 _ _ l0_6 true _ (zg zP.1 (by repeat (first | (with_reducible first | exact HB.1 | apply zd | apply za | apply zc) | exact HB.1))) HC0_2.1 (zg zQ.1 (by repeat (first | (with_reducible first | exact HB.1 | apply zd | apply za | apply zc) | exact HB.1))) HC0_6.1 A3.1).mono ?_); rintro e w4 ⟨rfl, hb⟩; have n0_ := Aside0.mk (zf (by repeat (first | (with_reducible first | exact HB.1 | apply zd | apply za | apply zc) | exact HB.1)) hb); have n1_ := Aside0.mk ((hb.block gb (zq BK.1)).trans BK.1); clear HB BK; have HB := n0_; have BK := n1_; clear n0_ n1_ hb; clear hcz_0 hcz_1 hcz_2 hcz_3 hcz_4 hcz_5 hcz_6 hcz_7; have hcz_0 : w4.cell? ⟨gb, 0, none⟩ = some (.slice A0_0 l0_0.length c0_0) := (zb BK.1 0).trans rfl; have hcz_1 : w4.cell? ⟨gb, 1, none⟩ = some (.int .i64 a0_1) := (zb BK.1 1).trans rfl; have hcz_2 : w4.cell? ⟨gb, 2, none⟩ = some (.slice A0_2 l0_2.length c0_2) := (zb BK.1 2).trans rfl; have hcz_3 : w4.cell? ⟨gb, 3, none⟩ = some (.int .i64 a0_3) := (zb BK.1 3).trans rfl; have hcz_4 : w4.cell? ⟨gb, 4, none⟩ = some (.int .i64 a0_4) := (zb BK.1 4).trans rfl; have hcz_5 : w4.cell? ⟨gb, 5, none⟩ = some (.int .i64 a0_5) := (zb BK.1 5).trans rfl; have hcz_6 : w4.cell? ⟨gb, 6, none⟩ = some (.slice A0_6 l0_6.length c0_6) := (zb BK.1 6).trans rfl; have hcz_7 : w4.cell? ⟨gb, 7, none⟩ = some (.slice A0_7 l0_7.length c0_7) := (zb BK.1 7).trans rfl) | (go_at_call 74; (with_reducible refine (impl_GoodUpdate_ct.calls k _ _ l0_0 l0_7 gb A0_7 c0_7 true _ (zg zH.1 (by repeat (first | (with_reducible first | exact HB.1 | apply zd | apply za | apply zc) | exact HB.1))) HC0_0.1 ?hs ⟨(zg zI.1 (by repeat (first | (with_reducible first | exact HB.1 | apply zd | apply za | apply zc) | exact HB.1)))⟩ HC0_7 A4.1).mono ?_); (case hs => exact (zb BK.1 7).trans rfl); rintro e w4 ⟨rfl, hb⟩; have n0_ := Aside0.mk (zf (by repeat (first | (with_reducible first | exact HB.1 | apply zd | apply za | apply zc) | exact HB.1)) hb); have n1_ := Aside0.mk ((hb.block gb (zq BK.1)).trans BK.1); clear HB BK; have HB := n0_; have BK := n1_; clear n0_ n1_ hb; clear hcz_0 hcz_1 hcz_2 hcz_3 hcz_4 hcz_5 hcz_6 hcz_7; have hcz_0 : w4.cell? ⟨gb, 0, none⟩ = some (.slice A0_0 l0_0.length c0_0) := (zb BK.1 0).trans rfl; have hcz_1 : w4.cell? ⟨gb, 1, none⟩ = some (.int .i64 a0_1) := (zb BK.1 1).trans rfl; have hcz_2 : w4.cell? ⟨gb, 2, none⟩ = some (.slice A0_2 l0_2.length c0_2) := (zb BK.1 2).trans rfl; have hcz_3 : w4.cell? ⟨gb, 3, none⟩ = some (.int .i64 a0_3) := (zb BK.1 3).trans rfl; have hcz_4 : w4.cell? ⟨gb, 4, none⟩ = some (.int .i64 a0_4) := (zb BK.1 4).trans rfl; have hcz_5 : w4.cell? ⟨gb, 5, none⟩ = some (.int .i64 a0_5) := (zb BK.1 5).trans rfl; have hcz_6 : w4.cell? ⟨gb, 6, none⟩ = some (.slice A0_6 l0_6.length c0_6) := (zb BK.1 6).trans rfl; have hcz_7 : w4.cell? ⟨gb, 7, none⟩ = some (.slice A0_7 l0_7.length c0_7) := (zb BK.1 7).trans rfl))
       go_ret
       exact ⟨by first | rfl | (simp; done) | (simp [*]; done), by repeat (first | (with_reducible first | exact HB.1 | apply zd | apply za | apply zc) | exact HB.1)⟩
      ·
       replace c4 := Bool.eq_false_iff.mpr c4
       subst c4
       rw [if_neg (show ¬ (false = true) by decide)] at H
       by_cases c6 : (l0_7.length : Int) > 0
       ·
        rw [if_pos c6] at H
        have c6b0 : decide ((0 : Int) < (l0_7.length : Int)) = true := decide_eq_true c6
        have c6b1 : decide (0 < l0_7.length) = true := decide_eq_true (by omega)
        clear c6
        obtain rfl := Option.some.inj H
        clear H
        go_enter Try.func30, Try.ntmps30
        go_wp2_with (first | ((with_reducible refine zk (N := 1) rfl ?_); refine zj ?hg (N := 1) ?hd (cs := #[.slice A0_0 l0_0.length c0_0, .int .i64 a0_1, .slice A0_2 l0_2.length c0_2, .int .i64 a0_3, .int .i64 a0_4, .int .i64 a0_5, .slice A0_6 l0_6.length c0_6, .slice A0_7 l0_7.length c0_7]) (t := 53) ?hr ?_; (case hd => rfl); (case hg => rfl); (case hr => first | (go_simp; done) | (go_simp; rfl)); intro gb hg w3 hbox hb; have n0_ := Aside0.mk (zf (by repeat (first | (with_reducible first | exact HB.1 | apply zd | apply za | apply zc) | exact HB.1)) hb); clear HB; have HB := n0_; clear n0_; have BK := Aside0.mk hbox; clear hb hbox hg; have hcz_0 : w3.cell? ⟨gb, 0, none⟩ = some (.slice A0_0 l0_0.length c0_0) := (zb BK.1 0).trans rfl; have hcz_1 : w3.cell? ⟨gb, 1, none⟩ = some (.int .i64 a0_1) := (zb BK.1 1).trans rfl; have hcz_2 : w3.cell? ⟨gb, 2, none⟩ = some (.slice A0_2 l0_2.length c0_2) := (zb BK.1 2).trans rfl; have hcz_3 : w3.cell? ⟨gb, 3, none⟩ = some (.int .i64 a0_3) := (zb BK.1 3).trans rfl; have hcz_4 : w3.cell? ⟨gb, 4, none⟩ = some (.int .i64 a0_4) := (zb BK.1 4).trans rfl; have hcz_5 : w3.cell? ⟨gb, 5, none⟩ = some (.int .i64 a0_5) := (zb BK.1 5).trans rfl; have hcz_6 : w3.cell? ⟨gb, 6, none⟩ = some (.slice A0_6 l0_6.length c0_6) := (zb BK.1 6).trans rfl; have hcz_7 : w3.cell? ⟨gb, 7, none⟩ = some (.slice A0_7 l0_7.length c0_7) := (zb BK.1 7).trans rfl) | (go_at_call 73; (first | ((with_reducible refine (impl_areRising.calls k _ _ l0_0 true _ (zg zH.1 (by repeat (first | (with_reducible first | exact HB.1 | apply zd | apply za | apply zc) | exact HB.1))) HC0_0.1 A1.1).mono ?_)) | ((with_reducible refine (impl_areRising.calls k _ _ l0_7 true _ (zg zI.1 (by repeat (first | (with_reducible first | exact HB.1 | apply zd | apply za | apply zc) | exact HB.1))) HC0_7.1 A2.1).mono ?_))); rintro e w4 ⟨rfl, hb⟩; have n0_ := Aside0.mk (zf (by repeat (first | (with_reducible first | exact HB.1 | apply zd | apply za | apply zc) | exact HB.1)) hb); have n1_ := Aside0.mk ((hb.block gb (zq BK.1)).trans BK.1); clear HB BK; have HB := n0_; have BK := n1_; clear n0_ n1_ hb; clear hcz_0 hcz_1 hcz_2 hcz_3 hcz_4 hcz_5 hcz_6 hcz_7; have hcz_0 : w4.cell? ⟨gb, 0, none⟩ = some (.slice A0_0 l0_0.length c0_0) := (zb BK.1 0).trans rfl; have hcz_1 : w4.cell? ⟨gb, 1, none⟩ = some (.int .i64 a0_1) := (zb BK.1 1).trans rfl; have hcz_2 : w4.cell? ⟨gb, 2, none⟩ = some (.slice A0_2 l0_2.length c0_2) := (zb BK.1 2).trans rfl; have hcz_3 : w4.cell? ⟨gb, 3, none⟩ = some (.int .i64 a0_3) := (zb BK.1 3).trans rfl; have hcz_4 : w4.cell? ⟨gb, 4, none⟩ = some (.int .i64 a0_4) := (zb BK.1 4).trans rfl; have hcz_5 : w4.cell? ⟨gb, 5, none⟩ = some (.int .i64 a0_5) := (zb BK.1 5).trans rfl; have hcz_6 : w4.cell? ⟨gb, 6, none⟩ = some (.slice A0_6 l0_6.length c0_6) := (zb BK.1 6).trans rfl; have hcz_7 : w4.cell? ⟨gb, 7, none⟩ = some (.slice A0_7 l0_7.length c0_7) := (zb BK.1 7).trans rfl) | (go_at_call 15; (with_reducible refine (impl_GoodAttrs.calls k a0_1 _ _ l0_2 a0_3 a0_4 a0_5 _ _ l0_6 true _ (zg zP.1 (by repeat (first | (with_reducible first | exact HB.1 | apply zd | apply za | apply zc) | exact HB.1))) HC0_2.1 (zg zQ.1 (by repeat (first | (with_reducible first | exact HB.1 | apply zd | apply za | apply zc) | exact HB.1))) HC0_6.1 A3.1).mono ?_); rintro e w4 ⟨rfl, hb⟩; have n0_ := Aside0.mk (zf (by repeat (first | (with_reducible first | exact HB.1 | apply zd | apply za | apply zc) | exact HB.1)) hb); have n1_ := Aside0.mk ((hb.block gb (zq BK.1)).trans BK.1); clear HB BK; have HB := n0_; have BK := n1_; clear n0_ n1_ hb; clear hcz_0 hcz_1 hcz_2 hcz_3 hcz_4 hcz_5 hcz_6 hcz_7; have hcz_0 : w4.cell? ⟨gb, 0, none⟩ = some (.slice A0_0 l0_0.length c0_0) := (zb BK.1 0).trans rfl; have hcz_1 : w4.cell? ⟨gb, 1, none⟩ = some (.int .i64 a0_1) := (zb BK.1 1).trans rfl; have hcz_2 : w4.cell? ⟨gb, 2, none⟩ = some (.slice A0_2 l0_2.length c0_2) := (zb BK.1 2).trans rfl; have hcz_3 : w4.cell? ⟨gb, 3, none⟩ = some (.int .i64 a0_3) := (zb BK.1 3).trans rfl; have hcz_4 : w4.cell? ⟨gb, 4, none⟩ = some (.int .i64 a0_4) := (zb BK.1 4).trans rfl; have hcz_5 : w4.cell? ⟨gb, 5, none⟩ = some (.int .i64 a0_5) := (zb BK.1 5).trans rfl; have hcz_6 : w4.cell? ⟨gb, 6, none⟩ = some (.slice A0_6 l0_6.length c0_6) := (zb BK.1 6).trans rfl; have hcz_7 : w4.cell? ⟨gb, 7, none⟩ = some (.slice A0_7 l0_7.length c0_7) := (zb BK.1 7).trans rfl) | (go_at_call 74; (with_reducible refine (impl_GoodUpdate_ct.calls k _ _ l0_0 l0_7 gb A0_7 c0_7 false _ (zg zH.1 (by repeat (first | (with_reducible first | exact HB.1 | apply zd | apply za | apply zc) | exact HB.1))) HC0_0.1 ?hs ⟨(zg zI.1 (by repeat (first | (with_reducible first | exact HB.1 | apply zd | apply za | apply zc) | exact HB.1)))⟩ HC0_7 A4.1).mono ?_); (case hs => exact (zb BK.1 7).trans rfl); rintro e w4 ⟨rfl, hb⟩; have n0_ := Aside0.mk (zf (by repeat (first | (with_reducible first | exact HB.1 | apply zd | apply za | apply zc) | exact HB.1)) hb); have n1_ := Aside0.mk ((hb.block gb (zq BK.1)).trans BK.1); clear HB BK; have HB := n0_; have BK := n1_; clear n0_ n1_ hb; clear hcz_0 hcz_1 hcz_2 hcz_3 hcz_4 hcz_5 hcz_6 hcz_7; have hcz_0 : w4.cell? ⟨gb, 0, none⟩ = some (.slice A0_0 l0_0.length c0_0) := (zb BK.1 0).trans rfl; have hcz_1 : w4.cell? ⟨gb, 1, none⟩ = some (.int .i64 a0_1) := (zb BK.1 1).trans rfl; have hcz_2 : w4.cell? ⟨gb, 2, none⟩ = some (.slice A0_2 l0_2.length c0_2) := (zb BK.1 2).trans rfl; have hcz_3 : w4.cell? ⟨gb, 3, none⟩ = some (.int .i64 a0_3) := (zb BK.1 3).trans rfl; have hcz_4 : w4.cell? ⟨gb, 4, none⟩ = some (.int .i64 a0_4) := (zb BK.1 4).trans rfl; have hcz_5 : w4.cell? ⟨gb, 5, none⟩ = some (.int .i64 a0_5) := (zb BK.1 5).trans rfl; have hcz_6 : w4.cell? ⟨gb, 6, none⟩ = some (.slice A0_6 l0_6.length c0_6) := (zb BK.1 6).trans rfl; have hcz_7 : w4.cell? ⟨gb, 7, none⟩ = some (.slice A0_7 l0_7.length c0_7) := (zb BK.1 7).trans rfl))
        go_ret
        exact ⟨by first | rfl | (simp; done) | (simp [*]; done), by repeat (first | (with_reducible first | exact HB.1 | apply zd | apply za | apply zc) | exact HB.1)⟩
       ·
        rw [if_neg c6] at H
        have c6b0 : decide ((0 : Int) < (l0_7.length : Int)) = false := decide_eq_false c6
        have c6b1 : decide (0 < l0_7.length) = false := decide_eq_false (by omega)
        clear c6
        have A5 := Aside0.mk H
        clear H
        go_enter Try.func30, Try.ntmps30
        go_wp2_with (first | ((with_reducible refine zk (N := 1) rfl ?_); refine zj ?hg (N := 1) ?hd (cs := #[.slice A0_0 l0_0.length c0_0, .int .i64 a0_1, .slice A0_2 l0_2.length c0_2, .int .i64 a0_3, .int .i64 a0_4, .int .i64 a0_5, .slice A0_6 l0_6.length c0_6, .slice A0_7 l0_7.length c0_7]) (t := 53) ?hr ?_; (case hd => rfl); (case hg => rfl); (case hr => first | (go_simp; done) | (go_simp; rfl)); intro gb hg w3 hbox hb; have n0_ := Aside0.mk (zf (by repeat (first | (with_reducible first | exact HB.1 | apply zd | apply za | apply zc) | exact HB.1)) hb); clear HB; have HB := n0_; clear n0_; have BK := Aside0.mk hbox; clear hb hbox hg; have hcz_0 : w3.cell? ⟨gb, 0, none⟩ = some (.slice A0_0 l0_0.length c0_0) := (zb BK.1 0).trans rfl; have hcz_1 : w3.cell? ⟨gb, 1, none⟩ = some (.int .i64 a0_1) := (zb BK.1 1).trans rfl; have hcz_2 : w3.cell? ⟨gb, 2, none⟩ = some (.slice A0_2 l0_2.length c0_2) := (zb BK.1 2).trans rfl; have hcz_3 : w3.cell? ⟨gb, 3, none⟩ = some (.int .i64 a0_3) := (zb BK.1 3).trans rfl; have hcz_4 : w3.cell? ⟨gb, 4, none⟩ = some (.int .i64 a0_4) := (zb BK.1 4).trans rfl; have hcz_5 : w3.cell? ⟨gb, 5, none⟩ = some (.int .i64 a0_5) := (zb BK.1 5).trans rfl; have hcz_6 : w3.cell? ⟨gb, 6, none⟩ = some (.slice A0_6 l0_6.length c0_6) := (zb BK.1 6).trans rfl; have hcz_7 : w3.cell? ⟨gb, 7, none⟩ = some (.slice A0_7 l0_7.length c0_7) := (zb BK.1 7).trans rfl) | (go_at_call 73; (first | ((with_reducible refine (impl_areRising.calls k _ _ l0_0 true _ (zg zH.1 (by repeat (first | (with_reducible first | exact HB.1 | apply zd | apply za | apply zc) | exact HB.1))) HC0_0.1 A1.1).mono ?_)) | ((with_reducible refine (impl_areRising.calls k _ _ l0_7 true _ (zg zI.1 (by repeat (first | (with_reducible first | exact HB.1 | apply zd | apply za | apply zc) | exact HB.1))) HC0_7.1 A2.1).mono ?_))); rintro e w4 ⟨rfl, hb⟩; have n0_ := Aside0.mk (zf (by repeat (first | (with_reducible first | exact HB.1 | apply zd | apply za | apply zc) | exact HB.1)) hb); have n1_ := Aside0.mk ((hb.block gb (zq BK.1)).trans BK.1); clear HB BK; have HB := n0_; have BK := n1_; clear n0_ n1_ hb; clear hcz_0 hcz_1 hcz_2 hcz_3 hcz_4 hcz_5 hcz_6 hcz_7; have hcz_0 : w4.cell? ⟨gb, 0, none⟩ = some (.slice A0_0 l0_0.length c0_0) := (zb BK.1 0).trans rfl; have hcz_1 : w4.cell? ⟨gb, 1, none⟩ = some (.int .i64 a0_1) := (zb BK.1 1).trans rfl; have hcz_2 : w4.cell? ⟨gb, 2, none⟩ = some (.slice A0_2 l0_2.length c0_2) := (zb BK.1 2).trans rfl; have hcz_3 : w4.cell? ⟨gb, 3, none⟩ = some (.int .i64 a0_3) := (zb BK.1 3).trans rfl; have hcz_4 : w4.cell? ⟨gb, 4, none⟩ = some (.int .i64 a0_4) := (zb BK.1 4).trans rfl; have hcz_5 : w4.cell? ⟨gb, 5, none⟩ = some (.int .i64 a0_5) := (zb BK.1 5).trans rfl; have hcz_6 : w4.cell? ⟨gb, 6, none⟩ = some (.slice A0_6 l0_6.length c0_6) := (zb BK.1 6).trans rfl; have hcz_7 : w4.cell? ⟨gb, 7, none⟩ = some (.slice A0_7 l0_7.length c0_7) := (zb BK.1 7).trans rfl) | (go_at_call 15; (with_reducible refine (impl_GoodAttrs.calls k a0_1 _ _ l0_2 a0_3 a0_4 a0_5 _ _ l0_6 true _ (zg zP.1 (by repeat (first | (with_reducible first | exact HB.1 | apply zd | apply za | apply zc) | exact HB.1))) HC0_2.1 (zg zQ.1 (by repeat (first | (with_reducible first | exact HB.1 | apply zd | apply za | apply zc) | exact HB.1))) HC0_6.1 A3.1).mono ?_); rintro e w4 ⟨rfl, hb⟩; have n0_ := Aside0.mk (zf (by repeat (first | (with_reducible first | exact HB.1 | apply zd | apply za | apply zc) | exact HB.1)) hb); have n1_ := Aside0.mk ((hb.block gb (zq BK.1)).trans BK.1); clear HB BK; have HB := n0_; have BK := n1_; clear n0_ n1_ hb; clear hcz_0 hcz_1 hcz_2 hcz_3 hcz_4 hcz_5 hcz_6 hcz_7; have hcz_0 : w4.cell? ⟨gb, 0, none⟩ = some (.slice A0_0 l0_0.length c0_0) := (zb BK.1 0).trans rfl; have hcz_1 : w4.cell? ⟨gb, 1, none⟩ = some (.int .i64 a0_1) := (zb BK.1 1).trans rfl; have hcz_2 : w4.cell? ⟨gb, 2, none⟩ = some (.slice A0_2 l0_2.length c0_2) := (zb BK.1 2).trans rfl; have hcz_3 : w4.cell? ⟨gb, 3, none⟩ = some (.int .i64 a0_3) := (zb BK.1 3).trans rfl; have hcz_4 : w4.cell? ⟨gb, 4, none⟩ = some (.int .i64 a0_4) := (zb BK.1 4).trans rfl; have hcz_5 : w4.cell? ⟨gb, 5, none⟩ = some (.int .i64 a0_5) := (zb BK.1 5).trans rfl; have hcz_6 : w4.cell? ⟨gb, 6, none⟩ = some (.slice A0_6 l0_6.length c0_6) := (zb BK.1 6).trans rfl; have hcz_7 : w4.cell? ⟨gb, 7, none⟩ = some (.slice A0_7 l0_7.length c0_7) := (zb BK.1 7).trans rfl) | (go_at_call 74; (with_reducible refine (impl_GoodUpdate_ct.calls k _ _ l0_0 l0_7 gb A0_7 c0_7 false _ (zg zH.1 (by repeat (first | (with_reducible first | exact HB.1 | apply zd | apply za | apply zc) | exact HB.1))) HC0_0.1 ?hs ⟨(zg zI.1 (by repeat (first | (with_reducible first | exact HB.1 | apply zd | apply za | apply zc) | exact HB.1)))⟩ HC0_7 A4.1).mono ?_); (case hs => exact (zb BK.1 7).trans rfl); rintro e w4 ⟨rfl, hb⟩; have n0_ := Aside0.mk (zf (by repeat (first | (with_reducible first | exact HB.1 | apply zd | apply za | apply zc) | exact HB.1)) hb); have n1_ := Aside0.mk ((hb.block gb (zq BK.1)).trans BK.1); clear HB BK; have HB := n0_; have BK := n1_; clear n0_ n1_ hb; clear hcz_0 hcz_1 hcz_2 hcz_3 hcz_4 hcz_5 hcz_6 hcz_7; have hcz_0 : w4.cell? ⟨gb, 0, none⟩ = some (.slice A0_0 l0_0.length c0_0) := (zb BK.1 0).trans rfl; have hcz_1 : w4.cell? ⟨gb, 1, none⟩ = some (.int .i64 a0_1) := (zb BK.1 1).trans rfl; have hcz_2 : w4.cell? ⟨gb, 2, none⟩ = some (.slice A0_2 l0_2.length c0_2) := (zb BK.1 2).trans rfl; have hcz_3 : w4.cell? ⟨gb, 3, none⟩ = some (.int .i64 a0_3) := (zb BK.1 3).trans rfl; have hcz_4 : w4.cell? ⟨gb, 4, none⟩ = some (.int .i64 a0_4) := (zb BK.1 4).trans rfl; have hcz_5 : w4.cell? ⟨gb, 5, none⟩ = some (.int .i64 a0_5) := (zb BK.1 5).trans rfl; have hcz_6 : w4.cell? ⟨gb, 6, none⟩ = some (.slice A0_6 l0_6.length c0_6) := (zb BK.1 6).trans rfl; have hcz_7 : w4.cell? ⟨gb, 7, none⟩ = some (.slice A0_7 l0_7.length c0_7) := (zb BK.1 7).trans rfl) | (go_at_call 77; (refine (impl_sameAttrs.calls k a0_1 _ _ l0_2 a0_3 a0_4 a0_5 _ _ l0_6 0 none 0 [] 0 0 0 none 0 [] r _ (zg zP.1 (by repeat (first | (with_reducible first | exact HB.1 | apply zd | apply za | apply zc) | exact HB.1))) HC0_2.1 (zg zQ.1 (by repeat (first | (with_reducible first | exact HB.1 | apply zd | apply za | apply zc) | exact HB.1))) HC0_6.1 (Kd.C_nil _ _) (Nat.le_refl _) (Kd.C_nil _ _) (Nat.le_refl _) A5.1).mono ?_); rintro e w4 ⟨rfl, hb⟩; have n0_ := Aside0.mk (zf (by repeat (first | (with_reducible first | exact HB.1 | apply zd | apply za | apply zc) | exact HB.1)) hb); have n1_ := Aside0.mk ((hb.block gb (zq BK.1)).trans BK.1); clear HB BK; have HB := n0_; have BK := n1_; clear n0_ n1_ hb; clear hcz_0 hcz_1 hcz_2 hcz_3 hcz_4 hcz_5 hcz_6 hcz_7; have hcz_0 : w4.cell? ⟨gb, 0, none⟩ = some (.slice A0_0 l0_0.length c0_0) := (zb BK.1 0).trans rfl; have hcz_1 : w4.cell? ⟨gb, 1, none⟩ = some (.int .i64 a0_1) := (zb BK.1 1).trans rfl; have hcz_2 : w4.cell? ⟨gb, 2, none⟩ = some (.slice A0_2 l0_2.length c0_2) := (zb BK.1 2).trans rfl; have hcz_3 : w4.cell? ⟨gb, 3, none⟩ = some (.int .i64 a0_3) := (zb BK.1 3).trans rfl; have hcz_4 : w4.cell? ⟨gb, 4, none⟩ = some (.int .i64 a0_4) := (zb BK.1 4).trans rfl; have hcz_5 : w4.cell? ⟨gb, 5, none⟩ = some (.int .i64 a0_5) := (zb BK.1 5).trans rfl; have hcz_6 : w4.cell? ⟨gb, 6, none⟩ = some (.slice A0_6 l0_6.length c0_6) := (zb BK.1 6).trans rfl; have hcz_7 : w4.cell? ⟨gb, 7, none⟩ = some (.slice A0_7 l0_7.length c0_7) := (zb BK.1 7).trans rfl))
        go_ret
        exact ⟨by first | rfl | (simp; done) | (simp [*]; done), by repeat (first | (with_reducible first | exact HB.1 | apply zd | apply za | apply zc) | exact HB.1)⟩
     ·
      replace c3 := Bool.eq_false_iff.mpr c3
      subst c3
      rw [if_neg (show ¬ (false = true) by decide)] at H
      obtain rfl := Option.some.inj H
      clear H
      go_enter Try.func30, Try.ntmps30
      go_wp2_with (first | ((with_reducible refine zk (N := 1) rfl ?_); refine zj ?hg (N := 1) ?hd (cs := #[.slice A0_0 l0_0.length c0_0, .int .i64 a0_1, .slice A0_2 l0_2.length c0_2, .int .i64 a0_3, .int .i64 a0_4, .int .i64 a0_5, .slice A0_6 l0_6.length c0_6, .slice A0_7 l0_7.length c0_7]) (t := 53) ?hr ?_; (case hd => rfl); (case hg => rfl); (case hr => first | (go_simp; done) | (go_simp; rfl)); intro gb hg w3 hbox hb; have n0_ := Aside0.mk (zf (by repeat (first | (with_reducible first | exact HB.1 | apply zd | apply za | apply zc) | exact HB.1)) hb); clear HB; have HB := n0_; clear n0_; have BK := Aside0.mk hbox; clear hb hbox hg; have hcz_0 : w3.cell? ⟨gb, 0, none⟩ = some (.slice A0_0 l0_0.length c0_0) := (zb BK.1 0).trans rfl; have hcz_1 : w3.cell? ⟨gb, 1, none⟩ = some (.int .i64 a0_1) := (zb BK.1 1).trans rfl; have hcz_2 : w3.cell? ⟨gb, 2, none⟩ = some (.slice A0_2 l0_2.length c0_2) := (zb BK.1 2).trans rfl; have hcz_3 : w3.cell? ⟨gb, 3, none⟩ = some (.int .i64 a0_3) := (zb BK.1 3).trans rfl; have hcz_4 : w3.cell? ⟨gb, 4, none⟩ = some (.int .i64 a0_4) := (zb BK.1 4).trans rfl; have hcz_5 : w3.cell? ⟨gb, 5, none⟩ = some (.int .i64 a0_5) := (zb BK.1 5).trans rfl; have hcz_6 : w3.cell? ⟨gb, 6, none⟩ = some (.slice A0_6 l0_6.length c0_6) := (zb BK.1 6).trans rfl; have hcz_7 : w3.cell? ⟨gb, 7, none⟩ = some (.slice A0_7 l0_7.length c0_7) := (zb BK.1 7).trans rfl) | (go_at_call 73; (first | ((with_reducible refine (impl_areRising.calls k _ _ l0_0 true _ (zg zH.1 (by repeat (first | (with_reducible first | exact HB.1 | apply zd | apply za | apply zc) | exact HB.1))) HC0_0.1 A1.1).mono ?_)) | ((with_reducible refine (impl_areRising.calls k _ _ l0_7 true _ (zg zI.1 (by repeat (first | (with_reducible first | exact HB.1 | apply zd | apply za | apply zc) | exact HB.1))) HC0_7.1 A2.1).mono ?_))); rintro e w4 ⟨rfl, hb⟩; have n0_ := Aside0.mk (zf (by repeat (first | (with_reducible first | exact HB.1 | apply zd | apply za | apply zc) | exact HB.1)) hb); have n1_ := Aside0.mk ((hb.block gb (zq BK.1)).trans BK.1); clear HB BK; have HB := n0_; have BK := n1_; clear n0_ n1_ hb; clear hcz_0 hcz_1 hcz_2 hcz_3 hcz_4 hcz_5 hcz_6 hcz_7; have hcz_0 : w4.cell? ⟨gb, 0, none⟩ = some (.slice A0_0 l0_0.length c0_0) := (zb BK.1 0).trans rfl; have hcz_1 : w4.cell? ⟨gb, 1, none⟩ = some (.int .i64 a0_1) := (zb BK.1 1).trans rfl; have hcz_2 : w4.cell? ⟨gb, 2, none⟩ = some (.slice A0_2 l0_2.length c0_2) := (zb BK.1 2).trans rfl; have hcz_3 : w4.cell? ⟨gb, 3, none⟩ = some (.int .i64 a0_3) := (zb BK.1 3).trans rfl; have hcz_4 : w4.cell? ⟨gb, 4, none⟩ = some (.int .i64 a0_4) := (zb BK.1 4).trans rfl; have hcz_5 : w4.cell? ⟨gb, 5, none⟩ = some (.int .i64 a0_5) := (zb BK.1 5).trans rfl; have hcz_6 : w4.cell? ⟨gb, 6, none⟩ = some (.slice A0_6 l0_6.length c0_6) := (zb BK.1 6).trans rfl; have hcz_7 : w4.cell? ⟨gb, 7, none⟩ = some (.slice A0_7 l0_7.length c0_7) := (zb BK.1 7).trans rfl) | (go_at_call 15; (with_reducible refine (impl_GoodAttrs.calls k a0_1 _ _ l0_2 a0_3 a0_4 a0_5 _ _ l0_6 false _ (zg zP.1 (by repeat (first | (with_reducible first | exact HB.1 | apply zd | apply za | apply zc) | exact HB.1))) HC0_2.1 (zg zQ.1 (by repeat (first | (with_reducible first | exact HB.1 | apply zd | apply za | apply zc) | exact HB.1))) HC0_6.1 A3.1).mono ?_); rintro e w4 ⟨rfl, hb⟩; have n0_ := Aside0.mk (zf (by repeat (first | (with_reducible first | exact HB.1 | apply zd | apply za | apply zc) | exact HB.1)) hb); have n1_ := Aside0.mk ((hb.block gb (zq BK.1)).trans BK.1); clear HB BK; have HB := n0_; have BK := n1_; clear n0_ n1_ hb; clear hcz_0 hcz_1 hcz_2 hcz_3 hcz_4 hcz_5 hcz_6 hcz_7; have hcz_0 : w4.cell? ⟨gb, 0, none⟩ = some (.slice A0_0 l0_0.length c0_0) := (zb BK.1 0).trans rfl; have hcz_1 : w4.cell? ⟨gb, 1, none⟩ = some (.int .i64 a0_1) := (zb BK.1 1).trans rfl; have hcz_2 : w4.cell? ⟨gb, 2, none⟩ = some (.slice A0_2 l0_2.length c0_2) := (zb BK.1 2).trans rfl; have hcz_3 : w4.cell? ⟨gb, 3, none⟩ = some (.int .i64 a0_3) := (zb BK.1 3).trans rfl; have hcz_4 : w4.cell? ⟨gb, 4, none⟩ = some (.int .i64 a0_4) := (zb BK.1 4).trans rfl; have hcz_5 : w4.cell? ⟨gb, 5, none⟩ = some (.int .i64 a0_5) := (zb BK.1 5).trans rfl; have hcz_6 : w4.cell? ⟨gb, 6, none⟩ = some (.slice A0_6 l0_6.length c0_6) := (zb BK.1 6).trans rfl; have hcz_7 : w4.cell? ⟨gb, 7, none⟩ = some (.slice A0_7 l0_7.length c0_7) := (zb BK.1 7).trans rfl))
      go_ret
      exact ⟨by first | rfl | (simp; done) | (simp [*]; done), by repeat (first | (with_reducible first | exact HB.1 | apply zd | apply za | apply zc) | exact HB.1)⟩
    ·
     replace c2 := Bool.eq_false_iff.mpr c2
     subst c2
     rw [if_neg (show ¬ (false = true) by decide)] at H
     obtain rfl := Option.some.inj H
     clear H
     go_enter Try.func30, Try.ntmps30
     go_wp2_with (first | ((with_reducible refine zk (N := 1) rfl ?_); refine zj ?hg (N := 1) ?hd (cs := #[.slice A0_0 l0_0.length c0_0, .int .i64 a0_1, .slice A0_2 l0_2.length c0_2, .int .i64 a0_3, .int .i64 a0_4, .int .i64 a0_5, .slice A0_6 l0_6.length c0_6, .slice A0_7 l0_7.length c0_7]) (t := 53) ?hr ?_; (case hd => rfl); (case hg => rfl); (case hr => first | (go_simp; done) | (go_simp; rfl)); intro gb hg w3 hbox hb; have n0_ := Aside0.mk (zf (by repeat (first | (with_reducible first | exact HB.1 | apply zd | apply za | apply zc) | exact HB.1)) hb); clear HB; have HB := n0_; clear n0_; have BK := Aside0.mk hbox; clear hb hbox hg; have hcz_0 : w3.cell? ⟨gb, 0, none⟩ = some (.slice A0_0 l0_0.length c0_0) := (zb BK.1 0).trans rfl; have hcz_1 : w3.cell? ⟨gb, 1, none⟩ = some (.int .i64 a0_1) := (zb BK.1 1).trans rfl; have hcz_2 : w3.cell? ⟨gb, 2, none⟩ = some (.slice A0_2 l0_2.length c0_2) := (zb BK.1 2).trans rfl; have hcz_3 : w3.cell? ⟨gb, 3, none⟩ = some (.int .i64 a0_3) := (zb BK.1 3).trans rfl; have hcz_4 : w3.cell? ⟨gb, 4, none⟩ = some (.int .i64 a0_4) := (zb BK.1 4).trans rfl; have hcz_5 : w3.cell? ⟨gb, 5, none⟩ = some (.int .i64 a0_5) := (zb BK.1 5).trans rfl; have hcz_6 : w3.cell? ⟨gb, 6, none⟩ = some (.slice A0_6 l0_6.length c0_6) := (zb BK.1 6).trans rfl; have hcz_7 : w3.cell? ⟨gb, 7, none⟩ = some (.slice A0_7 l0_7.length c0_7) := (zb BK.1 7).trans rfl) | (go_at_call 73; (first | ((with_reducible refine (impl_areRising.calls k _ _ l0_0 true _ (zg zH.1 (by repeat (first | (with_reducible first | exact HB.1 | apply zd | apply za | apply zc) | exact HB.1))) HC0_0.1 A1.1).mono ?_)) | ((with_reducible refine (impl_areRising.calls k _ _ l0_7 false _ (zg zI.1 (by repeat (first | (with_reducible first | exact HB.1 | apply zd | apply za | apply zc) | exact HB.1))) HC0_7.1 A2.1).mono ?_))); rintro e w4 ⟨rfl, hb⟩; have n0_ := Aside0.mk (zf (by repeat (first | (with_reducible first | exact HB.1 | apply zd | apply za | apply zc) | exact HB.1)) hb); have n1_ := Aside0.mk ((hb.block gb (zq BK.1)).trans BK.1); clear HB BK; have HB := n0_; have BK := n1_; clear n0_ n1_ hb; clear hcz_0 hcz_1 hcz_2 hcz_3 hcz_4 hcz_5 hcz_6 hcz_7; have hcz_0 : w4.cell? ⟨gb, 0, none⟩ = some (.slice A0_0 l0_0.length c0_0) := (zb BK.1 0).trans rfl; have hcz_1 : w4.cell? ⟨gb, 1, none⟩ = some (.int .i64 a0_1) := (zb BK.1 1).trans rfl; have hcz_2 : w4.cell? ⟨gb, 2, none⟩ = some (.slice A0_2 l0_2.length c0_2) := (zb BK.1 2).trans rfl; have hcz_3 : w4.cell? ⟨gb, 3, none⟩ = some (.int .i64 a0_3) := (zb BK.1 3).trans rfl; have hcz_4 : w4.cell? ⟨gb, 4, none⟩ = some (.int .i64 a0_4) := (zb BK.1 4).trans rfl; have hcz_5 : w4.cell? ⟨gb, 5, none⟩ = some (.int .i64 a0_5) := (zb BK.1 5).trans rfl; have hcz_6 : w4.cell? ⟨gb, 6, none⟩ = some (.slice A0_6 l0_6.length c0_6) := (zb BK.1 6).trans rfl; have hcz_7 : w4.cell? ⟨gb, 7, none⟩ = some (.slice A0_7 l0_7.length c0_7) := (zb BK.1 7).trans rfl))
     go_ret
     exact ⟨by first | rfl | (simp; done) | (simp [*]; done), by repeat (first | (with_reducible first | exact HB.1 | apply zd | apply za | apply zc) | exact HB.1)⟩
   ·
    replace c1 := Bool.eq_false_iff.mpr c1
    subst c1
    rw [if_neg (show ¬ (false = true) by decide)] at H
    obtain rfl := Option.some.inj H
    clear H
    go_enter Try.func30, Try.ntmps30
    go_wp2_with (first | ((with_reducible refine zk (N := 1) rfl ?_); refine zj ?hg (N := 1) ?hd (cs := #[.slice A0_0 l0_0.length c0_0, .int .i64 a0_1, .slice A0_2 l0_2.length c0_2, .int .i64 a0_3, .int .i64 a0_4, .int .i64 a0_5, .slice A0_6 l0_6.length c0_6, .slice A0_7 l0_7.length c0_7]) (t := 53) ?hr ?_; (case hd => rfl); (case hg => rfl); (case hr => first | (go_simp; done) | (go_simp; rfl)); intro gb hg w3 hbox hb; have n0_ := Aside0.mk (zf (by repeat (first | (with_reducible first | exact HB.1 | apply zd | apply za | apply zc) | exact HB.1)) hb); clear HB; have HB := n0_; clear n0_; have BK := Aside0.mk hbox; clear hb hbox hg; have hcz_0 : w3.cell? ⟨gb, 0, none⟩ = some (.slice A0_0 l0_0.length c0_0) := (zb BK.1 0).trans rfl; have hcz_1 : w3.cell? ⟨gb, 1, none⟩ = some (.int .i64 a0_1) := (zb BK.1 1).trans rfl; have hcz_2 : w3.cell? ⟨gb, 2, none⟩ = some (.slice A0_2 l0_2.length c0_2) := (zb BK.1 2).trans rfl; have hcz_3 : w3.cell? ⟨gb, 3, none⟩ = some (.int .i64 a0_3) := (zb BK.1 3).trans rfl; have hcz_4 : w3.cell? ⟨gb, 4, none⟩ = some (.int .i64 a0_4) := (zb BK.1 4).trans rfl; have hcz_5 : w3.cell? ⟨gb, 5, none⟩ = some (.int .i64 a0_5) := (zb BK.1 5).trans rfl; have hcz_6 : w3.cell? ⟨gb, 6, none⟩ = some (.slice A0_6 l0_6.length c0_6) := (zb BK.1 6).trans rfl; have hcz_7 : w3.cell? ⟨gb, 7, none⟩ = some (.slice A0_7 l0_7.length c0_7) := (zb BK.1 7).trans rfl) | (go_at_call 73; (first | ((with_reducible refine (impl_areRising.calls k _ _ l0_0 false _ (zg zH.1 (by repeat (first | (with_reducible first | exact HB.1 | apply zd | apply za | apply zc) | exact HB.1))) HC0_0.1 A1.1).mono ?_))); rintro e w4 ⟨rfl, hb⟩; have n0_ := Aside0.mk (zf (by repeat (first | (with_reducible first | exact HB.1 | apply zd | apply za | apply zc) | exact HB.1)) hb); have n1_ := Aside0.mk ((hb.block gb (zq BK.1)).trans BK.1); clear HB BK; have HB := n0_; have BK := n1_; clear n0_ n1_ hb; clear hcz_0 hcz_1 hcz_2 hcz_3 hcz_4 hcz_5 hcz_6 hcz_7; have hcz_0 : w4.cell? ⟨gb, 0, none⟩ = some (.slice A0_0 l0_0.length c0_0) := (zb BK.1 0).trans rfl; have hcz_1 : w4.cell? ⟨gb, 1, none⟩ = some (.int .i64 a0_1) := (zb BK.1 1).trans rfl; have hcz_2 : w4.cell? ⟨gb, 2, none⟩ = some (.slice A0_2 l0_2.length c0_2) := (zb BK.1 2).trans rfl; have hcz_3 : w4.cell? ⟨gb, 3, none⟩ = some (.int .i64 a0_3) := (zb BK.1 3).trans rfl; have hcz_4 : w4.cell? ⟨gb, 4, none⟩ = some (.int .i64 a0_4) := (zb BK.1 4).trans rfl; have hcz_5 : w4.cell? ⟨gb, 5, none⟩ = some (.int .i64 a0_5) := (zb BK.1 5).trans rfl; have hcz_6 : w4.cell? ⟨gb, 6, none⟩ = some (.slice A0_6 l0_6.length c0_6) := (zb BK.1 6).trans rfl; have hcz_7 : w4.cell? ⟨gb, 7, none⟩ = some (.slice A0_7 l0_7.length c0_7) := (zb BK.1 7).trans rfl))
    go_ret
    exact ⟨by first | rfl | (simp; done) | (simp [*]; done), by repeat (first | (with_reducible first | exact HB.1 | apply zd | apply za | apply zc) | exact HB.1)⟩

/-! ### impl_bytesOf: function 104 -/
def impl_bytesOf.l0 : Nat → Int → List Int → Int → Option (ByteArray)
 | 0, _, _, _ => none
 | k + 1, x0, x5, x6 => if x6 ≥ 0 then (if 0 ≤ (wrap64 (8 * x6)) then (if x5.length < 140737488355328 then (impl_bytesOf.l0 k x0 (x5 ++ [(shr .i64 x0 (wrap64 (8 * x6))) % 256]) (wrap64 (x6 - 1))) else (none)) else (none)) else (some (strOfNums x5))
def impl_bytesOf.f (k : Nat) (a0 : Int) (a1 : Int) : Option (ByteArray) := impl_bytesOf.l0 k a0 (([] : List Int)) (wrap64 (a1 - 1))
theorem impl_bytesOf.mono_l : ∀ k, (∀ y0 y1 y2, LeO (impl_bytesOf.l0 k y0 y1 y2) (impl_bytesOf.l0 (k + 1) y0 y1 y2))
 | 0 => fun _ _ _ r h => by simp [impl_bytesOf.l0] at h
 | k + 1 => by
  have ih0 := impl_bytesOf.mono_l k
  ·
   intro y0 y1 y2
   unfold impl_bytesOf.l0
   repeat' first
   | (with_reducible exact ih0 _ _ _)
   | (with_reducible exact zw _)
   | (with_reducible exact zp _)
   | (with_reducible refine zu ?_ ?_)
   | (with_reducible refine zo ?_ (fun _ => ?_))
   | exact ih0 _ _ _
   | exact zp _
   | refine zu ?_ ?_
   | refine zo ?_ (fun _ => ?_)
theorem impl_bytesOf.mono : ∀ a0 a1 k, LeO (impl_bytesOf.f k a0 a1) (impl_bytesOf.f (k + 1) a0 a1) := by
 intro a0 a1 k
 have ih0 := impl_bytesOf.mono_l k
 unfold impl_bytesOf.f
 repeat' first
   | (with_reducible exact ih0 _ _ _)
   | (with_reducible exact zw _)
   | (with_reducible exact zp _)
   | (with_reducible refine zu ?_ ?_)
   | (with_reducible refine zo ?_ (fun _ => ?_))
   | exact ih0 _ _ _
   | exact zp _
   | refine zu ?_ ?_
   | refine zo ?_ (fun _ => ?_)
set_option maxHeartbeats 8000000 in
set_option maxRecDepth 100000 in
theorem impl_bytesOf.calls (k : Nat) (a0 : Int) (a1 : Int) (r : ByteArray) (w : World) (h : impl_bytesOf.f k a0 a1 = some r) :
  Calls Try.prog 104 #[.int .i64 a0, .int .i64 a1] w fun e w' => e = .returned (.string r) ∧ Below w.heap.size w w' := by
 have HB := Aside0.mk (Below.refl w.heap.size w)
 have H : (impl_bytesOf.l0 k a0 (([] : List Int)) (wrap64 (a1 - 1))) = some r := h
 clear h
 obtain ⟨y279, hy279⟩ : ∃ y_ : List Int, y_ = (([] : List Int)) := ⟨_, rfl⟩
 replace H : (impl_bytesOf.l0 k a0 y279 (wrap64 (a1 - 1))) = some r := by first | (rw [hy279]; with_reducible exact H) | (have H2_ := (Option.bind_some _ _).symm.trans H; rw [hy279]; with_reducible exact H2_) | (have H2_ := (Option.bind_some _ _).symm.trans H; with_reducible exact H2_) | with_reducible exact H | (rw [hy279]; exact H) | exact H
 have Ny279 := Aside0.mk hy279
 clear hy279
 have H' := Aside0.mk H
 clear H
 go_enter Try.func104, Try.ntmps104
 go_wp2_with (first | ((with_reducible refine zk (N := 7) rfl ?_); refine Kd.R_lit (zy .u8) _ 5 ?hg (N := 7) ?hd (xs := ([] : List Int)) (inner := []) (ok := fun _ => True) (okp := fun _ => True) ?hr ?hp (fun _ hk => hk) trivial (Below.refl _ _) (Nat.le_refl _) (by simp) ?_; (case hd => rfl); (case hg => rfl); (case hr => first | (go_simp; done) | (go_simp; rfl)); (case hp => exact (Reps.none _ _)); intro v280 w3 ho4 hb hg_ hnew_; clear hg_ hnew_; (first | rw [← Ny279.1] at ho4 | (simp only [Int.reduceToNat] at ho4; rw [← Ny279.1] at ho4)); have n0_ := Aside0.mk (Kd.R_lower ho4 (zi (by repeat (first | (with_reducible first | exact HB.1 | apply zd | apply za | apply zc) | exact HB.1)))); have n1_ := Aside0.mk (zf (by repeat (first | (with_reducible first | exact HB.1 | apply zd | apply za | apply zc) | exact HB.1)) hb); clear HB; have HO281 := n0_; have HB := n1_; clear n0_ n1_; clear hb ho4))
 go_loopg [5, 6] k (fun kq v5 v6 w' => ∃ (x5_1 : List Int) (x6_1 : Int), v6 = .int .i64 x6_1 ∧ zv (impl_bytesOf.l0 kq a0 x5_1 x6_1 = some r) ∧ zv (kq ≤ k) ∧ zv (Kd.R (zy .u8) 5 w' w.heap.size (fun _ => True) v5 x5_1) ∧ zv (Below w.heap.size w w'))
 case atStart => exact ⟨(y279), (wrap64 (a1 - 1)), (by first | rfl | (simp; done) | (simp [*]; done)), H', ⟨Nat.le_refl _⟩, ⟨by (with_reducible repeat (first | apply Kd.R_alloc | apply Kd.R_drewN | apply Kd.R_drew)); exact HO281.1⟩, ⟨by repeat (first | (with_reducible first | exact HB.1 | apply zd | apply za | apply zc) | exact HB.1)⟩⟩
 case round =>
  clear H'
  (try clear c1); (try clear p2)
  obtain ⟨x5_1, x6_1, rfl, HA, HK1, HO_5, HB⟩ := hrel
  cases gk with
  | zero => exact absurd HA.1 (by simp [impl_bytesOf.l0])
  | succ k1 =>
   have H := HA.1
   clear HA
   simp only [impl_bytesOf.l0] at H
   by_cases c5 : x6_1 ≥ 0
   ·
    rw [if_pos c5] at H
    have c5b0 : decide (0 ≤ x6_1) = true := decide_eq_true c5
    clear c5
    obtain ⟨ji6, hji6⟩ : ∃ j_ : Int, (wrap64 (8 * x6_1)) = j_ := ⟨_, rfl⟩
    replace H : (if 0 ≤ (ji6) then (if x5_1.length < 140737488355328 then (impl_bytesOf.l0 k1 a0 (x5_1 ++ [(shr .i64 a0 (ji6)) % 256]) (wrap64 (x6_1 - 1))) else (none)) else (none)) = some r := by first | (rw [hji6] at H; exact H) | (simp only [hji6] at H ⊢; exact H)
    have hji6w : (IntKind.i64.wrap (8 * x6_1)) = ji6 := (i64_w _).trans hji6
    by_cases c7 : 0 ≤ (ji6)
    ·
     rw [if_pos c7] at H
     have c7b0 := eq_true c7
     have c7b1 : decide (0 ≤ (ji6)) = true := decide_eq_true c7
     clear c7
     obtain ⟨ji8, hji8⟩ : ∃ j_ : Int, (shr .i64 a0 (ji6)) = j_ := ⟨_, rfl⟩
     replace H : (if x5_1.length < 140737488355328 then (impl_bytesOf.l0 k1 a0 (x5_1 ++ [(ji8) % 256]) (wrap64 (x6_1 - 1))) else (none)) = some r := by first | (rw [hji8] at H; exact H) | (simp only [hji8] at H ⊢; exact H)
     have hji8_ : (a0 / 2 ^ min (ji6).toNat 64) = ji8 := hji8
     have hji8z : (ji6) ≤ 64 → (a0 / 2 ^ (ji6).toNat) = ji8 := shr_small hji8
     by_cases c9 : x5_1.length < 140737488355328
     ·
      rw [if_pos c9] at H
      have LMc9 := Aside0.mk c9
      clear c9
      obtain ⟨y282, hy282⟩ : ∃ y_ : List Int, y_ = (x5_1 ++ [(ji8) % 256]) := ⟨_, rfl⟩
      replace H : (impl_bytesOf.l0 k1 a0 y282 (wrap64 (x6_1 - 1))) = some r := by first | (rw [hy282]; with_reducible exact H) | (have H2_ := (Option.bind_some _ _).symm.trans H; rw [hy282]; with_reducible exact H2_) | (have H2_ := (Option.bind_some _ _).symm.trans H; with_reducible exact H2_) | with_reducible exact H | (rw [hy282]; exact H) | exact H
      have Ny282 := Aside0.mk hy282
      clear hy282
      have H' := Aside0.mk H
      clear H
      go_wp2_with (first | ((with_reducible refine gate_builtin (b := .append) (xs := #[.tmp 14, .tmp 20]) rfl ?_); at_builtin; refine Kd.R_append (zy .u8) (w0 := w) w.heap.size rfl (.tmp 14) (.tmp 20) 62 5 (.int .u8 0) 1 rfl Try.underlying62 info5 rfl (by decide) (by omega) u5 x5_1 ((ji8) % 256) [.int .u8 ((ji8) % 256)] (fun _ => True) (fun _ => False) rfl rfl ?aP (fun _ hk => hk.elim) ?aF ?aO ?aB ?aS ?aL ?_; (case aP => exact rfl); (case aB => exact (by repeat (first | (with_reducible first | exact HB.1 | apply zd | apply za | apply zc) | exact HB.1))); (case aF => exact (fun _ _ => trivial)); (case aO => exact (by (with_reducible repeat (first | apply Kd.R_alloc | apply Kd.R_drewN | apply Kd.R_drew)); exact HO_5.1)); (case aS => exact (zi (by repeat (first | (with_reducible first | exact HB.1 | apply zd | apply za | apply zc) | exact HB.1)))); (case aL => have := LMc9.1; omega); intro v283 w10 ho hb hg hat; rw [← Ny282.1] at ho; have n0_ := Aside0.mk (hb); have n1_ := Aside0.mk (ho); clear HB; clear HO_5; have HB := n0_; have HO284 := n1_; clear n0_ n1_; clear ho hb hg hat))
      go_roundg k1
      case measure => have := HK1.1; omega
      case rel => exact ⟨(y282), (wrap64 (x6_1 - 1)), (by first | rfl | (simp; done) | (simp [*]; done)), H', ⟨by have := HK1.1; omega⟩, ⟨by (with_reducible repeat (first | apply Kd.R_alloc | apply Kd.R_drewN | apply Kd.R_drew)); exact HO284.1⟩, ⟨by repeat (first | (with_reducible first | exact HB.1 | apply zd | apply za | apply zc) | exact HB.1)⟩⟩
     ·
      rw [if_neg c9] at H
      exact absurd H (by simp)
    ·
     rw [if_neg c7] at H
     exact absurd H (by simp)
   ·
    rw [if_neg c5] at H
    have c5b0 : decide (0 ≤ x6_1) = false := decide_eq_false c5
    clear c5
    obtain rfl := Option.some.inj H
    have hcv11 := own_string (P := Try.prog) Try.underlying62 Try.underlying5 Try.underlying9 (Kd.own_of_R HO_5.1)
    go_wp2
    go_ret
    exact ⟨by first | rfl | (simp [errW_none, errW_some] <;> rfl) | (simp [*, errW_none, errW_some] <;> rfl), by repeat (first | (with_reducible first | exact HB.1 | apply zd | apply za | apply zc) | exact HB.1)⟩

end Go.Proofs.Ytlnfcobloolnnaa.PFnExactUpdateBytes
