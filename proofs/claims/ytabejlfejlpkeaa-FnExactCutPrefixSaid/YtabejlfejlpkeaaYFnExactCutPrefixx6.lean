/- Written by this session's own program over the kit's print: Lean functions that tell what Go functions answer, each with a proof that the call does so. No condition but what each statement says. -/
import Derived.Test.YtabejlfejlpkeaaYFnExactCutPrefixx0
import Derived.Test.YtabejlfejlpkeaaYFnExactCutPrefixx3
import Derived.Test.YtabejlfejlpkeaaYFnExactCutPrefixx4
import Derived.Test.YtabejlfejlpkeaaYFnExactCutPrefixx5
namespace Go.Proofs.Ytabejlfejlpkeaa.PFnExactCutPrefix
open Go.RowKit Go.Proofs.YtabejlfejlpkeaaW.PrintWords Go.Proofs.YtabejlfejlpkeaaW.PrintLast Go.Proofs.YtabejlfejlpkeaaW.PrintMore
open Go.Proofs.YtabejlfejlpkeaaW.PrintLast renaming goesL_ → zF, i64_w → zH, i32_w → zI
open Go.Proofs.YtabejlfejlpkeaaW.PrintWords renaming blk_drewN → za, blk_alloc → zb, pw_below_drewN → zc, blk_drew → zd, below_set → ze, below_drew1 → zf, below_alloc → zg, blk_cell → zh, blk_frozen → zi, blk_below → zl, below_size → zo, below_step → zp, Aside0 → zq, gate_callee → zr, blk_far → zs, blk_lt → zv, box_event → zw, gate_dst → zA, blk_put → zC
open Go.Proofs.YtabejlfejlpkeaaW.PrintWords.Kd renaming R_drewN → zj, R_alloc → zk, R_mono → zm, R_drew → zn, R_far → zt, R_newB → zu, R_away → zz, freshB → zD, R_slice → zE
open Go.Proofs.YtabejlfejlpkeaaW.PrintWords.LeO renaming none → zx, bind → zy, ite → zB, refl → zG
attribute [local go_sem] max2_int min2_int max_two min_two max_three min_three max_four min_four   -- for this text's walks alone
set_option linter.unusedVariables false
set_option linter.unusedSimpArgs false

/-! ### spec_l3Fewest: function 61 -/
def spec_l3Fewest.l0 : Nat → List (S45) → List (S45) → Int → Int → Option ((List (S45)))
 | 0, _, _, _, _ => none
 | k + 1, x3, x6, x7, x8 => if x8 < x7 then (if 0 ≤ x8 then (if x8 < (x6.length : Int) then ((spec_l3Put.f k x3 ((rd_T45 x6 x8).f0) ((rd_T45 x6 x8).f1)).bind fun t212 => (spec_l3Fewest.l0 k t212 x6 x7 (wrap64 (x8 + 1)))) else (none)) else (none)) else (some x3)
def spec_l3Fewest.f (k : Nat) (l0 : List (S45)) : Option ((List (S45))) := spec_l3Fewest.l0 k ([] : List (S45)) l0 (l0.length : Int) 0
theorem spec_l3Fewest.mono_l : ∀ k, (∀ y0 y1 y2 y3, LeO (spec_l3Fewest.l0 k y0 y1 y2 y3) (spec_l3Fewest.l0 (k + 1) y0 y1 y2 y3))
 | 0 => fun _ _ _ _ r h => by simp [spec_l3Fewest.l0] at h
 | k + 1 => by
  have ih0 := spec_l3Fewest.mono_l k
  ·
   intro y0 y1 y2 y3
   unfold spec_l3Fewest.l0
   repeat' first
   | (with_reducible exact ih0 _ _ _ _)
   | (with_reducible exact spec_l3Put.mono _ _ _ _)
   | (with_reducible exact zG _)
   | (with_reducible exact zx _)
   | (with_reducible refine zB ?_ ?_)
   | (with_reducible refine zy ?_ (fun _ => ?_))
   | exact ih0 _ _ _ _
   | exact spec_l3Put.mono _ _ _ _
   | exact zx _
   | refine zB ?_ ?_
   | refine zy ?_ (fun _ => ?_)
theorem spec_l3Fewest.mono : ∀ a0 k, LeO (spec_l3Fewest.f k a0) (spec_l3Fewest.f (k + 1) a0) := by
 intro a0 k
 have ih0 := spec_l3Fewest.mono_l k
 unfold spec_l3Fewest.f
 repeat' first
   | (with_reducible exact ih0 _ _ _ _)
   | (with_reducible exact spec_l3Put.mono _ _ _ _)
   | (with_reducible exact zG _)
   | (with_reducible exact zx _)
   | (with_reducible refine zB ?_ ?_)
   | (with_reducible refine zy ?_ (fun _ => ?_))
   | exact ih0 _ _ _ _
   | exact spec_l3Put.mono _ _ _ _
   | exact zx _
   | refine zB ?_ ?_
   | refine zy ?_ (fun _ => ?_)
set_option maxHeartbeats 8000000 in
set_option maxRecDepth 100000 in
theorem spec_l3Fewest.calls (k : Nat) (A0 : Option Addr) (c0 : Nat) (l0 : List (S45)) (r : List (S45)) (w : World) (hr0 : Kd.C k45 w A0 l0.length l0) (hc0 : l0.length ≤ c0) (h : spec_l3Fewest.f k l0 = some r) :
  Calls Try.prog 61 #[.slice A0 l0.length c0] w fun e w' => ∃ v0_ : Value, e = .returned (v0_) ∧ Kd.R k45 45 w' w.heap.size (fun _ => True) v0_ r ∧ Below w.heap.size w w' := by
 have hu45 := Try.underlying45
 have HR0 := Aside0.mk hr0
 have HC0 := Aside0.mk hc0
 clear hr0 hc0
 have HB := Aside0.mk (Below.refl w.heap.size w)
 have H : (spec_l3Fewest.l0 k ([] : List (S45)) l0 (l0.length : Int) 0) = some r := h
 clear h
 have H' := Aside0.mk H
 clear H
 go_enter Try.func61, Try.ntmps61
 go_wp2
 go_loopg [3, 8] k (fun kq v3 v8 w' => ∃ (x3_1 : List (S45)) (x8_1 : Int), v8 = .int .i64 x8_1 ∧ zq (spec_l3Fewest.l0 kq x3_1 l0 (l0.length : Int) x8_1 = some r) ∧ zq (kq ≤ k) ∧ zq (Kd.R k45 45 w' w.heap.size (fun _ => True) v3 x3_1) ∧ zq (Below w.heap.size w w'))
 case atStart => exact ⟨(([] : List (S45))), (0), (by first | rfl | (simp; done) | (simp [*]; done)), H', ⟨Nat.le_refl _⟩, ⟨by first | exact Kd.R_nil _ _ _ _ _ | exact Kd.N_nil _ _ _ _ _ | exact Kd.V_nil _ _ _ _ _ | exact Kd.Q_nil _ _ _ _ _ | exact Kd.S_nil _ _ _ _ _⟩, ⟨by repeat (first | (with_reducible first | exact HB.1 | apply zg | apply zc | apply zf) | exact HB.1)⟩⟩
 case round =>
  clear H'
  obtain ⟨x3_1, x8_1, rfl, HA, HK1, HO_3, HB⟩ := hrel
  cases gk with
  | zero => exact absurd HA.1 (by simp [spec_l3Fewest.l0])
  | succ k1 =>
   have H := HA.1
   clear HA
   simp only [spec_l3Fewest.l0] at H
   by_cases c2 : x8_1 < (l0.length : Int)
   ·
    rw [if_pos c2] at H
    have c2b0 : decide (x8_1 < (l0.length : Int)) = true := decide_eq_true c2
    clear c2
    by_cases c3 : 0 ≤ x8_1
    ·
     rw [if_pos c3] at H
     have c3b0 : decide (0 ≤ x8_1) = true := decide_eq_true c3
     clear c3
     by_cases c4 : x8_1 < (l0.length : Int)
     ·
      rw [if_pos c4] at H
      have c4b0 : decide (x8_1 < (l0.length : Int)) = true := decide_eq_true c4
      clear c4
      replace H := Option.bind_eq_some_iff.mp H
      obtain ⟨t212, A50, H⟩ := H
      replace H : (spec_l3Fewest.l0 k1 t212 l0 (l0.length : Int) (wrap64 (x8_1 + 1))) = some r := H
      have A5 := Aside0.mk A50
      clear A50
      have H' := Aside0.mk H
      clear H
      have p210 : 0 ≤ (x8_1 : Int) := of_decide_eq_true (by first | (with_reducible assumption) | assumption)
      have q210 : x8_1 < (l0.length : Int) := of_decide_eq_true (by first | (with_reducible assumption) | assumption)
      obtain ⟨ad210, e210, hx210_0, hx210_1⟩ := at_T45 HR0.1 x8_1 p210 q210
      cases e210
      replace hx210_0 := (HB.1.cell (World.block_lt_of_cell? w _ hx210_0)).trans hx210_0
      replace hx210_1 := (HB.1.cell (World.block_lt_of_cell? w _ hx210_1)).trans hx210_1
      replace p210 := eq_true p210
      replace q210 := eq_true q210
      go_wp2_with (first | ((with_reducible refine zA (N := 5) rfl ?_); refine zw ?hg (N := 5) ?hd (cs := #[.int .i64 0, .int .i64 0]) (t := 45) ?hr ?_; (case hd => rfl); (case hg => rfl); (case hr => first | (go_simp; done) | (go_simp; rfl)); intro gb211 hg w6 hbox hb; have n0_ := Aside0.mk (Kd.R_below (Kd.R_elderB (by (with_reducible repeat (first | apply zk | apply zj | apply zn)); exact HO_3.1) gb211 (Nat.le_of_eq hg.symm)) hb); have n1_ := Aside0.mk (zp (by repeat (first | (with_reducible first | exact HB.1 | apply zg | apply zc | apply zf) | exact HB.1)) hb); have n2_ := Aside0.mk (hbox); have n3_ := Aside0.mk ((by rw [hg]; exact (zo (by repeat (first | (with_reducible first | exact HB.1 | apply zg | apply zc | apply zf) | exact HB.1))) : w.heap.size ≤ gb211)); have n4_ := Aside0.mk ((by rw [hg]; exact (zo (by repeat (first | (with_reducible first | exact HB.1 | apply zg | apply zc | apply zf) | exact HB.1))) : w.heap.size ≤ gb211)); clear HO_3; clear HB; have HO_3 := n0_; have HB := n1_; have zV := n2_; have GW211 := n3_; have GE211 := n4_; clear n0_ n1_ n2_ n3_ n4_; clear hb hbox hg; have hcz7_0 : w6.cell? ⟨gb211, 0, none⟩ = some (.int .i64 0) := (zh zV.1 0).trans rfl; have hcz7_1 : w6.cell? ⟨gb211, 1, none⟩ = some (.int .i64 0) := (zh zV.1 1).trans rfl; have hfz7_0 := zi zV.1 0; have hfz7_1 := zi zV.1 1) | ((with_reducible refine gate_store (t := 45) (p := 5) rfl ?_); refine store_event (t := 45) (p := 5) (v := ?vo_w8) (w1 := ((w6.setCell ⟨gb211, 0, none⟩ (.int .i64 ((rd_T45 l0 x8_1).f0))).setCell ⟨gb211, 1, none⟩ (.int .i64 ((rd_T45 l0 x8_1).f1)))) ?hg ?ho ?hn ?hr ?_; (case ho => rfl); (case hg => rfl); (case hn => rfl); (case hr => first | (go_simp; done) | (go_simp; rfl)); intro w8 hw; have n0_ : zq (Kd.R k45 45 w8 w.heap.size (fun k_ => k_ ≠ gb211) u3 x3_1) := ⟨(by rw [hw]; exact (by (with_reducible repeat (first | apply zk | apply zj | apply zn)); exact zm (zt (p := ⟨gb211, 1, none⟩) (zt (p := ⟨gb211, 0, none⟩) (zm HO_3.1 (fun k_ hk => (⟨hk, hk.2⟩ : _ ∧ k_ ≠ gb211))) (fun _ hk => hk.2) (.int .i64 ((rd_T45 l0 x8_1).f0))) (fun _ hk => hk.2) (.int .i64 ((rd_T45 l0 x8_1).f1))) (fun _ hk => hk.1.2)))⟩; have n1_ : zq (w8.heap[gb211]? = some (.cells #[.int .i64 ((rd_T45 l0 x8_1).f0), .int .i64 ((rd_T45 l0 x8_1).f1)] 45 (0, 0))) := ⟨(by rw [hw]; exact (by (with_reducible repeat (first | refine za ?_ _ | refine zd ?_ | refine zb ?_ _)); refine zC (cs := #[.int .i64 ((rd_T45 l0 x8_1).f0), .int .i64 0]) ?_ 1 _ rfl; (with_reducible repeat (first | refine za ?_ _ | refine zd ?_ | refine zb ?_ _)); refine zC (cs := #[.int .i64 0, .int .i64 0]) ?_ 0 _ rfl; (with_reducible repeat (first | refine za ?_ _ | refine zd ?_ | refine zb ?_ _)); exact zV.1))⟩; have n2_ : zq (Below w.heap.size w w8) := ⟨(by rw [hw]; exact (by repeat (first | (with_reducible first | exact HB.1 | apply zg | apply zc | apply zf | refine ze ?_ GE211.1) | exact HB.1)))⟩; clear hw; clear HO_3; clear zV; clear HB; have HO_3 := n0_; have zV := n1_; have HB := n2_; clear n0_ n1_ n2_; have qh : w8.cell? ⟨gb211, 0, none⟩ = some (.int .i64 ((rd_T45 l0 x8_1).f0)) := (zh zV.1 0).trans rfl; have qi : w8.cell? ⟨gb211, 1, none⟩ = some (.int .i64 ((rd_T45 l0 x8_1).f1)) := (zh zV.1 1).trans rfl; have qj := zi zV.1 0; have qk := zi zV.1 1; obtain ⟨Ao10, co10, eo10⟩ := zE HO_3.1; subst eo10) | ((with_reducible refine zr (f := 66) rfl ?_); refine zF (some 14) rfl rfl Try.func66 (by kernel_rfl) rfl #[.slice Ao10 x3_1.length co10, .agg #[.int .i64 ((rd_T45 l0 x8_1).f0), .int .i64 ((rd_T45 l0 x8_1).f1)]] rfl (by (try simp only [List.map_toArray, List.map_cons, List.map_nil]); first | done | rfl | (simp only [List.length_drop, List.length_take]; rfl)) ?_; (with_reducible refine (spec_l3Put.calls k1 (fun k_ => some k_ = (.slice Ao10 x3_1.length co10 : Value).ownBlock) (.slice Ao10 x3_1.length co10) x3_1 ((rd_T45 l0 x8_1).f0) ((rd_T45 l0 x8_1).f1) t212 w _ ?side1 ?side2 A5.1).mono ?_); (case side1 => repeat (first | (with_reducible first | exact HB.1 | apply zg | apply zc | apply zf | refine ze ?_ GE211.1) | exact HB.1)); (case side2 => exact Kd.R_tight rfl HO_3.1); rintro e w11 ⟨v213, rfl, ho0, hb, hkp⟩; refine ⟨_, rfl, ?_⟩; have n0_ := Aside0.mk (blk_kept (by (with_reducible repeat (first | refine za ?_ _ | refine zd ?_ | refine zb ?_ _)); exact zV.1) hkp (fun hs_ => (fun e_ => (zz HO_3.1 (fun _ hk => hk)) e_) hs_)); have n1_ := Aside0.mk (zm (ok' := fun k_ => k_ ≠ gb211) ho0 (fun k_ hk_ => Or.elim hk_ (fun hs_ => fun e_ => (zz HO_3.1 (fun _ hk => hk)) (by rw [← e_]; exact hs_)) (fun hn_ => (zD (g := gb211) (o := .cells #[.int .i64 ((rd_T45 l0 x8_1).f0), .int .i64 ((rd_T45 l0 x8_1).f1)] 45 (0, 0)) (by (with_reducible repeat (first | refine za ?_ _ | refine zd ?_ | refine zb ?_ _)); exact zV.1) k_ hn_)))); have n2_ := Aside0.mk (hb); clear zV; clear HB; clear HO_3; have zV := n0_; have HO214 := n1_; have HB := n2_; clear n0_ n1_ n2_; (try clear hb); (try clear hkp); (try clear ho0)))
      go_roundg k1
      case measure => have := HK1.1; omega
      case rel => exact ⟨(t212), (wrap64 (x8_1 + 1)), (by first | rfl | (simp; done) | (simp [*]; done)), H', ⟨by have := HK1.1; omega⟩, ⟨by (with_reducible repeat (first | apply zk | apply zj | apply zn)); exact zm HO214.1 (fun _ hk => trivial)⟩, ⟨by repeat (first | (with_reducible first | exact HB.1 | apply zg | apply zc | apply zf | refine ze ?_ GE211.1) | exact HB.1)⟩⟩
     ·
      rw [if_neg c4] at H
      exact absurd H (by simp)
    ·
     rw [if_neg c3] at H
     exact absurd H (by simp)
   ·
    rw [if_neg c2] at H
    have c2b0 : decide (x8_1 < (l0.length : Int)) = false := decide_eq_false c2
    clear c2
    obtain rfl := Option.some.inj H
    go_wp2
    go_ret
    exact ⟨_, by first | rfl | (simp [errW_none, errW_some] <;> rfl) | (simp [*, errW_none, errW_some] <;> rfl), by (with_reducible repeat (first | apply zk | apply zj | apply zn)); exact HO_3.1, by repeat (first | (with_reducible first | exact HB.1 | apply zg | apply zc | apply zf) | exact HB.1)⟩

/-! ### spec_l3Without: function 69 -/
def spec_l3Without.f : Nat → Int → Int → Int → Int → Option ((List (S45)))
 | 0, _, _, _, _ => none
 | k + 1, a0_0, a0_1, a1_0, a1_1 => (spec_l1Covers.f a1_0 a1_1 a0_0 a0_1).bind fun t217 => (if t217 = true then (some ([] : List (S45))) else ((spec_l1Covers.f a0_0 a0_1 a1_0 a1_1).bind fun t218 => (if t218 = true then ((spec_l1Halves.f a0_0 a0_1).bind fun bt219 => ((spec_l3Without.f k bt219.1 bt219.2.1 a1_0 a1_1).bind fun t225 => ((spec_l3Without.f k bt219.2.2.1 bt219.2.2.2 a1_0 a1_1).bind fun t228 => (if t225.length + t228.length < 8796093022208 then (some (t225 ++ t228)) else (none))))) else (some (([(⟨a0_0, a0_1⟩ : S45)] : List (S45)))))))
theorem spec_l3Without.mono_l : ∀ k, (∀ y0 y1 y2 y3, LeO (spec_l3Without.f k y0 y1 y2 y3) (spec_l3Without.f (k + 1) y0 y1 y2 y3))
 | 0 => fun _ _ _ _ r h => by simp [spec_l3Without.f] at h
 | k + 1 => by
  have ih0 := spec_l3Without.mono_l k
  ·
   intro y0 y1 y2 y3
   unfold spec_l3Without.f
   repeat' first
   | (with_reducible exact ih0 _ _ _ _)
   | (with_reducible exact zG _)
   | (with_reducible exact zx _)
   | (with_reducible refine zB ?_ ?_)
   | (with_reducible refine zy ?_ (fun _ => ?_))
   | exact ih0 _ _ _ _
   | exact zx _
   | refine zB ?_ ?_
   | refine zy ?_ (fun _ => ?_)
theorem spec_l3Without.mono : ∀ a0 a1 a2 a3 k, LeO (spec_l3Without.f k a0 a1 a2 a3) (spec_l3Without.f (k + 1) a0 a1 a2 a3) := by
 intro a0 a1 a2 a3 k
 have ih0 := spec_l3Without.mono_l k
 exact ih0 a0 a1 a2 a3
def spec_l3Without.T6 : Bool × List (List Nat × List Nat) := (true, [([], []), ([], []), ([0, 1], [0, 1]), ([], []), ([], []), ([3, 4, 2], [3, 4]), ([2, 5, 5], [2, 5]), ([6, 6, 0, 1, 2, 3, 4, 5, 6], [6])])
def spec_l3Without.B6 : List Nat := [0, 0, 3, 0, 0, 31, 63, 127]
theorem spec_l3Without.tab6 : rtab .any (opsOf Try.f69 6) = spec_l3Without.T6 := by kernel_rfl
theorem spec_l3Without.bits6 : waitsOk spec_l3Without.T6.2 spec_l3Without.B6 = true := by kernel_rfl
set_option maxHeartbeats 8000000 in
set_option maxRecDepth 100000 in
theorem spec_l3Without.calls (k : Nat) : ∀ (a0_0 : Int) (a0_1 : Int) (a1_0 : Int) (a1_1 : Int) (r : List (S45)) (w : World) (h : spec_l3Without.f k a0_0 a0_1 a1_0 a1_1 = some r),
  Calls Try.prog 69 #[.agg #[.int .i64 a0_0, .int .i64 a0_1], .agg #[.int .i64 a1_0, .int .i64 a1_1]] w fun e w' => ∃ v0_ : Value, e = .returned (v0_) ∧ Kd.R k45 45 w' w.heap.size (fun _ => True) v0_ r ∧ Below w.heap.size w w' := by
 induction k using Nat.strongRecOn with
 | _ k ih =>
 intro a0_0 a0_1 a1_0 a1_1 r w h
 cases k with
 | zero => exact absurd h (by simp [spec_l3Without.f])
 | succ k =>
 simp only [spec_l3Without.f] at h
 have hu45 := Try.underlying45
 have HB := Aside0.mk (Below.refl w.heap.size w)
 have H : ((spec_l1Covers.f a1_0 a1_1 a0_0 a0_1).bind fun t217 => (if t217 = true then (some ([] : List (S45))) else ((spec_l1Covers.f a0_0 a0_1 a1_0 a1_1).bind fun t218 => (if t218 = true then ((spec_l1Halves.f a0_0 a0_1).bind fun bt219 => ((spec_l3Without.f k bt219.1 bt219.2.1 a1_0 a1_1).bind fun t225 => ((spec_l3Without.f k bt219.2.2.1 bt219.2.2.2 a1_0 a1_1).bind fun t228 => (if t225.length + t228.length < 8796093022208 then (some (t225 ++ t228)) else (none))))) else (some (([(⟨a0_0, a0_1⟩ : S45)] : List (S45)))))))) = some r := h
 clear h
 replace H := Option.bind_eq_some_iff.mp H
 obtain ⟨t217, A30, H⟩ := H
 replace H : (if t217 = true then (some ([] : List (S45))) else ((spec_l1Covers.f a0_0 a0_1 a1_0 a1_1).bind fun t218 => (if t218 = true then ((spec_l1Halves.f a0_0 a0_1).bind fun bt219 => ((spec_l3Without.f k bt219.1 bt219.2.1 a1_0 a1_1).bind fun t225 => ((spec_l3Without.f k bt219.2.2.1 bt219.2.2.2 a1_0 a1_1).bind fun t228 => (if t225.length + t228.length < 8796093022208 then (some (t225 ++ t228)) else (none))))) else (some (([(⟨a0_0, a0_1⟩ : S45)] : List (S45))))))) = some r := H
 have A3 := Aside0.mk A30
 clear A30
 by_cases c4 : t217 = true
 ·
  subst c4
  have H1 : (some ([] : List (S45))) = some r := by rw [if_pos rfl] at H; exact H
  clear H
  have H := H1
  clear H1
  obtain rfl := Option.some.inj H
  go_enter Try.func69, Try.ntmps69
  go_wp2_with (first | ((with_reducible refine zA (N := 2) rfl ?_); refine zw ?hg (N := 2) ?hd (cs := #[.int .i64 a0_0, .int .i64 a0_1]) (t := 45) ?hr ?_; (case hd => rfl); (case hg => rfl); (case hr => first | (go_simp; done) | (go_simp; rfl)); intro gb215 hg w5 hbox hb; have n0_ := Aside0.mk (zp (by repeat (first | (with_reducible first | exact HB.1 | apply zg | apply zc | apply zf) | exact HB.1)) hb); have n1_ := Aside0.mk (hbox); have n2_ := Aside0.mk ((by rw [hg]; exact (zo (by repeat (first | (with_reducible first | exact HB.1 | apply zg | apply zc | apply zf) | exact HB.1))) : w.heap.size ≤ gb215)); have n3_ := Aside0.mk ((by rw [hg]; exact (zo (by repeat (first | (with_reducible first | exact HB.1 | apply zg | apply zc | apply zf) | exact HB.1))) : w.heap.size ≤ gb215)); clear HB; have HB := n0_; have zJ := n1_; have GW215 := n2_; have zO := n3_; clear n0_ n1_ n2_ n3_; clear hb hbox hg) | ((with_reducible refine zA (N := 3) rfl ?_); refine zw ?hg (N := 3) ?hd (cs := #[.int .i64 a1_0, .int .i64 a1_1]) (t := 45) ?hr ?_; (case hd => rfl); (case hg => rfl); (case hr => first | (go_simp; done) | (go_simp; rfl)); intro gb216 hg w6 hbox hb; have n0_ := Aside0.mk (zl (g := gb215) (o := .cells #[.int .i64 a0_0, .int .i64 a0_1] 45 (0, 0)) (by (with_reducible repeat (first | refine za ?_ _ | refine zd ?_ | refine zb ?_ _)); exact zJ.1) hb); have n1_ := Aside0.mk (zp (by repeat (first | (with_reducible first | exact HB.1 | apply zg | apply zc | apply zf | refine ze ?_ zO.1) | exact HB.1)) hb); have n2_ := Aside0.mk (hbox); have n3_ := Aside0.mk ((by rw [hg]; exact (zo (by repeat (first | (with_reducible first | exact HB.1 | apply zg | apply zc | apply zf | refine ze ?_ zO.1) | exact HB.1))) : w.heap.size ≤ gb216)); have n4_ := Aside0.mk ((by rw [hg]; exact (zo (by repeat (first | (with_reducible first | exact HB.1 | apply zg | apply zc | apply zf | refine ze ?_ zO.1) | exact HB.1))) : w.heap.size ≤ gb216)); have n5_ := Aside0.mk ((by rw [hg]; exact Nat.ne_of_lt (zv (g := gb215) (o := .cells #[.int .i64 a0_0, .int .i64 a0_1] 45 (0, 0)) (by (with_reducible repeat (first | refine za ?_ _ | refine zd ?_ | refine zb ?_ _)); exact zJ.1)) : gb215 ≠ gb216)); have n6_ := Aside0.mk ((by rw [hg]; exact Nat.ne_of_gt (zv (g := gb215) (o := .cells #[.int .i64 a0_0, .int .i64 a0_1] 45 (0, 0)) (by (with_reducible repeat (first | refine za ?_ _ | refine zd ?_ | refine zb ?_ _)); exact zJ.1)) : gb216 ≠ gb215)); clear zJ; clear HB; have zJ := n0_; have HB := n1_; have zK := n2_; have GW216 := n3_; have zR := n4_; have zX := n5_; have zY := n6_; clear n0_ n1_ n2_ n3_ n4_ n5_ n6_; clear hb hbox hg; have hnb7 := zY.1; have hnc7 := zX.1; have hcz8_0 : w6.cell? ⟨gb216, 0, none⟩ = some (.int .i64 a1_0) := (zh zK.1 0).trans rfl; have hcz8_1 : w6.cell? ⟨gb216, 1, none⟩ = some (.int .i64 a1_1) := (zh zK.1 1).trans rfl; have hfz8_0 := zi zK.1 0; have hfz8_1 := zi zK.1 1; have qh : w6.cell? ⟨gb215, 0, none⟩ = some (.int .i64 a0_0) := (zh zJ.1 0).trans rfl; have qi : w6.cell? ⟨gb215, 1, none⟩ = some (.int .i64 a0_1) := (zh zJ.1 1).trans rfl; have qj := zi zJ.1 0; have qk := zi zJ.1 1) | ((with_reducible refine zr (f := 45) rfl ?_); refine zF (some 9) rfl rfl Try.func45 (by kernel_rfl) rfl #[.agg #[.int .i64 a1_0, .int .i64 a1_1], .agg #[.int .i64 a0_0, .int .i64 a0_1]] rfl (by (try simp only [List.map_toArray, List.map_cons, List.map_nil]); first | done | rfl | (simp only [List.length_drop, List.length_take]; rfl)) ?_; (with_reducible refine (spec_l1Covers.calls a1_0 a1_1 a0_0 a0_1 true _ A3.1).mono ?_); rintro e w10 ⟨rfl, hb⟩; refine ⟨_, rfl, ?_⟩; have n0_ := Aside0.mk (zl (g := gb215) (o := .cells #[.int .i64 a0_0, .int .i64 a0_1] 45 (0, 0)) (by (with_reducible repeat (first | refine za ?_ _ | refine zd ?_ | refine zb ?_ _)); exact zJ.1) hb); have n1_ := Aside0.mk (zl (g := gb216) (o := .cells #[.int .i64 a1_0, .int .i64 a1_1] 45 (0, 0)) (by (with_reducible repeat (first | refine za ?_ _ | refine zd ?_ | refine zb ?_ _)); exact zK.1) hb); have n2_ := Aside0.mk (zp (by repeat (first | (with_reducible first | exact HB.1 | apply zg | apply zc | apply zf | refine ze ?_ zO.1 | refine ze ?_ zR.1) | exact HB.1)) hb); clear zJ; clear zK; clear HB; have zJ := n0_; have zK := n1_; have HB := n2_; clear n0_ n1_ n2_; (try clear hb); (try clear hb2); (try clear hk); (try clear hi)))
  go_ret
  exact ⟨_, by first | rfl | (simp [errW_none, errW_some] <;> rfl) | (simp [*, errW_none, errW_some] <;> rfl), by first | exact Kd.R_nil _ _ _ _ _ | exact Kd.N_nil _ _ _ _ _ | exact Kd.V_nil _ _ _ _ _ | exact Kd.Q_nil _ _ _ _ _ | exact Kd.S_nil _ _ _ _ _, by repeat (first | (with_reducible first | exact HB.1 | apply zg | apply zc | apply zf | refine ze ?_ zO.1 | refine ze ?_ zR.1) | exact HB.1)⟩
 ·
  replace c4 := Bool.eq_false_iff.mpr c4
  subst c4
  have H1 : ((spec_l1Covers.f a0_0 a0_1 a1_0 a1_1).bind fun t218 => (if t218 = true then ((spec_l1Halves.f a0_0 a0_1).bind fun bt219 => ((spec_l3Without.f k bt219.1 bt219.2.1 a1_0 a1_1).bind fun t225 => ((spec_l3Without.f k bt219.2.2.1 bt219.2.2.2 a1_0 a1_1).bind fun t228 => (if t225.length + t228.length < 8796093022208 then (some (t225 ++ t228)) else (none))))) else (some (([(⟨a0_0, a0_1⟩ : S45)] : List (S45)))))) = some r := by rw [if_neg (show ¬ (false = true) by decide)] at H; exact H
  clear H
  have H := H1
  clear H1
  replace H := Option.bind_eq_some_iff.mp H
  obtain ⟨t218, A110, H⟩ := H
  replace H : (if t218 = true then ((spec_l1Halves.f a0_0 a0_1).bind fun bt219 => ((spec_l3Without.f k bt219.1 bt219.2.1 a1_0 a1_1).bind fun t225 => ((spec_l3Without.f k bt219.2.2.1 bt219.2.2.2 a1_0 a1_1).bind fun t228 => (if t225.length + t228.length < 8796093022208 then (some (t225 ++ t228)) else (none))))) else (some (([(⟨a0_0, a0_1⟩ : S45)] : List (S45))))) = some r := H
  have A11 := Aside0.mk A110
  clear A110
  by_cases c12 : t218 = true
  ·
   subst c12
   have H1 : ((spec_l1Halves.f a0_0 a0_1).bind fun bt219 => ((spec_l3Without.f k bt219.1 bt219.2.1 a1_0 a1_1).bind fun t225 => ((spec_l3Without.f k bt219.2.2.1 bt219.2.2.2 a1_0 a1_1).bind fun t228 => (if t225.length + t228.length < 8796093022208 then (some (t225 ++ t228)) else (none))))) = some r := by rw [if_pos rfl] at H; exact H
   clear H
   have H := H1
   clear H1
   replace H := Option.bind_eq_some_iff.mp H
   obtain ⟨⟨t219, t220, t221, t222⟩, A130, H⟩ := H
   replace H : ((spec_l3Without.f k t219 t220 a1_0 a1_1).bind fun t225 => ((spec_l3Without.f k t221 t222 a1_0 a1_1).bind fun t228 => (if t225.length + t228.length < 8796093022208 then (some (t225 ++ t228)) else (none)))) = some r := H
   have A13 := Aside0.mk A130
   clear A130
   replace H := Option.bind_eq_some_iff.mp H
   obtain ⟨t225, A140, H⟩ := H
   replace H : ((spec_l3Without.f k t221 t222 a1_0 a1_1).bind fun t228 => (if t225.length + t228.length < 8796093022208 then (some (t225 ++ t228)) else (none))) = some r := H
   have A14 := Aside0.mk A140
   clear A140
   replace H := Option.bind_eq_some_iff.mp H
   obtain ⟨t228, A150, H⟩ := H
   replace H : (if t225.length + t228.length < 8796093022208 then (some (t225 ++ t228)) else (none)) = some r := H
   have A15 := Aside0.mk A150
   clear A150
   by_cases c16 : t225.length + t228.length < 8796093022208
   ·
    rw [if_pos c16] at H
    have LMc16 := Aside0.mk c16
    clear c16
    obtain ⟨y231, hy231⟩ : ∃ y_ : List (S45), y_ = (t225 ++ t228) := ⟨_, rfl⟩
    replace H : (some y231) = some r := by first | (rw [hy231]; with_reducible exact H) | (have H2_ := (Option.bind_some _ _).symm.trans H; rw [hy231]; with_reducible exact H2_) | (have H2_ := (Option.bind_some _ _).symm.trans H; with_reducible exact H2_) | with_reducible exact H | (rw [hy231]; exact H) | exact H
    have Ny231 := Aside0.mk hy231
    clear hy231
    obtain rfl := Option.some.inj H
    go_enter Try.func69, Try.ntmps69
    try go_wp2_with (first | ((with_reducible refine zA (N := 2) rfl ?_); refine zw ?hg (N := 2) ?hd (cs := #[.int .i64 a0_0, .int .i64 a0_1]) (t := 45) ?hr ?_; (case hd => rfl); (case hg => rfl); (case hr => first | (go_simp; done) | (go_simp; rfl)); intro gb215 hg w17 hbox hb; have n0_ := Aside0.mk (zp (by repeat (first | (with_reducible first | exact HB.1 | apply zg | apply zc | apply zf) | exact HB.1)) hb); have n1_ := Aside0.mk (hbox); have n2_ := Aside0.mk ((by rw [hg]; exact (zo (by repeat (first | (with_reducible first | exact HB.1 | apply zg | apply zc | apply zf) | exact HB.1))) : w.heap.size ≤ gb215)); have n3_ := Aside0.mk ((by rw [hg]; exact (zo (by repeat (first | (with_reducible first | exact HB.1 | apply zg | apply zc | apply zf) | exact HB.1))) : w.heap.size ≤ gb215)); clear HB; have HB := n0_; have zJ := n1_; have GW215 := n2_; have zO := n3_; clear n0_ n1_ n2_ n3_; clear hb hbox hg) | ((with_reducible refine zA (N := 3) rfl ?_); refine zw ?hg (N := 3) ?hd (cs := #[.int .i64 a1_0, .int .i64 a1_1]) (t := 45) ?hr ?_; (case hd => rfl); (case hg => rfl); (case hr => first | (go_simp; done) | (go_simp; rfl)); intro gb216 hg w18 hbox hb; have n0_ := Aside0.mk (zl (g := gb215) (o := .cells #[.int .i64 a0_0, .int .i64 a0_1] 45 (0, 0)) (by (with_reducible repeat (first | refine za ?_ _ | refine zd ?_ | refine zb ?_ _)); exact zJ.1) hb); have n1_ := Aside0.mk (zp (by repeat (first | (with_reducible first | exact HB.1 | apply zg | apply zc | apply zf | refine ze ?_ zO.1) | exact HB.1)) hb); have n2_ := Aside0.mk (hbox); have n3_ := Aside0.mk ((by rw [hg]; exact (zo (by repeat (first | (with_reducible first | exact HB.1 | apply zg | apply zc | apply zf | refine ze ?_ zO.1) | exact HB.1))) : w.heap.size ≤ gb216)); have n4_ := Aside0.mk ((by rw [hg]; exact (zo (by repeat (first | (with_reducible first | exact HB.1 | apply zg | apply zc | apply zf | refine ze ?_ zO.1) | exact HB.1))) : w.heap.size ≤ gb216)); have n5_ := Aside0.mk ((by rw [hg]; exact Nat.ne_of_lt (zv (g := gb215) (o := .cells #[.int .i64 a0_0, .int .i64 a0_1] 45 (0, 0)) (by (with_reducible repeat (first | refine za ?_ _ | refine zd ?_ | refine zb ?_ _)); exact zJ.1)) : gb215 ≠ gb216)); have n6_ := Aside0.mk ((by rw [hg]; exact Nat.ne_of_gt (zv (g := gb215) (o := .cells #[.int .i64 a0_0, .int .i64 a0_1] 45 (0, 0)) (by (with_reducible repeat (first | refine za ?_ _ | refine zd ?_ | refine zb ?_ _)); exact zJ.1)) : gb216 ≠ gb215)); clear zJ; clear HB; have zJ := n0_; have HB := n1_; have zK := n2_; have GW216 := n3_; have zR := n4_; have zX := n5_; have zY := n6_; clear n0_ n1_ n2_ n3_ n4_ n5_ n6_; clear hb hbox hg; have hnb19 := zY.1; have hnc19 := zX.1; have hcz20_0 : w18.cell? ⟨gb216, 0, none⟩ = some (.int .i64 a1_0) := (zh zK.1 0).trans rfl; have hcz20_1 : w18.cell? ⟨gb216, 1, none⟩ = some (.int .i64 a1_1) := (zh zK.1 1).trans rfl; have hfz20_0 := zi zK.1 0; have hfz20_1 := zi zK.1 1; have hcz21_0 : w18.cell? ⟨gb215, 0, none⟩ = some (.int .i64 a0_0) := (zh zJ.1 0).trans rfl; have hcz21_1 : w18.cell? ⟨gb215, 1, none⟩ = some (.int .i64 a0_1) := (zh zJ.1 1).trans rfl; have hfz21_0 := zi zJ.1 0; have hfz21_1 := zi zJ.1 1) | ((with_reducible refine zr (f := 45) rfl ?_); refine zF (some 9) rfl rfl Try.func45 (by kernel_rfl) rfl #[.agg #[.int .i64 a1_0, .int .i64 a1_1], .agg #[.int .i64 a0_0, .int .i64 a0_1]] rfl (by (try simp only [List.map_toArray, List.map_cons, List.map_nil]); first | done | rfl | (simp only [List.length_drop, List.length_take]; rfl)) ?_; (with_reducible refine (spec_l1Covers.calls a1_0 a1_1 a0_0 a0_1 false _ A3.1).mono ?_); rintro e w22 ⟨rfl, hb⟩; refine ⟨_, rfl, ?_⟩; have n0_ := Aside0.mk (zl (g := gb215) (o := .cells #[.int .i64 a0_0, .int .i64 a0_1] 45 (0, 0)) (by (with_reducible repeat (first | refine za ?_ _ | refine zd ?_ | refine zb ?_ _)); exact zJ.1) hb); have n1_ := Aside0.mk (zl (g := gb216) (o := .cells #[.int .i64 a1_0, .int .i64 a1_1] 45 (0, 0)) (by (with_reducible repeat (first | refine za ?_ _ | refine zd ?_ | refine zb ?_ _)); exact zK.1) hb); have n2_ := Aside0.mk (zp (by repeat (first | (with_reducible first | exact HB.1 | apply zg | apply zc | apply zf | refine ze ?_ zO.1 | refine ze ?_ zR.1) | exact HB.1)) hb); clear zJ; clear zK; clear HB; have zJ := n0_; have zK := n1_; have HB := n2_; clear n0_ n1_ n2_; (try clear hb); (try clear hb2); (try clear hk); (try clear hi); have hcz23_0 : w22.cell? ⟨gb215, 0, none⟩ = some (.int .i64 a0_0) := (zh zJ.1 0).trans rfl; have hcz23_1 : w22.cell? ⟨gb215, 1, none⟩ = some (.int .i64 a0_1) := (zh zJ.1 1).trans rfl; have hfz23_0 := zi zJ.1 0; have hfz23_1 := zi zJ.1 1; have hcz24_0 : w22.cell? ⟨gb216, 0, none⟩ = some (.int .i64 a1_0) := (zh zK.1 0).trans rfl; have hcz24_1 : w22.cell? ⟨gb216, 1, none⟩ = some (.int .i64 a1_1) := (zh zK.1 1).trans rfl; have hfz24_0 := zi zK.1 0; have hfz24_1 := zi zK.1 1) | ((with_reducible refine zr (f := 45) rfl ?_); refine zF (some 12) rfl rfl Try.func45 (by kernel_rfl) rfl #[.agg #[.int .i64 a0_0, .int .i64 a0_1], .agg #[.int .i64 a1_0, .int .i64 a1_1]] rfl (by (try simp only [List.map_toArray, List.map_cons, List.map_nil]); first | done | rfl | (simp only [List.length_drop, List.length_take]; rfl)) ?_; (with_reducible refine (spec_l1Covers.calls a0_0 a0_1 a1_0 a1_1 true _ A11.1).mono ?_); rintro e w25 ⟨rfl, hb⟩; refine ⟨_, rfl, ?_⟩; have n0_ := Aside0.mk (zl (g := gb215) (o := .cells #[.int .i64 a0_0, .int .i64 a0_1] 45 (0, 0)) (by (with_reducible repeat (first | refine za ?_ _ | refine zd ?_ | refine zb ?_ _)); exact zJ.1) hb); have n1_ := Aside0.mk (zl (g := gb216) (o := .cells #[.int .i64 a1_0, .int .i64 a1_1] 45 (0, 0)) (by (with_reducible repeat (first | refine za ?_ _ | refine zd ?_ | refine zb ?_ _)); exact zK.1) hb); have n2_ := Aside0.mk (zp (by repeat (first | (with_reducible first | exact HB.1 | apply zg | apply zc | apply zf | refine ze ?_ zO.1 | refine ze ?_ zR.1) | exact HB.1)) hb); clear zJ; clear zK; clear HB; have zJ := n0_; have zK := n1_; have HB := n2_; clear n0_ n1_ n2_; (try clear hb); (try clear hb2); (try clear hk); (try clear hi); have hcz26_0 : w25.cell? ⟨gb215, 0, none⟩ = some (.int .i64 a0_0) := (zh zJ.1 0).trans rfl; have hcz26_1 : w25.cell? ⟨gb215, 1, none⟩ = some (.int .i64 a0_1) := (zh zJ.1 1).trans rfl; have hfz26_0 := zi zJ.1 0; have hfz26_1 := zi zJ.1 1) | ((with_reducible refine zr (f := 78) rfl ?_); refine zF (some 18) rfl rfl Try.func78 (by kernel_rfl) rfl #[.agg #[.int .i64 a0_0, .int .i64 a0_1]] rfl (by (try simp only [List.map_toArray, List.map_cons, List.map_nil]); first | done | rfl | (simp only [List.length_drop, List.length_take]; rfl)) ?_; (with_reducible refine (spec_l1Halves.calls a0_0 a0_1 t219 t220 t221 t222 _ A13.1).mono ?_); rintro e w27 ⟨rfl, hb⟩; refine ⟨_, rfl, ?_⟩; have n0_ := Aside0.mk (zl (g := gb215) (o := .cells #[.int .i64 a0_0, .int .i64 a0_1] 45 (0, 0)) (by (with_reducible repeat (first | refine za ?_ _ | refine zd ?_ | refine zb ?_ _)); exact zJ.1) hb); have n1_ := Aside0.mk (zl (g := gb216) (o := .cells #[.int .i64 a1_0, .int .i64 a1_1] 45 (0, 0)) (by (with_reducible repeat (first | refine za ?_ _ | refine zd ?_ | refine zb ?_ _)); exact zK.1) hb); have n2_ := Aside0.mk (zp (by repeat (first | (with_reducible first | exact HB.1 | apply zg | apply zc | apply zf | refine ze ?_ zO.1 | refine ze ?_ zR.1) | exact HB.1)) hb); clear zJ; clear zK; clear HB; have zJ := n0_; have zK := n1_; have HB := n2_; clear n0_ n1_ n2_; (try clear hb); (try clear hb2); (try clear hk); (try clear hi)) | ((with_reducible refine zA (N := 5) rfl ?_); refine zw ?hg (N := 5) ?hd (cs := #[.int .i64 0, .int .i64 0]) (t := 45) ?hr ?_; (case hd => rfl); (case hg => rfl); (case hr => first | (go_simp; done) | (go_simp; rfl)); intro gb223 hg w28 hbox hb; have n0_ := Aside0.mk (zl (g := gb215) (o := .cells #[.int .i64 a0_0, .int .i64 a0_1] 45 (0, 0)) (by (with_reducible repeat (first | refine za ?_ _ | refine zd ?_ | refine zb ?_ _)); exact zJ.1) hb); have n1_ := Aside0.mk (zl (g := gb216) (o := .cells #[.int .i64 a1_0, .int .i64 a1_1] 45 (0, 0)) (by (with_reducible repeat (first | refine za ?_ _ | refine zd ?_ | refine zb ?_ _)); exact zK.1) hb); have n2_ := Aside0.mk (zp (by repeat (first | (with_reducible first | exact HB.1 | apply zg | apply zc | apply zf | refine ze ?_ zO.1 | refine ze ?_ zR.1) | exact HB.1)) hb); have n3_ := Aside0.mk (hbox); have n4_ := Aside0.mk ((by rw [hg]; exact (zo (by repeat (first | (with_reducible first | exact HB.1 | apply zg | apply zc | apply zf | refine ze ?_ zO.1 | refine ze ?_ zR.1) | exact HB.1))) : w.heap.size ≤ gb223)); have n5_ := Aside0.mk ((by rw [hg]; exact (zo (by repeat (first | (with_reducible first | exact HB.1 | apply zg | apply zc | apply zf | refine ze ?_ zO.1 | refine ze ?_ zR.1) | exact HB.1))) : w.heap.size ≤ gb223)); have n6_ := Aside0.mk ((by rw [hg]; exact Nat.ne_of_lt (zv (g := gb215) (o := .cells #[.int .i64 a0_0, .int .i64 a0_1] 45 (0, 0)) (by (with_reducible repeat (first | refine za ?_ _ | refine zd ?_ | refine zb ?_ _)); exact zJ.1)) : gb215 ≠ gb223)); have n7_ := Aside0.mk ((by rw [hg]; exact Nat.ne_of_gt (zv (g := gb215) (o := .cells #[.int .i64 a0_0, .int .i64 a0_1] 45 (0, 0)) (by (with_reducible repeat (first | refine za ?_ _ | refine zd ?_ | refine zb ?_ _)); exact zJ.1)) : gb223 ≠ gb215)); have n8_ := Aside0.mk ((by rw [hg]; exact Nat.ne_of_lt (zv (g := gb216) (o := .cells #[.int .i64 a1_0, .int .i64 a1_1] 45 (0, 0)) (by (with_reducible repeat (first | refine za ?_ _ | refine zd ?_ | refine zb ?_ _)); exact zK.1)) : gb216 ≠ gb223)); have n9_ := Aside0.mk ((by rw [hg]; exact Nat.ne_of_gt (zv (g := gb216) (o := .cells #[.int .i64 a1_0, .int .i64 a1_1] 45 (0, 0)) (by (with_reducible repeat (first | refine za ?_ _ | refine zd ?_ | refine zb ?_ _)); exact zK.1)) : gb223 ≠ gb216)); clear zJ; clear zK; clear HB; have zJ := n0_; have zK := n1_; have HB := n2_; have zN := n3_; have GW223 := n4_; have qd := n5_; have NB215_223 := n6_; have NB223_215 := n7_; have NB216_223 := n8_; have NB223_216 := n9_; clear n0_ n1_ n2_ n3_ n4_ n5_ n6_ n7_ n8_ n9_; clear hb hbox hg) | ((with_reducible refine zA (N := 6) rfl ?_); refine zw ?hg (N := 6) ?hd (cs := #[.int .i64 0, .int .i64 0]) (t := 45) ?hr ?_; (case hd => rfl); (case hg => rfl); (case hr => first | (go_simp; done) | (go_simp; rfl)); intro gb224 hg w29 hbox hb; have n0_ := Aside0.mk (zl (g := gb215) (o := .cells #[.int .i64 a0_0, .int .i64 a0_1] 45 (0, 0)) (by (with_reducible repeat (first | refine za ?_ _ | refine zd ?_ | refine zb ?_ _)); exact zJ.1) hb); have n1_ := Aside0.mk (zl (g := gb216) (o := .cells #[.int .i64 a1_0, .int .i64 a1_1] 45 (0, 0)) (by (with_reducible repeat (first | refine za ?_ _ | refine zd ?_ | refine zb ?_ _)); exact zK.1) hb); have n2_ := Aside0.mk (zl (g := gb223) (o := .cells #[.int .i64 0, .int .i64 0] 45 (0, 0)) (by (with_reducible repeat (first | refine za ?_ _ | refine zd ?_ | refine zb ?_ _)); exact zN.1) hb); have n3_ := Aside0.mk (zp (by repeat (first | (with_reducible first | exact HB.1 | apply zg | apply zc | apply zf | refine ze ?_ zO.1 | refine ze ?_ zR.1 | refine ze ?_ qd.1) | exact HB.1)) hb); have n4_ := Aside0.mk (hbox); have n5_ := Aside0.mk ((by rw [hg]; exact (zo (by repeat (first | (with_reducible first | exact HB.1 | apply zg | apply zc | apply zf | refine ze ?_ zO.1 | refine ze ?_ zR.1 | refine ze ?_ qd.1) | exact HB.1))) : w.heap.size ≤ gb224)); have n6_ := Aside0.mk ((by rw [hg]; exact (zo (by repeat (first | (with_reducible first | exact HB.1 | apply zg | apply zc | apply zf | refine ze ?_ zO.1 | refine ze ?_ zR.1 | refine ze ?_ qd.1) | exact HB.1))) : w.heap.size ≤ gb224)); have n7_ := Aside0.mk ((by rw [hg]; exact Nat.ne_of_lt (zv (g := gb215) (o := .cells #[.int .i64 a0_0, .int .i64 a0_1] 45 (0, 0)) (by (with_reducible repeat (first | refine za ?_ _ | refine zd ?_ | refine zb ?_ _)); exact zJ.1)) : gb215 ≠ gb224)); have n8_ := Aside0.mk ((by rw [hg]; exact Nat.ne_of_gt (zv (g := gb215) (o := .cells #[.int .i64 a0_0, .int .i64 a0_1] 45 (0, 0)) (by (with_reducible repeat (first | refine za ?_ _ | refine zd ?_ | refine zb ?_ _)); exact zJ.1)) : gb224 ≠ gb215)); have n9_ := Aside0.mk ((by rw [hg]; exact Nat.ne_of_lt (zv (g := gb216) (o := .cells #[.int .i64 a1_0, .int .i64 a1_1] 45 (0, 0)) (by (with_reducible repeat (first | refine za ?_ _ | refine zd ?_ | refine zb ?_ _)); exact zK.1)) : gb216 ≠ gb224)); have n10_ := Aside0.mk ((by rw [hg]; exact Nat.ne_of_gt (zv (g := gb216) (o := .cells #[.int .i64 a1_0, .int .i64 a1_1] 45 (0, 0)) (by (with_reducible repeat (first | refine za ?_ _ | refine zd ?_ | refine zb ?_ _)); exact zK.1)) : gb224 ≠ gb216)); have n11_ := Aside0.mk ((by rw [hg]; exact Nat.ne_of_lt (zv (g := gb223) (o := .cells #[.int .i64 0, .int .i64 0] 45 (0, 0)) (by (with_reducible repeat (first | refine za ?_ _ | refine zd ?_ | refine zb ?_ _)); exact zN.1)) : gb223 ≠ gb224)); have n12_ := Aside0.mk ((by rw [hg]; exact Nat.ne_of_gt (zv (g := gb223) (o := .cells #[.int .i64 0, .int .i64 0] 45 (0, 0)) (by (with_reducible repeat (first | refine za ?_ _ | refine zd ?_ | refine zb ?_ _)); exact zN.1)) : gb224 ≠ gb223)); clear zJ; clear zK; clear zN; clear HB; have zJ := n0_; have zK := n1_; have zN := n2_; have HB := n3_; have zQ := n4_; have GW224 := n5_; have qg := n6_; have NB215_224 := n7_; have NB224_215 := n8_; have NB216_224 := n9_; have NB224_216 := n10_; have NB223_224 := n11_; have NB224_223 := n12_; clear n0_ n1_ n2_ n3_ n4_ n5_ n6_ n7_ n8_ n9_ n10_ n11_ n12_; clear hb hbox hg; have hnb30 := NB223_215.1; have hnc30 := NB215_223.1; have hnb31 := NB223_216.1; have hnc31 := NB216_223.1; have hnb32 := NB223_224.1; have hnc32 := NB224_223.1; have hcz33_0 : w29.cell? ⟨gb223, 0, none⟩ = some (.int .i64 0) := (zh zN.1 0).trans rfl; have hcz33_1 : w29.cell? ⟨gb223, 1, none⟩ = some (.int .i64 0) := (zh zN.1 1).trans rfl; have hfz33_0 := zi zN.1 0; have hfz33_1 := zi zN.1 1; have hnb34 := NB224_215.1; have hnc34 := NB215_224.1; have hnb35 := NB224_216.1; have hnc35 := NB216_224.1; have hcz36_0 : w29.cell? ⟨gb224, 0, none⟩ = some (.int .i64 0) := (zh zQ.1 0).trans rfl; have hcz36_1 : w29.cell? ⟨gb224, 1, none⟩ = some (.int .i64 0) := (zh zQ.1 1).trans rfl; have hfz36_0 := zi zQ.1 0; have hfz36_1 := zi zQ.1 1))
    have n0_ : zq (((((w29.setCell ⟨gb223, 0, none⟩ (.int .i64 t219)).setCell ⟨gb223, 1, none⟩ (.int .i64 t220)).setCell ⟨gb224, 0, none⟩ (.int .i64 t221)).setCell ⟨gb224, 1, none⟩ (.int .i64 t222)).heap[gb215]? = some (.cells #[.int .i64 a0_0, .int .i64 a0_1] 45 (0, 0))) := ⟨by (with_reducible repeat (first | refine za ?_ _ | refine zd ?_ | refine zb ?_ _)); refine zs ?_ NB215_224.1 _; (with_reducible repeat (first | refine za ?_ _ | refine zd ?_ | refine zb ?_ _)); refine zs ?_ NB215_224.1 _; (with_reducible repeat (first | refine za ?_ _ | refine zd ?_ | refine zb ?_ _)); refine zs ?_ NB215_223.1 _; (with_reducible repeat (first | refine za ?_ _ | refine zd ?_ | refine zb ?_ _)); refine zs ?_ NB215_223.1 _; (with_reducible repeat (first | refine za ?_ _ | refine zd ?_ | refine zb ?_ _)); exact zJ.1⟩
    have n1_ : zq (((((w29.setCell ⟨gb223, 0, none⟩ (.int .i64 t219)).setCell ⟨gb223, 1, none⟩ (.int .i64 t220)).setCell ⟨gb224, 0, none⟩ (.int .i64 t221)).setCell ⟨gb224, 1, none⟩ (.int .i64 t222)).heap[gb216]? = some (.cells #[.int .i64 a1_0, .int .i64 a1_1] 45 (0, 0))) := ⟨by (with_reducible repeat (first | refine za ?_ _ | refine zd ?_ | refine zb ?_ _)); refine zs ?_ NB216_224.1 _; (with_reducible repeat (first | refine za ?_ _ | refine zd ?_ | refine zb ?_ _)); refine zs ?_ NB216_224.1 _; (with_reducible repeat (first | refine za ?_ _ | refine zd ?_ | refine zb ?_ _)); refine zs ?_ NB216_223.1 _; (with_reducible repeat (first | refine za ?_ _ | refine zd ?_ | refine zb ?_ _)); refine zs ?_ NB216_223.1 _; (with_reducible repeat (first | refine za ?_ _ | refine zd ?_ | refine zb ?_ _)); exact zK.1⟩
    have n2_ : zq (((((w29.setCell ⟨gb223, 0, none⟩ (.int .i64 t219)).setCell ⟨gb223, 1, none⟩ (.int .i64 t220)).setCell ⟨gb224, 0, none⟩ (.int .i64 t221)).setCell ⟨gb224, 1, none⟩ (.int .i64 t222)).heap[gb223]? = some (.cells #[.int .i64 t219, .int .i64 t220] 45 (0, 0))) := ⟨by (with_reducible repeat (first | refine za ?_ _ | refine zd ?_ | refine zb ?_ _)); refine zs ?_ NB223_224.1 _; (with_reducible repeat (first | refine za ?_ _ | refine zd ?_ | refine zb ?_ _)); refine zs ?_ NB223_224.1 _; (with_reducible repeat (first | refine za ?_ _ | refine zd ?_ | refine zb ?_ _)); refine zC (cs := #[.int .i64 t219, .int .i64 0]) ?_ 1 _ rfl; (with_reducible repeat (first | refine za ?_ _ | refine zd ?_ | refine zb ?_ _)); refine zC (cs := #[.int .i64 0, .int .i64 0]) ?_ 0 _ rfl; (with_reducible repeat (first | refine za ?_ _ | refine zd ?_ | refine zb ?_ _)); exact zN.1⟩
    have n3_ : zq (((((w29.setCell ⟨gb223, 0, none⟩ (.int .i64 t219)).setCell ⟨gb223, 1, none⟩ (.int .i64 t220)).setCell ⟨gb224, 0, none⟩ (.int .i64 t221)).setCell ⟨gb224, 1, none⟩ (.int .i64 t222)).heap[gb224]? = some (.cells #[.int .i64 t221, .int .i64 t222] 45 (0, 0))) := ⟨by (with_reducible repeat (first | refine za ?_ _ | refine zd ?_ | refine zb ?_ _)); refine zC (cs := #[.int .i64 t221, .int .i64 0]) ?_ 1 _ rfl; (with_reducible repeat (first | refine za ?_ _ | refine zd ?_ | refine zb ?_ _)); refine zC (cs := #[.int .i64 0, .int .i64 0]) ?_ 0 _ rfl; (with_reducible repeat (first | refine za ?_ _ | refine zd ?_ | refine zb ?_ _)); refine zs ?_ NB224_223.1 _; (with_reducible repeat (first | refine za ?_ _ | refine zd ?_ | refine zb ?_ _)); refine zs ?_ NB224_223.1 _; (with_reducible repeat (first | refine za ?_ _ | refine zd ?_ | refine zb ?_ _)); exact zQ.1⟩
    have n4_ : zq (Below w.heap.size w ((((w29.setCell ⟨gb223, 0, none⟩ (.int .i64 t219)).setCell ⟨gb223, 1, none⟩ (.int .i64 t220)).setCell ⟨gb224, 0, none⟩ (.int .i64 t221)).setCell ⟨gb224, 1, none⟩ (.int .i64 t222))) := ⟨by repeat (first | (with_reducible first | exact HB.1 | apply zg | apply zc | apply zf | refine ze ?_ zO.1 | refine ze ?_ zR.1 | refine ze ?_ qd.1 | refine ze ?_ qg.1) | exact HB.1)⟩
    (try clear zJ)
    (try clear zK)
    (try clear zN)
    (try clear zQ)
    (try clear HB)
    generalize ((((w29.setCell ⟨gb223, 0, none⟩ (.int .i64 t219)).setCell ⟨gb223, 1, none⟩ (.int .i64 t220)).setCell ⟨gb224, 0, none⟩ (.int .i64 t221)).setCell ⟨gb224, 1, none⟩ (.int .i64 t222)) = w37 at n0_ n1_ n2_ n3_ n4_ ⊢
    have zJ := n0_
    have zK := n1_
    have zN := n2_
    have zQ := n3_
    have HB := n4_
    clear n0_ n1_ n2_ n3_ n4_
    have n0_ := Aside0.mk (zd zJ.1)
    have n1_ := Aside0.mk (zd zK.1)
    have n2_ := Aside0.mk (zd zN.1)
    have n3_ := Aside0.mk (zd zQ.1)
    have n4_ := Aside0.mk (zf HB.1)
    clear zJ
    clear zK
    clear zN
    clear zQ
    clear HB
    have zJ := n0_
    have zK := n1_
    have zN := n2_
    have zQ := n3_
    have HB := n4_
    clear n0_ n1_ n2_ n3_ n4_
    refine start_ (n := 8) (S := fun w' => w'.cell? ⟨gb223, 0, none⟩ = some (.int .i64 t219) ∧ w'.cell? ⟨gb223, 1, none⟩ = some (.int .i64 t220) ∧ w'.cell? ⟨gb216, 0, none⟩ = some (.int .i64 a1_0) ∧ w'.cell? ⟨gb216, 1, none⟩ = some (.int .i64 a1_1) ∧ w'.cell? ⟨gb224, 0, none⟩ = some (.int .i64 t221) ∧ w'.cell? ⟨gb224, 1, none⟩ = some (.int .i64 t222)) (ds := []) #[false, false, false, false, false, false, false, false] (by kernel_rfl) rfl rfl ⟨(zh zN.1 0).trans rfl, (zh zN.1 1).trans rfl, (zh zK.1 0).trans rfl, (zh zK.1 1).trans rfl, (zh zQ.1 0).trans rfl, (zh zQ.1 1).trans rfl⟩ (fun hHeld => ?_); refine with_tabW spec_l3Without.tab6 spec_l3Without.bits6 (fun HT_ HW_ => ?_)
    generalize w37.drew = w38 at zJ zK zN zQ HB hHeld ⊢
    refine take_ (i := 0) (N := some 21) (v := ?_) (a' := ?_) #[true, false, false, false, false, false, false, false] rfl rfl (take_ofW HT_.1 HW_.1 (by kernel_rfl)) (fun _ _ _ h => h) (Or.inl ⟨by rfl, ?_⟩) hHeld ?_ ?_
    rotate_left
    ·
     rintro w' ⟨s0, s1, s2, s3, s4, s5⟩
     go_simp
     with_reducible rfl
    rotate_left
    ·
     simp only [Act.put, List.setIfInBounds_toArray, List.set_cons_zero, List.set_cons_succ, zH, zI]
     rfl
    refine take_ (i := 1) (N := some 22) (v := ?_) (a' := ?_) #[true, true, false, false, false, false, false, false] rfl rfl (take_ofW HT_.1 HW_.1 (by kernel_rfl)) (fun _ _ _ h => h) (Or.inl ⟨by rfl, ?_⟩) hHeld ?_ ?_
    rotate_left
    ·
     rintro w' ⟨s0, s1, s2, s3, s4, s5⟩
     go_simp
     with_reducible rfl
    rotate_left
    ·
     simp only [Act.put, List.setIfInBounds_toArray, List.set_cons_zero, List.set_cons_succ, zH, zI]
     rfl
    refine take_ (i := 3) (N := some 24) (v := ?_) (a' := ?_) #[true, true, false, true, false, false, false, false] rfl rfl (take_ofW HT_.1 HW_.1 (by kernel_rfl)) (fun _ _ _ h => h) (Or.inl ⟨by rfl, ?_⟩) hHeld ?_ ?_
    rotate_left
    ·
     rintro w' ⟨s0, s1, s2, s3, s4, s5⟩
     go_simp
     with_reducible rfl
    rotate_left
    ·
     simp only [Act.put, List.setIfInBounds_toArray, List.set_cons_zero, List.set_cons_succ, zH, zI]
     rfl
    refine take_ (i := 4) (N := some 25) (v := ?_) (a' := ?_) #[true, true, false, true, true, false, false, false] rfl rfl (take_ofW HT_.1 HW_.1 (by kernel_rfl)) (fun _ _ _ h => h) (Or.inl ⟨by rfl, ?_⟩) hHeld ?_ ?_
    rotate_left
    ·
     rintro w' ⟨s0, s1, s2, s3, s4, s5⟩
     go_simp
     with_reducible rfl
    rotate_left
    ·
     simp only [Act.put, List.setIfInBounds_toArray, List.set_cons_zero, List.set_cons_succ, zH, zI]
     rfl
    refine one_ (i := 2) (N := some 23) #[true, true, true, true, true, false, false, false] rfl rfl (one_of HT_.1 (by kernel_rfl)) (by decide) (fun K hK => ?_)
    refine goes_ Try.func69 (by kernel_rfl) rfl #[.agg #[.int .i64 t219, .int .i64 t220], .agg #[.int .i64 a1_0, .int .i64 a1_1]] (by rfl) rfl rfl (by (try simp only [List.map_toArray, List.map_cons, List.map_nil]); first | done | rfl | (simp only [List.length_drop, List.length_take]; rfl)) ?_
    with_reducible refine (ih k (by omega) t219 t220 a1_0 a1_1 t225 _ A14.1).mono ?_
    rintro e w39 ⟨v226, rfl, ho0, hb⟩
    refine ⟨_, rfl, ?_⟩
    have n0_ := Aside0.mk (Kd.R_lower (zu (zu (zu (zu ho0 (g := gb215) (o := .cells #[.int .i64 a0_0, .int .i64 a0_1] 45 (0, 0)) (by (with_reducible repeat (first | refine za ?_ _ | refine zd ?_ | refine zb ?_ _)); exact zJ.1)) (g := gb216) (o := .cells #[.int .i64 a1_0, .int .i64 a1_1] 45 (0, 0)) (by (with_reducible repeat (first | refine za ?_ _ | refine zd ?_ | refine zb ?_ _)); exact zK.1)) (g := gb223) (o := .cells #[.int .i64 t219, .int .i64 t220] 45 (0, 0)) (by (with_reducible repeat (first | refine za ?_ _ | refine zd ?_ | refine zb ?_ _)); exact zN.1)) (g := gb224) (o := .cells #[.int .i64 t221, .int .i64 t222] 45 (0, 0)) (by (with_reducible repeat (first | refine za ?_ _ | refine zd ?_ | refine zb ?_ _)); exact zQ.1)) (zo (by repeat (first | (with_reducible first | exact HB.1 | apply zg | apply zc | apply zf | refine ze ?_ zO.1 | refine ze ?_ zR.1 | refine ze ?_ qd.1 | refine ze ?_ qg.1) | exact HB.1))))
    have n1_ := Aside0.mk (zl (g := gb215) (o := .cells #[.int .i64 a0_0, .int .i64 a0_1] 45 (0, 0)) (by (with_reducible repeat (first | refine za ?_ _ | refine zd ?_ | refine zb ?_ _)); exact zJ.1) hb)
    have n2_ := Aside0.mk (zl (g := gb216) (o := .cells #[.int .i64 a1_0, .int .i64 a1_1] 45 (0, 0)) (by (with_reducible repeat (first | refine za ?_ _ | refine zd ?_ | refine zb ?_ _)); exact zK.1) hb)
    have n3_ := Aside0.mk (zl (g := gb223) (o := .cells #[.int .i64 t219, .int .i64 t220] 45 (0, 0)) (by (with_reducible repeat (first | refine za ?_ _ | refine zd ?_ | refine zb ?_ _)); exact zN.1) hb)
    have n4_ := Aside0.mk (zl (g := gb224) (o := .cells #[.int .i64 t221, .int .i64 t222] 45 (0, 0)) (by (with_reducible repeat (first | refine za ?_ _ | refine zd ?_ | refine zb ?_ _)); exact zQ.1) hb)
    have n5_ := Aside0.mk (zp (by repeat (first | (with_reducible first | exact HB.1 | apply zg | apply zc | apply zf | refine ze ?_ zO.1 | refine ze ?_ zR.1 | refine ze ?_ qd.1 | refine ze ?_ qg.1) | exact HB.1)) hb)
    clear zJ
    clear zK
    clear zN
    clear zQ
    clear HB
    have qe := n0_
    have zJ := n1_
    have zK := n2_
    have zN := n3_
    have zQ := n4_
    have HB := n5_
    clear n0_ n1_ n2_ n3_ n4_ n5_
    (try clear hb)
    (try clear hb2)
    (try clear hk)
    (try clear hi)
    (try clear ho0)
    refine hK.out _ _ ⟨(zh zN.1 0).trans rfl, (zh zN.1 1).trans rfl, (zh zK.1 0).trans rfl, (zh zK.1 1).trans rfl, (zh zQ.1 0).trans rfl, (zh zQ.1 1).trans rfl⟩ (fun hHeld => ?_)
    clear hK K
    refine norm_ (a' := ?_) ?_ ?_
    rotate_left
    ·
     show Act.put _ (some 23) _ = _
     simp only [Act.put, List.setIfInBounds_toArray, List.set_cons_zero, List.set_cons_succ, zH, zI]
     rfl
    refine one_ (i := 5) (N := some 26) #[true, true, true, true, true, true, false, false] rfl rfl (one_of HT_.1 (by kernel_rfl)) (by decide) (fun K hK => ?_)
    refine goes_ Try.func69 (by kernel_rfl) rfl #[.agg #[.int .i64 t221, .int .i64 t222], .agg #[.int .i64 a1_0, .int .i64 a1_1]] (by rfl) rfl rfl (by (try simp only [List.map_toArray, List.map_cons, List.map_nil]); first | done | rfl | (simp only [List.length_drop, List.length_take]; rfl)) ?_
    with_reducible refine (ih k (by omega) t221 t222 a1_0 a1_1 t228 _ A15.1).mono ?_
    rintro e w40 ⟨v229, rfl, ho0, hb⟩
    refine ⟨_, rfl, ?_⟩
    have n0_ := Aside0.mk (Kd.R_elder' (by (with_reducible repeat (first | apply zk | apply zj | apply zn)); exact qe.1) (Kd.R_base ho0) hb)
    have n1_ := Aside0.mk (Kd.R_lower (zu (zu (zu (zu (Kd.R_new' ho0 (Kd.R_lt (by (with_reducible repeat (first | apply zk | apply zj | apply zn)); exact qe.1))) (g := gb215) (o := .cells #[.int .i64 a0_0, .int .i64 a0_1] 45 (0, 0)) (by (with_reducible repeat (first | refine za ?_ _ | refine zd ?_ | refine zb ?_ _)); exact zJ.1)) (g := gb216) (o := .cells #[.int .i64 a1_0, .int .i64 a1_1] 45 (0, 0)) (by (with_reducible repeat (first | refine za ?_ _ | refine zd ?_ | refine zb ?_ _)); exact zK.1)) (g := gb223) (o := .cells #[.int .i64 t219, .int .i64 t220] 45 (0, 0)) (by (with_reducible repeat (first | refine za ?_ _ | refine zd ?_ | refine zb ?_ _)); exact zN.1)) (g := gb224) (o := .cells #[.int .i64 t221, .int .i64 t222] 45 (0, 0)) (by (with_reducible repeat (first | refine za ?_ _ | refine zd ?_ | refine zb ?_ _)); exact zQ.1)) (zo (by repeat (first | (with_reducible first | exact HB.1 | apply zg | apply zc | apply zf | refine ze ?_ zO.1 | refine ze ?_ zR.1 | refine ze ?_ qd.1 | refine ze ?_ qg.1) | exact HB.1))))
    have n2_ := Aside0.mk (zl (g := gb215) (o := .cells #[.int .i64 a0_0, .int .i64 a0_1] 45 (0, 0)) (by (with_reducible repeat (first | refine za ?_ _ | refine zd ?_ | refine zb ?_ _)); exact zJ.1) hb)
    have n3_ := Aside0.mk (zl (g := gb216) (o := .cells #[.int .i64 a1_0, .int .i64 a1_1] 45 (0, 0)) (by (with_reducible repeat (first | refine za ?_ _ | refine zd ?_ | refine zb ?_ _)); exact zK.1) hb)
    have n4_ := Aside0.mk (zl (g := gb223) (o := .cells #[.int .i64 t219, .int .i64 t220] 45 (0, 0)) (by (with_reducible repeat (first | refine za ?_ _ | refine zd ?_ | refine zb ?_ _)); exact zN.1) hb)
    have n5_ := Aside0.mk (zl (g := gb224) (o := .cells #[.int .i64 t221, .int .i64 t222] 45 (0, 0)) (by (with_reducible repeat (first | refine za ?_ _ | refine zd ?_ | refine zb ?_ _)); exact zQ.1) hb)
    have n6_ := Aside0.mk (zp (by repeat (first | (with_reducible first | exact HB.1 | apply zg | apply zc | apply zf | refine ze ?_ zO.1 | refine ze ?_ zR.1 | refine ze ?_ qd.1 | refine ze ?_ qg.1) | exact HB.1)) hb)
    clear qe
    clear zJ
    clear zK
    clear zN
    clear zQ
    clear HB
    have qe := n0_
    have ql := n1_
    have zJ := n2_
    have zK := n3_
    have zN := n4_
    have zQ := n5_
    have HB := n6_
    clear n0_ n1_ n2_ n3_ n4_ n5_ n6_
    (try clear hb)
    (try clear hb2)
    (try clear hk)
    (try clear hi)
    (try clear ho0)
    obtain ⟨Ao42, co42, eo42⟩ := zE ql.1
    (first | subst eo42 | (injection eo42 with f1_ f2_ f3_; have f4_ := f1_.symm; have f5_ := f3_.symm; clear f1_ f2_ f3_; subst f4_; subst f5_))
    refine hK.out _ _ ⟨(zh zN.1 0).trans rfl, (zh zN.1 1).trans rfl, (zh zK.1 0).trans rfl, (zh zK.1 1).trans rfl, (zh zQ.1 0).trans rfl, (zh zQ.1 1).trans rfl⟩ (fun hHeld => ?_)
    clear hK K
    refine norm_ (a' := ?_) ?_ ?_
    rotate_left
    ·
     show Act.put _ (some 26) _ = _
     simp only [Act.put, List.setIfInBounds_toArray, List.set_cons_zero, List.set_cons_succ, zH, zI]
     rfl
    refine one_ (i := 6) (N := some 27) #[true, true, true, true, true, true, true, false] rfl rfl (one_of HT_.1 (by kernel_rfl)) (by decide) (fun K hK => ?_)
    refine Kd.R_append_rows_step k45 (w0 := w) w.heap.size (by rfl) (.tmp 23) (.tmp 26) 25 45 (.agg #[(.int .i64 0), (.int .i64 0)]) 16 rfl Try.underlying25 info45 rfl (by decide) (by omega) v226 t225 t228 _ _ _ (fun k_ => some k_ ≠ (.slice Ao42 t228.length co42 : Value).ownBlock ∧ k_ ≠ gb215 ∧ k_ ≠ gb216 ∧ k_ ≠ gb223 ∧ k_ ≠ gb224) (fun _ => False) rfl rfl ?aO ?aR (fun _ _ h => h) (fun _ h => h.elim) ?aF ?aB ?aS ?aL ?_
    (case aR => repeat (first | exact (Kd.R_reads' ql.1).2.2 | (with_reducible refine Kd.C_alloc ?_ _) | (with_reducible refine Kd.C_drewN ?_ _) | (with_reducible refine Kd.C_drew ?_)))
    (case aB => exact (by repeat (first | (with_reducible first | exact HB.1 | apply zg | apply zc | apply zf | refine ze ?_ zO.1 | refine ze ?_ zR.1 | refine ze ?_ qd.1 | refine ze ?_ qg.1) | exact HB.1)))
    (case aF => exact (fun k_ hk => ⟨Kd.fresh' (Kd.R_lt (by (with_reducible repeat (first | apply zk | apply zj | apply zn)); exact ql.1)) k_ hk, zD (g := gb215) (o := .cells #[.int .i64 a0_0, .int .i64 a0_1] 45 (0, 0)) (by (with_reducible repeat (first | refine za ?_ _ | refine zd ?_ | refine zb ?_ _)); exact zJ.1) k_ hk, zD (g := gb216) (o := .cells #[.int .i64 a1_0, .int .i64 a1_1] 45 (0, 0)) (by (with_reducible repeat (first | refine za ?_ _ | refine zd ?_ | refine zb ?_ _)); exact zK.1) k_ hk, zD (g := gb223) (o := .cells #[.int .i64 t219, .int .i64 t220] 45 (0, 0)) (by (with_reducible repeat (first | refine za ?_ _ | refine zd ?_ | refine zb ?_ _)); exact zN.1) k_ hk, zD (g := gb224) (o := .cells #[.int .i64 t221, .int .i64 t222] 45 (0, 0)) (by (with_reducible repeat (first | refine za ?_ _ | refine zd ?_ | refine zb ?_ _)); exact zQ.1) k_ hk⟩))
    (case aO => exact (by (with_reducible repeat (first | apply zk | apply zj | apply zn)); exact zm qe.1 (fun _ hk => ⟨hk.2, ⟨hk.1.1.1.1.2, ⟨hk.1.1.1.2, ⟨hk.1.1.2, hk.1.2⟩⟩⟩⟩)))
    (case aS => exact (zo (by repeat (first | (with_reducible first | exact HB.1 | apply zg | apply zc | apply zf | refine ze ?_ zO.1 | refine ze ?_ zR.1 | refine ze ?_ qd.1 | refine ze ?_ qg.1) | exact HB.1))))
    (case aL => have := LMc16.1; omega)
    intro v232 w41 ho hb hg hat
    rw [← Ny231.1] at ho
    have n0_ := Aside0.mk (blk_grown (g := gb215) (o := .cells #[.int .i64 a0_0, .int .i64 a0_1] 45 (0, 0)) (by (with_reducible repeat (first | refine za ?_ _ | refine zd ?_ | refine zb ?_ _)); exact zJ.1) hg (zz qe.1 (fun _ hk => hk.1.1.1.1.2)))
    have n1_ := Aside0.mk (blk_grown (g := gb216) (o := .cells #[.int .i64 a1_0, .int .i64 a1_1] 45 (0, 0)) (by (with_reducible repeat (first | refine za ?_ _ | refine zd ?_ | refine zb ?_ _)); exact zK.1) hg (zz qe.1 (fun _ hk => hk.1.1.1.2)))
    have n2_ := Aside0.mk (blk_grown (g := gb223) (o := .cells #[.int .i64 t219, .int .i64 t220] 45 (0, 0)) (by (with_reducible repeat (first | refine za ?_ _ | refine zd ?_ | refine zb ?_ _)); exact zN.1) hg (zz qe.1 (fun _ hk => hk.1.1.2)))
    have n3_ := Aside0.mk (blk_grown (g := gb224) (o := .cells #[.int .i64 t221, .int .i64 t222] 45 (0, 0)) (by (with_reducible repeat (first | refine za ?_ _ | refine zd ?_ | refine zb ?_ _)); exact zQ.1) hg (zz qe.1 (fun _ hk => hk.1.2)))
    have n4_ := Aside0.mk (Kd.R_after (ok := (fun k_ => k_ ≠ gb215 ∧ k_ ≠ gb216 ∧ k_ ≠ gb223 ∧ k_ ≠ gb224)) (by (with_reducible repeat (first | apply zk | apply zj | apply zn)); exact zm ql.1 (fun _ hk => ⟨⟨hk.1.1.1.2, ⟨hk.1.1.2, ⟨hk.1.2, hk.2⟩⟩⟩, hk.1.1.1.1.2⟩)) hg hat)
    have n5_ := Aside0.mk (hb)
    have n6_ := Aside0.mk (ho)
    clear zJ
    clear zK
    clear zN
    clear zQ
    clear ql
    clear HB
    clear qe
    have zJ := n0_
    have zK := n1_
    have zN := n2_
    have zQ := n3_
    have ql := n4_
    have HB := n5_
    have HO233 := n6_
    clear n0_ n1_ n2_ n3_ n4_ n5_ n6_
    clear ho hb hg hat
    refine hK.out _ _ ⟨(zh zN.1 0).trans rfl, (zh zN.1 1).trans rfl, (zh zK.1 0).trans rfl, (zh zK.1 1).trans rfl, (zh zQ.1 0).trans rfl, (zh zQ.1 1).trans rfl⟩ (fun hHeld => ?_)
    clear hK K
    refine norm_ (a' := ?_) ?_ ?_
    rotate_left
    ·
     show Act.put _ (some 27) _ = _
     simp only [Act.put, List.setIfInBounds_toArray, List.set_cons_zero, List.set_cons_succ, zH, zI]
     rfl
    refine pure_ (i := 7) (N := some 4) (v := ?_) (a' := ?_) #[true, true, true, true, true, true, true, true] rfl rfl (any_of HT_.1 (by kernel_rfl)) (fun _ _ _ h => h) (Or.inl ⟨by rfl, ?_⟩) ?_ ?_
    rotate_left
    ·
     intro w'
     go_simp
     with_reducible rfl
    rotate_left
    ·
     simp only [Act.put, List.setIfInBounds_toArray, List.set_cons_zero, List.set_cons_succ, zH, zI]
     rfl
    refine done_ (done_of HT_.1 (by kernel_rfl)) ?_
    try go_wp2
    go_ret
    exact ⟨_, by first | rfl | (simp [errW_none, errW_some] <;> rfl) | (simp [*, errW_none, errW_some] <;> rfl), by (with_reducible repeat (first | apply zk | apply zj | apply zn)); exact zm HO233.1 (fun _ hk => trivial), by repeat (first | (with_reducible first | exact HB.1 | apply zg | apply zc | apply zf | refine ze ?_ zO.1 | refine ze ?_ zR.1 | refine ze ?_ qd.1 | refine ze ?_ qg.1) | exact HB.1)⟩
   ·
    rw [if_neg c16] at H
    exact absurd H (by simp)
  ·
   replace c12 := Bool.eq_false_iff.mpr c12
   subst c12
   have H1 : (some (([(⟨a0_0, a0_1⟩ : S45)] : List (S45)))) = some r := by rw [if_neg (show ¬ (false = true) by decide)] at H; exact H
   clear H
   have H := H1
   clear H1
   obtain ⟨y234, hy234⟩ : ∃ y_ : List (S45), y_ = (([(⟨a0_0, a0_1⟩ : S45)] : List (S45))) := ⟨_, rfl⟩
   replace H : (some y234) = some r := by first | (rw [hy234]; with_reducible exact H) | (have H2_ := (Option.bind_some _ _).symm.trans H; rw [hy234]; with_reducible exact H2_) | (have H2_ := (Option.bind_some _ _).symm.trans H; with_reducible exact H2_) | with_reducible exact H | (rw [hy234]; exact H) | exact H
   have Ny234 := Aside0.mk hy234
   clear hy234
   obtain rfl := Option.some.inj H
   go_enter Try.func69, Try.ntmps69
   go_wp2_with (first | ((with_reducible refine zA (N := 2) rfl ?_); refine zw ?hg (N := 2) ?hd (cs := #[.int .i64 a0_0, .int .i64 a0_1]) (t := 45) ?hr ?_; (case hd => rfl); (case hg => rfl); (case hr => first | (go_simp; done) | (go_simp; rfl)); intro gb215 hg w43 hbox hb; have n0_ := Aside0.mk (zp (by repeat (first | (with_reducible first | exact HB.1 | apply zg | apply zc | apply zf) | exact HB.1)) hb); have n1_ := Aside0.mk (hbox); have n2_ := Aside0.mk ((by rw [hg]; exact (zo (by repeat (first | (with_reducible first | exact HB.1 | apply zg | apply zc | apply zf) | exact HB.1))) : w.heap.size ≤ gb215)); have n3_ := Aside0.mk ((by rw [hg]; exact (zo (by repeat (first | (with_reducible first | exact HB.1 | apply zg | apply zc | apply zf) | exact HB.1))) : w.heap.size ≤ gb215)); clear HB; have HB := n0_; have zJ := n1_; have GW215 := n2_; have zO := n3_; clear n0_ n1_ n2_ n3_; clear hb hbox hg) | ((with_reducible refine zA (N := 3) rfl ?_); refine zw ?hg (N := 3) ?hd (cs := #[.int .i64 a1_0, .int .i64 a1_1]) (t := 45) ?hr ?_; (case hd => rfl); (case hg => rfl); (case hr => first | (go_simp; done) | (go_simp; rfl)); intro gb216 hg w44 hbox hb; have n0_ := Aside0.mk (zl (g := gb215) (o := .cells #[.int .i64 a0_0, .int .i64 a0_1] 45 (0, 0)) (by (with_reducible repeat (first | refine za ?_ _ | refine zd ?_ | refine zb ?_ _)); exact zJ.1) hb); have n1_ := Aside0.mk (zp (by repeat (first | (with_reducible first | exact HB.1 | apply zg | apply zc | apply zf | refine ze ?_ zO.1) | exact HB.1)) hb); have n2_ := Aside0.mk (hbox); have n3_ := Aside0.mk ((by rw [hg]; exact (zo (by repeat (first | (with_reducible first | exact HB.1 | apply zg | apply zc | apply zf | refine ze ?_ zO.1) | exact HB.1))) : w.heap.size ≤ gb216)); have n4_ := Aside0.mk ((by rw [hg]; exact (zo (by repeat (first | (with_reducible first | exact HB.1 | apply zg | apply zc | apply zf | refine ze ?_ zO.1) | exact HB.1))) : w.heap.size ≤ gb216)); have n5_ := Aside0.mk ((by rw [hg]; exact Nat.ne_of_lt (zv (g := gb215) (o := .cells #[.int .i64 a0_0, .int .i64 a0_1] 45 (0, 0)) (by (with_reducible repeat (first | refine za ?_ _ | refine zd ?_ | refine zb ?_ _)); exact zJ.1)) : gb215 ≠ gb216)); have n6_ := Aside0.mk ((by rw [hg]; exact Nat.ne_of_gt (zv (g := gb215) (o := .cells #[.int .i64 a0_0, .int .i64 a0_1] 45 (0, 0)) (by (with_reducible repeat (first | refine za ?_ _ | refine zd ?_ | refine zb ?_ _)); exact zJ.1)) : gb216 ≠ gb215)); clear zJ; clear HB; have zJ := n0_; have HB := n1_; have zK := n2_; have GW216 := n3_; have zR := n4_; have zX := n5_; have zY := n6_; clear n0_ n1_ n2_ n3_ n4_ n5_ n6_; clear hb hbox hg; have hnb45 := zY.1; have hnc45 := zX.1; have hcz46_0 : w44.cell? ⟨gb216, 0, none⟩ = some (.int .i64 a1_0) := (zh zK.1 0).trans rfl; have hcz46_1 : w44.cell? ⟨gb216, 1, none⟩ = some (.int .i64 a1_1) := (zh zK.1 1).trans rfl; have hfz46_0 := zi zK.1 0; have hfz46_1 := zi zK.1 1; have hcz47_0 : w44.cell? ⟨gb215, 0, none⟩ = some (.int .i64 a0_0) := (zh zJ.1 0).trans rfl; have hcz47_1 : w44.cell? ⟨gb215, 1, none⟩ = some (.int .i64 a0_1) := (zh zJ.1 1).trans rfl; have hfz47_0 := zi zJ.1 0; have hfz47_1 := zi zJ.1 1) | ((with_reducible refine zr (f := 45) rfl ?_); refine zF (some 9) rfl rfl Try.func45 (by kernel_rfl) rfl #[.agg #[.int .i64 a1_0, .int .i64 a1_1], .agg #[.int .i64 a0_0, .int .i64 a0_1]] rfl (by (try simp only [List.map_toArray, List.map_cons, List.map_nil]); first | done | rfl | (simp only [List.length_drop, List.length_take]; rfl)) ?_; (with_reducible refine (spec_l1Covers.calls a1_0 a1_1 a0_0 a0_1 false _ A3.1).mono ?_); rintro e w48 ⟨rfl, hb⟩; refine ⟨_, rfl, ?_⟩; have n0_ := Aside0.mk (zl (g := gb215) (o := .cells #[.int .i64 a0_0, .int .i64 a0_1] 45 (0, 0)) (by (with_reducible repeat (first | refine za ?_ _ | refine zd ?_ | refine zb ?_ _)); exact zJ.1) hb); have n1_ := Aside0.mk (zl (g := gb216) (o := .cells #[.int .i64 a1_0, .int .i64 a1_1] 45 (0, 0)) (by (with_reducible repeat (first | refine za ?_ _ | refine zd ?_ | refine zb ?_ _)); exact zK.1) hb); have n2_ := Aside0.mk (zp (by repeat (first | (with_reducible first | exact HB.1 | apply zg | apply zc | apply zf | refine ze ?_ zO.1 | refine ze ?_ zR.1) | exact HB.1)) hb); clear zJ; clear zK; clear HB; have zJ := n0_; have zK := n1_; have HB := n2_; clear n0_ n1_ n2_; (try clear hb); (try clear hb2); (try clear hk); (try clear hi); have hcz49_0 : w48.cell? ⟨gb215, 0, none⟩ = some (.int .i64 a0_0) := (zh zJ.1 0).trans rfl; have hcz49_1 : w48.cell? ⟨gb215, 1, none⟩ = some (.int .i64 a0_1) := (zh zJ.1 1).trans rfl; have hfz49_0 := zi zJ.1 0; have hfz49_1 := zi zJ.1 1; have hcz50_0 : w48.cell? ⟨gb216, 0, none⟩ = some (.int .i64 a1_0) := (zh zK.1 0).trans rfl; have hcz50_1 : w48.cell? ⟨gb216, 1, none⟩ = some (.int .i64 a1_1) := (zh zK.1 1).trans rfl; have hfz50_0 := zi zK.1 0; have hfz50_1 := zi zK.1 1) | ((with_reducible refine zr (f := 45) rfl ?_); refine zF (some 12) rfl rfl Try.func45 (by kernel_rfl) rfl #[.agg #[.int .i64 a0_0, .int .i64 a0_1], .agg #[.int .i64 a1_0, .int .i64 a1_1]] rfl (by (try simp only [List.map_toArray, List.map_cons, List.map_nil]); first | done | rfl | (simp only [List.length_drop, List.length_take]; rfl)) ?_; (with_reducible refine (spec_l1Covers.calls a0_0 a0_1 a1_0 a1_1 false _ A11.1).mono ?_); rintro e w51 ⟨rfl, hb⟩; refine ⟨_, rfl, ?_⟩; have n0_ := Aside0.mk (zl (g := gb215) (o := .cells #[.int .i64 a0_0, .int .i64 a0_1] 45 (0, 0)) (by (with_reducible repeat (first | refine za ?_ _ | refine zd ?_ | refine zb ?_ _)); exact zJ.1) hb); have n1_ := Aside0.mk (zl (g := gb216) (o := .cells #[.int .i64 a1_0, .int .i64 a1_1] 45 (0, 0)) (by (with_reducible repeat (first | refine za ?_ _ | refine zd ?_ | refine zb ?_ _)); exact zK.1) hb); have n2_ := Aside0.mk (zp (by repeat (first | (with_reducible first | exact HB.1 | apply zg | apply zc | apply zf | refine ze ?_ zO.1 | refine ze ?_ zR.1) | exact HB.1)) hb); clear zJ; clear zK; clear HB; have zJ := n0_; have zK := n1_; have HB := n2_; clear n0_ n1_ n2_; (try clear hb); (try clear hb2); (try clear hk); (try clear hi); have hcz52_0 : w51.cell? ⟨gb215, 0, none⟩ = some (.int .i64 a0_0) := (zh zJ.1 0).trans rfl; have hcz52_1 : w51.cell? ⟨gb215, 1, none⟩ = some (.int .i64 a0_1) := (zh zJ.1 1).trans rfl; have hfz52_0 := zi zJ.1 0; have hfz52_1 := zi zJ.1 1) | ((with_reducible refine zA (N := 15) rfl ?_); refine Kd.R_lit k45 _ 45 ?hg (N := 15) ?hd (xs := ([(⟨a0_0, a0_1⟩ : S45)] : List (S45))) (inner := [.int .i64 a0_0, .int .i64 a0_1]) (ok := fun _ => True) (okp := fun _ => True) ?hr ?hp (fun _ hk => hk) trivial (Below.refl _ _) (Nat.le_refl _) (by simp) ?_; (case hd => rfl); (case hg => rfl); (case hr => first | (go_simp; done) | (go_simp; rfl)); (case hp => exact (Reps.c2 (show Kd.M k45 _ _ _ (⟨a0_0, a0_1⟩ : S45) [.int .i64 a0_0, .int .i64 a0_1] from (k45_mkM _ _ _ (⟨a0_0, a0_1⟩ : S45) )) (Reps.none _ _))); intro v235 w53 ho54 hb hg_ hnew_; clear hg_ hnew_; (first | rw [← Ny234.1] at ho54 | (simp only [Int.reduceToNat] at ho54; rw [← Ny234.1] at ho54)); have n0_ := Aside0.mk (Kd.R_lower (zu (zu ho54 (g := gb215) (o := .cells #[.int .i64 a0_0, .int .i64 a0_1] 45 (0, 0)) (by (with_reducible repeat (first | refine za ?_ _ | refine zd ?_ | refine zb ?_ _)); exact zJ.1)) (g := gb216) (o := .cells #[.int .i64 a1_0, .int .i64 a1_1] 45 (0, 0)) (by (with_reducible repeat (first | refine za ?_ _ | refine zd ?_ | refine zb ?_ _)); exact zK.1)) (zo (by repeat (first | (with_reducible first | exact HB.1 | apply zg | apply zc | apply zf | refine ze ?_ zO.1 | refine ze ?_ zR.1) | exact HB.1)))); have n1_ := Aside0.mk (zl (g := gb215) (o := .cells #[.int .i64 a0_0, .int .i64 a0_1] 45 (0, 0)) (by (with_reducible repeat (first | refine za ?_ _ | refine zd ?_ | refine zb ?_ _)); exact zJ.1) hb); have n2_ := Aside0.mk (zl (g := gb216) (o := .cells #[.int .i64 a1_0, .int .i64 a1_1] 45 (0, 0)) (by (with_reducible repeat (first | refine za ?_ _ | refine zd ?_ | refine zb ?_ _)); exact zK.1) hb); have n3_ := Aside0.mk (zp (by repeat (first | (with_reducible first | exact HB.1 | apply zg | apply zc | apply zf | refine ze ?_ zO.1 | refine ze ?_ zR.1) | exact HB.1)) hb); clear zJ; clear zK; clear HB; have HO236 := n0_; have zJ := n1_; have zK := n2_; have HB := n3_; clear n0_ n1_ n2_ n3_; clear hb ho54))
   go_ret
   exact ⟨_, by first | rfl | (simp [errW_none, errW_some] <;> rfl) | (simp [*, errW_none, errW_some] <;> rfl), by (with_reducible repeat (first | apply zk | apply zj | apply zn)); exact zm HO236.1 (fun _ hk => trivial), by repeat (first | (with_reducible first | exact HB.1 | apply zg | apply zc | apply zf | refine ze ?_ zO.1 | refine ze ?_ zR.1) | exact HB.1)⟩

/-! ### spec_CutPrefix: function 32 -/
mutual
def spec_CutPrefix.j0 : Nat → List (S45) → Bool → Int → Int → Option ((List (S45)) × Bool)
 | 0, _, _, _, _ => none
 | k + 1, x0, x18, qb, qc => if x18 = true then (some (([] : List (S45)), false)) else ((spec_l3Fewest.f k x0).bind fun t240 => (spec_CutPrefix.l0 k ([] : List (S45)) t240 (t240.length : Int) 0 qb qc))
def spec_CutPrefix.l0 : Nat → List (S45) → List (S45) → Int → Int → Int → Int → Option ((List (S45)) × Bool)
 | 0, _, _, _, _, _, _ => none
 | k + 1, x6, x20, x21, x22, qb, qc => if x22 < x21 then (if 0 ≤ x22 then (if x22 < (x20.length : Int) then ((spec_l3Without.f k ((rd_T45 x20 x22).f0) ((rd_T45 x20 x22).f1) qb qc).bind fun t245 => (spec_CutPrefix.l1 k x6 x20 x21 x22 t245 (t245.length : Int) 0 qb qc)) else (none)) else (none)) else (if (x6.length : Int) > 64 then (some (([] : List (S45)), false)) else (some (x6, true)))
def spec_CutPrefix.l1 : Nat → List (S45) → List (S45) → Int → Int → List (S45) → Int → Int → Int → Int → Option ((List (S45)) × Bool)
 | 0, _, _, _, _, _, _, _, _, _ => none
 | k + 1, x6, x20, x21, x22, x28, x29, x30, qb, qc => if x30 < x29 then (if 0 ≤ x30 then (if x30 < (x28.length : Int) then ((spec_l3Put.f k x6 ((rd_T45 x28 x30).f0) ((rd_T45 x28 x30).f1)).bind fun t250 => (spec_CutPrefix.l1 k t250 x20 x21 x22 x28 x29 (wrap64 (x30 + 1)) qb qc)) else (none)) else (none)) else (spec_CutPrefix.l0 k x6 x20 x21 (wrap64 (x22 + 1)) qb qc)
end
def spec_CutPrefix.f (k : Nat) (l0 : List (S45)) (a1_0 : Int) (a1_1 : Int) : Option ((List (S45)) × Bool) := (spec_l3Good.f k l0).bind fun t238 => (if t238 = true then ((spec_GoodPrefix.f a1_0 a1_1).bind fun t239 => (spec_CutPrefix.j0 k l0 (!t239) a1_0 a1_1)) else (spec_CutPrefix.j0 k l0 true a1_0 a1_1))
theorem spec_CutPrefix.mono_l : ∀ k, (∀ y0 y1 y2 y3, LeO (spec_CutPrefix.j0 k y0 y1 y2 y3) (spec_CutPrefix.j0 (k + 1) y0 y1 y2 y3)) ∧ (∀ y0 y1 y2 y3 y4 y5, LeO (spec_CutPrefix.l0 k y0 y1 y2 y3 y4 y5) (spec_CutPrefix.l0 (k + 1) y0 y1 y2 y3 y4 y5)) ∧ (∀ y0 y1 y2 y3 y4 y5 y6 y7 y8, LeO (spec_CutPrefix.l1 k y0 y1 y2 y3 y4 y5 y6 y7 y8) (spec_CutPrefix.l1 (k + 1) y0 y1 y2 y3 y4 y5 y6 y7 y8))
 | 0 => ⟨fun _ _ _ _ r h => by simp [spec_CutPrefix.j0] at h, fun _ _ _ _ _ _ r h => by simp [spec_CutPrefix.l0] at h, fun _ _ _ _ _ _ _ _ _ r h => by simp [spec_CutPrefix.l1] at h⟩
 | k + 1 => by
  obtain ⟨ih0, ih1, ih2⟩ := spec_CutPrefix.mono_l k
  refine ⟨?_, ?_, ?_⟩
  ·
   intro y0 y1 y2 y3
   unfold spec_CutPrefix.j0
   repeat' first
   | (with_reducible exact ih0 _ _ _ _)
   | (with_reducible exact ih1 _ _ _ _ _ _)
   | (with_reducible exact ih2 _ _ _ _ _ _ _ _ _)
   | (with_reducible exact spec_l3Fewest.mono _ _)
   | (with_reducible exact spec_l3Good.mono _ _)
   | (with_reducible exact spec_l3Put.mono _ _ _ _)
   | (with_reducible exact spec_l3Without.mono _ _ _ _ _)
   | (with_reducible exact zG _)
   | (with_reducible exact zx _)
   | (with_reducible refine zB ?_ ?_)
   | (with_reducible refine zy ?_ (fun _ => ?_))
   | exact ih0 _ _ _ _
   | exact ih1 _ _ _ _ _ _
   | exact ih2 _ _ _ _ _ _ _ _ _
   | exact spec_l3Fewest.mono _ _
   | exact spec_l3Good.mono _ _
   | exact spec_l3Put.mono _ _ _ _
   | exact spec_l3Without.mono _ _ _ _ _
   | exact zx _
   | refine zB ?_ ?_
   | refine zy ?_ (fun _ => ?_)
  ·
   intro y0 y1 y2 y3 y4 y5
   unfold spec_CutPrefix.l0
   repeat' first
   | (with_reducible exact ih0 _ _ _ _)
   | (with_reducible exact ih1 _ _ _ _ _ _)
   | (with_reducible exact ih2 _ _ _ _ _ _ _ _ _)
   | (with_reducible exact spec_l3Fewest.mono _ _)
   | (with_reducible exact spec_l3Good.mono _ _)
   | (with_reducible exact spec_l3Put.mono _ _ _ _)
   | (with_reducible exact spec_l3Without.mono _ _ _ _ _)
   | (with_reducible exact zG _)
   | (with_reducible exact zx _)
   | (with_reducible refine zB ?_ ?_)
   | (with_reducible refine zy ?_ (fun _ => ?_))
   | exact ih0 _ _ _ _
   | exact ih1 _ _ _ _ _ _
   | exact ih2 _ _ _ _ _ _ _ _ _
   | exact spec_l3Fewest.mono _ _
   | exact spec_l3Good.mono _ _
   | exact spec_l3Put.mono _ _ _ _
   | exact spec_l3Without.mono _ _ _ _ _
   | exact zx _
   | refine zB ?_ ?_
   | refine zy ?_ (fun _ => ?_)
  ·
   intro y0 y1 y2 y3 y4 y5 y6 y7 y8
   unfold spec_CutPrefix.l1
   repeat' first
   | (with_reducible exact ih0 _ _ _ _)
   | (with_reducible exact ih1 _ _ _ _ _ _)
   | (with_reducible exact ih2 _ _ _ _ _ _ _ _ _)
   | (with_reducible exact spec_l3Fewest.mono _ _)
   | (with_reducible exact spec_l3Good.mono _ _)
   | (with_reducible exact spec_l3Put.mono _ _ _ _)
   | (with_reducible exact spec_l3Without.mono _ _ _ _ _)
   | (with_reducible exact zG _)
   | (with_reducible exact zx _)
   | (with_reducible refine zB ?_ ?_)
   | (with_reducible refine zy ?_ (fun _ => ?_))
   | exact ih0 _ _ _ _
   | exact ih1 _ _ _ _ _ _
   | exact ih2 _ _ _ _ _ _ _ _ _
   | exact spec_l3Fewest.mono _ _
   | exact spec_l3Good.mono _ _
   | exact spec_l3Put.mono _ _ _ _
   | exact spec_l3Without.mono _ _ _ _ _
   | exact zx _
   | refine zB ?_ ?_
   | refine zy ?_ (fun _ => ?_)
theorem spec_CutPrefix.mono : ∀ a0 a1 a2 k, LeO (spec_CutPrefix.f k a0 a1 a2) (spec_CutPrefix.f (k + 1) a0 a1 a2) := by
 intro a0 a1 a2 k
 obtain ⟨ih0, ih1, ih2⟩ := spec_CutPrefix.mono_l k
 unfold spec_CutPrefix.f
 repeat' first
   | (with_reducible exact ih0 _ _ _ _)
   | (with_reducible exact ih1 _ _ _ _ _ _)
   | (with_reducible exact ih2 _ _ _ _ _ _ _ _ _)
   | (with_reducible exact spec_l3Fewest.mono _ _)
   | (with_reducible exact spec_l3Good.mono _ _)
   | (with_reducible exact spec_l3Put.mono _ _ _ _)
   | (with_reducible exact spec_l3Without.mono _ _ _ _ _)
   | (with_reducible exact zG _)
   | (with_reducible exact zx _)
   | (with_reducible refine zB ?_ ?_)
   | (with_reducible refine zy ?_ (fun _ => ?_))
   | exact ih0 _ _ _ _
   | exact ih1 _ _ _ _ _ _
   | exact ih2 _ _ _ _ _ _ _ _ _
   | exact spec_l3Fewest.mono _ _
   | exact spec_l3Good.mono _ _
   | exact spec_l3Put.mono _ _ _ _
   | exact spec_l3Without.mono _ _ _ _ _
   | exact zx _
   | refine zB ?_ ?_
   | refine zy ?_ (fun _ => ?_)
set_option maxHeartbeats 8000000 in
set_option maxRecDepth 100000 in
theorem spec_CutPrefix.calls (k : Nat) (A0 : Option Addr) (c0 : Nat) (l0 : List (S45)) (a1_0 : Int) (a1_1 : Int) (r1 : List (S45)) (r2 : Bool) (w : World) (hr0 : Kd.C k45 w A0 l0.length l0) (hc0 : l0.length ≤ c0) (h : spec_CutPrefix.f k l0 a1_0 a1_1 = some (r1, r2)) :
  Calls Try.prog 32 #[.slice A0 l0.length c0, .agg #[.int .i64 a1_0, .int .i64 a1_1]] w fun e w' => ∃ v0_ : Value, e = .returned (.tuple #[v0_, .bool r2]) ∧ Kd.R k45 45 w' w.heap.size (fun _ => True) v0_ r1 ∧ Below w.heap.size w w' := by
 have hu45 := Try.underlying45
 have HR0 := Aside0.mk hr0
 have HC0 := Aside0.mk hc0
 clear hr0 hc0
 have HB := Aside0.mk (Below.refl w.heap.size w)
 have H : ((spec_l3Good.f k l0).bind fun t238 => (if t238 = true then ((spec_GoodPrefix.f a1_0 a1_1).bind fun t239 => (spec_CutPrefix.j0 k l0 (!t239) a1_0 a1_1)) else (spec_CutPrefix.j0 k l0 true a1_0 a1_1))) = some (r1, r2) := h
 clear h
 have HC3 := Aside0.mk H
 clear H
 go_enter Try.func32, Try.ntmps32
 go_upto_region 1 with (first | ((with_reducible refine zA (N := 3) rfl ?_); refine zw ?hg (N := 3) ?hd (cs := #[.int .i64 a1_0, .int .i64 a1_1]) (t := 45) ?hr ?_; (case hd => rfl); (case hg => rfl); (case hr => first | (go_simp; done) | (go_simp; rfl)); intro gb237 hg w4 hbox hb; have n0_ := Aside0.mk (zp (by repeat (first | (with_reducible first | exact HB.1 | apply zg | apply zc | apply zf) | exact HB.1)) hb); have n1_ := Aside0.mk (hbox); have n2_ := Aside0.mk ((by rw [hg]; exact (zo (by repeat (first | (with_reducible first | exact HB.1 | apply zg | apply zc | apply zf) | exact HB.1))) : w.heap.size ≤ gb237)); have n3_ := Aside0.mk ((by rw [hg]; exact (zo (by repeat (first | (with_reducible first | exact HB.1 | apply zg | apply zc | apply zf) | exact HB.1))) : w.heap.size ≤ gb237)); clear HB; have HB := n0_; have zL := n1_; have GW237 := n2_; have zS := n3_; clear n0_ n1_ n2_ n3_; clear hb hbox hg))
 (try simp only [Act.put, List.setIfInBounds_toArray, List.set_cons_zero, List.set_cons_succ])
 go_cut [18] (fun v18 wc => ∃ (kq : Nat) (x18_2 : Bool), v18 = .bool x18_2 ∧ zq (spec_CutPrefix.j0 kq l0 x18_2 a1_0 a1_1 = some (r1, r2)) ∧ zq (kq ≤ k) ∧ zq (wc.heap[gb237]? = some (.cells #[.int .i64 a1_0, .int .i64 a1_1] 45 (0, 0))) ∧ zq (Below w.heap.size w wc))
 case first =>
  have H := HC3.1
  clear HC3
  replace H := Option.bind_eq_some_iff.mp H
  obtain ⟨t238, A50, H⟩ := H
  replace H : (if t238 = true then ((spec_GoodPrefix.f a1_0 a1_1).bind fun t239 => (spec_CutPrefix.j0 k l0 (!t239) a1_0 a1_1)) else (spec_CutPrefix.j0 k l0 true a1_0 a1_1)) = some (r1, r2) := H
  have A5 := Aside0.mk A50
  clear A50
  by_cases c6 : t238 = true
  ·
   subst c6
   have H1 : ((spec_GoodPrefix.f a1_0 a1_1).bind fun t239 => (spec_CutPrefix.j0 k l0 (!t239) a1_0 a1_1)) = some (r1, r2) := by rw [if_pos rfl] at H; exact H
   clear H
   have H := H1
   clear H1
   replace H := Option.bind_eq_some_iff.mp H
   obtain ⟨t239, A70, H⟩ := H
   replace H : (spec_CutPrefix.j0 k l0 (!t239) a1_0 a1_1) = some (r1, r2) := H
   have A7 := Aside0.mk A70
   clear A70
   have H' := Aside0.mk H
   clear H
   go_wp2_with (first | ((with_reducible refine zr (f := 44) rfl ?_); refine zF (some 12) rfl rfl Try.func44 (by kernel_rfl) rfl #[.slice A0 l0.length c0] rfl (by (try simp only [List.map_toArray, List.map_cons, List.map_nil]); first | done | rfl | (simp only [List.length_drop, List.length_take]; rfl)) ?_; (with_reducible refine (spec_l3Good.calls k _ _ l0 true _ ?side1 ?side2 A5.1).mono ?_); (case side1 => repeat (first | exact (Kd.C_below HR0.1 HB.1) | (with_reducible refine Kd.C_alloc ?_ _) | (with_reducible refine Kd.C_drewN ?_ _) | (with_reducible refine Kd.C_drew ?_))); (case side2 => exact HC0.1); rintro e w8 ⟨rfl, hb⟩; refine ⟨_, rfl, ?_⟩; have n0_ := Aside0.mk (zl (g := gb237) (o := .cells #[.int .i64 a1_0, .int .i64 a1_1] 45 (0, 0)) (by (with_reducible repeat (first | refine za ?_ _ | refine zd ?_ | refine zb ?_ _)); exact zL.1) hb); have n1_ := Aside0.mk (zp (by repeat (first | (with_reducible first | exact HB.1 | apply zg | apply zc | apply zf | refine ze ?_ zS.1) | exact HB.1)) hb); clear zL; clear HB; have zL := n0_; have HB := n1_; clear n0_ n1_; (try clear hb); (try clear hb2); (try clear hk); (try clear hi); have qh : w8.cell? ⟨gb237, 0, none⟩ = some (.int .i64 a1_0) := (zh zL.1 0).trans rfl; have qi : w8.cell? ⟨gb237, 1, none⟩ = some (.int .i64 a1_1) := (zh zL.1 1).trans rfl; have qj := zi zL.1 0; have qk := zi zL.1 1) | (go_at_call 68; (with_reducible refine (spec_GoodPrefix.calls a1_0 a1_1 t239 _ A7.1).mono ?_); rintro e w10 ⟨rfl, hb⟩; have n0_ := Aside0.mk (zl (g := gb237) (o := .cells #[.int .i64 a1_0, .int .i64 a1_1] 45 (0, 0)) (by (with_reducible repeat (first | refine za ?_ _ | refine zd ?_ | refine zb ?_ _)); exact zL.1) hb); have n1_ := Aside0.mk (zp (by repeat (first | (with_reducible first | exact HB.1 | apply zg | apply zc | apply zf | refine ze ?_ zS.1) | exact HB.1)) hb); clear zL; clear HB; have zL := n0_; have HB := n1_; clear n0_ n1_; (try clear hb); (try clear hb2); (try clear hk); (try clear hi)))
   go_meet
   case rel => exact ⟨_, (!t239), (by first | rfl | (simp; done) | (simp [*]; done)), H', ⟨by first | omega | exact Nat.le_refl _⟩, ⟨by (with_reducible repeat (first | refine za ?_ _ | refine zd ?_ | refine zb ?_ _)); exact zL.1⟩, ⟨by repeat (first | (with_reducible first | exact HB.1 | apply zg | apply zc | apply zf | refine ze ?_ zS.1) | exact HB.1)⟩⟩
  ·
   replace c6 := Bool.eq_false_iff.mpr c6
   subst c6
   have H1 : (spec_CutPrefix.j0 k l0 true a1_0 a1_1) = some (r1, r2) := by rw [if_neg (show ¬ (false = true) by decide)] at H; exact H
   clear H
   have H := H1
   clear H1
   have H' := Aside0.mk H
   clear H
   go_wp2_with (first | ((with_reducible refine zr (f := 44) rfl ?_); refine zF (some 12) rfl rfl Try.func44 (by kernel_rfl) rfl #[.slice A0 l0.length c0] rfl (by (try simp only [List.map_toArray, List.map_cons, List.map_nil]); first | done | rfl | (simp only [List.length_drop, List.length_take]; rfl)) ?_; (with_reducible refine (spec_l3Good.calls k _ _ l0 false _ ?side1 ?side2 A5.1).mono ?_); (case side1 => repeat (first | exact (Kd.C_below HR0.1 HB.1) | (with_reducible refine Kd.C_alloc ?_ _) | (with_reducible refine Kd.C_drewN ?_ _) | (with_reducible refine Kd.C_drew ?_))); (case side2 => exact HC0.1); rintro e w11 ⟨rfl, hb⟩; refine ⟨_, rfl, ?_⟩; have n0_ := Aside0.mk (zl (g := gb237) (o := .cells #[.int .i64 a1_0, .int .i64 a1_1] 45 (0, 0)) (by (with_reducible repeat (first | refine za ?_ _ | refine zd ?_ | refine zb ?_ _)); exact zL.1) hb); have n1_ := Aside0.mk (zp (by repeat (first | (with_reducible first | exact HB.1 | apply zg | apply zc | apply zf | refine ze ?_ zS.1) | exact HB.1)) hb); clear zL; clear HB; have zL := n0_; have HB := n1_; clear n0_ n1_; (try clear hb); (try clear hb2); (try clear hk); (try clear hi)))
   go_meet
   case rel => exact ⟨_, (true), (by first | rfl | (simp; done) | (simp [*]; done)), H', ⟨by first | omega | exact Nat.le_refl _⟩, ⟨by (with_reducible repeat (first | refine za ?_ _ | refine zd ?_ | refine zb ?_ _)); exact zL.1⟩, ⟨by repeat (first | (with_reducible first | exact HB.1 | apply zg | apply zc | apply zf | refine ze ?_ zS.1) | exact HB.1)⟩⟩
 case rest =>
  clear HC3
  (try clear p2); (try clear c3); (try clear c4); (try clear c6); (try clear qh); (try clear qi); (try clear qj); (try clear qk)
  obtain ⟨kq, x18_2, rfl, HA, HJ2, zL, HB⟩ := hcut
  cases kq with
  | zero => exact absurd HA.1 (by simp [spec_CutPrefix.j0])
  | succ kj2 =>
   have H := HA.1
   clear HA
   simp only [spec_CutPrefix.j0] at H
   by_cases c12 : x18_2 = true
   ·
    subst c12
    have H1 : (some (([] : List (S45)), false)) = some (r1, r2) := by rw [if_pos rfl] at H; exact H
    clear H
    have H := H1
    clear H1
    simp only [Option.some.injEq, Prod.mk.injEq] at H
    obtain ⟨rfl, rfl⟩ := H
    go_wp2
    go_ret2
    exact ⟨_, by first | rfl | (simp [errW_none, errW_some] <;> rfl) | (simp [*, errW_none, errW_some] <;> rfl), by first | exact Kd.R_nil _ _ _ _ _ | exact Kd.N_nil _ _ _ _ _ | exact Kd.V_nil _ _ _ _ _ | exact Kd.Q_nil _ _ _ _ _ | exact Kd.S_nil _ _ _ _ _, by repeat (first | (with_reducible first | exact HB.1 | apply zg | apply zc | apply zf | refine ze ?_ zS.1) | exact HB.1)⟩
   ·
    replace c12 := Bool.eq_false_iff.mpr c12
    subst c12
    have H1 : ((spec_l3Fewest.f kj2 l0).bind fun t240 => (spec_CutPrefix.l0 kj2 ([] : List (S45)) t240 (t240.length : Int) 0 a1_0 a1_1)) = some (r1, r2) := by rw [if_neg (show ¬ (false = true) by decide)] at H; exact H
    clear H
    have H := H1
    clear H1
    replace H := Option.bind_eq_some_iff.mp H
    obtain ⟨t240, A130, H⟩ := H
    replace H : (spec_CutPrefix.l0 kj2 ([] : List (S45)) t240 (t240.length : Int) 0 a1_0 a1_1) = some (r1, r2) := H
    have A13 := Aside0.mk A130
    clear A130
    have H' := Aside0.mk H
    clear H
    go_wp2_with (first | ((with_reducible refine zr (f := 61) rfl ?_); refine zF (some 20) rfl rfl Try.func61 (by kernel_rfl) rfl #[.slice A0 l0.length c0] rfl (by (try simp only [List.map_toArray, List.map_cons, List.map_nil]); first | done | rfl | (simp only [List.length_drop, List.length_take]; rfl)) ?_; (with_reducible refine (spec_l3Fewest.calls kj2 _ _ l0 t240 _ ?side1 ?side2 A13.1).mono ?_); (case side1 => repeat (first | exact (Kd.C_below HR0.1 HB.1) | (with_reducible refine Kd.C_alloc ?_ _) | (with_reducible refine Kd.C_drewN ?_ _) | (with_reducible refine Kd.C_drew ?_))); (case side2 => exact HC0.1); rintro e w14 ⟨v241, rfl, ho0, hb⟩; refine ⟨_, rfl, ?_⟩; have n0_ := Aside0.mk (Kd.R_lower (zu ho0 (g := gb237) (o := .cells #[.int .i64 a1_0, .int .i64 a1_1] 45 (0, 0)) (by (with_reducible repeat (first | refine za ?_ _ | refine zd ?_ | refine zb ?_ _)); exact zL.1)) (zo (by repeat (first | (with_reducible first | exact HB.1 | apply zg | apply zc | apply zf | refine ze ?_ zS.1) | exact HB.1)))); have n1_ := Aside0.mk (zl (g := gb237) (o := .cells #[.int .i64 a1_0, .int .i64 a1_1] 45 (0, 0)) (by (with_reducible repeat (first | refine za ?_ _ | refine zd ?_ | refine zb ?_ _)); exact zL.1) hb); have n2_ := Aside0.mk (zp (by repeat (first | (with_reducible first | exact HB.1 | apply zg | apply zc | apply zf | refine ze ?_ zS.1) | exact HB.1)) hb); clear zL; clear HB; have HO242 := n0_; have zL := n1_; have HB := n2_; clear n0_ n1_ n2_; (try clear hb); (try clear hb2); (try clear hk); (try clear hi); (try clear ho0); obtain ⟨Ao15, co15, eo15⟩ := zE HO242.1; subst eo15))
    go_loopg [6, 22] kj2 (fun kq v6 v22 w' => ∃ (x6_2 : List (S45)) (zM : Int), v22 = .int .i64 zM ∧ zq (spec_CutPrefix.l0 kq x6_2 t240 (t240.length : Int) zM a1_0 a1_1 = some (r1, r2)) ∧ zq (kq ≤ kj2) ∧ zq (Kd.R k45 45 w' w.heap.size (fun k_ => some k_ ≠ ((.slice Ao15 t240.length co15) : Value).ownBlock ∧ k_ ≠ gb237) v6 x6_2) ∧ zq (Kd.R k45 45 w' w.heap.size (fun k_ => some k_ ≠ (v6 : Value).ownBlock ∧ k_ ≠ gb237) (.slice Ao15 t240.length co15) t240) ∧ zq (w'.heap[gb237]? = some (.cells #[.int .i64 a1_0, .int .i64 a1_1] 45 (0, 0))) ∧ zq (Below w.heap.size w w'))
    case atStart => exact ⟨(([] : List (S45))), (0), (by first | rfl | (simp; done) | (simp [*]; done)), H', ⟨Nat.le_refl _⟩, ⟨by first | exact Kd.R_nil _ _ _ _ _ | exact Kd.N_nil _ _ _ _ _ | exact Kd.V_nil _ _ _ _ _ | exact Kd.Q_nil _ _ _ _ _ | exact Kd.S_nil _ _ _ _ _⟩, ⟨by (with_reducible repeat (first | apply zk | apply zj | apply zn)); exact zm HO242.1 (fun _ hk => ⟨(by simp [Value.ownBlock]), hk.2⟩)⟩, ⟨by (with_reducible repeat (first | refine za ?_ _ | refine zd ?_ | refine zb ?_ _)); exact zL.1⟩, ⟨by repeat (first | (with_reducible first | exact HB.1 | apply zg | apply zc | apply zf | refine ze ?_ zS.1) | exact HB.1)⟩⟩
    case round =>
     clear H'
     (try clear c1); (try clear p2); (try clear c3); (try clear c4); (try clear c6); (try clear c12); (try clear qh); (try clear qi); (try clear qj); (try clear qk); (try clear p2)
     obtain ⟨x6_2, zM, rfl, HA, HK2, HO_6, zT, zL, HB⟩ := hrel
     cases gk with
     | zero => exact absurd HA.1 (by simp [spec_CutPrefix.l0])
     | succ k2 =>
      have H := HA.1
      clear HA
      simp only [spec_CutPrefix.l0] at H
      by_cases c16 : zM < (t240.length : Int)
      ·
       rw [if_pos c16] at H
       have c16b0 : decide (zM < (t240.length : Int)) = true := decide_eq_true c16
       clear c16
       by_cases c17 : 0 ≤ zM
       ·
        rw [if_pos c17] at H
        have c17b0 : decide (0 ≤ zM) = true := decide_eq_true c17
        clear c17
        by_cases c18 : zM < (t240.length : Int)
        ·
         rw [if_pos c18] at H
         have c18b0 : decide (zM < (t240.length : Int)) = true := decide_eq_true c18
         clear c18
         replace H := Option.bind_eq_some_iff.mp H
         obtain ⟨t245, A190, H⟩ := H
         replace H : (spec_CutPrefix.l1 k2 x6_2 t240 (t240.length : Int) zM t245 (t245.length : Int) 0 a1_0 a1_1) = some (r1, r2) := H
         have A19 := Aside0.mk A190
         clear A190
         have H' := Aside0.mk H
         clear H
         have p243 : 0 ≤ (zM : Int) := of_decide_eq_true (by first | (with_reducible assumption) | assumption)
         have q243 : zM < (t240.length : Int) := of_decide_eq_true (by first | (with_reducible assumption) | assumption)
         obtain ⟨ad243, e243, hx243_0, hx243_1⟩ := at_T45 (Kd.R_reads' zT.1).2.2 zM p243 q243
         cases e243
         replace p243 := eq_true p243
         replace q243 := eq_true q243
         go_wp2_with (first | ((with_reducible refine zA (N := 8) rfl ?_); refine zw ?hg (N := 8) ?hd (cs := #[.int .i64 0, .int .i64 0]) (t := 45) ?hr ?_; (case hd => rfl); (case hg => rfl); (case hr => first | (go_simp; done) | (go_simp; rfl)); intro gb244 hg w20 hbox hb; have n0_ := Aside0.mk (Kd.R_below (Kd.R_elderB (by (with_reducible repeat (first | apply zk | apply zj | apply zn)); exact HO_6.1) gb244 (Nat.le_of_eq hg.symm)) hb); have n1_ := Aside0.mk (Kd.R_below (Kd.R_elderB (by (with_reducible repeat (first | apply zk | apply zj | apply zn)); exact zT.1) gb244 (Nat.le_of_eq hg.symm)) hb); have n2_ := Aside0.mk (zl (g := gb237) (o := .cells #[.int .i64 a1_0, .int .i64 a1_1] 45 (0, 0)) (by (with_reducible repeat (first | refine za ?_ _ | refine zd ?_ | refine zb ?_ _)); exact zL.1) hb); have n3_ := Aside0.mk (zp (by repeat (first | (with_reducible first | exact HB.1 | apply zg | apply zc | apply zf | refine ze ?_ zS.1) | exact HB.1)) hb); have n4_ := Aside0.mk (hbox); have n5_ := Aside0.mk ((by rw [hg]; exact (zo (by repeat (first | (with_reducible first | exact HB.1 | apply zg | apply zc | apply zf | refine ze ?_ zS.1) | exact HB.1))) : w.heap.size ≤ gb244)); have n6_ := Aside0.mk ((by rw [hg]; exact (zo (by repeat (first | (with_reducible first | exact HB.1 | apply zg | apply zc | apply zf | refine ze ?_ zS.1) | exact HB.1))) : w.heap.size ≤ gb244)); have n7_ := Aside0.mk ((by rw [hg]; exact Nat.ne_of_lt (zv (g := gb237) (o := .cells #[.int .i64 a1_0, .int .i64 a1_1] 45 (0, 0)) (by (with_reducible repeat (first | refine za ?_ _ | refine zd ?_ | refine zb ?_ _)); exact zL.1)) : gb237 ≠ gb244)); have n8_ := Aside0.mk ((by rw [hg]; exact Nat.ne_of_gt (zv (g := gb237) (o := .cells #[.int .i64 a1_0, .int .i64 a1_1] 45 (0, 0)) (by (with_reducible repeat (first | refine za ?_ _ | refine zd ?_ | refine zb ?_ _)); exact zL.1)) : gb244 ≠ gb237)); clear HO_6; clear zT; clear zL; clear HB; have HO_6 := n0_; have zT := n1_; have zL := n2_; have HB := n3_; have zU := n4_; have GW244 := n5_; have qf := n6_; have zZ := n7_; have NB244_237 := n8_; clear n0_ n1_ n2_ n3_ n4_ n5_ n6_ n7_ n8_; clear hb hbox hg; have hnb21 := NB244_237.1; have hnc21 := zZ.1; have hcz22_0 : w20.cell? ⟨gb244, 0, none⟩ = some (.int .i64 0) := (zh zU.1 0).trans rfl; have hcz22_1 : w20.cell? ⟨gb244, 1, none⟩ = some (.int .i64 0) := (zh zU.1 1).trans rfl; have hfz22_0 := zi zU.1 0; have hfz22_1 := zi zU.1 1; have hcz23_0 : w20.cell? ⟨gb237, 0, none⟩ = some (.int .i64 a1_0) := (zh zL.1 0).trans rfl; have hcz23_1 : w20.cell? ⟨gb237, 1, none⟩ = some (.int .i64 a1_1) := (zh zL.1 1).trans rfl; have hfz23_0 := zi zL.1 0; have hfz23_1 := zi zL.1 1) | ((with_reducible refine zr (f := 69) rfl ?_); refine zF (some 28) rfl rfl Try.func69 (by kernel_rfl) rfl #[.agg #[.int .i64 ((rd_T45 t240 zM).f0), .int .i64 ((rd_T45 t240 zM).f1)], .agg #[.int .i64 a1_0, .int .i64 a1_1]] rfl (by (try simp only [List.map_toArray, List.map_cons, List.map_nil]); first | done | rfl | (simp only [List.length_drop, List.length_take]; rfl)) ?_; (with_reducible refine (spec_l3Without.calls k2 ((rd_T45 t240 zM).f0) ((rd_T45 t240 zM).f1) a1_0 a1_1 t245 _ A19.1).mono ?_); rintro e w24 ⟨v246, rfl, ho0, hb⟩; refine ⟨_, rfl, ?_⟩; have n0_ := Aside0.mk (Kd.R_elder' (by (with_reducible repeat (first | apply zk | apply zj | apply zn)); exact (zm (zt (p := ⟨gb244, 1, none⟩) (zt (p := ⟨gb244, 0, none⟩) (zm HO_6.1 (fun k_ hk => (⟨hk, hk.2⟩ : _ ∧ k_ ≠ gb244))) (fun _ hk => hk.2) (.int .i64 ((rd_T45 t240 zM).f0))) (fun _ hk => hk.2) (.int .i64 ((rd_T45 t240 zM).f1))) (fun _ h_ => h_.1))) (Kd.R_base ho0) hb); have n1_ := Aside0.mk (Kd.R_elder' (by (with_reducible repeat (first | apply zk | apply zj | apply zn)); exact (zm (zt (p := ⟨gb244, 1, none⟩) (zt (p := ⟨gb244, 0, none⟩) (zm zT.1 (fun k_ hk => (⟨hk, hk.2⟩ : _ ∧ k_ ≠ gb244))) (fun _ hk => hk.2) (.int .i64 ((rd_T45 t240 zM).f0))) (fun _ hk => hk.2) (.int .i64 ((rd_T45 t240 zM).f1))) (fun _ h_ => h_.1))) (Kd.R_base ho0) hb); have n2_ := Aside0.mk (Kd.R_lower (zu (zu (Kd.R_new' (Kd.R_new' ho0 (Kd.R_lt (by (with_reducible repeat (first | apply zk | apply zj | apply zn)); exact (zm (zt (p := ⟨gb244, 1, none⟩) (zt (p := ⟨gb244, 0, none⟩) (zm HO_6.1 (fun k_ hk => (⟨hk, hk.2⟩ : _ ∧ k_ ≠ gb244))) (fun _ hk => hk.2) (.int .i64 ((rd_T45 t240 zM).f0))) (fun _ hk => hk.2) (.int .i64 ((rd_T45 t240 zM).f1))) (fun _ h_ => h_.1))))) (Kd.R_lt (by (with_reducible repeat (first | apply zk | apply zj | apply zn)); exact (zm (zt (p := ⟨gb244, 1, none⟩) (zt (p := ⟨gb244, 0, none⟩) (zm zT.1 (fun k_ hk => (⟨hk, hk.2⟩ : _ ∧ k_ ≠ gb244))) (fun _ hk => hk.2) (.int .i64 ((rd_T45 t240 zM).f0))) (fun _ hk => hk.2) (.int .i64 ((rd_T45 t240 zM).f1))) (fun _ h_ => h_.1))))) (g := gb237) (o := .cells #[.int .i64 a1_0, .int .i64 a1_1] 45 (0, 0)) (by (with_reducible repeat (first | refine za ?_ _ | refine zd ?_ | refine zb ?_ _)); refine zs ?_ zZ.1 _; (with_reducible repeat (first | refine za ?_ _ | refine zd ?_ | refine zb ?_ _)); refine zs ?_ zZ.1 _; (with_reducible repeat (first | refine za ?_ _ | refine zd ?_ | refine zb ?_ _)); exact zL.1)) (g := gb244) (o := .cells #[.int .i64 ((rd_T45 t240 zM).f0), .int .i64 ((rd_T45 t240 zM).f1)] 45 (0, 0)) (by (with_reducible repeat (first | refine za ?_ _ | refine zd ?_ | refine zb ?_ _)); refine zC (cs := #[.int .i64 ((rd_T45 t240 zM).f0), .int .i64 0]) ?_ 1 _ rfl; (with_reducible repeat (first | refine za ?_ _ | refine zd ?_ | refine zb ?_ _)); refine zC (cs := #[.int .i64 0, .int .i64 0]) ?_ 0 _ rfl; (with_reducible repeat (first | refine za ?_ _ | refine zd ?_ | refine zb ?_ _)); exact zU.1)) (zo (by repeat (first | (with_reducible first | exact HB.1 | apply zg | apply zc | apply zf | refine ze ?_ zS.1 | refine ze ?_ qf.1) | exact HB.1)))); have n3_ := Aside0.mk (zl (g := gb237) (o := .cells #[.int .i64 a1_0, .int .i64 a1_1] 45 (0, 0)) (by (with_reducible repeat (first | refine za ?_ _ | refine zd ?_ | refine zb ?_ _)); refine zs ?_ zZ.1 _; (with_reducible repeat (first | refine za ?_ _ | refine zd ?_ | refine zb ?_ _)); refine zs ?_ zZ.1 _; (with_reducible repeat (first | refine za ?_ _ | refine zd ?_ | refine zb ?_ _)); exact zL.1) hb); have n4_ := Aside0.mk (zl (g := gb244) (o := .cells #[.int .i64 ((rd_T45 t240 zM).f0), .int .i64 ((rd_T45 t240 zM).f1)] 45 (0, 0)) (by (with_reducible repeat (first | refine za ?_ _ | refine zd ?_ | refine zb ?_ _)); refine zC (cs := #[.int .i64 ((rd_T45 t240 zM).f0), .int .i64 0]) ?_ 1 _ rfl; (with_reducible repeat (first | refine za ?_ _ | refine zd ?_ | refine zb ?_ _)); refine zC (cs := #[.int .i64 0, .int .i64 0]) ?_ 0 _ rfl; (with_reducible repeat (first | refine za ?_ _ | refine zd ?_ | refine zb ?_ _)); exact zU.1) hb); have n5_ := Aside0.mk (zp (by repeat (first | (with_reducible first | exact HB.1 | apply zg | apply zc | apply zf | refine ze ?_ zS.1 | refine ze ?_ qf.1) | exact HB.1)) hb); clear HO_6; clear zT; clear zL; clear zU; clear HB; have HO_6 := n0_; have zT := n1_; have HO247 := n2_; have zL := n3_; have zU := n4_; have HB := n5_; clear n0_ n1_ n2_ n3_ n4_ n5_; (try clear hb); (try clear hb2); (try clear hk); (try clear hi); (try clear ho0); obtain ⟨Ao25, co25, eo25⟩ := zE HO247.1; subst eo25))
         go_loopg [6, 30] k2 (fun kq v6 v30 w' => ∃ (x6_3 : List (S45)) (zP : Int), v30 = .int .i64 zP ∧ zq (spec_CutPrefix.l1 kq x6_3 t240 (t240.length : Int) zM t245 (t245.length : Int) zP a1_0 a1_1 = some (r1, r2)) ∧ zq (kq ≤ k2) ∧ zq (Kd.R k45 45 w' w.heap.size (fun k_ => some k_ ≠ ((.slice (some ad243) t240.length co15) : Value).ownBlock ∧ some k_ ≠ ((.slice Ao25 t245.length co25) : Value).ownBlock ∧ k_ ≠ gb237 ∧ k_ ≠ gb244) v6 x6_3) ∧ zq (Kd.R k45 45 w' w.heap.size (fun k_ => some k_ ≠ (v6 : Value).ownBlock ∧ some k_ ≠ ((.slice Ao25 t245.length co25) : Value).ownBlock ∧ k_ ≠ gb237 ∧ k_ ≠ gb244) (.slice (some ad243) t240.length co15) t240) ∧ zq (Kd.R k45 45 w' w.heap.size (fun k_ => some k_ ≠ (v6 : Value).ownBlock ∧ some k_ ≠ ((.slice (some ad243) t240.length co15) : Value).ownBlock ∧ k_ ≠ gb237 ∧ k_ ≠ gb244) (.slice Ao25 t245.length co25) t245) ∧ zq (w'.heap[gb237]? = some (.cells #[.int .i64 a1_0, .int .i64 a1_1] 45 (0, 0))) ∧ zq (w'.heap[gb244]? = some (.cells #[.int .i64 ((rd_T45 t240 zM).f0), .int .i64 ((rd_T45 t240 zM).f1)] 45 (0, 0))) ∧ zq (Below w.heap.size w w'))
         case atStart => exact ⟨(x6_2), (0), (by first | rfl | (simp; done) | (simp [*]; done)), H', ⟨Nat.le_refl _⟩, ⟨by (with_reducible repeat (first | apply zk | apply zj | apply zn)); exact zm HO_6.1 (fun _ hk => ⟨hk.1.1.1, ⟨hk.2, ⟨hk.1.1.2, hk.1.2⟩⟩⟩)⟩, ⟨by (with_reducible repeat (first | apply zk | apply zj | apply zn)); exact zm zT.1 (fun _ hk => ⟨hk.1.1.1, ⟨hk.2, ⟨hk.1.1.2, hk.1.2⟩⟩⟩)⟩, ⟨by (with_reducible repeat (first | apply zk | apply zj | apply zn)); exact zm HO247.1 (fun _ hk => ⟨hk.1.1.1.2, ⟨hk.1.1.2, ⟨hk.1.2, hk.2⟩⟩⟩)⟩, ⟨by (with_reducible repeat (first | refine za ?_ _ | refine zd ?_ | refine zb ?_ _)); exact zL.1⟩, ⟨by (with_reducible repeat (first | refine za ?_ _ | refine zd ?_ | refine zb ?_ _)); exact zU.1⟩, ⟨by repeat (first | (with_reducible first | exact HB.1 | apply zg | apply zc | apply zf | refine ze ?_ zS.1 | refine ze ?_ qf.1) | exact HB.1)⟩⟩
         case round =>
          clear H'
          (try clear c1); (try clear c2); (try clear p2); (try clear q2); (try clear hx2); (try clear c3); (try clear c4); (try clear c6); (try clear c12); (try clear c16); (try clear c16b0); (try clear c17); (try clear c17b0); (try clear c18); (try clear c18b0); (try clear c21); (try clear p24); (try clear q24); (try clear hx24); (try clear hcz22_0); (try clear hcz22_1); (try clear hcz23_0); (try clear hcz23_1); (try clear qh); (try clear qi); (try clear hfz22_0); (try clear hfz22_1); (try clear hfz23_0); (try clear hfz23_1); (try clear qj); (try clear qk); (try clear hx243_0); (try clear hx243_1); (try clear p2); (try clear p243); (try clear q243)
          obtain ⟨x6_3, zP, rfl, HA, HK3, HO_6, zT, qa, zL, zU, HB⟩ := hrel
          cases gk with
          | zero => exact absurd HA.1 (by simp [spec_CutPrefix.l1])
          | succ k3 =>
           have H := HA.1
           clear HA
           simp only [spec_CutPrefix.l1] at H
           by_cases c26 : zP < (t245.length : Int)
           ·
            rw [if_pos c26] at H
            have c26b0 : decide (zP < (t245.length : Int)) = true := decide_eq_true c26
            clear c26
            by_cases c27 : 0 ≤ zP
            ·
             rw [if_pos c27] at H
             have c27b0 : decide (0 ≤ zP) = true := decide_eq_true c27
             clear c27
             by_cases c28 : zP < (t245.length : Int)
             ·
              rw [if_pos c28] at H
              have c28b0 : decide (zP < (t245.length : Int)) = true := decide_eq_true c28
              clear c28
              replace H := Option.bind_eq_some_iff.mp H
              obtain ⟨t250, A290, H⟩ := H
              replace H : (spec_CutPrefix.l1 k3 t250 t240 (t240.length : Int) zM t245 (t245.length : Int) (wrap64 (zP + 1)) a1_0 a1_1) = some (r1, r2) := H
              have A29 := Aside0.mk A290
              clear A290
              have H' := Aside0.mk H
              clear H
              have p248 : 0 ≤ (zP : Int) := of_decide_eq_true (by first | (with_reducible assumption) | assumption)
              have q248 : zP < (t245.length : Int) := of_decide_eq_true (by first | (with_reducible assumption) | assumption)
              obtain ⟨ad248, e248, hx248_0, hx248_1⟩ := at_T45 (Kd.R_reads' qa.1).2.2 zP p248 q248
              cases e248
              replace p248 := eq_true p248
              replace q248 := eq_true q248
              go_wp2_with (first | ((with_reducible refine zA (N := 10) rfl ?_); refine zw ?hg (N := 10) ?hd (cs := #[.int .i64 0, .int .i64 0]) (t := 45) ?hr ?_; (case hd => rfl); (case hg => rfl); (case hr => first | (go_simp; done) | (go_simp; rfl)); intro gb249 hg w30 hbox hb; have n0_ := Aside0.mk (Kd.R_below (Kd.R_elderB (by (with_reducible repeat (first | apply zk | apply zj | apply zn)); exact HO_6.1) gb249 (Nat.le_of_eq hg.symm)) hb); have n1_ := Aside0.mk (Kd.R_below (Kd.R_elderB (by (with_reducible repeat (first | apply zk | apply zj | apply zn)); exact zT.1) gb249 (Nat.le_of_eq hg.symm)) hb); have n2_ := Aside0.mk (Kd.R_below (Kd.R_elderB (by (with_reducible repeat (first | apply zk | apply zj | apply zn)); exact qa.1) gb249 (Nat.le_of_eq hg.symm)) hb); have n3_ := Aside0.mk (zl (g := gb237) (o := .cells #[.int .i64 a1_0, .int .i64 a1_1] 45 (0, 0)) (by (with_reducible repeat (first | refine za ?_ _ | refine zd ?_ | refine zb ?_ _)); exact zL.1) hb); have n4_ := Aside0.mk (zl (g := gb244) (o := .cells #[.int .i64 ((rd_T45 t240 zM).f0), .int .i64 ((rd_T45 t240 zM).f1)] 45 (0, 0)) (by (with_reducible repeat (first | refine za ?_ _ | refine zd ?_ | refine zb ?_ _)); exact zU.1) hb); have n5_ := Aside0.mk (zp (by repeat (first | (with_reducible first | exact HB.1 | apply zg | apply zc | apply zf | refine ze ?_ zS.1 | refine ze ?_ qf.1) | exact HB.1)) hb); have n6_ := Aside0.mk (hbox); have n7_ := Aside0.mk ((by rw [hg]; exact (zo (by repeat (first | (with_reducible first | exact HB.1 | apply zg | apply zc | apply zf | refine ze ?_ zS.1 | refine ze ?_ qf.1) | exact HB.1))) : w.heap.size ≤ gb249)); have n8_ := Aside0.mk ((by rw [hg]; exact (zo (by repeat (first | (with_reducible first | exact HB.1 | apply zg | apply zc | apply zf | refine ze ?_ zS.1 | refine ze ?_ qf.1) | exact HB.1))) : w.heap.size ≤ gb249)); have n9_ := Aside0.mk ((by rw [hg]; exact Nat.ne_of_lt (zv (g := gb237) (o := .cells #[.int .i64 a1_0, .int .i64 a1_1] 45 (0, 0)) (by (with_reducible repeat (first | refine za ?_ _ | refine zd ?_ | refine zb ?_ _)); exact zL.1)) : gb237 ≠ gb249)); have n10_ := Aside0.mk ((by rw [hg]; exact Nat.ne_of_gt (zv (g := gb237) (o := .cells #[.int .i64 a1_0, .int .i64 a1_1] 45 (0, 0)) (by (with_reducible repeat (first | refine za ?_ _ | refine zd ?_ | refine zb ?_ _)); exact zL.1)) : gb249 ≠ gb237)); have n11_ := Aside0.mk ((by rw [hg]; exact Nat.ne_of_lt (zv (g := gb244) (o := .cells #[.int .i64 ((rd_T45 t240 zM).f0), .int .i64 ((rd_T45 t240 zM).f1)] 45 (0, 0)) (by (with_reducible repeat (first | refine za ?_ _ | refine zd ?_ | refine zb ?_ _)); exact zU.1)) : gb244 ≠ gb249)); have n12_ := Aside0.mk ((by rw [hg]; exact Nat.ne_of_gt (zv (g := gb244) (o := .cells #[.int .i64 ((rd_T45 t240 zM).f0), .int .i64 ((rd_T45 t240 zM).f1)] 45 (0, 0)) (by (with_reducible repeat (first | refine za ?_ _ | refine zd ?_ | refine zb ?_ _)); exact zU.1)) : gb249 ≠ gb244)); clear HO_6; clear zT; clear qa; clear zL; clear zU; clear HB; have HO_6 := n0_; have zT := n1_; have qa := n2_; have zL := n3_; have zU := n4_; have HB := n5_; have zW := n6_; have GW249 := n7_; have GE249 := n8_; have NB237_249 := n9_; have NB249_237 := n10_; have NB244_249 := n11_; have NB249_244 := n12_; clear n0_ n1_ n2_ n3_ n4_ n5_ n6_ n7_ n8_ n9_ n10_ n11_ n12_; clear hb hbox hg; have hnb31 := NB249_237.1; have hnc31 := NB237_249.1; have hnb32 := NB249_244.1; have hnc32 := NB244_249.1; have hcz33_0 : w30.cell? ⟨gb249, 0, none⟩ = some (.int .i64 0) := (zh zW.1 0).trans rfl; have hcz33_1 : w30.cell? ⟨gb249, 1, none⟩ = some (.int .i64 0) := (zh zW.1 1).trans rfl; have hfz33_0 := zi zW.1 0; have hfz33_1 := zi zW.1 1) | ((with_reducible refine gate_store (t := 45) (p := 10) rfl ?_); refine store_event (t := 45) (p := 10) (v := ?vo_w34) (w1 := ((w30.setCell ⟨gb249, 0, none⟩ (.int .i64 ((rd_T45 t245 zP).f0))).setCell ⟨gb249, 1, none⟩ (.int .i64 ((rd_T45 t245 zP).f1)))) ?hg ?ho ?hn ?hr ?_; (case ho => rfl); (case hg => rfl); (case hn => rfl); (case hr => first | (go_simp; done) | (go_simp; rfl)); intro w34 hw; have n0_ : zq (Kd.R k45 45 w34 w.heap.size (fun k_ => some k_ ≠ (.slice (some ad243) t240.length co15 : Value).ownBlock ∧ some k_ ≠ (.slice (some ad248) t245.length co25 : Value).ownBlock ∧ k_ ≠ gb237 ∧ k_ ≠ gb244 ∧ k_ ≠ gb249) u6 x6_3) := ⟨(by rw [hw]; exact (by (with_reducible repeat (first | apply zk | apply zj | apply zn)); exact zm (zt (p := ⟨gb249, 1, none⟩) (zt (p := ⟨gb249, 0, none⟩) (zm HO_6.1 (fun k_ hk => (⟨hk, hk.2⟩ : _ ∧ k_ ≠ gb249))) (fun _ hk => hk.2) (.int .i64 ((rd_T45 t245 zP).f0))) (fun _ hk => hk.2) (.int .i64 ((rd_T45 t245 zP).f1))) (fun _ hk => ⟨hk.1.1.1, ⟨hk.1.1.2.1, ⟨hk.1.1.2.2.1, ⟨hk.1.1.2.2.2, hk.1.2⟩⟩⟩⟩)))⟩; have n1_ : zq (Kd.R k45 45 w34 w.heap.size (fun k_ => some k_ ≠ (u6 : Value).ownBlock ∧ some k_ ≠ (.slice (some ad248) t245.length co25 : Value).ownBlock ∧ k_ ≠ gb237 ∧ k_ ≠ gb244 ∧ k_ ≠ gb249) (.slice (some ad243) t240.length co15) t240) := ⟨(by rw [hw]; exact (by (with_reducible repeat (first | apply zk | apply zj | apply zn)); exact zm (zt (p := ⟨gb249, 1, none⟩) (zt (p := ⟨gb249, 0, none⟩) (zm zT.1 (fun k_ hk => (⟨hk, hk.2⟩ : _ ∧ k_ ≠ gb249))) (fun _ hk => hk.2) (.int .i64 ((rd_T45 t245 zP).f0))) (fun _ hk => hk.2) (.int .i64 ((rd_T45 t245 zP).f1))) (fun _ hk => ⟨hk.1.1.1, ⟨hk.1.1.2.1, ⟨hk.1.1.2.2.1, ⟨hk.1.1.2.2.2, hk.1.2⟩⟩⟩⟩)))⟩; have n2_ : zq (Kd.R k45 45 w34 w.heap.size (fun k_ => some k_ ≠ (u6 : Value).ownBlock ∧ some k_ ≠ (.slice (some ad243) t240.length co15 : Value).ownBlock ∧ k_ ≠ gb237 ∧ k_ ≠ gb244 ∧ k_ ≠ gb249) (.slice (some ad248) t245.length co25) t245) := ⟨(by rw [hw]; exact (by (with_reducible repeat (first | apply zk | apply zj | apply zn)); exact zm (zt (p := ⟨gb249, 1, none⟩) (zt (p := ⟨gb249, 0, none⟩) (zm qa.1 (fun k_ hk => (⟨hk, hk.2⟩ : _ ∧ k_ ≠ gb249))) (fun _ hk => hk.2) (.int .i64 ((rd_T45 t245 zP).f0))) (fun _ hk => hk.2) (.int .i64 ((rd_T45 t245 zP).f1))) (fun _ hk => ⟨hk.1.1.1, ⟨hk.1.1.2.1, ⟨hk.1.1.2.2.1, ⟨hk.1.1.2.2.2, hk.1.2⟩⟩⟩⟩)))⟩; have n3_ : zq (w34.heap[gb237]? = some (.cells #[.int .i64 a1_0, .int .i64 a1_1] 45 (0, 0))) := ⟨(by rw [hw]; exact (by (with_reducible repeat (first | refine za ?_ _ | refine zd ?_ | refine zb ?_ _)); refine zs ?_ NB237_249.1 _; (with_reducible repeat (first | refine za ?_ _ | refine zd ?_ | refine zb ?_ _)); refine zs ?_ NB237_249.1 _; (with_reducible repeat (first | refine za ?_ _ | refine zd ?_ | refine zb ?_ _)); exact zL.1))⟩; have n4_ : zq (w34.heap[gb244]? = some (.cells #[.int .i64 ((rd_T45 t240 zM).f0), .int .i64 ((rd_T45 t240 zM).f1)] 45 (0, 0))) := ⟨(by rw [hw]; exact (by (with_reducible repeat (first | refine za ?_ _ | refine zd ?_ | refine zb ?_ _)); refine zs ?_ NB244_249.1 _; (with_reducible repeat (first | refine za ?_ _ | refine zd ?_ | refine zb ?_ _)); refine zs ?_ NB244_249.1 _; (with_reducible repeat (first | refine za ?_ _ | refine zd ?_ | refine zb ?_ _)); exact zU.1))⟩; have n5_ : zq (w34.heap[gb249]? = some (.cells #[.int .i64 ((rd_T45 t245 zP).f0), .int .i64 ((rd_T45 t245 zP).f1)] 45 (0, 0))) := ⟨(by rw [hw]; exact (by (with_reducible repeat (first | refine za ?_ _ | refine zd ?_ | refine zb ?_ _)); refine zC (cs := #[.int .i64 ((rd_T45 t245 zP).f0), .int .i64 0]) ?_ 1 _ rfl; (with_reducible repeat (first | refine za ?_ _ | refine zd ?_ | refine zb ?_ _)); refine zC (cs := #[.int .i64 0, .int .i64 0]) ?_ 0 _ rfl; (with_reducible repeat (first | refine za ?_ _ | refine zd ?_ | refine zb ?_ _)); exact zW.1))⟩; have n6_ : zq (Below w.heap.size w w34) := ⟨(by rw [hw]; exact (by repeat (first | (with_reducible first | exact HB.1 | apply zg | apply zc | apply zf | refine ze ?_ zS.1 | refine ze ?_ qf.1 | refine ze ?_ GE249.1) | exact HB.1)))⟩; clear hw; clear HO_6; clear zT; clear qa; clear zL; clear zU; clear zW; clear HB; have HO_6 := n0_; have zT := n1_; have qa := n2_; have zL := n3_; have zU := n4_; have zW := n5_; have HB := n6_; clear n0_ n1_ n2_ n3_ n4_ n5_ n6_; have hcz35_0 : w34.cell? ⟨gb249, 0, none⟩ = some (.int .i64 ((rd_T45 t245 zP).f0)) := (zh zW.1 0).trans rfl; have hcz35_1 : w34.cell? ⟨gb249, 1, none⟩ = some (.int .i64 ((rd_T45 t245 zP).f1)) := (zh zW.1 1).trans rfl; have hfz35_0 := zi zW.1 0; have hfz35_1 := zi zW.1 1; obtain ⟨Ao36, co36, eo36⟩ := zE HO_6.1; subst eo36) | ((with_reducible refine zr (f := 66) rfl ?_); refine zF (some 36) rfl rfl Try.func66 (by kernel_rfl) rfl #[.slice Ao36 x6_3.length co36, .agg #[.int .i64 ((rd_T45 t245 zP).f0), .int .i64 ((rd_T45 t245 zP).f1)]] rfl (by (try simp only [List.map_toArray, List.map_cons, List.map_nil]); first | done | rfl | (simp only [List.length_drop, List.length_take]; rfl)) ?_; (with_reducible refine (spec_l3Put.calls k3 (fun k_ => some k_ = (.slice Ao36 x6_3.length co36 : Value).ownBlock) (.slice Ao36 x6_3.length co36) x6_3 ((rd_T45 t245 zP).f0) ((rd_T45 t245 zP).f1) t250 w _ ?side1 ?side2 A29.1).mono ?_); (case side1 => repeat (first | (with_reducible first | exact HB.1 | apply zg | apply zc | apply zf | refine ze ?_ zS.1 | refine ze ?_ qf.1 | refine ze ?_ GE249.1) | exact HB.1)); (case side2 => exact Kd.R_tight rfl HO_6.1); rintro e w37 ⟨v251, rfl, ho0, hb, hkp⟩; refine ⟨_, rfl, ?_⟩; have n0_ := Aside0.mk (zm (ok' := fun k_ => some k_ ≠ (.slice (some ad248) t245.length co25 : Value).ownBlock ∧ k_ ≠ gb237 ∧ k_ ≠ gb244 ∧ k_ ≠ gb249 ∧ some k_ ≠ (v251 : Value).ownBlock) (Kd.R_keptB (zT.1) hkp (fun k_ hk_ hs_ => (hk_.1) hs_)) (fun k_ hk_ => ⟨hk_.1.2.1, hk_.1.2.2.1, hk_.1.2.2.2.1, hk_.1.2.2.2.2, fun e_ => Or.elim (ho0.1 k_ e_.symm) (fun hs_ => hk_.2.1 hs_) (fun hn_ => Nat.not_le.2 hk_.2.2 hn_)⟩)); have n1_ := Aside0.mk (zm (ok' := fun k_ => some k_ ≠ (.slice (some ad243) t240.length co15 : Value).ownBlock ∧ k_ ≠ gb237 ∧ k_ ≠ gb244 ∧ k_ ≠ gb249 ∧ some k_ ≠ (v251 : Value).ownBlock) (Kd.R_keptB (qa.1) hkp (fun k_ hk_ hs_ => (hk_.1) hs_)) (fun k_ hk_ => ⟨hk_.1.2.1, hk_.1.2.2.1, hk_.1.2.2.2.1, hk_.1.2.2.2.2, fun e_ => Or.elim (ho0.1 k_ e_.symm) (fun hs_ => hk_.2.1 hs_) (fun hn_ => Nat.not_le.2 hk_.2.2 hn_)⟩)); have n2_ := Aside0.mk (blk_kept (by (with_reducible repeat (first | refine za ?_ _ | refine zd ?_ | refine zb ?_ _)); exact zL.1) hkp (fun hs_ => (fun e_ => (zz HO_6.1 (fun _ hk => hk.2.2.1)) e_) hs_)); have n3_ := Aside0.mk (blk_kept (by (with_reducible repeat (first | refine za ?_ _ | refine zd ?_ | refine zb ?_ _)); exact zU.1) hkp (fun hs_ => (fun e_ => (zz HO_6.1 (fun _ hk => hk.2.2.2.1)) e_) hs_)); have n4_ := Aside0.mk (blk_kept (by (with_reducible repeat (first | refine za ?_ _ | refine zd ?_ | refine zb ?_ _)); exact zW.1) hkp (fun hs_ => (fun e_ => (zz HO_6.1 (fun _ hk => hk.2.2.2.2)) e_) hs_)); have n5_ := Aside0.mk (zm (ok' := fun k_ => some k_ ≠ (.slice (some ad243) t240.length co15 : Value).ownBlock ∧ some k_ ≠ (.slice (some ad248) t245.length co25 : Value).ownBlock ∧ k_ ≠ gb237 ∧ k_ ≠ gb244 ∧ k_ ≠ gb249) ho0 (fun k_ hk_ => ⟨Or.elim hk_ (fun hs_ => fun e_ => (((zT.1).1 k_ e_.symm).1) hs_) (fun hn_ => (Kd.fresh' (Kd.R_lt (by (with_reducible repeat (first | apply zk | apply zj | apply zn)); exact zT.1)) k_ hn_)), Or.elim hk_ (fun hs_ => fun e_ => (((qa.1).1 k_ e_.symm).1) hs_) (fun hn_ => (Kd.fresh' (Kd.R_lt (by (with_reducible repeat (first | apply zk | apply zj | apply zn)); exact qa.1)) k_ hn_)), Or.elim hk_ (fun hs_ => fun e_ => (zz HO_6.1 (fun _ hk => hk.2.2.1)) (by rw [← e_]; exact hs_)) (fun hn_ => (zD (g := gb237) (o := .cells #[.int .i64 a1_0, .int .i64 a1_1] 45 (0, 0)) (by (with_reducible repeat (first | refine za ?_ _ | refine zd ?_ | refine zb ?_ _)); exact zL.1) k_ hn_)), Or.elim hk_ (fun hs_ => fun e_ => (zz HO_6.1 (fun _ hk => hk.2.2.2.1)) (by rw [← e_]; exact hs_)) (fun hn_ => (zD (g := gb244) (o := .cells #[.int .i64 ((rd_T45 t240 zM).f0), .int .i64 ((rd_T45 t240 zM).f1)] 45 (0, 0)) (by (with_reducible repeat (first | refine za ?_ _ | refine zd ?_ | refine zb ?_ _)); exact zU.1) k_ hn_)), Or.elim hk_ (fun hs_ => fun e_ => (zz HO_6.1 (fun _ hk => hk.2.2.2.2)) (by rw [← e_]; exact hs_)) (fun hn_ => (zD (g := gb249) (o := .cells #[.int .i64 ((rd_T45 t245 zP).f0), .int .i64 ((rd_T45 t245 zP).f1)] 45 (0, 0)) (by (with_reducible repeat (first | refine za ?_ _ | refine zd ?_ | refine zb ?_ _)); exact zW.1) k_ hn_))⟩)); have n6_ := Aside0.mk (hb); clear zT; clear qa; clear zL; clear zU; clear zW; clear HB; clear HO_6; have zT := n0_; have qa := n1_; have zL := n2_; have zU := n3_; have zW := n4_; have HO252 := n5_; have HB := n6_; clear n0_ n1_ n2_ n3_ n4_ n5_ n6_; (try clear hb); (try clear hkp); (try clear ho0)))
              go_roundg k3
              case measure => have := HJ2.1; have := HK2.1; have := HK3.1; omega
              case rel => exact ⟨(t250), (wrap64 (zP + 1)), (by first | rfl | (simp; done) | (simp [*]; done)), H', ⟨by have := HJ2.1; have := HK2.1; have := HK3.1; omega⟩, ⟨by (with_reducible repeat (first | apply zk | apply zj | apply zn)); exact zm HO252.1 (fun _ hk => ⟨hk.1, ⟨hk.2.1, ⟨hk.2.2.1, hk.2.2.2.1⟩⟩⟩)⟩, ⟨by (with_reducible repeat (first | apply zk | apply zj | apply zn)); exact zm zT.1 (fun _ hk => ⟨hk.2.2.2.2, ⟨hk.1, ⟨hk.2.1, hk.2.2.1⟩⟩⟩)⟩, ⟨by (with_reducible repeat (first | apply zk | apply zj | apply zn)); exact zm qa.1 (fun _ hk => ⟨hk.2.2.2.2, ⟨hk.1, ⟨hk.2.1, hk.2.2.1⟩⟩⟩)⟩, ⟨by (with_reducible repeat (first | refine za ?_ _ | refine zd ?_ | refine zb ?_ _)); exact zL.1⟩, ⟨by (with_reducible repeat (first | refine za ?_ _ | refine zd ?_ | refine zb ?_ _)); exact zU.1⟩, ⟨by repeat (first | (with_reducible first | exact HB.1 | apply zg | apply zc | apply zf | refine ze ?_ zS.1 | refine ze ?_ qf.1 | refine ze ?_ GE249.1) | exact HB.1)⟩⟩
             ·
              rw [if_neg c28] at H
              exact absurd H (by simp)
            ·
             rw [if_neg c27] at H
             exact absurd H (by simp)
           ·
            rw [if_neg c26] at H
            have c26b0 : decide (zP < (t245.length : Int)) = false := decide_eq_false c26
            clear c26
            have H' := Aside0.mk H
            clear H
            go_wp2
            go_roundg k3
            case measure => have := HJ2.1; have := HK2.1; have := HK3.1; omega
            case rel => exact ⟨(x6_3), (wrap64 (zM + 1)), (by first | rfl | (simp; done) | (simp [*]; done)), H', ⟨by have := HJ2.1; have := HK2.1; have := HK3.1; omega⟩, ⟨by (with_reducible repeat (first | apply zk | apply zj | apply zn)); exact zm HO_6.1 (fun _ hk => ⟨hk.1, hk.2.2.1⟩)⟩, ⟨by (with_reducible repeat (first | apply zk | apply zj | apply zn)); exact zm zT.1 (fun _ hk => ⟨hk.1, hk.2.2.1⟩)⟩, ⟨by (with_reducible repeat (first | refine za ?_ _ | refine zd ?_ | refine zb ?_ _)); exact zL.1⟩, ⟨by repeat (first | (with_reducible first | exact HB.1 | apply zg | apply zc | apply zf | refine ze ?_ zS.1 | refine ze ?_ qf.1) | exact HB.1)⟩⟩
        ·
         rw [if_neg c18] at H
         exact absurd H (by simp)
       ·
        rw [if_neg c17] at H
        exact absurd H (by simp)
      ·
       rw [if_neg c16] at H
       have c16b0 : decide (zM < (t240.length : Int)) = false := decide_eq_false c16
       clear c16
       by_cases c38 : (x6_2.length : Int) > 64
       ·
        rw [if_pos c38] at H
        have c38b0 : decide (64 < (x6_2.length : Int)) = true := decide_eq_true c38
        have c38b1 : decide (64 < x6_2.length) = true := decide_eq_true (by omega)
        clear c38
        simp only [Option.some.injEq, Prod.mk.injEq] at H
        obtain ⟨rfl, rfl⟩ := H
        obtain ⟨Ao39, co39, eo39⟩ := zE HO_6.1
        subst eo39
        go_wp2
        go_ret2
        exact ⟨_, by first | rfl | (simp [errW_none, errW_some] <;> rfl) | (simp [*, errW_none, errW_some] <;> rfl), by first | exact Kd.R_nil _ _ _ _ _ | exact Kd.N_nil _ _ _ _ _ | exact Kd.V_nil _ _ _ _ _ | exact Kd.Q_nil _ _ _ _ _ | exact Kd.S_nil _ _ _ _ _, by repeat (first | (with_reducible first | exact HB.1 | apply zg | apply zc | apply zf | refine ze ?_ zS.1) | exact HB.1)⟩
       ·
        rw [if_neg c38] at H
        have c38b0 : decide (64 < (x6_2.length : Int)) = false := decide_eq_false c38
        have c38b1 : decide (64 < x6_2.length) = false := decide_eq_false (by omega)
        clear c38
        simp only [Option.some.injEq, Prod.mk.injEq] at H
        obtain ⟨rfl, rfl⟩ := H
        obtain ⟨Ao40, co40, eo40⟩ := zE HO_6.1
        subst eo40
        go_wp2
        go_ret2
        exact ⟨_, by first | rfl | (simp [errW_none, errW_some] <;> rfl) | (simp [*, errW_none, errW_some] <;> rfl), by (with_reducible repeat (first | apply zk | apply zj | apply zn)); exact zm HO_6.1 (fun _ hk => trivial), by repeat (first | (with_reducible first | exact HB.1 | apply zg | apply zc | apply zf | refine ze ?_ zS.1) | exact HB.1)⟩

/-! ### impl_within: function 84 -/
def impl_within.f (a0 : Int) (a1 : Int) (a2 : Int) : Option (Bool) := if a0 ≥ a1 then (some (decide (a0 ≤ a2))) else (some false)
set_option maxHeartbeats 8000000 in
set_option maxRecDepth 100000 in
theorem impl_within.calls (a0 : Int) (a1 : Int) (a2 : Int) (r : Bool) (w : World) (h : impl_within.f a0 a1 a2 = some r) :
  Calls Try.prog 84 #[.int .i64 a0, .int .i64 a1, .int .i64 a2] w fun e w' => e = .returned (.bool r) ∧ Drawn0 w w' := by
 have H : (if a0 ≥ a1 then (some (decide (a0 ≤ a2))) else (some false)) = some r := h
 clear h
 by_cases c4 : a0 ≥ a1
 ·
  rw [if_pos c4] at H
  have c4b0 : decide (a1 ≤ a0) = true := decide_eq_true c4
  clear c4
  obtain rfl := Option.some.inj H
  go_enter Try.func84, Try.ntmps84
  go_wp2
  go_ret
  exact ⟨by first | rfl | (simp; done) | (simp [*]; done), by repeat (first | exact Drawn0.refl _ | apply Drawn0.step)⟩
 ·
  rw [if_neg c4] at H
  have c4b0 : decide (a1 ≤ a0) = false := decide_eq_false c4
  clear c4
  obtain rfl := Option.some.inj H
  go_enter Try.func84, Try.ntmps84
  go_wp2
  go_ret
  exact ⟨by first | rfl | (simp; done) | (simp [*]; done), by repeat (first | exact Drawn0.refl _ | apply Drawn0.step)⟩

/-! ### impl_isAddr: function 55 -/
def impl_isAddr.f (a0 : Int) : Option (Bool) := (impl_within.f a0 0 4294967295).bind fun t253 => (some t253)
set_option maxHeartbeats 8000000 in
set_option maxRecDepth 100000 in
theorem impl_isAddr.calls (a0 : Int) (r : Bool) (w : World) (h : impl_isAddr.f a0 = some r) :
  Calls Try.prog 55 #[.int .i64 a0] w fun e w' => e = .returned (.bool r) ∧ Drawn0 w w' := by
 have H : ((impl_within.f a0 0 4294967295).bind fun t253 => (some t253)) = some r := h
 clear h
 replace H := Option.bind_eq_some_iff.mp H
 obtain ⟨t253, A20, H⟩ := H
 replace H : (some t253) = some r := H
 have A2 := Aside0.mk A20
 clear A20
 obtain rfl := Option.some.inj H
 go_enter Try.func55, Try.ntmps55
 go_wp2_with (first | ((with_reducible refine zr (f := 84) rfl ?_); refine zF (some 4) rfl rfl Try.func84 (by kernel_rfl) rfl #[.int .i64 a0, .int .i64 0, .int .i64 4294967295] rfl (by (try simp only [List.map_toArray, List.map_cons, List.map_nil]); first | done | rfl | (simp only [List.length_drop, List.length_take]; rfl)) ?_; (with_reducible refine (impl_within.calls a0 0 4294967295 t253 _ A2.1).mono ?_); rintro e w' ⟨rfl, ⟨nd, rfl⟩⟩; refine ⟨_, rfl, ?_⟩))
 go_ret
 exact ⟨by first | rfl | (simp; done) | (simp [*]; done), by repeat (first | exact Drawn0.refl _ | apply Drawn0.step)⟩

/-! ### impl_sizeOf: function 81 -/
def impl_sizeOf.f (a0 : Int) : Option (Int) := if 0 ≤ (wrap64 (32 - a0)) then (some (shl .i64 1 (wrap64 (32 - a0)))) else (none)
set_option maxHeartbeats 8000000 in
set_option maxRecDepth 100000 in
theorem impl_sizeOf.calls (a0 : Int) (r : Int) (w : World) (h : impl_sizeOf.f a0 = some r) :
  Calls Try.prog 81 #[.int .i64 a0] w fun e w' => e = .returned (.int .i64 r) ∧ Drawn0 w w' := by
 have H : (if 0 ≤ (wrap64 (32 - a0)) then (some (shl .i64 1 (wrap64 (32 - a0)))) else (none)) = some r := h
 clear h
 obtain ⟨ji2, hji2⟩ : ∃ j_ : Int, (wrap64 (32 - a0)) = j_ := ⟨_, rfl⟩
 replace H : (if 0 ≤ (ji2) then (some (shl .i64 1 (ji2))) else (none)) = some r := by first | (rw [hji2] at H; exact H) | (simp only [hji2] at H ⊢; exact H)
 have hji2w : (IntKind.i64.wrap (32 - a0)) = ji2 := (zH _).trans hji2
 by_cases c3 : 0 ≤ (ji2)
 ·
  rw [if_pos c3] at H
  have c3b0 := eq_true c3
  have c3b1 : decide (0 ≤ (ji2)) = true := decide_eq_true c3
  clear c3
  obtain ⟨ji4, hji4⟩ : ∃ j_ : Int, (shl .i64 1 (ji2)) = j_ := ⟨_, rfl⟩
  replace H : (some ji4) = some r := by first | (rw [hji4] at H; exact H) | (simp only [hji4] at H ⊢; exact H)
  have hji4_ : (IntKind.i64.wrap (1 * 2 ^ min (ji2).toNat 64)) = ji4 := hji4
  have hji4z : (ji2) ≤ 64 → (IntKind.i64.wrap (1 * 2 ^ (ji2).toNat)) = ji4 := shl_small hji4
  have hji4u : (IntKind.i64.wrap (2 ^ min (ji2).toNat 64)) = ji4 := by have h_ := hji4_; rw [Int.one_mul] at h_; exact h_
  have hji4v : (ji2) ≤ 64 → (IntKind.i64.wrap (2 ^ (ji2).toNat)) = ji4 := fun hle_ => by have h_ := hji4z hle_; rw [Int.one_mul] at h_; exact h_
  have hji4y : (wrap64 (1 * 2 ^ min (ji2).toNat 64)) = ji4 := (zH _).symm.trans hji4_
  have hji4x : (ji2) ≤ 64 → (wrap64 (1 * 2 ^ (ji2).toNat)) = ji4 := fun h_ => (zH _).symm.trans (hji4z h_)
  obtain rfl := Option.some.inj H
  go_enter Try.func81, Try.ntmps81
  go_wp2
  go_ret
  exact ⟨by first | rfl | (simp; done) | (simp only [← hji2, ← hji4] <;> (first | rfl | simp)) | (simp [*]; done), by repeat (first | exact Drawn0.refl _ | apply Drawn0.step)⟩
 ·
  rw [if_neg c3] at H
  exact absurd H (by simp)

end Go.Proofs.Ytabejlfejlpkeaa.PFnExactCutPrefix
