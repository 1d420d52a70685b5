/- Go functions told by Lean functions, printed by a program. No condition but what each statement says. -/
import Derived.Test.YtabejlfejlpkeaaYFnFewestx11
namespace Go.Proofs.Ytabejlfejlpkeaa.PFnFewest
open Go.RowKit Go.Proofs.YtabejlfejlpkeaaW.PrintWords Go.Proofs.YtabejlfejlpkeaaW.PrintLast Go.Proofs.YtabejlfejlpkeaaW.PrintMore
open Aside0 renaming mk → kz
open Option renaming bind_eq_some_iff → ky
open List renaming map_toArray → kj, map_cons → kk, map_nil → kv
set_option maxHeartbeats 8000000
set_option maxRecDepth 100000
open Go.Proofs.YtabejlfejlpkeaaW.PrintWords renaming pw_below_drewN → za, below_drew1 → zb, below_alloc → zc, blk_drewN → zf, blk_alloc → zg, blk_drew → zj, Aside0 → zm
open Go.Proofs.YtabejlfejlpkeaaW.PrintWords.Kd renaming R_drewN → zd, R_alloc → ze, R_drew → zh, R_mono → zi
open Go.Proofs.YtabejlfejlpkeaaW.PrintWords.LeO renaming none → zk, bind → zl, ite → zn
attribute [local go_sem] max2_int min2_int max_two min_two max_three min_three max_four min_four
set_option linter.unusedVariables false
set_option linter.unusedSimpArgs false

/-! ### spec_l3Fewest: function 61 -/
def spec_l3Fewest.l0 : Nat → List (S45) → List (S45) → Int → Int → Option ((List (S45)))
 | 0, _, _, _, _ => none
 | k + 1, x3, x6, x7, x8 => if x8 < x7 then (if 0 ≤ x8 then (if x8 < (x6.length : Int) then ((spec_l3Put.f k x3 ((rd_T45 x6 x8).f0) ((rd_T45 x6 x8).f1)).bind fun t255 => (spec_l3Fewest.l0 k t255 x6 x7 (wrap64 (x8 + 1)))) else (none)) else (none)) else (some x3)
def spec_l3Fewest.f (k : Nat) (l0 : List (S45)) : Option ((List (S45))) := spec_l3Fewest.l0 k ([] : List (S45)) l0 (l0.length : Int) 0
theorem spec_l3Fewest.mono_l : ∀ k, (∀ y0 y1 y2 y3, LeO (spec_l3Fewest.l0 k y0 y1 y2 y3) (spec_l3Fewest.l0 (k + 1) y0 y1 y2 y3))
 | 0 => fun _ _ _ _ r h => by simp [spec_l3Fewest.l0] at h
 | k + 1 => by
  have ih0 := spec_l3Fewest.mono_l k
  ·
   intro y0 y1 y2 y3; unfold spec_l3Fewest.l0; repeat' first
   | (with_reducible exact ih0 _ _ _ _)
   | (with_reducible exact spec_l3Put.mono _ _ _ _)
   | (with_reducible exact LeO.refl _)
   | (with_reducible refine zn ?_ ?_)
   | (with_reducible refine zl ?_ (fun _ => ?_))
theorem spec_l3Fewest.mono : ∀ a0 k, LeO (spec_l3Fewest.f k a0) (spec_l3Fewest.f (k + 1) a0) := by
 intro a0 k; have ih0 := spec_l3Fewest.mono_l k; unfold spec_l3Fewest.f
 repeat' first
   | (with_reducible exact ih0 _ _ _ _)
theorem spec_l3Fewest.calls (k : Nat) (A0 : Option Addr) (c0 : Nat) (l0 : List (S45)) (r : List (S45)) (w : World) (hr0 : Kd.C k45 w A0 l0.length l0) (hc0 : l0.length ≤ c0) (h : spec_l3Fewest.f k l0 = some r) :
  Calls Try.prog 61 #[.slice A0 l0.length c0] w fun e w' => ∃ v0_ : Value, e = .returned (v0_) ∧ Kd.R k45 45 w' w.heap.size (fun _ => True) v0_ r ∧ Below w.heap.size w w' := by
 have hu45 := Try.underlying45; have HR0 := kz hr0; have HC0 := kz hc0; clear hr0 hc0; have HB := kz (Below.refl w.heap.size w); have H : (spec_l3Fewest.l0 k ([] : List (S45)) l0 (l0.length : Int) 0) = some r := h; clear h; have H' := kz H; clear H; go_enter Try.func61, Try.ntmps61; go_wp2; go_loopg [3, 8] k (fun kq v3 v8 w' => ∃ (x3_1 : List (S45)) (x8_1 : Int), v8 = .int .i64 x8_1 ∧ zm (spec_l3Fewest.l0 kq x3_1 l0 (l0.length : Int) x8_1 = some r) ∧ zm (kq ≤ k) ∧ zm (Kd.R k45 45 w' w.heap.size (fun _ => True) v3 x3_1) ∧ zm (Below w.heap.size w w')); case atStart => exact ⟨(([] : List (S45))), (0), (by rfl), H', ⟨Nat.le_refl _⟩, ⟨by exact Kd.R_nil _ _ _ _ _⟩, ⟨by exact HB.1⟩⟩
 case round =>
  clear H'; obtain ⟨x3_1, x8_1, rfl, HA, HK1, HO_3, HB⟩ := hrel; cases gk with
  | zero => exact absurd HA.1 (by simp [spec_l3Fewest.l0])
  | succ k1 =>
   have H := HA.1; clear HA; simp only [spec_l3Fewest.l0] at H; by_cases c2 : x8_1 < (l0.length : Int)
   ·
    rw [if_pos c2] at H; have c2b0 : decide (x8_1 < (l0.length : Int)) = true := decide_eq_true c2; clear c2; by_cases c3 : 0 ≤ x8_1
    ·
     rw [if_pos c3] at H; have c3b0 : decide (0 ≤ x8_1) = true := decide_eq_true c3; clear c3; by_cases c4 : x8_1 < (l0.length : Int)
     ·
      rw [if_pos c4] at H; have c4b0 : decide (x8_1 < (l0.length : Int)) = true := decide_eq_true c4; clear c4; replace H := ky.mp H; obtain ⟨t255, A50, H⟩ := H; replace H : (spec_l3Fewest.l0 k1 t255 l0 (l0.length : Int) (wrap64 (x8_1 + 1))) = some r := H; have A5 := kz A50; clear A50; have H' := kz H; clear H; have p253 : 0 ≤ (x8_1 : Int) := of_decide_eq_true (by (with_reducible assumption)); have q253 : x8_1 < (l0.length : Int) := of_decide_eq_true (by (with_reducible assumption)); obtain ⟨ad253, e253, hx253_0, hx253_1⟩ := at_T45 HR0.1 x8_1 p253 q253; cases e253; replace hx253_0 := (HB.1.cell (World.block_lt_of_cell? w _ hx253_0)).trans hx253_0; replace hx253_1 := (HB.1.cell (World.block_lt_of_cell? w _ hx253_1)).trans hx253_1; replace p253 := eq_true p253; replace q253 := eq_true q253
      go_wp2_with (first | ((with_reducible refine gate_dst (N := 5) rfl ?_); refine box_event ?hg (N := 5) ?hd (cs := #[.int .i64 0, .int .i64 0]) (t := 45) ?hr ?_; (case hd => rfl); (case hg => rfl); (case hr => (go_simp; done)); intro gb254 hg w6 hbox hb; replace HO_3 := kz (Kd.R_below (Kd.R_elderB HO_3.1 gb254 (Nat.le_of_eq hg.symm)) hb); have zp := kz hbox; have GE254 := kz ((by rw [hg]; exact (below_size HB.1) : w.heap.size ≤ gb254)); replace HB := kz (below_step HB.1 hb); clear hb hbox hg; have hcz7_0 : w6.cell? ⟨gb254, 0, none⟩ = some (.int .i64 0) := (blk_cell zp.1 0).trans rfl; have hcz7_1 : w6.cell? ⟨gb254, 1, none⟩ = some (.int .i64 0) := (blk_cell zp.1 1).trans rfl; have hfz7_0 := blk_frozen zp.1 0; have hfz7_1 := blk_frozen zp.1 1) | ((with_reducible refine gate_store (t := 45) (p := 5) rfl ?_); refine store_event (t := 45) (p := 5) (v := ?vo_w8) (w1 := ((w6.setCell ⟨gb254, 0, none⟩ (.int .i64 ((rd_T45 l0 x8_1).f0))).setCell ⟨gb254, 1, none⟩ (.int .i64 ((rd_T45 l0 x8_1).f1)))) ?hg ?ho ?hn ?hr ?_; (case ho => rfl); (case hg => rfl); (case hn => rfl); (case hr => (go_simp; done)); intro w8 hw; have n0_ : zm (Kd.R k45 45 w8 w.heap.size (fun k_ => k_ ≠ gb254) u3 x3_1) := ⟨(by rw [hw]; exact (by exact zi (Kd.R_far (p := ⟨gb254, 1, none⟩) (Kd.R_far (p := ⟨gb254, 0, none⟩) (zi HO_3.1 (fun k_ hk => (⟨hk, hk.2⟩ : _ ∧ k_ ≠ gb254))) (fun _ hk => hk.2) (.int .i64 ((rd_T45 l0 x8_1).f0))) (fun _ hk => hk.2) (.int .i64 ((rd_T45 l0 x8_1).f1))) (fun _ hk => hk.1.2)))⟩; have n1_ : zm (w8.heap[gb254]? = some (.cells #[.int .i64 ((rd_T45 l0 x8_1).f0), .int .i64 ((rd_T45 l0 x8_1).f1)] 45 (0, 0))) := ⟨(by rw [hw]; exact (by refine blk_put (cs := #[.int .i64 ((rd_T45 l0 x8_1).f0), .int .i64 0]) ?_ 1 _ rfl; refine blk_put (cs := #[.int .i64 0, .int .i64 0]) ?_ 0 _ rfl; exact zp.1))⟩; have n2_ : zm (Below w.heap.size w w8) := ⟨(by rw [hw]; exact (by repeat ((with_reducible first | exact HB.1 | refine below_set ?_ GE254.1))))⟩; clear hw HO_3 zp HB; have HO_3 := n0_; have zp := n1_; have HB := n2_; clear n0_ n1_ n2_; have hcz9_0 : w8.cell? ⟨gb254, 0, none⟩ = some (.int .i64 ((rd_T45 l0 x8_1).f0)) := (blk_cell zp.1 0).trans rfl; have hcz9_1 : w8.cell? ⟨gb254, 1, none⟩ = some (.int .i64 ((rd_T45 l0 x8_1).f1)) := (blk_cell zp.1 1).trans rfl; have hfz9_0 := blk_frozen zp.1 0; have hfz9_1 := blk_frozen zp.1 1; obtain ⟨Ao10, co10, eo10⟩ := Kd.R_slice HO_3.1; subst eo10) | ((with_reducible refine gate_callee (f := 66) rfl ?_); refine goesL_ (some 14) rfl rfl Try.func66 (by kernel_rfl) rfl #[.slice Ao10 x3_1.length co10, .agg #[.int .i64 ((rd_T45 l0 x8_1).f0), .int .i64 ((rd_T45 l0 x8_1).f1)]] rfl (by (try simp only [kj, kk, kv]); rfl) ?_; (with_reducible refine (spec_l3Put.calls k1 (fun k_ => some k_ = (.slice Ao10 x3_1.length co10 : Value).ownBlock) (.slice Ao10 x3_1.length co10) x3_1 ((rd_T45 l0 x8_1).f0) ((rd_T45 l0 x8_1).f1) t255 w _ ?side1 ?side2 A5.1).mono ?_); (case side1 => repeat (with_reducible exact HB.1)); (case side2 => exact Kd.R_tight rfl HO_3.1); rintro e w11 ⟨v256, rfl, ho0, hb, hkp⟩; refine ⟨_, rfl, ?_⟩; have HO257 := kz (zi (ok' := fun k_ => k_ ≠ gb254) ho0 (fun k_ hk_ => Or.elim hk_ (fun hs_ => fun e_ => (Kd.R_away HO_3.1 (fun _ hk => hk)) (by rw [← e_]; exact hs_)) (fun hn_ => (Kd.freshB (g := gb254) (o := .cells #[.int .i64 ((rd_T45 l0 x8_1).f0), .int .i64 ((rd_T45 l0 x8_1).f1)] 45 (0, 0)) zp.1 k_ hn_)))); replace HB := kz hb; (try clear ho0))); go_roundg k1; case measure => have := HK1.1; omega
      case rel => exact ⟨(t255), (wrap64 (x8_1 + 1)), (by rfl), H', ⟨by have := HK1.1; omega⟩, ⟨by exact zi HO257.1 (fun _ hk => trivial)⟩, ⟨by exact HB.1⟩⟩
     · rw [if_neg c4] at H; exact absurd H (by simp)
    · rw [if_neg c3] at H; exact absurd H (by simp)
   · rw [if_neg c2] at H; have c2b0 : decide (x8_1 < (l0.length : Int)) = false := decide_eq_false c2; clear c2; obtain rfl := Option.some.inj H; go_wp2; go_ret; exact ⟨_, by rfl, by exact HO_3.1, by exact HB.1⟩

/-! ### spec_CountAddrs: function 24 -/
def spec_CountAddrs.l0 : Nat → Int → List (S45) → Int → Int → Option (Int × Bool)
 | 0, _, _, _, _ => none
 | k + 1, x4, x11, x12, x13 => if x13 < x12 then (if 0 ≤ x13 then (if x13 < (x11.length : Int) then ((spec_l1Size.f ((rd_T45 x11 x13).f0) ((rd_T45 x11 x13).f1)).bind fun t264 => (spec_CountAddrs.l0 k (wrap64 (x4 + t264)) x11 x12 (wrap64 (x13 + 1)))) else (none)) else (none)) else (some (x4, true))
def spec_CountAddrs.f (k : Nat) (l0 : List (S45)) : Option (Int × Bool) := (spec_l3Good.f k l0).bind fun t258 => (if t258 = true then ((spec_l3Fewest.f k l0).bind fun t259 => (spec_CountAddrs.l0 k 0 t259 (t259.length : Int) 0)) else (some (0, false)))
theorem spec_CountAddrs.mono_l : ∀ k, (∀ y0 y1 y2 y3, LeO (spec_CountAddrs.l0 k y0 y1 y2 y3) (spec_CountAddrs.l0 (k + 1) y0 y1 y2 y3))
 | 0 => fun _ _ _ _ r h => by simp [spec_CountAddrs.l0] at h
 | k + 1 => by
  have ih0 := spec_CountAddrs.mono_l k
  ·
   intro y0 y1 y2 y3; unfold spec_CountAddrs.l0; repeat' first
   | (with_reducible exact ih0 _ _ _ _)
   | (with_reducible exact LeO.refl _)
   | (with_reducible refine zn ?_ ?_)
   | (with_reducible refine zl ?_ (fun _ => ?_))
theorem spec_CountAddrs.mono : ∀ a0 k, LeO (spec_CountAddrs.f k a0) (spec_CountAddrs.f (k + 1) a0) := by
 intro a0 k; have ih0 := spec_CountAddrs.mono_l k; unfold spec_CountAddrs.f
 repeat' first
   | (with_reducible exact ih0 _ _ _ _)
   | (with_reducible exact spec_l3Fewest.mono _ _)
   | (with_reducible exact spec_l3Good.mono _ _)
   | (with_reducible exact LeO.refl _)
   | (with_reducible refine zn ?_ ?_)
   | (with_reducible refine zl ?_ (fun _ => ?_))
theorem spec_CountAddrs.calls (k : Nat) (A0 : Option Addr) (c0 : Nat) (l0 : List (S45)) (r1 : Int) (r2 : Bool) (w : World) (hr0 : Kd.C k45 w A0 l0.length l0) (hc0 : l0.length ≤ c0) (h : spec_CountAddrs.f k l0 = some (r1, r2)) :
  Calls Try.prog 24 #[.slice A0 l0.length c0] w fun e w' => e = .returned (.tuple #[.int .i64 r1, .bool r2]) ∧ Below w.heap.size w w' := by
 have hu45 := Try.underlying45; have HR0 := kz hr0; have HC0 := kz hc0; clear hr0 hc0; have HB := kz (Below.refl w.heap.size w); have H : ((spec_l3Good.f k l0).bind fun t258 => (if t258 = true then ((spec_l3Fewest.f k l0).bind fun t259 => (spec_CountAddrs.l0 k 0 t259 (t259.length : Int) 0)) else (some (0, false)))) = some (r1, r2) := h; clear h; replace H := ky.mp H; obtain ⟨t258, A20, H⟩ := H; replace H : (if t258 = true then ((spec_l3Fewest.f k l0).bind fun t259 => (spec_CountAddrs.l0 k 0 t259 (t259.length : Int) 0)) else (some (0, false))) = some (r1, r2) := H; have A2 := kz A20; clear A20; by_cases c3 : t258 = true
 ·
  subst c3; have H1 : ((spec_l3Fewest.f k l0).bind fun t259 => (spec_CountAddrs.l0 k 0 t259 (t259.length : Int) 0)) = some (r1, r2) := by rw [if_pos rfl] at H; exact H
  clear H; have H := H1; clear H1; replace H := ky.mp H; obtain ⟨t259, A40, H⟩ := H; replace H : (spec_CountAddrs.l0 k 0 t259 (t259.length : Int) 0) = some (r1, r2) := H; have A4 := kz A40; clear A40; have H' := kz H; clear H; go_enter Try.func24, Try.ntmps24; go_wp2_with (first | ((with_reducible refine gate_callee (f := 44) rfl ?_); refine goesL_ (some 8) rfl rfl Try.func44 (by kernel_rfl) rfl #[.slice A0 l0.length c0] rfl (by (try simp only [kj, kk, kv]); rfl) ?_; (with_reducible refine (spec_l3Good.calls k _ _ l0 true _ ?side1 ?side2 A2.1).mono ?_); (case side1 => repeat (exact HR0.1)); (case side2 => exact HC0.1); rintro e w5 ⟨rfl, hb⟩; refine ⟨_, rfl, ?_⟩; replace HB := kz (below_step HB.1 hb); (try clear hi)) | ((with_reducible refine gate_callee (f := 61) rfl ?_); refine goesL_ (some 11) rfl rfl Try.func61 (by kernel_rfl) rfl #[.slice A0 l0.length c0] rfl (by (try simp only [kj, kk, kv]); rfl) ?_; (with_reducible refine (spec_l3Fewest.calls k _ _ l0 t259 _ ?side1 ?side2 A4.1).mono ?_); (case side1 => repeat (exact (Kd.C_below HR0.1 HB.1))); (case side2 => exact HC0.1); rintro e w6 ⟨v260, rfl, ho0, hb⟩; refine ⟨_, rfl, ?_⟩; have HO261 := kz (Kd.R_lower ho0 (below_size HB.1)); replace HB := kz (below_step HB.1 hb); obtain ⟨Ao7, co7, eo7⟩ := Kd.R_slice HO261.1; subst eo7)); go_loopg [4, 13] k (fun kq v4 v13 w' => ∃ (x4_1 : Int) (zo : Int), v4 = .int .i64 x4_1 ∧ v13 = .int .i64 zo ∧ zm (spec_CountAddrs.l0 kq x4_1 t259 (t259.length : Int) zo = some (r1, r2)) ∧ zm (kq ≤ k) ∧ zm (Kd.R k45 45 w' w.heap.size (fun _ => True) (.slice Ao7 t259.length co7) t259) ∧ zm (Below w.heap.size w w')); case atStart => exact ⟨(0), (0), (by rfl), (by rfl), H', ⟨Nat.le_refl _⟩, ⟨by exact HO261.1⟩, ⟨by exact HB.1⟩⟩
  case round =>
   clear H'; obtain ⟨x4_1, zo, rfl, rfl, HA, HK1, zq, HB⟩ := hrel; cases gk with
   | zero => exact absurd HA.1 (by simp [spec_CountAddrs.l0])
   | succ k1 =>
    have H := HA.1; clear HA; simp only [spec_CountAddrs.l0] at H; by_cases c8 : zo < (t259.length : Int)
    ·
     rw [if_pos c8] at H; have c8b0 : decide (zo < (t259.length : Int)) = true := decide_eq_true c8; clear c8; by_cases c9 : 0 ≤ zo
     ·
      rw [if_pos c9] at H; have c9b0 : decide (0 ≤ zo) = true := decide_eq_true c9; clear c9; by_cases c10 : zo < (t259.length : Int)
      ·
       rw [if_pos c10] at H; have c10b0 : decide (zo < (t259.length : Int)) = true := decide_eq_true c10; clear c10; replace H := ky.mp H; obtain ⟨t264, A110, H⟩ := H; replace H : (spec_CountAddrs.l0 k1 (wrap64 (x4_1 + t264)) t259 (t259.length : Int) (wrap64 (zo + 1))) = some (r1, r2) := H; have A11 := kz A110; clear A110; have H' := kz H; clear H; have p262 : 0 ≤ (zo : Int) := of_decide_eq_true (by (with_reducible assumption)); have q262 : zo < (t259.length : Int) := of_decide_eq_true (by (with_reducible assumption)); obtain ⟨ad262, e262, hx262_0, hx262_1⟩ := at_T45 (Kd.R_reads' zq.1).2.2 zo p262 q262; cases e262; replace p262 := eq_true p262; replace q262 := eq_true q262; go_wp2_with (first | ((with_reducible refine gate_dst (N := 6) rfl ?_); refine box_event ?hg (N := 6) ?hd (cs := #[.int .i64 0, .int .i64 0]) (t := 45) ?hr ?_; (case hd => rfl); (case hg => rfl); (case hr => (go_simp; done)); intro gb263 hg w12 hbox hb; replace zq := kz (Kd.R_below (Kd.R_elderB zq.1 gb263 (Nat.le_of_eq hg.symm)) hb); have zr := kz hbox; have GE263 := kz ((by rw [hg]; exact (below_size HB.1) : w.heap.size ≤ gb263)); replace HB := kz (below_step HB.1 hb); clear hb hbox hg; have hcz13_0 : w12.cell? ⟨gb263, 0, none⟩ = some (.int .i64 0) := (blk_cell zr.1 0).trans rfl; have hcz13_1 : w12.cell? ⟨gb263, 1, none⟩ = some (.int .i64 0) := (blk_cell zr.1 1).trans rfl; have hfz13_0 := blk_frozen zr.1 0; have hfz13_1 := blk_frozen zr.1 1) | ((with_reducible refine gate_callee (f := 62) rfl ?_); refine goesL_ (some 19) rfl rfl Try.func62 (by kernel_rfl) rfl #[.agg #[.int .i64 ((rd_T45 t259 zo).f0), .int .i64 ((rd_T45 t259 zo).f1)]] rfl (by (try simp only [kj, kk, kv]); rfl) ?_; (with_reducible refine (spec_l1Size.calls ((rd_T45 t259 zo).f0) ((rd_T45 t259 zo).f1) t264 _ A11.1).mono ?_); rintro e w14 ⟨rfl, hb⟩; refine ⟨_, rfl, ?_⟩; replace zq := kz (Kd.R_below (by exact (zi (Kd.R_far (p := ⟨gb263, 1, none⟩) (Kd.R_far (p := ⟨gb263, 0, none⟩) (zi zq.1 (fun k_ hk => (⟨hk, hk.2⟩ : _ ∧ k_ ≠ gb263))) (fun _ hk => hk.2) (.int .i64 ((rd_T45 t259 zo).f0))) (fun _ hk => hk.2) (.int .i64 ((rd_T45 t259 zo).f1))) (fun _ h_ => h_.1))) hb); replace HB := kz (below_step (by repeat ((with_reducible first | exact HB.1 | refine below_set ?_ GE263.1))) hb); (try clear hi))); go_roundg k1; case measure => have := HK1.1; omega
       case rel => exact ⟨(wrap64 (x4_1 + t264)), (wrap64 (zo + 1)), (by rfl), (by rfl), H', ⟨by have := HK1.1; omega⟩, ⟨by exact zi zq.1 (fun _ hk => trivial)⟩, ⟨by exact HB.1⟩⟩
      · rw [if_neg c10] at H; exact absurd H (by simp)
     · rw [if_neg c9] at H; exact absurd H (by simp)
    · rw [if_neg c8] at H; have c8b0 : decide (zo < (t259.length : Int)) = false := decide_eq_false c8; clear c8; simp only [Option.some.injEq, Prod.mk.injEq] at H; obtain ⟨rfl, rfl⟩ := H; go_wp2; go_ret2; exact ⟨by rfl, by exact HB.1⟩
 ·
  replace c3 := Bool.eq_false_iff.mpr c3; subst c3; have H1 : (some (0, false)) = some (r1, r2) := by rw [if_neg (show ¬ (false = true) by decide)] at H; exact H
  clear H; have H := H1; clear H1; simp only [Option.some.injEq, Prod.mk.injEq] at H; obtain ⟨rfl, rfl⟩ := H; go_enter Try.func24, Try.ntmps24; go_wp2_with (((with_reducible refine gate_callee (f := 44) rfl ?_); refine goesL_ (some 8) rfl rfl Try.func44 (by kernel_rfl) rfl #[.slice A0 l0.length c0] rfl (by (try simp only [kj, kk, kv]); rfl) ?_; (with_reducible refine (spec_l3Good.calls k _ _ l0 false _ ?side1 ?side2 A2.1).mono ?_); (case side1 => repeat (exact HR0.1)); (case side2 => exact HC0.1); rintro e w15 ⟨rfl, hb⟩; refine ⟨_, rfl, ?_⟩; replace HB := kz (below_step HB.1 hb); (try clear hi))); go_ret2; exact ⟨by rfl, by exact HB.1⟩

end Go.Proofs.Ytabejlfejlpkeaa.PFnFewest
