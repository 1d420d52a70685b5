/- Written by this session's own program over the kit's print: Lean functions that tell what Go functions answer, each with a proof that the call does so. No condition but what each statement says. -/
import Derived.Test.YtkkchcalhomgcaaYFnExactTakesEmptyx3
namespace Go.Proofs.Ytkkchcalhomgcaa.PFnExactTakesEmpty
open Go.RowKit Go.Proofs.YtkkchcalhomgcaaW.PrintWords Go.Proofs.YtkkchcalhomgcaaW.PrintLast Go.Proofs.YtkkchcalhomgcaaW.PrintMore
attribute [local go_sem] max2_int min2_int max_two min_two max_three min_three max_four min_four   -- for this text's walks alone
set_option linter.unusedVariables false
set_option linter.unusedSimpArgs false

section
variable {α : Type}
/-- A pointer to a block of a type of its own, that holds one of a kind. -/
def ptrK (t : Nat) (d : Kd α) : Kd α where
  sz := 1
  E := t :: d.E
  K := fun w x cs => ∃ g cells, cs = [.pointer (some ⟨g, 0, none⟩)] ∧ w.heap[g]? = some (.cells cells t (0, 0)) ∧ d.K w x cells.toList
  M := fun w base ok x cs => ∃ g cells, cs = [.pointer (some ⟨g, 0, none⟩)] ∧ w.heap[g]? = some (.cells cells t (0, 0)) ∧ base ≤ g ∧ ok g ∧ d.M w base (fun k => ok k ∧ k ≠ g) x cells.toList
  K_len := by
    rintro w x cs ⟨g, cells, rfl, _⟩
    rfl
  K_one := by
    rintro w x cs ⟨g, cells, rfl, _⟩ u hu
    rw [List.mem_singleton.1 hu]
    rfl
  K_below := by
    rintro w w1 x cs hb ⟨g, cells, rfl, hg, hk⟩
    exact ⟨g, cells, rfl, (hb.block g (Array.getElem?_eq_some_iff.1 hg).1).trans hg, d.K_below hb hk⟩
  K_of_M := by
    rintro w base ok x cs ⟨g, cells, rfl, hg, _, _, hm⟩
    exact ⟨g, cells, rfl, hg, d.K_of_M hm⟩
  M_mono := by
    rintro w base ok ok' x cs hok ⟨g, cells, rfl, hg, hb, ho, hm⟩
    exact ⟨g, cells, rfl, hg, hb, hok g ho, d.M_mono (fun k hk => ⟨hok k hk.1, hk.2⟩) hm⟩
  M_bound := by
    rintro w base ok x cs ⟨g, cells, rfl, hg, hb, ho, hm⟩
    refine ⟨g, cells, rfl, hg, hb, ⟨ho, hb, (Array.getElem?_eq_some_iff.1 hg).1, t, List.mem_cons_self .., cells, hg⟩, d.M_mono ?_ (d.M_bound hm)⟩
    rintro k ⟨⟨h1, h2⟩, h3, h4, q, hq, hc⟩
    exact ⟨⟨h1, h3, h4, q, List.mem_cons_of_mem _ hq, hc⟩, h2⟩
  M_move := by
    rintro w w1 base ok x cs hm ⟨g, cells, rfl, hg, hb, ho, h⟩
    exact ⟨g, cells, rfl, (hm g ho).trans hg, hb, ho, d.M_move (fun k hk => hm k hk.1) h⟩
  M_lower := by
    rintro w base base' ok x cs hl ⟨g, cells, rfl, hg, hb, ho, h⟩
    exact ⟨g, cells, rfl, hg, Nat.le_trans hl hb, ho, d.M_lower hl h⟩
theorem mono_ptr {β : Type} (t : Nat) {G : Kd α → Kd β} (hG : Kd.Mono G) : Kd.Mono (fun d => ptrK t (G d)) := by
  refine ⟨fun _ _ _ => rfl, ?_, ?_⟩
  · rintro d d' hs h w x cs ⟨g, cells, rfl, hg, hk⟩
    exact ⟨g, cells, rfl, hg, hG.K d d' hs h _ _ _ hk⟩
  · rintro d d' hs h w base ok x cs ⟨g, cells, rfl, hg, hb, ho, hm⟩
    exact ⟨g, cells, rfl, hg, hb, ho, hG.M d d' hs h _ _ _ _ _ hm⟩
theorem sub_ptr {β : Type} {E : List Nat} (t : Nat) {G : Kd α → Kd β} (ht : t ∈ E) (hG : Kd.Sub G E) : Kd.Sub (fun d => ptrK t (G d)) E := fun d h q hq => by
  rcases List.mem_cons.1 hq with rfl | hq
  · exact ht
  · exact hG d h q hq
end
/-- A pattern as impl.treeOf lays it: a pointer to a block (type 145) with the cell's two numbers and a row of pointers to patterns. -/
def FP (d : Kd S105) : Kd S105 := ptrK 145 (Kd.iso (Kd.pair (Kd.int .i64) (Kd.pair (Kd.int .i64) (Kd.slice 116 d))) (fun x : S105 => (x.f0, x.f1, x.f2)))
theorem monoP : Kd.Mono FP := mono_ptr 145 (Kd.mono_iso _ (Kd.mono_pair (Kd.mono_const _) (Kd.mono_pair (Kd.mono_const _) (Kd.mono_slice 116 Kd.mono_id))))
theorem subP : Kd.Sub FP [145, 116] := sub_ptr 145 (by decide) (Kd.sub_iso _ (Kd.sub_pair (Kd.sub_const _ (by decide)) (Kd.sub_pair (Kd.sub_const _ (by decide)) (Kd.sub_slice 116 (by decide) Kd.sub_id))))
theorem szP : ∀ n, (Kd.upto FP 1 [145, 116] n).sz = 1 := Kd.upto_sz (fun _ => rfl)
def kP : Kd S105 := Kd.fix FP 1 [145, 116] szP (Kd.upto_E subP)
theorem kP_open {w : World} {x : S105} {cs : List Value} (h : kP.K w x cs) : ∃ g A2 c2, cs = [.pointer (some ⟨g, 0, none⟩)] ∧ w.heap[g]? = some (.cells #[.int .i64 x.f0, .int .i64 x.f1, .slice A2 x.f2.length c2] 145 (0, 0)) ∧ x.f2.length ≤ c2 ∧ kP.C w A2 x.f2.length x.f2 := by
  obtain ⟨n, h⟩ := h
  cases n with
  | zero => exact h.elim
  | succ n =>
    obtain ⟨g, ⟨cl⟩, rfl, hg, ⟨_, _, e, rfl, ⟨_, _, rfl, rfl, ⟨A2, c2, rfl, l2, g2⟩⟩⟩⟩ := h
    have e : cl = _ := e
    subst e
    exact ⟨g, A2, c2, rfl, hg, l2, Kd.fix_C g2⟩
theorem kP_mkM (w : World) (base : Nat) (ok : Nat → Prop) (x : S105) (g : Nat) {v2 : Value} (hg : w.heap[g]? = some (.cells #[.int .i64 x.f0, .int .i64 x.f1, v2] 145 (0, 0))) (hb : base ≤ g) (ho : ok g) (g2 : kP.R 116 w base (fun k => ok k ∧ k ≠ g) v2 x.f2) : kP.M w base ok x [.pointer (some ⟨g, 0, none⟩)] := by
  obtain ⟨n2, q2⟩ := Kd.fix_R_back monoP g2
  have r2 := Kd.upto_R_le monoP szP (show n2 ≤ n2 by omega) q2
  exact ⟨n2 + 1, ⟨g, _, rfl, hg, hb, ho, ⟨[.int .i64 x.f0], [.int .i64 x.f1, v2], rfl, rfl, ⟨[.int .i64 x.f1], [v2], rfl, rfl, ⟨v2, rfl, r2⟩⟩⟩⟩⟩
theorem at_P {w : World} {A : Option Addr} {n : Nat} {xs : List S105} (h : Kd.C kP w A n xs) (i : Int) (h0 : 0 ≤ i) (h1 : i < n) : ∃ ad g, A = some ad ∧ w.cell? (ad.add i.toNat) = some (.pointer (some ⟨g, 0, none⟩)) ∧ kP.K w (rd_T105 xs i) [.pointer (some ⟨g, 0, none⟩)] := by
  obtain ⟨ad, c, e, hl, hK, hc0⟩ := Kd.C_get h z105 i h0 h1
  obtain ⟨g, A2, c2, rfl, _⟩ := kP_open hK
  refine ⟨ad, g, e, ?_, hK⟩
  have := hc0 0 _ rfl
  simpa [show kP.sz = 1 from rfl] using this
/-! ### impl_empty: function 88 (the method of a pattern) -/
def impl_empty.f : Nat → S105 → Option Bool
  | 0, _ => none
  | k + 1, t => if t.f0 = 2 then some true else if t.f0 = 7 then some true else if t.f0 = 5 then (if 1 < (t.f2.length : Int) then (impl_empty.f k (rd_T105 t.f2 0)).bind fun a => (if a = true then impl_empty.f k (rd_T105 t.f2 1) else some false) else none) else if t.f0 = 6 then (if 1 < (t.f2.length : Int) then (impl_empty.f k (rd_T105 t.f2 0)).bind fun a => (if a = true then some true else impl_empty.f k (rd_T105 t.f2 1)) else none) else some false
set_option maxHeartbeats 8000000 in
set_option maxRecDepth 100000 in
theorem impl_empty.calls : ∀ (k : Nat) (t : S105) (g : Nat) (r : Bool) (w : World), kP.K w t [.pointer (some ⟨g, 0, none⟩)] → impl_empty.f k t = some r →
    Calls Try.prog 88 #[.pointer (some ⟨g, 0, none⟩)] w fun e w' => e = .returned (.bool r) ∧ Below w.heap.size w w'
  | 0, t, g, r, w, hk, h => by simp [impl_empty.f] at h
  | k + 1, t, g, r, w, hk, h => by
    have ih := impl_empty.calls k
    have hu145 := Try.underlying145
    have hu109 := Try.underlying109
    have HB := Aside0.mk (Below.refl w.heap.size w)
    obtain ⟨g', A2, c2, e, hg, hl, hC⟩ := kP_open hk
    obtain rfl : g' = g := by simpa using e.symm
    clear e hk
    have hz0 : w.cell? ⟨g', 0, none⟩ = some (.int .i64 t.f0) := (blk_cell hg 0).trans rfl
    have hz2 : w.cell? ⟨g', 2, none⟩ = some (.slice A2 t.f2.length c2) := (blk_cell hg 2).trans rfl
    have HC := Aside0.mk hC
    clear hg hl hC
    simp only [impl_empty.f] at h
    by_cases h2 : t.f0 = 2
    · rw [if_pos h2] at h
      have hb2 : (t.f0 == 2) = true := beq_iff_eq.2 h2
      obtain rfl := Option.some.inj h
      go_enter Try.func88, Try.ntmps88
      go_wp2
      go_ret
      exact ⟨by first | rfl | (simp; done) | (simp [*]; done), by repeat (first | (with_reducible first | exact HB.out | apply below_alloc | apply pw_below_drewN | apply below_drew1) | exact HB.out)⟩
    rw [if_neg h2] at h
    by_cases h7 : t.f0 = 7
    · rw [if_pos h7] at h
      have hb2 : (t.f0 == 2) = false := beq_eq_false_iff_ne.2 h2
      have hb7 : (t.f0 == 7) = true := beq_iff_eq.2 h7
      obtain rfl := Option.some.inj h
      go_enter Try.func88, Try.ntmps88
      go_wp2
      go_ret
      exact ⟨by first | rfl | (simp; done) | (simp [*]; done), by repeat (first | (with_reducible first | exact HB.out | apply below_alloc | apply pw_below_drewN | apply below_drew1) | exact HB.out)⟩
    rw [if_neg h7] at h
    by_cases h5 : t.f0 = 5
    · rw [if_pos h5] at h
      have hb2 : (t.f0 == 2) = false := beq_eq_false_iff_ne.2 h2
      have hb7 : (t.f0 == 7) = false := beq_eq_false_iff_ne.2 h7
      have hb5 : (t.f0 == 5) = true := beq_iff_eq.2 h5
      by_cases hl1 : 1 < (t.f2.length : Int)
      · rw [if_pos hl1] at h
        obtain ⟨a, ha, h⟩ := Option.bind_eq_some_iff.mp h
        obtain ⟨ad, g0, rfl, hx0, hK0⟩ := at_P HC.out 0 (by omega) (by omega)
        obtain ⟨ad1, g1, e1, hx1, hK1⟩ := at_P HC.out 1 (by omega) (by omega)
        cases e1
        have HKg0 := Aside0.mk hK0
        have HKg1 := Aside0.mk hK1
        clear hK0 hK1 HC
        replace hx0 : w.cell? ad = some (.pointer (some ⟨g0, 0, none⟩)) := by have h_ : w.cell? (ad.add 0) = some (.pointer (some ⟨g0, 0, none⟩)) := hx0; rwa [show ad.add 0 = ad from by unfold Addr.add; simp] at h_
        replace hx1 : w.cell? ⟨ad.block, ad.off + 1, none⟩ = some (.pointer (some ⟨g1, 0, none⟩)) := by have h_ : w.cell? (ad.add 1) = some (.pointer (some ⟨g1, 0, none⟩)) := hx1; rwa [show ad.add 1 = ⟨ad.block, ad.off + 1, none⟩ from by unfold Addr.add; simp] at h_
        have q0 : (0 : Int) < (t.f2.length : Int) := by omega
        replace q0 := eq_true q0
        have q1 := eq_true hl1
        have q0n : (0 < t.f2.length) = True := eq_true (by omega)
        have q1n : (1 < t.f2.length) = True := eq_true (by omega)
        clear hl1
        have ha0 := Aside0.mk ha
        clear ha
        cases a with
        | true =>
          rw [if_pos rfl] at h
          have h1 := Aside0.mk h
          clear h
          go_enter Try.func88, Try.ntmps88
          go_wp2_with (first | ((with_reducible refine gate_dst (N := 19) rfl ?_); refine goesL_ (some 19) rfl rfl Try.func88 (by kernel_rfl) rfl #[.pointer (some ⟨g0, 0, none⟩)] rfl (by (try simp only [List.map_toArray, List.map_cons, List.map_nil]); first | done | rfl) ?_; (with_reducible refine (ih (rd_T105 t.f2 0) g0 true _ ?kk ha0.out).mono ?_); (case kk => exact kP.K_below (by repeat (first | (with_reducible first | exact HB.out | apply below_alloc | apply pw_below_drewN | apply below_drew1) | exact HB.out)) HKg0.out); rintro e_ wg0_ ⟨rfl, hb⟩; refine ⟨_, rfl, ?_⟩; have n0_ := Aside0.mk (below_step (by repeat (first | (with_reducible first | exact HB.out | apply below_alloc | apply pw_below_drewN | apply below_drew1) | exact HB.out)) hb); clear HB; have HB := n0_; clear n0_ hb; have hy2 : wg0_.cell? ⟨g', 2, none⟩ = some (.slice (some ad) t.f2.length c2) := (HB.out.cell (World.block_lt_of_cell? w _ hz2)).trans hz2; have hy1 : wg0_.cell? ⟨ad.block, ad.off + 1, none⟩ = some (.pointer (some ⟨g1, 0, none⟩)) := (HB.out.cell (World.block_lt_of_cell? w _ hx1)).trans hx1) | ((with_reducible refine gate_dst (N := 27) rfl ?_); (try (refine gate_guard (by rfl) ?_; dsimp only)); refine goesL_ (some 27) rfl rfl Try.func88 (by kernel_rfl) rfl #[.pointer (some ⟨g1, 0, none⟩)] rfl (by (try simp only [List.map_toArray, List.map_cons, List.map_nil]); first | done | rfl) ?_; (with_reducible refine (ih (rd_T105 t.f2 1) g1 r _ ?kk h1.out).mono ?_); (case kk => exact kP.K_below (by repeat (first | (with_reducible first | exact HB.out | apply below_alloc | apply pw_below_drewN | apply below_drew1) | exact HB.out)) HKg1.out); rintro e_ wg1_ ⟨rfl, hb⟩; refine ⟨_, rfl, ?_⟩; have n0_ := Aside0.mk (below_step (by repeat (first | (with_reducible first | exact HB.out | apply below_alloc | apply pw_below_drewN | apply below_drew1) | exact HB.out)) hb); clear HB; have HB := n0_; clear n0_ hb))
          go_ret
          exact ⟨by first | rfl | (simp; done) | (simp [*]; done), by repeat (first | (with_reducible first | exact HB.out | apply below_alloc | apply pw_below_drewN | apply below_drew1) | exact HB.out)⟩
        | false =>
          rw [if_neg (by simp)] at h
          obtain rfl := Option.some.inj h
          go_enter Try.func88, Try.ntmps88
          go_wp2_with (((with_reducible refine gate_dst (N := 19) rfl ?_); refine goesL_ (some 19) rfl rfl Try.func88 (by kernel_rfl) rfl #[.pointer (some ⟨g0, 0, none⟩)] rfl (by (try simp only [List.map_toArray, List.map_cons, List.map_nil]); first | done | rfl) ?_; (with_reducible refine (ih (rd_T105 t.f2 0) g0 false _ ?kk ha0.out).mono ?_); (case kk => exact kP.K_below (by repeat (first | (with_reducible first | exact HB.out | apply below_alloc | apply pw_below_drewN | apply below_drew1) | exact HB.out)) HKg0.out); rintro e_ wg0_ ⟨rfl, hb⟩; refine ⟨_, rfl, ?_⟩; have n0_ := Aside0.mk (below_step (by repeat (first | (with_reducible first | exact HB.out | apply below_alloc | apply pw_below_drewN | apply below_drew1) | exact HB.out)) hb); clear HB; have HB := n0_; clear n0_ hb))
          go_ret
          exact ⟨by first | rfl | (simp; done) | (simp [*]; done), by repeat (first | (with_reducible first | exact HB.out | apply below_alloc | apply pw_below_drewN | apply below_drew1) | exact HB.out)⟩
      · rw [if_neg hl1] at h; cases h
    rw [if_neg h5] at h
    by_cases h6 : t.f0 = 6
    · rw [if_pos h6] at h
      have hb2 : (t.f0 == 2) = false := beq_eq_false_iff_ne.2 h2
      have hb7 : (t.f0 == 7) = false := beq_eq_false_iff_ne.2 h7
      have hb5 : (t.f0 == 5) = false := beq_eq_false_iff_ne.2 h5
      have hb6 : (t.f0 == 6) = true := beq_iff_eq.2 h6
      by_cases hl1 : 1 < (t.f2.length : Int)
      · rw [if_pos hl1] at h
        obtain ⟨a, ha, h⟩ := Option.bind_eq_some_iff.mp h
        obtain ⟨ad, g0, rfl, hx0, hK0⟩ := at_P HC.out 0 (by omega) (by omega)
        obtain ⟨ad1, g1, e1, hx1, hK1⟩ := at_P HC.out 1 (by omega) (by omega)
        cases e1
        have HKg0 := Aside0.mk hK0
        have HKg1 := Aside0.mk hK1
        clear hK0 hK1 HC
        replace hx0 : w.cell? ad = some (.pointer (some ⟨g0, 0, none⟩)) := by have h_ : w.cell? (ad.add 0) = some (.pointer (some ⟨g0, 0, none⟩)) := hx0; rwa [show ad.add 0 = ad from by unfold Addr.add; simp] at h_
        replace hx1 : w.cell? ⟨ad.block, ad.off + 1, none⟩ = some (.pointer (some ⟨g1, 0, none⟩)) := by have h_ : w.cell? (ad.add 1) = some (.pointer (some ⟨g1, 0, none⟩)) := hx1; rwa [show ad.add 1 = ⟨ad.block, ad.off + 1, none⟩ from by unfold Addr.add; simp] at h_
        have q0 : (0 : Int) < (t.f2.length : Int) := by omega
        replace q0 := eq_true q0
        have q1 := eq_true hl1
        have q0n : (0 < t.f2.length) = True := eq_true (by omega)
        have q1n : (1 < t.f2.length) = True := eq_true (by omega)
        clear hl1
        have ha0 := Aside0.mk ha
        clear ha
        cases a with
        | true =>
          rw [if_pos rfl] at h
          obtain rfl := Option.some.inj h
          go_enter Try.func88, Try.ntmps88
          go_wp2_with (((with_reducible refine gate_dst (N := 37) rfl ?_); refine goesL_ (some 37) rfl rfl Try.func88 (by kernel_rfl) rfl #[.pointer (some ⟨g0, 0, none⟩)] rfl (by (try simp only [List.map_toArray, List.map_cons, List.map_nil]); first | done | rfl) ?_; (with_reducible refine (ih (rd_T105 t.f2 0) g0 true _ ?kk ha0.out).mono ?_); (case kk => exact kP.K_below (by repeat (first | (with_reducible first | exact HB.out | apply below_alloc | apply pw_below_drewN | apply below_drew1) | exact HB.out)) HKg0.out); rintro e_ wg0_ ⟨rfl, hb⟩; refine ⟨_, rfl, ?_⟩; have n0_ := Aside0.mk (below_step (by repeat (first | (with_reducible first | exact HB.out | apply below_alloc | apply pw_below_drewN | apply below_drew1) | exact HB.out)) hb); clear HB; have HB := n0_; clear n0_ hb))
          go_ret
          exact ⟨by first | rfl | (simp; done) | (simp [*]; done), by repeat (first | (with_reducible first | exact HB.out | apply below_alloc | apply pw_below_drewN | apply below_drew1) | exact HB.out)⟩
        | false =>
          rw [if_neg (by simp)] at h
          have h1 := Aside0.mk h
          clear h
          go_enter Try.func88, Try.ntmps88
          go_wp2_with (first | ((with_reducible refine gate_dst (N := 37) rfl ?_); refine goesL_ (some 37) rfl rfl Try.func88 (by kernel_rfl) rfl #[.pointer (some ⟨g0, 0, none⟩)] rfl (by (try simp only [List.map_toArray, List.map_cons, List.map_nil]); first | done | rfl) ?_; (with_reducible refine (ih (rd_T105 t.f2 0) g0 false _ ?kk ha0.out).mono ?_); (case kk => exact kP.K_below (by repeat (first | (with_reducible first | exact HB.out | apply below_alloc | apply pw_below_drewN | apply below_drew1) | exact HB.out)) HKg0.out); rintro e_ wg0_ ⟨rfl, hb⟩; refine ⟨_, rfl, ?_⟩; have n0_ := Aside0.mk (below_step (by repeat (first | (with_reducible first | exact HB.out | apply below_alloc | apply pw_below_drewN | apply below_drew1) | exact HB.out)) hb); clear HB; have HB := n0_; clear n0_ hb; have hy2 : wg0_.cell? ⟨g', 2, none⟩ = some (.slice (some ad) t.f2.length c2) := (HB.out.cell (World.block_lt_of_cell? w _ hz2)).trans hz2; have hy1 : wg0_.cell? ⟨ad.block, ad.off + 1, none⟩ = some (.pointer (some ⟨g1, 0, none⟩)) := (HB.out.cell (World.block_lt_of_cell? w _ hx1)).trans hx1) | ((with_reducible refine gate_dst (N := 45) rfl ?_); (try (refine gate_guard (by rfl) ?_; dsimp only)); refine goesL_ (some 45) rfl rfl Try.func88 (by kernel_rfl) rfl #[.pointer (some ⟨g1, 0, none⟩)] rfl (by (try simp only [List.map_toArray, List.map_cons, List.map_nil]); first | done | rfl) ?_; (with_reducible refine (ih (rd_T105 t.f2 1) g1 r _ ?kk h1.out).mono ?_); (case kk => exact kP.K_below (by repeat (first | (with_reducible first | exact HB.out | apply below_alloc | apply pw_below_drewN | apply below_drew1) | exact HB.out)) HKg1.out); rintro e_ wg1_ ⟨rfl, hb⟩; refine ⟨_, rfl, ?_⟩; have n0_ := Aside0.mk (below_step (by repeat (first | (with_reducible first | exact HB.out | apply below_alloc | apply pw_below_drewN | apply below_drew1) | exact HB.out)) hb); clear HB; have HB := n0_; clear n0_ hb))
          go_ret
          exact ⟨by first | rfl | (simp; done) | (simp [*]; done), by repeat (first | (with_reducible first | exact HB.out | apply below_alloc | apply pw_below_drewN | apply below_drew1) | exact HB.out)⟩
      · rw [if_neg hl1] at h; cases h
    rw [if_neg h6] at h
    have hb2 : (t.f0 == 2) = false := beq_eq_false_iff_ne.2 h2
    have hb7 : (t.f0 == 7) = false := beq_eq_false_iff_ne.2 h7
    have hb5 : (t.f0 == 5) = false := beq_eq_false_iff_ne.2 h5
    have hb6 : (t.f0 == 6) = false := beq_eq_false_iff_ne.2 h6
    obtain rfl := Option.some.inj h
    go_enter Try.func88, Try.ntmps88
    go_wp2
    go_ret
    exact ⟨by first | rfl | (simp; done) | (simp [*]; done), by repeat (first | (with_reducible first | exact HB.out | apply below_alloc | apply pw_below_drewN | apply below_drew1) | exact HB.out)⟩
/-! ### impl_treeOf: function 87 -/
def kidsP (p : List S109 → Option (S105 × List S109)) : Nat → List S109 → Option (List S105 × List S109)
  | 0, r => some ([], r)
  | m + 1, r => (p r).bind fun x => (kidsP p m x.2).bind fun y => some (x.1 :: y.1, y.2)
def impl_treeOf.f : Nat → List S109 → Option (S105 × List S109)
  | 0, _ => none
  | _ + 1, [] => none
  | k + 1, c :: r => (impl_partsOf.f k c.f0).bind fun p => if p ≤ 2 then (kidsP (impl_treeOf.f k) p.toNat r).bind fun y => if y.1.length < 1000000 then some (⟨c.f0, c.f1, y.1⟩, y.2) else none else none
theorem info116 : (Try.prog.info? 116).map (fun i => (i.zero, i.size, i.bytes)) = some (some (.pointer none), 1, 8) := by kernel_rfl
set_option maxHeartbeats 8000000 in
set_option maxRecDepth 100000 in
theorem impl_treeOf.calls : ∀ (k : Nat) (A0 : Option Addr) (c0 : Nat) (l0 : List S109) (t : S105) (q : List S109) (w : World), Kd.C k109 w A0 l0.length l0 → l0.length ≤ c0 → impl_treeOf.f k l0 = some (t, q) →
    Calls Try.prog 87 #[.slice A0 l0.length c0] w fun e w' => ∃ g A1 c1, e = .returned (.tuple #[.pointer (some ⟨g, 0, none⟩), .slice A1 q.length c1]) ∧ kP.M w' w.heap.size (fun _ => True) t [.pointer (some ⟨g, 0, none⟩)] ∧ (∀ W_ : World, Kd.C k109 W_ A0 l0.length l0 → Kd.C k109 W_ A1 q.length q) ∧ q.length ≤ c1 ∧ Below w.heap.size w w'
  | 0, A0, c0, l0, t, q, w, hr0, hc0, h => by simp [impl_treeOf.f] at h
  | k + 1, A0, c0, [], t, q, w, hr0, hc0, h => by simp [impl_treeOf.f] at h
  | k + 1, A0, c0, c :: l, t, q, w, hr0, hc0, h => by
    have ih := impl_treeOf.calls k
    have hu145 := Try.underlying145
    have hu109 := Try.underlying109
    have HB := Aside0.mk (Below.refl w.heap.size w)
    have HR0 := Aside0.mk hr0
    have HC0 := Aside0.mk hc0
    simp only [impl_treeOf.f] at h
    obtain ⟨p, hp, h⟩ := Option.bind_eq_some_iff.mp h
    by_cases hp2 : p ≤ 2
    case neg => rw [if_neg hp2] at h; cases h
    rw [if_pos hp2] at h
    obtain ⟨⟨ys, q'⟩, hk, h⟩ := Option.bind_eq_some_iff.mp h
    dsimp only at h
    by_cases hlen : ys.length < 1000000
    · rw [if_pos hlen] at h
      simp only [Option.some.injEq, Prod.mk.injEq] at h
      obtain ⟨rfl, rfl⟩ := h
      obtain ⟨ad, rfl, hx0, hx1⟩ := at_T109 hr0 0 (by omega) (by simp)
      have hrd : rd_T109 (c :: l) 0 = c := rfl
      rw [hrd] at hx0 hx1
      replace hx0 : w.cell? ad = some (.int .i64 c.f0) := by have h_ : w.cell? (ad.add 0) = some (.int .i64 c.f0) := hx0; rwa [show ad.add 0 = ad from by unfold Addr.add; simp] at h_
      replace hx1 : w.cell? ⟨ad.block, ad.off + 1, none⟩ = some (.int .i64 c.f1) := by have h_ : w.cell? ⟨(ad.add 0).block, (ad.add 0).off + 1, none⟩ = some (.int .i64 c.f1) := hx1; rwa [show ad.add 0 = ad from by unfold Addr.add; simp] at h_
      obtain ⟨i0, hi0, _, hsz0, _⟩ := info_parts info109
      have hcut := cut_from (P := Try.prog) 67 109 .i64 Try.underlying67 hi0 2 hsz0 (some ad) (c :: l).length c0 1 (by omega) (by simp; omega)
      have hrest : ∀ W_ : World, Kd.C k109 W_ (some ad) (c :: l).length (c :: l) → Kd.C k109 W_ (if c0 = 1 then some ad else (some ad : Option Addr).map (·.add (1 * 2))) l.length l := fun W_ h_ => Kd.C_drop (m := 1) (c := c0) h_ (by simp) hc0
      obtain ⟨A1, hA1⟩ : ∃ A1, A1 = (if c0 = 1 then (some ad : Option Addr) else (some ad : Option Addr).map (·.add (1 * 2))) := ⟨_, rfl⟩
      obtain ⟨c1, hc1⟩ : ∃ c1, c1 = c0 - 1 := ⟨_, rfl⟩
      replace hcut : ∀ W : World, (Instr.slice 67 (.slice (some ad) (l.length + 1) c0) (some (.int .i64 1)) none none).run Try.prog W = .ok (.slice A1 l.length c1) W := by
        intro W
        rw [hA1, hc1]
        exact hcut W
      rw [← hA1] at hrest
      have HR1 := Aside0.mk hrest
      have HC1 := Aside0.mk (show l.length ≤ c1 from by simp at hc0; omega)
      obtain ⟨M, hMp⟩ : ∃ M : Nat, M = p.toNat := ⟨_, rfl⟩
      rw [← hMp] at hk
      have HMp := Aside0.mk hMp
      have HP2 := Aside0.mk hp2
      have HP := Aside0.mk hp
      have HK := Aside0.mk hk
      have HL := Aside0.mk hlen
      have q0 : (0 : Int) < ((c :: l).length : Int) := by rw [List.length_cons]; omega
      replace q0 := eq_true q0
      have q0n : (0 < (c :: l).length) = True := eq_true (by simp)
      clear hr0 hc0 hrest hA1 hc1 hp hk hlen hi0 hsz0 hrd hMp hp2
      go_enter Try.func87, Try.ntmps87
      go_wp2_with (first | ((with_reducible refine gate_dst (N := 12) rfl ?_); refine box_event ?hg (N := 12) ?hd (cs := #[.int .i64 c.f0, .int .i64 c.f1, .slice none 0 0]) (t := 145) ?hr ?_; (case hd => rfl); (case hg => rfl); (case hr => first | (go_simp; done) | (go_simp; rfl)); intro gb hg w1 hbox hb; have n0_ := Aside0.mk (below_step (by repeat (first | (with_reducible first | exact HB.out | apply below_alloc | apply pw_below_drewN | apply below_drew1) | exact HB.out)) hb); have BK := Aside0.mk hbox; have GE := Aside0.mk ((by rw [hg]; exact (below_size (by repeat (first | (with_reducible first | exact HB.out | apply below_alloc | apply pw_below_drewN | apply below_drew1) | exact HB.out))) : w.heap.size ≤ gb)); clear HB; have HB := n0_; clear n0_; clear hb hbox hg; replace hx0 : w1.cell? ad = some (.int .i64 c.f0) := (HB.out.cell (World.block_lt_of_cell? w _ hx0)).trans hx0; replace hx1 : w1.cell? ⟨ad.block, ad.off + 1, none⟩ = some (.int .i64 c.f1) := (HB.out.cell (World.block_lt_of_cell? w _ hx1)).trans hx1) | ((with_reducible refine gate_callee (f := 110) rfl ?_); refine goesL_ (some 19) rfl rfl Try.func110 (by kernel_rfl) rfl #[.int .i64 c.f0] rfl (by (try simp only [List.map_toArray, List.map_cons, List.map_nil]); first | done | rfl) ?_; (with_reducible refine (impl_partsOf.calls k c.f0 p _ HP.out).mono ?_); rintro e w' ⟨rfl, ⟨nd, rfl⟩⟩; refine ⟨_, rfl, ?_⟩))
      go_loopg [5, 20] M (fun m v5 v20 w' => ∃ (ts zs : List S105) (r' : List S109) (u : Value) (A2 : Option Addr) (c2 : Nat), v5 = .slice A2 r'.length c2 ∧ v20 = .int .i64 ((M : Int) - m) ∧ Aside0 (m ≤ M) ∧ Aside0 (kidsP (impl_treeOf.f k) m r' = some (zs, q')) ∧ Aside0 (ts ++ zs = ys) ∧ Aside0 (∀ W_ : World, Kd.C k109 W_ (some ad) (c :: l).length (c :: l) → Kd.C k109 W_ A2 r'.length r') ∧ Aside0 (r'.length ≤ c2) ∧ Aside0 (kP.R 116 w' w.heap.size (fun k_ => k_ ≠ gb) u ts) ∧ Aside0 (w'.heap[gb]? = some (.cells #[.int .i64 c.f0, .int .i64 c.f1, u] 145 (0, 0))) ∧ Aside0 (Below w.heap.size w w'))
      case atStart => exact ⟨[], ys, l, .slice none 0 0, A1, c1, (by first | rfl | (simp; done)), (by first | rfl | (simp; done)), ⟨Nat.le_refl _⟩, HK, ⟨rfl⟩, HR1, HC1, ⟨Kd.R_nil _ _ _ _ _⟩, ⟨by (with_reducible repeat (first | refine blk_drewN ?_ _ | refine blk_drew ?_ | refine blk_alloc ?_ _)); exact BK.out⟩, ⟨by repeat (first | (with_reducible first | exact HB.out | apply below_alloc | apply pw_below_drewN | apply below_drew1 | refine below_set ?_ GE.out) | exact HB.out)⟩⟩
      case round =>
        clear hx0 hx1 BK HB HK HR1 HC1
        obtain ⟨ts, zs, r', u, A2, c2, rfl, rfl, HM, HK, HT, HR1, HC1, HO, BK, HB⟩ := hrel
        cases gk with
        | zero =>
          have hK := HK.out
          simp only [kidsP, Option.some.injEq, Prod.mk.injEq] at hK
          obtain ⟨rfl, rfl⟩ := hK
          have hT := HT.out
          rw [List.append_nil] at hT
          subst hT
          have b0 : decide ((M : Int) < p) = false := decide_eq_false (by have := HMp.out; omega)
          have b1 : decide ((M : Int) - ((0 : Nat) : Int) < p) = false := decide_eq_false (by have := HMp.out; omega)
          go_wp2
          refine bodyPost_ret (results_tmp2 rfl _ _ _) rfl ?_
          exact ⟨gb, A2, c2, by first | rfl | (simp; done), kP_mkM _ _ _ _ gb (by (with_reducible repeat (first | refine blk_drewN ?_ _ | refine blk_drew ?_ | refine blk_alloc ?_ _)); exact BK.out) GE.out trivial (Kd.R_mono (by (with_reducible repeat (first | apply Kd.R_alloc | apply Kd.R_drewN | apply Kd.R_drew)); exact HO.out) (fun _ hk => ⟨trivial, hk⟩)), HR1.out, HC1.out, (by repeat (first | (with_reducible first | exact HB.out | apply below_alloc | apply pw_below_drewN | apply below_drew1 | refine below_set ?_ GE.out) | exact HB.out))⟩
        | succ m =>
          have hK := HK.out
          simp only [kidsP] at hK
          obtain ⟨⟨t1, r2⟩, hx, hK⟩ := Option.bind_eq_some_iff.mp hK
          obtain ⟨⟨zs1, q1⟩, hy, hK⟩ := Option.bind_eq_some_iff.mp hK
          simp only [Option.some.injEq, Prod.mk.injEq] at hK
          obtain ⟨rfl, rfl⟩ := hK
          have HX := Aside0.mk hx
          have HY := Aside0.mk hy
          have hm := HM.out
          have hT := HT.out
          have hlt : ts.length < 1000000 := by
            have := congrArg List.length hT
            rw [List.length_append, List.length_cons] at this
            have := HL.out
            omega
          have HLT := Aside0.mk hlt
          have HKK := Aside0.mk (show ∀ k_, wr.heap.size ≤ k_ → k_ ≠ gb ∧ some k_ ≠ u.ownBlock from fun k_ hk_ => ⟨fun e_ => by have := blk_lt BK.out; omega, fun e_ => by have := ((Kd.R_bound HO.out).1 k_ e_.symm).2.2.1; omega⟩)
          have hMp := HMp.out
          have hp2 := HP2.out
          have b1 : decide ((M : Int) - ((m : Int) + 1) < p) = true := decide_eq_true (by omega)
          have w1_ : wrap64 ((M : Int) - ((m : Int) + 1) + 1) = (M : Int) - (m : Int) := by
            unfold wrap64; omega
          have HT1 := HT
          clear hx hy hm hT hlt HK HT hMp hp2
          go_wp2_with (first | ((with_reducible refine gate_callee (f := 87) rfl ?_); refine goesL_ (some 24) rfl rfl Try.func87 (by kernel_rfl) rfl #[.slice A2 r'.length c2] rfl (by (try simp only [List.map_toArray, List.map_cons, List.map_nil]); first | done | rfl) ?_; (with_reducible refine (ih A2 c2 r' t1 r2 _ ?kC HC1.out HX.out).mono ?_); (case kC => repeat (first | exact HR1.out _ (Kd.C_below HR0.out HB.out) | (with_reducible refine Kd.C_alloc ?_ _) | (with_reducible refine Kd.C_drewN ?_ _) | (with_reducible refine Kd.C_drew ?_))); rintro e_ w3 ⟨g1, A3, c3, rfl, hM1, hR1, hC1, hb⟩; refine ⟨_, rfl, ?_⟩; have n0_ := Aside0.mk (Kd.R_below (by (with_reducible repeat (first | apply Kd.R_alloc | apply Kd.R_drewN | apply Kd.R_drew)); exact HO.out) hb); have n1_ := Aside0.mk (blk_below (g := gb) (o := .cells #[.int .i64 c.f0, .int .i64 c.f1, u] 145 (0, 0)) (by (with_reducible repeat (first | refine blk_drewN ?_ _ | refine blk_drew ?_ | refine blk_alloc ?_ _)); exact BK.out) hb); have n2_ := Aside0.mk (below_step (by repeat (first | (with_reducible first | exact HB.out | apply below_alloc | apply pw_below_drewN | apply below_drew1 | refine below_set ?_ GE.out) | exact HB.out)) hb); have hlg : gb < wr.heap.size := (by have := blk_lt BK.out; simpa using this); have n3_ : Aside0 (kP.M w3 w.heap.size (fun k_ => wr.heap.size ≤ k_) t1 [.pointer (some ⟨g1, 0, none⟩)]) := ⟨kP.M_mono (fun k_ hk => hk.2.1) (kP.M_bound hM1) |> kP.M_lower (below_size (by repeat (first | (with_reducible first | exact HB.out | apply below_alloc | apply pw_below_drewN | apply below_drew1 | refine below_set ?_ GE.out) | exact HB.out)))⟩; clear HO BK HB; have HO := n0_; have BK := n1_; have HB := n2_; have HM1 := n3_; have hR2 : Aside0 (∀ W_ : World, Kd.C k109 W_ (some ad) (c :: l).length (c :: l) → Kd.C k109 W_ A3 r2.length r2) := ⟨fun W_ h_ => hR1 W_ (HR1.out W_ h_)⟩; clear HR1; have HR1 := hR2; clear hR2; have HC1 := Aside0.mk hC1; clear n0_ n1_ n2_ n3_ hb hM1 hR1 hC1; have hz_0 : w3.cell? ⟨gb, 0, none⟩ = some (.int .i64 c.f0) := (blk_cell BK.out 0).trans rfl; have hz_2 : w3.cell? ⟨gb, 2, none⟩ = some u := (blk_cell BK.out 2).trans rfl; have hf_2 := blk_frozen BK.out 2) | ((with_reducible refine gate_builtin (b := .append) (xs := #[.tmp 31, .tmp 33]) rfl ?_); (try (refine gate_guard (by rfl) ?_; dsimp only)); at_builtin; refine Kd.R_append kP (w0 := w) w.heap.size rfl (.tmp 31) (.tmp 33) 143 116 (.pointer none) 8 rfl Try.underlying143 info116 rfl (by decide) (by omega) u ts t1 [.pointer (some ⟨g1, 0, none⟩)] (fun k_ => k_ ≠ gb) (fun k_ => wr.heap.size ≤ k_) rfl (by first | (go_simp; done) | (go_simp; rfl)) ?aP ?aK ?aF ?aO ?aB ?aS ?aL ?_; (case aP => exact kP.M_move (fun _ _ => rfl) HM1.out); (case aK => exact HKK.out); (case aF => exact fun k_ hk_ => Nat.ne_of_gt (Nat.lt_of_lt_of_le (blk_lt BK.out) hk_)); (case aO => exact (by (with_reducible repeat (first | apply Kd.R_alloc | apply Kd.R_drewN | apply Kd.R_drew)); exact HO.out)); (case aB => exact (by repeat (first | (with_reducible first | exact HB.out | apply below_alloc | apply pw_below_drewN | apply below_drew1 | refine below_set ?_ GE.out) | exact HB.out))); (case aS => exact (below_size (by repeat (first | (with_reducible first | exact HB.out | apply below_alloc | apply pw_below_drewN | apply below_drew1 | refine below_set ?_ GE.out) | exact HB.out)))); (case aL => have := HLT.out; omega); intro v1 w4 ho hb hg hat; have n1_ := Aside0.mk (blk_grown (g := gb) (o := .cells #[.int .i64 c.f0, .int .i64 c.f1, u] 145 (0, 0)) (by (with_reducible repeat (first | refine blk_drewN ?_ _ | refine blk_drew ?_ | refine blk_alloc ?_ _)); exact BK.out) hg (fun e_ => HO.out.1 gb e_.symm rfl)); have n2_ := Aside0.mk hb; have n3_ := Aside0.mk ho; clear BK HB HO; have BK := n1_; have HB := n2_; have HO := n3_; clear n1_ n2_ n3_ ho hb hg hat; obtain ⟨Ao1, co1, eo1⟩ := Kd.R_slice HO.out; subst eo1; have hy_2 : w4.cell? ⟨gb, 2, none⟩ = some u := (blk_cell BK.out 2).trans rfl; have hfy_2 := blk_frozen BK.out 2))
          go_roundg m
          case measure => omega
          case rel => exact ⟨ts ++ [t1], zs1, r2, .slice Ao1 (ts ++ [t1]).length co1, A3, c3, (by first | rfl | (simp; done) | (simp [*]; done)), (by first | rfl | (simp; done) | (simp [*]; done)), ⟨by have := HM.out; omega⟩, HY, ⟨by rw [List.append_assoc]; exact HT1.out⟩, HR1, HC1, ⟨by (with_reducible repeat (first | apply Kd.R_alloc | apply Kd.R_drewN | apply Kd.R_drew)); have h_ := Kd.R_far (p := ⟨gb, 2, none⟩) HO.out (fun _ hk => hk) (.slice Ao1 (ts ++ [t1]).length co1); first | exact h_ | (simp only [List.length_append, List.length_singleton] at h_ ⊢; exact h_)⟩, ⟨by (with_reducible repeat (first | refine blk_drewN ?_ _ | refine blk_drew ?_ | refine blk_alloc ?_ _)); refine blk_put (cs := #[.int .i64 c.f0, .int .i64 c.f1, u]) ?_ 2 _ (by first | rfl | (simp; done)); (with_reducible repeat (first | refine blk_drewN ?_ _ | refine blk_drew ?_ | refine blk_alloc ?_ _)); exact BK.out⟩, ⟨by repeat (first | (with_reducible first | exact HB.out | apply below_alloc | apply pw_below_drewN | apply below_drew1 | refine below_set ?_ GE.out) | exact HB.out)⟩⟩
    · rw [if_neg hlen] at h; cases h
theorem impl_empty.mono : ∀ (k : Nat) (t : S105), LeO (impl_empty.f k t) (impl_empty.f (k + 1) t)
  | 0, t => fun r h => by simp [impl_empty.f] at h
  | k + 1, t => by
    have ih := impl_empty.mono k
    rw [impl_empty.f, impl_empty.f]
    repeat' first
      | (with_reducible exact ih _)
      | (with_reducible exact LeO.refl _)
      | (with_reducible exact LeO.none _)
      | (with_reducible refine LeO.ite ?_ ?_)
      | (with_reducible refine LeO.bind ?_ (fun _ => ?_))
theorem kidsP_mono {p p' : List S109 → Option (S105 × List S109)} (h : ∀ r, LeO (p r) (p' r)) : ∀ (m : Nat) (r : List S109), LeO (kidsP p m r) (kidsP p' m r)
  | 0, r => LeO.refl _
  | m + 1, r => LeO.bind (h r) (fun x => LeO.bind (kidsP_mono h m x.2) (fun _ => LeO.refl _))
theorem impl_treeOf.mono : ∀ (k : Nat) (l : List S109), LeO (impl_treeOf.f k l) (impl_treeOf.f (k + 1) l)
  | 0, l => fun r h => by simp [impl_treeOf.f] at h
  | k + 1, [] => fun r h => by simp [impl_treeOf.f] at h
  | k + 1, c :: l => by
    have ih := impl_treeOf.mono k
    rw [impl_treeOf.f, impl_treeOf.f]
    refine LeO.bind (impl_partsOf.mono _ _) (fun p => LeO.ite (LeO.bind (kidsP_mono ih _ _) (fun _ => LeO.refl _)) (LeO.refl _))
/-! ### impl_TakesEmpty: function 49 -/
def impl_TakesEmpty.f (k : Nat) (l0 : List S109) : Option (Bool × Bool) := (impl_GoodRegex.f k l0).bind fun g => (if g = true then ((impl_treeOf.f k l0).bind fun x => ((impl_empty.f k x.1).bind fun b => (some (b, true)))) else (some (false, false)))
theorem impl_TakesEmpty.mono : ∀ a0 k, LeO (impl_TakesEmpty.f k a0) (impl_TakesEmpty.f (k + 1) a0) := by
  intro a0 k
  unfold impl_TakesEmpty.f
  exact LeO.bind (impl_GoodRegex.mono _ _) (fun g => LeO.ite (LeO.bind (impl_treeOf.mono _ _) (fun x => LeO.bind (impl_empty.mono _ _) (fun _ => LeO.refl _))) (LeO.refl _))
set_option maxHeartbeats 8000000 in
set_option maxRecDepth 100000 in
theorem impl_TakesEmpty.calls (k : Nat) (A0 : Option Addr) (c0 : Nat) (l0 : List S109) (r1 : Bool) (r2 : Bool) (w : World) (hr0 : Kd.C k109 w A0 l0.length l0) (hc0 : l0.length ≤ c0) (h : impl_TakesEmpty.f k l0 = some (r1, r2)) :
    Calls Try.prog 49 #[.slice A0 l0.length c0] w fun e w' => e = .returned (.tuple #[.bool r1, .bool r2]) ∧ Below w.heap.size w w' := by
  have HB := Aside0.mk (Below.refl w.heap.size w)
  have HR0 := Aside0.mk hr0
  have HC0 := Aside0.mk hc0
  clear hr0 hc0
  unfold impl_TakesEmpty.f at h
  obtain ⟨g, hg, h⟩ := Option.bind_eq_some_iff.mp h
  have HG := Aside0.mk hg
  clear hg
  cases g with
  | true =>
    rw [if_pos rfl] at h
    obtain ⟨⟨t, q⟩, hx, h⟩ := Option.bind_eq_some_iff.mp h
    obtain ⟨b, hb, h⟩ := Option.bind_eq_some_iff.mp h
    simp only [Option.some.injEq, Prod.mk.injEq] at h
    obtain ⟨rfl, rfl⟩ := h
    have HX := Aside0.mk hx
    have HE := Aside0.mk (show impl_empty.f k t = some b from hb)
    clear hx hb
    go_enter Try.func49, Try.ntmps49
    go_wp2_with (first | ((with_reducible refine gate_callee (f := 46) rfl ?_); refine goesL_ (some 7) rfl rfl Try.func46 (by kernel_rfl) rfl #[.slice A0 l0.length c0] rfl (by (try simp only [List.map_toArray, List.map_cons, List.map_nil]); first | done | rfl) ?_; (with_reducible refine (impl_GoodRegex.calls k _ _ l0 true _ ?side1 ?side2 HG.out).mono ?_); (case side1 => repeat (first | exact (Kd.C_below HR0.out HB.out) | (with_reducible refine Kd.C_alloc ?_ _) | (with_reducible refine Kd.C_drewN ?_ _) | (with_reducible refine Kd.C_drew ?_))); (case side2 => exact HC0.out); rintro e_ w2 ⟨rfl, hb⟩; refine ⟨_, rfl, ?_⟩; have n0_ := Aside0.mk (below_step (by repeat (first | (with_reducible first | exact HB.out | apply below_alloc | apply pw_below_drewN | apply below_drew1) | exact HB.out)) hb); clear HB; have HB := n0_; clear n0_ hb) | ((with_reducible refine gate_callee (f := 87) rfl ?_); refine goesL_ (some 11) rfl rfl Try.func87 (by kernel_rfl) rfl #[.slice A0 l0.length c0] rfl (by (try simp only [List.map_toArray, List.map_cons, List.map_nil]); first | done | rfl) ?_; (with_reducible refine (impl_treeOf.calls k A0 c0 l0 t q _ ?kC HC0.out HX.out).mono ?_); (case kC => repeat (first | exact (Kd.C_below HR0.out HB.out) | (with_reducible refine Kd.C_alloc ?_ _) | (with_reducible refine Kd.C_drewN ?_ _) | (with_reducible refine Kd.C_drew ?_))); rintro e_ w3 ⟨g1, A3, c3, rfl, hM1, hR1, hC1, hb⟩; refine ⟨_, rfl, ?_⟩; have n0_ := Aside0.mk (below_step (by repeat (first | (with_reducible first | exact HB.out | apply below_alloc | apply pw_below_drewN | apply below_drew1) | exact HB.out)) hb); have HK1 := Aside0.mk (kP.K_of_M hM1); clear HB; have HB := n0_; clear n0_ hb hM1 hR1 hC1) | ((with_reducible refine gate_callee (f := 88) rfl ?_); refine goesL_ (some 15) rfl rfl Try.func88 (by kernel_rfl) rfl #[.pointer (some ⟨g1, 0, none⟩)] rfl (by (try simp only [List.map_toArray, List.map_cons, List.map_nil]); first | done | rfl) ?_; (with_reducible refine (impl_empty.calls k t g1 b _ ?kk HE.out).mono ?_); (case kk => exact kP.K_below (by repeat (first | exact Below.refl _ _ | apply pw_below_drewN | apply below_drew1 | apply below_alloc)) HK1.out); rintro e_ w4 ⟨rfl, hb⟩; refine ⟨_, rfl, ?_⟩; have n0_ := Aside0.mk (below_step (by repeat (first | (with_reducible first | exact HB.out | apply below_alloc | apply pw_below_drewN | apply below_drew1) | exact HB.out)) hb); clear HB; have HB := n0_; clear n0_ hb))
    refine bodyPost_ret (results_tmp2 rfl _ _ _) rfl ?_
    exact ⟨by first | rfl | (simp; done) | (simp [*]; done), by repeat (first | (with_reducible first | exact HB.out | apply below_alloc | apply pw_below_drewN | apply below_drew1) | exact HB.out)⟩
  | false =>
    rw [if_neg (by simp)] at h
    simp only [Option.some.injEq, Prod.mk.injEq] at h
    obtain ⟨rfl, rfl⟩ := h
    go_enter Try.func49, Try.ntmps49
    go_wp2_with (((with_reducible refine gate_callee (f := 46) rfl ?_); refine goesL_ (some 7) rfl rfl Try.func46 (by kernel_rfl) rfl #[.slice A0 l0.length c0] rfl (by (try simp only [List.map_toArray, List.map_cons, List.map_nil]); first | done | rfl) ?_; (with_reducible refine (impl_GoodRegex.calls k _ _ l0 false _ ?side1 ?side2 HG.out).mono ?_); (case side1 => repeat (first | exact (Kd.C_below HR0.out HB.out) | (with_reducible refine Kd.C_alloc ?_ _) | (with_reducible refine Kd.C_drewN ?_ _) | (with_reducible refine Kd.C_drew ?_))); (case side2 => exact HC0.out); rintro e_ w2 ⟨rfl, hb⟩; refine ⟨_, rfl, ?_⟩; have n0_ := Aside0.mk (below_step (by repeat (first | (with_reducible first | exact HB.out | apply below_alloc | apply pw_below_drewN | apply below_drew1) | exact HB.out)) hb); clear HB; have HB := n0_; clear n0_ hb))
    refine bodyPost_ret (results_tmp2 rfl _ _ _) rfl ?_
    exact ⟨by first | rfl | (simp; done) | (simp [*]; done), by repeat (first | (with_reducible first | exact HB.out | apply below_alloc | apply pw_below_drewN | apply below_drew1) | exact HB.out)⟩

/-- A state of type 109 at block g of W; what its slices lead to came in by w0. -/
def IsS109 (w0 W : World) (g : Nat) (f0 : Int) (f1 : Int) : Prop := W.heap[g]? = some (.cells #[.int .i64 f0, .int .i64 f1] 109 (0, 0)) ∧ w0.heap.size ≤ g
theorem IsS109.grown {w0 W : World} {g : Nat} {f0 : Int} {f1 : Int} {W1 : World} {row : Option Nat} (h : IsS109 w0 W g f0 f1) (hw : W.grownBy W1 row) (hne : some g ≠ row) : IsS109 w0 W1 g f0 f1 := by
  obtain ⟨hb, hg⟩ := h
  exact ⟨blk_grown hb hw hne, hg⟩
theorem IsS109.own_neN {w0 W : World} {g : Nat} {f0 : Int} {f1 : Int} {α : Type} {d : Kd α} {e : Nat} {base : Nat} {ok : Nat → Prop} {v : Value} {xs : List α} (h : IsS109 w0 W g f0 f1) (ho : Kd.N d e W base ok v xs) (ht : e ≠ 109) : some g ≠ v.ownBlock := by
  obtain ⟨hb, hg⟩ := h
  exact Kd.N_ne ho hb ht
theorem IsS109.fresh {w0 W : World} {g : Nat} {f0 : Int} {f1 : Int} (h : IsS109 w0 W g f0 f1) : ∀ k, W.heap.size ≤ k → k ≠ g := by
  obtain ⟨hb, hg⟩ := h
  exact Kd.freshB hb
theorem IsS109.kept {w0 W : World} {g : Nat} {f0 : Int} {f1 : Int} {W1 : World} {S : Nat → Prop} (h : IsS109 w0 W g f0 f1) (hk : Kept W W1 S) (hne : ¬ S g) : IsS109 w0 W1 g f0 f1 := by
  obtain ⟨hb, hg⟩ := h
  exact ⟨blk_kept hb hk hne, hg⟩
theorem IsS109.below {w0 W : World} {g : Nat} {f0 : Int} {f1 : Int} {W1 : World} (h : IsS109 w0 W g f0 f1) (hw : Below W.heap.size W W1) : IsS109 w0 W1 g f0 f1 := h.grown (grown_of_below hw none) (by simp)
theorem IsS109.alloc {w0 W : World} {g : Nat} {f0 : Int} {f1 : Int} (h : IsS109 w0 W g f0 f1) (o : Obj) : IsS109 w0 (W.alloc o) g f0 f1 := h.below (below_alloc (Below.refl _ _) o)
theorem IsS109.drewN {w0 W : World} {g : Nat} {f0 : Int} {f1 : Int} (h : IsS109 w0 W g f0 f1) (m : Nat) : IsS109 w0 (W.drewN m) g f0 f1 := h
theorem IsS109.drew {w0 W : World} {g : Nat} {f0 : Int} {f1 : Int} (h : IsS109 w0 W g f0 f1) : IsS109 w0 W.drew g f0 f1 := h
theorem IsS109.at_ {w0 W : World} {g : Nat} {f0 : Int} {f1 : Int} {w' : World} {m : Nat} (hq : W.drewN m = w') (h : IsS109 w0 W g f0 f1) : IsS109 w0 w' g f0 f1 := by subst hq; exact IsS109.drewN h m
theorem IsS109.apart {w0 W : World} {g : Nat} {f0 : Int} {f1 : Int} {α : Type} {d : Kd α} {e : Nat} {base : Nat} {ok : Nat → Prop} {v : Value} {xs : List α} (h : IsS109 w0 W g f0 f1) (ho : d.R e W base ok v xs) (ht : ∀ q, q ∈ e :: d.E → q ≠ 109) : d.R e W base (fun k => ok k ∧ k ≠ g) v xs := by
  obtain ⟨hb, hg⟩ := h
  exact Kd.R_types ho hb ht
theorem IsS109.own_ne {w0 W : World} {g : Nat} {f0 : Int} {f1 : Int} {α : Type} {d : Kd α} {e : Nat} {base : Nat} {ok : Nat → Prop} {v : Value} {xs : List α} (h : IsS109 w0 W g f0 f1) (ho : d.R e W base ok v xs) (ht : e ≠ 109) : some g ≠ v.ownBlock := by
  obtain ⟨hb, hg⟩ := h
  exact Kd.R_ne ho hb ht
theorem IsS109.apartQ {w0 W : World} {g : Nat} {f0 : Int} {f1 : Int} {α : Type} {d : Kd α} {e : Nat} {base : Nat} {ok : Nat → Prop} {v : Value} {xs : List α} (h : IsS109 w0 W g f0 f1) (ho : d.Q e W base ok v xs) (ht : ∀ q, q ∈ e :: d.E → q ≠ 109) : d.Q e W base (fun k => ok k ∧ k ≠ g) v xs := by
  obtain ⟨hb, hg⟩ := h
  exact Kd.Q_types ho hb ht
theorem IsS109.own_neQ {w0 W : World} {g : Nat} {f0 : Int} {f1 : Int} {α : Type} {d : Kd α} {e : Nat} {base : Nat} {ok : Nat → Prop} {v : Value} {xs : List α} (h : IsS109 w0 W g f0 f1) (ho : d.Q e W base ok v xs) (ht : e ≠ 109) : some g ≠ v.ownBlock := by
  obtain ⟨hb, hg⟩ := h
  exact Kd.Q_ne ho hb ht
theorem IsS109.apartS {w0 W : World} {g : Nat} {f0 : Int} {f1 : Int} {α : Type} {d : Kd α} {e : Nat} {base : Nat} {ok : Nat → Prop} {v : Value} {xs : List α} (h : IsS109 w0 W g f0 f1) (ho : d.S e W base ok v xs) (ht : ∀ q, q ∈ e :: d.E → q ≠ 109) : d.S e W base (fun k => ok k ∧ k ≠ g) v xs := by
  obtain ⟨hb, hg⟩ := h
  exact Kd.S_types ho hb ht
theorem IsS109.own_neS {w0 W : World} {g : Nat} {f0 : Int} {f1 : Int} {α : Type} {d : Kd α} {e : Nat} {base : Nat} {ok : Nat → Prop} {v : Value} {xs : List α} (h : IsS109 w0 W g f0 f1) (ho : d.S e W base ok v xs) (ht : e ≠ 109) : some g ≠ v.ownBlock := by
  obtain ⟨hb, hg⟩ := h
  exact Kd.S_ne ho hb ht
theorem IsS109.lt {w0 W : World} {g : Nat} {f0 : Int} {f1 : Int} (h : IsS109 w0 W g f0 f1) : g < W.heap.size := by
  obtain ⟨hb, hg⟩ := h
  exact blk_lt hb
theorem IsS109.ge {w0 W : World} {g : Nat} {f0 : Int} {f1 : Int} (h : IsS109 w0 W g f0 f1) : w0.heap.size ≤ g := by
  obtain ⟨hb, hg⟩ := h
  exact hg
theorem IsS109.ne_blk {w0 W : World} {g : Nat} {f0 : Int} {f1 : Int} {a : Nat} {cs : Array Value} {t : TypeId} {fr : Nat × Nat} (h : IsS109 w0 W g f0 f1) (hb2 : W.heap[a]? = some (.cells cs t fr)) (ht : t ≠ 109) : g ≠ a := by
  obtain ⟨hb, hg⟩ := h
  rintro rfl
  rw [hb] at hb2
  injection hb2 with hb2
  injection hb2 with _ ht2
  exact ht ht2.symm
theorem IsS109.far {w0 W : World} {g : Nat} {f0 : Int} {f1 : Int} {p : Addr} (h : IsS109 w0 W g f0 f1) (hne : g ≠ p.block) (u : Value) : IsS109 w0 (W.setCell p u) g f0 f1 := by
  obtain ⟨hb, hg⟩ := h
  exact ⟨blk_far hb hne u, hg⟩
theorem cellS109_0 {W : World} {g : Nat} {f0 : Int} {f1 : Int} (h : W.heap[g]? = some (.cells #[.int .i64 f0, .int .i64 f1] 109 (0, 0))) : W.cell? ⟨g, 0, none⟩ = some (.int .i64 f0) := (blk_cell h 0).trans rfl
theorem IsS109.set_0 {w0 W : World} {g : Nat} {f0 : Int} {f1 : Int} (h : IsS109 w0 W g f0 f1) (x : Int) : IsS109 w0 (W.setCell ⟨g, 0, none⟩ (.int .i64 x)) g x f1 := by
  obtain ⟨hb, hg⟩ := h
  exact ⟨by simpa using blk_set hb 0 (.int .i64 x), hg⟩
theorem cellS109_1 {W : World} {g : Nat} {f0 : Int} {f1 : Int} (h : W.heap[g]? = some (.cells #[.int .i64 f0, .int .i64 f1] 109 (0, 0))) : W.cell? ⟨g, 1, none⟩ = some (.int .i64 f1) := (blk_cell h 1).trans rfl
theorem IsS109.set_1 {w0 W : World} {g : Nat} {f0 : Int} {f1 : Int} (h : IsS109 w0 W g f0 f1) (x : Int) : IsS109 w0 (W.setCell ⟨g, 1, none⟩ (.int .i64 x)) g f0 x := by
  obtain ⟨hb, hg⟩ := h
  exact ⟨by simpa using blk_set hb 1 (.int .i64 x), hg⟩
theorem IsS109.new (w0 W : World) (f0 : Int) (f1 : Int) (hB : Below w0.heap.size w0 W) : IsS109 w0 (W.alloc (.cells #[.int .i64 f0, .int .i64 f1] 109)) W.heap.size f0 f1 := ⟨by simpa using heap_alloc_new W _, hB.size⟩

/-! ### laws_FnExactTakesEmpty: function 11 -/
def laws_FnExactTakesEmpty.j0 : Nat → List (S111) → List (S109) → Bool → Option (Bool)
  | 0, _, _, _ => none
  | k + 1, x0, x6, x34 => if x34 = true then (some false) else ((laws_toReCellS.f k x0).bind fun t179 => ((laws_eqReCellS.f k x6 t179).bind fun t182 => (if t182 = true then (some true) else (some false))))
def laws_FnExactTakesEmpty.f (k : Nat) (l0 : List (S111)) : Option (Bool) := (laws_szReCellS.f l0 1048576).bind fun t168 => (if t168 < 0 then (some true) else ((laws_toReCellS.f k l0).bind fun t169 => ((spec_TakesEmpty.f k t169).bind fun bt172 => ((laws_toReCellS.f k l0).bind fun t174 => ((impl_TakesEmpty.f k t174).bind fun bt177 => (if (bt177.1 != bt172.1) = true then (laws_FnExactTakesEmpty.j0 k l0 t174 true) else (laws_FnExactTakesEmpty.j0 k l0 t174 (bt177.2 != bt172.2))))))))
theorem laws_FnExactTakesEmpty.mono_l : ∀ k, (∀ y0 y1 y2, LeO (laws_FnExactTakesEmpty.j0 k y0 y1 y2) (laws_FnExactTakesEmpty.j0 (k + 1) y0 y1 y2))
  | 0 => fun _ _ _ r h => by simp [laws_FnExactTakesEmpty.j0] at h
  | k + 1 => by
    have ih0 := laws_FnExactTakesEmpty.mono_l k
    · intro y0 y1 y2
      unfold laws_FnExactTakesEmpty.j0
      repeat' first
      | (with_reducible exact ih0 _ _ _)
      | (with_reducible exact impl_TakesEmpty.mono _ _)
      | (with_reducible exact laws_eqReCellS.mono _ _ _)
      | (with_reducible exact laws_toReCellS.mono _ _)
      | (with_reducible exact spec_TakesEmpty.mono _ _)
      | (with_reducible exact LeO.refl _)
      | (with_reducible exact LeO.none _)
      | (with_reducible refine LeO.ite ?_ ?_)
      | (with_reducible refine LeO.bind ?_ (fun _ => ?_))
      | exact ih0 _ _ _
      | exact impl_TakesEmpty.mono _ _
      | exact laws_eqReCellS.mono _ _ _
      | exact laws_toReCellS.mono _ _
      | exact spec_TakesEmpty.mono _ _
      | exact LeO.none _
      | refine LeO.ite ?_ ?_
      | refine LeO.bind ?_ (fun _ => ?_)
theorem laws_FnExactTakesEmpty.mono : ∀ a0 k, LeO (laws_FnExactTakesEmpty.f k a0) (laws_FnExactTakesEmpty.f (k + 1) a0) := by
  intro a0 k
  have ih0 := laws_FnExactTakesEmpty.mono_l k
  unfold laws_FnExactTakesEmpty.f
  repeat' first
      | (with_reducible exact ih0 _ _ _)
      | (with_reducible exact impl_TakesEmpty.mono _ _)
      | (with_reducible exact laws_eqReCellS.mono _ _ _)
      | (with_reducible exact laws_toReCellS.mono _ _)
      | (with_reducible exact spec_TakesEmpty.mono _ _)
      | (with_reducible exact LeO.refl _)
      | (with_reducible exact LeO.none _)
      | (with_reducible refine LeO.ite ?_ ?_)
      | (with_reducible refine LeO.bind ?_ (fun _ => ?_))
      | exact ih0 _ _ _
      | exact impl_TakesEmpty.mono _ _
      | exact laws_eqReCellS.mono _ _ _
      | exact laws_toReCellS.mono _ _
      | exact spec_TakesEmpty.mono _ _
      | exact LeO.none _
      | refine LeO.ite ?_ ?_
      | refine LeO.bind ?_ (fun _ => ?_)
set_option maxHeartbeats 8000000 in
set_option maxRecDepth 100000 in
theorem laws_FnExactTakesEmpty.calls (k : Nat) (A0 : Option Addr) (c0 : Nat) (l0 : List (S111)) (r : Bool) (w : World) (hr0 : Kd.C k111 w A0 l0.length l0) (hc0 : l0.length ≤ c0) (hT : r = true) (h : laws_FnExactTakesEmpty.f k l0 = some r) :
    Calls Try.prog 11 #[.slice A0 l0.length c0] w fun e w' => e = .returned (.bool r) ∧ Below w.heap.size w w' := by
  have HR0 := Aside0.mk hr0
  have HC0 := Aside0.mk hc0
  clear hr0 hc0
  have HB := Aside0.mk (Below.refl w.heap.size w)
  have H : ((laws_szReCellS.f l0 1048576).bind fun t168 => (if t168 < 0 then (some true) else ((laws_toReCellS.f k l0).bind fun t169 => ((spec_TakesEmpty.f k t169).bind fun bt172 => ((laws_toReCellS.f k l0).bind fun t174 => ((impl_TakesEmpty.f k t174).bind fun bt177 => (if (bt177.1 != bt172.1) = true then (laws_FnExactTakesEmpty.j0 k l0 t174 true) else (laws_FnExactTakesEmpty.j0 k l0 t174 (bt177.2 != bt172.2))))))))) = some r := h
  clear h
  replace H := Option.bind_eq_some_iff.mp H
  obtain ⟨t168, A20, H⟩ := H
  replace H : (if t168 < 0 then (some true) else ((laws_toReCellS.f k l0).bind fun t169 => ((spec_TakesEmpty.f k t169).bind fun bt172 => ((laws_toReCellS.f k l0).bind fun t174 => ((impl_TakesEmpty.f k t174).bind fun bt177 => (if (bt177.1 != bt172.1) = true then (laws_FnExactTakesEmpty.j0 k l0 t174 true) else (laws_FnExactTakesEmpty.j0 k l0 t174 (bt177.2 != bt172.2)))))))) = some r := H
  have A2 := Aside0.mk A20
  clear A20
  by_cases c3 : t168 < 0
  · rw [if_pos c3] at H
    have c3b0 : decide (t168 < 0) = true := decide_eq_true c3
    clear c3
    obtain rfl := Option.some.inj H
    go_enter Try.func11, Try.ntmps11
    go_wp2_with (first | ((with_reducible refine gate_callee (f := 43) rfl ?_); refine goesL_ (some 11) rfl rfl Try.func43 (by kernel_rfl) rfl #[.slice A0 l0.length c0, .int .i64 1048576] rfl (by (try simp only [List.map_toArray, List.map_cons, List.map_nil]); first | done | rfl | (simp only [List.length_drop, List.length_take]; rfl)) ?_; (with_reducible refine (laws_szReCellS.calls _ _ l0 1048576 t168 _ ?side1 ?side2 A2.out).mono ?_); (case side1 => repeat (first | exact HR0.out | (with_reducible refine Kd.C_alloc ?_ _) | (with_reducible refine Kd.C_drewN ?_ _) | (with_reducible refine Kd.C_drew ?_))); (case side2 => exact HC0.out); rintro e w' ⟨rfl, ⟨nd, rfl⟩⟩; refine ⟨_, rfl, ?_⟩))
    go_ret
    exact ⟨by first | rfl | (simp [errW_none, errW_some] <;> rfl) | (simp [*, errW_none, errW_some] <;> rfl), by repeat (first | (with_reducible first | exact HB.out | apply below_alloc | apply pw_below_drewN | apply below_drew1) | exact HB.out)⟩
  · rw [if_neg c3] at H
    have c3b0 : decide (t168 < 0) = false := decide_eq_false c3
    clear c3
    replace H := Option.bind_eq_some_iff.mp H
    obtain ⟨t169, A40, H⟩ := H
    replace H : ((spec_TakesEmpty.f k t169).bind fun bt172 => ((laws_toReCellS.f k l0).bind fun t174 => ((impl_TakesEmpty.f k t174).bind fun bt177 => (if (bt177.1 != bt172.1) = true then (laws_FnExactTakesEmpty.j0 k l0 t174 true) else (laws_FnExactTakesEmpty.j0 k l0 t174 (bt177.2 != bt172.2)))))) = some r := H
    have A4 := Aside0.mk A40
    clear A40
    replace H := Option.bind_eq_some_iff.mp H
    obtain ⟨⟨t172, t173⟩, A50, H⟩ := H
    replace H : ((laws_toReCellS.f k l0).bind fun t174 => ((impl_TakesEmpty.f k t174).bind fun bt177 => (if (bt177.1 != t172) = true then (laws_FnExactTakesEmpty.j0 k l0 t174 true) else (laws_FnExactTakesEmpty.j0 k l0 t174 (bt177.2 != t173))))) = some r := H
    have A5 := Aside0.mk A50
    clear A50
    replace H := Option.bind_eq_some_iff.mp H
    obtain ⟨t174, A60, H⟩ := H
    replace H : ((impl_TakesEmpty.f k t174).bind fun bt177 => (if (bt177.1 != t172) = true then (laws_FnExactTakesEmpty.j0 k l0 t174 true) else (laws_FnExactTakesEmpty.j0 k l0 t174 (bt177.2 != t173)))) = some r := H
    have A6 := Aside0.mk A60
    clear A60
    replace H := Option.bind_eq_some_iff.mp H
    obtain ⟨⟨t177, t178⟩, A70, H⟩ := H
    replace H : (if (t177 != t172) = true then (laws_FnExactTakesEmpty.j0 k l0 t174 true) else (laws_FnExactTakesEmpty.j0 k l0 t174 (t178 != t173))) = some r := H
    have A7 := Aside0.mk A70
    clear A70
    have HC8 := Aside0.mk H
    clear H
    go_enter Try.func11, Try.ntmps11
    go_upto_region 8 with (first | ((with_reducible refine gate_callee (f := 43) rfl ?_); refine goesL_ (some 11) rfl rfl Try.func43 (by kernel_rfl) rfl #[.slice A0 l0.length c0, .int .i64 1048576] rfl (by (try simp only [List.map_toArray, List.map_cons, List.map_nil]); first | done | rfl | (simp only [List.length_drop, List.length_take]; rfl)) ?_; (with_reducible refine (laws_szReCellS.calls _ _ l0 1048576 t168 _ ?side1 ?side2 A2.out).mono ?_); (case side1 => repeat (first | exact HR0.out | (with_reducible refine Kd.C_alloc ?_ _) | (with_reducible refine Kd.C_drewN ?_ _) | (with_reducible refine Kd.C_drew ?_))); (case side2 => exact HC0.out); rintro e w' ⟨rfl, ⟨nd, rfl⟩⟩; refine ⟨_, rfl, ?_⟩) | ((with_reducible refine gate_callee (f := 45) rfl ?_); refine goesL_ (some 16) rfl rfl Try.func45 (by kernel_rfl) rfl #[.slice A0 l0.length c0] rfl (by (try simp only [List.map_toArray, List.map_cons, List.map_nil]); first | done | rfl | (simp only [List.length_drop, List.length_take]; rfl)) ?_; (with_reducible refine (laws_toReCellS.calls k _ _ l0 t169 _ ?side1 ?side2 A4.out).mono ?_); (case side1 => repeat (first | exact HR0.out | (with_reducible refine Kd.C_alloc ?_ _) | (with_reducible refine Kd.C_drewN ?_ _) | (with_reducible refine Kd.C_drew ?_))); (case side2 => exact HC0.out); rintro e w9 ⟨v170, rfl, ho0, hb⟩; refine ⟨_, rfl, ?_⟩; have n0_ := Aside0.mk (Kd.R_lower ho0 (below_size (by repeat (first | (with_reducible first | exact HB.out | apply below_alloc | apply pw_below_drewN | apply below_drew1) | exact HB.out)))); have n1_ := Aside0.mk (below_step (by repeat (first | (with_reducible first | exact HB.out | apply below_alloc | apply pw_below_drewN | apply below_drew1) | exact HB.out)) hb); clear HB; have HO171 := n0_; have HB := n1_; clear n0_ n1_; (try clear hb); (try clear hb2); (try clear hk); (try clear hi); (try clear ho0); obtain ⟨Ao10, co10, eo10⟩ := Kd.R_slice HO171.out; subst eo10) | ((with_reducible refine gate_callee (f := 48) rfl ?_); refine goesL_ (some 17) rfl rfl Try.func48 (by kernel_rfl) rfl #[.slice Ao10 t169.length co10] rfl (by (try simp only [List.map_toArray, List.map_cons, List.map_nil]); first | done | rfl | (simp only [List.length_drop, List.length_take]; rfl)) ?_; (with_reducible refine (spec_TakesEmpty.calls k _ _ t169 t172 t173 _ ?side1 ?side2 A5.out).mono ?_); (case side1 => repeat (first | exact (Kd.R_reads' HO171.out).2.2 | (with_reducible refine Kd.C_alloc ?_ _) | (with_reducible refine Kd.C_drewN ?_ _) | (with_reducible refine Kd.C_drew ?_))); (case side2 => exact (Kd.R_reads' HO171.out).2.1); rintro e w11 ⟨rfl, hb⟩; refine ⟨_, rfl, ?_⟩; have n0_ := Aside0.mk (Kd.R_below (by (with_reducible repeat (first | apply Kd.R_alloc | apply Kd.R_drewN | apply Kd.R_drew)); exact HO171.out) hb); have n1_ := Aside0.mk (below_step (by repeat (first | (with_reducible first | exact HB.out | apply below_alloc | apply pw_below_drewN | apply below_drew1) | exact HB.out)) hb); clear HO171; clear HB; have HO171 := n0_; have HB := n1_; clear n0_ n1_; (try clear hb); (try clear hb2); (try clear hk); (try clear hi)) | ((with_reducible refine gate_callee (f := 45) rfl ?_); refine goesL_ (some 21) rfl rfl Try.func45 (by kernel_rfl) rfl #[.slice A0 l0.length c0] rfl (by (try simp only [List.map_toArray, List.map_cons, List.map_nil]); first | done | rfl | (simp only [List.length_drop, List.length_take]; rfl)) ?_; (with_reducible refine (laws_toReCellS.calls k _ _ l0 t174 _ ?side1 ?side2 A6.out).mono ?_); (case side1 => repeat (first | exact (Kd.C_below HR0.out HB.out) | (with_reducible refine Kd.C_alloc ?_ _) | (with_reducible refine Kd.C_drewN ?_ _) | (with_reducible refine Kd.C_drew ?_))); (case side2 => exact HC0.out); rintro e w12 ⟨v175, rfl, ho0, hb⟩; refine ⟨_, rfl, ?_⟩; have n0_ := Aside0.mk (Kd.R_elder' (by (with_reducible repeat (first | apply Kd.R_alloc | apply Kd.R_drewN | apply Kd.R_drew)); exact HO171.out) (Kd.R_base ho0) hb); have n1_ := Aside0.mk (Kd.R_lower (Kd.R_new' ho0 (Kd.R_lt (by (with_reducible repeat (first | apply Kd.R_alloc | apply Kd.R_drewN | apply Kd.R_drew)); exact HO171.out))) (below_size (by repeat (first | (with_reducible first | exact HB.out | apply below_alloc | apply pw_below_drewN | apply below_drew1) | exact HB.out)))); have n2_ := Aside0.mk (below_step (by repeat (first | (with_reducible first | exact HB.out | apply below_alloc | apply pw_below_drewN | apply below_drew1) | exact HB.out)) hb); clear HO171; clear HB; have HO171 := n0_; have HO176 := n1_; have HB := n2_; clear n0_ n1_ n2_; (try clear hb); (try clear hb2); (try clear hk); (try clear hi); (try clear ho0); obtain ⟨Ao13, co13, eo13⟩ := Kd.R_slice HO176.out; subst eo13) | ((with_reducible refine gate_callee (f := 49) rfl ?_); refine goesL_ (some 24) rfl rfl Try.func49 (by kernel_rfl) rfl #[.slice Ao13 t174.length co13] rfl (by (try simp only [List.map_toArray, List.map_cons, List.map_nil]); first | done | rfl | (simp only [List.length_drop, List.length_take]; rfl)) ?_; (with_reducible refine (impl_TakesEmpty.calls k _ _ t174 t177 t178 _ ?side1 ?side2 A7.out).mono ?_); (case side1 => repeat (first | exact (Kd.R_reads' HO176.out).2.2 | (with_reducible refine Kd.C_alloc ?_ _) | (with_reducible refine Kd.C_drewN ?_ _) | (with_reducible refine Kd.C_drew ?_))); (case side2 => exact (Kd.R_reads' HO176.out).2.1); rintro e w14 ⟨rfl, hb⟩; refine ⟨_, rfl, ?_⟩; have n0_ := Aside0.mk (Kd.R_below (by (with_reducible repeat (first | apply Kd.R_alloc | apply Kd.R_drewN | apply Kd.R_drew)); exact HO171.out) hb); have n1_ := Aside0.mk (Kd.R_below (by (with_reducible repeat (first | apply Kd.R_alloc | apply Kd.R_drewN | apply Kd.R_drew)); exact HO176.out) hb); have n2_ := Aside0.mk (below_step (by repeat (first | (with_reducible first | exact HB.out | apply below_alloc | apply pw_below_drewN | apply below_drew1) | exact HB.out)) hb); clear HO171; clear HO176; clear HB; have HO171 := n0_; have HO176 := n1_; have HB := n2_; clear n0_ n1_ n2_; (try clear hb); (try clear hb2); (try clear hk); (try clear hi)))
    (try simp only [Act.put, List.setIfInBounds_toArray, List.set_cons_zero, List.set_cons_succ])
    go_cut [34] (fun v34 wc => ∃ (kq : Nat) (x34_7 : Bool), v34 = .bool x34_7 ∧ Aside0 (laws_FnExactTakesEmpty.j0 kq l0 t174 x34_7 = some r) ∧ Aside0 (kq ≤ k) ∧ Aside0 (Kd.R k109 109 wc w.heap.size (fun _ => True) (.slice Ao13 t174.length co13) t174) ∧ Aside0 (Below w.heap.size w wc))
    case first =>
      have H := HC8.out
      clear HC8
      by_cases c15 : (t177 != t172) = true
      · rw [if_pos c15] at H
        have c15b0 : (t177 != t172) = true := c15
        (try (have c15b1 : decide (t177 = t172) = false := by simpa using c15))
        (try (have c15b2 : (t177 == t172) = false := by simpa using c15))
        (try (have c15b3 : ¬ (t177 = t172) := by simpa using c15))
        clear c15
        (first | rw [c15b0] | (simp only [i64_w, i32_w]; rw [c15b0]) | skip)
        have H' := Aside0.mk H
        clear H
        go_wp2
        go_meet
        case rel => exact ⟨_, (true), (by first | rfl | (simp; done) | (simp [*]; done)), H', ⟨by first | omega | exact Nat.le_refl _⟩, ⟨by (with_reducible repeat (first | apply Kd.R_alloc | apply Kd.R_drewN | apply Kd.R_drew)); exact Kd.R_mono HO176.out (fun _ hk => trivial)⟩, ⟨by repeat (first | (with_reducible first | exact HB.out | apply below_alloc | apply pw_below_drewN | apply below_drew1) | exact HB.out)⟩⟩
      · rw [if_neg c15] at H
        have c15b0 : (t177 != t172) = false := by simpa using c15
        (try (have c15b1 : decide (t177 = t172) = true := by simpa using c15))
        (try (have c15b2 : (t177 == t172) = true := by simpa using c15))
        clear c15
        (first | rw [c15b0] | (simp only [i64_w, i32_w]; rw [c15b0]) | skip)
        have H' := Aside0.mk H
        clear H
        go_wp2
        go_meet
        case rel => exact ⟨_, ((t178 != t173)), (by first | rfl | (simp; done) | (simp [*]; done)), H', ⟨by first | omega | exact Nat.le_refl _⟩, ⟨by (with_reducible repeat (first | apply Kd.R_alloc | apply Kd.R_drewN | apply Kd.R_drew)); exact Kd.R_mono HO176.out (fun _ hk => trivial)⟩, ⟨by repeat (first | (with_reducible first | exact HB.out | apply below_alloc | apply pw_below_drewN | apply below_drew1) | exact HB.out)⟩⟩
    case rest =>
      clear HC8
      try clear c1
      try clear p2
      try clear c3
      try clear c3b0
      try clear c4
      try clear c11
      try clear c15
      try clear c15b0
      try clear c15b1
      try clear c15b2
      obtain ⟨kq, x34_7, rfl, HA, HJ7, HO_6, HB⟩ := hcut
      cases kq with
      | zero => exact absurd HA.out (by simp [laws_FnExactTakesEmpty.j0])
      | succ kj7 =>
        have H := HA.out
        clear HA
        simp only [laws_FnExactTakesEmpty.j0] at H
        by_cases c16 : x34_7 = true
        · subst c16
          have H1 : (some false) = some r := by rw [if_pos rfl] at H; exact H
          clear H
          have H := H1
          clear H1
          obtain rfl := Option.some.inj H
          cases hT
        · replace c16 := Bool.eq_false_iff.mpr c16
          subst c16
          have H1 : ((laws_toReCellS.f kj7 l0).bind fun t179 => ((laws_eqReCellS.f kj7 t174 t179).bind fun t182 => (if t182 = true then (some true) else (some false)))) = some r := by rw [if_neg (show ¬ (false = true) by decide)] at H; exact H
          clear H
          have H := H1
          clear H1
          replace H := Option.bind_eq_some_iff.mp H
          obtain ⟨t179, A170, H⟩ := H
          replace H : ((laws_eqReCellS.f kj7 t174 t179).bind fun t182 => (if t182 = true then (some true) else (some false))) = some r := H
          have A17 := Aside0.mk A170
          clear A170
          replace H := Option.bind_eq_some_iff.mp H
          obtain ⟨t182, A180, H⟩ := H
          replace H : (if t182 = true then (some true) else (some false)) = some r := H
          have A18 := Aside0.mk A180
          clear A180
          by_cases c19 : t182 = true
          · subst c19
            have H1 : (some true) = some r := by rw [if_pos rfl] at H; exact H
            clear H
            have H := H1
            clear H1
            obtain rfl := Option.some.inj H
            go_wp2_with (first | ((with_reducible refine gate_callee (f := 45) rfl ?_); refine goesL_ (some 37) rfl rfl Try.func45 (by kernel_rfl) rfl #[.slice A0 l0.length c0] rfl (by (try simp only [List.map_toArray, List.map_cons, List.map_nil]); first | done | rfl | (simp only [List.length_drop, List.length_take]; rfl)) ?_; (with_reducible refine (laws_toReCellS.calls kj7 _ _ l0 t179 _ ?side1 ?side2 A17.out).mono ?_); (case side1 => repeat (first | exact (Kd.C_below HR0.out HB.out) | (with_reducible refine Kd.C_alloc ?_ _) | (with_reducible refine Kd.C_drewN ?_ _) | (with_reducible refine Kd.C_drew ?_))); (case side2 => exact HC0.out); rintro e w20 ⟨v180, rfl, ho0, hb⟩; refine ⟨_, rfl, ?_⟩; have n0_ := Aside0.mk (Kd.R_elder' (by (with_reducible repeat (first | apply Kd.R_alloc | apply Kd.R_drewN | apply Kd.R_drew)); exact HO_6.out) (Kd.R_base ho0) hb); have n1_ := Aside0.mk (Kd.R_lower (Kd.R_new' ho0 (Kd.R_lt (by (with_reducible repeat (first | apply Kd.R_alloc | apply Kd.R_drewN | apply Kd.R_drew)); exact HO_6.out))) (below_size (by repeat (first | (with_reducible first | exact HB.out | apply below_alloc | apply pw_below_drewN | apply below_drew1) | exact HB.out)))); have n2_ := Aside0.mk (below_step (by repeat (first | (with_reducible first | exact HB.out | apply below_alloc | apply pw_below_drewN | apply below_drew1) | exact HB.out)) hb); clear HO_6; clear HB; have HO_6 := n0_; have HO181 := n1_; have HB := n2_; clear n0_ n1_ n2_; (try clear hb); (try clear hb2); (try clear hk); (try clear hi); (try clear ho0); obtain ⟨Ao21, co21, eo21⟩ := Kd.R_slice HO181.out; subst eo21) | ((with_reducible refine gate_callee (f := 47) rfl ?_); refine goesL_ (some 38) rfl rfl Try.func47 (by kernel_rfl) rfl #[.slice Ao13 t174.length co13, .slice Ao21 t179.length co21] rfl (by (try simp only [List.map_toArray, List.map_cons, List.map_nil]); first | done | rfl | (simp only [List.length_drop, List.length_take]; rfl)) ?_; (with_reducible refine (laws_eqReCellS.calls kj7 _ _ t174 _ _ t179 true _ ?side1 ?side2 ?side3 ?side4 A18.out).mono ?_); (case side1 => repeat (first | exact (Kd.R_reads' HO_6.out).2.2 | (with_reducible refine Kd.C_alloc ?_ _) | (with_reducible refine Kd.C_drewN ?_ _) | (with_reducible refine Kd.C_drew ?_))); (case side2 => exact (Kd.R_reads' HO_6.out).2.1); (case side3 => repeat (first | exact (Kd.R_reads' HO181.out).2.2 | (with_reducible refine Kd.C_alloc ?_ _) | (with_reducible refine Kd.C_drewN ?_ _) | (with_reducible refine Kd.C_drew ?_))); (case side4 => exact (Kd.R_reads' HO181.out).2.1); rintro e w22 ⟨rfl, hb⟩; refine ⟨_, rfl, ?_⟩; have n0_ := Aside0.mk (Kd.R_below (by (with_reducible repeat (first | apply Kd.R_alloc | apply Kd.R_drewN | apply Kd.R_drew)); exact HO_6.out) hb); have n1_ := Aside0.mk (Kd.R_below (by (with_reducible repeat (first | apply Kd.R_alloc | apply Kd.R_drewN | apply Kd.R_drew)); exact HO181.out) hb); have n2_ := Aside0.mk (below_step (by repeat (first | (with_reducible first | exact HB.out | apply below_alloc | apply pw_below_drewN | apply below_drew1) | exact HB.out)) hb); clear HO_6; clear HO181; clear HB; have HO_6 := n0_; have HO181 := n1_; have HB := n2_; clear n0_ n1_ n2_; (try clear hb); (try clear hb2); (try clear hk); (try clear hi)))
            go_ret
            exact ⟨by first | rfl | (simp [errW_none, errW_some] <;> rfl) | (simp [*, errW_none, errW_some] <;> rfl), by repeat (first | (with_reducible first | exact HB.out | apply below_alloc | apply pw_below_drewN | apply below_drew1) | exact HB.out)⟩
          · replace c19 := Bool.eq_false_iff.mpr c19
            subst c19
            have H1 : (some false) = some r := by rw [if_neg (show ¬ (false = true) by decide)] at H; exact H
            clear H
            have H := H1
            clear H1
            obtain rfl := Option.some.inj H
            cases hT

end Go.Proofs.Ytkkchcalhomgcaa.PFnExactTakesEmpty
