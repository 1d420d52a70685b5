/- Written by this session's own program over the kit's print: Lean functions that tell what Go functions answer, each with a proof that the call does so. No condition but what each statement says. -/
import Derived.Test.YtkkchcalhomgcaaYFnExactTidyRegexx6
namespace Go.Proofs.Ytkkchcalhomgcaa.PFnExactTidyRegex
open Go.RowKit Go.Proofs.YtkkchcalhomgcaaW.PrintWords Go.Proofs.YtkkchcalhomgcaaW.PrintLast Go.Proofs.YtkkchcalhomgcaaW.PrintMore
attribute [local go_sem] max2_int min2_int max_two min_two max_three min_three max_four min_four   -- for this text's walks alone
set_option linter.unusedVariables false
set_option linter.unusedSimpArgs false

section
variable {α : Type}
/-- A pointer to a block of a type of its own, that holds one of a kind. -/
def ptrK (t : Nat) (d : Kd α) : Kd α where
  sz := 1
  E := t :: d.E
  K := fun w x cs => ∃ g cells, cs = [.pointer (some ⟨g, 0, none⟩)] ∧ w.heap[g]? = some (.cells cells t (0, 0)) ∧ d.K w x cells.toList
  M := fun w base ok x cs => ∃ g cells, cs = [.pointer (some ⟨g, 0, none⟩)] ∧ w.heap[g]? = some (.cells cells t (0, 0)) ∧ base ≤ g ∧ ok g ∧ d.M w base (fun k => ok k ∧ k ≠ g) x cells.toList
  K_len := by
    rintro w x cs ⟨g, cells, rfl, _⟩
    rfl
  K_one := by
    rintro w x cs ⟨g, cells, rfl, _⟩ u hu
    rw [List.mem_singleton.1 hu]
    rfl
  K_below := by
    rintro w w1 x cs hb ⟨g, cells, rfl, hg, hk⟩
    exact ⟨g, cells, rfl, (hb.block g (Array.getElem?_eq_some_iff.1 hg).1).trans hg, d.K_below hb hk⟩
  K_of_M := by
    rintro w base ok x cs ⟨g, cells, rfl, hg, _, _, hm⟩
    exact ⟨g, cells, rfl, hg, d.K_of_M hm⟩
  M_mono := by
    rintro w base ok ok' x cs hok ⟨g, cells, rfl, hg, hb, ho, hm⟩
    exact ⟨g, cells, rfl, hg, hb, hok g ho, d.M_mono (fun k hk => ⟨hok k hk.1, hk.2⟩) hm⟩
  M_bound := by
    rintro w base ok x cs ⟨g, cells, rfl, hg, hb, ho, hm⟩
    refine ⟨g, cells, rfl, hg, hb, ⟨ho, hb, (Array.getElem?_eq_some_iff.1 hg).1, t, List.mem_cons_self .., cells, hg⟩, d.M_mono ?_ (d.M_bound hm)⟩
    rintro k ⟨⟨h1, h2⟩, h3, h4, q, hq, hc⟩
    exact ⟨⟨h1, h3, h4, q, List.mem_cons_of_mem _ hq, hc⟩, h2⟩
  M_move := by
    rintro w w1 base ok x cs hm ⟨g, cells, rfl, hg, hb, ho, h⟩
    exact ⟨g, cells, rfl, (hm g ho).trans hg, hb, ho, d.M_move (fun k hk => hm k hk.1) h⟩
  M_lower := by
    rintro w base base' ok x cs hl ⟨g, cells, rfl, hg, hb, ho, h⟩
    exact ⟨g, cells, rfl, hg, Nat.le_trans hl hb, ho, d.M_lower hl h⟩
theorem mono_ptr {β : Type} (t : Nat) {G : Kd α → Kd β} (hG : Kd.Mono G) : Kd.Mono (fun d => ptrK t (G d)) := by
  refine ⟨fun _ _ _ => rfl, ?_, ?_⟩
  · rintro d d' hs h w x cs ⟨g, cells, rfl, hg, hk⟩
    exact ⟨g, cells, rfl, hg, hG.K d d' hs h _ _ _ hk⟩
  · rintro d d' hs h w base ok x cs ⟨g, cells, rfl, hg, hb, ho, hm⟩
    exact ⟨g, cells, rfl, hg, hb, ho, hG.M d d' hs h _ _ _ _ _ hm⟩
theorem sub_ptr {β : Type} {E : List Nat} (t : Nat) {G : Kd α → Kd β} (ht : t ∈ E) (hG : Kd.Sub G E) : Kd.Sub (fun d => ptrK t (G d)) E := fun d h q hq => by
  rcases List.mem_cons.1 hq with rfl | hq
  · exact ht
  · exact hG d h q hq
end
/-- A pattern as impl.treeOf lays it: a pointer to a block (type 145) with the cell's two numbers and a row of pointers to patterns. -/
def FP (d : Kd S105) : Kd S105 := ptrK 145 (Kd.iso (Kd.pair (Kd.int .i64) (Kd.pair (Kd.int .i64) (Kd.slice 116 d))) (fun x : S105 => (x.f0, x.f1, x.f2)))
theorem monoP : Kd.Mono FP := mono_ptr 145 (Kd.mono_iso _ (Kd.mono_pair (Kd.mono_const _) (Kd.mono_pair (Kd.mono_const _) (Kd.mono_slice 116 Kd.mono_id))))
theorem subP : Kd.Sub FP [145, 116] := sub_ptr 145 (by decide) (Kd.sub_iso _ (Kd.sub_pair (Kd.sub_const _ (by decide)) (Kd.sub_pair (Kd.sub_const _ (by decide)) (Kd.sub_slice 116 (by decide) Kd.sub_id))))
theorem szP : ∀ n, (Kd.upto FP 1 [145, 116] n).sz = 1 := Kd.upto_sz (fun _ => rfl)
def kP : Kd S105 := Kd.fix FP 1 [145, 116] szP (Kd.upto_E subP)
theorem kP_open {w : World} {x : S105} {cs : List Value} (h : kP.K w x cs) : ∃ g A2 c2, cs = [.pointer (some ⟨g, 0, none⟩)] ∧ w.heap[g]? = some (.cells #[.int .i64 x.f0, .int .i64 x.f1, .slice A2 x.f2.length c2] 145 (0, 0)) ∧ x.f2.length ≤ c2 ∧ kP.C w A2 x.f2.length x.f2 := by
  obtain ⟨n, h⟩ := h
  cases n with
  | zero => exact h.elim
  | succ n =>
    obtain ⟨g, ⟨cl⟩, rfl, hg, ⟨_, _, e, rfl, ⟨_, _, rfl, rfl, ⟨A2, c2, rfl, l2, g2⟩⟩⟩⟩ := h
    have e : cl = _ := e
    subst e
    exact ⟨g, A2, c2, rfl, hg, l2, Kd.fix_C g2⟩
theorem kP_mkM (w : World) (base : Nat) (ok : Nat → Prop) (x : S105) (g : Nat) {v2 : Value} (hg : w.heap[g]? = some (.cells #[.int .i64 x.f0, .int .i64 x.f1, v2] 145 (0, 0))) (hb : base ≤ g) (ho : ok g) (g2 : kP.R 116 w base (fun k => ok k ∧ k ≠ g) v2 x.f2) : kP.M w base ok x [.pointer (some ⟨g, 0, none⟩)] := by
  obtain ⟨n2, q2⟩ := Kd.fix_R_back monoP g2
  have r2 := Kd.upto_R_le monoP szP (show n2 ≤ n2 by omega) q2
  exact ⟨n2 + 1, ⟨g, _, rfl, hg, hb, ho, ⟨[.int .i64 x.f0], [.int .i64 x.f1, v2], rfl, rfl, ⟨[.int .i64 x.f1], [v2], rfl, rfl, ⟨v2, rfl, r2⟩⟩⟩⟩⟩
theorem at_P {w : World} {A : Option Addr} {n : Nat} {xs : List S105} (h : Kd.C kP w A n xs) (i : Int) (h0 : 0 ≤ i) (h1 : i < n) : ∃ ad g, A = some ad ∧ w.cell? (ad.add i.toNat) = some (.pointer (some ⟨g, 0, none⟩)) ∧ kP.K w (rd_T105 xs i) [.pointer (some ⟨g, 0, none⟩)] := by
  obtain ⟨ad, c, e, hl, hK, hc0⟩ := Kd.C_get h z105 i h0 h1
  obtain ⟨g, A2, c2, rfl, _⟩ := kP_open hK
  refine ⟨ad, g, e, ?_, hK⟩
  have := hc0 0 _ rfl
  simpa [show kP.sz = 1 from rfl] using this
/-! ### impl_treeOf: function 87 -/
def kidsP (p : List S109 → Option (S105 × List S109)) : Nat → List S109 → Option (List S105 × List S109)
  | 0, r => some ([], r)
  | m + 1, r => (p r).bind fun x => (kidsP p m x.2).bind fun y => some (x.1 :: y.1, y.2)
def impl_treeOf.f : Nat → List S109 → Option (S105 × List S109)
  | 0, _ => none
  | _ + 1, [] => none
  | k + 1, c :: r => (impl_partsOf.f k c.f0).bind fun p => if p ≤ 2 then (kidsP (impl_treeOf.f k) p.toNat r).bind fun y => if y.1.length < 1000000 then some (⟨c.f0, c.f1, y.1⟩, y.2) else none else none
theorem info116 : (Try.prog.info? 116).map (fun i => (i.zero, i.size, i.bytes)) = some (some (.pointer none), 1, 8) := by kernel_rfl
set_option maxHeartbeats 8000000 in
set_option maxRecDepth 100000 in
theorem impl_treeOf.calls : ∀ (k : Nat) (A0 : Option Addr) (c0 : Nat) (l0 : List S109) (t : S105) (q : List S109) (w : World), Kd.C k109 w A0 l0.length l0 → l0.length ≤ c0 → impl_treeOf.f k l0 = some (t, q) →
    Calls Try.prog 87 #[.slice A0 l0.length c0] w fun e w' => ∃ g A1 c1, e = .returned (.tuple #[.pointer (some ⟨g, 0, none⟩), .slice A1 q.length c1]) ∧ kP.M w' w.heap.size (fun _ => True) t [.pointer (some ⟨g, 0, none⟩)] ∧ (∀ W_ : World, Kd.C k109 W_ A0 l0.length l0 → Kd.C k109 W_ A1 q.length q) ∧ q.length ≤ c1 ∧ Below w.heap.size w w'
  | 0, A0, c0, l0, t, q, w, hr0, hc0, h => by simp [impl_treeOf.f] at h
  | k + 1, A0, c0, [], t, q, w, hr0, hc0, h => by simp [impl_treeOf.f] at h
  | k + 1, A0, c0, c :: l, t, q, w, hr0, hc0, h => by
    have ih := impl_treeOf.calls k
    have hu145 := Try.underlying145
    have hu109 := Try.underlying109
    have HB := Aside0.mk (Below.refl w.heap.size w)
    have HR0 := Aside0.mk hr0
    have HC0 := Aside0.mk hc0
    simp only [impl_treeOf.f] at h
    obtain ⟨p, hp, h⟩ := Option.bind_eq_some_iff.mp h
    by_cases hp2 : p ≤ 2
    case neg => rw [if_neg hp2] at h; cases h
    rw [if_pos hp2] at h
    obtain ⟨⟨ys, q'⟩, hk, h⟩ := Option.bind_eq_some_iff.mp h
    dsimp only at h
    by_cases hlen : ys.length < 1000000
    · rw [if_pos hlen] at h
      simp only [Option.some.injEq, Prod.mk.injEq] at h
      obtain ⟨rfl, rfl⟩ := h
      obtain ⟨ad, rfl, hx0, hx1⟩ := at_T109 hr0 0 (by omega) (by simp)
      have hrd : rd_T109 (c :: l) 0 = c := rfl
      rw [hrd] at hx0 hx1
      replace hx0 : w.cell? ad = some (.int .i64 c.f0) := by have h_ : w.cell? (ad.add 0) = some (.int .i64 c.f0) := hx0; rwa [show ad.add 0 = ad from by unfold Addr.add; simp] at h_
      replace hx1 : w.cell? ⟨ad.block, ad.off + 1, none⟩ = some (.int .i64 c.f1) := by have h_ : w.cell? ⟨(ad.add 0).block, (ad.add 0).off + 1, none⟩ = some (.int .i64 c.f1) := hx1; rwa [show ad.add 0 = ad from by unfold Addr.add; simp] at h_
      obtain ⟨i0, hi0, _, hsz0, _⟩ := info_parts info109
      have hcut := cut_from (P := Try.prog) 67 109 .i64 Try.underlying67 hi0 2 hsz0 (some ad) (c :: l).length c0 1 (by omega) (by simp; omega)
      have hrest : ∀ W_ : World, Kd.C k109 W_ (some ad) (c :: l).length (c :: l) → Kd.C k109 W_ (if c0 = 1 then some ad else (some ad : Option Addr).map (·.add (1 * 2))) l.length l := fun W_ h_ => Kd.C_drop (m := 1) (c := c0) h_ (by simp) hc0
      obtain ⟨A1, hA1⟩ : ∃ A1, A1 = (if c0 = 1 then (some ad : Option Addr) else (some ad : Option Addr).map (·.add (1 * 2))) := ⟨_, rfl⟩
      obtain ⟨c1, hc1⟩ : ∃ c1, c1 = c0 - 1 := ⟨_, rfl⟩
      replace hcut : ∀ W : World, (Instr.slice 67 (.slice (some ad) (l.length + 1) c0) (some (.int .i64 1)) none none).run Try.prog W = .ok (.slice A1 l.length c1) W := by
        intro W
        rw [hA1, hc1]
        exact hcut W
      rw [← hA1] at hrest
      have HR1 := Aside0.mk hrest
      have HC1 := Aside0.mk (show l.length ≤ c1 from by simp at hc0; omega)
      obtain ⟨M, hMp⟩ : ∃ M : Nat, M = p.toNat := ⟨_, rfl⟩
      rw [← hMp] at hk
      have HMp := Aside0.mk hMp
      have HP2 := Aside0.mk hp2
      have HP := Aside0.mk hp
      have HK := Aside0.mk hk
      have HL := Aside0.mk hlen
      have q0 : (0 : Int) < ((c :: l).length : Int) := by rw [List.length_cons]; omega
      replace q0 := eq_true q0
      have q0n : (0 < (c :: l).length) = True := eq_true (by simp)
      clear hr0 hc0 hrest hA1 hc1 hp hk hlen hi0 hsz0 hrd hMp hp2
      go_enter Try.func87, Try.ntmps87
      go_wp2_with (first | ((with_reducible refine gate_dst (N := 12) rfl ?_); refine box_event ?hg (N := 12) ?hd (cs := #[.int .i64 c.f0, .int .i64 c.f1, .slice none 0 0]) (t := 145) ?hr ?_; (case hd => rfl); (case hg => rfl); (case hr => first | (go_simp; done) | (go_simp; rfl)); intro gb hg w1 hbox hb; have n0_ := Aside0.mk (below_step (by repeat (first | (with_reducible first | exact HB.out | apply below_alloc | apply pw_below_drewN | apply below_drew1) | exact HB.out)) hb); have BK := Aside0.mk hbox; have GE := Aside0.mk ((by rw [hg]; exact (below_size (by repeat (first | (with_reducible first | exact HB.out | apply below_alloc | apply pw_below_drewN | apply below_drew1) | exact HB.out))) : w.heap.size ≤ gb)); clear HB; have HB := n0_; clear n0_; clear hb hbox hg; replace hx0 : w1.cell? ad = some (.int .i64 c.f0) := (HB.out.cell (World.block_lt_of_cell? w _ hx0)).trans hx0; replace hx1 : w1.cell? ⟨ad.block, ad.off + 1, none⟩ = some (.int .i64 c.f1) := (HB.out.cell (World.block_lt_of_cell? w _ hx1)).trans hx1) | ((with_reducible refine gate_callee (f := 110) rfl ?_); refine goesL_ (some 19) rfl rfl Try.func110 (by kernel_rfl) rfl #[.int .i64 c.f0] rfl (by (try simp only [List.map_toArray, List.map_cons, List.map_nil]); first | done | rfl) ?_; (with_reducible refine (impl_partsOf.calls k c.f0 p _ HP.out).mono ?_); rintro e w' ⟨rfl, ⟨nd, rfl⟩⟩; refine ⟨_, rfl, ?_⟩))
      go_loopg [5, 20] M (fun m v5 v20 w' => ∃ (ts zs : List S105) (r' : List S109) (u : Value) (A2 : Option Addr) (c2 : Nat), v5 = .slice A2 r'.length c2 ∧ v20 = .int .i64 ((M : Int) - m) ∧ Aside0 (m ≤ M) ∧ Aside0 (kidsP (impl_treeOf.f k) m r' = some (zs, q')) ∧ Aside0 (ts ++ zs = ys) ∧ Aside0 (∀ W_ : World, Kd.C k109 W_ (some ad) (c :: l).length (c :: l) → Kd.C k109 W_ A2 r'.length r') ∧ Aside0 (r'.length ≤ c2) ∧ Aside0 (kP.R 116 w' w.heap.size (fun k_ => k_ ≠ gb) u ts) ∧ Aside0 (w'.heap[gb]? = some (.cells #[.int .i64 c.f0, .int .i64 c.f1, u] 145 (0, 0))) ∧ Aside0 (Below w.heap.size w w'))
      case atStart => exact ⟨[], ys, l, .slice none 0 0, A1, c1, (by first | rfl | (simp; done)), (by first | rfl | (simp; done)), ⟨Nat.le_refl _⟩, HK, ⟨rfl⟩, HR1, HC1, ⟨Kd.R_nil _ _ _ _ _⟩, ⟨by (with_reducible repeat (first | refine blk_drewN ?_ _ | refine blk_drew ?_ | refine blk_alloc ?_ _)); exact BK.out⟩, ⟨by repeat (first | (with_reducible first | exact HB.out | apply below_alloc | apply pw_below_drewN | apply below_drew1 | refine below_set ?_ GE.out) | exact HB.out)⟩⟩
      case round =>
        clear hx0 hx1 BK HB HK HR1 HC1
        obtain ⟨ts, zs, r', u, A2, c2, rfl, rfl, HM, HK, HT, HR1, HC1, HO, BK, HB⟩ := hrel
        cases gk with
        | zero =>
          have hK := HK.out
          simp only [kidsP, Option.some.injEq, Prod.mk.injEq] at hK
          obtain ⟨rfl, rfl⟩ := hK
          have hT := HT.out
          rw [List.append_nil] at hT
          subst hT
          have b0 : decide ((M : Int) < p) = false := decide_eq_false (by have := HMp.out; omega)
          have b1 : decide ((M : Int) - ((0 : Nat) : Int) < p) = false := decide_eq_false (by have := HMp.out; omega)
          go_wp2
          refine bodyPost_ret (results_tmp2 rfl _ _ _) rfl ?_
          exact ⟨gb, A2, c2, by first | rfl | (simp; done), kP_mkM _ _ _ _ gb (by (with_reducible repeat (first | refine blk_drewN ?_ _ | refine blk_drew ?_ | refine blk_alloc ?_ _)); exact BK.out) GE.out trivial (Kd.R_mono (by (with_reducible repeat (first | apply Kd.R_alloc | apply Kd.R_drewN | apply Kd.R_drew)); exact HO.out) (fun _ hk => ⟨trivial, hk⟩)), HR1.out, HC1.out, (by repeat (first | (with_reducible first | exact HB.out | apply below_alloc | apply pw_below_drewN | apply below_drew1 | refine below_set ?_ GE.out) | exact HB.out))⟩
        | succ m =>
          have hK := HK.out
          simp only [kidsP] at hK
          obtain ⟨⟨t1, r2⟩, hx, hK⟩ := Option.bind_eq_some_iff.mp hK
          obtain ⟨⟨zs1, q1⟩, hy, hK⟩ := Option.bind_eq_some_iff.mp hK
          simp only [Option.some.injEq, Prod.mk.injEq] at hK
          obtain ⟨rfl, rfl⟩ := hK
          have HX := Aside0.mk hx
          have HY := Aside0.mk hy
          have hm := HM.out
          have hT := HT.out
          have hlt : ts.length < 1000000 := by
            have := congrArg List.length hT
            rw [List.length_append, List.length_cons] at this
            have := HL.out
            omega
          have HLT := Aside0.mk hlt
          have HKK := Aside0.mk (show ∀ k_, wr.heap.size ≤ k_ → k_ ≠ gb ∧ some k_ ≠ u.ownBlock from fun k_ hk_ => ⟨fun e_ => by have := blk_lt BK.out; omega, fun e_ => by have := ((Kd.R_bound HO.out).1 k_ e_.symm).2.2.1; omega⟩)
          have hMp := HMp.out
          have hp2 := HP2.out
          have b1 : decide ((M : Int) - ((m : Int) + 1) < p) = true := decide_eq_true (by omega)
          have w1_ : wrap64 ((M : Int) - ((m : Int) + 1) + 1) = (M : Int) - (m : Int) := by
            unfold wrap64; omega
          have HT1 := HT
          clear hx hy hm hT hlt HK HT hMp hp2
          go_wp2_with (first | ((with_reducible refine gate_callee (f := 87) rfl ?_); refine goesL_ (some 24) rfl rfl Try.func87 (by kernel_rfl) rfl #[.slice A2 r'.length c2] rfl (by (try simp only [List.map_toArray, List.map_cons, List.map_nil]); first | done | rfl) ?_; (with_reducible refine (ih A2 c2 r' t1 r2 _ ?kC HC1.out HX.out).mono ?_); (case kC => repeat (first | exact HR1.out _ (Kd.C_below HR0.out HB.out) | (with_reducible refine Kd.C_alloc ?_ _) | (with_reducible refine Kd.C_drewN ?_ _) | (with_reducible refine Kd.C_drew ?_))); rintro e_ w3 ⟨g1, A3, c3, rfl, hM1, hR1, hC1, hb⟩; refine ⟨_, rfl, ?_⟩; have n0_ := Aside0.mk (Kd.R_below (by (with_reducible repeat (first | apply Kd.R_alloc | apply Kd.R_drewN | apply Kd.R_drew)); exact HO.out) hb); have n1_ := Aside0.mk (blk_below (g := gb) (o := .cells #[.int .i64 c.f0, .int .i64 c.f1, u] 145 (0, 0)) (by (with_reducible repeat (first | refine blk_drewN ?_ _ | refine blk_drew ?_ | refine blk_alloc ?_ _)); exact BK.out) hb); have n2_ := Aside0.mk (below_step (by repeat (first | (with_reducible first | exact HB.out | apply below_alloc | apply pw_below_drewN | apply below_drew1 | refine below_set ?_ GE.out) | exact HB.out)) hb); have hlg : gb < wr.heap.size := (by have := blk_lt BK.out; simpa using this); have n3_ : Aside0 (kP.M w3 w.heap.size (fun k_ => wr.heap.size ≤ k_) t1 [.pointer (some ⟨g1, 0, none⟩)]) := ⟨kP.M_mono (fun k_ hk => hk.2.1) (kP.M_bound hM1) |> kP.M_lower (below_size (by repeat (first | (with_reducible first | exact HB.out | apply below_alloc | apply pw_below_drewN | apply below_drew1 | refine below_set ?_ GE.out) | exact HB.out)))⟩; clear HO BK HB; have HO := n0_; have BK := n1_; have HB := n2_; have HM1 := n3_; have hR2 : Aside0 (∀ W_ : World, Kd.C k109 W_ (some ad) (c :: l).length (c :: l) → Kd.C k109 W_ A3 r2.length r2) := ⟨fun W_ h_ => hR1 W_ (HR1.out W_ h_)⟩; clear HR1; have HR1 := hR2; clear hR2; have HC1 := Aside0.mk hC1; clear n0_ n1_ n2_ n3_ hb hM1 hR1 hC1; have hz_0 : w3.cell? ⟨gb, 0, none⟩ = some (.int .i64 c.f0) := (blk_cell BK.out 0).trans rfl; have hz_2 : w3.cell? ⟨gb, 2, none⟩ = some u := (blk_cell BK.out 2).trans rfl; have hf_2 := blk_frozen BK.out 2) | ((with_reducible refine gate_builtin (b := .append) (xs := #[.tmp 31, .tmp 33]) rfl ?_); (try (refine gate_guard (by rfl) ?_; dsimp only)); at_builtin; refine Kd.R_append kP (w0 := w) w.heap.size rfl (.tmp 31) (.tmp 33) 143 116 (.pointer none) 8 rfl Try.underlying143 info116 rfl (by decide) (by omega) u ts t1 [.pointer (some ⟨g1, 0, none⟩)] (fun k_ => k_ ≠ gb) (fun k_ => wr.heap.size ≤ k_) rfl (by first | (go_simp; done) | (go_simp; rfl)) ?aP ?aK ?aF ?aO ?aB ?aS ?aL ?_; (case aP => exact kP.M_move (fun _ _ => rfl) HM1.out); (case aK => exact HKK.out); (case aF => exact fun k_ hk_ => Nat.ne_of_gt (Nat.lt_of_lt_of_le (blk_lt BK.out) hk_)); (case aO => exact (by (with_reducible repeat (first | apply Kd.R_alloc | apply Kd.R_drewN | apply Kd.R_drew)); exact HO.out)); (case aB => exact (by repeat (first | (with_reducible first | exact HB.out | apply below_alloc | apply pw_below_drewN | apply below_drew1 | refine below_set ?_ GE.out) | exact HB.out))); (case aS => exact (below_size (by repeat (first | (with_reducible first | exact HB.out | apply below_alloc | apply pw_below_drewN | apply below_drew1 | refine below_set ?_ GE.out) | exact HB.out)))); (case aL => have := HLT.out; omega); intro v1 w4 ho hb hg hat; have n1_ := Aside0.mk (blk_grown (g := gb) (o := .cells #[.int .i64 c.f0, .int .i64 c.f1, u] 145 (0, 0)) (by (with_reducible repeat (first | refine blk_drewN ?_ _ | refine blk_drew ?_ | refine blk_alloc ?_ _)); exact BK.out) hg (fun e_ => HO.out.1 gb e_.symm rfl)); have n2_ := Aside0.mk hb; have n3_ := Aside0.mk ho; clear BK HB HO; have BK := n1_; have HB := n2_; have HO := n3_; clear n1_ n2_ n3_ ho hb hg hat; obtain ⟨Ao1, co1, eo1⟩ := Kd.R_slice HO.out; subst eo1; have hy_2 : w4.cell? ⟨gb, 2, none⟩ = some u := (blk_cell BK.out 2).trans rfl; have hfy_2 := blk_frozen BK.out 2))
          go_roundg m
          case measure => omega
          case rel => exact ⟨ts ++ [t1], zs1, r2, .slice Ao1 (ts ++ [t1]).length co1, A3, c3, (by first | rfl | (simp; done) | (simp [*]; done)), (by first | rfl | (simp; done) | (simp [*]; done)), ⟨by have := HM.out; omega⟩, HY, ⟨by rw [List.append_assoc]; exact HT1.out⟩, HR1, HC1, ⟨by (with_reducible repeat (first | apply Kd.R_alloc | apply Kd.R_drewN | apply Kd.R_drew)); have h_ := Kd.R_far (p := ⟨gb, 2, none⟩) HO.out (fun _ hk => hk) (.slice Ao1 (ts ++ [t1]).length co1); first | exact h_ | (simp only [List.length_append, List.length_singleton] at h_ ⊢; exact h_)⟩, ⟨by (with_reducible repeat (first | refine blk_drewN ?_ _ | refine blk_drew ?_ | refine blk_alloc ?_ _)); refine blk_put (cs := #[.int .i64 c.f0, .int .i64 c.f1, u]) ?_ 2 _ (by first | rfl | (simp; done)); (with_reducible repeat (first | refine blk_drewN ?_ _ | refine blk_drew ?_ | refine blk_alloc ?_ _)); exact BK.out⟩, ⟨by repeat (first | (with_reducible first | exact HB.out | apply below_alloc | apply pw_below_drewN | apply below_drew1 | refine below_set ?_ GE.out) | exact HB.out)⟩⟩
    · rw [if_neg hlen] at h; cases h
theorem kidsP_mono {p p' : List S109 → Option (S105 × List S109)} (h : ∀ r, LeO (p r) (p' r)) : ∀ (m : Nat) (r : List S109), LeO (kidsP p m r) (kidsP p' m r)
  | 0, r => LeO.refl _
  | m + 1, r => LeO.bind (h r) (fun x => LeO.bind (kidsP_mono h m x.2) (fun _ => LeO.refl _))
theorem impl_treeOf.mono : ∀ (k : Nat) (l : List S109), LeO (impl_treeOf.f k l) (impl_treeOf.f (k + 1) l)
  | 0, l => fun r h => by simp [impl_treeOf.f] at h
  | k + 1, [] => fun r h => by simp [impl_treeOf.f] at h
  | k + 1, c :: l => by
    have ih := impl_treeOf.mono k
    rw [impl_treeOf.f, impl_treeOf.f]
    refine LeO.bind (impl_partsOf.mono _ _) (fun p => LeO.ite (LeO.bind (kidsP_mono ih _ _) (fun _ => LeO.refl _)) (LeO.refl _))
/-! ### impl_cells: function 98 (the method of a pattern) -/
def cellsK (p : S105 → Option (List S109)) : List S105 → List S109 → Option (List S109)
  | [], out => some out
  | x :: xs, out => (p x).bind fun l => if out.length + l.length < 1000000 then cellsK p xs (out ++ l) else none
def impl_cells.f : Nat → S105 → Option (List S109)
  | 0, _ => none
  | k + 1, t => cellsK (impl_cells.f k) t.f2 [⟨t.f0, t.f1⟩]
set_option maxHeartbeats 8000000 in
set_option maxRecDepth 100000 in
theorem impl_cells.calls : ∀ (k : Nat) (t : S105) (g : Nat) (r : List S109) (w : World), kP.K w t [.pointer (some ⟨g, 0, none⟩)] → impl_cells.f k t = some r →
    Calls Try.prog 98 #[.pointer (some ⟨g, 0, none⟩)] w fun e w' => ∃ v, e = .returned v ∧ Kd.R k109 109 w' w.heap.size (fun _ => True) v r ∧ Below w.heap.size w w'
  | 0, t, g, r, w, hk, h => by simp [impl_cells.f] at h
  | k + 1, t, g, r, w, hk, h => by
    have ih := impl_cells.calls k
    have hu145 := Try.underlying145
    have hu109 := Try.underlying109
    have HB := Aside0.mk (Below.refl w.heap.size w)
    obtain ⟨g', A2, c2, e, hg, hl, hC⟩ := kP_open hk
    obtain rfl : g' = g := by simpa using e.symm
    clear e hk
    have hz0 : w.cell? ⟨g', 0, none⟩ = some (.int .i64 t.f0) := (blk_cell hg 0).trans rfl
    have hz1 : w.cell? ⟨g', 1, none⟩ = some (.int .i64 t.f1) := (blk_cell hg 1).trans rfl
    have hz2 : w.cell? ⟨g', 2, none⟩ = some (.slice A2 t.f2.length c2) := (blk_cell hg 2).trans rfl
    have HL := Aside0.mk (Kd.C_max hC)
    have HC := Aside0.mk hC
    have HF := Aside0.mk (show cellsK (impl_cells.f k) (t.f2.drop (0 : Int).toNat) [⟨t.f0, t.f1⟩] = some r from h)
    clear hg hl hC h
    go_enter Try.func98, Try.ntmps98
    go_wp2_with (first | ((with_reducible refine gate_dst (N := 10) rfl ?_); refine Kd.R_lit k109 _ 109 ?hg (N := 10) ?hd (xs := ([(⟨t.f0, t.f1⟩ : S109)] : List S109)) (inner := [.int .i64 t.f0, .int .i64 t.f1]) (ok := fun _ => True) (okp := fun _ => True) ?hr ?hp (fun _ hk => hk) trivial (Below.refl _ _) (Nat.le_refl _) (by simp) ?_; (case hd => rfl); (case hg => rfl); (case hr => first | (go_simp; done) | (go_simp; rfl)); (case hp => exact (Reps.c2 (show Kd.M k109 _ _ _ (⟨t.f0, t.f1⟩ : S109) [.int .i64 t.f0, .int .i64 t.f1] from k109_mkM _ _ _ (⟨t.f0, t.f1⟩ : S109)) (Reps.none _ _))); intro v1 w1 ho hb hg_ hnew_; clear hg_ hnew_; have HO := Aside0.mk (Kd.R_lower ho (below_size bq)); have n1_ := Aside0.mk (below_step bq hb); clear HB; have HB := n1_; clear n1_ hb ho; have hy2 : w1.cell? ⟨g', 2, none⟩ = some (.slice A2 t.f2.length c2) := (HB.out.cell (World.block_lt_of_cell? w _ hz2)).trans hz2))
    go_loopg [3, 16] (t.f2.length) (fun m v3 v16 w' => ∃ (i : Int) (out : List S109), v16 = .int .i64 i ∧ Aside0 (0 ≤ i ∧ i + m = (t.f2.length : Int)) ∧ Aside0 (cellsK (impl_cells.f k) (t.f2.drop i.toNat) out = some r) ∧ Aside0 (Kd.R k109 109 w' w.heap.size (fun _ => True) v3 out) ∧ Aside0 (Below w.heap.size w w'))
    case atStart => exact ⟨0, _, rfl, ⟨by omega⟩, HF, ⟨by (with_reducible repeat (first | apply Kd.R_alloc | apply Kd.R_drewN | apply Kd.R_drew)); exact HO.out⟩, ⟨bq⟩⟩
    case round =>
      clear HB HO HF hy2
      obtain ⟨i, out, rfl, HI, HF, HO, HB⟩ := hrel
      cases gk with
      | zero =>
        have hi := HI.out
        have b0 : decide (i < (t.f2.length : Int)) = false := decide_eq_false (by omega)
        have hF := HF.out
        rw [List.drop_eq_nil_of_le (by omega)] at hF
        simp only [cellsK, Option.some.injEq] at hF
        subst hF
        clear hi HI HF
        go_wp2
        go_ret
        exact ⟨_, rfl, by (with_reducible repeat (first | apply Kd.R_alloc | apply Kd.R_drewN | apply Kd.R_drew)); exact HO.out, bq⟩
      | succ m =>
        have hi := HI.out
        have c0 : 0 ≤ i := hi.1
        have c1 : i < (t.f2.length : Int) := by omega
        have hF := HF.out
        have hd := (drop_rd t.f2 i c0 c1).resolve_right (by have := HL.out; omega)
        rw [hd] at hF
        simp only [cellsK] at hF
        obtain ⟨l, h1, hF⟩ := Option.bind_eq_some_iff.mp hF
        by_cases h2 : out.length + l.length < 1000000
        case neg => rw [if_neg h2] at hF; cases hF
        rw [if_pos h2] at hF
        obtain ⟨ad, g1, rfl, hx, hK⟩ := at_P HC.out i c0 c1
        have hx : wr.cell? (ad.add i.toNat) = some (.pointer (some ⟨g1, 0, none⟩)) := (HB.out.cell (World.block_lt_of_cell? w _ hx)).trans hx
        have HKg := Aside0.mk hK
        have HF1 := Aside0.mk hF
        have H1 := Aside0.mk h1
        have H2 := Aside0.mk h2
        have HJ := Aside0.mk (show 0 ≤ wrap64 (i + 1) ∧ wrap64 (i + 1) + (m : Int) = (t.f2.length : Int) by have := HL.out; unfold wrap64; omega)
        have b1 : decide (i < (t.f2.length : Int)) = true := decide_eq_true c1
        have q0 := eq_true c0
        have q1 := eq_true c1
        clear c0 c1 hi HI hF HF hd hK h1 h2
        go_wp2_with (first | (go_at_call 98; (with_reducible refine (ih (rd_T105 t.f2 i) g1 l _ ?kk H1.out).mono ?_); (case kk => exact kP.K_below bq HKg.out); rintro e_ w3 ⟨v3, rfl, ho, hb⟩; obtain ⟨A3, c3, rfl, hl3, hC3⟩ := Kd.R_reads ho; have n0_ := Aside0.mk (Kd.R_below (by (with_reducible repeat (first | apply Kd.R_alloc | apply Kd.R_drewN | apply Kd.R_drew)); exact HO.out) hb); have n1_ := Aside0.mk (below_step bq hb); clear HB HO; have HO := n0_; have HB := n1_; clear n0_ n1_ hb ho; have HC3 := Aside0.mk hC3; clear hC3 hl3) | ((with_reducible refine gate_builtin (b := .append) (xs := #[.tmp 20, .tmp 22]) rfl ?_); (try (refine gate_guard (by rfl) ?_; dsimp only)); at_builtin; refine Kd.R_append_rows k109 (w0 := w) w.heap.size rfl (.tmp 20) (.tmp 22) 67 109 (.agg #[(.int .i64 0), (.int .i64 0)]) 16 rfl Try.underlying67 info109 rfl (by decide) (by omega) _ out l _ _ _ (fun _ => True) (fun _ => False) rfl rfl ?aO ?aR (fun _ _ h => h) (fun _ h => h.elim) (fun _ _ => trivial) ?aB ?aS ?aL ?_; (case aR => exact HC3.out); (case aO => exact HO.out); (case aB => exact bq); (case aS => exact below_size bq); (case aL => have := H2.out; omega); intro v4 w4 ho hb hg hat; have n0_ := Aside0.mk ho; have n1_ := Aside0.mk hb; clear HB HO; have HO := n0_; have HB := n1_; clear n0_ n1_ hb ho hg hat))
        go_roundg m
        case measure => omega
        case rel => exact ⟨wrap64 (i + 1), out ++ l, (by first | rfl | (simp; done) | (simp [*]; done)), HJ, HF1, ⟨by (with_reducible repeat (first | apply Kd.R_alloc | apply Kd.R_drewN | apply Kd.R_drew)); exact HO.out⟩, ⟨bq⟩⟩
theorem at_PM {w : World} {base : Nat} {ok : Nat → Prop} {u : Value} {xs : List S105} (h : kP.R 116 w base ok u xs) (hp : 0 < xs.length) : ∃ ad c2, u = .slice (some ad) xs.length c2 ∧ xs.length ≤ c2 ∧ ∀ i : Int, 0 ≤ i → i < xs.length → ∃ g, w.cell? (ad.add i.toNat) = some (.pointer (some ⟨g, 0, none⟩)) ∧ kP.M w base ok (rd_T105 xs i) [.pointer (some ⟨g, 0, none⟩)] := by
  obtain ⟨A, c, rfl, hl, hr⟩ := OwnRow.reads h.2
  obtain ⟨ad, c0, rfl, _⟩ := ReadsRow.get_ hr z105 0 (by omega) (by omega)
  refine ⟨ad, c, rfl, hl, fun i h0 h1 => ?_⟩
  obtain ⟨ad', c1, e, hs, hM, hc⟩ := ReadsRow.get_ hr z105 i h0 h1
  cases e
  obtain ⟨g, _, _, rfl, _⟩ := kP_open (kP.K_of_M hM)
  refine ⟨g, ?_, kP.M_mono (fun _ hk => hk.1) hM⟩
  have := hc 0 _ rfl
  simpa [show kP.sz = 1 from rfl] using this
/-! ### impl_of: function 116, without parts -/
set_option maxHeartbeats 8000000 in
set_option maxRecDepth 100000 in
theorem impl_of.calls (a : Int) (w : World) :
    Calls Try.prog 116 #[.int .i64 a, .slice none 0 0] w fun e w' => ∃ g, e = .returned (.pointer (some ⟨g, 0, none⟩)) ∧ kP.M w' w.heap.size (fun _ => True) ⟨a, 0, []⟩ [.pointer (some ⟨g, 0, none⟩)] ∧ Below w.heap.size w w' := by
  have hu145 := Try.underlying145
  have hu109 := Try.underlying109
  have HB := Aside0.mk (Below.refl w.heap.size w)
  go_enter Try.func116, Try.ntmps116
  go_wp2_with (((with_reducible refine gate_dst (N := 9) rfl ?_); refine box_event ?hg (N := 9) ?hd (cs := #[.int .i64 a, .int .i64 0, .slice none 0 0]) (t := 145) ?hr ?_; (case hd => rfl); (case hg => rfl); (case hr => first | (go_simp; done) | (go_simp; rfl)); intro gb hg w1 hbox hb; have n0_ := Aside0.mk (below_step bq hb); have BK := Aside0.mk hbox; have GE := Aside0.mk ((by rw [hg]; exact (below_size bq)) : w.heap.size ≤ gb); clear HB; have HB := n0_; clear n0_; clear hb hbox hg))
  go_ret
  exact ⟨gb, rfl, kP_mkM _ _ _ _ gb (by (with_reducible repeat (first | refine blk_drewN ?_ _ | refine blk_drew ?_ | refine blk_alloc ?_ _)); exact BK.out) GE.out trivial (Kd.R_nil _ _ _ _ _), bq⟩
/-! ### impl_tidy_1: function 115, the variable at block go that it captured -/
set_option maxHeartbeats 8000000 in
set_option maxRecDepth 100000 in
theorem impl_tidy_1.calls (i kind : Int) (gO gb gi n c : Nat) (ad : Addr) (kd : Int) (r : Bool) (w : World) (hO : w.cell? ⟨gO, 0, none⟩ = some (.pointer (some ⟨gb, 0, none⟩))) (hB0 : w.cell? ⟨gb, 2, none⟩ = some (.slice (some ad) n c)) (h0 : 0 ≤ i) (h1 : i < (n : Int)) (hx : w.cell? (ad.add i.toNat) = some (.pointer (some ⟨gi, 0, none⟩))) (hk : w.cell? ⟨gi, 0, none⟩ = some (.int .i64 kd)) (hr : (kd == kind) = r) :
    Calls Try.prog 115 #[.int .i64 i, .int .i64 kind, .pointer (some ⟨gO, 0, none⟩)] w fun e w' => e = .returned (.bool r) ∧ Drawn0 w w' := by
  have hu145 := Try.underlying145
  have hu109 := Try.underlying109
  replace h0 := eq_true h0
  replace h1 := eq_true h1
  go_enter Try.func115, Try.ntmps115
  go_wp2
  go_ret
  exact ⟨by first | rfl | (simp; done) | (simp [*]; done), by repeat (first | exact Drawn0.refl _ | apply Drawn0.step)⟩
/-! ### impl_tidy: function 97 (the method of a pattern) -/
def tidyK (p : S105 → Option S105) : List S105 → Option (List S105)
  | [] => some []
  | x :: xs => (p x).bind fun y => (tidyK p xs).bind fun ys => some (y :: ys)
def tidyF (q : S105 → Option (List S109)) (eq : List S109 → List S109 → Option Bool) (x y : Int) (ks : List S105) : Option S105 :=
  if x = 5 then (match ks with
    | [a, b] => some (if a.f0 = 1 then ⟨1, 0, []⟩ else if b.f0 = 1 then ⟨1, 0, []⟩ else if a.f0 = 2 then b else if b.f0 = 2 then a else ⟨x, y, ks⟩)
    | _ => none)
  else if x = 6 then (match ks with
    | [a, b] => if a.f0 = 1 then some b else if b.f0 = 1 then some a else (q a).bind fun l => (q b).bind fun m => (eq l m).bind fun e => some (if e = true then a else ⟨x, y, ks⟩)
    | _ => none)
  else if x = 7 then (match ks with
    | [a] => some (if a.f0 = 1 then ⟨2, 0, []⟩ else if a.f0 = 2 then ⟨2, 0, []⟩ else if a.f0 = 7 then a else ⟨x, y, ks⟩)
    | _ => none)
  else some ⟨x, y, ks⟩
def impl_tidy.f : Nat → S105 → Option S105
  | 0, _ => none
  | k + 1, t => (tidyK (impl_tidy.f k) t.f2).bind fun ks => if ks.length < 1000000 then tidyF (impl_cells.f k) (slices_Equal_impl_ReCell_impl_ReCell.f k) t.f0 t.f1 ks else none
theorem kP_kind {w : World} {x : S105} {g : Nat} (h : kP.K w x [.pointer (some ⟨g, 0, none⟩)]) : w.cell? ⟨g, 0, none⟩ = some (.int .i64 x.f0) := by
  obtain ⟨g', A2, c2, e, hg, _⟩ := kP_open h
  obtain rfl : g' = g := by simpa using e.symm
  exact (blk_cell hg 0).trans rfl
theorem reads_one {w : World} {base g : Nat} {ok : Nat → Prop} {x : S105} {v : Value} (hg : w.heap[g]? = some (.cells #[v] 116 (0, 0))) (hM : kP.M w base ok x [v]) : ReadsRow (kP.M w base ok) kP.sz w (some ⟨g, 0, none⟩) 1 [x] := by
  refine ⟨rfl, by omega, fun _ => ⟨_, rfl, fun j p hj => ?_⟩⟩
  obtain rfl : j = 0 := by
    have := (List.getElem?_eq_some_iff.1 hj).1
    simp at this; omega
  obtain rfl : x = p := by simpa using hj
  refine ⟨[v], rfl, hM, fun i u hu => ?_⟩
  obtain rfl : i = 0 := by
    have := (List.getElem?_eq_some_iff.1 hu).1
    simp at this; omega
  obtain rfl : v = u := by simpa using hu
  have := blk_cell hg 0
  simpa [Addr.add] using this
def impl_tidy.T5 : Bool × List (List Nat × List Nat) := (true, [([], []), ([], []), ([1], [1]), ([2], [2]), ([3], [3]), ([], []), ([5], [5]), ([6], [6]), ([4, 7, 6], [4, 7]), ([0, 0, 1, 2, 3, 4, 5, 6, 7, 8], [0]), ([9, 0, 1, 2, 3, 4, 5, 6, 7, 8], [9]), ([10, 8, 8, 0, 1, 2, 3, 4, 5, 6, 7, 8], [8, 10])])
def impl_tidy.B5 : List Nat := [0, 0, 2, 6, 14, 0, 32, 96, 254, 511, 1023, 2047]
theorem impl_tidy.tab5 : rtab .any (opsOf Try.f97 5) = impl_tidy.T5 := by kernel_rfl
theorem impl_tidy.bits5 : waitsOk impl_tidy.T5.2 impl_tidy.B5 = true := by kernel_rfl
set_option maxHeartbeats 8000000 in
set_option maxRecDepth 100000 in
theorem impl_tidy.calls : ∀ (k : Nat) (t : S105) (g : Nat) (r : S105) (w : World), kP.K w t [.pointer (some ⟨g, 0, none⟩)] → impl_tidy.f k t = some r →
    Calls Try.prog 97 #[.pointer (some ⟨g, 0, none⟩)] w fun e w' => ∃ g', e = .returned (.pointer (some ⟨g', 0, none⟩)) ∧ kP.M w' w.heap.size (fun _ => True) r [.pointer (some ⟨g', 0, none⟩)] ∧ Below w.heap.size w w'
  | 0, t, g, r, w, hk, h => by simp [impl_tidy.f] at h
  | k + 1, t, g, r, w, hk, h => by
    have ih := impl_tidy.calls k
    have hu145 := Try.underlying145
    have hu109 := Try.underlying109
    have hu116 := Try.underlying116
    have HB := Aside0.mk (Below.refl w.heap.size w)
    obtain ⟨g', A2, c2, e, hg, hl, hC⟩ := kP_open hk
    obtain rfl : g' = g := by simpa using e.symm
    clear e hk
    have hz0 : w.cell? ⟨g', 0, none⟩ = some (.int .i64 t.f0) := (blk_cell hg 0).trans rfl
    have hz1 : w.cell? ⟨g', 1, none⟩ = some (.int .i64 t.f1) := (blk_cell hg 1).trans rfl
    have hz2 : w.cell? ⟨g', 2, none⟩ = some (.slice A2 t.f2.length c2) := (blk_cell hg 2).trans rfl
    have HL := Aside0.mk (Kd.C_max hC)
    have HC := Aside0.mk hC
    have HG := Aside0.mk (show g' < w.heap.size from blk_lt hg)
    clear hg hl hC
    simp only [impl_tidy.f] at h
    obtain ⟨ks, hks, h⟩ := Option.bind_eq_some_iff.mp h
    by_cases hlen : ks.length < 1000000
    case neg => rw [if_neg hlen] at h; cases h
    rw [if_pos hlen] at h
    have HN := Aside0.mk hlen
    have HT := Aside0.mk h
    have HF := Aside0.mk (show tidyK (impl_tidy.f k) (t.f2.drop (0 : Int).toNat) = some ks from hks)
    clear h hlen hks
    have hmf : ∀ (fn : Fn) (first cap : Array Value) (w : World), (Instr.makeFunc fn first cap).run Try.prog w = .ok (.func fn first cap) w := fun _ _ _ _ => rfl
    go_enter Try.func97, Try.ntmps97
    go_wp2_with (((with_reducible refine gate_dst (N := 12) rfl ?_); refine box_event ?hg (N := 12) ?hd (cs := #[.int .i64 t.f0, .int .i64 t.f1, .slice none 0 0]) (t := 145) ?hr ?_; (case hd => rfl); (case hg => rfl); (case hr => first | (go_simp; done) | (go_simp; rfl)); intro gb hg w1 hbox hb; have GE := Aside0.mk ((by rw [hg]; exact (below_size bq)) : w.heap.size ≤ gb); have n0_ := Aside0.mk (below_step bq hb); have BK := Aside0.mk hbox; clear HB; have HB := n0_; clear n0_; clear hb hbox hg; have hya : ∀ o, (w1.alloc o).cell? ⟨g', 2, none⟩ = some (.slice A2 t.f2.length c2) := fun o => ((below_alloc HB.out o).cell (World.block_lt_of_cell? w _ hz2)).trans hz2))
    obtain ⟨gO, hgO⟩ : ∃ gO, gO = w1.heap.size := ⟨_, rfl⟩
    have hnO : (w1.alloc (.cells #[.pointer (some ⟨gb, 0, none⟩)] 116)).heap[gO]? = some (.cells #[.pointer (some ⟨gb, 0, none⟩)] 116 (0, 0)) := by rw [hgO]; exact heap_alloc_new _ _
    have GO := Aside0.mk (show w.heap.size ≤ gO by rw [hgO]; exact below_size HB.out)
    have NE := Aside0.mk (show gb ≠ gO by have := blk_lt BK.out; omega)
    have hnb : (w1.alloc (.cells #[.pointer (some ⟨gb, 0, none⟩)] 116)).heap[gb]? = some (.cells #[.int .i64 t.f0, .int .i64 t.f1, .slice none 0 0] 145 (0, 0)) := blk_alloc BK.out _
    have hB1 : Below w.heap.size w (w1.alloc (.cells #[.pointer (some ⟨gb, 0, none⟩)] 116)) := below_alloc HB.out _
    rw [← hgO]
    obtain ⟨w2, hw2⟩ : ∃ w2, w2 = w1.alloc (.cells #[.pointer (some ⟨gb, 0, none⟩)] 116) := ⟨_, rfl⟩
    rw [← hw2] at hnO hnb hB1 ⊢
    have BK1 := Aside0.mk hnb
    have BKO := Aside0.mk hnO
    have HB1 := Aside0.mk hB1
    clear HB BK hgO hw2 hya hnO hnb hB1
    have HB := HB1
    have BK := BK1
    clear HB1 BK1
    go_loopg [18] (t.f2.length) (fun m v18 w' => ∃ (i : Int) (ts zs : List S105) (u : Value), v18 = .int .i64 i ∧ Aside0 (0 ≤ i ∧ i + m = (t.f2.length : Int)) ∧ Aside0 (tidyK (impl_tidy.f k) (t.f2.drop i.toNat) = some zs) ∧ Aside0 (ts ++ zs = ks) ∧ Aside0 (kP.R 116 w' w.heap.size (fun k_ => k_ ≠ gb ∧ k_ ≠ gO) u ts) ∧ Aside0 (w'.heap[gb]? = some (.cells #[.int .i64 t.f0, .int .i64 t.f1, u] 145 (0, 0))) ∧ Aside0 (w'.heap[gO]? = some (.cells #[.pointer (some ⟨gb, 0, none⟩)] 116 (0, 0))) ∧ Aside0 (Below w.heap.size w w'))
    case atStart => exact ⟨0, [], ks, .slice none 0 0, rfl, ⟨by omega⟩, HF, ⟨rfl⟩, ⟨Kd.R_nil _ _ _ _ _⟩, ⟨btq⟩, ⟨btq⟩, ⟨bq⟩⟩
    case round =>
      clear HB HF BK BKO
      obtain ⟨i, ts, zs, u, rfl, HI, HF, HS, HO, BK, BKO, HB⟩ := hrel
      cases gk with
      | zero =>
        have hi := HI.out
        have b0 : decide (i < (t.f2.length : Int)) = false := decide_eq_false (by omega)
        have hF := HF.out
        rw [List.drop_eq_nil_of_le (by omega)] at hF
        simp only [tidyK, Option.some.injEq] at hF
        subst hF
        have hS := HS.out
        rw [List.append_nil] at hS
        subst hS
        have hw0 : wr.cell? ⟨g', 0, none⟩ = some (.int .i64 t.f0) := cellq hz0
        have hO0 : wr.cell? ⟨gO, 0, none⟩ = some (.pointer (some ⟨gb, 0, none⟩)) := (blk_cell BKO.out 0).trans rfl
        have HW := HB
        have hT := HT.out
        simp only [tidyF] at hT
        clear hi HI HF HS HB HT
        have HB := Aside0.mk (Below.refl wr.heap.size wr)
        by_cases h5 : t.f0 = 5
        · rw [if_pos h5] at hT
          have b5 : (t.f0 == 5) = true := beq_iff_eq.2 h5
          rcases ts with _ | ⟨a, _ | ⟨b, _ | ⟨c, l⟩⟩⟩
          · cases hT
          · cases hT
          rotate_left
          · cases hT
          simp only at hT
          replace hT := Option.some.inj hT
          obtain ⟨ad, cu, eu, hlc, hel⟩ := at_PM HO.out (by simp)
          replace eu : u = .slice (some ad) 2 cu := eu
          subst eu
          have hgb2 : wr.cell? ⟨gb, 2, none⟩ = some (.slice (some ad) 2 cu) := (blk_cell BK.out 2).trans rfl
          obtain ⟨ga, hca, hMa⟩ := hel 0 (by decide) (by simp)
          obtain ⟨gc, hcb, hMb⟩ := hel 1 (by decide) (by simp)
          clear hel hlc
          replace hMa : kP.M wr w.heap.size _ a [.pointer (some ⟨ga, 0, none⟩)] := hMa
          have ha0 : wr.cell? ⟨ga, 0, none⟩ = some (.int .i64 a.f0) := kP_kind (kP.K_of_M hMa)
          have HMa := Aside0.mk hMa
          clear hMa
          replace hMb : kP.M wr w.heap.size _ b [.pointer (some ⟨gc, 0, none⟩)] := hMb
          have hb0 : wr.cell? ⟨gc, 0, none⟩ = some (.int .i64 b.f0) := kP_kind (kP.K_of_M hMb)
          have HMb := Aside0.mk hMb
          clear hMb
          have hx0 : wr.cell? ad = some (.pointer (some ⟨ga, 0, none⟩)) := by have h_ : wr.cell? (ad.add 0) = some (.pointer (some ⟨ga, 0, none⟩)) := hca; rwa [show ad.add 0 = ad from by unfold Addr.add; simp] at h_
          have hx1 : wr.cell? ⟨ad.block, ad.off + 1, none⟩ = some (.pointer (some ⟨gc, 0, none⟩)) := by have h_ : wr.cell? (ad.add 1) = some (.pointer (some ⟨gc, 0, none⟩)) := hcb; rwa [show ad.add 1 = ⟨ad.block, ad.off + 1, none⟩ from by unfold Addr.add; simp] at h_
          by_cases ha1 : a.f0 = 1
          · rw [if_pos ha1] at hT
            have a1 : (a.f0 == 1) = true := beq_iff_eq.2 ha1
            subst hT
            go_wp2_with (first | (go_at_call 115; (first | ((with_reducible refine (impl_tidy_1.calls 0 _ gO gb ga 2 cu ad a.f0 _ _ (cellq hO0) (cellq hgb2) (by decide) (by decide) (cellq hca) (cellq ha0) a1).mono ?_))); rintro e_ w' ⟨rfl, ⟨nd, rfl⟩⟩) | (go_at_call 116; (with_reducible refine (impl_of.calls _ _).mono ?_); rintro e_ w7 ⟨go, rfl, hM, hb⟩; have n0_ := Aside0.mk (below_step bq hb); have n1_ := Aside0.mk (kP.M_lower (Nat.le_trans (below_size HW.out) (below_size bq)) hM); clear HB; have HB := n0_; have HM := n1_; clear n0_ n1_ hb hM))
            go_ret
            exact ⟨go, rfl, HM.out, below_step HW.out bq⟩
          rw [if_neg ha1] at hT
          have a1 : (a.f0 == 1) = false := beq_eq_false_iff_ne.2 ha1
          by_cases hb1 : b.f0 = 1
          · rw [if_pos hb1] at hT
            have b1 : (b.f0 == 1) = true := beq_iff_eq.2 hb1
            subst hT
            go_wp2_with (first | (go_at_call 115; (first | ((with_reducible refine (impl_tidy_1.calls 0 _ gO gb ga 2 cu ad a.f0 _ _ (cellq hO0) (cellq hgb2) (by decide) (by decide) (cellq hca) (cellq ha0) a1).mono ?_)) | ((with_reducible refine (impl_tidy_1.calls 1 _ gO gb gc 2 cu ad b.f0 _ _ (cellq hO0) (cellq hgb2) (by decide) (by decide) (cellq hcb) (cellq hb0) b1).mono ?_))); rintro e_ w' ⟨rfl, ⟨nd, rfl⟩⟩) | (go_at_call 116; (with_reducible refine (impl_of.calls _ _).mono ?_); rintro e_ w7 ⟨go, rfl, hM, hb⟩; have n0_ := Aside0.mk (below_step bq hb); have n1_ := Aside0.mk (kP.M_lower (Nat.le_trans (below_size HW.out) (below_size bq)) hM); clear HB; have HB := n0_; have HM := n1_; clear n0_ n1_ hb hM))
            go_ret
            exact ⟨go, rfl, HM.out, below_step HW.out bq⟩
          rw [if_neg hb1] at hT
          have b1 : (b.f0 == 1) = false := beq_eq_false_iff_ne.2 hb1
          by_cases ha2 : a.f0 = 2
          · rw [if_pos ha2] at hT
            have a2 : (a.f0 == 2) = true := beq_iff_eq.2 ha2
            subst hT
            go_wp2_with ((go_at_call 115; (first | ((with_reducible refine (impl_tidy_1.calls 0 _ gO gb ga 2 cu ad a.f0 _ _ (cellq hO0) (cellq hgb2) (by decide) (by decide) (cellq hca) (cellq ha0) a1).mono ?_)) | ((with_reducible refine (impl_tidy_1.calls 0 _ gO gb ga 2 cu ad a.f0 _ _ (cellq hO0) (cellq hgb2) (by decide) (by decide) (cellq hca) (cellq ha0) a2).mono ?_)) | ((with_reducible refine (impl_tidy_1.calls 1 _ gO gb gc 2 cu ad b.f0 _ _ (cellq hO0) (cellq hgb2) (by decide) (by decide) (cellq hcb) (cellq hb0) b1).mono ?_))); rintro e_ w' ⟨rfl, ⟨nd, rfl⟩⟩))
            go_ret
            exact ⟨gc, rfl, kP.M_mono (fun _ _ => trivial) (Kd.M_below HMb.out bq), below_step HW.out bq⟩
          rw [if_neg ha2] at hT
          have a2 : (a.f0 == 2) = false := beq_eq_false_iff_ne.2 ha2
          by_cases hb2 : b.f0 = 2
          · rw [if_pos hb2] at hT
            have b2 : (b.f0 == 2) = true := beq_iff_eq.2 hb2
            subst hT
            go_wp2_with ((go_at_call 115; (first | ((with_reducible refine (impl_tidy_1.calls 0 _ gO gb ga 2 cu ad a.f0 _ _ (cellq hO0) (cellq hgb2) (by decide) (by decide) (cellq hca) (cellq ha0) a1).mono ?_)) | ((with_reducible refine (impl_tidy_1.calls 0 _ gO gb ga 2 cu ad a.f0 _ _ (cellq hO0) (cellq hgb2) (by decide) (by decide) (cellq hca) (cellq ha0) a2).mono ?_)) | ((with_reducible refine (impl_tidy_1.calls 1 _ gO gb gc 2 cu ad b.f0 _ _ (cellq hO0) (cellq hgb2) (by decide) (by decide) (cellq hcb) (cellq hb0) b1).mono ?_)) | ((with_reducible refine (impl_tidy_1.calls 1 _ gO gb gc 2 cu ad b.f0 _ _ (cellq hO0) (cellq hgb2) (by decide) (by decide) (cellq hcb) (cellq hb0) b2).mono ?_))); rintro e_ w' ⟨rfl, ⟨nd, rfl⟩⟩))
            go_ret
            exact ⟨ga, rfl, kP.M_mono (fun _ _ => trivial) (Kd.M_below HMa.out bq), below_step HW.out bq⟩
          rw [if_neg hb2] at hT
          have b2 : (b.f0 == 2) = false := beq_eq_false_iff_ne.2 hb2
          subst hT
          go_wp2_with ((go_at_call 115; (first | ((with_reducible refine (impl_tidy_1.calls 0 _ gO gb ga 2 cu ad a.f0 _ _ (cellq hO0) (cellq hgb2) (by decide) (by decide) (cellq hca) (cellq ha0) a1).mono ?_)) | ((with_reducible refine (impl_tidy_1.calls 0 _ gO gb ga 2 cu ad a.f0 _ _ (cellq hO0) (cellq hgb2) (by decide) (by decide) (cellq hca) (cellq ha0) a2).mono ?_)) | ((with_reducible refine (impl_tidy_1.calls 1 _ gO gb gc 2 cu ad b.f0 _ _ (cellq hO0) (cellq hgb2) (by decide) (by decide) (cellq hcb) (cellq hb0) b1).mono ?_)) | ((with_reducible refine (impl_tidy_1.calls 1 _ gO gb gc 2 cu ad b.f0 _ _ (cellq hO0) (cellq hgb2) (by decide) (by decide) (cellq hcb) (cellq hb0) b2).mono ?_))); rintro e_ w' ⟨rfl, ⟨nd, rfl⟩⟩))
          go_ret
          exact ⟨gb, rfl, kP_mkM _ _ _ ⟨t.f0, t.f1, [a, b]⟩ gb (blk_below BK.out bq) GE.out trivial (Kd.R_mono (Kd.R_below HO.out bq) (fun _ hk => ⟨trivial, hk.1⟩)), below_step HW.out bq⟩
        rw [if_neg h5] at hT
        have b5 : (t.f0 == 5) = false := beq_eq_false_iff_ne.2 h5
        by_cases h6 : t.f0 = 6
        · rw [if_pos h6] at hT
          have b6 : (t.f0 == 6) = true := beq_iff_eq.2 h6
          rcases ts with _ | ⟨a, _ | ⟨b, _ | ⟨c, l⟩⟩⟩
          · cases hT
          · cases hT
          rotate_left
          · cases hT
          simp only at hT
          obtain ⟨ad, cu, eu, hlc, hel⟩ := at_PM HO.out (by simp)
          replace eu : u = .slice (some ad) 2 cu := eu
          subst eu
          have hgb2 : wr.cell? ⟨gb, 2, none⟩ = some (.slice (some ad) 2 cu) := (blk_cell BK.out 2).trans rfl
          obtain ⟨ga, hca, hMa⟩ := hel 0 (by decide) (by simp)
          obtain ⟨gc, hcb, hMb⟩ := hel 1 (by decide) (by simp)
          clear hel hlc
          replace hMa : kP.M wr w.heap.size _ a [.pointer (some ⟨ga, 0, none⟩)] := hMa
          have ha0 : wr.cell? ⟨ga, 0, none⟩ = some (.int .i64 a.f0) := kP_kind (kP.K_of_M hMa)
          have HMa := Aside0.mk hMa
          clear hMa
          replace hMb : kP.M wr w.heap.size _ b [.pointer (some ⟨gc, 0, none⟩)] := hMb
          have hb0 : wr.cell? ⟨gc, 0, none⟩ = some (.int .i64 b.f0) := kP_kind (kP.K_of_M hMb)
          have HMb := Aside0.mk hMb
          clear hMb
          have hx0 : wr.cell? ad = some (.pointer (some ⟨ga, 0, none⟩)) := by have h_ : wr.cell? (ad.add 0) = some (.pointer (some ⟨ga, 0, none⟩)) := hca; rwa [show ad.add 0 = ad from by unfold Addr.add; simp] at h_
          have hx1 : wr.cell? ⟨ad.block, ad.off + 1, none⟩ = some (.pointer (some ⟨gc, 0, none⟩)) := by have h_ : wr.cell? (ad.add 1) = some (.pointer (some ⟨gc, 0, none⟩)) := hcb; rwa [show ad.add 1 = ⟨ad.block, ad.off + 1, none⟩ from by unfold Addr.add; simp] at h_
          by_cases ha1 : a.f0 = 1
          · rw [if_pos ha1] at hT
            have a1 : (a.f0 == 1) = true := beq_iff_eq.2 ha1
            obtain rfl := Option.some.inj hT
            go_wp2_with ((go_at_call 115; (first | ((with_reducible refine (impl_tidy_1.calls 0 _ gO gb ga 2 cu ad a.f0 _ _ (cellq hO0) (cellq hgb2) (by decide) (by decide) (cellq hca) (cellq ha0) a1).mono ?_))); rintro e_ w' ⟨rfl, ⟨nd, rfl⟩⟩))
            go_ret
            exact ⟨gc, rfl, kP.M_mono (fun _ _ => trivial) (Kd.M_below HMb.out bq), below_step HW.out bq⟩
          rw [if_neg ha1] at hT
          have a1 : (a.f0 == 1) = false := beq_eq_false_iff_ne.2 ha1
          by_cases hb1 : b.f0 = 1
          · rw [if_pos hb1] at hT
            have b1 : (b.f0 == 1) = true := beq_iff_eq.2 hb1
            obtain rfl := Option.some.inj hT
            go_wp2_with ((go_at_call 115; (first | ((with_reducible refine (impl_tidy_1.calls 0 _ gO gb ga 2 cu ad a.f0 _ _ (cellq hO0) (cellq hgb2) (by decide) (by decide) (cellq hca) (cellq ha0) a1).mono ?_))); rintro e_ w' ⟨rfl, ⟨nd, rfl⟩⟩))
            go_quiet ((go_at_call 115; refine (impl_tidy_1.calls 1 _ gO gb gc 2 cu ad b.f0 _ _ (cellq hO0) (cellq hgb2) (by decide) (by decide) (cellq hcb) (cellq hb0) b1).mono ?_; rintro e_ w1_ ⟨he, ⟨m_, hm_⟩⟩; refine ⟨he, ?_, ?_⟩; rotate_left; rw [hm_, World.drewN_drewN, Nat.add_assoc]))
            go_wp2
            go_ret
            exact ⟨ga, rfl, kP.M_mono (fun _ _ => trivial) (Kd.M_below HMa.out bq), below_step HW.out bq⟩
          rw [if_neg hb1] at hT
          have b1 : (b.f0 == 1) = false := beq_eq_false_iff_ne.2 hb1
          obtain ⟨la, hla, hT⟩ := Option.bind_eq_some_iff.mp hT
          obtain ⟨lb, hlb, hT⟩ := Option.bind_eq_some_iff.mp hT
          obtain ⟨e, heq, hT⟩ := Option.bind_eq_some_iff.mp hT
          replace hT := Option.some.inj hT
          have Hla := Aside0.mk hla
          have Hlb := Aside0.mk hlb
          have Heq := Aside0.mk heq
          clear hla hlb heq
          cases e with
          | true =>
            rw [if_pos rfl] at hT
            subst hT
            go_wp2_with ((go_at_call 115; (first | ((with_reducible refine (impl_tidy_1.calls 0 _ gO gb ga 2 cu ad a.f0 _ _ (cellq hO0) (cellq hgb2) (by decide) (by decide) (cellq hca) (cellq ha0) a1).mono ?_))); rintro e_ w' ⟨rfl, ⟨nd, rfl⟩⟩))
            go_region_held3 (fun w' => w'.cell? ⟨gO, 0, none⟩ = some (.pointer (some ⟨gb, 0, none⟩)) ∧ w'.cell? ⟨gb, 2, none⟩ = some (.slice (some ad) 2 cu) ∧ w'.cell? ad = some (.pointer (some ⟨ga, 0, none⟩)) ∧ w'.cell? ⟨ad.block, ad.off + 1, none⟩ = some (.pointer (some ⟨gc, 0, none⟩))) (first | exact ⟨cellq hO0, cellq hgb2, cellq hx0, cellq hx1⟩ | go_keep) ((first | (go_at_call 115; (first | ((with_reducible refine (impl_tidy_1.calls 1 _ gO gb gc 2 cu ad b.f0 _ _ (cellq hO0) (cellq hgb2) (by decide) (by decide) (cellq hcb) (cellq hb0) b1).mono ?_))); rintro e_ w' ⟨rfl, ⟨nd, rfl⟩⟩) | (go_at_call 98; (with_reducible refine (impl_cells.calls k a ga la _ ?kk Hla.out).mono ?_); (case kk => exact kP.K_below bq (kP.K_of_M HMa.out)); rintro e_ w5 ⟨v5, rfl, ho, hb⟩; obtain ⟨Aa, ca, rfl, hl5, hC5⟩ := Kd.R_reads ho; have n0_ := Aside0.mk (below_step bq hb); clear HB; have HB := n0_; clear n0_; have HCa := Aside0.mk hC5; have HLa := Aside0.mk hl5; clear hb ho hC5 hl5) | (go_at_call 98; (with_reducible refine (impl_cells.calls k b gc lb _ ?kk Hlb.out).mono ?_); (case kk => exact kP.K_below bq (kP.K_of_M HMb.out)); rintro e_ w6 ⟨v6, rfl, ho, hb⟩; obtain ⟨Ab, cb, rfl, hl6, hC6⟩ := Kd.R_reads ho; have n0_ := Aside0.mk (below_step bq hb); have n1_ := Aside0.mk (Kd.C_below (by repeat (first | exact HCa.out | (with_reducible refine Kd.C_alloc ?_ _) | (with_reducible refine Kd.C_drewN ?_ _) | (with_reducible refine Kd.C_drew ?_))) hb); clear HB HCa; have HB := n0_; have HCa := n1_; clear n0_ n1_; have HCb := Aside0.mk hC6; have HLb := Aside0.mk hl6; clear hb ho hC6 hl6) | (go_at_call 117; (with_reducible refine (slices_Equal_impl_ReCell_impl_ReCell.calls k Aa ca la Ab cb lb true _ (by repeat (first | exact HCa.out | (with_reducible refine Kd.C_alloc ?_ _) | (with_reducible refine Kd.C_drewN ?_ _) | (with_reducible refine Kd.C_drew ?_))) HLa.out (by repeat (first | exact HCb.out | (with_reducible refine Kd.C_alloc ?_ _) | (with_reducible refine Kd.C_drewN ?_ _) | (with_reducible refine Kd.C_drew ?_))) HLb.out Heq.out).mono ?_); rintro e_ w7 ⟨rfl, ⟨nd, rfl⟩⟩)))
            go_wp2
            go_ret
            exact ⟨ga, rfl, kP.M_mono (fun _ _ => trivial) (Kd.M_below HMa.out bq), below_step HW.out bq⟩
          | false =>
            rw [if_neg (by simp)] at hT
            subst hT
            go_wp2_with ((go_at_call 115; (first | ((with_reducible refine (impl_tidy_1.calls 0 _ gO gb ga 2 cu ad a.f0 _ _ (cellq hO0) (cellq hgb2) (by decide) (by decide) (cellq hca) (cellq ha0) a1).mono ?_))); rintro e_ w' ⟨rfl, ⟨nd, rfl⟩⟩))
            go_region_held3 (fun w' => w'.cell? ⟨gO, 0, none⟩ = some (.pointer (some ⟨gb, 0, none⟩)) ∧ w'.cell? ⟨gb, 2, none⟩ = some (.slice (some ad) 2 cu) ∧ w'.cell? ad = some (.pointer (some ⟨ga, 0, none⟩)) ∧ w'.cell? ⟨ad.block, ad.off + 1, none⟩ = some (.pointer (some ⟨gc, 0, none⟩))) (first | exact ⟨cellq hO0, cellq hgb2, cellq hx0, cellq hx1⟩ | go_keep) ((first | (go_at_call 115; (first | ((with_reducible refine (impl_tidy_1.calls 1 _ gO gb gc 2 cu ad b.f0 _ _ (cellq hO0) (cellq hgb2) (by decide) (by decide) (cellq hcb) (cellq hb0) b1).mono ?_))); rintro e_ w' ⟨rfl, ⟨nd, rfl⟩⟩) | (go_at_call 98; (with_reducible refine (impl_cells.calls k a ga la _ ?kk Hla.out).mono ?_); (case kk => exact kP.K_below bq (kP.K_of_M HMa.out)); rintro e_ w5 ⟨v5, rfl, ho, hb⟩; obtain ⟨Aa, ca, rfl, hl5, hC5⟩ := Kd.R_reads ho; have n0_ := Aside0.mk (below_step bq hb); clear HB; have HB := n0_; clear n0_; have HCa := Aside0.mk hC5; have HLa := Aside0.mk hl5; clear hb ho hC5 hl5) | (go_at_call 98; (with_reducible refine (impl_cells.calls k b gc lb _ ?kk Hlb.out).mono ?_); (case kk => exact kP.K_below bq (kP.K_of_M HMb.out)); rintro e_ w6 ⟨v6, rfl, ho, hb⟩; obtain ⟨Ab, cb, rfl, hl6, hC6⟩ := Kd.R_reads ho; have n0_ := Aside0.mk (below_step bq hb); have n1_ := Aside0.mk (Kd.C_below (by repeat (first | exact HCa.out | (with_reducible refine Kd.C_alloc ?_ _) | (with_reducible refine Kd.C_drewN ?_ _) | (with_reducible refine Kd.C_drew ?_))) hb); clear HB HCa; have HB := n0_; have HCa := n1_; clear n0_ n1_; have HCb := Aside0.mk hC6; have HLb := Aside0.mk hl6; clear hb ho hC6 hl6) | (go_at_call 117; (with_reducible refine (slices_Equal_impl_ReCell_impl_ReCell.calls k Aa ca la Ab cb lb false _ (by repeat (first | exact HCa.out | (with_reducible refine Kd.C_alloc ?_ _) | (with_reducible refine Kd.C_drewN ?_ _) | (with_reducible refine Kd.C_drew ?_))) HLa.out (by repeat (first | exact HCb.out | (with_reducible refine Kd.C_alloc ?_ _) | (with_reducible refine Kd.C_drewN ?_ _) | (with_reducible refine Kd.C_drew ?_))) HLb.out Heq.out).mono ?_); rintro e_ w7 ⟨rfl, ⟨nd, rfl⟩⟩)))
            go_wp2
            go_ret
            exact ⟨gb, rfl, kP_mkM _ _ _ ⟨t.f0, t.f1, [a, b]⟩ gb (blk_below BK.out bq) GE.out trivial (Kd.R_mono (Kd.R_below HO.out bq) (fun _ hk => ⟨trivial, hk.1⟩)), below_step HW.out bq⟩
        rw [if_neg h6] at hT
        have b6 : (t.f0 == 6) = false := beq_eq_false_iff_ne.2 h6
        by_cases h7 : t.f0 = 7
        · rw [if_pos h7] at hT
          have b7 : (t.f0 == 7) = true := beq_iff_eq.2 h7
          rcases ts with _ | ⟨a, _ | ⟨b, l⟩⟩
          · cases hT
          rotate_left
          · cases hT
          simp only at hT
          replace hT := Option.some.inj hT
          obtain ⟨ad, cu, eu, hlc, hel⟩ := at_PM HO.out (by simp)
          replace eu : u = .slice (some ad) 1 cu := eu
          subst eu
          have hgb2 : wr.cell? ⟨gb, 2, none⟩ = some (.slice (some ad) 1 cu) := (blk_cell BK.out 2).trans rfl
          obtain ⟨ga, hca, hMa⟩ := hel 0 (by decide) (by simp)
          clear hel hlc
          replace hMa : kP.M wr w.heap.size _ a [.pointer (some ⟨ga, 0, none⟩)] := hMa
          have ha0 : wr.cell? ⟨ga, 0, none⟩ = some (.int .i64 a.f0) := kP_kind (kP.K_of_M hMa)
          have HMa := Aside0.mk hMa
          clear hMa
          have hx0 : wr.cell? ad = some (.pointer (some ⟨ga, 0, none⟩)) := by have h_ : wr.cell? (ad.add 0) = some (.pointer (some ⟨ga, 0, none⟩)) := hca; rwa [show ad.add 0 = ad from by unfold Addr.add; simp] at h_
          by_cases ha1 : a.f0 = 1
          · rw [if_pos ha1] at hT
            have a1 : (a.f0 == 1) = true := beq_iff_eq.2 ha1
            subst hT
            go_wp2_with (first | (go_at_call 115; (first | ((with_reducible refine (impl_tidy_1.calls 0 _ gO gb ga 1 cu ad a.f0 _ _ (cellq hO0) (cellq hgb2) (by decide) (by decide) (cellq hca) (cellq ha0) a1).mono ?_))); rintro e_ w' ⟨rfl, ⟨nd, rfl⟩⟩) | (go_at_call 116; (with_reducible refine (impl_of.calls _ _).mono ?_); rintro e_ w7 ⟨go, rfl, hM, hb⟩; have n0_ := Aside0.mk (below_step bq hb); have n1_ := Aside0.mk (kP.M_lower (Nat.le_trans (below_size HW.out) (below_size bq)) hM); clear HB; have HB := n0_; have HM := n1_; clear n0_ n1_ hb hM))
            go_ret
            exact ⟨go, rfl, HM.out, below_step HW.out bq⟩
          rw [if_neg ha1] at hT
          have a1 : (a.f0 == 1) = false := beq_eq_false_iff_ne.2 ha1
          by_cases ha2 : a.f0 = 2
          · rw [if_pos ha2] at hT
            have a2 : (a.f0 == 2) = true := beq_iff_eq.2 ha2
            subst hT
            go_wp2_with (first | (go_at_call 115; (first | ((with_reducible refine (impl_tidy_1.calls 0 _ gO gb ga 1 cu ad a.f0 _ _ (cellq hO0) (cellq hgb2) (by decide) (by decide) (cellq hca) (cellq ha0) a1).mono ?_)) | ((with_reducible refine (impl_tidy_1.calls 0 _ gO gb ga 1 cu ad a.f0 _ _ (cellq hO0) (cellq hgb2) (by decide) (by decide) (cellq hca) (cellq ha0) a2).mono ?_))); rintro e_ w' ⟨rfl, ⟨nd, rfl⟩⟩) | (go_at_call 116; (with_reducible refine (impl_of.calls _ _).mono ?_); rintro e_ w7 ⟨go, rfl, hM, hb⟩; have n0_ := Aside0.mk (below_step bq hb); have n1_ := Aside0.mk (kP.M_lower (Nat.le_trans (below_size HW.out) (below_size bq)) hM); clear HB; have HB := n0_; have HM := n1_; clear n0_ n1_ hb hM))
            go_ret
            exact ⟨go, rfl, HM.out, below_step HW.out bq⟩
          rw [if_neg ha2] at hT
          have a2 : (a.f0 == 2) = false := beq_eq_false_iff_ne.2 ha2
          by_cases ha7 : a.f0 = 7
          · rw [if_pos ha7] at hT
            have a7 : (a.f0 == 7) = true := beq_iff_eq.2 ha7
            subst hT
            go_wp2_with ((go_at_call 115; (first | ((with_reducible refine (impl_tidy_1.calls 0 _ gO gb ga 1 cu ad a.f0 _ _ (cellq hO0) (cellq hgb2) (by decide) (by decide) (cellq hca) (cellq ha0) a1).mono ?_)) | ((with_reducible refine (impl_tidy_1.calls 0 _ gO gb ga 1 cu ad a.f0 _ _ (cellq hO0) (cellq hgb2) (by decide) (by decide) (cellq hca) (cellq ha0) a2).mono ?_)) | ((with_reducible refine (impl_tidy_1.calls 0 _ gO gb ga 1 cu ad a.f0 _ _ (cellq hO0) (cellq hgb2) (by decide) (by decide) (cellq hca) (cellq ha0) a7).mono ?_))); rintro e_ w' ⟨rfl, ⟨nd, rfl⟩⟩))
            go_ret
            exact ⟨ga, rfl, kP.M_mono (fun _ _ => trivial) (Kd.M_below HMa.out bq), below_step HW.out bq⟩
          rw [if_neg ha7] at hT
          have a7 : (a.f0 == 7) = false := beq_eq_false_iff_ne.2 ha7
          subst hT
          go_wp2_with ((go_at_call 115; (first | ((with_reducible refine (impl_tidy_1.calls 0 _ gO gb ga 1 cu ad a.f0 _ _ (cellq hO0) (cellq hgb2) (by decide) (by decide) (cellq hca) (cellq ha0) a1).mono ?_)) | ((with_reducible refine (impl_tidy_1.calls 0 _ gO gb ga 1 cu ad a.f0 _ _ (cellq hO0) (cellq hgb2) (by decide) (by decide) (cellq hca) (cellq ha0) a2).mono ?_)) | ((with_reducible refine (impl_tidy_1.calls 0 _ gO gb ga 1 cu ad a.f0 _ _ (cellq hO0) (cellq hgb2) (by decide) (by decide) (cellq hca) (cellq ha0) a7).mono ?_))); rintro e_ w' ⟨rfl, ⟨nd, rfl⟩⟩))
          go_ret
          exact ⟨gb, rfl, kP_mkM _ _ _ ⟨t.f0, t.f1, [a]⟩ gb (blk_below BK.out bq) GE.out trivial (Kd.R_mono (Kd.R_below HO.out bq) (fun _ hk => ⟨trivial, hk.1⟩)), below_step HW.out bq⟩
        rw [if_neg h7] at hT
        have b7 : (t.f0 == 7) = false := beq_eq_false_iff_ne.2 h7
        obtain rfl := Option.some.inj hT
        go_wp2
        go_ret
        exact ⟨gb, rfl, kP_mkM _ _ _ ⟨t.f0, t.f1, _⟩ gb (blk_below BK.out bq) GE.out trivial (Kd.R_mono (Kd.R_below HO.out bq) (fun _ hk => ⟨trivial, hk.1⟩)), below_step HW.out bq⟩
      | succ m =>
        have hi := HI.out
        have c0 : 0 ≤ i := hi.1
        have c1 : i < (t.f2.length : Int) := by omega
        have hF := HF.out
        have hd := (drop_rd t.f2 i c0 c1).resolve_right (by have := HL.out; omega)
        rw [hd] at hF
        simp only [tidyK] at hF
        obtain ⟨y, h1, hF⟩ := Option.bind_eq_some_iff.mp hF
        obtain ⟨ys, h2, hF⟩ := Option.bind_eq_some_iff.mp hF
        obtain rfl := Option.some.inj hF
        have hS := HS.out
        have hlt : ts.length < 1000000 := by
          have := congrArg List.length hS
          rw [List.length_append, List.length_cons] at this
          have := HN.out
          omega
        obtain ⟨ad, g1, rfl, hx, hK⟩ := at_P HC.out i c0 c1
        have hx : wr.cell? (ad.add i.toNat) = some (.pointer (some ⟨g1, 0, none⟩)) := (HB.out.cell (World.block_lt_of_cell? w _ hx)).trans hx
        have HKg := Aside0.mk hK
        have H1 := Aside0.mk h1
        have H2 := Aside0.mk h2
        have HLT := Aside0.mk hlt
        have HJ := Aside0.mk (show 0 ≤ wrap64 (i + 1) ∧ wrap64 (i + 1) + (m : Int) = (t.f2.length : Int) by have := HL.out; unfold wrap64; omega)
        have HSS := Aside0.mk (show (ts ++ [y]) ++ ys = ks by rw [List.append_assoc]; exact hS)
        have b1 : decide (i < (t.f2.length : Int)) = true := decide_eq_true c1
        have q0 := eq_true c0
        have q1 := eq_true c1
        clear c0 c1 hi HI hF HF hd hK h1 h2 hS HS hlt
        go_wp2_with (fail)
        have n0_ := Aside0.mk (Kd.R_drew HO.out)
        clear HO
        have HO := n0_
        clear n0_
        have n0_ := Aside0.mk (blk_drew BK.out)
        clear BK
        have BK := n0_
        clear n0_
        have n0_ := Aside0.mk (blk_drew BKO.out)
        clear BKO
        have BKO := n0_
        clear n0_
        have n0_ := Aside0.mk (below_drew1 HB.out)
        clear HB
        have HB := n0_
        clear n0_
        refine start_ (n := 12) (S := fun w' => w'.cell? ⟨gO, 0, none⟩ = some (.pointer (some ⟨gb, 0, none⟩)) ∧ w'.cell? ⟨gb, 2, none⟩ = some u) (ds := [11]) #[false, false, false, false, false, false, false, false, false, false, false, false] (by kernel_rfl) rfl rfl ⟨(blk_cell BKO.out 0).trans rfl, (blk_cell BK.out 2).trans rfl⟩ (fun hHeld => ?_); refine with_tabW impl_tidy.tab5 impl_tidy.bits5 (fun HT_ HW_ => ?_)
        generalize wr.drew = w26 at HO BK BKO HB hHeld ⊢
        refine take_ (i := 0) (N := some 22) (v := ?_) (a' := ?_) #[true, false, false, false, false, false, false, false, false, false, false, false] rfl rfl (take_ofW HT_.out HW_.out (by kernel_rfl)) (fun _ _ _ h => h) (Or.inl ⟨by rfl, ?_⟩) hHeld ?_ ?_
        rotate_left
        · rintro w' ⟨s0, s1⟩
          go_simp
          with_reducible rfl
        rotate_left
        · simp only [Act.put, List.setIfInBounds_toArray, List.set_cons_zero, List.set_cons_succ, i64_w, i32_w]
          rfl
        refine take_ (i := 1) (N := some 23) (v := ?_) (a' := ?_) #[true, true, false, false, false, false, false, false, false, false, false, false] rfl rfl (take_ofW HT_.out HW_.out (by kernel_rfl)) (fun _ _ _ h => h) (Or.inl ⟨by rfl, ?_⟩) hHeld ?_ ?_
        rotate_left
        · rintro w' ⟨s0, s1⟩
          go_simp
          with_reducible rfl
        rotate_left
        · simp only [Act.put, List.setIfInBounds_toArray, List.set_cons_zero, List.set_cons_succ, i64_w, i32_w]
          rfl
        refine pure_ (i := 2) (N := some 24) (v := ?_) (a' := ?_) #[true, true, true, false, false, false, false, false, false, false, false, false] rfl rfl (any_of HT_.out (by kernel_rfl)) (fun _ _ _ h => h) (Or.inl ⟨by rfl, ?_⟩) ?_ ?_
        rotate_left
        · intro w'
          go_simp
          with_reducible rfl
        rotate_left
        · simp only [Act.put, List.setIfInBounds_toArray, List.set_cons_zero, List.set_cons_succ, i64_w, i32_w]
          rfl
        refine pure_ (i := 3) (N := some 25) (v := ?_) (a' := ?_) #[true, true, true, true, false, false, false, false, false, false, false, false] rfl rfl (any_of HT_.out (by kernel_rfl)) (fun _ _ _ h => h) (Or.inl ⟨by rfl, ?_⟩) ?_ ?_
        rotate_left
        · intro w'
          go_simp
          with_reducible rfl
        rotate_left
        · simp only [Act.put, List.setIfInBounds_toArray, List.set_cons_zero, List.set_cons_succ, i64_w, i32_w]
          rfl
        refine take_ (i := 4) (N := some 26) (v := ?_) (a' := ?_) #[true, true, true, true, true, false, false, false, false, false, false, false] rfl rfl (take_ofW HT_.out HW_.out (by kernel_rfl)) (fun _ _ _ h => h) (Or.inl ⟨by rfl, ?_⟩) hHeld ?_ ?_
        rotate_left
        · rintro w' ⟨s0, s1⟩
          go_simp
          with_reducible rfl
        rotate_left
        · simp only [Act.put, List.setIfInBounds_toArray, List.set_cons_zero, List.set_cons_succ, i64_w, i32_w]
          rfl
        refine pure_ (i := 5) (N := some 27) (v := ?_) (a' := ?_) #[true, true, true, true, true, true, false, false, false, false, false, false] rfl rfl (any_of HT_.out (by kernel_rfl)) (fun _ _ _ h => h) (Or.inl ⟨by rfl, ?_⟩) ?_ ?_
        rotate_left
        · intro w'
          go_simp
          with_reducible rfl
        rotate_left
        · simp only [Act.put, List.setIfInBounds_toArray, List.set_cons_zero, List.set_cons_succ, i64_w, i32_w]
          rfl
        refine one_ (i := 6) (N := some 28) #[true, true, true, true, true, true, true, false, false, false, false, false] rfl rfl (one_of HT_.out (by kernel_rfl)) (by decide) (fun K hK => ?_)
        refine goes_ Try.func97 (by kernel_rfl) rfl #[.pointer (some ⟨g1, 0, none⟩)] (by rfl) rfl rfl (by (try simp only [List.map_toArray, List.map_cons, List.map_nil]); first | done | rfl) ?_
        with_reducible refine (ih (rd_T105 t.f2 i) g1 y _ ?kk H1.out).mono ?_
        (case kk => exact kP.K_below bq HKg.out)
        rintro e_ w3 ⟨g3, rfl, hM, hb⟩
        refine ⟨_, rfl, ?_⟩
        have n0_ := Aside0.mk (Kd.R_below HO.out hb)
        have n1_ := Aside0.mk (blk_below BK.out hb)
        have n2_ := Aside0.mk (blk_below BKO.out hb)
        have n3_ : Aside0 (kP.M w3 w.heap.size (fun k_ => w26.heap.size ≤ k_) y [.pointer (some ⟨g3, 0, none⟩)]) := ⟨kP.M_lower (below_size bq) (kP.M_mono (fun k_ hk => hk.2.1) (kP.M_bound hM))⟩
        have n4_ := Aside0.mk (below_step bq hb)
        have n5_ := Aside0.mk (show ∀ k_, w26.heap.size ≤ k_ → (k_ ≠ gb ∧ k_ ≠ gO) ∧ some k_ ≠ u.ownBlock from fun k_ hk_ => ⟨⟨fun e_ => by have := blk_lt BK.out; omega, fun e_ => by have := blk_lt BKO.out; omega⟩, fun e_ => by have := ((Kd.R_bound HO.out).1 k_ e_.symm).2.2.1; omega⟩)
        clear HO BK BKO HB
        have HO := n0_
        have BK := n1_
        have BKO := n2_
        have HM := n3_
        have HB := n4_
        have HKK := n5_
        clear n0_ n1_ n2_ n3_ n4_ n5_ hb hM
        refine hK.out _ _ ⟨(blk_cell BKO.out 0).trans rfl, (blk_cell BK.out 2).trans rfl⟩ (fun hHeld => ?_)
        clear hK K
        refine norm_ (a' := ?_) ?_ ?_
        rotate_left
        · show Act.put _ (some 28) _ = _
          simp only [Act.put, List.setIfInBounds_toArray, List.set_cons_zero, List.set_cons_succ, i64_w, i32_w]
          rfl
        refine one_ (i := 7) (N := some 29) #[true, true, true, true, true, true, true, true, false, false, false, false] rfl rfl (one_of HT_.out (by kernel_rfl)) (by decide) (fun K hK => ?_)
        refine value_ (w1 := ?_) (v := ?_) (by rfl) rfl ?_ ?_
        rotate_left 2
        · go_simp
          constructor
          · rfl
          · rfl
        refine hK.out _ _ ⟨(blk_cell (blk_alloc BKO.out _) 0).trans rfl, (blk_cell (blk_alloc BK.out _) 2).trans rfl⟩ (fun hHeld => ?_)
        clear hK K
        refine norm_ (a' := ?_) ?_ ?_
        rotate_left
        · show Act.put _ (some 29) _ = _
          simp only [Act.put, List.setIfInBounds_toArray, List.set_cons_zero, List.set_cons_succ, i64_w, i32_w]
          rfl
        refine one_ (i := 8) (N := some 30) #[true, true, true, true, true, true, true, true, true, false, false, false] rfl rfl (one_of HT_.out (by kernel_rfl)) (by decide) (fun K hK => ?_)
        refine Kd.R_append_step kP (w0 := w) w.heap.size (by rfl) (.tmp 26) (.tmp 29) 143 116 (.pointer none) 8 rfl Try.underlying143 info116 rfl (by decide) (by omega) u ts y [.pointer (some ⟨g3, 0, none⟩)] (fun k_ => k_ ≠ gb ∧ k_ ≠ gO) (fun k_ => w26.heap.size ≤ k_) rfl rfl ?aP ?aK ?aF ?aO ?aB ?aS ?aL ?_
        (case aP => exact HM.out)
        (case aK => exact HKK.out)
        (case aF => exact fun k_ hk_ => ⟨Nat.ne_of_gt (Nat.lt_of_lt_of_le (blk_lt BK.out) hk_), Nat.ne_of_gt (Nat.lt_of_lt_of_le (blk_lt BKO.out) hk_)⟩)
        (case aO => exact HO.out)
        (case aB => exact HB.out)
        (case aS => exact below_size HB.out)
        (case aL => have := HLT.out; omega)
        intro v1 w4 ho hb hg hat
        have n1_ := Aside0.mk (blk_grown BK.out hg (fun e_ => (HO.out.1 gb e_.symm).1 rfl))
        have n2_ := Aside0.mk (blk_grown BKO.out hg (fun e_ => (HO.out.1 gO e_.symm).2 rfl))
        have n3_ := Aside0.mk ho
        have n4_ := Aside0.mk hb
        clear HO BK BKO HB
        have HO := n3_
        have BK := n1_
        have BKO := n2_
        have HB := n4_
        clear n1_ n2_ n3_ n4_ ho hb hg hat
        obtain ⟨Ao1, co1, eo1⟩ := Kd.R_slice HO.out
        subst eo1
        refine hK.out _ _ ⟨(blk_cell BKO.out 0).trans rfl, (blk_cell BK.out 2).trans rfl⟩ (fun hHeld => ?_)
        clear hK K
        refine norm_ (a' := ?_) ?_ ?_
        rotate_left
        · show Act.put _ (some 30) _ = _
          simp only [Act.put, List.setIfInBounds_toArray, List.set_cons_zero, List.set_cons_succ, i64_w, i32_w]
          rfl
        refine pure_ (i := 9) (N := some 31) (v := ?_) (a' := ?_) #[true, true, true, true, true, true, true, true, true, true, false, false] rfl rfl (any_of HT_.out (by kernel_rfl)) (fun _ _ _ h => h) (Or.inl ⟨by rfl, ?_⟩) ?_ ?_
        rotate_left
        · intro w'
          go_simp
          with_reducible rfl
        rotate_left
        · simp only [Act.put, List.setIfInBounds_toArray, List.set_cons_zero, List.set_cons_succ, i64_w, i32_w]
          rfl
        refine pure_ (i := 10) (N := some 32) (v := ?_) (a' := ?_) #[true, true, true, true, true, true, true, true, true, true, true, false] rfl rfl (any_of HT_.out (by kernel_rfl)) (fun _ _ _ h => h) (Or.inl ⟨by rfl, ?_⟩) ?_ ?_
        rotate_left
        · intro w'
          go_simp
          with_reducible rfl
        rotate_left
        · simp only [Act.put, List.setIfInBounds_toArray, List.set_cons_zero, List.set_cons_succ, i64_w, i32_w]
          rfl
        refine last_ (i := 11) (N := none) #[true, true, true, true, true, true, true, true, true, true, true, true] rfl rfl (one_of HT_.out (by kernel_rfl)) (by decide) (fun K hK => ?_)
        have hy_2 : w4.cell? ⟨gb, 2, none⟩ = some u := (blk_cell BK.out 2).trans rfl
        have hfy_2 := blk_frozen BK.out 2
        refine skip_ (w1 := ?_) (by rfl) rfl ?_ ?_
        rotate_left
        · go_simp
          rfl
        refine hK.out _ _ ?_
        clear hK K
        refine done_ (done_of HT_.out (by kernel_rfl)) ?_
        go_wp2
        go_roundg m
        case measure => omega
        case rel => exact ⟨wrap64 (i + 1), ts ++ [y], ys, .slice Ao1 (ts ++ [y]).length co1, (by first | rfl | (simp; done) | (simp [*]; done)), HJ, H2, HSS, ⟨by (with_reducible repeat (first | apply Kd.R_alloc | apply Kd.R_drewN | apply Kd.R_drew)); have h_ := Kd.R_far (p := ⟨gb, 2, none⟩) HO.out (fun _ hk => hk.1) (.slice Ao1 (ts ++ [y]).length co1); first | exact h_ | (simp only [List.length_append, List.length_singleton] at h_ ⊢; exact h_)⟩, ⟨by (with_reducible repeat (first | refine blk_drewN ?_ _ | refine blk_drew ?_ | refine blk_alloc ?_ _)); refine blk_put (cs := #[.int .i64 t.f0, .int .i64 t.f1, u]) ?_ 2 _ (by first | rfl | (simp; done)); exact btq⟩, ⟨by (with_reducible repeat (first | refine blk_drewN ?_ _ | refine blk_drew ?_ | refine blk_alloc ?_ _)); refine blk_far ?_ NE.out.symm _; exact btq⟩, ⟨by repeat (first | (with_reducible first | exact HB.out | apply below_alloc | apply pw_below_drewN | apply below_drew1 | refine below_set ?_ GE.out) | exact HB.out)⟩⟩
theorem cellsK_mono {p p' : S105 → Option (List S109)} (h : ∀ x, LeO (p x) (p' x)) : ∀ (xs : List S105) (out : List S109), LeO (cellsK p xs out) (cellsK p' xs out)
  | [], out => LeO.refl _
  | x :: xs, out => LeO.bind (h x) (fun l => LeO.ite (cellsK_mono h xs _) (LeO.refl _))
theorem impl_cells.mono : ∀ (k : Nat) (t : S105), LeO (impl_cells.f k t) (impl_cells.f (k + 1) t)
  | 0, t => fun r h => by simp [impl_cells.f] at h
  | k + 1, t => cellsK_mono (impl_cells.mono k) _ _
theorem tidyK_mono {p p' : S105 → Option S105} (h : ∀ x, LeO (p x) (p' x)) : ∀ (xs : List S105), LeO (tidyK p xs) (tidyK p' xs)
  | [] => LeO.refl _
  | x :: xs => LeO.bind (h x) (fun _ => LeO.bind (tidyK_mono h xs) (fun _ => LeO.refl _))
theorem tidyF_mono {q q' : S105 → Option (List S109)} {e e' : List S109 → List S109 → Option Bool} (h : ∀ x, LeO (q x) (q' x)) (he : ∀ x y, LeO (e x y) (e' x y)) (x y : Int) (ks : List S105) : LeO (tidyF q e x y ks) (tidyF q' e' x y ks) := by
  unfold tidyF
  refine LeO.ite (LeO.refl _) (LeO.ite ?_ (LeO.refl _))
  rcases ks with _ | ⟨a, _ | ⟨b, _ | ⟨c, l⟩⟩⟩
  · exact LeO.refl _
  · exact LeO.refl _
  · exact LeO.ite (LeO.refl _) (LeO.ite (LeO.refl _) (LeO.bind (h a) (fun _ => LeO.bind (h b) (fun _ => LeO.bind (he _ _) (fun _ => LeO.refl _)))))
  · exact LeO.refl _
theorem impl_tidy.mono : ∀ (k : Nat) (t : S105), LeO (impl_tidy.f k t) (impl_tidy.f (k + 1) t)
  | 0, t => fun r h => by simp [impl_tidy.f] at h
  | k + 1, t => LeO.bind (tidyK_mono (impl_tidy.mono k) _) (fun ks => LeO.ite (tidyF_mono (impl_cells.mono k) (fun x y => slices_Equal_impl_ReCell_impl_ReCell.mono x y k) _ _ _) (LeO.refl _))
/-! ### impl_TidyRegex: function 55 -/
def impl_TidyRegex.f (k : Nat) (l0 : List S109) : Option (List S109 × Bool) := (impl_GoodRegex.f k l0).bind fun g => (if g = true then ((impl_treeOf.f k l0).bind fun x => ((impl_tidy.f k x.1).bind fun t => ((impl_cells.f k t).bind fun c => (some (c, true))))) else (some ([], false)))
theorem impl_TidyRegex.mono : ∀ a0 k, LeO (impl_TidyRegex.f k a0) (impl_TidyRegex.f (k + 1) a0) := by
  intro a0 k
  unfold impl_TidyRegex.f
  exact LeO.bind (impl_GoodRegex.mono _ _) (fun g => LeO.ite (LeO.bind (impl_treeOf.mono _ _) (fun x => LeO.bind (impl_tidy.mono _ _) (fun _ => LeO.bind (impl_cells.mono _ _) (fun _ => LeO.refl _)))) (LeO.refl _))
set_option maxHeartbeats 8000000 in
set_option maxRecDepth 100000 in
theorem impl_TidyRegex.calls (k : Nat) (A0 : Option Addr) (c0 : Nat) (l0 : List S109) (r1 : List S109) (r2 : Bool) (w : World) (hr0 : Kd.C k109 w A0 l0.length l0) (hc0 : l0.length ≤ c0) (h : impl_TidyRegex.f k l0 = some (r1, r2)) :
    Calls Try.prog 55 #[.slice A0 l0.length c0] w fun e w' => ∃ v1_ : Value, e = .returned (.tuple #[v1_, .bool r2]) ∧ Kd.R k109 109 w' w.heap.size (fun _ => True) v1_ r1 ∧ Below w.heap.size w w' := by
  have HB := Aside0.mk (Below.refl w.heap.size w)
  have HR0 := Aside0.mk hr0
  have HC0 := Aside0.mk hc0
  clear hr0 hc0
  unfold impl_TidyRegex.f at h
  obtain ⟨g, hg, h⟩ := Option.bind_eq_some_iff.mp h
  have HG := Aside0.mk hg
  clear hg
  cases g with
  | true =>
    rw [if_pos rfl] at h
    obtain ⟨⟨t, q⟩, hx, h⟩ := Option.bind_eq_some_iff.mp h
    obtain ⟨y, hy, h⟩ := Option.bind_eq_some_iff.mp h
    obtain ⟨c, hc, h⟩ := Option.bind_eq_some_iff.mp h
    simp only [Option.some.injEq, Prod.mk.injEq] at h
    obtain ⟨rfl, rfl⟩ := h
    have HX := Aside0.mk hx
    have HY := Aside0.mk (show impl_tidy.f k t = some y from hy)
    have HE := Aside0.mk hc
    clear hx hy hc
    go_enter Try.func55, Try.ntmps55
    go_wp2_with (first | (go_at_call 46; (with_reducible refine (impl_GoodRegex.calls k _ _ l0 true _ ?side1 ?side2 HG.out).mono ?_); (case side1 => repeat (first | exact (Kd.C_below HR0.out HB.out) | (with_reducible refine Kd.C_alloc ?_ _) | (with_reducible refine Kd.C_drewN ?_ _) | (with_reducible refine Kd.C_drew ?_))); (case side2 => exact HC0.out); rintro e_ w2 ⟨rfl, hb⟩; have n0_ := Aside0.mk (below_step bq hb); clear HB; have HB := n0_; clear n0_ hb) | (go_at_call 87; (with_reducible refine (impl_treeOf.calls k A0 c0 l0 t q _ ?kC HC0.out HX.out).mono ?_); (case kC => repeat (first | exact (Kd.C_below HR0.out HB.out) | (with_reducible refine Kd.C_alloc ?_ _) | (with_reducible refine Kd.C_drewN ?_ _) | (with_reducible refine Kd.C_drew ?_))); rintro e_ w3 ⟨g1, A3, c3, rfl, hM1, hR1, hC1, hb⟩; have n0_ := Aside0.mk (below_step bq hb); have HK1 := Aside0.mk (kP.K_of_M hM1); clear HB; have HB := n0_; clear n0_ hb hM1 hR1 hC1) | (go_at_call 97; (with_reducible refine (impl_tidy.calls k t g1 y _ ?kk HY.out).mono ?_); (case kk => exact kP.K_below bq0 HK1.out); rintro e_ w4 ⟨g2, rfl, hM2, hb⟩; have n0_ := Aside0.mk (below_step bq hb); have HK2 := Aside0.mk (kP.K_of_M hM2); clear HB; have HB := n0_; clear n0_ hb hM2) | (go_at_call 98; (with_reducible refine (impl_cells.calls k y g2 c _ ?kk HE.out).mono ?_); (case kk => exact kP.K_below bq0 HK2.out); rintro e_ w5 ⟨v5, rfl, ho, hb⟩; have n0_ := Aside0.mk (below_step bq hb); have HO := Aside0.mk (Kd.R_lower ho (below_size bq)); clear HB; have HB := n0_; clear n0_ hb ho))
    refine bodyPost_ret (results_tmp2 rfl _ _ _) rfl ?_
    exact ⟨v5, by first | rfl | (simp; done) | (simp [*]; done), by (with_reducible repeat (first | apply Kd.R_alloc | apply Kd.R_drewN | apply Kd.R_drew)); exact HO.out, bq⟩
  | false =>
    rw [if_neg (by simp)] at h
    simp only [Option.some.injEq, Prod.mk.injEq] at h
    obtain ⟨rfl, rfl⟩ := h
    go_enter Try.func55, Try.ntmps55
    go_wp2_with ((go_at_call 46; (with_reducible refine (impl_GoodRegex.calls k _ _ l0 false _ ?side1 ?side2 HG.out).mono ?_); (case side1 => repeat (first | exact (Kd.C_below HR0.out HB.out) | (with_reducible refine Kd.C_alloc ?_ _) | (with_reducible refine Kd.C_drewN ?_ _) | (with_reducible refine Kd.C_drew ?_))); (case side2 => exact HC0.out); rintro e_ w2 ⟨rfl, hb⟩; have n0_ := Aside0.mk (below_step bq hb); clear HB; have HB := n0_; clear n0_ hb))
    refine bodyPost_ret (results_tmp2 rfl _ _ _) rfl ?_
    exact ⟨_, by first | rfl | (simp; done) | (simp [*]; done), Kd.R_nil _ _ _ _ _, bq⟩

end Go.Proofs.Ytkkchcalhomgcaa.PFnExactTidyRegex
