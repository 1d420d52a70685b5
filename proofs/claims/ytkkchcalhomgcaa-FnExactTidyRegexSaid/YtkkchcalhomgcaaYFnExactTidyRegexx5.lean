/- Written by this session's own program over the kit's print: Lean functions that tell what Go functions answer, each with a proof that the call does so. No condition but what each statement says. -/
import Derived.Test.YtkkchcalhomgcaaYFnExactTidyRegexx3
import Derived.Test.YtkkchcalhomgcaaYFnExactTidyRegexx4
namespace Go.Proofs.Ytkkchcalhomgcaa.PFnExactTidyRegex
open Go.RowKit Go.Proofs.YtkkchcalhomgcaaW.PrintWords Go.Proofs.YtkkchcalhomgcaaW.PrintLast Go.Proofs.YtkkchcalhomgcaaW.PrintMore
attribute [local go_sem] max2_int min2_int max_two min_two max_three min_three max_four min_four   -- for this text's walks alone
set_option linter.unusedVariables false
set_option linter.unusedSimpArgs false

theorem bq {p : Prop} (h : p := by repeat (first | (with_reducible first | exact HB.out | apply below_alloc | apply pw_below_drewN | apply below_drew1) | exact HB.out)) : p := h
theorem bq0 {p : Prop} (h : p := by repeat (first | exact Below.refl _ _ | apply pw_below_drewN | apply below_drew1 | apply below_drew | apply below_alloc)) : p := h
theorem btq {p : Prop} (h : p := by (with_reducible repeat (first | refine blk_drewN ?_ _ | refine blk_drew ?_ | refine blk_alloc ?_ _)); first | exact BK.out | exact BKO.out) : p := h
theorem cellq {w w1 : World} {a : Addr} {v : Value} (hc : w.cell? a = some v) (h : Below w.heap.size w w1 := by repeat (first | (with_reducible first | exact HB.out | apply below_alloc | apply pw_below_drewN | apply below_drew1) | exact HB.out)) : w1.cell? a = some v := pw_cell_below h hc
theorem drop_rd (l : List S105) (i : Int) (h0 : 0 ≤ i) (h1 : i < (l.length : Int)) : l.drop i.toNat = rd_T105 l i :: l.drop (wrap64 (i + 1)).toNat ∨ 9223372036854775807 < (l.length : Int) := by
  by_cases hb : 9223372036854775807 < (l.length : Int)
  · exact .inr hb
  · refine .inl ?_
    rw [show wrap64 (i + 1) = i + 1 by unfold wrap64; omega, show (i + 1).toNat = i.toNat + 1 by omega, List.drop_eq_getElem_cons (by omega : i.toNat < l.length)]
    congr 1
    unfold rd_T105
    rw [List.getD_eq_getElem?_getD, List.getElem?_eq_getElem (by omega : i.toNat < l.length)]; rfl
/-! ### spec_l6Flat: function 95 -/
def flatK (p : Int → Int → List S105 → List S109 → Option (List S109)) : List S105 → List S109 → Option (List S109)
  | [], out => some out
  | x :: xs, out => (p x.f0 x.f1 x.f2 out).bind fun o => flatK p xs o
def spec_l6Flat.f : Nat → Int → Int → List S105 → List S109 → Option (List S109)
  | 0, _, _, _, _ => none
  | k + 1, x, y, ks, l => if l.length < 1000000 then flatK (spec_l6Flat.f k) ks (l ++ [⟨x, y⟩]) else none
set_option maxHeartbeats 8000000 in
set_option maxRecDepth 100000 in
theorem spec_l6Flat.calls : ∀ (k : Nat) (x y : Int) (A : Option Addr) (c : Nat) (ks : List S105) (u : Value) (l r : List S109) (w0 w : World), Kd.C k105 w0 A ks.length ks → ks.length ≤ c → Below w0.heap.size w0 w → Kd.R k109 109 w w0.heap.size (fun k_ => w0.heap.size ≤ k_) u l → spec_l6Flat.f k x y ks l = some r →
    Calls Try.prog 95 #[.agg #[.int .i64 x, .int .i64 y, .slice A ks.length c], u] w fun e w' => ∃ v, e = .returned v ∧ Kd.R k109 109 w' w0.heap.size (fun k_ => w0.heap.size ≤ k_) v r ∧ Below w0.heap.size w0 w'
  | 0, x, y, A, c, ks, u, l, r, w0, w, hC, hc, hb, ho, h => by simp [spec_l6Flat.f] at h
  | k + 1, x, y, A, c, ks, u, l, r, w0, w, hC, hc, hb, ho, h => by
    have ih := spec_l6Flat.calls k
    have hu105 := Try.underlying105
    have hu109 := Try.underlying109
    simp only [spec_l6Flat.f] at h
    by_cases hl : l.length < 1000000
    case neg => rw [if_neg hl] at h; cases h
    rw [if_pos hl] at h
    have HL := Aside0.mk (Kd.C_max hC)
    have HLL := Aside0.mk hl
    have HC := Aside0.mk hC
    have HB := Aside0.mk hb
    have HO := Aside0.mk ho
    have HF := Aside0.mk (show flatK (spec_l6Flat.f k) (ks.drop (0 : Int).toNat) (l ++ [⟨x, y⟩]) = some r from h)
    clear h hl hC hb ho
    go_enter Try.func95, Try.ntmps95
    go_wp2_with (first | ((with_reducible refine gate_dst (N := 2) rfl ?_); refine box_event ?hg (N := 2) ?hd (cs := #[.int .i64 x, .int .i64 y, .slice A ks.length c]) (t := 105) ?hr ?_; (case hd => rfl); (case hg => rfl); (case hr => first | (go_simp; done) | (go_simp; rfl)); intro gb hg w1 hbox hb; have GE := Aside0.mk ((by rw [hg]; exact (below_size bq)) : w0.heap.size ≤ gb); have n1_ := Aside0.mk (Kd.R_below (by (with_reducible repeat (first | apply Kd.R_alloc | apply Kd.R_drewN | apply Kd.R_drew)); exact HO.out) hb); have n0_ : Aside0 (Below w0.heap.size w0 w1) := ⟨below_step bq hb⟩; have BK := Aside0.mk hbox; clear HB HO; have HB := n0_; have HO := n1_; clear n0_ n1_; clear hb hbox hg; have hz0 : w1.cell? ⟨gb, 0, none⟩ = some (.int .i64 x) := (blk_cell BK.out 0).trans rfl; have hz1 : w1.cell? ⟨gb, 1, none⟩ = some (.int .i64 y) := (blk_cell BK.out 1).trans rfl) | ((with_reducible refine gate_builtin (b := .append) (xs := #[.tmp 7, .tmp 13]) rfl ?_); (try (refine gate_guard (by rfl) ?_; dsimp only)); at_builtin; refine Kd.R_append k109 (w0 := w0) w0.heap.size rfl (.tmp 7) (.tmp 13) 67 109 (.agg #[(.int .i64 0), (.int .i64 0)]) 16 rfl Try.underlying67 info109 rfl (by decide) (by omega) u l (⟨x, y⟩ : S109) [.int .i64 x, .int .i64 y] (fun k_ => w0.heap.size ≤ k_) (fun _ => False) rfl (by first | (go_simp; done) | (go_simp; rfl)) ?aP (fun _ hk => hk.elim) ?aF ?aO ?aB ?aS ?aL ?_; (case aP => exact k109_mkM _ _ _ (⟨x, y⟩ : S109)); (case aB => exact bq); (case aF => exact (fun _ hk => Nat.le_trans (below_size bq) hk)); (case aO => exact (by (with_reducible repeat (first | apply Kd.R_alloc | apply Kd.R_drewN | apply Kd.R_drew)); exact HO.out)); (case aS => exact below_size bq); (case aL => have := HLL.out; omega); intro v1 w2 ho hb hg hat; have n0_ := Aside0.mk ho; have n1_ := Aside0.mk hb; have n2_ := Aside0.mk (blk_grown (g := gb) (o := .cells #[.int .i64 x, .int .i64 y, .slice A ks.length c] 105 (0, 0)) btq hg (Kd.R_ne HO.out BK.out (by decide))); clear HO HB BK; have HO := n0_; have HB := n1_; have BK := n2_; clear n0_ n1_ n2_ ho hb hg hat; have hy2 : w2.cell? ⟨gb, 2, none⟩ = some (.slice A ks.length c) := (blk_cell BK.out 2).trans rfl))
    go_loopg [1, 18] (ks.length) (fun m v1 v18 w' => ∃ (i : Int) (out : List S109), v18 = .int .i64 i ∧ Aside0 (0 ≤ i ∧ i + m = (ks.length : Int)) ∧ Aside0 (flatK (spec_l6Flat.f k) (ks.drop i.toNat) out = some r) ∧ Aside0 (Kd.R k109 109 w' w0.heap.size (fun k_ => w0.heap.size ≤ k_) v1 out) ∧ Aside0 (Below w0.heap.size w0 w'))
    case atStart => exact ⟨0, _, rfl, ⟨by omega⟩, HF, ⟨by (with_reducible repeat (first | apply Kd.R_alloc | apply Kd.R_drewN | apply Kd.R_drew)); exact HO.out⟩, ⟨bq⟩⟩
    case round =>
      clear HB HO HF hy2 BK
      obtain ⟨i, out, rfl, HI, HF, HO, HB⟩ := hrel
      cases gk with
      | zero =>
        have hi := HI.out
        have b0 : decide (i < (ks.length : Int)) = false := decide_eq_false (by omega)
        have hF := HF.out
        rw [List.drop_eq_nil_of_le (by omega)] at hF
        simp only [flatK, Option.some.injEq] at hF
        subst hF
        clear hi HI HF
        go_wp2
        go_ret
        exact ⟨_, rfl, by (with_reducible repeat (first | apply Kd.R_alloc | apply Kd.R_drewN | apply Kd.R_drew)); exact HO.out, bq⟩
      | succ m =>
        have hi := HI.out
        have c0 : 0 ≤ i := hi.1
        have c1 : i < (ks.length : Int) := by omega
        have hF := HF.out
        have hd := (drop_rd ks i c0 c1).resolve_right (by have := HL.out; omega)
        rw [hd] at hF
        simp only [flatK] at hF
        obtain ⟨o, h1, hF⟩ := Option.bind_eq_some_iff.mp hF
        obtain ⟨ad, Ak, ck, rfl, hx0, hx1, hx2, hlk, hCk⟩ := at_T105 HC.out i c0 c1
        replace hx0 := (HB.out.cell (World.block_lt_of_cell? w0 _ hx0)).trans hx0
        replace hx1 := (HB.out.cell (World.block_lt_of_cell? w0 _ hx1)).trans hx1
        replace hx2 := (HB.out.cell (World.block_lt_of_cell? w0 _ hx2)).trans hx2
        have HCk := Aside0.mk hCk
        have HLk := Aside0.mk hlk
        have HF1 := Aside0.mk hF
        have H1 := Aside0.mk h1
        have HJ := Aside0.mk (show 0 ≤ wrap64 (i + 1) ∧ wrap64 (i + 1) + (m : Int) = (ks.length : Int) by have := HL.out; unfold wrap64; omega)
        have b1 : decide (i < (ks.length : Int)) = true := decide_eq_true c1
        have q0 := eq_true c0
        have q1 := eq_true c1
        clear c0 c1 hi HI hF HF hd hCk h1 hlk
        go_wp2_with ((go_at_call 95; (with_reducible refine (ih (rd_T105 ks i).f0 (rd_T105 ks i).f1 Ak ck (rd_T105 ks i).f2 _ out o w0 _ HCk.out HLk.out ?kb ?ko H1.out).mono ?_); (case kb => exact bq); (case ko => exact (by (with_reducible repeat (first | apply Kd.R_alloc | apply Kd.R_drewN | apply Kd.R_drew)); exact HO.out)); rintro e_ w3 ⟨v3, rfl, ho, hb⟩; have n0_ := Aside0.mk ho; have n1_ := Aside0.mk hb; clear HB HO; have HO := n0_; have HB := n1_; clear n0_ n1_ hb ho))
        go_roundg m
        case measure => omega
        case rel => exact ⟨wrap64 (i + 1), o, (by first | rfl | (simp; done) | (simp [*]; done)), HJ, HF1, ⟨by (with_reducible repeat (first | apply Kd.R_alloc | apply Kd.R_drewN | apply Kd.R_drew)); exact HO.out⟩, ⟨bq⟩⟩
/-! ### spec_l6Make: function 114 -/
def makeF (sm : S105 → S105 → Option Bool) (x y : Int) (ks : List S105) : Option S105 :=
  if x = 5 then (match ks with
    | [a, b] => some (if a.f0 = 1 then ⟨1, 0, []⟩ else if b.f0 = 1 then ⟨1, 0, []⟩ else if a.f0 = 2 then b else if b.f0 = 2 then a else ⟨x, y, ks⟩)
    | _ => none)
  else if x = 6 then (match ks with
    | [a, b] => if a.f0 = 1 then some b else if b.f0 = 1 then some a else (sm a b).bind fun e => some (if e = true then a else ⟨x, y, ks⟩)
    | _ => none)
  else if x = 7 then (match ks with
    | [a] => some (if a.f0 = 1 then ⟨2, 0, []⟩ else if a.f0 = 2 then ⟨2, 0, []⟩ else if a.f0 = 7 then a else ⟨x, y, ks⟩)
    | _ => none)
  else some ⟨x, y, ks⟩
def spec_l6Make.f (k : Nat) (x y : Int) (ks : List S105) : Option S105 := makeF (fun a b => spec_l6Same.f k a.f0 a.f1 a.f2 b.f0 b.f1 b.f2) x y ks
theorem at_RM {w : World} {base : Nat} {ok : Nat → Prop} {u : Value} {xs : List S105} (h : Kd.R k105 105 w base ok u xs) (hp : 0 < xs.length) : ∃ ad c2, u = .slice (some ad) xs.length c2 ∧ xs.length ≤ c2 ∧ ∀ i : Int, 0 ≤ i → i < xs.length → ∃ v, w.cell? (ad.add (i.toNat * 3)) = some (.int .i64 (rd_T105 xs i).f0) ∧ w.cell? ⟨(ad.add (i.toNat * 3)).block, (ad.add (i.toNat * 3)).off + 1, none⟩ = some (.int .i64 (rd_T105 xs i).f1) ∧ w.cell? ⟨(ad.add (i.toNat * 3)).block, (ad.add (i.toNat * 3)).off + 2, none⟩ = some v ∧ Kd.R k105 105 w base ok v (rd_T105 xs i).f2 := by
  obtain ⟨A, c, rfl, hl, hr⟩ := OwnRow.reads h.2
  obtain ⟨ad, c0, rfl, _⟩ := ReadsRow.get_ hr z105 0 (by omega) (by omega)
  refine ⟨ad, c, rfl, hl, fun i h0 h1 => ?_⟩
  obtain ⟨ad', c1, e, hs, hM, hc⟩ := ReadsRow.get_ hr z105 i h0 h1
  cases e
  obtain ⟨v, rfl, hR⟩ := k105_openM hM
  refine ⟨v, ?_, ?_, ?_, Kd.R_mono hR (fun _ hk => hk.1)⟩
  · have := hc 0 _ rfl
    rw [show k105.sz = 3 from rfl, Nat.add_zero] at this
    exact this
  · have := hc 1 _ rfl
    rw [show k105.sz = 3 from rfl, add_field _ _ 1 (by omega)] at this
    exact this
  · have := hc 2 _ rfl
    rw [show k105.sz = 3 from rfl, add_field _ _ 2 (by omega)] at this
    exact this
set_option maxHeartbeats 8000000 in
set_option maxRecDepth 100000 in
theorem spec_l6Make.calls (k : Nat) (x y : Int) (u : Value) (ts : List S105) (r : S105) (P : Nat → Prop) (w0 w : World) (hb : Below w0.heap.size w0 w) (ho : Kd.R k105 105 w w0.heap.size P u ts) (h : spec_l6Make.f k x y ts = some r) :
    Calls Try.prog 114 #[.int .i64 x, .int .i64 y, u] w fun e w' => ∃ v, e = .returned (.agg #[.int .i64 r.f0, .int .i64 r.f1, v]) ∧ Kd.R k105 105 w' w0.heap.size P v r.f2 ∧ Below w.heap.size w w' := by
  have hu105 := Try.underlying105
  have hT := h
  have HB := Aside0.mk (Below.refl w.heap.size w)
  have HO := Aside0.mk ho
  clear h ho hb
  simp only [spec_l6Make.f, makeF] at hT
  by_cases hx5 : x = 5
  · rw [if_pos hx5] at hT
    have bx5 : (x == 5) = true := beq_iff_eq.2 hx5
    clear hx5
    rcases ts with _ | ⟨a, _ | ⟨b, _ | ⟨c, l⟩⟩⟩
    · cases hT
    · cases hT
    rotate_left
    · cases hT
    simp only at hT
    replace hT := Option.some.inj hT
    obtain ⟨ad, cu, eu, hlc, hel⟩ := at_RM HO.out (by simp)
    replace eu : u = .slice (some ad) 2 cu := eu
    subst eu
    obtain ⟨va, hca0, hca1, hca2, hMa⟩ := hel 0 (by decide) (by simp)
    obtain ⟨vb, hcb0, hcb1, hcb2, hMb⟩ := hel 1 (by decide) (by simp)
    have ea0 : ad.add (Int.toNat 0 * 3) = ad := by unfold Addr.add; simp
    rw [ea0] at hca0 hca1 hca2
    have hMa : Kd.R k105 105 w w0.heap.size P va a.f2 := hMa
    obtain ⟨Aa, ca, rfl, hla, hCa⟩ := Kd.R_reads hMa
    replace hca0 : w.cell? ad = some (.int .i64 a.f0) := hca0
    replace hca1 : w.cell? ⟨ad.block, ad.off + 1, none⟩ = some (.int .i64 a.f1) := hca1
    have eb0 : ad.add (Int.toNat 1 * 3) = ⟨ad.block, ad.off + 3, none⟩ := by unfold Addr.add; simp
    rw [eb0] at hcb0 hcb1 hcb2
    have hMb : Kd.R k105 105 w w0.heap.size P vb b.f2 := hMb
    obtain ⟨Ab, cb, rfl, hlb, hCb⟩ := Kd.R_reads hMb
    replace hcb0 : w.cell? ⟨ad.block, ad.off + 3, none⟩ = some (.int .i64 b.f0) := hcb0
    replace hcb1 : w.cell? ⟨ad.block, ad.off + 3 + 1, none⟩ = some (.int .i64 b.f1) := hcb1
    replace hcb2 : w.cell? ⟨ad.block, ad.off + 3 + 2, none⟩ = some (.slice Ab b.f2.length cb) := hcb2
    have HMa := Aside0.mk hMa
    have HCa := Aside0.mk hCa
    have HLa := Aside0.mk hla
    have HMb := Aside0.mk hMb
    have HCb := Aside0.mk hCb
    have HLb := Aside0.mk hlb
    clear hel hlc ea0 hMa hCa hla eb0 hMb hCb hlb
    by_cases ha1 : a.f0 = 1
    · rw [if_pos ha1] at hT
      have ba1 : (a.f0 == 1) = true := beq_iff_eq.2 ha1
      clear ha1
      subst hT
      go_enter Try.func114, Try.ntmps114
      go_wp2_with (((with_reducible refine gate_dst (N := 6) rfl ?_); refine box_event ?hg (N := 6) ?hd (cs := #[.int .i64 0, .int .i64 0, .slice none 0 0]) (t := 105) ?hr ?_; (case hd => rfl); (case hg => rfl); (case hr => first | (go_simp; done) | (go_simp; rfl)); intro g6 hg v1 hbox hb; have G6 := Aside0.mk ((by rw [hg]; exact (below_size (by repeat (first | (with_reducible first | exact HB.out | apply below_alloc | apply pw_below_drewN | apply below_drew1) | exact HB.out)))) : w.heap.size ≤ g6); have n0_ := Aside0.mk (below_step (by repeat (first | (with_reducible first | exact HB.out | apply below_alloc | apply pw_below_drewN | apply below_drew1) | exact HB.out)) hb); clear HB; have HB := n0_; clear n0_; have BK6 := Aside0.mk hbox; clear hb hbox hg; have hhca0_v : v1.cell? ad = some (.int .i64 a.f0) := (Below.cell (show Below w.heap.size w v1 from by repeat (first | (with_reducible first | exact HB.out | apply below_alloc | apply pw_below_drewN | apply below_drew1) | exact HB.out)) (World.block_lt_of_cell? w _ hca0)).trans hca0; have hhca1_v : v1.cell? ⟨ad.block, ad.off + 1, none⟩ = some (.int .i64 a.f1) := (Below.cell (show Below w.heap.size w v1 from by repeat (first | (with_reducible first | exact HB.out | apply below_alloc | apply pw_below_drewN | apply below_drew1) | exact HB.out)) (World.block_lt_of_cell? w _ hca1)).trans hca1; have hhca2_v : v1.cell? ⟨ad.block, ad.off + 2, none⟩ = some (.slice Aa a.f2.length ca) := (Below.cell (show Below w.heap.size w v1 from by repeat (first | (with_reducible first | exact HB.out | apply below_alloc | apply pw_below_drewN | apply below_drew1) | exact HB.out)) (World.block_lt_of_cell? w _ hca2)).trans hca2; have hhcb0_v : (v1.alloc (.cells #[.int .i64 a.f0, .int .i64 a.f1, .slice Aa a.f2.length ca] 105 (0, 0))).cell? ⟨ad.block, ad.off + 3, none⟩ = some (.int .i64 b.f0) := (Below.cell (show Below w.heap.size w (v1.alloc (.cells #[.int .i64 a.f0, .int .i64 a.f1, .slice Aa a.f2.length ca] 105 (0, 0))) from by repeat (first | (with_reducible first | exact HB.out | apply below_alloc | apply pw_below_drewN | apply below_drew1) | exact HB.out)) (World.block_lt_of_cell? w _ hcb0)).trans hcb0; have hhcb1_v : (v1.alloc (.cells #[.int .i64 a.f0, .int .i64 a.f1, .slice Aa a.f2.length ca] 105 (0, 0))).cell? ⟨ad.block, ad.off + 3 + 1, none⟩ = some (.int .i64 b.f1) := (Below.cell (show Below w.heap.size w (v1.alloc (.cells #[.int .i64 a.f0, .int .i64 a.f1, .slice Aa a.f2.length ca] 105 (0, 0))) from by repeat (first | (with_reducible first | exact HB.out | apply below_alloc | apply pw_below_drewN | apply below_drew1) | exact HB.out)) (World.block_lt_of_cell? w _ hcb1)).trans hcb1; have hhcb2_v : (v1.alloc (.cells #[.int .i64 a.f0, .int .i64 a.f1, .slice Aa a.f2.length ca] 105 (0, 0))).cell? ⟨ad.block, ad.off + 3 + 2, none⟩ = some (.slice Ab b.f2.length cb) := (Below.cell (show Below w.heap.size w (v1.alloc (.cells #[.int .i64 a.f0, .int .i64 a.f1, .slice Aa a.f2.length ca] 105 (0, 0))) from by repeat (first | (with_reducible first | exact HB.out | apply below_alloc | apply pw_below_drewN | apply below_drew1) | exact HB.out)) (World.block_lt_of_cell? w _ hcb2)).trans hcb2; have hz6_0 : ((v1.alloc (.cells #[.int .i64 a.f0, .int .i64 a.f1, .slice Aa a.f2.length ca] 105 (0, 0))).alloc (.cells #[.int .i64 b.f0, .int .i64 b.f1, .slice Ab b.f2.length cb] 105 (0, 0))).cell? ⟨g6, 0, none⟩ = some (.int .i64 0) := (blk_cell (blk_alloc (blk_alloc BK6.out _) _) 0).trans rfl; have hf6_0 : ((v1.alloc (.cells #[.int .i64 a.f0, .int .i64 a.f1, .slice Aa a.f2.length ca] 105 (0, 0))).alloc (.cells #[.int .i64 b.f0, .int .i64 b.f1, .slice Ab b.f2.length cb] 105 (0, 0))).frozen? ⟨g6, 0, none⟩ = false := blk_frozen (blk_alloc (blk_alloc BK6.out _) _) 0; have hz6_1 : ((v1.alloc (.cells #[.int .i64 a.f0, .int .i64 a.f1, .slice Aa a.f2.length ca] 105 (0, 0))).alloc (.cells #[.int .i64 b.f0, .int .i64 b.f1, .slice Ab b.f2.length cb] 105 (0, 0))).cell? ⟨g6, 1, none⟩ = some (.int .i64 0) := (blk_cell (blk_alloc (blk_alloc BK6.out _) _) 1).trans rfl; have hf6_1 : ((v1.alloc (.cells #[.int .i64 a.f0, .int .i64 a.f1, .slice Aa a.f2.length ca] 105 (0, 0))).alloc (.cells #[.int .i64 b.f0, .int .i64 b.f1, .slice Ab b.f2.length cb] 105 (0, 0))).frozen? ⟨g6, 1, none⟩ = false := blk_frozen (blk_alloc (blk_alloc BK6.out _) _) 1; have hz6_2 : ((v1.alloc (.cells #[.int .i64 a.f0, .int .i64 a.f1, .slice Aa a.f2.length ca] 105 (0, 0))).alloc (.cells #[.int .i64 b.f0, .int .i64 b.f1, .slice Ab b.f2.length cb] 105 (0, 0))).cell? ⟨g6, 2, none⟩ = some (.slice none 0 0) := (blk_cell (blk_alloc (blk_alloc BK6.out _) _) 2).trans rfl; have hf6_2 : ((v1.alloc (.cells #[.int .i64 a.f0, .int .i64 a.f1, .slice Aa a.f2.length ca] 105 (0, 0))).alloc (.cells #[.int .i64 b.f0, .int .i64 b.f1, .slice Ab b.f2.length cb] 105 (0, 0))).frozen? ⟨g6, 2, none⟩ = false := blk_frozen (blk_alloc (blk_alloc BK6.out _) _) 2; have hza : ((v1.alloc (.cells #[.int .i64 a.f0, .int .i64 a.f1, .slice Aa a.f2.length ca] 105 (0, 0))).alloc (.cells #[.int .i64 b.f0, .int .i64 b.f1, .slice Ab b.f2.length cb] 105 (0, 0))).heap[v1.heap.size]? = some (.cells #[.int .i64 a.f0, .int .i64 a.f1, .slice Aa a.f2.length ca] 105 (0, 0)) := blk_alloc (heap_alloc_new v1 _) _; have hzb : ((v1.alloc (.cells #[.int .i64 a.f0, .int .i64 a.f1, .slice Aa a.f2.length ca] 105 (0, 0))).alloc (.cells #[.int .i64 b.f0, .int .i64 b.f1, .slice Ab b.f2.length cb] 105 (0, 0))).heap[v1.heap.size + 1]? = some (.cells #[.int .i64 b.f0, .int .i64 b.f1, .slice Ab b.f2.length cb] 105 (0, 0)) := (by have h_ := heap_alloc_new (v1.alloc (.cells #[.int .i64 a.f0, .int .i64 a.f1, .slice Aa a.f2.length ca] 105 (0, 0))) (.cells #[.int .i64 b.f0, .int .i64 b.f1, .slice Ab b.f2.length cb] 105 (0, 0)); rw [show (v1.alloc (.cells #[.int .i64 a.f0, .int .i64 a.f1, .slice Aa a.f2.length ca] 105 (0, 0))).heap.size = v1.heap.size + 1 from by simp] at h_; exact h_); have ha_0 : ((v1.alloc (.cells #[.int .i64 a.f0, .int .i64 a.f1, .slice Aa a.f2.length ca] 105 (0, 0))).alloc (.cells #[.int .i64 b.f0, .int .i64 b.f1, .slice Ab b.f2.length cb] 105 (0, 0))).cell? ⟨v1.heap.size, 0, none⟩ = some (.int .i64 a.f0) := (blk_cell hza 0).trans rfl; have hb_0 : ((v1.alloc (.cells #[.int .i64 a.f0, .int .i64 a.f1, .slice Aa a.f2.length ca] 105 (0, 0))).alloc (.cells #[.int .i64 b.f0, .int .i64 b.f1, .slice Ab b.f2.length cb] 105 (0, 0))).cell? ⟨v1.heap.size + 1, 0, none⟩ = some (.int .i64 b.f0) := (blk_cell hzb 0).trans rfl; have ha_1 : ((v1.alloc (.cells #[.int .i64 a.f0, .int .i64 a.f1, .slice Aa a.f2.length ca] 105 (0, 0))).alloc (.cells #[.int .i64 b.f0, .int .i64 b.f1, .slice Ab b.f2.length cb] 105 (0, 0))).cell? ⟨v1.heap.size, 1, none⟩ = some (.int .i64 a.f1) := (blk_cell hza 1).trans rfl; have hb_1 : ((v1.alloc (.cells #[.int .i64 a.f0, .int .i64 a.f1, .slice Aa a.f2.length ca] 105 (0, 0))).alloc (.cells #[.int .i64 b.f0, .int .i64 b.f1, .slice Ab b.f2.length cb] 105 (0, 0))).cell? ⟨v1.heap.size + 1, 1, none⟩ = some (.int .i64 b.f1) := (blk_cell hzb 1).trans rfl; have ha_2 : ((v1.alloc (.cells #[.int .i64 a.f0, .int .i64 a.f1, .slice Aa a.f2.length ca] 105 (0, 0))).alloc (.cells #[.int .i64 b.f0, .int .i64 b.f1, .slice Ab b.f2.length cb] 105 (0, 0))).cell? ⟨v1.heap.size, 2, none⟩ = some (.slice Aa a.f2.length ca) := (blk_cell hza 2).trans rfl; have hb_2 : ((v1.alloc (.cells #[.int .i64 a.f0, .int .i64 a.f1, .slice Aa a.f2.length ca] 105 (0, 0))).alloc (.cells #[.int .i64 b.f0, .int .i64 b.f1, .slice Ab b.f2.length cb] 105 (0, 0))).cell? ⟨v1.heap.size + 1, 2, none⟩ = some (.slice Ab b.f2.length cb) := (blk_cell hzb 2).trans rfl; have HZA := Aside0.mk hza; have HZB := Aside0.mk hzb; clear hza hzb))
      refine bodyPost_ret (results_cell_row rfl _ _ g6 105 #[.int .i64 1, .int .i64 0, .slice none 0 0] (0, 0) _ rfl (by (with_reducible repeat (first | refine blk_drewN ?_ _ | refine blk_drew ?_ | refine blk_alloc ?_ _)); refine blk_put (cs := #[.int .i64 1, .int .i64 0, .slice none 0 0]) ?_ 2 _ rfl; (with_reducible repeat (first | refine blk_drewN ?_ _ | refine blk_drew ?_ | refine blk_alloc ?_ _)); refine blk_put (cs := #[.int .i64 1, .int .i64 0, .slice none 0 0]) ?_ 1 _ rfl; (with_reducible repeat (first | refine blk_drewN ?_ _ | refine blk_drew ?_ | refine blk_alloc ?_ _)); refine blk_put (cs := #[.int .i64 0, .int .i64 0, .slice none 0 0]) ?_ 0 _ rfl; (with_reducible repeat (first | refine blk_drewN ?_ _ | refine blk_drew ?_ | refine blk_alloc ?_ _)); exact BK6.out) Try.underlying105 rfl (by kernel_rfl)) rfl ?_
      exact ⟨.slice none 0 0, by first | rfl | (simp; done) | (simp [*]; done), Kd.R_nil _ _ _ _ _, by repeat (first | (with_reducible first | exact HB.out | apply below_alloc | apply pw_below_drewN | apply below_drew1 | refine below_set ?_ G6.out) | exact HB.out)⟩
    rw [if_neg ha1] at hT
    have ba1 : (a.f0 == 1) = false := beq_eq_false_iff_ne.2 ha1
    clear ha1
    by_cases hb1 : b.f0 = 1
    · rw [if_pos hb1] at hT
      have bb1 : (b.f0 == 1) = true := beq_iff_eq.2 hb1
      clear hb1
      subst hT
      go_enter Try.func114, Try.ntmps114
      go_wp2_with (((with_reducible refine gate_dst (N := 6) rfl ?_); refine box_event ?hg (N := 6) ?hd (cs := #[.int .i64 0, .int .i64 0, .slice none 0 0]) (t := 105) ?hr ?_; (case hd => rfl); (case hg => rfl); (case hr => first | (go_simp; done) | (go_simp; rfl)); intro g6 hg v1 hbox hb; have G6 := Aside0.mk ((by rw [hg]; exact (below_size (by repeat (first | (with_reducible first | exact HB.out | apply below_alloc | apply pw_below_drewN | apply below_drew1) | exact HB.out)))) : w.heap.size ≤ g6); have n0_ := Aside0.mk (below_step (by repeat (first | (with_reducible first | exact HB.out | apply below_alloc | apply pw_below_drewN | apply below_drew1) | exact HB.out)) hb); clear HB; have HB := n0_; clear n0_; have BK6 := Aside0.mk hbox; clear hb hbox hg; have hhca0_v : v1.cell? ad = some (.int .i64 a.f0) := (Below.cell (show Below w.heap.size w v1 from by repeat (first | (with_reducible first | exact HB.out | apply below_alloc | apply pw_below_drewN | apply below_drew1) | exact HB.out)) (World.block_lt_of_cell? w _ hca0)).trans hca0; have hhca1_v : v1.cell? ⟨ad.block, ad.off + 1, none⟩ = some (.int .i64 a.f1) := (Below.cell (show Below w.heap.size w v1 from by repeat (first | (with_reducible first | exact HB.out | apply below_alloc | apply pw_below_drewN | apply below_drew1) | exact HB.out)) (World.block_lt_of_cell? w _ hca1)).trans hca1; have hhca2_v : v1.cell? ⟨ad.block, ad.off + 2, none⟩ = some (.slice Aa a.f2.length ca) := (Below.cell (show Below w.heap.size w v1 from by repeat (first | (with_reducible first | exact HB.out | apply below_alloc | apply pw_below_drewN | apply below_drew1) | exact HB.out)) (World.block_lt_of_cell? w _ hca2)).trans hca2; have hhcb0_v : (v1.alloc (.cells #[.int .i64 a.f0, .int .i64 a.f1, .slice Aa a.f2.length ca] 105 (0, 0))).cell? ⟨ad.block, ad.off + 3, none⟩ = some (.int .i64 b.f0) := (Below.cell (show Below w.heap.size w (v1.alloc (.cells #[.int .i64 a.f0, .int .i64 a.f1, .slice Aa a.f2.length ca] 105 (0, 0))) from by repeat (first | (with_reducible first | exact HB.out | apply below_alloc | apply pw_below_drewN | apply below_drew1) | exact HB.out)) (World.block_lt_of_cell? w _ hcb0)).trans hcb0; have hhcb1_v : (v1.alloc (.cells #[.int .i64 a.f0, .int .i64 a.f1, .slice Aa a.f2.length ca] 105 (0, 0))).cell? ⟨ad.block, ad.off + 3 + 1, none⟩ = some (.int .i64 b.f1) := (Below.cell (show Below w.heap.size w (v1.alloc (.cells #[.int .i64 a.f0, .int .i64 a.f1, .slice Aa a.f2.length ca] 105 (0, 0))) from by repeat (first | (with_reducible first | exact HB.out | apply below_alloc | apply pw_below_drewN | apply below_drew1) | exact HB.out)) (World.block_lt_of_cell? w _ hcb1)).trans hcb1; have hhcb2_v : (v1.alloc (.cells #[.int .i64 a.f0, .int .i64 a.f1, .slice Aa a.f2.length ca] 105 (0, 0))).cell? ⟨ad.block, ad.off + 3 + 2, none⟩ = some (.slice Ab b.f2.length cb) := (Below.cell (show Below w.heap.size w (v1.alloc (.cells #[.int .i64 a.f0, .int .i64 a.f1, .slice Aa a.f2.length ca] 105 (0, 0))) from by repeat (first | (with_reducible first | exact HB.out | apply below_alloc | apply pw_below_drewN | apply below_drew1) | exact HB.out)) (World.block_lt_of_cell? w _ hcb2)).trans hcb2; have hz6_0 : ((v1.alloc (.cells #[.int .i64 a.f0, .int .i64 a.f1, .slice Aa a.f2.length ca] 105 (0, 0))).alloc (.cells #[.int .i64 b.f0, .int .i64 b.f1, .slice Ab b.f2.length cb] 105 (0, 0))).cell? ⟨g6, 0, none⟩ = some (.int .i64 0) := (blk_cell (blk_alloc (blk_alloc BK6.out _) _) 0).trans rfl; have hf6_0 : ((v1.alloc (.cells #[.int .i64 a.f0, .int .i64 a.f1, .slice Aa a.f2.length ca] 105 (0, 0))).alloc (.cells #[.int .i64 b.f0, .int .i64 b.f1, .slice Ab b.f2.length cb] 105 (0, 0))).frozen? ⟨g6, 0, none⟩ = false := blk_frozen (blk_alloc (blk_alloc BK6.out _) _) 0; have hz6_1 : ((v1.alloc (.cells #[.int .i64 a.f0, .int .i64 a.f1, .slice Aa a.f2.length ca] 105 (0, 0))).alloc (.cells #[.int .i64 b.f0, .int .i64 b.f1, .slice Ab b.f2.length cb] 105 (0, 0))).cell? ⟨g6, 1, none⟩ = some (.int .i64 0) := (blk_cell (blk_alloc (blk_alloc BK6.out _) _) 1).trans rfl; have hf6_1 : ((v1.alloc (.cells #[.int .i64 a.f0, .int .i64 a.f1, .slice Aa a.f2.length ca] 105 (0, 0))).alloc (.cells #[.int .i64 b.f0, .int .i64 b.f1, .slice Ab b.f2.length cb] 105 (0, 0))).frozen? ⟨g6, 1, none⟩ = false := blk_frozen (blk_alloc (blk_alloc BK6.out _) _) 1; have hz6_2 : ((v1.alloc (.cells #[.int .i64 a.f0, .int .i64 a.f1, .slice Aa a.f2.length ca] 105 (0, 0))).alloc (.cells #[.int .i64 b.f0, .int .i64 b.f1, .slice Ab b.f2.length cb] 105 (0, 0))).cell? ⟨g6, 2, none⟩ = some (.slice none 0 0) := (blk_cell (blk_alloc (blk_alloc BK6.out _) _) 2).trans rfl; have hf6_2 : ((v1.alloc (.cells #[.int .i64 a.f0, .int .i64 a.f1, .slice Aa a.f2.length ca] 105 (0, 0))).alloc (.cells #[.int .i64 b.f0, .int .i64 b.f1, .slice Ab b.f2.length cb] 105 (0, 0))).frozen? ⟨g6, 2, none⟩ = false := blk_frozen (blk_alloc (blk_alloc BK6.out _) _) 2; have hza : ((v1.alloc (.cells #[.int .i64 a.f0, .int .i64 a.f1, .slice Aa a.f2.length ca] 105 (0, 0))).alloc (.cells #[.int .i64 b.f0, .int .i64 b.f1, .slice Ab b.f2.length cb] 105 (0, 0))).heap[v1.heap.size]? = some (.cells #[.int .i64 a.f0, .int .i64 a.f1, .slice Aa a.f2.length ca] 105 (0, 0)) := blk_alloc (heap_alloc_new v1 _) _; have hzb : ((v1.alloc (.cells #[.int .i64 a.f0, .int .i64 a.f1, .slice Aa a.f2.length ca] 105 (0, 0))).alloc (.cells #[.int .i64 b.f0, .int .i64 b.f1, .slice Ab b.f2.length cb] 105 (0, 0))).heap[v1.heap.size + 1]? = some (.cells #[.int .i64 b.f0, .int .i64 b.f1, .slice Ab b.f2.length cb] 105 (0, 0)) := (by have h_ := heap_alloc_new (v1.alloc (.cells #[.int .i64 a.f0, .int .i64 a.f1, .slice Aa a.f2.length ca] 105 (0, 0))) (.cells #[.int .i64 b.f0, .int .i64 b.f1, .slice Ab b.f2.length cb] 105 (0, 0)); rw [show (v1.alloc (.cells #[.int .i64 a.f0, .int .i64 a.f1, .slice Aa a.f2.length ca] 105 (0, 0))).heap.size = v1.heap.size + 1 from by simp] at h_; exact h_); have ha_0 : ((v1.alloc (.cells #[.int .i64 a.f0, .int .i64 a.f1, .slice Aa a.f2.length ca] 105 (0, 0))).alloc (.cells #[.int .i64 b.f0, .int .i64 b.f1, .slice Ab b.f2.length cb] 105 (0, 0))).cell? ⟨v1.heap.size, 0, none⟩ = some (.int .i64 a.f0) := (blk_cell hza 0).trans rfl; have hb_0 : ((v1.alloc (.cells #[.int .i64 a.f0, .int .i64 a.f1, .slice Aa a.f2.length ca] 105 (0, 0))).alloc (.cells #[.int .i64 b.f0, .int .i64 b.f1, .slice Ab b.f2.length cb] 105 (0, 0))).cell? ⟨v1.heap.size + 1, 0, none⟩ = some (.int .i64 b.f0) := (blk_cell hzb 0).trans rfl; have ha_1 : ((v1.alloc (.cells #[.int .i64 a.f0, .int .i64 a.f1, .slice Aa a.f2.length ca] 105 (0, 0))).alloc (.cells #[.int .i64 b.f0, .int .i64 b.f1, .slice Ab b.f2.length cb] 105 (0, 0))).cell? ⟨v1.heap.size, 1, none⟩ = some (.int .i64 a.f1) := (blk_cell hza 1).trans rfl; have hb_1 : ((v1.alloc (.cells #[.int .i64 a.f0, .int .i64 a.f1, .slice Aa a.f2.length ca] 105 (0, 0))).alloc (.cells #[.int .i64 b.f0, .int .i64 b.f1, .slice Ab b.f2.length cb] 105 (0, 0))).cell? ⟨v1.heap.size + 1, 1, none⟩ = some (.int .i64 b.f1) := (blk_cell hzb 1).trans rfl; have ha_2 : ((v1.alloc (.cells #[.int .i64 a.f0, .int .i64 a.f1, .slice Aa a.f2.length ca] 105 (0, 0))).alloc (.cells #[.int .i64 b.f0, .int .i64 b.f1, .slice Ab b.f2.length cb] 105 (0, 0))).cell? ⟨v1.heap.size, 2, none⟩ = some (.slice Aa a.f2.length ca) := (blk_cell hza 2).trans rfl; have hb_2 : ((v1.alloc (.cells #[.int .i64 a.f0, .int .i64 a.f1, .slice Aa a.f2.length ca] 105 (0, 0))).alloc (.cells #[.int .i64 b.f0, .int .i64 b.f1, .slice Ab b.f2.length cb] 105 (0, 0))).cell? ⟨v1.heap.size + 1, 2, none⟩ = some (.slice Ab b.f2.length cb) := (blk_cell hzb 2).trans rfl; have HZA := Aside0.mk hza; have HZB := Aside0.mk hzb; clear hza hzb))
      refine bodyPost_ret (results_cell_row rfl _ _ g6 105 #[.int .i64 1, .int .i64 0, .slice none 0 0] (0, 0) _ rfl (by (with_reducible repeat (first | refine blk_drewN ?_ _ | refine blk_drew ?_ | refine blk_alloc ?_ _)); refine blk_put (cs := #[.int .i64 1, .int .i64 0, .slice none 0 0]) ?_ 2 _ rfl; (with_reducible repeat (first | refine blk_drewN ?_ _ | refine blk_drew ?_ | refine blk_alloc ?_ _)); refine blk_put (cs := #[.int .i64 1, .int .i64 0, .slice none 0 0]) ?_ 1 _ rfl; (with_reducible repeat (first | refine blk_drewN ?_ _ | refine blk_drew ?_ | refine blk_alloc ?_ _)); refine blk_put (cs := #[.int .i64 0, .int .i64 0, .slice none 0 0]) ?_ 0 _ rfl; (with_reducible repeat (first | refine blk_drewN ?_ _ | refine blk_drew ?_ | refine blk_alloc ?_ _)); exact BK6.out) Try.underlying105 rfl (by kernel_rfl)) rfl ?_
      exact ⟨.slice none 0 0, by first | rfl | (simp; done) | (simp [*]; done), Kd.R_nil _ _ _ _ _, by repeat (first | (with_reducible first | exact HB.out | apply below_alloc | apply pw_below_drewN | apply below_drew1 | refine below_set ?_ G6.out) | exact HB.out)⟩
    rw [if_neg hb1] at hT
    have bb1 : (b.f0 == 1) = false := beq_eq_false_iff_ne.2 hb1
    clear hb1
    by_cases ha2 : a.f0 = 2
    · rw [if_pos ha2] at hT
      have ba2 : (a.f0 == 2) = true := beq_iff_eq.2 ha2
      clear ha2
      subst hT
      go_enter Try.func114, Try.ntmps114
      go_wp2_with (((with_reducible refine gate_dst (N := 6) rfl ?_); refine box_event ?hg (N := 6) ?hd (cs := #[.int .i64 0, .int .i64 0, .slice none 0 0]) (t := 105) ?hr ?_; (case hd => rfl); (case hg => rfl); (case hr => first | (go_simp; done) | (go_simp; rfl)); intro g6 hg v1 hbox hb; have G6 := Aside0.mk ((by rw [hg]; exact (below_size (by repeat (first | (with_reducible first | exact HB.out | apply below_alloc | apply pw_below_drewN | apply below_drew1) | exact HB.out)))) : w.heap.size ≤ g6); have n0_ := Aside0.mk (below_step (by repeat (first | (with_reducible first | exact HB.out | apply below_alloc | apply pw_below_drewN | apply below_drew1) | exact HB.out)) hb); clear HB; have HB := n0_; clear n0_; have BK6 := Aside0.mk hbox; clear hb hbox hg; have hhca0_v : v1.cell? ad = some (.int .i64 a.f0) := (Below.cell (show Below w.heap.size w v1 from by repeat (first | (with_reducible first | exact HB.out | apply below_alloc | apply pw_below_drewN | apply below_drew1) | exact HB.out)) (World.block_lt_of_cell? w _ hca0)).trans hca0; have hhca1_v : v1.cell? ⟨ad.block, ad.off + 1, none⟩ = some (.int .i64 a.f1) := (Below.cell (show Below w.heap.size w v1 from by repeat (first | (with_reducible first | exact HB.out | apply below_alloc | apply pw_below_drewN | apply below_drew1) | exact HB.out)) (World.block_lt_of_cell? w _ hca1)).trans hca1; have hhca2_v : v1.cell? ⟨ad.block, ad.off + 2, none⟩ = some (.slice Aa a.f2.length ca) := (Below.cell (show Below w.heap.size w v1 from by repeat (first | (with_reducible first | exact HB.out | apply below_alloc | apply pw_below_drewN | apply below_drew1) | exact HB.out)) (World.block_lt_of_cell? w _ hca2)).trans hca2; have hhcb0_v : (v1.alloc (.cells #[.int .i64 a.f0, .int .i64 a.f1, .slice Aa a.f2.length ca] 105 (0, 0))).cell? ⟨ad.block, ad.off + 3, none⟩ = some (.int .i64 b.f0) := (Below.cell (show Below w.heap.size w (v1.alloc (.cells #[.int .i64 a.f0, .int .i64 a.f1, .slice Aa a.f2.length ca] 105 (0, 0))) from by repeat (first | (with_reducible first | exact HB.out | apply below_alloc | apply pw_below_drewN | apply below_drew1) | exact HB.out)) (World.block_lt_of_cell? w _ hcb0)).trans hcb0; have hhcb1_v : (v1.alloc (.cells #[.int .i64 a.f0, .int .i64 a.f1, .slice Aa a.f2.length ca] 105 (0, 0))).cell? ⟨ad.block, ad.off + 3 + 1, none⟩ = some (.int .i64 b.f1) := (Below.cell (show Below w.heap.size w (v1.alloc (.cells #[.int .i64 a.f0, .int .i64 a.f1, .slice Aa a.f2.length ca] 105 (0, 0))) from by repeat (first | (with_reducible first | exact HB.out | apply below_alloc | apply pw_below_drewN | apply below_drew1) | exact HB.out)) (World.block_lt_of_cell? w _ hcb1)).trans hcb1; have hhcb2_v : (v1.alloc (.cells #[.int .i64 a.f0, .int .i64 a.f1, .slice Aa a.f2.length ca] 105 (0, 0))).cell? ⟨ad.block, ad.off + 3 + 2, none⟩ = some (.slice Ab b.f2.length cb) := (Below.cell (show Below w.heap.size w (v1.alloc (.cells #[.int .i64 a.f0, .int .i64 a.f1, .slice Aa a.f2.length ca] 105 (0, 0))) from by repeat (first | (with_reducible first | exact HB.out | apply below_alloc | apply pw_below_drewN | apply below_drew1) | exact HB.out)) (World.block_lt_of_cell? w _ hcb2)).trans hcb2; have hz6_0 : ((v1.alloc (.cells #[.int .i64 a.f0, .int .i64 a.f1, .slice Aa a.f2.length ca] 105 (0, 0))).alloc (.cells #[.int .i64 b.f0, .int .i64 b.f1, .slice Ab b.f2.length cb] 105 (0, 0))).cell? ⟨g6, 0, none⟩ = some (.int .i64 0) := (blk_cell (blk_alloc (blk_alloc BK6.out _) _) 0).trans rfl; have hf6_0 : ((v1.alloc (.cells #[.int .i64 a.f0, .int .i64 a.f1, .slice Aa a.f2.length ca] 105 (0, 0))).alloc (.cells #[.int .i64 b.f0, .int .i64 b.f1, .slice Ab b.f2.length cb] 105 (0, 0))).frozen? ⟨g6, 0, none⟩ = false := blk_frozen (blk_alloc (blk_alloc BK6.out _) _) 0; have hz6_1 : ((v1.alloc (.cells #[.int .i64 a.f0, .int .i64 a.f1, .slice Aa a.f2.length ca] 105 (0, 0))).alloc (.cells #[.int .i64 b.f0, .int .i64 b.f1, .slice Ab b.f2.length cb] 105 (0, 0))).cell? ⟨g6, 1, none⟩ = some (.int .i64 0) := (blk_cell (blk_alloc (blk_alloc BK6.out _) _) 1).trans rfl; have hf6_1 : ((v1.alloc (.cells #[.int .i64 a.f0, .int .i64 a.f1, .slice Aa a.f2.length ca] 105 (0, 0))).alloc (.cells #[.int .i64 b.f0, .int .i64 b.f1, .slice Ab b.f2.length cb] 105 (0, 0))).frozen? ⟨g6, 1, none⟩ = false := blk_frozen (blk_alloc (blk_alloc BK6.out _) _) 1; have hz6_2 : ((v1.alloc (.cells #[.int .i64 a.f0, .int .i64 a.f1, .slice Aa a.f2.length ca] 105 (0, 0))).alloc (.cells #[.int .i64 b.f0, .int .i64 b.f1, .slice Ab b.f2.length cb] 105 (0, 0))).cell? ⟨g6, 2, none⟩ = some (.slice none 0 0) := (blk_cell (blk_alloc (blk_alloc BK6.out _) _) 2).trans rfl; have hf6_2 : ((v1.alloc (.cells #[.int .i64 a.f0, .int .i64 a.f1, .slice Aa a.f2.length ca] 105 (0, 0))).alloc (.cells #[.int .i64 b.f0, .int .i64 b.f1, .slice Ab b.f2.length cb] 105 (0, 0))).frozen? ⟨g6, 2, none⟩ = false := blk_frozen (blk_alloc (blk_alloc BK6.out _) _) 2; have hza : ((v1.alloc (.cells #[.int .i64 a.f0, .int .i64 a.f1, .slice Aa a.f2.length ca] 105 (0, 0))).alloc (.cells #[.int .i64 b.f0, .int .i64 b.f1, .slice Ab b.f2.length cb] 105 (0, 0))).heap[v1.heap.size]? = some (.cells #[.int .i64 a.f0, .int .i64 a.f1, .slice Aa a.f2.length ca] 105 (0, 0)) := blk_alloc (heap_alloc_new v1 _) _; have hzb : ((v1.alloc (.cells #[.int .i64 a.f0, .int .i64 a.f1, .slice Aa a.f2.length ca] 105 (0, 0))).alloc (.cells #[.int .i64 b.f0, .int .i64 b.f1, .slice Ab b.f2.length cb] 105 (0, 0))).heap[v1.heap.size + 1]? = some (.cells #[.int .i64 b.f0, .int .i64 b.f1, .slice Ab b.f2.length cb] 105 (0, 0)) := (by have h_ := heap_alloc_new (v1.alloc (.cells #[.int .i64 a.f0, .int .i64 a.f1, .slice Aa a.f2.length ca] 105 (0, 0))) (.cells #[.int .i64 b.f0, .int .i64 b.f1, .slice Ab b.f2.length cb] 105 (0, 0)); rw [show (v1.alloc (.cells #[.int .i64 a.f0, .int .i64 a.f1, .slice Aa a.f2.length ca] 105 (0, 0))).heap.size = v1.heap.size + 1 from by simp] at h_; exact h_); have ha_0 : ((v1.alloc (.cells #[.int .i64 a.f0, .int .i64 a.f1, .slice Aa a.f2.length ca] 105 (0, 0))).alloc (.cells #[.int .i64 b.f0, .int .i64 b.f1, .slice Ab b.f2.length cb] 105 (0, 0))).cell? ⟨v1.heap.size, 0, none⟩ = some (.int .i64 a.f0) := (blk_cell hza 0).trans rfl; have hb_0 : ((v1.alloc (.cells #[.int .i64 a.f0, .int .i64 a.f1, .slice Aa a.f2.length ca] 105 (0, 0))).alloc (.cells #[.int .i64 b.f0, .int .i64 b.f1, .slice Ab b.f2.length cb] 105 (0, 0))).cell? ⟨v1.heap.size + 1, 0, none⟩ = some (.int .i64 b.f0) := (blk_cell hzb 0).trans rfl; have ha_1 : ((v1.alloc (.cells #[.int .i64 a.f0, .int .i64 a.f1, .slice Aa a.f2.length ca] 105 (0, 0))).alloc (.cells #[.int .i64 b.f0, .int .i64 b.f1, .slice Ab b.f2.length cb] 105 (0, 0))).cell? ⟨v1.heap.size, 1, none⟩ = some (.int .i64 a.f1) := (blk_cell hza 1).trans rfl; have hb_1 : ((v1.alloc (.cells #[.int .i64 a.f0, .int .i64 a.f1, .slice Aa a.f2.length ca] 105 (0, 0))).alloc (.cells #[.int .i64 b.f0, .int .i64 b.f1, .slice Ab b.f2.length cb] 105 (0, 0))).cell? ⟨v1.heap.size + 1, 1, none⟩ = some (.int .i64 b.f1) := (blk_cell hzb 1).trans rfl; have ha_2 : ((v1.alloc (.cells #[.int .i64 a.f0, .int .i64 a.f1, .slice Aa a.f2.length ca] 105 (0, 0))).alloc (.cells #[.int .i64 b.f0, .int .i64 b.f1, .slice Ab b.f2.length cb] 105 (0, 0))).cell? ⟨v1.heap.size, 2, none⟩ = some (.slice Aa a.f2.length ca) := (blk_cell hza 2).trans rfl; have hb_2 : ((v1.alloc (.cells #[.int .i64 a.f0, .int .i64 a.f1, .slice Aa a.f2.length ca] 105 (0, 0))).alloc (.cells #[.int .i64 b.f0, .int .i64 b.f1, .slice Ab b.f2.length cb] 105 (0, 0))).cell? ⟨v1.heap.size + 1, 2, none⟩ = some (.slice Ab b.f2.length cb) := (blk_cell hzb 2).trans rfl; have HZA := Aside0.mk hza; have HZB := Aside0.mk hzb; clear hza hzb))
      refine bodyPost_ret (results_cell_row rfl _ _ g6 105 #[.int .i64 b.f0, .int .i64 b.f1, .slice Ab b.f2.length cb] (0, 0) _ rfl (by (with_reducible repeat (first | refine blk_drewN ?_ _ | refine blk_drew ?_ | refine blk_alloc ?_ _)); refine blk_put (cs := #[.int .i64 b.f0, .int .i64 b.f1, .slice none 0 0]) ?_ 2 _ rfl; (with_reducible repeat (first | refine blk_drewN ?_ _ | refine blk_drew ?_ | refine blk_alloc ?_ _)); refine blk_put (cs := #[.int .i64 b.f0, .int .i64 0, .slice none 0 0]) ?_ 1 _ rfl; (with_reducible repeat (first | refine blk_drewN ?_ _ | refine blk_drew ?_ | refine blk_alloc ?_ _)); refine blk_put (cs := #[.int .i64 0, .int .i64 0, .slice none 0 0]) ?_ 0 _ rfl; (with_reducible repeat (first | refine blk_drewN ?_ _ | refine blk_drew ?_ | refine blk_alloc ?_ _)); exact BK6.out) Try.underlying105 rfl (by kernel_rfl)) rfl ?_
      exact ⟨.slice Ab b.f2.length cb, by first | rfl | (simp; done) | (simp [*]; done), Kd.R_below HMb.out (by repeat (first | (with_reducible first | exact HB.out | apply below_alloc | apply pw_below_drewN | apply below_drew1 | refine below_set ?_ G6.out) | exact HB.out)), by repeat (first | (with_reducible first | exact HB.out | apply below_alloc | apply pw_below_drewN | apply below_drew1 | refine below_set ?_ G6.out) | exact HB.out)⟩
    rw [if_neg ha2] at hT
    have ba2 : (a.f0 == 2) = false := beq_eq_false_iff_ne.2 ha2
    clear ha2
    by_cases hb2 : b.f0 = 2
    · rw [if_pos hb2] at hT
      have bb2 : (b.f0 == 2) = true := beq_iff_eq.2 hb2
      clear hb2
      subst hT
      go_enter Try.func114, Try.ntmps114
      go_wp2_with (((with_reducible refine gate_dst (N := 6) rfl ?_); refine box_event ?hg (N := 6) ?hd (cs := #[.int .i64 0, .int .i64 0, .slice none 0 0]) (t := 105) ?hr ?_; (case hd => rfl); (case hg => rfl); (case hr => first | (go_simp; done) | (go_simp; rfl)); intro g6 hg v1 hbox hb; have G6 := Aside0.mk ((by rw [hg]; exact (below_size (by repeat (first | (with_reducible first | exact HB.out | apply below_alloc | apply pw_below_drewN | apply below_drew1) | exact HB.out)))) : w.heap.size ≤ g6); have n0_ := Aside0.mk (below_step (by repeat (first | (with_reducible first | exact HB.out | apply below_alloc | apply pw_below_drewN | apply below_drew1) | exact HB.out)) hb); clear HB; have HB := n0_; clear n0_; have BK6 := Aside0.mk hbox; clear hb hbox hg; have hhca0_v : v1.cell? ad = some (.int .i64 a.f0) := (Below.cell (show Below w.heap.size w v1 from by repeat (first | (with_reducible first | exact HB.out | apply below_alloc | apply pw_below_drewN | apply below_drew1) | exact HB.out)) (World.block_lt_of_cell? w _ hca0)).trans hca0; have hhca1_v : v1.cell? ⟨ad.block, ad.off + 1, none⟩ = some (.int .i64 a.f1) := (Below.cell (show Below w.heap.size w v1 from by repeat (first | (with_reducible first | exact HB.out | apply below_alloc | apply pw_below_drewN | apply below_drew1) | exact HB.out)) (World.block_lt_of_cell? w _ hca1)).trans hca1; have hhca2_v : v1.cell? ⟨ad.block, ad.off + 2, none⟩ = some (.slice Aa a.f2.length ca) := (Below.cell (show Below w.heap.size w v1 from by repeat (first | (with_reducible first | exact HB.out | apply below_alloc | apply pw_below_drewN | apply below_drew1) | exact HB.out)) (World.block_lt_of_cell? w _ hca2)).trans hca2; have hhcb0_v : (v1.alloc (.cells #[.int .i64 a.f0, .int .i64 a.f1, .slice Aa a.f2.length ca] 105 (0, 0))).cell? ⟨ad.block, ad.off + 3, none⟩ = some (.int .i64 b.f0) := (Below.cell (show Below w.heap.size w (v1.alloc (.cells #[.int .i64 a.f0, .int .i64 a.f1, .slice Aa a.f2.length ca] 105 (0, 0))) from by repeat (first | (with_reducible first | exact HB.out | apply below_alloc | apply pw_below_drewN | apply below_drew1) | exact HB.out)) (World.block_lt_of_cell? w _ hcb0)).trans hcb0; have hhcb1_v : (v1.alloc (.cells #[.int .i64 a.f0, .int .i64 a.f1, .slice Aa a.f2.length ca] 105 (0, 0))).cell? ⟨ad.block, ad.off + 3 + 1, none⟩ = some (.int .i64 b.f1) := (Below.cell (show Below w.heap.size w (v1.alloc (.cells #[.int .i64 a.f0, .int .i64 a.f1, .slice Aa a.f2.length ca] 105 (0, 0))) from by repeat (first | (with_reducible first | exact HB.out | apply below_alloc | apply pw_below_drewN | apply below_drew1) | exact HB.out)) (World.block_lt_of_cell? w _ hcb1)).trans hcb1; have hhcb2_v : (v1.alloc (.cells #[.int .i64 a.f0, .int .i64 a.f1, .slice Aa a.f2.length ca] 105 (0, 0))).cell? ⟨ad.block, ad.off + 3 + 2, none⟩ = some (.slice Ab b.f2.length cb) := (Below.cell (show Below w.heap.size w (v1.alloc (.cells #[.int .i64 a.f0, .int .i64 a.f1, .slice Aa a.f2.length ca] 105 (0, 0))) from by repeat (first | (with_reducible first | exact HB.out | apply below_alloc | apply pw_below_drewN | apply below_drew1) | exact HB.out)) (World.block_lt_of_cell? w _ hcb2)).trans hcb2; have hz6_0 : ((v1.alloc (.cells #[.int .i64 a.f0, .int .i64 a.f1, .slice Aa a.f2.length ca] 105 (0, 0))).alloc (.cells #[.int .i64 b.f0, .int .i64 b.f1, .slice Ab b.f2.length cb] 105 (0, 0))).cell? ⟨g6, 0, none⟩ = some (.int .i64 0) := (blk_cell (blk_alloc (blk_alloc BK6.out _) _) 0).trans rfl; have hf6_0 : ((v1.alloc (.cells #[.int .i64 a.f0, .int .i64 a.f1, .slice Aa a.f2.length ca] 105 (0, 0))).alloc (.cells #[.int .i64 b.f0, .int .i64 b.f1, .slice Ab b.f2.length cb] 105 (0, 0))).frozen? ⟨g6, 0, none⟩ = false := blk_frozen (blk_alloc (blk_alloc BK6.out _) _) 0; have hz6_1 : ((v1.alloc (.cells #[.int .i64 a.f0, .int .i64 a.f1, .slice Aa a.f2.length ca] 105 (0, 0))).alloc (.cells #[.int .i64 b.f0, .int .i64 b.f1, .slice Ab b.f2.length cb] 105 (0, 0))).cell? ⟨g6, 1, none⟩ = some (.int .i64 0) := (blk_cell (blk_alloc (blk_alloc BK6.out _) _) 1).trans rfl; have hf6_1 : ((v1.alloc (.cells #[.int .i64 a.f0, .int .i64 a.f1, .slice Aa a.f2.length ca] 105 (0, 0))).alloc (.cells #[.int .i64 b.f0, .int .i64 b.f1, .slice Ab b.f2.length cb] 105 (0, 0))).frozen? ⟨g6, 1, none⟩ = false := blk_frozen (blk_alloc (blk_alloc BK6.out _) _) 1; have hz6_2 : ((v1.alloc (.cells #[.int .i64 a.f0, .int .i64 a.f1, .slice Aa a.f2.length ca] 105 (0, 0))).alloc (.cells #[.int .i64 b.f0, .int .i64 b.f1, .slice Ab b.f2.length cb] 105 (0, 0))).cell? ⟨g6, 2, none⟩ = some (.slice none 0 0) := (blk_cell (blk_alloc (blk_alloc BK6.out _) _) 2).trans rfl; have hf6_2 : ((v1.alloc (.cells #[.int .i64 a.f0, .int .i64 a.f1, .slice Aa a.f2.length ca] 105 (0, 0))).alloc (.cells #[.int .i64 b.f0, .int .i64 b.f1, .slice Ab b.f2.length cb] 105 (0, 0))).frozen? ⟨g6, 2, none⟩ = false := blk_frozen (blk_alloc (blk_alloc BK6.out _) _) 2; have hza : ((v1.alloc (.cells #[.int .i64 a.f0, .int .i64 a.f1, .slice Aa a.f2.length ca] 105 (0, 0))).alloc (.cells #[.int .i64 b.f0, .int .i64 b.f1, .slice Ab b.f2.length cb] 105 (0, 0))).heap[v1.heap.size]? = some (.cells #[.int .i64 a.f0, .int .i64 a.f1, .slice Aa a.f2.length ca] 105 (0, 0)) := blk_alloc (heap_alloc_new v1 _) _; have hzb : ((v1.alloc (.cells #[.int .i64 a.f0, .int .i64 a.f1, .slice Aa a.f2.length ca] 105 (0, 0))).alloc (.cells #[.int .i64 b.f0, .int .i64 b.f1, .slice Ab b.f2.length cb] 105 (0, 0))).heap[v1.heap.size + 1]? = some (.cells #[.int .i64 b.f0, .int .i64 b.f1, .slice Ab b.f2.length cb] 105 (0, 0)) := (by have h_ := heap_alloc_new (v1.alloc (.cells #[.int .i64 a.f0, .int .i64 a.f1, .slice Aa a.f2.length ca] 105 (0, 0))) (.cells #[.int .i64 b.f0, .int .i64 b.f1, .slice Ab b.f2.length cb] 105 (0, 0)); rw [show (v1.alloc (.cells #[.int .i64 a.f0, .int .i64 a.f1, .slice Aa a.f2.length ca] 105 (0, 0))).heap.size = v1.heap.size + 1 from by simp] at h_; exact h_); have ha_0 : ((v1.alloc (.cells #[.int .i64 a.f0, .int .i64 a.f1, .slice Aa a.f2.length ca] 105 (0, 0))).alloc (.cells #[.int .i64 b.f0, .int .i64 b.f1, .slice Ab b.f2.length cb] 105 (0, 0))).cell? ⟨v1.heap.size, 0, none⟩ = some (.int .i64 a.f0) := (blk_cell hza 0).trans rfl; have hb_0 : ((v1.alloc (.cells #[.int .i64 a.f0, .int .i64 a.f1, .slice Aa a.f2.length ca] 105 (0, 0))).alloc (.cells #[.int .i64 b.f0, .int .i64 b.f1, .slice Ab b.f2.length cb] 105 (0, 0))).cell? ⟨v1.heap.size + 1, 0, none⟩ = some (.int .i64 b.f0) := (blk_cell hzb 0).trans rfl; have ha_1 : ((v1.alloc (.cells #[.int .i64 a.f0, .int .i64 a.f1, .slice Aa a.f2.length ca] 105 (0, 0))).alloc (.cells #[.int .i64 b.f0, .int .i64 b.f1, .slice Ab b.f2.length cb] 105 (0, 0))).cell? ⟨v1.heap.size, 1, none⟩ = some (.int .i64 a.f1) := (blk_cell hza 1).trans rfl; have hb_1 : ((v1.alloc (.cells #[.int .i64 a.f0, .int .i64 a.f1, .slice Aa a.f2.length ca] 105 (0, 0))).alloc (.cells #[.int .i64 b.f0, .int .i64 b.f1, .slice Ab b.f2.length cb] 105 (0, 0))).cell? ⟨v1.heap.size + 1, 1, none⟩ = some (.int .i64 b.f1) := (blk_cell hzb 1).trans rfl; have ha_2 : ((v1.alloc (.cells #[.int .i64 a.f0, .int .i64 a.f1, .slice Aa a.f2.length ca] 105 (0, 0))).alloc (.cells #[.int .i64 b.f0, .int .i64 b.f1, .slice Ab b.f2.length cb] 105 (0, 0))).cell? ⟨v1.heap.size, 2, none⟩ = some (.slice Aa a.f2.length ca) := (blk_cell hza 2).trans rfl; have hb_2 : ((v1.alloc (.cells #[.int .i64 a.f0, .int .i64 a.f1, .slice Aa a.f2.length ca] 105 (0, 0))).alloc (.cells #[.int .i64 b.f0, .int .i64 b.f1, .slice Ab b.f2.length cb] 105 (0, 0))).cell? ⟨v1.heap.size + 1, 2, none⟩ = some (.slice Ab b.f2.length cb) := (blk_cell hzb 2).trans rfl; have HZA := Aside0.mk hza; have HZB := Aside0.mk hzb; clear hza hzb))
      refine bodyPost_ret (results_cell_row rfl _ _ g6 105 #[.int .i64 a.f0, .int .i64 a.f1, .slice Aa a.f2.length ca] (0, 0) _ rfl (by (with_reducible repeat (first | refine blk_drewN ?_ _ | refine blk_drew ?_ | refine blk_alloc ?_ _)); refine blk_put (cs := #[.int .i64 a.f0, .int .i64 a.f1, .slice none 0 0]) ?_ 2 _ rfl; (with_reducible repeat (first | refine blk_drewN ?_ _ | refine blk_drew ?_ | refine blk_alloc ?_ _)); refine blk_put (cs := #[.int .i64 a.f0, .int .i64 0, .slice none 0 0]) ?_ 1 _ rfl; (with_reducible repeat (first | refine blk_drewN ?_ _ | refine blk_drew ?_ | refine blk_alloc ?_ _)); refine blk_put (cs := #[.int .i64 0, .int .i64 0, .slice none 0 0]) ?_ 0 _ rfl; (with_reducible repeat (first | refine blk_drewN ?_ _ | refine blk_drew ?_ | refine blk_alloc ?_ _)); exact BK6.out) Try.underlying105 rfl (by kernel_rfl)) rfl ?_
      exact ⟨.slice Aa a.f2.length ca, by first | rfl | (simp; done) | (simp [*]; done), Kd.R_below HMa.out (by repeat (first | (with_reducible first | exact HB.out | apply below_alloc | apply pw_below_drewN | apply below_drew1 | refine below_set ?_ G6.out) | exact HB.out)), by repeat (first | (with_reducible first | exact HB.out | apply below_alloc | apply pw_below_drewN | apply below_drew1 | refine below_set ?_ G6.out) | exact HB.out)⟩
    rw [if_neg hb2] at hT
    have bb2 : (b.f0 == 2) = false := beq_eq_false_iff_ne.2 hb2
    clear hb2
    subst hT
    go_enter Try.func114, Try.ntmps114
    go_wp2_with (((with_reducible refine gate_dst (N := 6) rfl ?_); refine box_event ?hg (N := 6) ?hd (cs := #[.int .i64 0, .int .i64 0, .slice none 0 0]) (t := 105) ?hr ?_; (case hd => rfl); (case hg => rfl); (case hr => first | (go_simp; done) | (go_simp; rfl)); intro g6 hg v1 hbox hb; have G6 := Aside0.mk ((by rw [hg]; exact (below_size (by repeat (first | (with_reducible first | exact HB.out | apply below_alloc | apply pw_below_drewN | apply below_drew1) | exact HB.out)))) : w.heap.size ≤ g6); have n0_ := Aside0.mk (below_step (by repeat (first | (with_reducible first | exact HB.out | apply below_alloc | apply pw_below_drewN | apply below_drew1) | exact HB.out)) hb); clear HB; have HB := n0_; clear n0_; have BK6 := Aside0.mk hbox; clear hb hbox hg; have hhca0_v : v1.cell? ad = some (.int .i64 a.f0) := (Below.cell (show Below w.heap.size w v1 from by repeat (first | (with_reducible first | exact HB.out | apply below_alloc | apply pw_below_drewN | apply below_drew1) | exact HB.out)) (World.block_lt_of_cell? w _ hca0)).trans hca0; have hhca1_v : v1.cell? ⟨ad.block, ad.off + 1, none⟩ = some (.int .i64 a.f1) := (Below.cell (show Below w.heap.size w v1 from by repeat (first | (with_reducible first | exact HB.out | apply below_alloc | apply pw_below_drewN | apply below_drew1) | exact HB.out)) (World.block_lt_of_cell? w _ hca1)).trans hca1; have hhca2_v : v1.cell? ⟨ad.block, ad.off + 2, none⟩ = some (.slice Aa a.f2.length ca) := (Below.cell (show Below w.heap.size w v1 from by repeat (first | (with_reducible first | exact HB.out | apply below_alloc | apply pw_below_drewN | apply below_drew1) | exact HB.out)) (World.block_lt_of_cell? w _ hca2)).trans hca2; have hhcb0_v : (v1.alloc (.cells #[.int .i64 a.f0, .int .i64 a.f1, .slice Aa a.f2.length ca] 105 (0, 0))).cell? ⟨ad.block, ad.off + 3, none⟩ = some (.int .i64 b.f0) := (Below.cell (show Below w.heap.size w (v1.alloc (.cells #[.int .i64 a.f0, .int .i64 a.f1, .slice Aa a.f2.length ca] 105 (0, 0))) from by repeat (first | (with_reducible first | exact HB.out | apply below_alloc | apply pw_below_drewN | apply below_drew1) | exact HB.out)) (World.block_lt_of_cell? w _ hcb0)).trans hcb0; have hhcb1_v : (v1.alloc (.cells #[.int .i64 a.f0, .int .i64 a.f1, .slice Aa a.f2.length ca] 105 (0, 0))).cell? ⟨ad.block, ad.off + 3 + 1, none⟩ = some (.int .i64 b.f1) := (Below.cell (show Below w.heap.size w (v1.alloc (.cells #[.int .i64 a.f0, .int .i64 a.f1, .slice Aa a.f2.length ca] 105 (0, 0))) from by repeat (first | (with_reducible first | exact HB.out | apply below_alloc | apply pw_below_drewN | apply below_drew1) | exact HB.out)) (World.block_lt_of_cell? w _ hcb1)).trans hcb1; have hhcb2_v : (v1.alloc (.cells #[.int .i64 a.f0, .int .i64 a.f1, .slice Aa a.f2.length ca] 105 (0, 0))).cell? ⟨ad.block, ad.off + 3 + 2, none⟩ = some (.slice Ab b.f2.length cb) := (Below.cell (show Below w.heap.size w (v1.alloc (.cells #[.int .i64 a.f0, .int .i64 a.f1, .slice Aa a.f2.length ca] 105 (0, 0))) from by repeat (first | (with_reducible first | exact HB.out | apply below_alloc | apply pw_below_drewN | apply below_drew1) | exact HB.out)) (World.block_lt_of_cell? w _ hcb2)).trans hcb2; have hz6_0 : ((v1.alloc (.cells #[.int .i64 a.f0, .int .i64 a.f1, .slice Aa a.f2.length ca] 105 (0, 0))).alloc (.cells #[.int .i64 b.f0, .int .i64 b.f1, .slice Ab b.f2.length cb] 105 (0, 0))).cell? ⟨g6, 0, none⟩ = some (.int .i64 0) := (blk_cell (blk_alloc (blk_alloc BK6.out _) _) 0).trans rfl; have hf6_0 : ((v1.alloc (.cells #[.int .i64 a.f0, .int .i64 a.f1, .slice Aa a.f2.length ca] 105 (0, 0))).alloc (.cells #[.int .i64 b.f0, .int .i64 b.f1, .slice Ab b.f2.length cb] 105 (0, 0))).frozen? ⟨g6, 0, none⟩ = false := blk_frozen (blk_alloc (blk_alloc BK6.out _) _) 0; have hz6_1 : ((v1.alloc (.cells #[.int .i64 a.f0, .int .i64 a.f1, .slice Aa a.f2.length ca] 105 (0, 0))).alloc (.cells #[.int .i64 b.f0, .int .i64 b.f1, .slice Ab b.f2.length cb] 105 (0, 0))).cell? ⟨g6, 1, none⟩ = some (.int .i64 0) := (blk_cell (blk_alloc (blk_alloc BK6.out _) _) 1).trans rfl; have hf6_1 : ((v1.alloc (.cells #[.int .i64 a.f0, .int .i64 a.f1, .slice Aa a.f2.length ca] 105 (0, 0))).alloc (.cells #[.int .i64 b.f0, .int .i64 b.f1, .slice Ab b.f2.length cb] 105 (0, 0))).frozen? ⟨g6, 1, none⟩ = false := blk_frozen (blk_alloc (blk_alloc BK6.out _) _) 1; have hz6_2 : ((v1.alloc (.cells #[.int .i64 a.f0, .int .i64 a.f1, .slice Aa a.f2.length ca] 105 (0, 0))).alloc (.cells #[.int .i64 b.f0, .int .i64 b.f1, .slice Ab b.f2.length cb] 105 (0, 0))).cell? ⟨g6, 2, none⟩ = some (.slice none 0 0) := (blk_cell (blk_alloc (blk_alloc BK6.out _) _) 2).trans rfl; have hf6_2 : ((v1.alloc (.cells #[.int .i64 a.f0, .int .i64 a.f1, .slice Aa a.f2.length ca] 105 (0, 0))).alloc (.cells #[.int .i64 b.f0, .int .i64 b.f1, .slice Ab b.f2.length cb] 105 (0, 0))).frozen? ⟨g6, 2, none⟩ = false := blk_frozen (blk_alloc (blk_alloc BK6.out _) _) 2; have hza : ((v1.alloc (.cells #[.int .i64 a.f0, .int .i64 a.f1, .slice Aa a.f2.length ca] 105 (0, 0))).alloc (.cells #[.int .i64 b.f0, .int .i64 b.f1, .slice Ab b.f2.length cb] 105 (0, 0))).heap[v1.heap.size]? = some (.cells #[.int .i64 a.f0, .int .i64 a.f1, .slice Aa a.f2.length ca] 105 (0, 0)) := blk_alloc (heap_alloc_new v1 _) _; have hzb : ((v1.alloc (.cells #[.int .i64 a.f0, .int .i64 a.f1, .slice Aa a.f2.length ca] 105 (0, 0))).alloc (.cells #[.int .i64 b.f0, .int .i64 b.f1, .slice Ab b.f2.length cb] 105 (0, 0))).heap[v1.heap.size + 1]? = some (.cells #[.int .i64 b.f0, .int .i64 b.f1, .slice Ab b.f2.length cb] 105 (0, 0)) := (by have h_ := heap_alloc_new (v1.alloc (.cells #[.int .i64 a.f0, .int .i64 a.f1, .slice Aa a.f2.length ca] 105 (0, 0))) (.cells #[.int .i64 b.f0, .int .i64 b.f1, .slice Ab b.f2.length cb] 105 (0, 0)); rw [show (v1.alloc (.cells #[.int .i64 a.f0, .int .i64 a.f1, .slice Aa a.f2.length ca] 105 (0, 0))).heap.size = v1.heap.size + 1 from by simp] at h_; exact h_); have ha_0 : ((v1.alloc (.cells #[.int .i64 a.f0, .int .i64 a.f1, .slice Aa a.f2.length ca] 105 (0, 0))).alloc (.cells #[.int .i64 b.f0, .int .i64 b.f1, .slice Ab b.f2.length cb] 105 (0, 0))).cell? ⟨v1.heap.size, 0, none⟩ = some (.int .i64 a.f0) := (blk_cell hza 0).trans rfl; have hb_0 : ((v1.alloc (.cells #[.int .i64 a.f0, .int .i64 a.f1, .slice Aa a.f2.length ca] 105 (0, 0))).alloc (.cells #[.int .i64 b.f0, .int .i64 b.f1, .slice Ab b.f2.length cb] 105 (0, 0))).cell? ⟨v1.heap.size + 1, 0, none⟩ = some (.int .i64 b.f0) := (blk_cell hzb 0).trans rfl; have ha_1 : ((v1.alloc (.cells #[.int .i64 a.f0, .int .i64 a.f1, .slice Aa a.f2.length ca] 105 (0, 0))).alloc (.cells #[.int .i64 b.f0, .int .i64 b.f1, .slice Ab b.f2.length cb] 105 (0, 0))).cell? ⟨v1.heap.size, 1, none⟩ = some (.int .i64 a.f1) := (blk_cell hza 1).trans rfl; have hb_1 : ((v1.alloc (.cells #[.int .i64 a.f0, .int .i64 a.f1, .slice Aa a.f2.length ca] 105 (0, 0))).alloc (.cells #[.int .i64 b.f0, .int .i64 b.f1, .slice Ab b.f2.length cb] 105 (0, 0))).cell? ⟨v1.heap.size + 1, 1, none⟩ = some (.int .i64 b.f1) := (blk_cell hzb 1).trans rfl; have ha_2 : ((v1.alloc (.cells #[.int .i64 a.f0, .int .i64 a.f1, .slice Aa a.f2.length ca] 105 (0, 0))).alloc (.cells #[.int .i64 b.f0, .int .i64 b.f1, .slice Ab b.f2.length cb] 105 (0, 0))).cell? ⟨v1.heap.size, 2, none⟩ = some (.slice Aa a.f2.length ca) := (blk_cell hza 2).trans rfl; have hb_2 : ((v1.alloc (.cells #[.int .i64 a.f0, .int .i64 a.f1, .slice Aa a.f2.length ca] 105 (0, 0))).alloc (.cells #[.int .i64 b.f0, .int .i64 b.f1, .slice Ab b.f2.length cb] 105 (0, 0))).cell? ⟨v1.heap.size + 1, 2, none⟩ = some (.slice Ab b.f2.length cb) := (blk_cell hzb 2).trans rfl; have HZA := Aside0.mk hza; have HZB := Aside0.mk hzb; clear hza hzb))
    refine bodyPost_ret (results_cell_row rfl _ _ g6 105 #[.int .i64 x, .int .i64 y, .slice (some ad) 2 cu] (0, 0) _ rfl (by (with_reducible repeat (first | refine blk_drewN ?_ _ | refine blk_drew ?_ | refine blk_alloc ?_ _)); refine blk_put (cs := #[.int .i64 x, .int .i64 y, .slice none 0 0]) ?_ 2 _ rfl; (with_reducible repeat (first | refine blk_drewN ?_ _ | refine blk_drew ?_ | refine blk_alloc ?_ _)); refine blk_put (cs := #[.int .i64 x, .int .i64 0, .slice none 0 0]) ?_ 1 _ rfl; (with_reducible repeat (first | refine blk_drewN ?_ _ | refine blk_drew ?_ | refine blk_alloc ?_ _)); refine blk_put (cs := #[.int .i64 0, .int .i64 0, .slice none 0 0]) ?_ 0 _ rfl; (with_reducible repeat (first | refine blk_drewN ?_ _ | refine blk_drew ?_ | refine blk_alloc ?_ _)); exact BK6.out) Try.underlying105 rfl (by kernel_rfl)) rfl ?_
    exact ⟨.slice (some ad) 2 cu, by first | rfl | (simp; done) | (simp [*]; done), Kd.R_below HO.out (by repeat (first | (with_reducible first | exact HB.out | apply below_alloc | apply pw_below_drewN | apply below_drew1 | refine below_set ?_ G6.out) | exact HB.out)), by repeat (first | (with_reducible first | exact HB.out | apply below_alloc | apply pw_below_drewN | apply below_drew1 | refine below_set ?_ G6.out) | exact HB.out)⟩
  rw [if_neg hx5] at hT
  have bx5 : (x == 5) = false := beq_eq_false_iff_ne.2 hx5
  clear hx5
  by_cases hx6 : x = 6
  · rw [if_pos hx6] at hT
    have bx6 : (x == 6) = true := beq_iff_eq.2 hx6
    clear hx6
    rcases ts with _ | ⟨a, _ | ⟨b, _ | ⟨c, l⟩⟩⟩
    · cases hT
    · cases hT
    rotate_left
    · cases hT
    simp only at hT
    obtain ⟨ad, cu, eu, hlc, hel⟩ := at_RM HO.out (by simp)
    replace eu : u = .slice (some ad) 2 cu := eu
    subst eu
    obtain ⟨va, hca0, hca1, hca2, hMa⟩ := hel 0 (by decide) (by simp)
    obtain ⟨vb, hcb0, hcb1, hcb2, hMb⟩ := hel 1 (by decide) (by simp)
    have ea0 : ad.add (Int.toNat 0 * 3) = ad := by unfold Addr.add; simp
    rw [ea0] at hca0 hca1 hca2
    have hMa : Kd.R k105 105 w w0.heap.size P va a.f2 := hMa
    obtain ⟨Aa, ca, rfl, hla, hCa⟩ := Kd.R_reads hMa
    replace hca0 : w.cell? ad = some (.int .i64 a.f0) := hca0
    replace hca1 : w.cell? ⟨ad.block, ad.off + 1, none⟩ = some (.int .i64 a.f1) := hca1
    have eb0 : ad.add (Int.toNat 1 * 3) = ⟨ad.block, ad.off + 3, none⟩ := by unfold Addr.add; simp
    rw [eb0] at hcb0 hcb1 hcb2
    have hMb : Kd.R k105 105 w w0.heap.size P vb b.f2 := hMb
    obtain ⟨Ab, cb, rfl, hlb, hCb⟩ := Kd.R_reads hMb
    replace hcb0 : w.cell? ⟨ad.block, ad.off + 3, none⟩ = some (.int .i64 b.f0) := hcb0
    replace hcb1 : w.cell? ⟨ad.block, ad.off + 3 + 1, none⟩ = some (.int .i64 b.f1) := hcb1
    replace hcb2 : w.cell? ⟨ad.block, ad.off + 3 + 2, none⟩ = some (.slice Ab b.f2.length cb) := hcb2
    have HMa := Aside0.mk hMa
    have HCa := Aside0.mk hCa
    have HLa := Aside0.mk hla
    have HMb := Aside0.mk hMb
    have HCb := Aside0.mk hCb
    have HLb := Aside0.mk hlb
    clear hel hlc ea0 hMa hCa hla eb0 hMb hCb hlb
    by_cases ha1 : a.f0 = 1
    · rw [if_pos ha1] at hT
      have ba1 : (a.f0 == 1) = true := beq_iff_eq.2 ha1
      clear ha1
      obtain rfl := Option.some.inj hT
      go_enter Try.func114, Try.ntmps114
      go_wp2_with (((with_reducible refine gate_dst (N := 6) rfl ?_); refine box_event ?hg (N := 6) ?hd (cs := #[.int .i64 0, .int .i64 0, .slice none 0 0]) (t := 105) ?hr ?_; (case hd => rfl); (case hg => rfl); (case hr => first | (go_simp; done) | (go_simp; rfl)); intro g6 hg v1 hbox hb; have G6 := Aside0.mk ((by rw [hg]; exact (below_size (by repeat (first | (with_reducible first | exact HB.out | apply below_alloc | apply pw_below_drewN | apply below_drew1) | exact HB.out)))) : w.heap.size ≤ g6); have n0_ := Aside0.mk (below_step (by repeat (first | (with_reducible first | exact HB.out | apply below_alloc | apply pw_below_drewN | apply below_drew1) | exact HB.out)) hb); clear HB; have HB := n0_; clear n0_; have BK6 := Aside0.mk hbox; clear hb hbox hg; have hhca0_v : v1.cell? ad = some (.int .i64 a.f0) := (Below.cell (show Below w.heap.size w v1 from by repeat (first | (with_reducible first | exact HB.out | apply below_alloc | apply pw_below_drewN | apply below_drew1) | exact HB.out)) (World.block_lt_of_cell? w _ hca0)).trans hca0; have hhca1_v : v1.cell? ⟨ad.block, ad.off + 1, none⟩ = some (.int .i64 a.f1) := (Below.cell (show Below w.heap.size w v1 from by repeat (first | (with_reducible first | exact HB.out | apply below_alloc | apply pw_below_drewN | apply below_drew1) | exact HB.out)) (World.block_lt_of_cell? w _ hca1)).trans hca1; have hhca2_v : v1.cell? ⟨ad.block, ad.off + 2, none⟩ = some (.slice Aa a.f2.length ca) := (Below.cell (show Below w.heap.size w v1 from by repeat (first | (with_reducible first | exact HB.out | apply below_alloc | apply pw_below_drewN | apply below_drew1) | exact HB.out)) (World.block_lt_of_cell? w _ hca2)).trans hca2; have hhcb0_v : (v1.alloc (.cells #[.int .i64 a.f0, .int .i64 a.f1, .slice Aa a.f2.length ca] 105 (0, 0))).cell? ⟨ad.block, ad.off + 3, none⟩ = some (.int .i64 b.f0) := (Below.cell (show Below w.heap.size w (v1.alloc (.cells #[.int .i64 a.f0, .int .i64 a.f1, .slice Aa a.f2.length ca] 105 (0, 0))) from by repeat (first | (with_reducible first | exact HB.out | apply below_alloc | apply pw_below_drewN | apply below_drew1) | exact HB.out)) (World.block_lt_of_cell? w _ hcb0)).trans hcb0; have hhcb1_v : (v1.alloc (.cells #[.int .i64 a.f0, .int .i64 a.f1, .slice Aa a.f2.length ca] 105 (0, 0))).cell? ⟨ad.block, ad.off + 3 + 1, none⟩ = some (.int .i64 b.f1) := (Below.cell (show Below w.heap.size w (v1.alloc (.cells #[.int .i64 a.f0, .int .i64 a.f1, .slice Aa a.f2.length ca] 105 (0, 0))) from by repeat (first | (with_reducible first | exact HB.out | apply below_alloc | apply pw_below_drewN | apply below_drew1) | exact HB.out)) (World.block_lt_of_cell? w _ hcb1)).trans hcb1; have hhcb2_v : (v1.alloc (.cells #[.int .i64 a.f0, .int .i64 a.f1, .slice Aa a.f2.length ca] 105 (0, 0))).cell? ⟨ad.block, ad.off + 3 + 2, none⟩ = some (.slice Ab b.f2.length cb) := (Below.cell (show Below w.heap.size w (v1.alloc (.cells #[.int .i64 a.f0, .int .i64 a.f1, .slice Aa a.f2.length ca] 105 (0, 0))) from by repeat (first | (with_reducible first | exact HB.out | apply below_alloc | apply pw_below_drewN | apply below_drew1) | exact HB.out)) (World.block_lt_of_cell? w _ hcb2)).trans hcb2; have hz6_0 : ((v1.alloc (.cells #[.int .i64 a.f0, .int .i64 a.f1, .slice Aa a.f2.length ca] 105 (0, 0))).alloc (.cells #[.int .i64 b.f0, .int .i64 b.f1, .slice Ab b.f2.length cb] 105 (0, 0))).cell? ⟨g6, 0, none⟩ = some (.int .i64 0) := (blk_cell (blk_alloc (blk_alloc BK6.out _) _) 0).trans rfl; have hf6_0 : ((v1.alloc (.cells #[.int .i64 a.f0, .int .i64 a.f1, .slice Aa a.f2.length ca] 105 (0, 0))).alloc (.cells #[.int .i64 b.f0, .int .i64 b.f1, .slice Ab b.f2.length cb] 105 (0, 0))).frozen? ⟨g6, 0, none⟩ = false := blk_frozen (blk_alloc (blk_alloc BK6.out _) _) 0; have hz6_1 : ((v1.alloc (.cells #[.int .i64 a.f0, .int .i64 a.f1, .slice Aa a.f2.length ca] 105 (0, 0))).alloc (.cells #[.int .i64 b.f0, .int .i64 b.f1, .slice Ab b.f2.length cb] 105 (0, 0))).cell? ⟨g6, 1, none⟩ = some (.int .i64 0) := (blk_cell (blk_alloc (blk_alloc BK6.out _) _) 1).trans rfl; have hf6_1 : ((v1.alloc (.cells #[.int .i64 a.f0, .int .i64 a.f1, .slice Aa a.f2.length ca] 105 (0, 0))).alloc (.cells #[.int .i64 b.f0, .int .i64 b.f1, .slice Ab b.f2.length cb] 105 (0, 0))).frozen? ⟨g6, 1, none⟩ = false := blk_frozen (blk_alloc (blk_alloc BK6.out _) _) 1; have hz6_2 : ((v1.alloc (.cells #[.int .i64 a.f0, .int .i64 a.f1, .slice Aa a.f2.length ca] 105 (0, 0))).alloc (.cells #[.int .i64 b.f0, .int .i64 b.f1, .slice Ab b.f2.length cb] 105 (0, 0))).cell? ⟨g6, 2, none⟩ = some (.slice none 0 0) := (blk_cell (blk_alloc (blk_alloc BK6.out _) _) 2).trans rfl; have hf6_2 : ((v1.alloc (.cells #[.int .i64 a.f0, .int .i64 a.f1, .slice Aa a.f2.length ca] 105 (0, 0))).alloc (.cells #[.int .i64 b.f0, .int .i64 b.f1, .slice Ab b.f2.length cb] 105 (0, 0))).frozen? ⟨g6, 2, none⟩ = false := blk_frozen (blk_alloc (blk_alloc BK6.out _) _) 2; have hza : ((v1.alloc (.cells #[.int .i64 a.f0, .int .i64 a.f1, .slice Aa a.f2.length ca] 105 (0, 0))).alloc (.cells #[.int .i64 b.f0, .int .i64 b.f1, .slice Ab b.f2.length cb] 105 (0, 0))).heap[v1.heap.size]? = some (.cells #[.int .i64 a.f0, .int .i64 a.f1, .slice Aa a.f2.length ca] 105 (0, 0)) := blk_alloc (heap_alloc_new v1 _) _; have hzb : ((v1.alloc (.cells #[.int .i64 a.f0, .int .i64 a.f1, .slice Aa a.f2.length ca] 105 (0, 0))).alloc (.cells #[.int .i64 b.f0, .int .i64 b.f1, .slice Ab b.f2.length cb] 105 (0, 0))).heap[v1.heap.size + 1]? = some (.cells #[.int .i64 b.f0, .int .i64 b.f1, .slice Ab b.f2.length cb] 105 (0, 0)) := (by have h_ := heap_alloc_new (v1.alloc (.cells #[.int .i64 a.f0, .int .i64 a.f1, .slice Aa a.f2.length ca] 105 (0, 0))) (.cells #[.int .i64 b.f0, .int .i64 b.f1, .slice Ab b.f2.length cb] 105 (0, 0)); rw [show (v1.alloc (.cells #[.int .i64 a.f0, .int .i64 a.f1, .slice Aa a.f2.length ca] 105 (0, 0))).heap.size = v1.heap.size + 1 from by simp] at h_; exact h_); have ha_0 : ((v1.alloc (.cells #[.int .i64 a.f0, .int .i64 a.f1, .slice Aa a.f2.length ca] 105 (0, 0))).alloc (.cells #[.int .i64 b.f0, .int .i64 b.f1, .slice Ab b.f2.length cb] 105 (0, 0))).cell? ⟨v1.heap.size, 0, none⟩ = some (.int .i64 a.f0) := (blk_cell hza 0).trans rfl; have hb_0 : ((v1.alloc (.cells #[.int .i64 a.f0, .int .i64 a.f1, .slice Aa a.f2.length ca] 105 (0, 0))).alloc (.cells #[.int .i64 b.f0, .int .i64 b.f1, .slice Ab b.f2.length cb] 105 (0, 0))).cell? ⟨v1.heap.size + 1, 0, none⟩ = some (.int .i64 b.f0) := (blk_cell hzb 0).trans rfl; have ha_1 : ((v1.alloc (.cells #[.int .i64 a.f0, .int .i64 a.f1, .slice Aa a.f2.length ca] 105 (0, 0))).alloc (.cells #[.int .i64 b.f0, .int .i64 b.f1, .slice Ab b.f2.length cb] 105 (0, 0))).cell? ⟨v1.heap.size, 1, none⟩ = some (.int .i64 a.f1) := (blk_cell hza 1).trans rfl; have hb_1 : ((v1.alloc (.cells #[.int .i64 a.f0, .int .i64 a.f1, .slice Aa a.f2.length ca] 105 (0, 0))).alloc (.cells #[.int .i64 b.f0, .int .i64 b.f1, .slice Ab b.f2.length cb] 105 (0, 0))).cell? ⟨v1.heap.size + 1, 1, none⟩ = some (.int .i64 b.f1) := (blk_cell hzb 1).trans rfl; have ha_2 : ((v1.alloc (.cells #[.int .i64 a.f0, .int .i64 a.f1, .slice Aa a.f2.length ca] 105 (0, 0))).alloc (.cells #[.int .i64 b.f0, .int .i64 b.f1, .slice Ab b.f2.length cb] 105 (0, 0))).cell? ⟨v1.heap.size, 2, none⟩ = some (.slice Aa a.f2.length ca) := (blk_cell hza 2).trans rfl; have hb_2 : ((v1.alloc (.cells #[.int .i64 a.f0, .int .i64 a.f1, .slice Aa a.f2.length ca] 105 (0, 0))).alloc (.cells #[.int .i64 b.f0, .int .i64 b.f1, .slice Ab b.f2.length cb] 105 (0, 0))).cell? ⟨v1.heap.size + 1, 2, none⟩ = some (.slice Ab b.f2.length cb) := (blk_cell hzb 2).trans rfl; have HZA := Aside0.mk hza; have HZB := Aside0.mk hzb; clear hza hzb))
      refine bodyPost_ret (results_cell_row rfl _ _ g6 105 #[.int .i64 b.f0, .int .i64 b.f1, .slice Ab b.f2.length cb] (0, 0) _ rfl (by (with_reducible repeat (first | refine blk_drewN ?_ _ | refine blk_drew ?_ | refine blk_alloc ?_ _)); refine blk_put (cs := #[.int .i64 b.f0, .int .i64 b.f1, .slice none 0 0]) ?_ 2 _ rfl; (with_reducible repeat (first | refine blk_drewN ?_ _ | refine blk_drew ?_ | refine blk_alloc ?_ _)); refine blk_put (cs := #[.int .i64 b.f0, .int .i64 0, .slice none 0 0]) ?_ 1 _ rfl; (with_reducible repeat (first | refine blk_drewN ?_ _ | refine blk_drew ?_ | refine blk_alloc ?_ _)); refine blk_put (cs := #[.int .i64 0, .int .i64 0, .slice none 0 0]) ?_ 0 _ rfl; (with_reducible repeat (first | refine blk_drewN ?_ _ | refine blk_drew ?_ | refine blk_alloc ?_ _)); exact BK6.out) Try.underlying105 rfl (by kernel_rfl)) rfl ?_
      exact ⟨.slice Ab b.f2.length cb, by first | rfl | (simp; done) | (simp [*]; done), Kd.R_below HMb.out (by repeat (first | (with_reducible first | exact HB.out | apply below_alloc | apply pw_below_drewN | apply below_drew1 | refine below_set ?_ G6.out) | exact HB.out)), by repeat (first | (with_reducible first | exact HB.out | apply below_alloc | apply pw_below_drewN | apply below_drew1 | refine below_set ?_ G6.out) | exact HB.out)⟩
    rw [if_neg ha1] at hT
    have ba1 : (a.f0 == 1) = false := beq_eq_false_iff_ne.2 ha1
    clear ha1
    by_cases hb1 : b.f0 = 1
    · rw [if_pos hb1] at hT
      have bb1 : (b.f0 == 1) = true := beq_iff_eq.2 hb1
      clear hb1
      obtain rfl := Option.some.inj hT
      go_enter Try.func114, Try.ntmps114
      go_wp2_with (((with_reducible refine gate_dst (N := 6) rfl ?_); refine box_event ?hg (N := 6) ?hd (cs := #[.int .i64 0, .int .i64 0, .slice none 0 0]) (t := 105) ?hr ?_; (case hd => rfl); (case hg => rfl); (case hr => first | (go_simp; done) | (go_simp; rfl)); intro g6 hg v1 hbox hb; have G6 := Aside0.mk ((by rw [hg]; exact (below_size (by repeat (first | (with_reducible first | exact HB.out | apply below_alloc | apply pw_below_drewN | apply below_drew1) | exact HB.out)))) : w.heap.size ≤ g6); have n0_ := Aside0.mk (below_step (by repeat (first | (with_reducible first | exact HB.out | apply below_alloc | apply pw_below_drewN | apply below_drew1) | exact HB.out)) hb); clear HB; have HB := n0_; clear n0_; have BK6 := Aside0.mk hbox; clear hb hbox hg; have hhca0_v : v1.cell? ad = some (.int .i64 a.f0) := (Below.cell (show Below w.heap.size w v1 from by repeat (first | (with_reducible first | exact HB.out | apply below_alloc | apply pw_below_drewN | apply below_drew1) | exact HB.out)) (World.block_lt_of_cell? w _ hca0)).trans hca0; have hhca1_v : v1.cell? ⟨ad.block, ad.off + 1, none⟩ = some (.int .i64 a.f1) := (Below.cell (show Below w.heap.size w v1 from by repeat (first | (with_reducible first | exact HB.out | apply below_alloc | apply pw_below_drewN | apply below_drew1) | exact HB.out)) (World.block_lt_of_cell? w _ hca1)).trans hca1; have hhca2_v : v1.cell? ⟨ad.block, ad.off + 2, none⟩ = some (.slice Aa a.f2.length ca) := (Below.cell (show Below w.heap.size w v1 from by repeat (first | (with_reducible first | exact HB.out | apply below_alloc | apply pw_below_drewN | apply below_drew1) | exact HB.out)) (World.block_lt_of_cell? w _ hca2)).trans hca2; have hhcb0_v : (v1.alloc (.cells #[.int .i64 a.f0, .int .i64 a.f1, .slice Aa a.f2.length ca] 105 (0, 0))).cell? ⟨ad.block, ad.off + 3, none⟩ = some (.int .i64 b.f0) := (Below.cell (show Below w.heap.size w (v1.alloc (.cells #[.int .i64 a.f0, .int .i64 a.f1, .slice Aa a.f2.length ca] 105 (0, 0))) from by repeat (first | (with_reducible first | exact HB.out | apply below_alloc | apply pw_below_drewN | apply below_drew1) | exact HB.out)) (World.block_lt_of_cell? w _ hcb0)).trans hcb0; have hhcb1_v : (v1.alloc (.cells #[.int .i64 a.f0, .int .i64 a.f1, .slice Aa a.f2.length ca] 105 (0, 0))).cell? ⟨ad.block, ad.off + 3 + 1, none⟩ = some (.int .i64 b.f1) := (Below.cell (show Below w.heap.size w (v1.alloc (.cells #[.int .i64 a.f0, .int .i64 a.f1, .slice Aa a.f2.length ca] 105 (0, 0))) from by repeat (first | (with_reducible first | exact HB.out | apply below_alloc | apply pw_below_drewN | apply below_drew1) | exact HB.out)) (World.block_lt_of_cell? w _ hcb1)).trans hcb1; have hhcb2_v : (v1.alloc (.cells #[.int .i64 a.f0, .int .i64 a.f1, .slice Aa a.f2.length ca] 105 (0, 0))).cell? ⟨ad.block, ad.off + 3 + 2, none⟩ = some (.slice Ab b.f2.length cb) := (Below.cell (show Below w.heap.size w (v1.alloc (.cells #[.int .i64 a.f0, .int .i64 a.f1, .slice Aa a.f2.length ca] 105 (0, 0))) from by repeat (first | (with_reducible first | exact HB.out | apply below_alloc | apply pw_below_drewN | apply below_drew1) | exact HB.out)) (World.block_lt_of_cell? w _ hcb2)).trans hcb2; have hz6_0 : ((v1.alloc (.cells #[.int .i64 a.f0, .int .i64 a.f1, .slice Aa a.f2.length ca] 105 (0, 0))).alloc (.cells #[.int .i64 b.f0, .int .i64 b.f1, .slice Ab b.f2.length cb] 105 (0, 0))).cell? ⟨g6, 0, none⟩ = some (.int .i64 0) := (blk_cell (blk_alloc (blk_alloc BK6.out _) _) 0).trans rfl; have hf6_0 : ((v1.alloc (.cells #[.int .i64 a.f0, .int .i64 a.f1, .slice Aa a.f2.length ca] 105 (0, 0))).alloc (.cells #[.int .i64 b.f0, .int .i64 b.f1, .slice Ab b.f2.length cb] 105 (0, 0))).frozen? ⟨g6, 0, none⟩ = false := blk_frozen (blk_alloc (blk_alloc BK6.out _) _) 0; have hz6_1 : ((v1.alloc (.cells #[.int .i64 a.f0, .int .i64 a.f1, .slice Aa a.f2.length ca] 105 (0, 0))).alloc (.cells #[.int .i64 b.f0, .int .i64 b.f1, .slice Ab b.f2.length cb] 105 (0, 0))).cell? ⟨g6, 1, none⟩ = some (.int .i64 0) := (blk_cell (blk_alloc (blk_alloc BK6.out _) _) 1).trans rfl; have hf6_1 : ((v1.alloc (.cells #[.int .i64 a.f0, .int .i64 a.f1, .slice Aa a.f2.length ca] 105 (0, 0))).alloc (.cells #[.int .i64 b.f0, .int .i64 b.f1, .slice Ab b.f2.length cb] 105 (0, 0))).frozen? ⟨g6, 1, none⟩ = false := blk_frozen (blk_alloc (blk_alloc BK6.out _) _) 1; have hz6_2 : ((v1.alloc (.cells #[.int .i64 a.f0, .int .i64 a.f1, .slice Aa a.f2.length ca] 105 (0, 0))).alloc (.cells #[.int .i64 b.f0, .int .i64 b.f1, .slice Ab b.f2.length cb] 105 (0, 0))).cell? ⟨g6, 2, none⟩ = some (.slice none 0 0) := (blk_cell (blk_alloc (blk_alloc BK6.out _) _) 2).trans rfl; have hf6_2 : ((v1.alloc (.cells #[.int .i64 a.f0, .int .i64 a.f1, .slice Aa a.f2.length ca] 105 (0, 0))).alloc (.cells #[.int .i64 b.f0, .int .i64 b.f1, .slice Ab b.f2.length cb] 105 (0, 0))).frozen? ⟨g6, 2, none⟩ = false := blk_frozen (blk_alloc (blk_alloc BK6.out _) _) 2; have hza : ((v1.alloc (.cells #[.int .i64 a.f0, .int .i64 a.f1, .slice Aa a.f2.length ca] 105 (0, 0))).alloc (.cells #[.int .i64 b.f0, .int .i64 b.f1, .slice Ab b.f2.length cb] 105 (0, 0))).heap[v1.heap.size]? = some (.cells #[.int .i64 a.f0, .int .i64 a.f1, .slice Aa a.f2.length ca] 105 (0, 0)) := blk_alloc (heap_alloc_new v1 _) _; have hzb : ((v1.alloc (.cells #[.int .i64 a.f0, .int .i64 a.f1, .slice Aa a.f2.length ca] 105 (0, 0))).alloc (.cells #[.int .i64 b.f0, .int .i64 b.f1, .slice Ab b.f2.length cb] 105 (0, 0))).heap[v1.heap.size + 1]? = some (.cells #[.int .i64 b.f0, .int .i64 b.f1, .slice Ab b.f2.length cb] 105 (0, 0)) := (by have h_ := heap_alloc_new (v1.alloc (.cells #[.int .i64 a.f0, .int .i64 a.f1, .slice Aa a.f2.length ca] 105 (0, 0))) (.cells #[.int .i64 b.f0, .int .i64 b.f1, .slice Ab b.f2.length cb] 105 (0, 0)); rw [show (v1.alloc (.cells #[.int .i64 a.f0, .int .i64 a.f1, .slice Aa a.f2.length ca] 105 (0, 0))).heap.size = v1.heap.size + 1 from by simp] at h_; exact h_); have ha_0 : ((v1.alloc (.cells #[.int .i64 a.f0, .int .i64 a.f1, .slice Aa a.f2.length ca] 105 (0, 0))).alloc (.cells #[.int .i64 b.f0, .int .i64 b.f1, .slice Ab b.f2.length cb] 105 (0, 0))).cell? ⟨v1.heap.size, 0, none⟩ = some (.int .i64 a.f0) := (blk_cell hza 0).trans rfl; have hb_0 : ((v1.alloc (.cells #[.int .i64 a.f0, .int .i64 a.f1, .slice Aa a.f2.length ca] 105 (0, 0))).alloc (.cells #[.int .i64 b.f0, .int .i64 b.f1, .slice Ab b.f2.length cb] 105 (0, 0))).cell? ⟨v1.heap.size + 1, 0, none⟩ = some (.int .i64 b.f0) := (blk_cell hzb 0).trans rfl; have ha_1 : ((v1.alloc (.cells #[.int .i64 a.f0, .int .i64 a.f1, .slice Aa a.f2.length ca] 105 (0, 0))).alloc (.cells #[.int .i64 b.f0, .int .i64 b.f1, .slice Ab b.f2.length cb] 105 (0, 0))).cell? ⟨v1.heap.size, 1, none⟩ = some (.int .i64 a.f1) := (blk_cell hza 1).trans rfl; have hb_1 : ((v1.alloc (.cells #[.int .i64 a.f0, .int .i64 a.f1, .slice Aa a.f2.length ca] 105 (0, 0))).alloc (.cells #[.int .i64 b.f0, .int .i64 b.f1, .slice Ab b.f2.length cb] 105 (0, 0))).cell? ⟨v1.heap.size + 1, 1, none⟩ = some (.int .i64 b.f1) := (blk_cell hzb 1).trans rfl; have ha_2 : ((v1.alloc (.cells #[.int .i64 a.f0, .int .i64 a.f1, .slice Aa a.f2.length ca] 105 (0, 0))).alloc (.cells #[.int .i64 b.f0, .int .i64 b.f1, .slice Ab b.f2.length cb] 105 (0, 0))).cell? ⟨v1.heap.size, 2, none⟩ = some (.slice Aa a.f2.length ca) := (blk_cell hza 2).trans rfl; have hb_2 : ((v1.alloc (.cells #[.int .i64 a.f0, .int .i64 a.f1, .slice Aa a.f2.length ca] 105 (0, 0))).alloc (.cells #[.int .i64 b.f0, .int .i64 b.f1, .slice Ab b.f2.length cb] 105 (0, 0))).cell? ⟨v1.heap.size + 1, 2, none⟩ = some (.slice Ab b.f2.length cb) := (blk_cell hzb 2).trans rfl; have HZA := Aside0.mk hza; have HZB := Aside0.mk hzb; clear hza hzb))
      refine bodyPost_ret (results_cell_row rfl _ _ g6 105 #[.int .i64 a.f0, .int .i64 a.f1, .slice Aa a.f2.length ca] (0, 0) _ rfl (by (with_reducible repeat (first | refine blk_drewN ?_ _ | refine blk_drew ?_ | refine blk_alloc ?_ _)); refine blk_put (cs := #[.int .i64 a.f0, .int .i64 a.f1, .slice none 0 0]) ?_ 2 _ rfl; (with_reducible repeat (first | refine blk_drewN ?_ _ | refine blk_drew ?_ | refine blk_alloc ?_ _)); refine blk_put (cs := #[.int .i64 a.f0, .int .i64 0, .slice none 0 0]) ?_ 1 _ rfl; (with_reducible repeat (first | refine blk_drewN ?_ _ | refine blk_drew ?_ | refine blk_alloc ?_ _)); refine blk_put (cs := #[.int .i64 0, .int .i64 0, .slice none 0 0]) ?_ 0 _ rfl; (with_reducible repeat (first | refine blk_drewN ?_ _ | refine blk_drew ?_ | refine blk_alloc ?_ _)); exact BK6.out) Try.underlying105 rfl (by kernel_rfl)) rfl ?_
      exact ⟨.slice Aa a.f2.length ca, by first | rfl | (simp; done) | (simp [*]; done), Kd.R_below HMa.out (by repeat (first | (with_reducible first | exact HB.out | apply below_alloc | apply pw_below_drewN | apply below_drew1 | refine below_set ?_ G6.out) | exact HB.out)), by repeat (first | (with_reducible first | exact HB.out | apply below_alloc | apply pw_below_drewN | apply below_drew1 | refine below_set ?_ G6.out) | exact HB.out)⟩
    rw [if_neg hb1] at hT
    have bb1 : (b.f0 == 1) = false := beq_eq_false_iff_ne.2 hb1
    clear hb1
    obtain ⟨e, heq, hT⟩ := Option.bind_eq_some_iff.mp hT
    replace hT := Option.some.inj hT
    have HE := Aside0.mk heq
    clear heq
    cases e with
    | true =>
      rw [if_pos rfl] at hT
      subst hT
      go_enter Try.func114, Try.ntmps114
      go_wp2_with (first | ((with_reducible refine gate_dst (N := 6) rfl ?_); refine box_event ?hg (N := 6) ?hd (cs := #[.int .i64 0, .int .i64 0, .slice none 0 0]) (t := 105) ?hr ?_; (case hd => rfl); (case hg => rfl); (case hr => first | (go_simp; done) | (go_simp; rfl)); intro g6 hg v1 hbox hb; have G6 := Aside0.mk ((by rw [hg]; exact (below_size (by repeat (first | (with_reducible first | exact HB.out | apply below_alloc | apply pw_below_drewN | apply below_drew1) | exact HB.out)))) : w.heap.size ≤ g6); have n0_ := Aside0.mk (below_step (by repeat (first | (with_reducible first | exact HB.out | apply below_alloc | apply pw_below_drewN | apply below_drew1) | exact HB.out)) hb); clear HB; have HB := n0_; clear n0_; have BK6 := Aside0.mk hbox; clear hb hbox hg; have hhca0_v : v1.cell? ad = some (.int .i64 a.f0) := (Below.cell (show Below w.heap.size w v1 from by repeat (first | (with_reducible first | exact HB.out | apply below_alloc | apply pw_below_drewN | apply below_drew1) | exact HB.out)) (World.block_lt_of_cell? w _ hca0)).trans hca0; have hhca1_v : v1.cell? ⟨ad.block, ad.off + 1, none⟩ = some (.int .i64 a.f1) := (Below.cell (show Below w.heap.size w v1 from by repeat (first | (with_reducible first | exact HB.out | apply below_alloc | apply pw_below_drewN | apply below_drew1) | exact HB.out)) (World.block_lt_of_cell? w _ hca1)).trans hca1; have hhca2_v : v1.cell? ⟨ad.block, ad.off + 2, none⟩ = some (.slice Aa a.f2.length ca) := (Below.cell (show Below w.heap.size w v1 from by repeat (first | (with_reducible first | exact HB.out | apply below_alloc | apply pw_below_drewN | apply below_drew1) | exact HB.out)) (World.block_lt_of_cell? w _ hca2)).trans hca2; have hhcb0_v : (v1.alloc (.cells #[.int .i64 a.f0, .int .i64 a.f1, .slice Aa a.f2.length ca] 105 (0, 0))).cell? ⟨ad.block, ad.off + 3, none⟩ = some (.int .i64 b.f0) := (Below.cell (show Below w.heap.size w (v1.alloc (.cells #[.int .i64 a.f0, .int .i64 a.f1, .slice Aa a.f2.length ca] 105 (0, 0))) from by repeat (first | (with_reducible first | exact HB.out | apply below_alloc | apply pw_below_drewN | apply below_drew1) | exact HB.out)) (World.block_lt_of_cell? w _ hcb0)).trans hcb0; have hhcb1_v : (v1.alloc (.cells #[.int .i64 a.f0, .int .i64 a.f1, .slice Aa a.f2.length ca] 105 (0, 0))).cell? ⟨ad.block, ad.off + 3 + 1, none⟩ = some (.int .i64 b.f1) := (Below.cell (show Below w.heap.size w (v1.alloc (.cells #[.int .i64 a.f0, .int .i64 a.f1, .slice Aa a.f2.length ca] 105 (0, 0))) from by repeat (first | (with_reducible first | exact HB.out | apply below_alloc | apply pw_below_drewN | apply below_drew1) | exact HB.out)) (World.block_lt_of_cell? w _ hcb1)).trans hcb1; have hhcb2_v : (v1.alloc (.cells #[.int .i64 a.f0, .int .i64 a.f1, .slice Aa a.f2.length ca] 105 (0, 0))).cell? ⟨ad.block, ad.off + 3 + 2, none⟩ = some (.slice Ab b.f2.length cb) := (Below.cell (show Below w.heap.size w (v1.alloc (.cells #[.int .i64 a.f0, .int .i64 a.f1, .slice Aa a.f2.length ca] 105 (0, 0))) from by repeat (first | (with_reducible first | exact HB.out | apply below_alloc | apply pw_below_drewN | apply below_drew1) | exact HB.out)) (World.block_lt_of_cell? w _ hcb2)).trans hcb2; have hz6_0 : ((v1.alloc (.cells #[.int .i64 a.f0, .int .i64 a.f1, .slice Aa a.f2.length ca] 105 (0, 0))).alloc (.cells #[.int .i64 b.f0, .int .i64 b.f1, .slice Ab b.f2.length cb] 105 (0, 0))).cell? ⟨g6, 0, none⟩ = some (.int .i64 0) := (blk_cell (blk_alloc (blk_alloc BK6.out _) _) 0).trans rfl; have hf6_0 : ((v1.alloc (.cells #[.int .i64 a.f0, .int .i64 a.f1, .slice Aa a.f2.length ca] 105 (0, 0))).alloc (.cells #[.int .i64 b.f0, .int .i64 b.f1, .slice Ab b.f2.length cb] 105 (0, 0))).frozen? ⟨g6, 0, none⟩ = false := blk_frozen (blk_alloc (blk_alloc BK6.out _) _) 0; have hz6_1 : ((v1.alloc (.cells #[.int .i64 a.f0, .int .i64 a.f1, .slice Aa a.f2.length ca] 105 (0, 0))).alloc (.cells #[.int .i64 b.f0, .int .i64 b.f1, .slice Ab b.f2.length cb] 105 (0, 0))).cell? ⟨g6, 1, none⟩ = some (.int .i64 0) := (blk_cell (blk_alloc (blk_alloc BK6.out _) _) 1).trans rfl; have hf6_1 : ((v1.alloc (.cells #[.int .i64 a.f0, .int .i64 a.f1, .slice Aa a.f2.length ca] 105 (0, 0))).alloc (.cells #[.int .i64 b.f0, .int .i64 b.f1, .slice Ab b.f2.length cb] 105 (0, 0))).frozen? ⟨g6, 1, none⟩ = false := blk_frozen (blk_alloc (blk_alloc BK6.out _) _) 1; have hz6_2 : ((v1.alloc (.cells #[.int .i64 a.f0, .int .i64 a.f1, .slice Aa a.f2.length ca] 105 (0, 0))).alloc (.cells #[.int .i64 b.f0, .int .i64 b.f1, .slice Ab b.f2.length cb] 105 (0, 0))).cell? ⟨g6, 2, none⟩ = some (.slice none 0 0) := (blk_cell (blk_alloc (blk_alloc BK6.out _) _) 2).trans rfl; have hf6_2 : ((v1.alloc (.cells #[.int .i64 a.f0, .int .i64 a.f1, .slice Aa a.f2.length ca] 105 (0, 0))).alloc (.cells #[.int .i64 b.f0, .int .i64 b.f1, .slice Ab b.f2.length cb] 105 (0, 0))).frozen? ⟨g6, 2, none⟩ = false := blk_frozen (blk_alloc (blk_alloc BK6.out _) _) 2; have hza : ((v1.alloc (.cells #[.int .i64 a.f0, .int .i64 a.f1, .slice Aa a.f2.length ca] 105 (0, 0))).alloc (.cells #[.int .i64 b.f0, .int .i64 b.f1, .slice Ab b.f2.length cb] 105 (0, 0))).heap[v1.heap.size]? = some (.cells #[.int .i64 a.f0, .int .i64 a.f1, .slice Aa a.f2.length ca] 105 (0, 0)) := blk_alloc (heap_alloc_new v1 _) _; have hzb : ((v1.alloc (.cells #[.int .i64 a.f0, .int .i64 a.f1, .slice Aa a.f2.length ca] 105 (0, 0))).alloc (.cells #[.int .i64 b.f0, .int .i64 b.f1, .slice Ab b.f2.length cb] 105 (0, 0))).heap[v1.heap.size + 1]? = some (.cells #[.int .i64 b.f0, .int .i64 b.f1, .slice Ab b.f2.length cb] 105 (0, 0)) := (by have h_ := heap_alloc_new (v1.alloc (.cells #[.int .i64 a.f0, .int .i64 a.f1, .slice Aa a.f2.length ca] 105 (0, 0))) (.cells #[.int .i64 b.f0, .int .i64 b.f1, .slice Ab b.f2.length cb] 105 (0, 0)); rw [show (v1.alloc (.cells #[.int .i64 a.f0, .int .i64 a.f1, .slice Aa a.f2.length ca] 105 (0, 0))).heap.size = v1.heap.size + 1 from by simp] at h_; exact h_); have ha_0 : ((v1.alloc (.cells #[.int .i64 a.f0, .int .i64 a.f1, .slice Aa a.f2.length ca] 105 (0, 0))).alloc (.cells #[.int .i64 b.f0, .int .i64 b.f1, .slice Ab b.f2.length cb] 105 (0, 0))).cell? ⟨v1.heap.size, 0, none⟩ = some (.int .i64 a.f0) := (blk_cell hza 0).trans rfl; have hb_0 : ((v1.alloc (.cells #[.int .i64 a.f0, .int .i64 a.f1, .slice Aa a.f2.length ca] 105 (0, 0))).alloc (.cells #[.int .i64 b.f0, .int .i64 b.f1, .slice Ab b.f2.length cb] 105 (0, 0))).cell? ⟨v1.heap.size + 1, 0, none⟩ = some (.int .i64 b.f0) := (blk_cell hzb 0).trans rfl; have ha_1 : ((v1.alloc (.cells #[.int .i64 a.f0, .int .i64 a.f1, .slice Aa a.f2.length ca] 105 (0, 0))).alloc (.cells #[.int .i64 b.f0, .int .i64 b.f1, .slice Ab b.f2.length cb] 105 (0, 0))).cell? ⟨v1.heap.size, 1, none⟩ = some (.int .i64 a.f1) := (blk_cell hza 1).trans rfl; have hb_1 : ((v1.alloc (.cells #[.int .i64 a.f0, .int .i64 a.f1, .slice Aa a.f2.length ca] 105 (0, 0))).alloc (.cells #[.int .i64 b.f0, .int .i64 b.f1, .slice Ab b.f2.length cb] 105 (0, 0))).cell? ⟨v1.heap.size + 1, 1, none⟩ = some (.int .i64 b.f1) := (blk_cell hzb 1).trans rfl; have ha_2 : ((v1.alloc (.cells #[.int .i64 a.f0, .int .i64 a.f1, .slice Aa a.f2.length ca] 105 (0, 0))).alloc (.cells #[.int .i64 b.f0, .int .i64 b.f1, .slice Ab b.f2.length cb] 105 (0, 0))).cell? ⟨v1.heap.size, 2, none⟩ = some (.slice Aa a.f2.length ca) := (blk_cell hza 2).trans rfl; have hb_2 : ((v1.alloc (.cells #[.int .i64 a.f0, .int .i64 a.f1, .slice Aa a.f2.length ca] 105 (0, 0))).alloc (.cells #[.int .i64 b.f0, .int .i64 b.f1, .slice Ab b.f2.length cb] 105 (0, 0))).cell? ⟨v1.heap.size + 1, 2, none⟩ = some (.slice Ab b.f2.length cb) := (blk_cell hzb 2).trans rfl; have HZA := Aside0.mk hza; have HZB := Aside0.mk hzb; clear hza hzb) | (go_at_call 121; (with_reducible refine (spec_l6Same.calls k a.f0 a.f1 Aa ca a.f2 b.f0 b.f1 Ab cb b.f2 true _ (Kd.C_below HCa.out (by repeat (first | (with_reducible first | exact HB.out | apply below_alloc | apply pw_below_drewN | apply below_drew1 | refine below_set ?_ G6.out) | exact HB.out))) HLa.out (Kd.C_below HCb.out (by repeat (first | (with_reducible first | exact HB.out | apply below_alloc | apply pw_below_drewN | apply below_drew1 | refine below_set ?_ G6.out) | exact HB.out))) HLb.out HE.out).mono ?_); rintro e_ v2 ⟨rfl, hb⟩; have q6_ := Aside0.mk (blk_below (g := g6) (o := .cells #[.int .i64 0, .int .i64 0, .slice none 0 0] 105 (0, 0)) (by (with_reducible repeat (first | refine blk_drewN ?_ _ | refine blk_drew ?_ | refine blk_alloc ?_ _)); exact BK6.out) hb); have qa_ := Aside0.mk (blk_below HZA.out hb); have n0_ := Aside0.mk (below_step (by repeat (first | (with_reducible first | exact HB.out | apply below_alloc | apply pw_below_drewN | apply below_drew1 | refine below_set ?_ G6.out) | exact HB.out)) hb); clear HB BK6; have HB := n0_; have BK6 := q6_; clear n0_ q6_ hb; have hy6_0 : v2.cell? ⟨g6, 0, none⟩ = some (.int .i64 0) := (blk_cell BK6.out 0).trans rfl; have hg6_0 := blk_frozen BK6.out 0; have hya_0 : v2.cell? ⟨v1.heap.size, 0, none⟩ = some (.int .i64 a.f0) := (blk_cell qa_.out 0).trans rfl; have hy6_1 : v2.cell? ⟨g6, 1, none⟩ = some (.int .i64 0) := (blk_cell BK6.out 1).trans rfl; have hg6_1 := blk_frozen BK6.out 1; have hya_1 : v2.cell? ⟨v1.heap.size, 1, none⟩ = some (.int .i64 a.f1) := (blk_cell qa_.out 1).trans rfl; have hy6_2 : v2.cell? ⟨g6, 2, none⟩ = some (.slice none 0 0) := (blk_cell BK6.out 2).trans rfl; have hg6_2 := blk_frozen BK6.out 2; have hya_2 : v2.cell? ⟨v1.heap.size, 2, none⟩ = some (.slice Aa a.f2.length ca) := (blk_cell qa_.out 2).trans rfl))
      refine bodyPost_ret (results_cell_row rfl _ _ g6 105 #[.int .i64 a.f0, .int .i64 a.f1, .slice Aa a.f2.length ca] (0, 0) _ rfl (by (with_reducible repeat (first | refine blk_drewN ?_ _ | refine blk_drew ?_ | refine blk_alloc ?_ _)); refine blk_put (cs := #[.int .i64 a.f0, .int .i64 a.f1, .slice none 0 0]) ?_ 2 _ rfl; (with_reducible repeat (first | refine blk_drewN ?_ _ | refine blk_drew ?_ | refine blk_alloc ?_ _)); refine blk_put (cs := #[.int .i64 a.f0, .int .i64 0, .slice none 0 0]) ?_ 1 _ rfl; (with_reducible repeat (first | refine blk_drewN ?_ _ | refine blk_drew ?_ | refine blk_alloc ?_ _)); refine blk_put (cs := #[.int .i64 0, .int .i64 0, .slice none 0 0]) ?_ 0 _ rfl; (with_reducible repeat (first | refine blk_drewN ?_ _ | refine blk_drew ?_ | refine blk_alloc ?_ _)); exact BK6.out) Try.underlying105 rfl (by kernel_rfl)) rfl ?_
      exact ⟨.slice Aa a.f2.length ca, by first | rfl | (simp; done) | (simp [*]; done), Kd.R_below HMa.out (by repeat (first | (with_reducible first | exact HB.out | apply below_alloc | apply pw_below_drewN | apply below_drew1 | refine below_set ?_ G6.out) | exact HB.out)), by repeat (first | (with_reducible first | exact HB.out | apply below_alloc | apply pw_below_drewN | apply below_drew1 | refine below_set ?_ G6.out) | exact HB.out)⟩
    | false =>
      rw [if_neg (by simp)] at hT
      subst hT
      go_enter Try.func114, Try.ntmps114
      go_wp2_with (first | ((with_reducible refine gate_dst (N := 6) rfl ?_); refine box_event ?hg (N := 6) ?hd (cs := #[.int .i64 0, .int .i64 0, .slice none 0 0]) (t := 105) ?hr ?_; (case hd => rfl); (case hg => rfl); (case hr => first | (go_simp; done) | (go_simp; rfl)); intro g6 hg v1 hbox hb; have G6 := Aside0.mk ((by rw [hg]; exact (below_size (by repeat (first | (with_reducible first | exact HB.out | apply below_alloc | apply pw_below_drewN | apply below_drew1) | exact HB.out)))) : w.heap.size ≤ g6); have n0_ := Aside0.mk (below_step (by repeat (first | (with_reducible first | exact HB.out | apply below_alloc | apply pw_below_drewN | apply below_drew1) | exact HB.out)) hb); clear HB; have HB := n0_; clear n0_; have BK6 := Aside0.mk hbox; clear hb hbox hg; have hhca0_v : v1.cell? ad = some (.int .i64 a.f0) := (Below.cell (show Below w.heap.size w v1 from by repeat (first | (with_reducible first | exact HB.out | apply below_alloc | apply pw_below_drewN | apply below_drew1) | exact HB.out)) (World.block_lt_of_cell? w _ hca0)).trans hca0; have hhca1_v : v1.cell? ⟨ad.block, ad.off + 1, none⟩ = some (.int .i64 a.f1) := (Below.cell (show Below w.heap.size w v1 from by repeat (first | (with_reducible first | exact HB.out | apply below_alloc | apply pw_below_drewN | apply below_drew1) | exact HB.out)) (World.block_lt_of_cell? w _ hca1)).trans hca1; have hhca2_v : v1.cell? ⟨ad.block, ad.off + 2, none⟩ = some (.slice Aa a.f2.length ca) := (Below.cell (show Below w.heap.size w v1 from by repeat (first | (with_reducible first | exact HB.out | apply below_alloc | apply pw_below_drewN | apply below_drew1) | exact HB.out)) (World.block_lt_of_cell? w _ hca2)).trans hca2; have hhcb0_v : (v1.alloc (.cells #[.int .i64 a.f0, .int .i64 a.f1, .slice Aa a.f2.length ca] 105 (0, 0))).cell? ⟨ad.block, ad.off + 3, none⟩ = some (.int .i64 b.f0) := (Below.cell (show Below w.heap.size w (v1.alloc (.cells #[.int .i64 a.f0, .int .i64 a.f1, .slice Aa a.f2.length ca] 105 (0, 0))) from by repeat (first | (with_reducible first | exact HB.out | apply below_alloc | apply pw_below_drewN | apply below_drew1) | exact HB.out)) (World.block_lt_of_cell? w _ hcb0)).trans hcb0; have hhcb1_v : (v1.alloc (.cells #[.int .i64 a.f0, .int .i64 a.f1, .slice Aa a.f2.length ca] 105 (0, 0))).cell? ⟨ad.block, ad.off + 3 + 1, none⟩ = some (.int .i64 b.f1) := (Below.cell (show Below w.heap.size w (v1.alloc (.cells #[.int .i64 a.f0, .int .i64 a.f1, .slice Aa a.f2.length ca] 105 (0, 0))) from by repeat (first | (with_reducible first | exact HB.out | apply below_alloc | apply pw_below_drewN | apply below_drew1) | exact HB.out)) (World.block_lt_of_cell? w _ hcb1)).trans hcb1; have hhcb2_v : (v1.alloc (.cells #[.int .i64 a.f0, .int .i64 a.f1, .slice Aa a.f2.length ca] 105 (0, 0))).cell? ⟨ad.block, ad.off + 3 + 2, none⟩ = some (.slice Ab b.f2.length cb) := (Below.cell (show Below w.heap.size w (v1.alloc (.cells #[.int .i64 a.f0, .int .i64 a.f1, .slice Aa a.f2.length ca] 105 (0, 0))) from by repeat (first | (with_reducible first | exact HB.out | apply below_alloc | apply pw_below_drewN | apply below_drew1) | exact HB.out)) (World.block_lt_of_cell? w _ hcb2)).trans hcb2; have hz6_0 : ((v1.alloc (.cells #[.int .i64 a.f0, .int .i64 a.f1, .slice Aa a.f2.length ca] 105 (0, 0))).alloc (.cells #[.int .i64 b.f0, .int .i64 b.f1, .slice Ab b.f2.length cb] 105 (0, 0))).cell? ⟨g6, 0, none⟩ = some (.int .i64 0) := (blk_cell (blk_alloc (blk_alloc BK6.out _) _) 0).trans rfl; have hf6_0 : ((v1.alloc (.cells #[.int .i64 a.f0, .int .i64 a.f1, .slice Aa a.f2.length ca] 105 (0, 0))).alloc (.cells #[.int .i64 b.f0, .int .i64 b.f1, .slice Ab b.f2.length cb] 105 (0, 0))).frozen? ⟨g6, 0, none⟩ = false := blk_frozen (blk_alloc (blk_alloc BK6.out _) _) 0; have hz6_1 : ((v1.alloc (.cells #[.int .i64 a.f0, .int .i64 a.f1, .slice Aa a.f2.length ca] 105 (0, 0))).alloc (.cells #[.int .i64 b.f0, .int .i64 b.f1, .slice Ab b.f2.length cb] 105 (0, 0))).cell? ⟨g6, 1, none⟩ = some (.int .i64 0) := (blk_cell (blk_alloc (blk_alloc BK6.out _) _) 1).trans rfl; have hf6_1 : ((v1.alloc (.cells #[.int .i64 a.f0, .int .i64 a.f1, .slice Aa a.f2.length ca] 105 (0, 0))).alloc (.cells #[.int .i64 b.f0, .int .i64 b.f1, .slice Ab b.f2.length cb] 105 (0, 0))).frozen? ⟨g6, 1, none⟩ = false := blk_frozen (blk_alloc (blk_alloc BK6.out _) _) 1; have hz6_2 : ((v1.alloc (.cells #[.int .i64 a.f0, .int .i64 a.f1, .slice Aa a.f2.length ca] 105 (0, 0))).alloc (.cells #[.int .i64 b.f0, .int .i64 b.f1, .slice Ab b.f2.length cb] 105 (0, 0))).cell? ⟨g6, 2, none⟩ = some (.slice none 0 0) := (blk_cell (blk_alloc (blk_alloc BK6.out _) _) 2).trans rfl; have hf6_2 : ((v1.alloc (.cells #[.int .i64 a.f0, .int .i64 a.f1, .slice Aa a.f2.length ca] 105 (0, 0))).alloc (.cells #[.int .i64 b.f0, .int .i64 b.f1, .slice Ab b.f2.length cb] 105 (0, 0))).frozen? ⟨g6, 2, none⟩ = false := blk_frozen (blk_alloc (blk_alloc BK6.out _) _) 2; have hza : ((v1.alloc (.cells #[.int .i64 a.f0, .int .i64 a.f1, .slice Aa a.f2.length ca] 105 (0, 0))).alloc (.cells #[.int .i64 b.f0, .int .i64 b.f1, .slice Ab b.f2.length cb] 105 (0, 0))).heap[v1.heap.size]? = some (.cells #[.int .i64 a.f0, .int .i64 a.f1, .slice Aa a.f2.length ca] 105 (0, 0)) := blk_alloc (heap_alloc_new v1 _) _; have hzb : ((v1.alloc (.cells #[.int .i64 a.f0, .int .i64 a.f1, .slice Aa a.f2.length ca] 105 (0, 0))).alloc (.cells #[.int .i64 b.f0, .int .i64 b.f1, .slice Ab b.f2.length cb] 105 (0, 0))).heap[v1.heap.size + 1]? = some (.cells #[.int .i64 b.f0, .int .i64 b.f1, .slice Ab b.f2.length cb] 105 (0, 0)) := (by have h_ := heap_alloc_new (v1.alloc (.cells #[.int .i64 a.f0, .int .i64 a.f1, .slice Aa a.f2.length ca] 105 (0, 0))) (.cells #[.int .i64 b.f0, .int .i64 b.f1, .slice Ab b.f2.length cb] 105 (0, 0)); rw [show (v1.alloc (.cells #[.int .i64 a.f0, .int .i64 a.f1, .slice Aa a.f2.length ca] 105 (0, 0))).heap.size = v1.heap.size + 1 from by simp] at h_; exact h_); have ha_0 : ((v1.alloc (.cells #[.int .i64 a.f0, .int .i64 a.f1, .slice Aa a.f2.length ca] 105 (0, 0))).alloc (.cells #[.int .i64 b.f0, .int .i64 b.f1, .slice Ab b.f2.length cb] 105 (0, 0))).cell? ⟨v1.heap.size, 0, none⟩ = some (.int .i64 a.f0) := (blk_cell hza 0).trans rfl; have hb_0 : ((v1.alloc (.cells #[.int .i64 a.f0, .int .i64 a.f1, .slice Aa a.f2.length ca] 105 (0, 0))).alloc (.cells #[.int .i64 b.f0, .int .i64 b.f1, .slice Ab b.f2.length cb] 105 (0, 0))).cell? ⟨v1.heap.size + 1, 0, none⟩ = some (.int .i64 b.f0) := (blk_cell hzb 0).trans rfl; have ha_1 : ((v1.alloc (.cells #[.int .i64 a.f0, .int .i64 a.f1, .slice Aa a.f2.length ca] 105 (0, 0))).alloc (.cells #[.int .i64 b.f0, .int .i64 b.f1, .slice Ab b.f2.length cb] 105 (0, 0))).cell? ⟨v1.heap.size, 1, none⟩ = some (.int .i64 a.f1) := (blk_cell hza 1).trans rfl; have hb_1 : ((v1.alloc (.cells #[.int .i64 a.f0, .int .i64 a.f1, .slice Aa a.f2.length ca] 105 (0, 0))).alloc (.cells #[.int .i64 b.f0, .int .i64 b.f1, .slice Ab b.f2.length cb] 105 (0, 0))).cell? ⟨v1.heap.size + 1, 1, none⟩ = some (.int .i64 b.f1) := (blk_cell hzb 1).trans rfl; have ha_2 : ((v1.alloc (.cells #[.int .i64 a.f0, .int .i64 a.f1, .slice Aa a.f2.length ca] 105 (0, 0))).alloc (.cells #[.int .i64 b.f0, .int .i64 b.f1, .slice Ab b.f2.length cb] 105 (0, 0))).cell? ⟨v1.heap.size, 2, none⟩ = some (.slice Aa a.f2.length ca) := (blk_cell hza 2).trans rfl; have hb_2 : ((v1.alloc (.cells #[.int .i64 a.f0, .int .i64 a.f1, .slice Aa a.f2.length ca] 105 (0, 0))).alloc (.cells #[.int .i64 b.f0, .int .i64 b.f1, .slice Ab b.f2.length cb] 105 (0, 0))).cell? ⟨v1.heap.size + 1, 2, none⟩ = some (.slice Ab b.f2.length cb) := (blk_cell hzb 2).trans rfl; have HZA := Aside0.mk hza; have HZB := Aside0.mk hzb; clear hza hzb) | (go_at_call 121; (with_reducible refine (spec_l6Same.calls k a.f0 a.f1 Aa ca a.f2 b.f0 b.f1 Ab cb b.f2 false _ (Kd.C_below HCa.out (by repeat (first | (with_reducible first | exact HB.out | apply below_alloc | apply pw_below_drewN | apply below_drew1 | refine below_set ?_ G6.out) | exact HB.out))) HLa.out (Kd.C_below HCb.out (by repeat (first | (with_reducible first | exact HB.out | apply below_alloc | apply pw_below_drewN | apply below_drew1 | refine below_set ?_ G6.out) | exact HB.out))) HLb.out HE.out).mono ?_); rintro e_ v2 ⟨rfl, hb⟩; have q6_ := Aside0.mk (blk_below (g := g6) (o := .cells #[.int .i64 0, .int .i64 0, .slice none 0 0] 105 (0, 0)) (by (with_reducible repeat (first | refine blk_drewN ?_ _ | refine blk_drew ?_ | refine blk_alloc ?_ _)); exact BK6.out) hb); have qa_ := Aside0.mk (blk_below HZA.out hb); have n0_ := Aside0.mk (below_step (by repeat (first | (with_reducible first | exact HB.out | apply below_alloc | apply pw_below_drewN | apply below_drew1 | refine below_set ?_ G6.out) | exact HB.out)) hb); clear HB BK6; have HB := n0_; have BK6 := q6_; clear n0_ q6_ hb; have hy6_0 : v2.cell? ⟨g6, 0, none⟩ = some (.int .i64 0) := (blk_cell BK6.out 0).trans rfl; have hg6_0 := blk_frozen BK6.out 0; have hya_0 : v2.cell? ⟨v1.heap.size, 0, none⟩ = some (.int .i64 a.f0) := (blk_cell qa_.out 0).trans rfl; have hy6_1 : v2.cell? ⟨g6, 1, none⟩ = some (.int .i64 0) := (blk_cell BK6.out 1).trans rfl; have hg6_1 := blk_frozen BK6.out 1; have hya_1 : v2.cell? ⟨v1.heap.size, 1, none⟩ = some (.int .i64 a.f1) := (blk_cell qa_.out 1).trans rfl; have hy6_2 : v2.cell? ⟨g6, 2, none⟩ = some (.slice none 0 0) := (blk_cell BK6.out 2).trans rfl; have hg6_2 := blk_frozen BK6.out 2; have hya_2 : v2.cell? ⟨v1.heap.size, 2, none⟩ = some (.slice Aa a.f2.length ca) := (blk_cell qa_.out 2).trans rfl))
      refine bodyPost_ret (results_cell_row rfl _ _ g6 105 #[.int .i64 x, .int .i64 y, .slice (some ad) 2 cu] (0, 0) _ rfl (by (with_reducible repeat (first | refine blk_drewN ?_ _ | refine blk_drew ?_ | refine blk_alloc ?_ _)); refine blk_put (cs := #[.int .i64 x, .int .i64 y, .slice none 0 0]) ?_ 2 _ rfl; (with_reducible repeat (first | refine blk_drewN ?_ _ | refine blk_drew ?_ | refine blk_alloc ?_ _)); refine blk_put (cs := #[.int .i64 x, .int .i64 0, .slice none 0 0]) ?_ 1 _ rfl; (with_reducible repeat (first | refine blk_drewN ?_ _ | refine blk_drew ?_ | refine blk_alloc ?_ _)); refine blk_put (cs := #[.int .i64 0, .int .i64 0, .slice none 0 0]) ?_ 0 _ rfl; (with_reducible repeat (first | refine blk_drewN ?_ _ | refine blk_drew ?_ | refine blk_alloc ?_ _)); exact BK6.out) Try.underlying105 rfl (by kernel_rfl)) rfl ?_
      exact ⟨.slice (some ad) 2 cu, by first | rfl | (simp; done) | (simp [*]; done), Kd.R_below HO.out (by repeat (first | (with_reducible first | exact HB.out | apply below_alloc | apply pw_below_drewN | apply below_drew1 | refine below_set ?_ G6.out) | exact HB.out)), by repeat (first | (with_reducible first | exact HB.out | apply below_alloc | apply pw_below_drewN | apply below_drew1 | refine below_set ?_ G6.out) | exact HB.out)⟩
  rw [if_neg hx6] at hT
  have bx6 : (x == 6) = false := beq_eq_false_iff_ne.2 hx6
  clear hx6
  by_cases hx7 : x = 7
  · rw [if_pos hx7] at hT
    have bx7 : (x == 7) = true := beq_iff_eq.2 hx7
    clear hx7
    rcases ts with _ | ⟨a, _ | ⟨b, l⟩⟩
    · cases hT
    rotate_left
    · cases hT
    simp only at hT
    replace hT := Option.some.inj hT
    obtain ⟨ad, cu, eu, hlc, hel⟩ := at_RM HO.out (by simp)
    replace eu : u = .slice (some ad) 1 cu := eu
    subst eu
    obtain ⟨va, hca0, hca1, hca2, hMa⟩ := hel 0 (by decide) (by simp)
    have ea0 : ad.add (Int.toNat 0 * 3) = ad := by unfold Addr.add; simp
    rw [ea0] at hca0 hca1 hca2
    have hMa : Kd.R k105 105 w w0.heap.size P va a.f2 := hMa
    obtain ⟨Aa, ca, rfl, hla, hCa⟩ := Kd.R_reads hMa
    replace hca0 : w.cell? ad = some (.int .i64 a.f0) := hca0
    replace hca1 : w.cell? ⟨ad.block, ad.off + 1, none⟩ = some (.int .i64 a.f1) := hca1
    have HMa := Aside0.mk hMa
    have HCa := Aside0.mk hCa
    have HLa := Aside0.mk hla
    clear hel hlc ea0 hMa hCa hla
    by_cases ha1 : a.f0 = 1
    · rw [if_pos ha1] at hT
      have ba1 : (a.f0 == 1) = true := beq_iff_eq.2 ha1
      clear ha1
      subst hT
      go_enter Try.func114, Try.ntmps114
      go_wp2_with (((with_reducible refine gate_dst (N := 6) rfl ?_); refine box_event ?hg (N := 6) ?hd (cs := #[.int .i64 0, .int .i64 0, .slice none 0 0]) (t := 105) ?hr ?_; (case hd => rfl); (case hg => rfl); (case hr => first | (go_simp; done) | (go_simp; rfl)); intro g6 hg v1 hbox hb; have G6 := Aside0.mk ((by rw [hg]; exact (below_size (by repeat (first | (with_reducible first | exact HB.out | apply below_alloc | apply pw_below_drewN | apply below_drew1) | exact HB.out)))) : w.heap.size ≤ g6); have n0_ := Aside0.mk (below_step (by repeat (first | (with_reducible first | exact HB.out | apply below_alloc | apply pw_below_drewN | apply below_drew1) | exact HB.out)) hb); clear HB; have HB := n0_; clear n0_; have BK6 := Aside0.mk hbox; clear hb hbox hg; have hhca0_v : v1.cell? ad = some (.int .i64 a.f0) := (Below.cell (show Below w.heap.size w v1 from by repeat (first | (with_reducible first | exact HB.out | apply below_alloc | apply pw_below_drewN | apply below_drew1) | exact HB.out)) (World.block_lt_of_cell? w _ hca0)).trans hca0; have hhca1_v : v1.cell? ⟨ad.block, ad.off + 1, none⟩ = some (.int .i64 a.f1) := (Below.cell (show Below w.heap.size w v1 from by repeat (first | (with_reducible first | exact HB.out | apply below_alloc | apply pw_below_drewN | apply below_drew1) | exact HB.out)) (World.block_lt_of_cell? w _ hca1)).trans hca1; have hhca2_v : v1.cell? ⟨ad.block, ad.off + 2, none⟩ = some (.slice Aa a.f2.length ca) := (Below.cell (show Below w.heap.size w v1 from by repeat (first | (with_reducible first | exact HB.out | apply below_alloc | apply pw_below_drewN | apply below_drew1) | exact HB.out)) (World.block_lt_of_cell? w _ hca2)).trans hca2; have hz6_0 : v1.cell? ⟨g6, 0, none⟩ = some (.int .i64 0) := (blk_cell BK6.out 0).trans rfl; have hf6_0 : v1.frozen? ⟨g6, 0, none⟩ = false := blk_frozen BK6.out 0; have hz6_1 : v1.cell? ⟨g6, 1, none⟩ = some (.int .i64 0) := (blk_cell BK6.out 1).trans rfl; have hf6_1 : v1.frozen? ⟨g6, 1, none⟩ = false := blk_frozen BK6.out 1; have hz6_2 : v1.cell? ⟨g6, 2, none⟩ = some (.slice none 0 0) := (blk_cell BK6.out 2).trans rfl; have hf6_2 : v1.frozen? ⟨g6, 2, none⟩ = false := blk_frozen BK6.out 2))
      refine bodyPost_ret (results_cell_row rfl _ _ g6 105 #[.int .i64 2, .int .i64 0, .slice none 0 0] (0, 0) _ rfl (by (with_reducible repeat (first | refine blk_drewN ?_ _ | refine blk_drew ?_ | refine blk_alloc ?_ _)); refine blk_put (cs := #[.int .i64 2, .int .i64 0, .slice none 0 0]) ?_ 2 _ rfl; (with_reducible repeat (first | refine blk_drewN ?_ _ | refine blk_drew ?_ | refine blk_alloc ?_ _)); refine blk_put (cs := #[.int .i64 2, .int .i64 0, .slice none 0 0]) ?_ 1 _ rfl; (with_reducible repeat (first | refine blk_drewN ?_ _ | refine blk_drew ?_ | refine blk_alloc ?_ _)); refine blk_put (cs := #[.int .i64 0, .int .i64 0, .slice none 0 0]) ?_ 0 _ rfl; (with_reducible repeat (first | refine blk_drewN ?_ _ | refine blk_drew ?_ | refine blk_alloc ?_ _)); exact BK6.out) Try.underlying105 rfl (by kernel_rfl)) rfl ?_
      exact ⟨.slice none 0 0, by first | rfl | (simp; done) | (simp [*]; done), Kd.R_nil _ _ _ _ _, by repeat (first | (with_reducible first | exact HB.out | apply below_alloc | apply pw_below_drewN | apply below_drew1 | refine below_set ?_ G6.out) | exact HB.out)⟩
    rw [if_neg ha1] at hT
    have ba1 : (a.f0 == 1) = false := beq_eq_false_iff_ne.2 ha1
    clear ha1
    by_cases ha2 : a.f0 = 2
    · rw [if_pos ha2] at hT
      have ba2 : (a.f0 == 2) = true := beq_iff_eq.2 ha2
      clear ha2
      subst hT
      go_enter Try.func114, Try.ntmps114
      go_wp2_with (((with_reducible refine gate_dst (N := 6) rfl ?_); refine box_event ?hg (N := 6) ?hd (cs := #[.int .i64 0, .int .i64 0, .slice none 0 0]) (t := 105) ?hr ?_; (case hd => rfl); (case hg => rfl); (case hr => first | (go_simp; done) | (go_simp; rfl)); intro g6 hg v1 hbox hb; have G6 := Aside0.mk ((by rw [hg]; exact (below_size (by repeat (first | (with_reducible first | exact HB.out | apply below_alloc | apply pw_below_drewN | apply below_drew1) | exact HB.out)))) : w.heap.size ≤ g6); have n0_ := Aside0.mk (below_step (by repeat (first | (with_reducible first | exact HB.out | apply below_alloc | apply pw_below_drewN | apply below_drew1) | exact HB.out)) hb); clear HB; have HB := n0_; clear n0_; have BK6 := Aside0.mk hbox; clear hb hbox hg; have hhca0_v : v1.cell? ad = some (.int .i64 a.f0) := (Below.cell (show Below w.heap.size w v1 from by repeat (first | (with_reducible first | exact HB.out | apply below_alloc | apply pw_below_drewN | apply below_drew1) | exact HB.out)) (World.block_lt_of_cell? w _ hca0)).trans hca0; have hhca1_v : v1.cell? ⟨ad.block, ad.off + 1, none⟩ = some (.int .i64 a.f1) := (Below.cell (show Below w.heap.size w v1 from by repeat (first | (with_reducible first | exact HB.out | apply below_alloc | apply pw_below_drewN | apply below_drew1) | exact HB.out)) (World.block_lt_of_cell? w _ hca1)).trans hca1; have hhca2_v : v1.cell? ⟨ad.block, ad.off + 2, none⟩ = some (.slice Aa a.f2.length ca) := (Below.cell (show Below w.heap.size w v1 from by repeat (first | (with_reducible first | exact HB.out | apply below_alloc | apply pw_below_drewN | apply below_drew1) | exact HB.out)) (World.block_lt_of_cell? w _ hca2)).trans hca2; have hz6_0 : v1.cell? ⟨g6, 0, none⟩ = some (.int .i64 0) := (blk_cell BK6.out 0).trans rfl; have hf6_0 : v1.frozen? ⟨g6, 0, none⟩ = false := blk_frozen BK6.out 0; have hz6_1 : v1.cell? ⟨g6, 1, none⟩ = some (.int .i64 0) := (blk_cell BK6.out 1).trans rfl; have hf6_1 : v1.frozen? ⟨g6, 1, none⟩ = false := blk_frozen BK6.out 1; have hz6_2 : v1.cell? ⟨g6, 2, none⟩ = some (.slice none 0 0) := (blk_cell BK6.out 2).trans rfl; have hf6_2 : v1.frozen? ⟨g6, 2, none⟩ = false := blk_frozen BK6.out 2))
      refine bodyPost_ret (results_cell_row rfl _ _ g6 105 #[.int .i64 2, .int .i64 0, .slice none 0 0] (0, 0) _ rfl (by (with_reducible repeat (first | refine blk_drewN ?_ _ | refine blk_drew ?_ | refine blk_alloc ?_ _)); refine blk_put (cs := #[.int .i64 2, .int .i64 0, .slice none 0 0]) ?_ 2 _ rfl; (with_reducible repeat (first | refine blk_drewN ?_ _ | refine blk_drew ?_ | refine blk_alloc ?_ _)); refine blk_put (cs := #[.int .i64 2, .int .i64 0, .slice none 0 0]) ?_ 1 _ rfl; (with_reducible repeat (first | refine blk_drewN ?_ _ | refine blk_drew ?_ | refine blk_alloc ?_ _)); refine blk_put (cs := #[.int .i64 0, .int .i64 0, .slice none 0 0]) ?_ 0 _ rfl; (with_reducible repeat (first | refine blk_drewN ?_ _ | refine blk_drew ?_ | refine blk_alloc ?_ _)); exact BK6.out) Try.underlying105 rfl (by kernel_rfl)) rfl ?_
      exact ⟨.slice none 0 0, by first | rfl | (simp; done) | (simp [*]; done), Kd.R_nil _ _ _ _ _, by repeat (first | (with_reducible first | exact HB.out | apply below_alloc | apply pw_below_drewN | apply below_drew1 | refine below_set ?_ G6.out) | exact HB.out)⟩
    rw [if_neg ha2] at hT
    have ba2 : (a.f0 == 2) = false := beq_eq_false_iff_ne.2 ha2
    clear ha2
    by_cases ha7 : a.f0 = 7
    · rw [if_pos ha7] at hT
      have ba7 : (a.f0 == 7) = true := beq_iff_eq.2 ha7
      clear ha7
      subst hT
      go_enter Try.func114, Try.ntmps114
      go_wp2_with (((with_reducible refine gate_dst (N := 6) rfl ?_); refine box_event ?hg (N := 6) ?hd (cs := #[.int .i64 0, .int .i64 0, .slice none 0 0]) (t := 105) ?hr ?_; (case hd => rfl); (case hg => rfl); (case hr => first | (go_simp; done) | (go_simp; rfl)); intro g6 hg v1 hbox hb; have G6 := Aside0.mk ((by rw [hg]; exact (below_size (by repeat (first | (with_reducible first | exact HB.out | apply below_alloc | apply pw_below_drewN | apply below_drew1) | exact HB.out)))) : w.heap.size ≤ g6); have n0_ := Aside0.mk (below_step (by repeat (first | (with_reducible first | exact HB.out | apply below_alloc | apply pw_below_drewN | apply below_drew1) | exact HB.out)) hb); clear HB; have HB := n0_; clear n0_; have BK6 := Aside0.mk hbox; clear hb hbox hg; have hhca0_v : v1.cell? ad = some (.int .i64 a.f0) := (Below.cell (show Below w.heap.size w v1 from by repeat (first | (with_reducible first | exact HB.out | apply below_alloc | apply pw_below_drewN | apply below_drew1) | exact HB.out)) (World.block_lt_of_cell? w _ hca0)).trans hca0; have hhca1_v : v1.cell? ⟨ad.block, ad.off + 1, none⟩ = some (.int .i64 a.f1) := (Below.cell (show Below w.heap.size w v1 from by repeat (first | (with_reducible first | exact HB.out | apply below_alloc | apply pw_below_drewN | apply below_drew1) | exact HB.out)) (World.block_lt_of_cell? w _ hca1)).trans hca1; have hhca2_v : v1.cell? ⟨ad.block, ad.off + 2, none⟩ = some (.slice Aa a.f2.length ca) := (Below.cell (show Below w.heap.size w v1 from by repeat (first | (with_reducible first | exact HB.out | apply below_alloc | apply pw_below_drewN | apply below_drew1) | exact HB.out)) (World.block_lt_of_cell? w _ hca2)).trans hca2; have hz6_0 : v1.cell? ⟨g6, 0, none⟩ = some (.int .i64 0) := (blk_cell BK6.out 0).trans rfl; have hf6_0 : v1.frozen? ⟨g6, 0, none⟩ = false := blk_frozen BK6.out 0; have hz6_1 : v1.cell? ⟨g6, 1, none⟩ = some (.int .i64 0) := (blk_cell BK6.out 1).trans rfl; have hf6_1 : v1.frozen? ⟨g6, 1, none⟩ = false := blk_frozen BK6.out 1; have hz6_2 : v1.cell? ⟨g6, 2, none⟩ = some (.slice none 0 0) := (blk_cell BK6.out 2).trans rfl; have hf6_2 : v1.frozen? ⟨g6, 2, none⟩ = false := blk_frozen BK6.out 2))
      refine bodyPost_ret (results_cell_row rfl _ _ g6 105 #[.int .i64 a.f0, .int .i64 a.f1, .slice Aa a.f2.length ca] (0, 0) _ rfl (by (with_reducible repeat (first | refine blk_drewN ?_ _ | refine blk_drew ?_ | refine blk_alloc ?_ _)); refine blk_put (cs := #[.int .i64 a.f0, .int .i64 a.f1, .slice none 0 0]) ?_ 2 _ rfl; (with_reducible repeat (first | refine blk_drewN ?_ _ | refine blk_drew ?_ | refine blk_alloc ?_ _)); refine blk_put (cs := #[.int .i64 a.f0, .int .i64 0, .slice none 0 0]) ?_ 1 _ rfl; (with_reducible repeat (first | refine blk_drewN ?_ _ | refine blk_drew ?_ | refine blk_alloc ?_ _)); refine blk_put (cs := #[.int .i64 0, .int .i64 0, .slice none 0 0]) ?_ 0 _ rfl; (with_reducible repeat (first | refine blk_drewN ?_ _ | refine blk_drew ?_ | refine blk_alloc ?_ _)); exact BK6.out) Try.underlying105 rfl (by kernel_rfl)) rfl ?_
      exact ⟨.slice Aa a.f2.length ca, by first | rfl | (simp; done) | (simp [*]; done), Kd.R_below HMa.out (by repeat (first | (with_reducible first | exact HB.out | apply below_alloc | apply pw_below_drewN | apply below_drew1 | refine below_set ?_ G6.out) | exact HB.out)), by repeat (first | (with_reducible first | exact HB.out | apply below_alloc | apply pw_below_drewN | apply below_drew1 | refine below_set ?_ G6.out) | exact HB.out)⟩
    rw [if_neg ha7] at hT
    have ba7 : (a.f0 == 7) = false := beq_eq_false_iff_ne.2 ha7
    clear ha7
    subst hT
    go_enter Try.func114, Try.ntmps114
    go_wp2_with (((with_reducible refine gate_dst (N := 6) rfl ?_); refine box_event ?hg (N := 6) ?hd (cs := #[.int .i64 0, .int .i64 0, .slice none 0 0]) (t := 105) ?hr ?_; (case hd => rfl); (case hg => rfl); (case hr => first | (go_simp; done) | (go_simp; rfl)); intro g6 hg v1 hbox hb; have G6 := Aside0.mk ((by rw [hg]; exact (below_size (by repeat (first | (with_reducible first | exact HB.out | apply below_alloc | apply pw_below_drewN | apply below_drew1) | exact HB.out)))) : w.heap.size ≤ g6); have n0_ := Aside0.mk (below_step (by repeat (first | (with_reducible first | exact HB.out | apply below_alloc | apply pw_below_drewN | apply below_drew1) | exact HB.out)) hb); clear HB; have HB := n0_; clear n0_; have BK6 := Aside0.mk hbox; clear hb hbox hg; have hhca0_v : v1.cell? ad = some (.int .i64 a.f0) := (Below.cell (show Below w.heap.size w v1 from by repeat (first | (with_reducible first | exact HB.out | apply below_alloc | apply pw_below_drewN | apply below_drew1) | exact HB.out)) (World.block_lt_of_cell? w _ hca0)).trans hca0; have hhca1_v : v1.cell? ⟨ad.block, ad.off + 1, none⟩ = some (.int .i64 a.f1) := (Below.cell (show Below w.heap.size w v1 from by repeat (first | (with_reducible first | exact HB.out | apply below_alloc | apply pw_below_drewN | apply below_drew1) | exact HB.out)) (World.block_lt_of_cell? w _ hca1)).trans hca1; have hhca2_v : v1.cell? ⟨ad.block, ad.off + 2, none⟩ = some (.slice Aa a.f2.length ca) := (Below.cell (show Below w.heap.size w v1 from by repeat (first | (with_reducible first | exact HB.out | apply below_alloc | apply pw_below_drewN | apply below_drew1) | exact HB.out)) (World.block_lt_of_cell? w _ hca2)).trans hca2; have hz6_0 : v1.cell? ⟨g6, 0, none⟩ = some (.int .i64 0) := (blk_cell BK6.out 0).trans rfl; have hf6_0 : v1.frozen? ⟨g6, 0, none⟩ = false := blk_frozen BK6.out 0; have hz6_1 : v1.cell? ⟨g6, 1, none⟩ = some (.int .i64 0) := (blk_cell BK6.out 1).trans rfl; have hf6_1 : v1.frozen? ⟨g6, 1, none⟩ = false := blk_frozen BK6.out 1; have hz6_2 : v1.cell? ⟨g6, 2, none⟩ = some (.slice none 0 0) := (blk_cell BK6.out 2).trans rfl; have hf6_2 : v1.frozen? ⟨g6, 2, none⟩ = false := blk_frozen BK6.out 2))
    refine bodyPost_ret (results_cell_row rfl _ _ g6 105 #[.int .i64 x, .int .i64 y, .slice (some ad) 1 cu] (0, 0) _ rfl (by (with_reducible repeat (first | refine blk_drewN ?_ _ | refine blk_drew ?_ | refine blk_alloc ?_ _)); refine blk_put (cs := #[.int .i64 x, .int .i64 y, .slice none 0 0]) ?_ 2 _ rfl; (with_reducible repeat (first | refine blk_drewN ?_ _ | refine blk_drew ?_ | refine blk_alloc ?_ _)); refine blk_put (cs := #[.int .i64 x, .int .i64 0, .slice none 0 0]) ?_ 1 _ rfl; (with_reducible repeat (first | refine blk_drewN ?_ _ | refine blk_drew ?_ | refine blk_alloc ?_ _)); refine blk_put (cs := #[.int .i64 0, .int .i64 0, .slice none 0 0]) ?_ 0 _ rfl; (with_reducible repeat (first | refine blk_drewN ?_ _ | refine blk_drew ?_ | refine blk_alloc ?_ _)); exact BK6.out) Try.underlying105 rfl (by kernel_rfl)) rfl ?_
    exact ⟨.slice (some ad) 1 cu, by first | rfl | (simp; done) | (simp [*]; done), Kd.R_below HO.out (by repeat (first | (with_reducible first | exact HB.out | apply below_alloc | apply pw_below_drewN | apply below_drew1 | refine below_set ?_ G6.out) | exact HB.out)), by repeat (first | (with_reducible first | exact HB.out | apply below_alloc | apply pw_below_drewN | apply below_drew1 | refine below_set ?_ G6.out) | exact HB.out)⟩
  rw [if_neg hx7] at hT
  have bx7 : (x == 7) = false := beq_eq_false_iff_ne.2 hx7
  clear hx7
  obtain rfl := Option.some.inj hT
  obtain ⟨Au, cu, rfl, hlu, hCu⟩ := Kd.R_reads HO.out
  clear hlu hCu
  go_enter Try.func114, Try.ntmps114
  go_wp2_with (((with_reducible refine gate_dst (N := 6) rfl ?_); refine box_event ?hg (N := 6) ?hd (cs := #[.int .i64 0, .int .i64 0, .slice none 0 0]) (t := 105) ?hr ?_; (case hd => rfl); (case hg => rfl); (case hr => first | (go_simp; done) | (go_simp; rfl)); intro g6 hg v1 hbox hb; have G6 := Aside0.mk ((by rw [hg]; exact (below_size (by repeat (first | (with_reducible first | exact HB.out | apply below_alloc | apply pw_below_drewN | apply below_drew1) | exact HB.out)))) : w.heap.size ≤ g6); have n0_ := Aside0.mk (below_step (by repeat (first | (with_reducible first | exact HB.out | apply below_alloc | apply pw_below_drewN | apply below_drew1) | exact HB.out)) hb); clear HB; have HB := n0_; clear n0_; have BK6 := Aside0.mk hbox; clear hb hbox hg; have hz6_0 : v1.cell? ⟨g6, 0, none⟩ = some (.int .i64 0) := (blk_cell BK6.out 0).trans rfl; have hf6_0 : v1.frozen? ⟨g6, 0, none⟩ = false := blk_frozen BK6.out 0; have hz6_1 : v1.cell? ⟨g6, 1, none⟩ = some (.int .i64 0) := (blk_cell BK6.out 1).trans rfl; have hf6_1 : v1.frozen? ⟨g6, 1, none⟩ = false := blk_frozen BK6.out 1; have hz6_2 : v1.cell? ⟨g6, 2, none⟩ = some (.slice none 0 0) := (blk_cell BK6.out 2).trans rfl; have hf6_2 : v1.frozen? ⟨g6, 2, none⟩ = false := blk_frozen BK6.out 2))
  refine bodyPost_ret (results_cell_row rfl _ _ g6 105 #[.int .i64 x, .int .i64 y, .slice Au ts.length cu] (0, 0) _ rfl (by (with_reducible repeat (first | refine blk_drewN ?_ _ | refine blk_drew ?_ | refine blk_alloc ?_ _)); refine blk_put (cs := #[.int .i64 x, .int .i64 y, .slice none 0 0]) ?_ 2 _ rfl; (with_reducible repeat (first | refine blk_drewN ?_ _ | refine blk_drew ?_ | refine blk_alloc ?_ _)); refine blk_put (cs := #[.int .i64 x, .int .i64 0, .slice none 0 0]) ?_ 1 _ rfl; (with_reducible repeat (first | refine blk_drewN ?_ _ | refine blk_drew ?_ | refine blk_alloc ?_ _)); refine blk_put (cs := #[.int .i64 0, .int .i64 0, .slice none 0 0]) ?_ 0 _ rfl; (with_reducible repeat (first | refine blk_drewN ?_ _ | refine blk_drew ?_ | refine blk_alloc ?_ _)); exact BK6.out) Try.underlying105 rfl (by kernel_rfl)) rfl ?_
  exact ⟨.slice Au ts.length cu, by first | rfl | (simp; done) | (simp [*]; done), Kd.R_below HO.out (by repeat (first | (with_reducible first | exact HB.out | apply below_alloc | apply pw_below_drewN | apply below_drew1 | refine below_set ?_ G6.out) | exact HB.out)), by repeat (first | (with_reducible first | exact HB.out | apply below_alloc | apply pw_below_drewN | apply below_drew1 | refine below_set ?_ G6.out) | exact HB.out)⟩
/-! ### spec_l6Tidy: function 96 -/
def stidyK (p : Int → Int → List S105 → Option S105) : List S105 → List S105 → Option (List S105)
  | [], out => some out
  | x :: xs, out => if out.length < 1000000 then (p x.f0 x.f1 x.f2).bind fun q => stidyK p xs (out ++ [q]) else none
def spec_l6Tidy.f : Nat → Int → Int → List S105 → Option S105
  | 0, _, _, _ => none
  | k + 1, x, y, ks => (stidyK (spec_l6Tidy.f k) ks []).bind fun us => spec_l6Make.f k x y us
set_option maxHeartbeats 8000000 in
set_option maxRecDepth 100000 in
theorem spec_l6Tidy.calls : ∀ (k : Nat) (x y : Int) (A : Option Addr) (c : Nat) (ks : List S105) (r : S105) (w : World), Kd.C k105 w A ks.length ks → ks.length ≤ c → spec_l6Tidy.f k x y ks = some r →
    Calls Try.prog 96 #[.agg #[.int .i64 x, .int .i64 y, .slice A ks.length c]] w fun e w' => ∃ v, e = .returned (.agg #[.int .i64 r.f0, .int .i64 r.f1, v]) ∧ Kd.R k105 105 w' w.heap.size (fun _ => True) v r.f2 ∧ Below w.heap.size w w'
  | 0, x, y, A, c, ks, r, w, hC, hc, h => by simp [spec_l6Tidy.f] at h
  | k + 1, x, y, A, c, ks, r, w, hC, hc, h => by
    have ih := spec_l6Tidy.calls k
    have hu105 := Try.underlying105
    simp only [spec_l6Tidy.f] at h
    obtain ⟨us, hus, h⟩ := Option.bind_eq_some_iff.mp h
    have HL := Aside0.mk (Kd.C_max hC)
    have HC := Aside0.mk hC
    have HMK := Aside0.mk h
    have HB := Aside0.mk (Below.refl w.heap.size w)
    have HF := Aside0.mk (show stidyK (spec_l6Tidy.f k) (ks.drop (0 : Int).toNat) [] = some us from hus)
    clear h hus hC
    go_enter Try.func96, Try.ntmps96
    go_wp2_with (((with_reducible refine gate_dst (N := 1) rfl ?_); refine box_event ?hg (N := 1) ?hd (cs := #[.int .i64 x, .int .i64 y, .slice A ks.length c]) (t := 105) ?hr ?_; (case hd => rfl); (case hg => rfl); (case hr => first | (go_simp; done) | (go_simp; rfl)); intro g1 hg w1 hbox hb; have n0_ := Aside0.mk (below_step bq hb); have BK := Aside0.mk hbox; clear HB; have HB := n0_; clear n0_; clear hb hbox hg; have hy2 : ∀ o, (w1.alloc o).cell? ⟨g1, 2, none⟩ = some (.slice A ks.length c) := fun o => (blk_cell (blk_alloc BK.out o) 2).trans rfl))
    obtain ⟨g2, hg2⟩ : ∃ g2, g2 = w1.heap.size := ⟨_, rfl⟩
    have hn2 : (w1.alloc (.cells #[.int .i64 0, .int .i64 0, .slice none 0 0] 105)).heap[g2]? = some (.cells #[.int .i64 0, .int .i64 0, .slice none 0 0] 105) := by rw [hg2]; exact heap_alloc_new _ _
    have G2 := Aside0.mk (show w.heap.size ≤ g2 by rw [hg2]; exact below_size HB.out)
    have NE := Aside0.mk (show g1 ≠ g2 by have := blk_lt BK.out; omega)
    have hnb : (w1.alloc (.cells #[.int .i64 0, .int .i64 0, .slice none 0 0] 105)).heap[g1]? = some (.cells #[.int .i64 x, .int .i64 y, .slice A ks.length c] 105 (0, 0)) := blk_alloc BK.out _
    have hB1 : Below w.heap.size w (w1.alloc (.cells #[.int .i64 0, .int .i64 0, .slice none 0 0] 105)) := below_alloc HB.out _
    rw [← hg2]
    obtain ⟨w2, hw2⟩ : ∃ w2, w2 = w1.alloc (.cells #[.int .i64 0, .int .i64 0, .slice none 0 0] 105) := ⟨_, rfl⟩
    rw [← hw2] at hn2 hnb hB1 ⊢
    have BK1 := Aside0.mk hnb
    have BKO := Aside0.mk hn2
    have HB1 := Aside0.mk hB1
    clear HB BK hg2 hw2 hy2 hn2 hnb hB1
    have HB := HB1
    have BK := BK1
    clear HB1 BK1
    go_loopg [3, 9] (ks.length) (fun m v3 v9 w' => ∃ (i : Int) (out : List S105) (Au : Option Addr) (cu : Nat), v3 = .slice Au out.length cu ∧ v9 = .int .i64 i ∧ Aside0 (0 ≤ i ∧ i + m = (ks.length : Int)) ∧ Aside0 (stidyK (spec_l6Tidy.f k) (ks.drop i.toNat) out = some us) ∧ Aside0 (Kd.R k105 105 w' w.heap.size (fun k_ => k_ ≠ g2 ∧ k_ ≠ g1) (.slice Au out.length cu) out) ∧ Aside0 (w'.heap[g1]? = some (.cells #[.int .i64 x, .int .i64 y, .slice A ks.length c] 105 (0, 0))) ∧ Aside0 (w'.heap[g2]? = some (.cells #[.int .i64 0, .int .i64 0, .slice none 0 0] 105 (0, 0))) ∧ Aside0 (Below w.heap.size w w'))
    case atStart => exact ⟨0, [], none, 0, rfl, rfl, ⟨by omega⟩, HF, ⟨Kd.R_nil _ _ _ _ _⟩, ⟨btq⟩, ⟨btq⟩, ⟨bq⟩⟩
    case round =>
      clear HB HF BK BKO
      obtain ⟨i, out, Au, cu, rfl, rfl, HI, HF, HO, BK, BKO, HB⟩ := hrel
      cases gk with
      | zero =>
        have hi := HI.out
        have b0 : decide (i < (ks.length : Int)) = false := decide_eq_false (by omega)
        have hF := HF.out
        rw [List.drop_eq_nil_of_le (by omega)] at hF
        simp only [stidyK, Option.some.injEq] at hF
        subst hF
        have hz0 : wr.cell? ⟨g1, 0, none⟩ = some (.int .i64 x) := (blk_cell BK.out 0).trans rfl
        have hz1 : wr.cell? ⟨g1, 1, none⟩ = some (.int .i64 y) := (blk_cell BK.out 1).trans rfl
        clear hi HI HF
        go_wp2_with ((go_at_call 114; (with_reducible refine (spec_l6Make.calls k x y _ _ r (fun k_ => k_ ≠ g2 ∧ k_ ≠ g1) w _ ?kb ?ko HMK.out).mono ?_); (case ko => exact (by (with_reducible repeat (first | apply Kd.R_alloc | apply Kd.R_drewN | apply Kd.R_drew)); exact HO.out)); (case kb => exact bq); rintro e_ w7 ⟨v7, rfl, ho, hb⟩; have n0_ := Aside0.mk (below_step bq hb); have n1_ := Aside0.mk (blk_below (g := g2) (o := .cells #[.int .i64 0, .int .i64 0, .slice none 0 0] 105 (0, 0)) btq hb); clear HB BKO BK; have HB := n0_; have BKO := n1_; clear n0_ n1_; obtain ⟨Av, cv, rfl⟩ := Kd.R_slice ho; have HV := Aside0.mk ho; clear ho hb; have hq0 : w7.cell? ⟨g2, 0, none⟩ = some (.int .i64 0) := (blk_cell BKO.out 0).trans rfl; have hq1 : w7.cell? ⟨g2, 1, none⟩ = some (.int .i64 0) := (blk_cell BKO.out 1).trans rfl; have hq2 : w7.cell? ⟨g2, 2, none⟩ = some (.slice none 0 0) := (blk_cell BKO.out 2).trans rfl; have hf0 := blk_frozen BKO.out 0; have hf1 := blk_frozen BKO.out 1; have hf2 := blk_frozen BKO.out 2))
        refine bodyPost_ret (results_cell_row rfl _ _ g2 105 #[.int .i64 r.f0, .int .i64 r.f1, .slice Av r.f2.length cv] (0, 0) _ rfl (by (with_reducible repeat (first | refine blk_drewN ?_ _ | refine blk_drew ?_ | refine blk_alloc ?_ _)); refine blk_put (cs := #[.int .i64 r.f0, .int .i64 r.f1, .slice none 0 0]) ?_ 2 _ rfl; (with_reducible repeat (first | refine blk_drewN ?_ _ | refine blk_drew ?_ | refine blk_alloc ?_ _)); refine blk_put (cs := #[.int .i64 r.f0, .int .i64 0, .slice none 0 0]) ?_ 1 _ rfl; (with_reducible repeat (first | refine blk_drewN ?_ _ | refine blk_drew ?_ | refine blk_alloc ?_ _)); refine blk_put (cs := #[.int .i64 0, .int .i64 0, .slice none 0 0]) ?_ 0 _ rfl; exact btq) Try.underlying105 rfl (by kernel_rfl)) rfl ?_
        exact ⟨_, rfl, Kd.R_mono (Kd.R_far (p := ⟨g2, 2, none⟩) (Kd.R_far (p := ⟨g2, 1, none⟩) (Kd.R_far (p := ⟨g2, 0, none⟩) HV.out (fun _ hk => hk.1) _) (fun _ hk => hk.1) _) (fun _ hk => hk.1) _) (fun _ _ => trivial), by repeat (first | (with_reducible first | exact HB.out | apply below_alloc | apply pw_below_drewN | apply below_drew1 | refine below_set ?_ G2.out) | exact HB.out)⟩
      | succ m =>
        have hi := HI.out
        have c0 : 0 ≤ i := hi.1
        have c1 : i < (ks.length : Int) := by omega
        have hF := HF.out
        have hd := (drop_rd ks i c0 c1).resolve_right (by have := HL.out; omega)
        rw [hd] at hF
        simp only [stidyK] at hF
        by_cases hlt : out.length < 1000000
        case neg => rw [if_neg hlt] at hF; cases hF
        rw [if_pos hlt] at hF
        obtain ⟨q, h1, hF⟩ := Option.bind_eq_some_iff.mp hF
        obtain ⟨ad, Ak, ck, rfl, hx0, hx1, hx2, hlk, hCk⟩ := at_T105 HC.out i c0 c1
        replace hx0 := (HB.out.cell (World.block_lt_of_cell? w _ hx0)).trans hx0
        replace hx1 := (HB.out.cell (World.block_lt_of_cell? w _ hx1)).trans hx1
        replace hx2 := (HB.out.cell (World.block_lt_of_cell? w _ hx2)).trans hx2
        have HCk := Aside0.mk hCk
        have HLk := Aside0.mk hlk
        have H1 := Aside0.mk h1
        have HLT := Aside0.mk hlt
        have HJ := Aside0.mk (show 0 ≤ wrap64 (i + 1) ∧ wrap64 (i + 1) + (m : Int) = (ks.length : Int) by have := HL.out; unfold wrap64; omega)
        have HKK := Aside0.mk (show ∀ k_, wr.heap.size ≤ k_ → (k_ ≠ g2 ∧ k_ ≠ g1) ∧ some k_ ≠ (Value.slice Au out.length cu).ownBlock from fun k_ hk_ => ⟨⟨fun e_ => by have := blk_lt BKO.out; omega, fun e_ => by have := blk_lt BK.out; omega⟩, fun e_ => by have := ((Kd.R_bound HO.out).1 k_ e_.symm).2.2.1; omega⟩)
        have b1 : decide (i < (ks.length : Int)) = true := decide_eq_true c1
        obtain ⟨o2, ho2⟩ : ∃ o2, o2 = out ++ [q] := ⟨_, rfl⟩
        rw [← ho2] at hF
        have HO2 := Aside0.mk ho2
        have HF1 := Aside0.mk hF
        have q0 := eq_true c0
        have q1 := eq_true c1
        clear c0 c1 hi HI hF HF hd hCk h1 hlk hlt ho2
        go_wp2_with (first | (go_at_call 96; (with_reducible refine (ih (rd_T105 ks i).f0 (rd_T105 ks i).f1 Ak ck (rd_T105 ks i).f2 q _ ?kc HLk.out H1.out).mono ?_); (case kc => exact Kd.C_below HCk.out bq); rintro e_ w3 ⟨v5, rfl, ho, hb⟩; have n0_ := Aside0.mk (below_step bq hb); have n1_ := Aside0.mk (Kd.R_below (by (with_reducible repeat (first | apply Kd.R_alloc | apply Kd.R_drewN | apply Kd.R_drew)); exact HO.out) hb); have n2_ := Aside0.mk (blk_below (g := g1) (o := .cells #[.int .i64 x, .int .i64 y, .slice (some ad) ks.length c] 105 (0, 0)) btq hb); have n3_ := Aside0.mk (blk_below (g := g2) (o := .cells #[.int .i64 0, .int .i64 0, .slice none 0 0] 105 (0, 0)) btq hb); have n4_ : Aside0 (Kd.R k105 105 w3 w.heap.size (fun k_ => wr.heap.size ≤ k_) v5 q.f2) := ⟨Kd.R_lower (Kd.R_mono (Kd.R_bound ho) (fun k_ hk => by have h_ := hk.2.1; simp at h_; omega)) (below_size bq)⟩; clear HB HO BK BKO; have HB := n0_; have HO := n1_; have BK := n2_; have BKO := n3_; have HV := n4_; clear n0_ n1_ n2_ n3_ n4_ ho hb) | ((with_reducible refine gate_builtin (b := .append) (xs := #[.tmp 13, .tmp 16]) rfl ?_); (try (refine gate_guard (by rfl) ?_; dsimp only)); at_builtin; refine Kd.R_append k105 (w0 := w) w.heap.size rfl (.tmp 13) (.tmp 16) 103 105 (.agg #[(.int .i64 0), (.int .i64 0), (.slice none 0 0)]) 40 rfl Try.underlying103 info105 rfl (by decide) (by omega) (.slice Au out.length cu) out q [.int .i64 q.f0, .int .i64 q.f1, v5] (fun k_ => k_ ≠ g2 ∧ k_ ≠ g1) (fun k_ => wr.heap.size ≤ k_) rfl (by first | (go_simp; done) | (go_simp; rfl)) ?aP ?aK ?aF ?aO ?aB ?aS ?aL ?_; (case aP => exact k105_mkM _ _ _ q (by (with_reducible repeat (first | apply Kd.R_alloc | apply Kd.R_drewN | apply Kd.R_drew)); exact HV.out)); (case aK => exact HKK.out); (case aF => exact fun k_ hk_ => ⟨Nat.ne_of_gt (Nat.lt_of_lt_of_le (blk_lt BKO.out) hk_), Nat.ne_of_gt (Nat.lt_of_lt_of_le (blk_lt BK.out) hk_)⟩); (case aO => exact (by (with_reducible repeat (first | apply Kd.R_alloc | apply Kd.R_drewN | apply Kd.R_drew)); exact HO.out)); (case aB => exact bq); (case aS => exact below_size bq); (case aL => have := HLT.out; omega); intro v6 w4 ho hb hg hat; rw [← HO2.out] at ho; have n1_ := Aside0.mk (blk_grown (g := g1) (o := .cells #[.int .i64 x, .int .i64 y, .slice (some ad) ks.length c] 105 (0, 0)) btq hg (fun e_ => (HO.out.1 g1 e_.symm).2 rfl)); have n2_ := Aside0.mk (blk_grown (g := g2) (o := .cells #[.int .i64 0, .int .i64 0, .slice none 0 0] 105 (0, 0)) btq hg (fun e_ => (HO.out.1 g2 e_.symm).1 rfl)); have n3_ := Aside0.mk ho; have n4_ := Aside0.mk hb; clear HO BK BKO HB; have HO := n3_; have BK := n1_; have BKO := n2_; have HB := n4_; clear n1_ n2_ n3_ n4_ ho hb hg hat; obtain ⟨Ao1, co1, eo1⟩ := Kd.R_slice HO.out; subst eo1))
        go_roundg m
        case measure => omega
        case rel => exact ⟨wrap64 (i + 1), o2, Ao1, co1, (by first | rfl | (simp; done) | (simp [*]; done)), (by first | rfl | (simp; done) | (simp [*]; done)), HJ, HF1, ⟨by (with_reducible repeat (first | apply Kd.R_alloc | apply Kd.R_drewN | apply Kd.R_drew)); exact HO.out⟩, ⟨btq⟩, ⟨btq⟩, ⟨bq⟩⟩
theorem flatK_mono {p p' : Int → Int → List S105 → List S109 → Option (List S109)} (h : ∀ x y ks l, LeO (p x y ks l) (p' x y ks l)) : ∀ (xs : List S105) (out : List S109), LeO (flatK p xs out) (flatK p' xs out)
  | [], out => LeO.refl _
  | x :: xs, out => LeO.bind (h _ _ _ _) (fun l => flatK_mono h xs _)
theorem spec_l6Flat.mono : ∀ (k : Nat) (x y : Int) (ks : List S105) (l : List S109), LeO (spec_l6Flat.f k x y ks l) (spec_l6Flat.f (k + 1) x y ks l)
  | 0, x, y, ks, l => fun r h => by simp [spec_l6Flat.f] at h
  | k + 1, x, y, ks, l => LeO.ite (flatK_mono (spec_l6Flat.mono k) _ _) (LeO.refl _)
theorem makeF_mono {e e' : S105 → S105 → Option Bool} (he : ∀ x y, LeO (e x y) (e' x y)) (x y : Int) (ks : List S105) : LeO (makeF e x y ks) (makeF e' x y ks) := by
  unfold makeF
  refine LeO.ite (LeO.refl _) (LeO.ite ?_ (LeO.refl _))
  rcases ks with _ | ⟨a, _ | ⟨b, _ | ⟨c, l⟩⟩⟩
  · exact LeO.refl _
  · exact LeO.refl _
  · exact LeO.ite (LeO.refl _) (LeO.ite (LeO.refl _) (LeO.bind (he _ _) (fun _ => LeO.refl _)))
  · exact LeO.refl _
theorem spec_l6Make.mono (k : Nat) (x y : Int) (ks : List S105) : LeO (spec_l6Make.f k x y ks) (spec_l6Make.f (k + 1) x y ks) := makeF_mono (fun a b => spec_l6Same.mono _ _ _ _ _ _ k) _ _ _
theorem stidyK_mono {p p' : Int → Int → List S105 → Option S105} (h : ∀ x y ks, LeO (p x y ks) (p' x y ks)) : ∀ (xs out : List S105), LeO (stidyK p xs out) (stidyK p' xs out)
  | [], out => LeO.refl _
  | x :: xs, out => LeO.ite (LeO.bind (h _ _ _) (fun _ => stidyK_mono h xs _)) (LeO.refl _)
theorem spec_l6Tidy.mono : ∀ (k : Nat) (x y : Int) (ks : List S105), LeO (spec_l6Tidy.f k x y ks) (spec_l6Tidy.f (k + 1) x y ks)
  | 0, x, y, ks => fun r h => by simp [spec_l6Tidy.f] at h
  | k + 1, x, y, ks => LeO.bind (stidyK_mono (spec_l6Tidy.mono k) _ _) (fun us => spec_l6Make.mono k _ _ _)
/-! ### spec_TidyRegex: function 54 -/
def spec_TidyRegex.f (k : Nat) (l0 : List S109) : Option (List S109 × Bool) := (spec_l6Tree.f k l0).bind fun t => (if t.2.2.2 = true then ((spec_l6Tidy.f k t.1 t.2.1 t.2.2.1).bind fun y => ((spec_l6Flat.f k y.f0 y.f1 y.f2 []).bind fun c => (some (c, true)))) else (some ([], false)))
theorem spec_TidyRegex.mono : ∀ a0 k, LeO (spec_TidyRegex.f k a0) (spec_TidyRegex.f (k + 1) a0) := by
  intro a0 k
  unfold spec_TidyRegex.f
  exact LeO.bind (spec_l6Tree.mono _ _) (fun t => LeO.ite (LeO.bind (spec_l6Tidy.mono _ _ _ _) (fun y => LeO.bind (spec_l6Flat.mono _ _ _ _ _) (fun _ => LeO.refl _))) (LeO.refl _))
set_option maxHeartbeats 8000000 in
set_option maxRecDepth 100000 in
theorem spec_TidyRegex.calls (k : Nat) (A0 : Option Addr) (c0 : Nat) (l0 : List S109) (r1 : List S109) (r2 : Bool) (w : World) (hr0 : Kd.C k109 w A0 l0.length l0) (hc0 : l0.length ≤ c0) (h : spec_TidyRegex.f k l0 = some (r1, r2)) :
    Calls Try.prog 54 #[.slice A0 l0.length c0] w fun e w' => ∃ v1_ : Value, e = .returned (.tuple #[v1_, .bool r2]) ∧ Kd.R k109 109 w' w.heap.size (fun _ => True) v1_ r1 ∧ Below w.heap.size w w' := by
  have hu105 := Try.underlying105
  have HB := Aside0.mk (Below.refl w.heap.size w)
  have HR0 := Aside0.mk hr0
  have HC0 := Aside0.mk hc0
  clear hr0 hc0
  unfold spec_TidyRegex.f at h
  obtain ⟨⟨x, y, ks, b⟩, hg, h⟩ := Option.bind_eq_some_iff.mp h
  have HG := Aside0.mk hg
  clear hg
  cases b with
  | true =>
    rw [if_pos rfl] at h
    obtain ⟨t, hx, h⟩ := Option.bind_eq_some_iff.mp h
    obtain ⟨c, hc, h⟩ := Option.bind_eq_some_iff.mp h
    simp only [Option.some.injEq, Prod.mk.injEq] at h
    obtain ⟨rfl, rfl⟩ := h
    have HX := Aside0.mk (show spec_l6Tidy.f k x y ks = some t from hx)
    have HE := Aside0.mk hc
    clear hx hc
    go_enter Try.func54, Try.ntmps54
    go_wp2_with (first | (go_at_call 80; (with_reducible refine (spec_l6Tree.calls k _ _ l0 x y ks true _ ?side1 ?side2 HG.out).mono ?_); (case side1 => repeat (first | exact (Kd.C_below HR0.out HB.out) | (with_reducible refine Kd.C_alloc ?_ _) | (with_reducible refine Kd.C_drewN ?_ _) | (with_reducible refine Kd.C_drew ?_))); (case side2 => exact HC0.out); rintro e_ w3 ⟨v3, rfl, ho, hb⟩; have n0_ := Aside0.mk (below_step bq hb); clear HB; have HB := n0_; obtain ⟨Av, cv, rfl⟩ := Kd.R_slice ho; have HV := Aside0.mk (Kd.R_reads' ho).2; clear n0_ ho hb) | (go_at_call 96; (with_reducible refine (spec_l6Tidy.calls k x y Av cv ks t _ ?kc ?kl HX.out).mono ?_); (case kl => exact HV.out.1); (case kc => repeat (first | exact HV.out.2 | (with_reducible refine Kd.C_alloc ?_ _) | (with_reducible refine Kd.C_drewN ?_ _) | (with_reducible refine Kd.C_drew ?_))); rintro e_ w6 ⟨v6, rfl, ho, hb⟩; have n0_ := Aside0.mk (below_step (by repeat (first | (with_reducible first | exact HB.out | apply below_alloc | apply pw_below_drewN | apply below_drew1) | exact HB.out)) hb); clear HB; have HB := n0_; clear n0_; obtain ⟨At, ct, rfl⟩ := Kd.R_slice ho; have HT := Aside0.mk (Kd.R_reads' ho).2; clear ho hb) | (go_at_call 95; (with_reducible refine (spec_l6Flat.calls k t.f0 t.f1 At ct t.f2 (.slice none 0 0) [] c w6 _ HT.out.2 HT.out.1 ?kb (Kd.R_nil _ _ _ _ _) HE.out).mono ?_); (case kb => exact bq0); rintro e_ w7 ⟨v7, rfl, ho, hb⟩; have n0_ := Aside0.mk (below_step bq hb); have HO := Aside0.mk (Kd.R_lower ho (below_size bq)); clear HB; have HB := n0_; clear n0_ ho hb))
    refine bodyPost_ret (results_tmp2 rfl _ _ _) rfl ?_
    exact ⟨v7, by first | rfl | (simp; done) | (simp [*]; done), by (with_reducible repeat (first | apply Kd.R_alloc | apply Kd.R_drewN | apply Kd.R_drew)); exact Kd.R_mono HO.out (fun _ _ => trivial), bq⟩
  | false =>
    rw [if_neg (by simp)] at h
    simp only [Option.some.injEq, Prod.mk.injEq] at h
    obtain ⟨rfl, rfl⟩ := h
    go_enter Try.func54, Try.ntmps54
    go_wp2_with (first | (go_at_call 80; (with_reducible refine (spec_l6Tree.calls k _ _ l0 x y ks false _ ?side1 ?side2 HG.out).mono ?_); (case side1 => repeat (first | exact (Kd.C_below HR0.out HB.out) | (with_reducible refine Kd.C_alloc ?_ _) | (with_reducible refine Kd.C_drewN ?_ _) | (with_reducible refine Kd.C_drew ?_))); (case side2 => exact HC0.out); rintro e_ w3 ⟨v3, rfl, ho, hb⟩; have n0_ := Aside0.mk (below_step bq hb); clear HB; have HB := n0_; obtain ⟨Av, cv, rfl⟩ := Kd.R_slice ho; have HV := Aside0.mk (Kd.R_reads' ho).2; clear n0_ ho hb))
    refine bodyPost_ret (results_tmp2 rfl _ _ _) rfl ?_
    exact ⟨_, by first | rfl | (simp; done) | (simp [*]; done), Kd.R_nil _ _ _ _ _, by repeat (first | (with_reducible first | exact HB.out | apply below_alloc | apply pw_below_drewN | apply below_drew1) | exact HB.out)⟩

/-- A state of type 109 at block g of W; what its slices lead to came in by w0. -/
def IsS109 (w0 W : World) (g : Nat) (f0 : Int) (f1 : Int) : Prop := W.heap[g]? = some (.cells #[.int .i64 f0, .int .i64 f1] 109 (0, 0)) ∧ w0.heap.size ≤ g
theorem IsS109.grown {w0 W : World} {g : Nat} {f0 : Int} {f1 : Int} {W1 : World} {row : Option Nat} (h : IsS109 w0 W g f0 f1) (hw : W.grownBy W1 row) (hne : some g ≠ row) : IsS109 w0 W1 g f0 f1 := by
  obtain ⟨hb, hg⟩ := h
  exact ⟨blk_grown hb hw hne, hg⟩
theorem IsS109.own_neN {w0 W : World} {g : Nat} {f0 : Int} {f1 : Int} {α : Type} {d : Kd α} {e : Nat} {base : Nat} {ok : Nat → Prop} {v : Value} {xs : List α} (h : IsS109 w0 W g f0 f1) (ho : Kd.N d e W base ok v xs) (ht : e ≠ 109) : some g ≠ v.ownBlock := by
  obtain ⟨hb, hg⟩ := h
  exact Kd.N_ne ho hb ht
theorem IsS109.fresh {w0 W : World} {g : Nat} {f0 : Int} {f1 : Int} (h : IsS109 w0 W g f0 f1) : ∀ k, W.heap.size ≤ k → k ≠ g := by
  obtain ⟨hb, hg⟩ := h
  exact Kd.freshB hb
theorem IsS109.kept {w0 W : World} {g : Nat} {f0 : Int} {f1 : Int} {W1 : World} {S : Nat → Prop} (h : IsS109 w0 W g f0 f1) (hk : Kept W W1 S) (hne : ¬ S g) : IsS109 w0 W1 g f0 f1 := by
  obtain ⟨hb, hg⟩ := h
  exact ⟨blk_kept hb hk hne, hg⟩
theorem IsS109.below {w0 W : World} {g : Nat} {f0 : Int} {f1 : Int} {W1 : World} (h : IsS109 w0 W g f0 f1) (hw : Below W.heap.size W W1) : IsS109 w0 W1 g f0 f1 := h.grown (grown_of_below hw none) (by simp)
theorem IsS109.alloc {w0 W : World} {g : Nat} {f0 : Int} {f1 : Int} (h : IsS109 w0 W g f0 f1) (o : Obj) : IsS109 w0 (W.alloc o) g f0 f1 := h.below (below_alloc (Below.refl _ _) o)
theorem IsS109.drewN {w0 W : World} {g : Nat} {f0 : Int} {f1 : Int} (h : IsS109 w0 W g f0 f1) (m : Nat) : IsS109 w0 (W.drewN m) g f0 f1 := h
theorem IsS109.drew {w0 W : World} {g : Nat} {f0 : Int} {f1 : Int} (h : IsS109 w0 W g f0 f1) : IsS109 w0 W.drew g f0 f1 := h
theorem IsS109.at_ {w0 W : World} {g : Nat} {f0 : Int} {f1 : Int} {w' : World} {m : Nat} (hq : W.drewN m = w') (h : IsS109 w0 W g f0 f1) : IsS109 w0 w' g f0 f1 := by subst hq; exact IsS109.drewN h m
theorem IsS109.apart {w0 W : World} {g : Nat} {f0 : Int} {f1 : Int} {α : Type} {d : Kd α} {e : Nat} {base : Nat} {ok : Nat → Prop} {v : Value} {xs : List α} (h : IsS109 w0 W g f0 f1) (ho : d.R e W base ok v xs) (ht : ∀ q, q ∈ e :: d.E → q ≠ 109) : d.R e W base (fun k => ok k ∧ k ≠ g) v xs := by
  obtain ⟨hb, hg⟩ := h
  exact Kd.R_types ho hb ht
theorem IsS109.own_ne {w0 W : World} {g : Nat} {f0 : Int} {f1 : Int} {α : Type} {d : Kd α} {e : Nat} {base : Nat} {ok : Nat → Prop} {v : Value} {xs : List α} (h : IsS109 w0 W g f0 f1) (ho : d.R e W base ok v xs) (ht : e ≠ 109) : some g ≠ v.ownBlock := by
  obtain ⟨hb, hg⟩ := h
  exact Kd.R_ne ho hb ht
theorem IsS109.apartQ {w0 W : World} {g : Nat} {f0 : Int} {f1 : Int} {α : Type} {d : Kd α} {e : Nat} {base : Nat} {ok : Nat → Prop} {v : Value} {xs : List α} (h : IsS109 w0 W g f0 f1) (ho : d.Q e W base ok v xs) (ht : ∀ q, q ∈ e :: d.E → q ≠ 109) : d.Q e W base (fun k => ok k ∧ k ≠ g) v xs := by
  obtain ⟨hb, hg⟩ := h
  exact Kd.Q_types ho hb ht
theorem IsS109.own_neQ {w0 W : World} {g : Nat} {f0 : Int} {f1 : Int} {α : Type} {d : Kd α} {e : Nat} {base : Nat} {ok : Nat → Prop} {v : Value} {xs : List α} (h : IsS109 w0 W g f0 f1) (ho : d.Q e W base ok v xs) (ht : e ≠ 109) : some g ≠ v.ownBlock := by
  obtain ⟨hb, hg⟩ := h
  exact Kd.Q_ne ho hb ht
theorem IsS109.apartS {w0 W : World} {g : Nat} {f0 : Int} {f1 : Int} {α : Type} {d : Kd α} {e : Nat} {base : Nat} {ok : Nat → Prop} {v : Value} {xs : List α} (h : IsS109 w0 W g f0 f1) (ho : d.S e W base ok v xs) (ht : ∀ q, q ∈ e :: d.E → q ≠ 109) : d.S e W base (fun k => ok k ∧ k ≠ g) v xs := by
  obtain ⟨hb, hg⟩ := h
  exact Kd.S_types ho hb ht
theorem IsS109.own_neS {w0 W : World} {g : Nat} {f0 : Int} {f1 : Int} {α : Type} {d : Kd α} {e : Nat} {base : Nat} {ok : Nat → Prop} {v : Value} {xs : List α} (h : IsS109 w0 W g f0 f1) (ho : d.S e W base ok v xs) (ht : e ≠ 109) : some g ≠ v.ownBlock := by
  obtain ⟨hb, hg⟩ := h
  exact Kd.S_ne ho hb ht
theorem IsS109.lt {w0 W : World} {g : Nat} {f0 : Int} {f1 : Int} (h : IsS109 w0 W g f0 f1) : g < W.heap.size := by
  obtain ⟨hb, hg⟩ := h
  exact blk_lt hb
theorem IsS109.ge {w0 W : World} {g : Nat} {f0 : Int} {f1 : Int} (h : IsS109 w0 W g f0 f1) : w0.heap.size ≤ g := by
  obtain ⟨hb, hg⟩ := h
  exact hg
theorem IsS109.ne_blk {w0 W : World} {g : Nat} {f0 : Int} {f1 : Int} {a : Nat} {cs : Array Value} {t : TypeId} {fr : Nat × Nat} (h : IsS109 w0 W g f0 f1) (hb2 : W.heap[a]? = some (.cells cs t fr)) (ht : t ≠ 109) : g ≠ a := by
  obtain ⟨hb, hg⟩ := h
  rintro rfl
  rw [hb] at hb2
  injection hb2 with hb2
  injection hb2 with _ ht2
  exact ht ht2.symm
theorem IsS109.far {w0 W : World} {g : Nat} {f0 : Int} {f1 : Int} {p : Addr} (h : IsS109 w0 W g f0 f1) (hne : g ≠ p.block) (u : Value) : IsS109 w0 (W.setCell p u) g f0 f1 := by
  obtain ⟨hb, hg⟩ := h
  exact ⟨blk_far hb hne u, hg⟩
theorem cellS109_0 {W : World} {g : Nat} {f0 : Int} {f1 : Int} (h : W.heap[g]? = some (.cells #[.int .i64 f0, .int .i64 f1] 109 (0, 0))) : W.cell? ⟨g, 0, none⟩ = some (.int .i64 f0) := (blk_cell h 0).trans rfl
theorem IsS109.set_0 {w0 W : World} {g : Nat} {f0 : Int} {f1 : Int} (h : IsS109 w0 W g f0 f1) (x : Int) : IsS109 w0 (W.setCell ⟨g, 0, none⟩ (.int .i64 x)) g x f1 := by
  obtain ⟨hb, hg⟩ := h
  exact ⟨by simpa using blk_set hb 0 (.int .i64 x), hg⟩
theorem cellS109_1 {W : World} {g : Nat} {f0 : Int} {f1 : Int} (h : W.heap[g]? = some (.cells #[.int .i64 f0, .int .i64 f1] 109 (0, 0))) : W.cell? ⟨g, 1, none⟩ = some (.int .i64 f1) := (blk_cell h 1).trans rfl
theorem IsS109.set_1 {w0 W : World} {g : Nat} {f0 : Int} {f1 : Int} (h : IsS109 w0 W g f0 f1) (x : Int) : IsS109 w0 (W.setCell ⟨g, 1, none⟩ (.int .i64 x)) g f0 x := by
  obtain ⟨hb, hg⟩ := h
  exact ⟨by simpa using blk_set hb 1 (.int .i64 x), hg⟩
theorem IsS109.new (w0 W : World) (f0 : Int) (f1 : Int) (hB : Below w0.heap.size w0 W) : IsS109 w0 (W.alloc (.cells #[.int .i64 f0, .int .i64 f1] 109)) W.heap.size f0 f1 := ⟨by simpa using heap_alloc_new W _, hB.size⟩

/-! ### impl_within: function 63 -/
def impl_within.f (a0 : Int) (a1 : Int) (a2 : Int) : Option (Bool) := if a0 ≥ a1 then (some (decide (a0 ≤ a2))) else (some false)
set_option maxHeartbeats 8000000 in
set_option maxRecDepth 100000 in
theorem impl_within.calls (a0 : Int) (a1 : Int) (a2 : Int) (r : Bool) (w : World) (h : impl_within.f a0 a1 a2 = some r) :
    Calls Try.prog 63 #[.int .i64 a0, .int .i64 a1, .int .i64 a2] w fun e w' => e = .returned (.bool r) ∧ Drawn0 w w' := by
  have H : (if a0 ≥ a1 then (some (decide (a0 ≤ a2))) else (some false)) = some r := h
  clear h
  by_cases c4 : a0 ≥ a1
  · rw [if_pos c4] at H
    have c4b0 : decide (a1 ≤ a0) = true := decide_eq_true c4
    clear c4
    obtain rfl := Option.some.inj H
    go_enter Try.func63, Try.ntmps63
    go_wp2
    go_ret
    exact ⟨by first | rfl | (simp; done) | (simp [*]; done), by repeat (first | exact Drawn0.refl _ | apply Drawn0.step)⟩
  · rw [if_neg c4] at H
    have c4b0 : decide (a1 ≤ a0) = false := decide_eq_false c4
    clear c4
    obtain rfl := Option.some.inj H
    go_enter Try.func63, Try.ntmps63
    go_wp2
    go_ret
    exact ⟨by first | rfl | (simp; done) | (simp [*]; done), by repeat (first | exact Drawn0.refl _ | apply Drawn0.step)⟩

/-! ### impl_partsOf: function 110 -/
def impl_partsOf.j0 : Nat → Int → Bool → Option (Int)
  | 0, _, _ => none
  | k + 1, x3, x4 => if x4 = true then (some 0) else (if x3 = 7 then (some 1) else (if x3 = 5 then (some 2) else (if x3 = 6 then (some 2) else (some (-1)))))
def impl_partsOf.f (k : Nat) (a0 : Int) : Option (Int) := if a0 = 1 then (impl_partsOf.j0 k a0 (a0 == 1)) else (if a0 = 2 then (impl_partsOf.j0 k a0 (a0 == 2)) else (if a0 = 3 then (impl_partsOf.j0 k a0 (a0 == 3)) else (impl_partsOf.j0 k a0 (a0 == 4))))
theorem impl_partsOf.mono_l : ∀ k, (∀ y0 y1, LeO (impl_partsOf.j0 k y0 y1) (impl_partsOf.j0 (k + 1) y0 y1))
  | 0 => fun _ _ r h => by simp [impl_partsOf.j0] at h
  | k + 1 => by
    have ih0 := impl_partsOf.mono_l k
    · intro y0 y1
      unfold impl_partsOf.j0
      repeat' first
      | (with_reducible exact ih0 _ _)
      | (with_reducible exact LeO.refl _)
      | (with_reducible exact LeO.none _)
      | (with_reducible refine LeO.ite ?_ ?_)
      | (with_reducible refine LeO.bind ?_ (fun _ => ?_))
      | exact ih0 _ _
      | exact LeO.none _
      | refine LeO.ite ?_ ?_
      | refine LeO.bind ?_ (fun _ => ?_)
theorem impl_partsOf.mono : ∀ a0 k, LeO (impl_partsOf.f k a0) (impl_partsOf.f (k + 1) a0) := by
  intro a0 k
  have ih0 := impl_partsOf.mono_l k
  unfold impl_partsOf.f
  repeat' first
      | (with_reducible exact ih0 _ _)
      | (with_reducible exact LeO.refl _)
      | (with_reducible exact LeO.none _)
      | (with_reducible refine LeO.ite ?_ ?_)
      | (with_reducible refine LeO.bind ?_ (fun _ => ?_))
      | exact ih0 _ _
      | exact LeO.none _
      | refine LeO.ite ?_ ?_
      | refine LeO.bind ?_ (fun _ => ?_)
set_option maxHeartbeats 8000000 in
set_option maxRecDepth 100000 in
theorem impl_partsOf.calls (k : Nat) (a0 : Int) (r : Int) (w : World) (h : impl_partsOf.f k a0 = some r) :
    Calls Try.prog 110 #[.int .i64 a0] w fun e w' => e = .returned (.int .i64 r) ∧ Drawn0 w w' := by
  have H : (if a0 = 1 then (impl_partsOf.j0 k a0 (a0 == 1)) else (if a0 = 2 then (impl_partsOf.j0 k a0 (a0 == 2)) else (if a0 = 3 then (impl_partsOf.j0 k a0 (a0 == 3)) else (impl_partsOf.j0 k a0 (a0 == 4))))) = some r := h
  clear h
  have HC2 := Aside0.mk H
  clear H
  go_enter Try.func110, Try.ntmps110
  go_upto_if 4 with (fail)
  go_cut [4] (fun v4 wc => ∃ (kq : Nat) (x4_1 : Bool), v4 = .bool x4_1 ∧ Aside0 (impl_partsOf.j0 kq a0 x4_1 = some r) ∧ Aside0 (kq ≤ k) ∧ Drawn0 w wc)
  case first =>
    have H := HC2.out
    clear HC2
    by_cases c3 : a0 = 1
    · rw [if_pos c3] at H
      have c3b0 : (a0 == 1) = true := beq_iff_eq.mpr c3
      have c3b1 : (a0 != 1) = false := bne_eq_false_iff_eq.mpr c3
      clear c3
      (first | rw [c3b0] | (simp only [i64_w, i32_w]; rw [c3b0]) | skip)
      have H' := Aside0.mk H
      clear H
      go_wp2
      go_meet
      case rel => exact ⟨_, ((a0 == 1)), (by first | rfl | (simp; done) | (simp [*]; done)), H', ⟨by first | omega | exact Nat.le_refl _⟩, by repeat (first | exact Drawn0.refl _ | apply Drawn0.step)⟩
    · rw [if_neg c3] at H
      have c3b0 : (a0 == 1) = false := beq_eq_false_iff_ne.mpr c3
      have c3b1 : (a0 != 1) = true := bne_iff_ne.mpr c3
      (first | rw [c3b0] | (simp only [i64_w, i32_w]; rw [c3b0]) | skip)
      by_cases c4 : a0 = 2
      · rw [if_pos c4] at H
        have c4b0 : (a0 == 2) = true := beq_iff_eq.mpr c4
        have c4b1 : (a0 != 2) = false := bne_eq_false_iff_eq.mpr c4
        clear c4
        have H' := Aside0.mk H
        clear H
        go_wp2
        go_meet
        case rel => exact ⟨_, ((a0 == 2)), (by first | rfl | (simp; done) | (simp [*]; done)), H', ⟨by first | omega | exact Nat.le_refl _⟩, by repeat (first | exact Drawn0.refl _ | apply Drawn0.step)⟩
      · rw [if_neg c4] at H
        have c4b0 : (a0 == 2) = false := beq_eq_false_iff_ne.mpr c4
        have c4b1 : (a0 != 2) = true := bne_iff_ne.mpr c4
        by_cases c5 : a0 = 3
        · rw [if_pos c5] at H
          have c5b0 : (a0 == 3) = true := beq_iff_eq.mpr c5
          have c5b1 : (a0 != 3) = false := bne_eq_false_iff_eq.mpr c5
          clear c5
          have H' := Aside0.mk H
          clear H
          go_wp2
          go_meet
          case rel => exact ⟨_, ((a0 == 3)), (by first | rfl | (simp; done) | (simp [*]; done)), H', ⟨by first | omega | exact Nat.le_refl _⟩, by repeat (first | exact Drawn0.refl _ | apply Drawn0.step)⟩
        · rw [if_neg c5] at H
          have c5b0 : (a0 == 3) = false := beq_eq_false_iff_ne.mpr c5
          have c5b1 : (a0 != 3) = true := bne_iff_ne.mpr c5
          have H' := Aside0.mk H
          clear H
          go_wp2
          go_meet
          case rel => exact ⟨_, ((a0 == 4)), (by first | rfl | (simp; done) | (simp [*]; done)), H', ⟨by first | omega | exact Nat.le_refl _⟩, by repeat (first | exact Drawn0.refl _ | apply Drawn0.step)⟩
  case rest =>
    clear HC2
    try clear c1
    try clear p2
    try clear c3
    try clear c3b0
    try clear c3b1
    try clear c4
    try clear c4b0
    try clear c4b1
    try clear c5
    try clear c5b0
    try clear c5b1
    obtain ⟨kq, x4_1, rfl, HA, HJ1, ⟨mc1, rfl⟩⟩ := hcut
    cases kq with
    | zero => exact absurd HA.out (by simp [impl_partsOf.j0])
    | succ kj1 =>
      have H := HA.out
      clear HA
      simp only [impl_partsOf.j0] at H
      by_cases c6 : x4_1 = true
      · subst c6
        have H1 : (some 0) = some r := by rw [if_pos rfl] at H; exact H
        clear H
        have H := H1
        clear H1
        obtain rfl := Option.some.inj H
        go_wp2
        go_ret
        exact ⟨by first | rfl | (simp; done) | (simp [*]; done), by repeat (first | exact Drawn0.refl _ | apply Drawn0.step)⟩
      · replace c6 := Bool.eq_false_iff.mpr c6
        subst c6
        have H1 : (if a0 = 7 then (some 1) else (if a0 = 5 then (some 2) else (if a0 = 6 then (some 2) else (some (-1))))) = some r := by rw [if_neg (show ¬ (false = true) by decide)] at H; exact H
        clear H
        have H := H1
        clear H1
        by_cases c7 : a0 = 7
        · rw [if_pos c7] at H
          have c7b0 : (a0 == 7) = true := beq_iff_eq.mpr c7
          have c7b1 : (a0 != 7) = false := bne_eq_false_iff_eq.mpr c7
          clear c7
          obtain rfl := Option.some.inj H
          go_wp2
          go_ret
          exact ⟨by first | rfl | (simp; done) | (simp [*]; done), by repeat (first | exact Drawn0.refl _ | apply Drawn0.step)⟩
        · rw [if_neg c7] at H
          have c7b0 : (a0 == 7) = false := beq_eq_false_iff_ne.mpr c7
          have c7b1 : (a0 != 7) = true := bne_iff_ne.mpr c7
          by_cases c8 : a0 = 5
          · rw [if_pos c8] at H
            have c8b0 : (a0 == 5) = true := beq_iff_eq.mpr c8
            have c8b1 : (a0 != 5) = false := bne_eq_false_iff_eq.mpr c8
            clear c8
            obtain rfl := Option.some.inj H
            go_wp2
            go_ret
            exact ⟨by first | rfl | (simp; done) | (simp [*]; done), by repeat (first | exact Drawn0.refl _ | apply Drawn0.step)⟩
          · rw [if_neg c8] at H
            have c8b0 : (a0 == 5) = false := beq_eq_false_iff_ne.mpr c8
            have c8b1 : (a0 != 5) = true := bne_iff_ne.mpr c8
            by_cases c9 : a0 = 6
            · rw [if_pos c9] at H
              have c9b0 : (a0 == 6) = true := beq_iff_eq.mpr c9
              have c9b1 : (a0 != 6) = false := bne_eq_false_iff_eq.mpr c9
              clear c9
              obtain rfl := Option.some.inj H
              go_wp2
              go_ret
              exact ⟨by first | rfl | (simp; done) | (simp [*]; done), by repeat (first | exact Drawn0.refl _ | apply Drawn0.step)⟩
            · rw [if_neg c9] at H
              have c9b0 : (a0 == 6) = false := beq_eq_false_iff_ne.mpr c9
              have c9b1 : (a0 != 6) = true := bne_iff_ne.mpr c9
              obtain rfl := Option.some.inj H
              go_wp2
              go_ret
              exact ⟨by first | rfl | (simp; done) | (simp [*]; done), by repeat (first | exact Drawn0.refl _ | apply Drawn0.step)⟩

end Go.Proofs.Ytkkchcalhomgcaa.PFnExactTidyRegex
