/- The pure statement of FnExactRangeOf: what the printed functions tell is what the reference tells. No condition but the arguments' own bounds. -/
import Derived.Test.YtabejlfejlpkeaaPFnExactRangeOfx4
import Derived.Test.YtabejlfejlpkeaaPfx
import Derived.Test.YtabejlfejlpkeaaSets
import Derived.Test.YtabejlfejlpkeaaSpans
import Derived.Test.YtabejlfejlpkeaaLoop
namespace Go.Proofs.Ytabejlfejlpkeaa.Pure
namespace FnExactRangeOfUses
open Go.RowKit Go.Proofs.Ytabejlfejlpkeaa.PFnExactRangeOf Go.Proofs.YtabejlfejlpkeaaW.PrintWords Go.Proofs.YtabejlfejlpkeaaW.PrintLast Go.Proofs.YtabejlfejlpkeaaW.PrintMore Go.Proofs.Ytabejlfejlpkeaa.Pfx Go.Proofs.Ytabejlfejlpkeaa.Loop
set_option linter.unusedVariables false
set_option linter.unusedSimpArgs false

theorem spec_l1In_is (a lo hi : Int) : spec_l1In.f a lo hi = some (decide (lo ≤ a ∧ a ≤ hi)) := by
  unfold spec_l1In.f
  by_cases h : lo ≤ a
  · rw [if_pos h]; simp [h]
  · rw [if_neg h]; simp [h]
theorem impl_within_is (a lo hi : Int) : impl_within.f a lo hi = some (decide (lo ≤ a ∧ a ≤ hi)) := by
  unfold impl_within.f
  by_cases h : lo ≤ a
  · rw [if_pos h]; simp [h]
  · rw [if_neg h]; simp [h]
theorem spec_l1Addr_is (a : Int) : spec_l1Addr.f a = some (decide (0 ≤ a ∧ a ≤ 4294967295)) := by
  unfold spec_l1Addr.f; rw [spec_l1In_is]; rfl
theorem impl_isAddr_is (a : Int) : impl_isAddr.f a = some (decide (0 ≤ a ∧ a ≤ 4294967295)) := by
  unfold impl_isAddr.f; rw [impl_within_is]; rfl
theorem impl_sizeOf_is {n : Int} (h0 : 0 ≤ n) (h1 : n ≤ 32) : impl_sizeOf.f n = some (sz n) := by
  unfold impl_sizeOf.f
  rw [shl_sz h0 h1, if_pos (by rw [wrap_id (by omega) (by omega)]; omega)]
theorem spec_l1Size_is (a : Int) {n : Int} (h0 : 0 ≤ n) (h1 : n ≤ 32) : spec_l1Size.f a n = some (sz n) := by
  unfold spec_l1Size.f
  have e : IntKind.u64.wrap (wrap64 (32 - n)) = wrap64 (32 - n) := by rw [wrap_id (by omega) (by omega), u64_id (by omega) (by omega)]
  rw [e, shl_sz h0 h1, if_pos (by rw [wrap_id (by omega) (by omega)]; omega)]
theorem impl_GoodPrefix_is (a n : Int) : impl_GoodPrefix.f a n = some (good a n) := by
  unfold impl_GoodPrefix.f
  rw [impl_within_is, Option.bind_some]
  by_cases h : 0 ≤ n ∧ n ≤ 32
  · rw [if_pos (decide_eq_true h), impl_isAddr_is, Option.bind_some]
    by_cases h' : 0 ≤ a ∧ a ≤ 4294967295
    · rw [if_pos (decide_eq_true h'), impl_sizeOf_is h.1 h.2, Option.bind_some, if_neg (by have := sz_pos n; omega), Int.tmod_eq_emod_of_nonneg h'.1]
      simp [good, h.1, h.2, h'.1, h'.2, beq_dec]
    · rw [if_neg (by simpa using h')]
      have : good a n = false := by simp [good]; omega
      rw [this]
  · rw [if_neg (by simpa using h)]
    have : good a n = false := by simp [good]; omega
    rw [this]
theorem impl_Prefix_end_is {a n : Int} (h : good a n = true) : impl_Prefix_end.f a n = some (a + sz n - 1) := by
  obtain ⟨h0, h1, h2, h3, h4⟩ := good_iff.1 h
  have := sz_pos n
  have := sz_le h0
  unfold impl_Prefix_end.f
  rw [impl_sizeOf_is h0 h1, Option.bind_some, wrap_id (x := a + sz n) (by omega) (by omega), wrap_id (by omega) (by omega)]
theorem spec_l1Halves_is {a n : Int} (h0 : 0 ≤ n) (h1 : n < 32) (h2 : 0 ≤ a) (h3 : a ≤ 4294967295) : spec_l1Halves.f a n = some (a, n + 1, a + sz (n + 1), n + 1) := by
  have hs := sz_pos (n + 1)
  have h9 := sz_le (n := n + 1) (by omega)
  unfold spec_l1Halves.f
  rw [wrap_id (x := n + 1) (by omega) (by omega), spec_l1Size_is a (by omega) (by omega), Option.bind_some, wrap_id (by omega) (by omega)]
theorem laws_eqPrefix_is (a n b m : Int) : laws_eqPrefix.f a n b m = some (decide (a = b ∧ n = m)) := by
  unfold laws_eqPrefix.f
  by_cases h : a = b
  · by_cases h' : n = m
    · rw [if_pos h, if_pos h']; simp [h, h']
    · rw [if_pos h, if_neg h']; simp [h']
  · rw [if_neg h]; simp [h]
theorem rdm_Prefix (pre : List S45) (a : S45) (rest : List S45) : rd_T45 (pre ++ a :: rest) (pre.length : Int) = a := by unfold rd_T45; simp
def pr (p : S45) : Pr := (p.f0, p.f1)
theorem pr_inj {p q : S45} (h : pr p = pr q) : p = q := by cases p; cases q; simpa [pr] using h
theorem laws_eqPrefixS_refl (k : Nat) (l : List S45) (hl : l.length ≤ maxLen) (hk : l.length < k) : laws_eqPrefixS.f k l l = some true := by
  unfold laws_eqPrefixS.f
  rw [if_pos rfl]
  have key : ∀ (rest pre : List S45) (k : Nat), l = pre ++ rest → rest.length < k → laws_eqPrefixS.l0 k l l (pre.length : Int) = some true := by
    intro rest
    induction rest with
    | nil =>
      intro pre k e hk
      obtain ⟨k, rfl⟩ : ∃ m, k = m + 1 := ⟨k - 1, by omega⟩
      simp only [laws_eqPrefixS.l0]
      rw [if_neg (by rw [e]; simp)]
    | cons a rest ih =>
      intro pre k e hk
      obtain ⟨k, rfl⟩ : ∃ m, k = m + 1 := ⟨k - 1, by omega⟩
      simp only [laws_eqPrefixS.l0]
      rw [if_pos (by rw [e]; exact lt_mid _ _ _), if_pos (len_nn _), if_pos (by rw [e]; exact lt_mid _ _ _), laws_eqPrefix_is]
      simp only [Option.bind_some, and_self, decide_true, if_true]
      rw [wrap_mid (rest := rest) (by rw [← e]; exact hl)]
      exact ih (pre ++ [a]) k (by rw [e]; simp) (by simp at hk; omega)
  exact key l [] k rfl hk
theorem rdm_Span (pre : List S74) (a : S74) (rest : List S74) : rd_T74 (pre ++ a :: rest) (pre.length : Int) = a := by unfold rd_T74; simp
def spn (s : S74) : Sp := (s.f0, s.f1)
theorem spn_inj {p q : S74} (h : spn p = spn q) : p = q := by cases p; cases q; simpa [spn] using h
theorem map_pr_inj : ∀ {l l' : List S45}, l.map pr = l'.map pr → l = l'
  | [], [], _ => rfl
  | [], _ :: _, h => by simp at h
  | _ :: _, [], h => by simp at h
  | a :: t, b :: t', h => by
    simp only [List.map_cons, List.cons.injEq] at h
    rw [pr_inj h.1, map_pr_inj h.2]
/-- What of a prefix lies in a range, told from high to low. -/
structure Part (a b : Int) (p : Pr) (r : List Pr) : Prop where
  srt : Srt r
  max : ∀ q, q ∈ r → MaxP (fun x => a ≤ x ∧ x ≤ b) q
  inside : ∀ q, q ∈ r → p.1 ≤ q.1 ∧ last q ≤ last p
  cover : ∀ x, inP p x → a ≤ x ∧ x ≤ b → inL r x
theorem spec_l3Range_is {a b : Int} : ∀ (d : Nat) (p : Pr) (out : List S45) (k : Nat), GoodP p → (32 - p.2).toNat = d → (0 < p.2 → ¬ ∀ x, inP (parent p) x → a ≤ x ∧ x ≤ b) → 3 * d + 3 ≤ k → out.length + 2 ^ d ≤ 8796093022208 →
    ∃ r : List S45, spec_l3Range.f k p.1 p.2 a b out = some (out ++ r) ∧ Part a b p (r.map pr) ∧ r.length ≤ 2 ^ d := by
  intro d
  induction d with
  | zero =>
    intro p out k hp hd hpar hk hlen
    obtain ⟨p0, p1, p2, p3, p4⟩ := hp.facts
    obtain ⟨k, rfl⟩ : ∃ m, k = m + 3 := ⟨k - 3, by omega⟩
    have hn : p.2 = 32 := by omega
    have hs : sz p.2 = 1 := by rw [hn]; exact sz_lit.2
    have hlast : last p = p.1 := by unfold last; omega
    simp only [spec_l3Range.f]
    rw [spec_l1Size_is _ p0 p1, Option.bind_some, hs, wrap_id (x := p.1 + 1) (by omega) (by omega), wrap_id (by omega) (by omega), show p.1 + 1 - 1 = p.1 by omega]
    by_cases h1 : p.1 < a
    · rw [if_pos h1]
      simp only [spec_l3Range.j0]
      refine ⟨[], by simp, ⟨List.Pairwise.nil, by simp, by simp, fun x hx hx2 => ?_⟩, by simp⟩
      unfold inP at hx; omega
    · rw [if_neg h1]
      by_cases h2 : p.1 > b
      · simp only [spec_l3Range.j0]
        rw [if_pos (by simpa using h2)]
        refine ⟨[], by simp, ⟨List.Pairwise.nil, by simp, by simp, fun x hx hx2 => ?_⟩, by simp⟩
        unfold inP at hx; omega
      · simp only [spec_l3Range.j0]
        rw [if_neg (by simpa using h2), if_pos (by omega)]
        simp only [spec_l3Range.j1]
        rw [if_pos (by simp; omega), if_pos (by simp at hlen; omega)]
        refine ⟨[⟨p.1, p.2⟩], rfl, ⟨List.pairwise_singleton _ _, ?_, ?_, ?_⟩, by simp⟩
        · intro q hq
          have : q = p := by simpa [pr] using hq
          subst this
          exact ⟨hp, fun x hx => by unfold inP at hx; omega, hpar⟩
        · intro q hq
          have : q = p := by simpa [pr] using hq
          subst this
          omega
        · intro x hx _
          exact ⟨p, by simp [pr], hx⟩
  | succ d ih =>
    intro p out k hp hd hpar hk hlen
    obtain ⟨p0, p1, p2, p3, p4⟩ := hp.facts
    obtain ⟨k, rfl⟩ : ∃ m, k = m + 3 := ⟨k - 3, by omega⟩
    have hs := sz_pos p.2
    have hs2 := sz_le p0
    have hpow : 2 ^ (d + 1) = 2 ^ d + 2 ^ d := by rw [Nat.pow_succ]; omega
    have hp1 := Nat.one_le_two_pow (n := d)
    simp only [spec_l3Range.f]
    rw [spec_l1Size_is _ p0 p1, Option.bind_some, wrap_id (x := p.1 + sz p.2) (by omega) (by omega), wrap_id (by omega) (by omega)]
    have hl : p.1 + sz p.2 - 1 = last p := rfl
    rw [hl]
    by_cases h1 : last p < a
    · rw [if_pos h1]
      simp only [spec_l3Range.j0]
      refine ⟨[], by simp, ⟨List.Pairwise.nil, by simp, by simp, fun x hx hx2 => ?_⟩, by simp⟩
      unfold inP at hx; omega
    · rw [if_neg h1]
      by_cases h2 : p.1 > b
      · simp only [spec_l3Range.j0]
        rw [if_pos (by simpa using h2)]
        refine ⟨[], by simp, ⟨List.Pairwise.nil, by simp, by simp, fun x hx hx2 => ?_⟩, by simp⟩
        unfold inP at hx; omega
      · by_cases h3 : p.1 ≥ a ∧ last p ≤ b
        · simp only [spec_l3Range.j0]
          rw [if_neg (by simpa using h2), if_pos h3.1]
          simp only [spec_l3Range.j1]
          rw [if_pos (by simpa using h3.2), if_pos (by have := Nat.one_le_two_pow (n := d + 1); omega)]
          refine ⟨[⟨p.1, p.2⟩], rfl, ⟨List.pairwise_singleton _ _, ?_, ?_, ?_⟩, by simpa using Nat.one_le_two_pow⟩
          · intro q hq
            have : q = p := by simpa [pr] using hq
            subst this
            exact ⟨hp, fun x hx => by unfold inP at hx; omega, hpar⟩
          · intro q hq
            have : q = p := by simpa [pr] using hq
            subst this
            omega
          · intro x hx _
            exact ⟨p, by simp [pr], hx⟩
        · have hlt : p.2 < 32 := by omega
          obtain ⟨g1, g2⟩ := halves_good hp hlt
          obtain ⟨e1, e2, _, _⟩ := halves_parent hp hlt
          have hsp := halves_split hp hlt
          have e := sz_succ p0 hlt
          have hsh := sz_pos (p.2 + 1)
          have hnot : ¬ ∀ x, inP p x → a ≤ x ∧ x ≤ b := fun h => by
            have ha := h p.1 first_in
            have hb := h (last p) ⟨fst_le_last p, Int.le_refl _⟩
            exact h3 ⟨by omega, hb.2⟩
          have hlow : last (lowH p) = p.1 + sz (p.2 + 1) - 1 := rfl
          have hhigh : last (highH p) = last p := by unfold last highH; simp only; omega
          have hh1 : (highH p).1 = p.1 + sz (p.2 + 1) := rfl
          obtain ⟨r1, hr1, P1, L1⟩ := ih (lowH p) out k g1 (by simp [lowH]; omega) (fun _ => by rw [e1]; exact hnot) (by omega) (by omega)
          obtain ⟨r2, hr2, P2, L2⟩ := ih (highH p) (out ++ r1) k g2 (by simp [highH]; omega) (fun _ => by rw [e2]; exact hnot) (by omega) (by rw [List.length_append]; omega)
          refine ⟨r1 ++ r2, ?_, ⟨?_, ?_, ?_, ?_⟩, by rw [List.length_append]; omega⟩
          · have key : spec_l3Range.j1 (k + 1) a b out false p.1 p.2 = some (out ++ (r1 ++ r2)) := by
              simp only [spec_l3Range.j1]
              rw [if_neg (by simp), spec_l1Halves_is p0 hlt p2 p3, Option.bind_some]
              have hr1' : spec_l3Range.f k p.1 (p.2 + 1) a b out = some (out ++ r1) := hr1
              have hr2' : spec_l3Range.f k (p.1 + sz (p.2 + 1)) (p.2 + 1) a b (out ++ r1) = some (out ++ r1 ++ r2) := hr2
              simp only [hr1', hr2', Option.bind_some, List.append_assoc]
            simp only [spec_l3Range.j0]
            rw [if_neg (by simpa using h2)]
            by_cases h4 : p.1 ≥ a
            · rw [if_pos h4]
              have : decide (last p ≤ b) = false := by simp; omega
              rw [this]; exact key
            · rw [if_neg h4]; exact key
          · rw [List.map_append]
            refine List.pairwise_append.2 ⟨P1.srt, P2.srt, fun q hq q' hq' => ?_⟩
            have i1 := P1.inside q hq
            have i2 := P2.inside q' hq'
            omega
          · intro q hq
            rw [List.map_append] at hq
            rcases List.mem_append.1 hq with hq | hq
            · exact P1.max q hq
            · exact P2.max q hq
          · intro q hq
            rw [List.map_append] at hq
            have hp1 : (lowH p).1 = p.1 := rfl
            rcases List.mem_append.1 hq with hq | hq
            · have := P1.inside q hq
              omega
            · have := P2.inside q hq
              omega
          · intro x hx hab
            rw [List.map_append]
            rcases (hsp x).1 hx with h | h
            · obtain ⟨q, hq, hqx⟩ := P1.cover x h hab
              exact ⟨q, List.mem_append_left _ hq, hqx⟩
            · obtain ⟨q, hq, hqx⟩ := P2.cover x h hab
              exact ⟨q, List.mem_append_right _ hq, hqx⟩
theorem spec_l3Range_all {a b : Int} (ha : 0 ≤ a) (hb : b ≤ 4294967295) (k : Nat) (hk : 99 ≤ k) : ∃ r : List S45, spec_l3Range.f k 0 0 a b [] = some r ∧ Canon (fun x => a ≤ x ∧ x ≤ b) (r.map pr) := by
  have hz : GoodP (0, 0) := good_mk ⟨by simp, by simp, by simp, by simp, by simp⟩
  obtain ⟨r, hr, P, _⟩ := spec_l3Range_is (a := a) (b := b) 32 (0, 0) [] k hz (by simp) (fun h => by simp at h) (by omega) (by simp)
  refine ⟨r, by simpa using hr, P.srt, P.max, fun x hx => P.cover x ?_ hx⟩
  have h1 : last (0, 0) = 4294967295 := by unfold last; rw [sz_lit.1]; rfl
  exact ⟨by simp; omega, by omega⟩
/-- The greatest good prefix at a place, and that the search comes to it. -/
theorem best_of {f b : Int} (h0 : 0 ≤ f) (h1 : f ≤ b) (hb : b ≤ 4294967295) : ∃ n : Int, Best b (f, n) ∧ 0 ≤ n ∧ n ≤ 32 := by
  have key : ∀ d : Nat, d ≤ 32 → (∃ n : Int, Best b (f, n) ∧ 0 ≤ n ∧ n ≤ 32) ∨ ∀ n : Int, 0 ≤ n → n < d → GoodP (f, n) → ¬ last (f, n) ≤ b := by
    intro d
    induction d with
    | zero => intro _; exact .inr (fun n h h' => by omega)
    | succ d ih =>
      intro hd
      rcases ih (by omega) with h | h
      · exact .inl h
      · by_cases hg : GoodP (f, (d : Int)) ∧ last (f, (d : Int)) ≤ b
        · exact .inl ⟨d, ⟨hg.1, hg.2, fun n hn hlt => h n hn hlt⟩, by omega, by omega⟩
        · refine .inr (fun n hn hlt hgn hln => ?_)
          by_cases e : n = (d : Int)
          · subst e; exact hg ⟨hgn, hln⟩
          · exact h n hn (by omega) hgn hln
  rcases key 32 (by omega) with h | h
  · exact h
  · have hg : GoodP (f, 32) := good_mk ⟨by simp, by simp, h0, by simp; omega, by show f % sz 32 = 0; rw [sz_lit.2]; omega⟩
    have hl : last (f, 32) = f := by unfold last; rw [sz_lit.2]; simp
    exact ⟨32, ⟨hg, by omega, fun n hn hlt hgn hln => h n hn hlt hgn hln⟩, by omega, by omega⟩
theorem prefixesIn_l2 {b f n : Int} {out : List S45} {sp : List S74} {len i a : Int} {r : List S45} (hB : Best b (f, n)) (hb : b ≤ 4294967295) (hlen : out.length < 8796093022208)
    (h : Ev (fun k => impl_prefixesIn.l1 k (out ++ [⟨f, n⟩]) (last (f, n) + 1) sp len i a b) r) : ∀ (d : Nat) (m : Int), 0 ≤ m → m ≤ n → (n - m).toNat = d → Ev (fun k => impl_prefixesIn.l2 k out sp len i a b f m) r := by
  have hg := hB.good
  obtain ⟨p0, p1, p2, p3, p4⟩ := hg.facts
  have hend := good_end hg
  have hl : last (f, n) = f + sz n - 1 := rfl
  intro d
  induction d with
  | zero =>
    intro m h0 h1 hd
    obtain rfl : m = n := by omega
    refine Ev.step (f := fun k => impl_prefixesIn.l1 k (out ++ [⟨f, m⟩]) (last (f, m) + 1) sp len i a b) (fun k => ?_) h
    simp only [impl_prefixesIn.l2]
    have hgm : good f m = true := hg
    have hfit := hB.fits
    simp only at p2 p3 hend
    rw [impl_GoodPrefix_is, Option.bind_some, if_pos hgm, impl_Prefix_end_is hgm, Option.bind_some, if_neg (by omega), if_pos hlen, Option.bind_some, wrap_id (by have := sz_pos m; omega) (by omega)]
    rfl
  | succ d ih =>
    intro m h0 h1 hd
    have hih := ih (m + 1) (by omega) (by omega) (by omega)
    refine Ev.step (f := fun k => impl_prefixesIn.l2 k out sp len i a b f (m + 1)) (fun k => ?_) hih
    have hlt : m < n := by omega
    simp only at p1
    have hleast := hB.least m h0 (by simpa using hlt)
    simp only [impl_prefixesIn.l2]
    rw [impl_GoodPrefix_is, Option.bind_some, wrap_id (x := m + 1) (by omega) (by omega)]
    by_cases hgm : good f m = true
    · rw [if_pos hgm, impl_Prefix_end_is hgm, Option.bind_some, if_pos]
      have : ¬ last (f, m) ≤ b := hleast hgm
      have h2 : last (f, m) = f + sz m - 1 := rfl
      omega
    · rw [if_neg hgm]
/-- What the greedy walk tells of rows, row by row. -/
def RowsOf (l : List S74) (r : List (List S45)) : Prop := r.length = l.length ∧ ∀ (i : Nat) (s : S74) (g : List S45), l[i]? = some s → r[i]? = some g → Greedy s.f0 s.f1 s.f0 (g.map pr)
theorem RowsOf.cons {s : S74} {l : List S74} {g : List S45} {r : List (List S45)} (h : Greedy s.f0 s.f1 s.f0 (g.map pr)) (hr : RowsOf l r) : RowsOf (s :: l) (g :: r) := by
  refine ⟨by simp [hr.1], fun i s' g' h1 h2 => ?_⟩
  cases i with
  | zero =>
    simp only [List.getElem?_cons_zero, Option.some.injEq] at h1 h2
    subst h1; subst h2; exact h
  | succ i => exact hr.2 i s' g' (by simpa using h1) (by simpa using h2)
theorem prefixesIn_is (sp : List S74) (hn : sp.length ≤ 1048576) (hg : Gapped (sp.map spn)) (hb : ∀ s, s ∈ sp → 0 ≤ s.f0 ∧ s.f1 ≤ 4294967295) : ∃ r, RowsOf sp r ∧ Ev (fun k => impl_prefixesIn.f k sp) r.flatten := by
  have key : ∀ (rest pre : List S74) (out : List S45), sp = pre ++ rest → (∀ s, s ∈ rest → (out.length : Int) ≤ s.f0) →
      ∃ r, RowsOf rest r ∧ Ev (fun k => impl_prefixesIn.l0 k out sp (sp.length : Int) (pre.length : Int)) (out ++ r.flatten) := by
    intro rest
    induction rest with
    | nil =>
      intro pre out e ho
      refine ⟨[], ⟨rfl, by simp⟩, ?_⟩
      refine Ev.step (f := fun _ => some out) (fun k => ?_) (by simpa using Ev.now out)
      simp only [impl_prefixesIn.l0]
      rw [if_neg (by rw [e]; simp)]
    | cons s rest ih =>
      intro pre out e ho
      have hs := hb s (by rw [e]; simp)
      have hne := hg.ne (spn s) (List.mem_map.2 ⟨s, by rw [e]; simp, rfl⟩)
      have hgap : ∀ t, t ∈ rest → s.f1 + 1 < t.f0 := fun t ht => by
        have h := hg.srt
        rw [e, List.map_append, List.map_cons] at h
        have h2 := (List.pairwise_append.1 h).2.1
        exact (List.pairwise_cons.1 h2).1 (spn t) (List.mem_map.2 ⟨t, ht, rfl⟩)
      have hlen : pre.length < sp.length := by rw [e]; simp
      have inner : ∀ (d : Nat) (f : Int) (out : List S45), (s.f1 + 1 - f).toNat = d → s.f0 ≤ f → f ≤ s.f1 + 1 → (out.length : Int) ≤ f → Clear s.f0 s.f1 f →
          ∃ g r, Greedy s.f0 s.f1 f (g.map pr) ∧ RowsOf rest r ∧ Ev (fun k => impl_prefixesIn.l1 k out f sp (sp.length : Int) (pre.length : Int) s.f0 s.f1) (out ++ g ++ r.flatten) := by
        intro d
        induction d using Nat.strongRecOn with
        | _ d ihd =>
          intro f out hd hf0 hf1 hol hcl
          by_cases hend : f ≤ s.f1
          · obtain ⟨n, hB, n0, n1⟩ := best_of (b := s.f1) (show 0 ≤ f by omega) hend hs.2
            have hfit := hB.fits
            have hsz := sz_pos n
            have hlast : last (f, n) = f + sz n - 1 := rfl
            obtain ⟨g, r, G, R, E⟩ := ihd (s.f1 + 1 - (last (f, n) + 1)).toNat (by omega) (last (f, n) + 1) (out ++ [⟨f, n⟩]) rfl (by omega) (by omega) (by simp; omega) (best_clear hB rfl hcl)
            refine ⟨⟨f, n⟩ :: g, r, ?_, R, ?_⟩
            · exact greedy_cons hB rfl hf0 hcl G
            · have E2 := prefixesIn_l2 hB hs.2 (by omega) E (n - 0).toNat 0 (by omega) n0 rfl
              have e3 : out ++ ⟨f, n⟩ :: g ++ r.flatten = out ++ [⟨f, n⟩] ++ g ++ r.flatten := by simp
              rw [e3]
              refine Ev.step (f := fun k => impl_prefixesIn.l2 k out sp (sp.length : Int) (pre.length : Int) s.f0 s.f1 f 0) (fun k => ?_) E2
              simp only [impl_prefixesIn.l1]
              rw [if_pos hend]
          · have hf : f = s.f1 + 1 := by omega
            obtain ⟨r, R, E⟩ := ih (pre ++ [s]) out (by rw [e]; simp) (fun t ht => by have := hgap t ht; omega)
            refine ⟨[], r, greedy_nil (by omega) hf1, R, ?_⟩
            rw [List.append_nil]
            refine Ev.step (f := fun k => impl_prefixesIn.l0 k out sp (sp.length : Int) ((pre ++ [s]).length : Int)) (fun k => ?_) E
            simp only [impl_prefixesIn.l1]
            rw [if_neg hend, wrap_id (by omega) (by omega)]
            simp
      obtain ⟨g, r, G, R, E⟩ := inner _ s.f0 out rfl (Int.le_refl _) (by have : s.f0 ≤ s.f1 := hne; omega) (ho s (by simp)) (clear_first _ _)
      refine ⟨g :: r, R.cons G, ?_⟩
      have e4 : out ++ (g :: r).flatten = out ++ g ++ r.flatten := by simp
      rw [e4]
      refine Ev.step (f := fun k => impl_prefixesIn.l1 k out s.f0 sp (sp.length : Int) (pre.length : Int) s.f0 s.f1) (fun k => ?_) E
      have h1 : rd_T74 sp (pre.length : Int) = s := by rw [e]; exact rdm_Span _ _ _
      simp only [impl_prefixesIn.l0]
      rw [if_pos (by omega), if_pos (len_nn _), if_pos (by omega), h1]
  obtain ⟨r, R, E⟩ := key sp [] [] rfl (fun s hs => by have := (hb s hs).1; simp; omega)
  refine ⟨r, R, ?_⟩
  refine Ev.congr (f := fun k => impl_prefixesIn.l0 k [] sp (sp.length : Int) (([] : List S74).length : Int)) (fun k => ?_) (by simpa using E)
  unfold impl_prefixesIn.f; rfl
theorem RowsOf.canon {l : List S74} {r : List (List S45)} (hg : Gapped (l.map spn)) (h : RowsOf l r) : Canon (inS (l.map spn)) (r.flatten.map pr) := by
  have e : r.flatten.map pr = (r.map (List.map pr)).flatten := by rw [List.map_flatten]
  rw [e]
  refine canon_rows hg (by simp [h.1]) (fun i s g h1 h2 => ?_)
  rw [List.getElem?_map] at h1 h2
  obtain ⟨s', hs', rfl⟩ := Option.map_eq_some_iff.1 h1
  obtain ⟨g', hg', rfl⟩ := Option.map_eq_some_iff.1 h2
  exact (h.2 i s' g' hs' hg').canon
def mk_Prefix : Int → Nat → List S45
  | _, 0 => []
  | q, n + 1 => ⟨q, q + 1⟩ :: mk_Prefix (q + 2) n
theorem mk_Prefix_len (q : Int) (n : Nat) : (mk_Prefix q n).length = n := by
  induction n generalizing q with
  | zero => rfl
  | succ n ih => simp [mk_Prefix, ih]
theorem laws_markPrefixS_is (l : List S45) (hl : l.length ≤ 1000000000) (q : Int) (hq : 0 ≤ q) (hq2 : q ≤ 1000000000000) (k : Nat) (hk : l.length < k) : laws_markPrefixS.f k l q = some (q + 2 * l.length, mk_Prefix q l.length) := by
  have key : ∀ (rest pre : List S45) (k : Nat) (q : Int), 0 ≤ q → q + 2 * rest.length ≤ 4000000000000 → (pre ++ rest).length ≤ 1000000000 → rest.length < k →
      laws_markPrefixS.l0 k (pre ++ rest) q (pre.length : Int) = some (q + 2 * rest.length, pre ++ mk_Prefix q rest.length) := by
    intro rest
    induction rest with
    | nil =>
      intro pre k q h0 h1 h2 hk
      obtain ⟨k, rfl⟩ : ∃ m, k = m + 1 := ⟨k - 1, by omega⟩
      simp only [laws_markPrefixS.l0]
      rw [if_neg (by simp)]
      simp [mk_Prefix]
    | cons a rest ih =>
      intro pre k q h0 h1 h2 hk
      obtain ⟨k, rfl⟩ : ∃ m, k = m + 1 := ⟨k - 1, by omega⟩
      simp only [List.length_cons] at h1 hk
      simp only [laws_markPrefixS.l0]
      rw [if_pos (lt_mid _ _ _), if_pos (len_nn _), rdm_Prefix, set_mid, Option.bind_some, rdm_Prefix, set_mid, wrap_id (x := q + 1) (by omega) (by omega), wrap_id (x := q + 1 + 1) (by omega) (by omega), wrap_mid (a := a) (rest := rest) (by simp only [maxLen, List.length_append, List.length_cons] at h2 ⊢; omega), snoc_cons]
      have := ih (pre ++ [⟨q, q + 1⟩]) k (q + 2) (by omega) (by omega) (by simp at h2 ⊢; omega) (by omega)
      rw [show q + 1 + 1 = q + 2 by omega]
      simp only [List.length_append, List.length_singleton] at this ⊢
      rw [this]
      simp [mk_Prefix]; omega
  unfold laws_markPrefixS.f
  have := key l [] k q hq (by omega) (by simpa using hl) hk
  simpa using this
theorem laws_heldPrefixS_is (n : Nat) (hn : n ≤ 1000000000) (q : Int) (hq : 0 ≤ q) (hq2 : q ≤ 1000000000000) (k : Nat) (hk : n < k) : laws_heldPrefixS.f k (mk_Prefix q n) q = some (q + 2 * n) := by
  have key : ∀ (n : Nat) (pre : List S45) (k : Nat) (q : Int), 0 ≤ q → q + 2 * n ≤ 4000000000000 → pre.length + n ≤ 1000000000 → n < k →
      laws_heldPrefixS.l0 k (pre ++ mk_Prefix q n) q (pre.length : Int) = some (q + 2 * n) := by
    intro n
    induction n with
    | zero =>
      intro pre k q h0 h1 h2 hk
      obtain ⟨k, rfl⟩ : ∃ m, k = m + 1 := ⟨k - 1, by omega⟩
      rw [show mk_Prefix q 0 = [] from rfl, List.append_nil]
      simp only [laws_heldPrefixS.l0]
      rw [if_neg (by omega)]
      simp
    | succ n ih =>
      intro pre k q h0 h1 h2 hk
      obtain ⟨k, rfl⟩ : ∃ m, k = m + 1 := ⟨k - 1, by omega⟩
      rw [show mk_Prefix q (n + 1) = ⟨q, q + 1⟩ :: mk_Prefix (q + 2) n from rfl]
      simp only [laws_heldPrefixS.l0]
      have hlen : (pre ++ (⟨q, q + 1⟩ : S45) :: mk_Prefix (q + 2) n).length ≤ maxLen := by
        simp only [maxLen, List.length_append, List.length_cons, mk_Prefix_len]; omega
      rw [if_pos (lt_mid _ _ _), if_pos (len_nn _), rdm_Prefix, if_pos rfl, wrap_id (x := q + 1) (by omega) (by omega), if_pos rfl, wrap_id (x := q + 1 + 1) (by omega) (by omega), wrap_mid hlen, snoc_cons]
      have := ih (pre ++ [⟨q, q + 1⟩]) k (q + 2) (by omega) (by omega) (by simp; omega) (by omega)
      rw [show q + 1 + 1 = q + 2 by omega]
      rw [this]
      congr 1; omega
  unfold laws_heldPrefixS.f
  have := key n [] k q hq (by omega) (by simpa using hn) hk
  simpa using this
theorem RangeOf_same (a b : Int) : ∃ r, Ev (fun k => spec_RangeOf.f k a b) r ∧ Ev (fun k => impl_RangeOf.f k a b) r ∧ r.1.length ≤ 64 := by
  by_cases h : (0 ≤ a ∧ a ≤ 4294967295) ∧ (0 ≤ b ∧ b ≤ 4294967295) ∧ ¬ a > b
  · obtain ⟨ha, hb, hab⟩ := h
    obtain ⟨r, hr, C⟩ := spec_l3Range_all (a := a) (b := b) ha.1 hb.2 99 (Nat.le_refl _)
    have hg : Gapped ([(⟨a, b⟩ : S74)].map spn) := ⟨by simp, fun s hs => by
      have : s = (a, b) := by simpa [spn] using hs
      rw [this]; simp; omega⟩
    obtain ⟨g, R, E⟩ := prefixesIn_is [(⟨a, b⟩ : S74)] (by simp) hg (fun s hs => by
      have : s = ⟨a, b⟩ := by simpa using hs
      rw [this]; exact ⟨ha.1, hb.2⟩)
    have C2 := R.canon hg
    have C3 : Canon (fun x => a ≤ x ∧ x ≤ b) (g.flatten.map pr) := C2.congr (fun x => by simp [inS, spn])
    have e : g.flatten = r := map_pr_inj (C3.unique C)
    rw [e] at E
    refine ⟨(r, true), ⟨99, fun k hk => ?_⟩, ?_, by have := range_le C; simpa using this⟩
    · have hr2 := at_rounds (fun k => spec_l3Range.mono _ _ _ _ _ k) hk hr
      simp only [spec_RangeOf.f]
      rw [spec_l1Addr_is, Option.bind_some, if_pos (decide_eq_true ha), spec_l1Addr_is, Option.bind_some, if_pos (decide_eq_true hb), if_neg hab, hr2]; rfl
    · refine Ev.congr (f := fun k => (impl_prefixesIn.f k [(⟨a, b⟩ : S74)]).bind fun t => some (t, true)) (fun k => ?_) (Ev.bind E (Ev.now _))
      simp only [impl_RangeOf.f]
      rw [impl_isAddr_is, Option.bind_some, if_pos (decide_eq_true ha), impl_isAddr_is, Option.bind_some, if_pos (decide_eq_true hb), if_neg hab]
  · refine ⟨([], false), ⟨0, fun k _ => ?_⟩, ⟨0, fun k _ => ?_⟩, by simp⟩
    · simp only [spec_RangeOf.f]
      rw [spec_l1Addr_is, Option.bind_some]
      by_cases h1 : 0 ≤ a ∧ a ≤ 4294967295
      · rw [if_pos (decide_eq_true h1), spec_l1Addr_is, Option.bind_some]
        by_cases h2 : 0 ≤ b ∧ b ≤ 4294967295
        · rw [if_pos (decide_eq_true h2), if_pos]
          by_cases h3 : a > b
          · exact h3
          · exact absurd ⟨h1, h2, h3⟩ h
        · rw [if_neg (by simpa using h2)]
      · rw [if_neg (by simpa using h1)]
    · simp only [impl_RangeOf.f]
      rw [impl_isAddr_is, Option.bind_some]
      by_cases h1 : 0 ≤ a ∧ a ≤ 4294967295
      · rw [if_pos (decide_eq_true h1), impl_isAddr_is, Option.bind_some]
        by_cases h2 : 0 ≤ b ∧ b ≤ 4294967295
        · rw [if_pos (decide_eq_true h2), if_pos]
          by_cases h3 : a > b
          · exact h3
          · exact absurd ⟨h1, h2, h3⟩ h
        · rw [if_neg (by simpa using h2)]
      · rw [if_neg (by simpa using h1)]

end FnExactRangeOfUses
open Go.RowKit Go.Proofs.Ytabejlfejlpkeaa.PFnExactRangeOf Go.Proofs.YtabejlfejlpkeaaW.PrintWords Go.Proofs.YtabejlfejlpkeaaW.PrintLast Go.Proofs.YtabejlfejlpkeaaW.PrintMore Go.Proofs.Ytabejlfejlpkeaa.Pfx Go.Proofs.Ytabejlfejlpkeaa.Loop FnExactRangeOfUses
set_option linter.unusedVariables false
theorem FnExactRangeOf : laws_FnExactRangeOf.Pure := by
  intro a b wa wb
  obtain ⟨r, ⟨K1, h1⟩, ⟨K2, h2⟩, hl⟩ := RangeOf_same a b
  replace h1 : ∀ k, K1 ≤ k → spec_RangeOf.f k a b = some r := h1
  replace h2 : ∀ k, K2 ≤ k → impl_RangeOf.f k a b = some r := h2
  refine ⟨K1 + K2 + 200, ?_⟩
  unfold laws_FnExactRangeOf.f
  rw [h1 _ (by omega), h2 _ (by omega)]
  simp only [Option.bind_some]
  rw [laws_eqPrefixS_refl _ _ (by simp only [maxLen]; omega) (by omega)]
  simp only [Option.bind_some, if_true, bne_self_eq_false]
  rw [show K1 + K2 + 200 = (K1 + K2 + 198) + 1 + 1 by omega]
  simp only [laws_FnExactRangeOf.j0]
  rw [if_neg (by simp), laws_markPrefixS_is r.1 (by omega) 1 (by omega) (by omega) _ (by omega)]
  simp only [Option.bind_some]
  rw [laws_heldPrefixS_is r.1.length (by omega) 1 (by omega) (by omega) _ (by omega)]
  simp only [Option.bind_some]
  rw [if_neg (by omega), if_pos trivial, h2 _ (by omega)]
  simp only [Option.bind_some]
  rw [laws_eqPrefixS_refl _ _ (by simp only [maxLen]; omega) (by omega)]
  simp only [Option.bind_some, if_true, bne_self_eq_false]
  simp only [laws_FnExactRangeOf.j1]
  rw [if_neg (by simp), laws_heldPrefixS_is r.1.length (by omega) 1 (by omega) (by omega) _ (by omega)]
  simp only [Option.bind_some]
  rw [if_neg (by omega), if_pos trivial]
end Go.Proofs.Ytabejlfejlpkeaa.Pure
