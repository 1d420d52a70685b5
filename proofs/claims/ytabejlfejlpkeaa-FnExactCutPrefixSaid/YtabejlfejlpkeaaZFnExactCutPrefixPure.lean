/- The pure statement of FnExactCutPrefix: what the printed functions tell is what the reference tells. No condition but the arguments' own bounds. -/
import Derived.Test.YtabejlfejlpkeaaYFnExactCutPrefixx13
import Derived.Test.YtabejlfejlpkeaaQFnExactCutPrefix
namespace Go.Proofs.Ytabejlfejlpkeaa.Pure
namespace FnExactCutPrefixUses
open Go.RowKit Go.Proofs.Ytabejlfejlpkeaa.PFnExactCutPrefix Go.Proofs.YtabejlfejlpkeaaW.PrintWords Go.Proofs.YtabejlfejlpkeaaW.PrintLast Go.Proofs.YtabejlfejlpkeaaW.PrintMore Go.Proofs.Ytabejlfejlpkeaa.Pfx Go.Proofs.Ytabejlfejlpkeaa.Loop Go.Proofs.Ytabejlfejlpkeaa.Tbl
set_option linter.unusedVariables false
set_option linter.unusedSimpArgs false

theorem spec_l1In_is (a lo hi : Int) : spec_l1In.f a lo hi = some (decide (lo ≤ a ∧ a ≤ hi)) := by
  unfold spec_l1In.f
  by_cases h : lo ≤ a
  · rw [if_pos h]; simp [h]
  · rw [if_neg h]; simp [h]
theorem impl_within_is (a lo hi : Int) : impl_within.f a lo hi = some (decide (lo ≤ a ∧ a ≤ hi)) := by
  unfold impl_within.f
  by_cases h : lo ≤ a
  · rw [if_pos h]; simp [h]
  · rw [if_neg h]; simp [h]
theorem spec_l1Addr_is (a : Int) : spec_l1Addr.f a = some (decide (0 ≤ a ∧ a ≤ 4294967295)) := by
  unfold spec_l1Addr.f; rw [spec_l1In_is]; rfl
theorem impl_isAddr_is (a : Int) : impl_isAddr.f a = some (decide (0 ≤ a ∧ a ≤ 4294967295)) := by
  unfold impl_isAddr.f; rw [impl_within_is]; rfl
theorem impl_sizeOf_is {n : Int} (h0 : 0 ≤ n) (h1 : n ≤ 32) : impl_sizeOf.f n = some (sz n) := by
  unfold impl_sizeOf.f
  rw [shl_sz h0 h1, if_pos (by rw [wrap_id (by omega) (by omega)]; omega)]
theorem spec_l1Size_is (a : Int) {n : Int} (h0 : 0 ≤ n) (h1 : n ≤ 32) : spec_l1Size.f a n = some (sz n) := by
  unfold spec_l1Size.f
  have e : IntKind.u64.wrap (wrap64 (32 - n)) = wrap64 (32 - n) := by rw [wrap_id (by omega) (by omega), u64_id (by omega) (by omega)]
  rw [e, shl_sz h0 h1, if_pos (by rw [wrap_id (by omega) (by omega)]; omega)]
theorem impl_GoodPrefix_is (a n : Int) : impl_GoodPrefix.f a n = some (good a n) := by
  unfold impl_GoodPrefix.f
  rw [impl_within_is, Option.bind_some]
  by_cases h : 0 ≤ n ∧ n ≤ 32
  · rw [if_pos (decide_eq_true h), impl_isAddr_is, Option.bind_some]
    by_cases h' : 0 ≤ a ∧ a ≤ 4294967295
    · rw [if_pos (decide_eq_true h'), impl_sizeOf_is h.1 h.2, Option.bind_some, if_neg (by have := sz_pos n; omega), Int.tmod_eq_emod_of_nonneg h'.1]
      simp [good, h.1, h.2, h'.1, h'.2, beq_dec]
    · rw [if_neg (by simpa using h')]
      have : good a n = false := by simp [good]; omega
      rw [this]
  · rw [if_neg (by simpa using h)]
    have : good a n = false := by simp [good]; omega
    rw [this]
theorem spec_GoodPrefix_is (a n : Int) : spec_GoodPrefix.f a n = some (good a n) := by
  unfold spec_GoodPrefix.f
  rw [spec_l1In_is, Option.bind_some]
  by_cases h : 0 ≤ n ∧ n ≤ 32
  · rw [if_pos (decide_eq_true h), spec_l1Addr_is, Option.bind_some]
    by_cases h' : 0 ≤ a ∧ a ≤ 4294967295
    · rw [if_pos (decide_eq_true h'), spec_l1Size_is a h.1 h.2, Option.bind_some, if_neg (by have := sz_pos n; omega), Int.tmod_eq_emod_of_nonneg h'.1]
      simp [good, h.1, h.2, h'.1, h'.2, beq_dec]
    · rw [if_neg (by simpa using h')]
      have : good a n = false := by simp [good]; omega
      rw [this]
  · rw [if_neg (by simpa using h)]
    have : good a n = false := by simp [good]; omega
    rw [this]
theorem impl_Prefix_end_is {a n : Int} (h : good a n = true) : impl_Prefix_end.f a n = some (a + sz n - 1) := by
  obtain ⟨h0, h1, h2, h3, h4⟩ := good_iff.1 h
  have := sz_pos n
  have := sz_le h0
  unfold impl_Prefix_end.f
  rw [impl_sizeOf_is h0 h1, Option.bind_some, wrap_id (x := a + sz n) (by omega) (by omega), wrap_id (by omega) (by omega)]
theorem spec_l1HasAddr_is {a n x : Int} (h : good a n = true) (h5 : 0 ≤ x) (h6 : x ≤ 4294967295) : spec_l1HasAddr.f a n x = some (decide (a ≤ x ∧ x ≤ a + sz n - 1)) := by
  obtain ⟨h0, h1, h2, h3, h4⟩ := good_iff.1 h
  have hs := sz_pos n
  have h7 := Int.emod_nonneg x (show sz n ≠ 0 by omega)
  have h8 := Int.emod_lt_of_pos x (show 0 < sz n by omega)
  have h9 := sz_le h0
  unfold spec_l1HasAddr.f
  rw [spec_l1Size_is a h0 h1, Option.bind_some, if_neg (by omega), Int.tmod_eq_emod_of_nonneg h5, wrap_id (by omega) (by omega), beq_dec]
  congr 1
  exact decide_eq_decide.2 (in_row (by omega) h4)
theorem spec_l1Covers_is {a n b m : Int} (h : good a n = true) (hb : good b m = true) : spec_l1Covers.f a n b m = some (decide (n ≤ m ∧ a ≤ b ∧ b ≤ a + sz n - 1)) := by
  obtain ⟨h0, h1, h2, h3, h4⟩ := good_iff.1 hb
  unfold spec_l1Covers.f
  by_cases h' : n ≤ m
  · rw [if_pos h', spec_l1HasAddr_is h h2 h3]; simp [h']
  · rw [if_neg h']; simp [h']
theorem spec_l1Parent_is {a n : Int} (h : good a n = true) (hn : 0 < n) : spec_l1Parent.f a n = some (a - a % (2 * sz n), n - 1) := by
  obtain ⟨h0, h1, h2, h3, h4⟩ := good_iff.1 h
  have hs := sz_pos n
  have h9 := sz_le h0
  have h7 := Int.emod_nonneg a (show 2 * sz n ≠ 0 by omega)
  have h8 := Int.emod_lt_of_pos a (show 0 < 2 * sz n by omega)
  unfold spec_l1Parent.f
  rw [spec_l1Size_is a h0 h1, Option.bind_some, wrap_id (x := 2 * sz n) (by omega) (by omega), if_neg (by omega), Int.tmod_eq_emod_of_nonneg h2, wrap_id (by omega) (by omega), wrap_id (by omega) (by omega)]
theorem spec_l1Halves_is {a n : Int} (h0 : 0 ≤ n) (h1 : n < 32) (h2 : 0 ≤ a) (h3 : a ≤ 4294967295) : spec_l1Halves.f a n = some (a, n + 1, a + sz (n + 1), n + 1) := by
  have hs := sz_pos (n + 1)
  have h9 := sz_le (n := n + 1) (by omega)
  unfold spec_l1Halves.f
  rw [wrap_id (x := n + 1) (by omega) (by omega), spec_l1Size_is a (by omega) (by omega), Option.bind_some, wrap_id (by omega) (by omega)]
theorem spec_l1Sibling_is {a n : Int} (h : good a n = true) (hn : 0 < n) : spec_l1Sibling.f a n = some (sib a n, n) := by
  obtain ⟨h0, h1, h2, h3, h4⟩ := good_iff.1 h
  have hs := sz_pos n
  have hr := parent_rest (a := a) (s := sz n) (by omega) h4
  have h7 := Int.emod_nonneg a (show 2 * sz n ≠ 0 by omega)
  have h8 : a % (2 * sz n) ≤ a := by
    obtain h | h := hr
    · omega
    · have := Int.mul_ediv_add_emod a (2 * sz n)
      have := Int.ediv_nonneg h2 (show 0 ≤ 2 * sz n by omega)
      have := Int.mul_nonneg (show 0 ≤ 2 * sz n by omega) this
      omega
  unfold spec_l1Sibling.f
  rw [spec_l1Parent_is h hn, Option.bind_some]
  simp only []
  rw [spec_l1Halves_is (by omega) (by omega) (by omega) (by omega), Option.bind_some]
  simp only [show n - 1 + 1 = n by omega, beq_self_eq_true, Bool.and_true]
  unfold sib
  rcases hr with hr | hr
  · rw [hr, if_pos (by simp)]; simp
  · rw [hr, if_neg (by simp; omega), if_neg (by omega)]
theorem cmp_isNaN_int_is (a : Int) : cmp_isNaN_int.f a = some false := by unfold cmp_isNaN_int.f; simp
theorem spec_l1Compare_is (k : Nat) (a n b m : Int) : spec_l1Compare.f (k + 1) a n b m = some (cmpP a n b m) := by
  unfold spec_l1Compare.f cmpP
  simp only [spec_l1Compare.j0]
  by_cases h1 : a < b
  · simp [h1]
  · by_cases h2 : a = b
    · subst h2
      by_cases h3 : n < m
      · simp [h3]
      · by_cases h4 : n = m
        · subst h4; simp
        · simp [h3, h4]
    · simp [h1, h2]
theorem laws_eqPrefix_is (a n b m : Int) : laws_eqPrefix.f a n b m = some (decide (a = b ∧ n = m)) := by
  unfold laws_eqPrefix.f
  by_cases h : a = b
  · by_cases h' : n = m
    · rw [if_pos h, if_pos h']; simp [h, h']
    · rw [if_pos h, if_neg h']; simp [h']
  · rw [if_neg h]; simp [h]
theorem rdm_Prefix (pre : List S45) (a : S45) (rest : List S45) : rd_T45 (pre ++ a :: rest) (pre.length : Int) = a := by unfold rd_T45; simp
def pr (p : S45) : Pr := (p.f0, p.f1)
theorem pr_inj {p q : S45} (h : pr p = pr q) : p = q := by cases p; cases q; simpa [pr] using h
theorem rdm_LPrefix (pre : List S43) (a : S43) (rest : List S43) : rd_T43 (pre ++ a :: rest) (pre.length : Int) = a := by unfold rd_T43; simp
theorem laws_eqPrefixS_refl (k : Nat) (l : List S45) (hl : l.length ≤ maxLen) (hk : l.length < k) : laws_eqPrefixS.f k l l = some true := by
  unfold laws_eqPrefixS.f
  rw [if_pos rfl]
  have key : ∀ (rest pre : List S45) (k : Nat), l = pre ++ rest → rest.length < k → laws_eqPrefixS.l0 k l l (pre.length : Int) = some true := by
    intro rest
    induction rest with
    | nil =>
      intro pre k e hk
      obtain ⟨k, rfl⟩ : ∃ m, k = m + 1 := ⟨k - 1, by omega⟩
      simp only [laws_eqPrefixS.l0]
      rw [if_neg (by rw [e]; simp)]
    | cons a rest ih =>
      intro pre k e hk
      obtain ⟨k, rfl⟩ : ∃ m, k = m + 1 := ⟨k - 1, by omega⟩
      simp only [laws_eqPrefixS.l0]
      rw [if_pos (by rw [e]; exact lt_mid _ _ _), if_pos (len_nn _), if_pos (by rw [e]; exact lt_mid _ _ _), laws_eqPrefix_is]
      simp only [Option.bind_some, and_self, decide_true, if_true]
      rw [wrap_mid (rest := rest) (by rw [← e]; exact hl)]
      exact ih (pre ++ [a]) k (by rw [e]; simp) (by simp at hk; omega)
  exact key l [] k rfl hk
theorem laws_toPrefixS_is (k : Nat) (l : List S43) (hl : l.length ≤ 1048576) (hk : l.length < k) : laws_toPrefixS.f k l = some (l.map fun p => (⟨p.f0, p.f1⟩ : S45)) := by
  unfold laws_toPrefixS.f
  rw [if_pos (len_nn _), if_pos (by simp; omega)]
  have key : ∀ (rest pre : List S43) (k : Nat), l = pre ++ rest → rest.length < k →
      laws_toPrefixS.l0 k l ((pre.map fun p => (⟨p.f0, p.f1⟩ : S45)) ++ List.replicate rest.length z45) (pre.length : Int) = some (l.map fun p => (⟨p.f0, p.f1⟩ : S45)) := by
    intro rest
    induction rest with
    | nil =>
      intro pre k e hk
      obtain ⟨k, rfl⟩ : ∃ m, k = m + 1 := ⟨k - 1, by omega⟩
      simp only [laws_toPrefixS.l0]
      rw [if_neg (by rw [e]; simp)]
      simp [e]
    | cons a rest ih =>
      intro pre k e hk
      obtain ⟨k, rfl⟩ : ∃ m, k = m + 1 := ⟨k - 1, by omega⟩
      simp only [laws_toPrefixS.l0, laws_toPrefix.f, Option.bind_some]
      rw [if_pos (by rw [e]; exact lt_mid _ _ _), if_pos (len_nn _), if_pos (by simp; omega), wrap_mid (rest := rest) (by rw [← e]; simp only [maxLen]; omega)]
      have h1 : rd_T43 l (pre.length : Int) = a := by rw [e]; exact rdm_LPrefix _ _ _
      rw [h1, List.length_cons, List.replicate_succ]
      have h2 := ih (pre ++ [a]) k (by rw [e]; simp) (by simp at hk; omega)
      have h3 : ((pre.map fun p => (⟨p.f0, p.f1⟩ : S45)) ++ z45 :: List.replicate rest.length z45).set ((pre.length : Int)).toNat (⟨a.f0, a.f1⟩ : S45) = ((pre ++ [a]).map fun p => (⟨p.f0, p.f1⟩ : S45)) ++ List.replicate rest.length z45 := by
        have := set_mid (pre.map fun p => (⟨p.f0, p.f1⟩ : S45)) z45 ⟨a.f0, a.f1⟩ (List.replicate rest.length z45)
        rw [List.length_map] at this
        rw [this]; simp
      rw [h3]; exact h2
  have := key l [] k rfl hk
  simpa using this
theorem laws_szPrefixS_is (l : List S43) (m0 : l.length ≤ maxLen) : ∃ r, laws_szPrefixS.f l 1048576 = some r ∧ (¬ r < 0 → l.length ≤ 1048576) := by
  unfold laws_szPrefixS.f
  by_cases h : wrap64 (1048576 - (l.length : Int)) < 0
  · exact ⟨_, if_pos h, fun h' => absurd (by omega) h'⟩
  · exact ⟨_, if_neg h, fun h' => sz_ok m0 (if_neg h) h'⟩
theorem rdm_Span (pre : List S74) (a : S74) (rest : List S74) : rd_T74 (pre ++ a :: rest) (pre.length : Int) = a := by unfold rd_T74; simp
def spn (s : S74) : Sp := (s.f0, s.f1)
theorem spn_inj {p q : S74} (h : spn p = spn q) : p = q := by cases p; cases q; simpa [spn] using h
theorem map_pr_inj : ∀ {l l' : List S45}, l.map pr = l'.map pr → l = l'
  | [], [], _ => rfl
  | [], _ :: _, h => by simp at h
  | _ :: _, [], h => by simp at h
  | a :: t, b :: t', h => by
    simp only [List.map_cons, List.cons.injEq] at h
    rw [pr_inj h.1, map_pr_inj h.2]
/-- The greatest good prefix at a place, and that the search comes to it. -/
theorem best_of {f b : Int} (h0 : 0 ≤ f) (h1 : f ≤ b) (hb : b ≤ 4294967295) : ∃ n : Int, Best b (f, n) ∧ 0 ≤ n ∧ n ≤ 32 := by
  have key : ∀ d : Nat, d ≤ 32 → (∃ n : Int, Best b (f, n) ∧ 0 ≤ n ∧ n ≤ 32) ∨ ∀ n : Int, 0 ≤ n → n < d → GoodP (f, n) → ¬ last (f, n) ≤ b := by
    intro d
    induction d with
    | zero => intro _; exact .inr (fun n h h' => by omega)
    | succ d ih =>
      intro hd
      rcases ih (by omega) with h | h
      · exact .inl h
      · by_cases hg : GoodP (f, (d : Int)) ∧ last (f, (d : Int)) ≤ b
        · exact .inl ⟨d, ⟨hg.1, hg.2, fun n hn hlt => h n hn hlt⟩, by omega, by omega⟩
        · refine .inr (fun n hn hlt hgn hln => ?_)
          by_cases e : n = (d : Int)
          · subst e; exact hg ⟨hgn, hln⟩
          · exact h n hn (by omega) hgn hln
  rcases key 32 (by omega) with h | h
  · exact h
  · have hg : GoodP (f, 32) := good_mk ⟨by simp, by simp, h0, by simp; omega, by show f % sz 32 = 0; rw [sz_lit.2]; omega⟩
    have hl : last (f, 32) = f := by unfold last; rw [sz_lit.2]; simp
    exact ⟨32, ⟨hg, by omega, fun n hn hlt hgn hln => h n hn hlt hgn hln⟩, by omega, by omega⟩
theorem prefixesIn_l2 {b f n : Int} {out : List S45} {sp : List S74} {len i a : Int} {r : List S45} (hB : Best b (f, n)) (hb : b ≤ 4294967295) (hlen : out.length < 8796093022208)
    (h : Ev (fun k => impl_prefixesIn.l1 k (out ++ [⟨f, n⟩]) (last (f, n) + 1) sp len i a b) r) : ∀ (d : Nat) (m : Int), 0 ≤ m → m ≤ n → (n - m).toNat = d → Ev (fun k => impl_prefixesIn.l2 k out sp len i a b f m) r := by
  have hg := hB.good
  obtain ⟨p0, p1, p2, p3, p4⟩ := hg.facts
  have hend := good_end hg
  have hl : last (f, n) = f + sz n - 1 := rfl
  intro d
  induction d with
  | zero =>
    intro m h0 h1 hd
    obtain rfl : m = n := by omega
    refine Ev.step (f := fun k => impl_prefixesIn.l1 k (out ++ [⟨f, m⟩]) (last (f, m) + 1) sp len i a b) (fun k => ?_) h
    simp only [impl_prefixesIn.l2]
    have hgm : good f m = true := hg
    have hfit := hB.fits
    simp only at p2 p3 hend
    rw [impl_GoodPrefix_is, Option.bind_some, if_pos hgm, impl_Prefix_end_is hgm, Option.bind_some, if_neg (by omega), if_pos hlen, Option.bind_some, wrap_id (by have := sz_pos m; omega) (by omega)]
    rfl
  | succ d ih =>
    intro m h0 h1 hd
    have hih := ih (m + 1) (by omega) (by omega) (by omega)
    refine Ev.step (f := fun k => impl_prefixesIn.l2 k out sp len i a b f (m + 1)) (fun k => ?_) hih
    have hlt : m < n := by omega
    simp only at p1
    have hleast := hB.least m h0 (by simpa using hlt)
    simp only [impl_prefixesIn.l2]
    rw [impl_GoodPrefix_is, Option.bind_some, wrap_id (x := m + 1) (by omega) (by omega)]
    by_cases hgm : good f m = true
    · rw [if_pos hgm, impl_Prefix_end_is hgm, Option.bind_some, if_pos]
      have : ¬ last (f, m) ≤ b := hleast hgm
      have h2 : last (f, m) = f + sz m - 1 := rfl
      omega
    · rw [if_neg hgm]
/-- What the greedy walk tells of rows, row by row. -/
def RowsOf (l : List S74) (r : List (List S45)) : Prop := r.length = l.length ∧ ∀ (i : Nat) (s : S74) (g : List S45), l[i]? = some s → r[i]? = some g → Greedy s.f0 s.f1 s.f0 (g.map pr)
theorem RowsOf.cons {s : S74} {l : List S74} {g : List S45} {r : List (List S45)} (h : Greedy s.f0 s.f1 s.f0 (g.map pr)) (hr : RowsOf l r) : RowsOf (s :: l) (g :: r) := by
  refine ⟨by simp [hr.1], fun i s' g' h1 h2 => ?_⟩
  cases i with
  | zero =>
    simp only [List.getElem?_cons_zero, Option.some.injEq] at h1 h2
    subst h1; subst h2; exact h
  | succ i => exact hr.2 i s' g' (by simpa using h1) (by simpa using h2)
theorem prefixesIn_is (sp : List S74) (hn : sp.length ≤ 1048576) (hg : Gapped (sp.map spn)) (hb : ∀ s, s ∈ sp → 0 ≤ s.f0 ∧ s.f1 ≤ 4294967295) : ∃ r, RowsOf sp r ∧ Ev (fun k => impl_prefixesIn.f k sp) r.flatten := by
  have key : ∀ (rest pre : List S74) (out : List S45), sp = pre ++ rest → (∀ s, s ∈ rest → (out.length : Int) ≤ s.f0) →
      ∃ r, RowsOf rest r ∧ Ev (fun k => impl_prefixesIn.l0 k out sp (sp.length : Int) (pre.length : Int)) (out ++ r.flatten) := by
    intro rest
    induction rest with
    | nil =>
      intro pre out e ho
      refine ⟨[], ⟨rfl, by simp⟩, ?_⟩
      refine Ev.step (f := fun _ => some out) (fun k => ?_) (by simpa using Ev.now out)
      simp only [impl_prefixesIn.l0]
      rw [if_neg (by rw [e]; simp)]
    | cons s rest ih =>
      intro pre out e ho
      have hs := hb s (by rw [e]; simp)
      have hne := hg.ne (spn s) (List.mem_map.2 ⟨s, by rw [e]; simp, rfl⟩)
      have hgap : ∀ t, t ∈ rest → s.f1 + 1 < t.f0 := fun t ht => by
        have h := hg.srt
        rw [e, List.map_append, List.map_cons] at h
        have h2 := (List.pairwise_append.1 h).2.1
        exact (List.pairwise_cons.1 h2).1 (spn t) (List.mem_map.2 ⟨t, ht, rfl⟩)
      have hlen : pre.length < sp.length := by rw [e]; simp
      have inner : ∀ (d : Nat) (f : Int) (out : List S45), (s.f1 + 1 - f).toNat = d → s.f0 ≤ f → f ≤ s.f1 + 1 → (out.length : Int) ≤ f → Clear s.f0 s.f1 f →
          ∃ g r, Greedy s.f0 s.f1 f (g.map pr) ∧ RowsOf rest r ∧ Ev (fun k => impl_prefixesIn.l1 k out f sp (sp.length : Int) (pre.length : Int) s.f0 s.f1) (out ++ g ++ r.flatten) := by
        intro d
        induction d using Nat.strongRecOn with
        | _ d ihd =>
          intro f out hd hf0 hf1 hol hcl
          by_cases hend : f ≤ s.f1
          · obtain ⟨n, hB, n0, n1⟩ := best_of (b := s.f1) (show 0 ≤ f by omega) hend hs.2
            have hfit := hB.fits
            have hsz := sz_pos n
            have hlast : last (f, n) = f + sz n - 1 := rfl
            obtain ⟨g, r, G, R, E⟩ := ihd (s.f1 + 1 - (last (f, n) + 1)).toNat (by omega) (last (f, n) + 1) (out ++ [⟨f, n⟩]) rfl (by omega) (by omega) (by simp; omega) (best_clear hB rfl hcl)
            refine ⟨⟨f, n⟩ :: g, r, ?_, R, ?_⟩
            · exact greedy_cons hB rfl hf0 hcl G
            · have E2 := prefixesIn_l2 hB hs.2 (by omega) E (n - 0).toNat 0 (by omega) n0 rfl
              have e3 : out ++ ⟨f, n⟩ :: g ++ r.flatten = out ++ [⟨f, n⟩] ++ g ++ r.flatten := by simp
              rw [e3]
              refine Ev.step (f := fun k => impl_prefixesIn.l2 k out sp (sp.length : Int) (pre.length : Int) s.f0 s.f1 f 0) (fun k => ?_) E2
              simp only [impl_prefixesIn.l1]
              rw [if_pos hend]
          · have hf : f = s.f1 + 1 := by omega
            obtain ⟨r, R, E⟩ := ih (pre ++ [s]) out (by rw [e]; simp) (fun t ht => by have := hgap t ht; omega)
            refine ⟨[], r, greedy_nil (by omega) hf1, R, ?_⟩
            rw [List.append_nil]
            refine Ev.step (f := fun k => impl_prefixesIn.l0 k out sp (sp.length : Int) ((pre ++ [s]).length : Int)) (fun k => ?_) E
            simp only [impl_prefixesIn.l1]
            rw [if_neg hend, wrap_id (by omega) (by omega)]
            simp
      obtain ⟨g, r, G, R, E⟩ := inner _ s.f0 out rfl (Int.le_refl _) (by have : s.f0 ≤ s.f1 := hne; omega) (ho s (by simp)) (clear_first _ _)
      refine ⟨g :: r, R.cons G, ?_⟩
      have e4 : out ++ (g :: r).flatten = out ++ g ++ r.flatten := by simp
      rw [e4]
      refine Ev.step (f := fun k => impl_prefixesIn.l1 k out s.f0 sp (sp.length : Int) (pre.length : Int) s.f0 s.f1) (fun k => ?_) E
      have h1 : rd_T74 sp (pre.length : Int) = s := by rw [e]; exact rdm_Span _ _ _
      simp only [impl_prefixesIn.l0]
      rw [if_pos (by omega), if_pos (len_nn _), if_pos (by omega), h1]
  obtain ⟨r, R, E⟩ := key sp [] [] rfl (fun s hs => by have := (hb s hs).1; simp; omega)
  refine ⟨r, R, ?_⟩
  refine Ev.congr (f := fun k => impl_prefixesIn.l0 k [] sp (sp.length : Int) (([] : List S74).length : Int)) (fun k => ?_) (by simpa using E)
  unfold impl_prefixesIn.f; rfl
theorem RowsOf.canon {l : List S74} {r : List (List S45)} (hg : Gapped (l.map spn)) (h : RowsOf l r) : Canon (inS (l.map spn)) (r.flatten.map pr) := by
  have e : r.flatten.map pr = (r.map (List.map pr)).flatten := by rw [List.map_flatten]
  rw [e]
  refine canon_rows hg (by simp [h.1]) (fun i s g h1 h2 => ?_)
  rw [List.getElem?_map] at h1 h2
  obtain ⟨s', hs', rfl⟩ := Option.map_eq_some_iff.1 h1
  obtain ⟨g', hg', rfl⟩ := Option.map_eq_some_iff.1 h2
  exact (h.2 i s' g' hs' hg').canon
def mk_Prefix : Int → Nat → List S45
  | _, 0 => []
  | q, n + 1 => ⟨q, q + 1⟩ :: mk_Prefix (q + 2) n
theorem mk_Prefix_len (q : Int) (n : Nat) : (mk_Prefix q n).length = n := by
  induction n generalizing q with
  | zero => rfl
  | succ n ih => simp [mk_Prefix, ih]
theorem laws_markPrefixS_is (l : List S45) (hl : l.length ≤ 1000000000) (q : Int) (hq : 0 ≤ q) (hq2 : q ≤ 1000000000000) (k : Nat) (hk : l.length < k) : laws_markPrefixS.f k l q = some (q + 2 * l.length, mk_Prefix q l.length) := by
  have key : ∀ (rest pre : List S45) (k : Nat) (q : Int), 0 ≤ q → q + 2 * rest.length ≤ 4000000000000 → (pre ++ rest).length ≤ 1000000000 → rest.length < k →
      laws_markPrefixS.l0 k (pre ++ rest) q (pre.length : Int) = some (q + 2 * rest.length, pre ++ mk_Prefix q rest.length) := by
    intro rest
    induction rest with
    | nil =>
      intro pre k q h0 h1 h2 hk
      obtain ⟨k, rfl⟩ : ∃ m, k = m + 1 := ⟨k - 1, by omega⟩
      simp only [laws_markPrefixS.l0]
      rw [if_neg (by simp)]
      simp [mk_Prefix]
    | cons a rest ih =>
      intro pre k q h0 h1 h2 hk
      obtain ⟨k, rfl⟩ : ∃ m, k = m + 1 := ⟨k - 1, by omega⟩
      simp only [List.length_cons] at h1 hk
      simp only [laws_markPrefixS.l0]
      rw [if_pos (lt_mid _ _ _), if_pos (len_nn _), rdm_Prefix, set_mid, Option.bind_some, rdm_Prefix, set_mid, wrap_id (x := q + 1) (by omega) (by omega), wrap_id (x := q + 1 + 1) (by omega) (by omega), wrap_mid (a := a) (rest := rest) (by simp only [maxLen, List.length_append, List.length_cons] at h2 ⊢; omega), snoc_cons]
      have := ih (pre ++ [⟨q, q + 1⟩]) k (q + 2) (by omega) (by omega) (by simp at h2 ⊢; omega) (by omega)
      rw [show q + 1 + 1 = q + 2 by omega]
      simp only [List.length_append, List.length_singleton] at this ⊢
      rw [this]
      simp [mk_Prefix]; omega
  unfold laws_markPrefixS.f
  have := key l [] k q hq (by omega) (by simpa using hl) hk
  simpa using this
theorem laws_heldPrefixS_is (n : Nat) (hn : n ≤ 1000000000) (q : Int) (hq : 0 ≤ q) (hq2 : q ≤ 1000000000000) (k : Nat) (hk : n < k) : laws_heldPrefixS.f k (mk_Prefix q n) q = some (q + 2 * n) := by
  have key : ∀ (n : Nat) (pre : List S45) (k : Nat) (q : Int), 0 ≤ q → q + 2 * n ≤ 4000000000000 → pre.length + n ≤ 1000000000 → n < k →
      laws_heldPrefixS.l0 k (pre ++ mk_Prefix q n) q (pre.length : Int) = some (q + 2 * n) := by
    intro n
    induction n with
    | zero =>
      intro pre k q h0 h1 h2 hk
      obtain ⟨k, rfl⟩ : ∃ m, k = m + 1 := ⟨k - 1, by omega⟩
      rw [show mk_Prefix q 0 = [] from rfl, List.append_nil]
      simp only [laws_heldPrefixS.l0]
      rw [if_neg (by omega)]
      simp
    | succ n ih =>
      intro pre k q h0 h1 h2 hk
      obtain ⟨k, rfl⟩ : ∃ m, k = m + 1 := ⟨k - 1, by omega⟩
      rw [show mk_Prefix q (n + 1) = ⟨q, q + 1⟩ :: mk_Prefix (q + 2) n from rfl]
      simp only [laws_heldPrefixS.l0]
      have hlen : (pre ++ (⟨q, q + 1⟩ : S45) :: mk_Prefix (q + 2) n).length ≤ maxLen := by
        simp only [maxLen, List.length_append, List.length_cons, mk_Prefix_len]; omega
      rw [if_pos (lt_mid _ _ _), if_pos (len_nn _), rdm_Prefix, if_pos rfl, wrap_id (x := q + 1) (by omega) (by omega), if_pos rfl, wrap_id (x := q + 1 + 1) (by omega) (by omega), wrap_mid hlen, snoc_cons]
      have := ih (pre ++ [⟨q, q + 1⟩]) k (q + 2) (by omega) (by omega) (by simp; omega) (by omega)
      rw [show q + 1 + 1 = q + 2 by omega]
      rw [this]
      congr 1; omega
  unfold laws_heldPrefixS.f
  have := key n [] k q hq (by omega) (by simpa using hn) hk
  simpa using this
theorem spec_l3Good_is (k : Nat) (l : List S45) (hl : l.length ≤ 1048576) (hk : l.length < k) : spec_l3Good.f k l = some (decide (l.length ≤ 64) && (l.map pr).all (fun p => good p.1 p.2)) := by
  unfold spec_l3Good.f
  have key : ∀ (rest pre : List S45) (k : Nat), l = pre ++ rest → rest.length < k →
      spec_l3Good.l0 k l l (l.length : Int) (pre.length : Int) = some (decide (l.length ≤ 64) && (rest.map pr).all (fun p => good p.1 p.2)) := by
    intro rest
    induction rest with
    | nil =>
      intro pre k e hk
      obtain ⟨k, rfl⟩ : ∃ m, k = m + 1 := ⟨k - 1, by omega⟩
      simp only [spec_l3Good.l0]
      rw [if_neg (by rw [e]; simp)]
      have : ((l.length : Int) ≤ 64) ↔ l.length ≤ 64 := by omega
      simp [this]
    | cons a rest ih =>
      intro pre k e hk
      obtain ⟨k, rfl⟩ : ∃ m, k = m + 1 := ⟨k - 1, by omega⟩
      have h1 : rd_T45 l (pre.length : Int) = a := by rw [e]; exact rdm_Prefix _ _ _
      have hih := ih (pre ++ [a]) k (by rw [e]; simp) (by simp at hk; omega)
      simp only [spec_l3Good.l0]
      rw [if_pos (by rw [e]; exact lt_mid _ _ _), if_pos (len_nn _), if_pos (by rw [e]; exact lt_mid _ _ _), h1, spec_GoodPrefix_is, Option.bind_some, wrap_mid (rest := rest) (by rw [← e]; simp only [maxLen]; omega), hih]
      by_cases hg : good a.f0 a.f1 = true
      · rw [if_pos hg]; simp [pr, hg]
      · rw [if_neg hg]; simp [pr, hg]
  exact key l [] k rfl hk
theorem impl_arePrefixes_is (k : Nat) (l : List S45) (hl : l.length ≤ 1048576) (hk : l.length < k) : impl_arePrefixes.f k l = some (decide (l.length ≤ 64) && (l.map pr).all (fun p => good p.1 p.2)) := by
  unfold impl_arePrefixes.f slices_ContainsFunc_impl_Prefix_impl_Prefix.f slices_IndexFunc_impl_Prefix_impl_Prefix.f
  rw [any_gen (fun k i => slices_IndexFunc_impl_Prefix_impl_Prefix.l0 k l (l.length : Int) i) l (fun p => !good p.f0 p.f1) (fun k => by
      show slices_IndexFunc_impl_Prefix_impl_Prefix.l0 (k + 1) l (l.length : Int) (l.length : Int) = _
      rw [slices_IndexFunc_impl_Prefix_impl_Prefix.l0, if_neg (not_lt_end l)]) (fun k pre a rest e => by
      show slices_IndexFunc_impl_Prefix_impl_Prefix.l0 (k + 1) l (l.length : Int) (pre.length : Int) = _
      have h1 : rd_T45 l (pre.length : Int) = a := by rw [e]; exact rdm_Prefix _ _ _
      rw [slices_IndexFunc_impl_Prefix_impl_Prefix.l0, if_pos (by rw [e]; exact lt_mid _ _ _), if_pos (len_nn _), if_pos (by rw [e]; exact lt_mid _ _ _), h1]
      unfold impl_arePrefixes_1.f
      rw [impl_GoodPrefix_is, Option.bind_some, Option.bind_some, wrap_mid (rest := rest) (by rw [← e]; simp only [maxLen]; omega)]) k hk]
  have e64 : ((l.length : Int) ≤ 64) ↔ l.length ≤ 64 := by omega
  by_cases h : (l.length : Int) ≤ 64
  · rw [if_pos h, Option.bind_some]
    have h2 := e64.1 h
    simp only [h2, decide_true, Bool.true_and, List.all_map, Function.comp_def, pr]
    rw [List.not_any_eq_all_not]
    simp
  · rw [if_neg h]
    have h2 : ¬ l.length ≤ 64 := fun h' => h (e64.2 h')
    simp [h2]
theorem mx_max (a b : Int) : mx a b = max a b := by unfold mx; split <;> omega
theorem spansOf_l0 (l : List S45) (hn : l.length ≤ 1048576) (hg : ∀ p, p ∈ l → good p.f0 p.f1 = true) : ∀ (rest pre : List S45) (out : List S74), l = pre ++ rest → out.length ≤ pre.length → (∀ s, s ∈ out → 0 ≤ s.f0 ∧ 0 ≤ s.f1 ∧ s.f1 ≤ 4294967295) →
    ∃ r : List S74, r.map spn = (rest.map pr).foldl rowPut (out.map spn) ∧ r.length ≤ l.length ∧ (∀ s, s ∈ r → 0 ≤ s.f0 ∧ 0 ≤ s.f1 ∧ s.f1 ≤ 4294967295) ∧ Ev (fun k => impl_spansOf.l0 k out l (l.length : Int) (pre.length : Int)) r := by
  intro rest
  induction rest with
  | nil =>
    intro pre out e ho hb
    refine ⟨out, rfl, by rw [e]; simpa using ho, hb, ?_⟩
    refine Ev.step (f := fun _ => some out) (fun k => ?_) (Ev.now out)
    simp only [impl_spansOf.l0]
    rw [if_neg (by rw [e]; simp)]
  | cons a rest ih =>
    intro pre out e ho hb
    have hga := hg a (by rw [e]; simp)
    have hlast : impl_Prefix_end.f a.f0 a.f1 = some (last (pr a)) := impl_Prefix_end_is hga
    obtain ⟨g1, g2, g3, g4, _⟩ := good_iff.1 hga
    have hszp := sz_pos a.f1
    have hle : last (pr a) ≤ 4294967295 := good_end hga
    have hl0 : a.f0 ≤ last (pr a) := fst_le_last (pr a)
    have hlen : pre.length < l.length := by rw [e]; simp
    have h1 : rd_T45 l (pre.length : Int) = a := by rw [e]; exact rdm_Prefix _ _ _
    have hw : wrap64 ((pre.length : Int) + 1) = ((pre ++ [a]).length : Int) := by rw [wrap_id (by omega) (by omega)]; simp
    -- what comes next
    have next : ∀ out' : List S74, out'.map spn = rowPut (out.map spn) (pr a) → out'.length ≤ pre.length + 1 → (∀ s, s ∈ out' → 0 ≤ s.f0 ∧ 0 ≤ s.f1 ∧ s.f1 ≤ 4294967295) →
        (∃ f : Nat → Option (List S74), (∀ k, impl_spansOf.l0 (k + 1) out l (l.length : Int) (pre.length : Int) = f k) ∧ ∀ k, f (k + 1) = impl_spansOf.l0 k out' l (l.length : Int) ((pre ++ [a]).length : Int)) →
        ∃ r : List S74, r.map spn = ((a :: rest).map pr).foldl rowPut (out.map spn) ∧ r.length ≤ l.length ∧ (∀ s, s ∈ r → 0 ≤ s.f0 ∧ 0 ≤ s.f1 ∧ s.f1 ≤ 4294967295) ∧ Ev (fun k => impl_spansOf.l0 k out l (l.length : Int) (pre.length : Int)) r := by
      rintro out' ho' hl' hb' ⟨f, hf1, hf2⟩
      obtain ⟨r, hr, hrl, hrb, E⟩ := ih (pre ++ [a]) out' (by rw [e]; simp) (by simpa using hl') hb'
      refine ⟨r, by rw [hr, ho']; rfl, hrl, hrb, ?_⟩
      exact Ev.step (f := f) hf1 (Ev.step (f := fun k => impl_spansOf.l0 k out' l (l.length : Int) ((pre ++ [a]).length : Int)) hf2 E)
    rcases List.eq_nil_or_concat out with rfl | ⟨init, s, rfl⟩
    · refine next [⟨a.f0, last (pr a)⟩] rfl (by simp) (fun s hs => by rcases List.mem_singleton.1 hs with rfl; exact ⟨g3, by show 0 ≤ last (pr a); omega, hle⟩) ?_
      refine ⟨fun k => impl_spansOf.j1 k [] (wrap64 ((([] : List S74).length : Int) - 1)) l (l.length : Int) (pre.length : Int) false a.f0 a.f1, fun k => ?_, fun k => ?_⟩
      · simp only [impl_spansOf.l0]
        rw [if_pos (by omega), if_pos (len_nn _), if_pos (by omega), if_neg (by simp only [List.length_nil]; rw [wrap_id (by omega) (by omega)]; omega), h1]
      · simp only [impl_spansOf.j1]
        rw [if_neg (by simp), hlast, Option.bind_some, if_pos (by simp), hw]
        rfl
    · rw [List.concat_eq_append] at *
      have hbs := hb s (by simp)
      have hol : init.length + 1 ≤ pre.length := by simpa using ho
      have hw2 : wrap64 (((init ++ [s]).length : Int) - 1) = (init.length : Int) := by
        rw [show ((init ++ [s]).length : Int) = (init.length : Int) + 1 by simp, wrap_id (by omega) (by omega)]; omega
      have h2 : rd_T74 (init ++ [s]) (init.length : Int) = s := rdm_Span init s []
      have hw3 : wrap64 (s.f1 + 1) = s.f1 + 1 := wrap_id (by omega) (by omega)
      have hin : (init.length : Int) < ((init ++ [s]).length : Int) := by simp; omega
      have hgl : (List.map spn (init ++ [s])).getLast? = some (spn s) := by simp
      by_cases hc : a.f0 ≤ s.f1 + 1
      · refine next (init ++ [⟨s.f0, max s.f1 (last (pr a))⟩]) ?_ (by simpa using Nat.le_succ_of_le hol) (fun t ht => ?_) ?_
        · unfold rowPut
          rw [hgl]
          dsimp only
          rw [if_pos (show (pr a).1 ≤ (spn s).2 + 1 from hc)]
          simp [spn]
        · rcases List.mem_append.1 ht with h3 | h3
          · exact hb t (List.mem_append.2 (.inl h3))
          · rcases List.mem_singleton.1 h3 with rfl
            refine ⟨hbs.1, ?_, ?_⟩
            · show 0 ≤ max s.f1 (last (pr a)); omega
            · show max s.f1 (last (pr a)) ≤ 4294967295; omega
        · refine ⟨fun k => impl_spansOf.j1 k (init ++ [s]) (init.length : Int) l (l.length : Int) (pre.length : Int) (decide (a.f0 ≤ s.f1 + 1)) a.f0 a.f1, fun k => ?_, fun k => ?_⟩
          · simp only [impl_spansOf.l0]
            rw [if_pos (by omega), if_pos (len_nn _), if_pos (by omega), hw2, if_pos (len_nn _), if_pos (len_nn _), if_pos hin, h1, h2, hw3]
          · simp only [impl_spansOf.j1]
            rw [if_pos (by simpa using hc), if_pos (len_nn _), if_pos hin, hlast, Option.bind_some, h2, hw, mx_max, set_mid]
      · refine next (init ++ [s] ++ [⟨a.f0, last (pr a)⟩]) ?_ (by simp; omega) (fun t ht => ?_) ?_
        · unfold rowPut
          rw [hgl]
          dsimp only
          rw [if_neg (show ¬ (pr a).1 ≤ (spn s).2 + 1 from hc), List.map_append]
          rfl
        · rcases List.mem_append.1 ht with h3 | h3
          · exact hb t h3
          · rcases List.mem_singleton.1 h3 with rfl
            exact ⟨g3, by show 0 ≤ last (pr a); omega, hle⟩
        · refine ⟨fun k => impl_spansOf.j1 k (init ++ [s]) (init.length : Int) l (l.length : Int) (pre.length : Int) (decide (a.f0 ≤ s.f1 + 1)) a.f0 a.f1, fun k => ?_, fun k => ?_⟩
          · simp only [impl_spansOf.l0]
            rw [if_pos (by omega), if_pos (len_nn _), if_pos (by omega), hw2, if_pos (len_nn _), if_pos (len_nn _), if_pos hin, h1, h2, hw3]
          · simp only [impl_spansOf.j1]
            rw [if_neg (by simpa using hc), hlast, Option.bind_some, if_pos (show (init ++ [s]).length < 8796093022208 by omega), hw]
theorem sv_sort_pairs (l : List (Int × Int)) : (sv_sort l).Pairwise (fun p q => p.1 ≤ q.1) := by
  have h := List.pairwise_mergeSort (le := fun x y : Int × Int => !(ltOf sv_cf) y x) (fun a b c h1 h2 => by
    have := sv_swo.ntrans c b a (by simpa using h2) (by simpa using h1)
    simpa using this) (fun a b => by
    cases h1 : ltOf sv_cf b a
    · simp
    · cases h2 : ltOf sv_cf a b
      · simp
      · have := sv_swo.trans a b a h2 h1
        rw [sv_swo.irrefl] at this; cases this) l
  refine h.imp (fun {a b} hab => ?_)
  have h1 : ltOf sv_cf b a = false := by simpa using hab
  rw [sv_lt] at h1
  simp only [decide_eq_false_iff_not] at h1
  omega
theorem spansOf_is (l : List S45) (hn : l.length ≤ 1048576) (hg : ∀ p, p ∈ l → good p.f0 p.f1 = true) :
    ∃ r : List S74, Gapped (r.map spn) ∧ (∀ x, inS (r.map spn) x ↔ inL (l.map pr) x) ∧ r.length ≤ l.length ∧ (∀ s, s ∈ r → 0 ≤ s.f0 ∧ 0 ≤ s.f1 ∧ s.f1 ≤ 4294967295) ∧ Ev (fun k => impl_spansOf.f k l) r := by
  have hperm : (sv_sort (l.map sv_p)).Perm (l.map sv_p) := List.mergeSort_perm _ _
  have hmem : ∀ p, p ∈ (sv_sort (l.map sv_p)).map sv_s ↔ p ∈ l := fun p => by
    rw [List.mem_map]
    constructor
    · rintro ⟨q, hq, rfl⟩
      obtain ⟨t, ht, rfl⟩ := List.mem_map.1 (hperm.mem_iff.1 hq)
      exact ht
    · intro hp
      exact ⟨sv_p p, hperm.mem_iff.2 (List.mem_map.2 ⟨p, hp, rfl⟩), rfl⟩
  have hlen : ((sv_sort (l.map sv_p)).map sv_s).length = l.length := by rw [List.length_map, hperm.length_eq, List.length_map]
  obtain ⟨r, hr, hrl, hrb, E⟩ := spansOf_l0 ((sv_sort (l.map sv_p)).map sv_s) (by omega) (fun p hp => hg p ((hmem p).1 hp)) ((sv_sort (l.map sv_p)).map sv_s) [] [] rfl (by simp) (by simp)
  have hpairs : (((sv_sort (l.map sv_p)).map sv_s).map pr) = sv_sort (l.map sv_p) := by
    rw [List.map_map]
    exact List.map_id _
  rw [hpairs] at hr
  obtain ⟨b', hI⟩ := rows_fold (sv_sort (l.map sv_p)) [] _ (-1) (rows_start (-1)) (sv_sort_pairs _) (fun p hp => by
    obtain ⟨t, ht, rfl⟩ := List.mem_map.1 (hperm.mem_iff.1 hp)
    obtain ⟨_, _, g3, _, _⟩ := good_iff.1 (hg t ht)
    show -1 ≤ t.f0
    omega)
  have hr' : r.map spn = (sv_sort (l.map sv_p)).foldl rowPut [] := hr
  refine ⟨r, by rw [hr']; exact hI.gap, fun x => ?_, by omega, hrb, ?_⟩
  · rw [hr', hI.eq x]
    unfold inL
    constructor
    · rintro (h | ⟨p, hp, h⟩)
      · exact h.elim
      · exact ⟨p, hperm.mem_iff.1 hp, h⟩
    · rintro ⟨p, hp, h⟩
      exact .inr ⟨p, hperm.mem_iff.2 hp, h⟩
  · refine Ev.congr (f := fun k => impl_spansOf.l0 k [] ((sv_sort (l.map sv_p)).map sv_s) (((sv_sort (l.map sv_p)).map sv_s).length : Int) (([] : List S45).length : Int)) (fun k => ?_) E
    unfold impl_spansOf.f slices_SortedFunc.f
    rw [if_pos (by omega), Option.bind_some]
    rfl
theorem l3Put_l2 (p : Pr) : ∀ (rest pre : List S45), (pre ++ rest).length ≤ 1048576 → (rest.map pr).Pairwise (fun a b => a.1 ≤ b.1) → (∀ q, q ∈ pre → q.f0 ≤ p.1) →
    ∃ l1 l2, pre ++ rest = l1 ++ l2 ∧ (∀ q, q ∈ l1 → q.f0 ≤ p.1) ∧ (∀ q, q ∈ l2 → p.1 ≤ q.f0) ∧ ∃ K, ∀ k, K ≤ k → spec_l3Put.l2 k (pre ++ rest) (pre.length : Int) p.1 p.2 = some (l1 ++ ⟨p.1, p.2⟩ :: l2) := by
  have fin : ∀ (pre rest : List S45), (pre ++ rest).length ≤ 1048576 → (if (pre.length : Int) ≤ ((pre ++ rest).length : Int) then ((some ((pre ++ rest).take (pre.length : Int).toNat : List S45)).bind fun y176 => (if ([] : List S45).length + y176.length < 8796093022208 then ((some (([] : List S45) ++ y176 : List S45)).bind fun y180 => (if y180.length < 8796093022208 then ((some (y180 ++ [(⟨p.1, p.2⟩ : S45)] : List S45)).bind fun y183 => ((some ((pre ++ rest).drop (pre.length : Int).toNat : List S45)).bind fun y186 => (if y183.length + y186.length < 8796093022208 then (some (y183 ++ y186)) else (none)))) else (none))) else (none))) else (none)) = some (pre ++ ⟨p.1, p.2⟩ :: rest) := by
    intro pre rest h
    have h' : pre.length + rest.length ≤ 1048576 := by simpa using h
    rw [if_pos (by simp; omega), Int.toNat_natCast, List.take_left, List.drop_left]
    simp only [Option.bind_some, List.nil_append]
    rw [if_pos (by simp; omega), if_pos (by omega), if_pos (by simp; omega)]
    simp
  intro rest
  induction rest with
  | nil =>
    intro pre h hs hp
    refine ⟨pre, [], rfl, hp, by simp, 1, fun k hk => ?_⟩
    obtain ⟨k, rfl⟩ : ∃ k', k = k' + 1 := ⟨k - 1, by omega⟩
    rw [spec_l3Put.l2, if_neg (by simp), if_pos (len_nn _)]
    exact fin pre [] h
  | cons q rest ih =>
    intro pre h hs hp
    have h1 : rd_T45 (pre ++ q :: rest) (pre.length : Int) = q := rdm_Prefix _ _ _
    have h' : pre.length + (rest.length + 1) ≤ 1048576 := by simpa using h
    obtain ⟨s1, s2⟩ := List.pairwise_cons.1 hs
    by_cases hc : cmpP q.f0 q.f1 p.1 p.2 < 0
    · have hq : q.f0 ≤ p.1 := by unfold cmpP at hc; split at hc <;> (try split at hc) <;> omega
      obtain ⟨l1, l2, e, a1, a2, K, hK⟩ := ih (pre ++ [q]) (by simpa using h) s2 (fun t ht => by
        rcases List.mem_append.1 ht with h2 | h2
        · exact hp t h2
        · rcases List.mem_singleton.1 h2 with rfl; exact hq)
      have e2 : pre ++ q :: rest = pre ++ [q] ++ rest := by simp
      refine ⟨l1, l2, by rw [e2, e], a1, a2, K + 2, fun k hk => ?_⟩
      obtain ⟨k, rfl⟩ : ∃ k', k = k' + 1 + 1 := ⟨k - 2, by omega⟩
      rw [spec_l3Put.l2, if_pos (lt_mid _ _ _), if_pos (len_nn _), h1, spec_l1Compare_is, Option.bind_some, if_pos hc, wrap_id (by omega) (by omega), e2, show (pre.length : Int) + 1 = ((pre ++ [q]).length : Int) by simp]
      exact hK _ (by omega)
    · have hq : p.1 ≤ q.f0 := by unfold cmpP at hc; split at hc <;> (try split at hc) <;> omega
      refine ⟨pre, q :: rest, rfl, hp, fun t ht => ?_, 2, fun k hk => ?_⟩
      · rcases List.mem_cons.1 ht with rfl | h2
        · exact hq
        · exact Int.le_trans hq (s1 (pr t) (List.mem_map.2 ⟨t, h2, rfl⟩))
      · obtain ⟨k, rfl⟩ : ∃ k', k = k' + 1 + 1 := ⟨k - 2, by omega⟩
        rw [spec_l3Put.l2, if_pos (lt_mid _ _ _), if_pos (len_nn _), h1, spec_l1Compare_is, Option.bind_some, if_neg hc]
        exact fin pre (q :: rest) h
def kcov (p : Pr) (q : S45) : Bool := decide (p.2 ≤ q.f1 ∧ p.1 ≤ q.f0 ∧ q.f0 ≤ p.1 + sz p.2 - 1)
def ksib (p : Pr) (q : S45) : Bool := decide (0 < p.2) && (q.f0 == sib p.1 p.2 && q.f1 == p.2)
theorem l3Put_l1 (p : Pr) (hp : good p.1 p.2 = true) (l : List S45) (hl : l.length ≤ 1048576) (hg : ∀ q, q ∈ l → good q.f0 q.f1 = true) (k : Nat) : ∀ (rest pre x7 : List S45) (x8 : Bool), l = pre ++ rest → x7.length ≤ pre.length →
    spec_l3Put.l1 (k + rest.length + 1) x7 x8 l (l.length : Int) (pre.length : Int) p.1 p.2 = if (x8 || rest.any (fun q => !kcov p q && ksib p q)) = true then ((spec_l1Parent.f p.1 p.2).bind fun bt => ((spec_l3Put.f k (x7 ++ rest.filter (fun q => !kcov p q && !ksib p q)) bt.1 bt.2).bind fun t => (some t))) else spec_l3Put.l2 k (x7 ++ rest.filter (fun q => !kcov p q && !ksib p q)) 0 p.1 p.2 := by
  intro rest
  induction rest with
  | nil =>
    intro pre x7 x8 e h7
    rw [spec_l3Put.l1, if_neg (by rw [e]; simp)]
    simp
  | cons q rest ih =>
    intro pre x7 x8 e h7
    have hq := hg q (by rw [e]; simp)
    have hlen : pre.length < l.length := by rw [e]; simp
    have h1 : rd_T45 l (pre.length : Int) = q := by rw [e]; exact rdm_Prefix _ _ _
    have hw : wrap64 ((pre.length : Int) + 1) = ((pre ++ [q]).length : Int) := by rw [wrap_id (by omega) (by omega)]; simp
    have hk : k + (q :: rest).length + 1 = (k + rest.length + 1) + 1 := by simp; omega
    have e2 : l = (pre ++ [q]) ++ rest := by rw [e]; simp
    rw [hk, spec_l3Put.l1, if_pos (by omega), if_pos (len_nn _), if_pos (by omega), h1, spec_l1Covers_is hp hq, Option.bind_some, hw, show decide (p.2 ≤ q.f1 ∧ p.1 ≤ q.f0 ∧ q.f0 ≤ p.1 + sz p.2 - 1) = kcov p q from rfl]
    by_cases hc : kcov p q = true
    · rw [if_pos hc, ih (pre ++ [q]) x7 x8 e2 (by simp; omega)]
      simp [hc]
    · have hc' : kcov p q = false := by simpa using hc
      rw [if_neg hc]
      have push : (if x7.length < 8796093022208 then (spec_l3Put.l1 (k + rest.length + 1) (x7 ++ [(⟨q.f0, q.f1⟩ : S45)]) x8 l (l.length : Int) ((pre ++ [q]).length : Int) p.1 p.2) else (none)) = if (x8 || rest.any (fun q => !kcov p q && ksib p q)) = true then ((spec_l1Parent.f p.1 p.2).bind fun bt => ((spec_l3Put.f k (x7 ++ q :: rest.filter (fun q => !kcov p q && !ksib p q)) bt.1 bt.2).bind fun t => (some t))) else spec_l3Put.l2 k (x7 ++ q :: rest.filter (fun q => !kcov p q && !ksib p q)) 0 p.1 p.2 := by
        rw [if_pos (by omega)]
        refine Eq.trans (ih (pre ++ [q]) (x7 ++ [q]) x8 e2 (by simp; omega)) ?_
        rw [show x7 ++ [q] ++ rest.filter (fun q => !kcov p q && !ksib p q) = x7 ++ q :: rest.filter (fun q => !kcov p q && !ksib p q) by simp]
      by_cases hn : p.2 > 0
      · rw [if_pos hn, spec_l1Sibling_is hp hn, Option.bind_some]
        by_cases hs : (q.f0 == sib p.1 p.2 && q.f1 == p.2) = true
        · have hks : ksib p q = true := by unfold ksib; rw [hs]; simp; omega
          rw [if_pos hs, ih (pre ++ [q]) x7 true e2 (by simp; omega)]
          simp [hc', hks]
        · have hks : ksib p q = false := by unfold ksib; rw [Bool.eq_false_iff.2 hs]; simp
          rw [if_neg hs, push]
          simp [hc', hks]
      · have hks : ksib p q = false := by unfold ksib; simp; omega
        rw [if_neg hn, push]
        simp [hc', hks]
theorem l3Put_l0 (p : Pr) (hp : good p.1 p.2 = true) (l : List S45) (hl : l.length ≤ 1048576) (hg : ∀ q, q ∈ l → good q.f0 q.f1 = true) (k : Nat) : ∀ (rest pre : List S45), l = pre ++ rest →
    spec_l3Put.l0 (k + rest.length + 1) l l (l.length : Int) (pre.length : Int) p.1 p.2 = if rest.any (fun q => decide (cov (pr q) p)) = true then some l else spec_l3Put.l1 k [] false l (l.length : Int) 0 p.1 p.2 := by
  intro rest
  induction rest with
  | nil =>
    intro pre e
    rw [spec_l3Put.l0, if_neg (by rw [e]; simp)]
    simp
  | cons q rest ih =>
    intro pre e
    have hq := hg q (by rw [e]; simp)
    have hlen : pre.length < l.length := by rw [e]; simp
    have h1 : rd_T45 l (pre.length : Int) = q := by rw [e]; exact rdm_Prefix _ _ _
    have hw : wrap64 ((pre.length : Int) + 1) = ((pre ++ [q]).length : Int) := by rw [wrap_id (by omega) (by omega)]; simp
    have hk : k + (q :: rest).length + 1 = (k + rest.length + 1) + 1 := by simp; omega
    rw [hk, spec_l3Put.l0, if_pos (by omega), if_pos (len_nn _), if_pos (by omega), h1, spec_l1Covers_is hq hp, Option.bind_some, hw]
    by_cases hc : q.f1 ≤ p.2 ∧ q.f0 ≤ p.1 ∧ p.1 ≤ q.f0 + sz q.f1 - 1
    · have hc2 : cov (pr q) p := hc
      rw [if_pos (by simpa using hc)]
      simp [hc2]
    · have hc2 : ¬ cov (pr q) p := hc
      rw [if_neg (by simpa using hc), ih (pre ++ [q]) (by rw [e]; simp)]
      simp [hc2]
theorem kcov_iff (p : Pr) (q : S45) : kcov p q = true ↔ cov p (pr q) := by unfold kcov; simp only [decide_eq_true_eq]; exact Iff.rfl
theorem ksib_iff (p : Pr) (q : S45) : ksib p q = true ↔ (0 < p.2 ∧ pr q = sibp p) := by
  unfold ksib sibp pr
  simp only [Bool.and_eq_true, decide_eq_true_eq, beq_iff_eq, Prod.mk.injEq]
def kf (p x : Pr) : Bool := !decide (cov p x) && !decide (0 < p.2 ∧ x = sibp p)
theorem kf_false {p q : Pr} (h : kf p q = false) : cov p q ∨ q = sibp p := by
  unfold kf at h
  by_cases h1 : cov p q
  · exact .inl h1
  · by_cases h2 : 0 < p.2 ∧ q = sibp p
    · exact .inr h2.2
    · simp [h1, h2] at h
theorem kept_map (p : Pr) (l : List S45) : (l.filter (fun q => !kcov p q && !ksib p q)).map pr = (l.map pr).filter (kf p) := by
  rw [List.filter_map]
  congr 1
  apply List.filter_congr
  intro q hq
  show (!kcov p q && !ksib p q) = kf p (pr q)
  unfold kf
  have e1 : kcov p q = decide (cov p (pr q)) := by rw [Bool.eq_iff_iff, kcov_iff]; simp
  have e2 : ksib p q = decide (0 < p.2 ∧ pr q = sibp p) := by rw [Bool.eq_iff_iff, ksib_iff]; simp
  rw [e1, e2]
theorem l3Put_is : ∀ (n : Nat) (p : Pr) (l : List S45) (S : Int → Prop), p.2.toNat = n → good p.1 p.2 = true → Canon S (l.map pr) → l.length ≤ 1000000 →
    ∃ r : List S45, Canon (fun x => S x ∨ inP p x) (r.map pr) ∧ r.length ≤ l.length + 1 ∧ ∃ K, ∀ k, K ≤ k → spec_l3Put.f k l p.1 p.2 = some r := by
  intro n
  induction n using Nat.strongRecOn with
  | _ n ih =>
    intro p l S hn hp hC hl
    have hg : ∀ q, q ∈ l → good q.f0 q.f1 = true := fun q hq => (hC.mem.1 (List.mem_map.2 ⟨q, hq, rfl⟩)).1
    have h0 := l3Put_l0 p hp l (by omega) hg
    have h1 := l3Put_l1 p hp l (by omega) hg
    by_cases hcov : l.any (fun q => decide (cov (pr q) p)) = true
    · obtain ⟨q, hq, hc⟩ := List.any_eq_true.1 hcov
      refine ⟨l, put_in hC hp (List.mem_map.2 ⟨q, hq, rfl⟩) (by simpa using hc), by omega, l.length + 2, fun k hk => ?_⟩
      obtain ⟨k', rfl⟩ : ∃ k', k = k' + l.length + 1 + 1 := ⟨k - l.length - 2, by omega⟩
      rw [spec_l3Put.f]
      refine (h0 k' l [] rfl).trans ?_
      rw [if_pos hcov]
    · have hno : ∀ q, q ∈ l → ¬ cov (pr q) p := fun q hq hc => hcov (List.any_eq_true.2 ⟨q, hq, by simpa using hc⟩)
      have hstart : ∀ k, spec_l3Put.f (k + l.length + 1 + l.length + 1 + 1) l p.1 p.2 = spec_l3Put.l1 (k + l.length + 1) [] false l (l.length : Int) 0 p.1 p.2 := fun k => by
        rw [spec_l3Put.f]
        refine (h0 (k + l.length + 1) l [] rfl).trans ?_
        rw [if_neg hcov]
      have hR := put_rest hC (kf p)
      have hkl : (l.filter (fun q => !kcov p q && !ksib p q)).length ≤ l.length := List.length_filter_le _ _
      by_cases hs : 0 < p.2 ∧ sibp p ∈ l.map pr
      · obtain ⟨hn0, hsm⟩ := hs
        obtain ⟨q, hq, hqs⟩ := List.mem_map.1 hsm
        have hncov : ¬ cov p (sibp p) := by
          rintro ⟨_, a1, a2⟩
          have := parent_cases hp
          have h3 : last p = p.1 + sz p.2 - 1 := rfl
          have := sz_pos p.2
          omega
        have hany : l.any (fun q => !kcov p q && ksib p q) = true := List.any_eq_true.2 ⟨q, hq, by
          have e1 : kcov p q = false := by rw [Bool.eq_false_iff]; intro hk; exact hncov (hqs ▸ (kcov_iff p q).1 hk)
          rw [e1, (ksib_iff p q).2 ⟨hn0, hqs⟩]; rfl⟩
        obtain ⟨r, rC, rl, K, hK⟩ := ih (parent p).2.toNat (by show (p.2 - 1).toNat < n; omega) (parent p) (l.filter (fun q => !kcov p q && !ksib p q)) _ rfl (good_parent hp hn0) (by rw [kept_map]; exact hR) (by omega)
        refine ⟨r, rC.congr (fun x => put_pair hC hp hn0 hsm (fun q h => kf_false h) x), by omega, K + l.length + 1 + l.length + 1 + 1, fun k hk => ?_⟩
        obtain ⟨k', rfl⟩ : ∃ k', k = k' + l.length + 1 + l.length + 1 + 1 := ⟨k - (l.length + 1 + l.length + 1 + 1), by omega⟩
        rw [hstart]
        refine (h1 k' l [] [] false rfl (by simp)).trans ?_
        rw [if_pos (by simpa using hany), spec_l1Parent_is hp hn0, Option.bind_some, List.nil_append]
        have hK' := hK k' (by omega)
        exact (congrArg (fun o : Option (List S45) => o.bind fun t => some t) hK').trans rfl
      · have hsn : 0 < p.2 → sibp p ∉ l.map pr := fun h3 h4 => hs ⟨h3, h4⟩
        have hany : ¬ l.any (fun q => !kcov p q && ksib p q) = true := fun h => by
          obtain ⟨q, hq, hb⟩ := List.any_eq_true.1 h
          have hb2 : ksib p q = true := (Bool.and_eq_true _ _ ▸ hb).2
          obtain ⟨b1, b2⟩ := (ksib_iff p q).1 hb2
          exact hs ⟨b1, b2 ▸ List.mem_map.2 ⟨q, hq, rfl⟩⟩
        have hsrt : ((l.filter (fun q => !kcov p q && !ksib p q)).map pr).Pairwise (fun a b => a.1 ≤ b.1) := by
          rw [kept_map]
          exact hR.srt.imp (fun {a b} hab => by have := fst_le_last a; omega)
        obtain ⟨l1, l2, e, a1, a2, K, hK⟩ := l3Put_l2 p (l.filter (fun q => !kcov p q && !ksib p q)) [] (by rw [List.nil_append]; omega) hsrt (by simp)
        rw [List.nil_append] at e hK
        have el : l1.length + l2.length ≤ l.length := by rw [← List.length_append, ← e]; exact hkl
        refine ⟨l1 ++ ⟨p.1, p.2⟩ :: l2, ?_, by simp; omega, K + l.length + 1 + l.length + 1 + 1, fun k hk => ?_⟩
        · rw [List.map_append, List.map_cons]
          exact put_new hC hp (fun q hq => by obtain ⟨t, ht, rfl⟩ := List.mem_map.1 hq; exact hno t ht) hsn (f := kf p) (fun q hq => by
            have : ¬ (0 < p.2 ∧ q = sibp p) := fun h => hsn h.1 (h.2 ▸ hq)
            unfold kf; simp [this]) (by rw [← kept_map, e, List.map_append]) (fun q hq => by obtain ⟨t, ht, rfl⟩ := List.mem_map.1 hq; exact a1 t ht) (fun q hq => by obtain ⟨t, ht, rfl⟩ := List.mem_map.1 hq; exact a2 t ht)
        · obtain ⟨k', rfl⟩ : ∃ k', k = k' + l.length + 1 + l.length + 1 + 1 := ⟨k - (l.length + 1 + l.length + 1 + 1), by omega⟩
          rw [hstart]
          refine (h1 k' l [] [] false rfl (by simp)).trans ?_
          rw [if_neg (by simpa using hany), List.nil_append]
          exact hK k' (by omega)
theorem l3Fewest_l0 (l : List S45) (hl : l.length ≤ 1000) (hg : ∀ q, q ∈ l → good q.f0 q.f1 = true) : ∀ (rest pre out : List S45) (S : Int → Prop), l = pre ++ rest → Canon S (out.map pr) → out.length ≤ pre.length →
    ∃ r : List S45, Canon (fun x => S x ∨ inL (rest.map pr) x) (r.map pr) ∧ r.length ≤ l.length ∧ ∃ K, ∀ k, K ≤ k → spec_l3Fewest.l0 k out l (l.length : Int) (pre.length : Int) = some r := by
  intro rest
  induction rest with
  | nil =>
    intro pre out S e hC ho
    refine ⟨out, hC.congr (fun x => ⟨.inl, fun h => h.elim id (fun ⟨p, hp, _⟩ => by simp at hp)⟩), by rw [e]; simpa using ho, 1, fun k hk => ?_⟩
    obtain ⟨k, rfl⟩ : ∃ k', k = k' + 1 := ⟨k - 1, by omega⟩
    rw [spec_l3Fewest.l0, if_neg (by rw [e]; simp)]
  | cons q rest ih =>
    intro pre out S e hC ho
    have hlen : pre.length < l.length := by rw [e]; simp
    have h1 : rd_T45 l (pre.length : Int) = q := by rw [e]; exact rdm_Prefix _ _ _
    have hw : wrap64 ((pre.length : Int) + 1) = ((pre ++ [q]).length : Int) := by rw [wrap_id (by omega) (by omega)]; simp
    obtain ⟨r1, rC, rl, K1, hK1⟩ := l3Put_is _ (pr q) out S rfl (hg q (by rw [e]; simp)) hC (by omega)
    obtain ⟨r, rC2, rl2, K2, hK2⟩ := ih (pre ++ [q]) r1 _ (by rw [e]; simp) rC (by simp; omega)
    refine ⟨r, rC2.congr (fun x => ?_), rl2, K1 + K2 + 1, fun k hk => ?_⟩
    · unfold inL
      constructor
      · rintro ((h | h) | ⟨p, hp, h⟩)
        · exact .inl h
        · exact .inr ⟨pr q, by simp, h⟩
        · exact .inr ⟨p, by simp only [List.map_cons, List.mem_cons]; exact .inr hp, h⟩
      · rintro (h | ⟨p, hp, h⟩)
        · exact .inl (.inl h)
        · rw [List.map_cons] at hp
          rcases List.mem_cons.1 hp with rfl | hp
          · exact .inl (.inr h)
          · exact .inr ⟨p, hp, h⟩
    · obtain ⟨k, rfl⟩ : ∃ k', k = k' + 1 := ⟨k - 1, by omega⟩
      rw [spec_l3Fewest.l0, if_pos (by omega), if_pos (len_nn _), if_pos (by omega), h1, hw]
      have := hK1 k (by omega)
      rw [show spec_l3Put.f k out q.f0 q.f1 = some r1 from this, Option.bind_some]
      exact hK2 k (by omega)
theorem spec_l3Fewest_is (l : List S45) (hl : l.length ≤ 1000) (hg : ∀ q, q ∈ l → good q.f0 q.f1 = true) : ∃ r : List S45, Canon (inL (l.map pr)) (r.map pr) ∧ r.length ≤ l.length ∧ ∃ K, ∀ k, K ≤ k → spec_l3Fewest.f k l = some r := by
  obtain ⟨r, rC, rl, K, hK⟩ := l3Fewest_l0 l hl hg l [] [] (fun _ => False) rfl ⟨by simp [Srt], fun p hp => by simp at hp, fun x hx => hx.elim⟩ (by simp)
  exact ⟨r, rC.congr (fun x => ⟨fun h => h.elim False.elim id, .inr⟩), rl, K, fun k hk => hK k hk⟩
def okL (l : List S45) : Bool := decide (l.length ≤ 64) && (l.map pr).all (fun p => good p.1 p.2)
theorem okL_facts {l : List S45} (h : okL l = true) : l.length ≤ 64 ∧ ∀ p, p ∈ l → good p.f0 p.f1 = true := by
  unfold okL at h
  rw [Bool.and_eq_true] at h
  refine ⟨of_decide_eq_true h.1, fun p hp => ?_⟩
  exact List.all_eq_true.1 h.2 (pr p) (List.mem_map.2 ⟨p, hp, rfl⟩)
theorem mn_min (a b : Int) : mn a b = min a b := by unfold mn; split <;> omega
def meetT (x : S74) (b : List S74) : List S74 := b.filterMap (fun y => if max x.f0 y.f0 ≤ min x.f1 y.f1 then some ⟨max x.f0 y.f0, min x.f1 y.f1⟩ else none)
theorem meetT_map (x : S74) : ∀ b : List S74, (meetT x b).map spn = meetOne (spn x) (b.map spn)
  | [] => rfl
  | y :: b => by
    have ih := meetT_map x b
    unfold meetT meetOne at ih ⊢
    rw [List.map_cons, List.filterMap_cons, List.filterMap_cons]
    by_cases h : max x.f0 y.f0 ≤ min x.f1 y.f1
    · have h' : max (spn x).1 (spn y).1 ≤ min (spn x).2 (spn y).2 := h
      rw [if_pos h, if_pos h']
      dsimp only
      rw [List.map_cons, ih]
      rfl
    · have h' : ¬ max (spn x).1 (spn y).1 ≤ min (spn x).2 (spn y).2 := h
      rw [if_neg h, if_neg h']
      exact ih
theorem meetT_len (x : S74) (b : List S74) : (meetT x b).length ≤ b.length := List.length_filterMap_le _ _
theorem meet_l1 (b : List S74) (hb : b.length ≤ 1048576) (x : S74) (a : List S74) (len i : Int) (k : Nat) : ∀ (rest pre out : List S74), b = pre ++ rest → out.length + rest.length ≤ 1000000000 →
    impl_meet.l1 (k + rest.length + 1) b out a len i b (b.length : Int) (pre.length : Int) x.f0 x.f1 = impl_meet.l0 k b (out ++ meetT x rest) a len (wrap64 (i + 1)) := by
  intro rest
  induction rest with
  | nil =>
    intro pre out e _
    rw [impl_meet.l1, if_neg (by rw [e]; simp)]
    simp [meetT]
  | cons y rest ih =>
    intro pre out e ho
    have hlen : pre.length < b.length := by rw [e]; simp
    have h1 : rd_T74 b (pre.length : Int) = y := by rw [e]; exact rdm_Span _ _ _
    have hw : wrap64 ((pre.length : Int) + 1) = ((pre ++ [y]).length : Int) := by rw [wrap_id (by omega) (by omega)]; simp
    have hk : k + (y :: rest).length + 1 = (k + rest.length + 1) + 1 := by simp; omega
    have e2 : b = (pre ++ [y]) ++ rest := by rw [e]; simp
    rw [List.length_cons] at ho
    rw [hk, impl_meet.l1, if_pos (by omega), if_pos (len_nn _), if_pos (by omega), h1, mx_max, mn_min, hw]
    unfold meetT
    rw [List.filterMap_cons]
    by_cases hc : max x.f0 y.f0 ≤ min x.f1 y.f1
    · rw [if_pos hc, if_pos (by omega), if_pos hc]
      refine (ih (pre ++ [y]) (out ++ [⟨max x.f0 y.f0, min x.f1 y.f1⟩]) e2 (by simp; omega)).trans ?_
      unfold meetT
      simp
    · rw [if_neg hc, if_neg hc]
      exact ih (pre ++ [y]) out e2 (by omega)
theorem meet_l0 (a b : List S74) (ha : a.length ≤ 1000) (hb : b.length ≤ 1000) : ∀ (rest pre out : List S74), a = pre ++ rest → out.length + rest.length * b.length ≤ 100000000 → ∀ k,
    impl_meet.l0 (k + rest.length * (b.length + 2) + 1) b out a (a.length : Int) (pre.length : Int) = some (out ++ rest.flatMap (fun x => meetT x b)) := by
  intro rest
  induction rest with
  | nil =>
    intro pre out e _ k
    rw [impl_meet.l0, if_neg (by rw [e]; simp)]
    simp
  | cons x rest ih =>
    intro pre out e ho k
    have hlen : pre.length < a.length := by rw [e]; simp
    have h1 : rd_T74 a (pre.length : Int) = x := by rw [e]; exact rdm_Span _ _ _
    have hw : wrap64 ((pre.length : Int) + 1) = ((pre ++ [x]).length : Int) := by rw [wrap_id (by omega) (by omega)]; simp
    have hk : k + (x :: rest).length * (b.length + 2) + 1 = ((k + rest.length * (b.length + 2) + 1) + b.length + 1) + 1 := by rw [List.length_cons, Nat.succ_mul]; omega
    have e2 : a = (pre ++ [x]) ++ rest := by rw [e]; simp
    rw [List.length_cons, Nat.succ_mul] at ho
    rw [hk, impl_meet.l0, if_pos (by omega), if_pos (len_nn _), if_pos (by omega), h1]
    refine (meet_l1 b (by omega) x a (a.length : Int) (pre.length : Int) (k + rest.length * (b.length + 2) + 1) b [] out rfl (by omega)).trans ?_
    rw [hw]
    have := meetT_len x b
    refine (ih (pre ++ [x]) (out ++ meetT x b) e2 (by rw [List.length_append]; omega) k).trans ?_
    rw [List.flatMap_cons, List.append_assoc]
theorem impl_meet_is (a b : List S74) (ha : a.length ≤ 1000) (hb : b.length ≤ 1000) : ∃ r : List S74, r.map spn = meetS (a.map spn) (b.map spn) ∧ r.length ≤ a.length * b.length ∧ ∃ K, ∀ k, K ≤ k → impl_meet.f k a b = some r := by
  have hm : a.length * b.length ≤ 1000 * 1000 := Nat.mul_le_mul ha hb
  have hmap : ∀ l : List S74, (l.flatMap (fun x => meetT x b)).map spn = meetS (l.map spn) (b.map spn) := by
    intro l
    induction l with
    | nil => rfl
    | cons x l ih =>
      unfold meetS at ih ⊢
      rw [List.flatMap_cons, List.map_append, ih, meetT_map, List.map_cons, List.flatMap_cons]
  refine ⟨a.flatMap (fun x => meetT x b), hmap a, ?_, a.length * (b.length + 2) + 1, fun k hk => ?_⟩
  · have := meet_len (a.map spn) (b.map spn)
    rw [← hmap a, List.length_map, List.length_map, List.length_map] at this
    exact this
  · obtain ⟨k', rfl⟩ : ∃ k', k = k' + a.length * (b.length + 2) + 1 := ⟨k - (a.length * (b.length + 2) + 1), by omega⟩
    unfold impl_meet.f
    refine (meet_l0 a b ha hb a [] [] rfl (by simp; omega) k').trans ?_
    simp
/-- what is put out: the fewest prefixes of rows that lie in both -/
theorem meet_tail (a b : List S74) (ha : a.length ≤ 1000) (hb : b.length ≤ 1000) (ga : Gaps (a.map spn)) (gb : Gaps (b.map spn)) (hr : ∀ s, s ∈ a → 0 ≤ s.f0 ∧ s.f1 ≤ 4294967295) :
    ∃ q : List S45, Canon (fun x => inS (a.map spn) x ∧ inS (b.map spn) x) (q.map pr) ∧ ∃ K, ∀ k, K ≤ k → ∃ m, impl_meet.f k a b = some m ∧ impl_prefixesIn.f k m = some q := by
  obtain ⟨r, hr1, hr2, K1, E1⟩ := impl_meet_is a b ha hb
  have hm : a.length * b.length ≤ 1000 * 1000 := Nat.mul_le_mul ha hb
  have hgap : Gapped (r.map spn) := by rw [hr1]; exact meet_gapped ga gb
  have hbd : ∀ s, s ∈ r → 0 ≤ s.f0 ∧ s.f1 ≤ 4294967295 := fun s hs => by
    have h1 : spn s ∈ meetS (a.map spn) (b.map spn) := by rw [← hr1]; exact List.mem_map.2 ⟨s, hs, rfl⟩
    obtain ⟨x, hx, h2⟩ := List.mem_flatMap.1 h1
    obtain ⟨y, hy, hc, h3⟩ := mem_meetOne.1 h2
    obtain ⟨t, ht, rfl⟩ := List.mem_map.1 hx
    obtain ⟨b1, b2⟩ := hr t ht
    have e1 : s.f0 = max t.f0 y.1 := congrArg Prod.fst h3
    have e2 : s.f1 = min t.f1 y.2 := congrArg Prod.snd h3
    omega
  obtain ⟨rr, hR, K2, E2⟩ := prefixesIn_is r (by omega) hgap hbd
  refine ⟨rr.flatten, (RowsOf.canon hgap hR).congr (fun x => by rw [hr1]; exact meet_in _ _ x), K1 + K2, fun k hk => ⟨r, E1 k (by omega), E2 k (by omega)⟩⟩
theorem l1Covers_cov {p q : Pr} (hp : GoodP p) (hq : GoodP q) : spec_l1Covers.f p.1 p.2 q.1 q.2 = some (decide (cov p q)) := by
  rw [spec_l1Covers_is hp hq]
  exact congrArg some (decide_eq_decide.2 Iff.rfl)
theorem spec_l3Without_is (p : Pr) (hp : GoodP p) : ∀ (d : Nat) (q : Pr), GoodP q → (32 - q.2).toNat = d →
    ∃ r : List S45, (∀ t, t ∈ r → good t.f0 t.f1 = true) ∧ (∀ x, inL (r.map pr) x ↔ inW q p x) ∧ r.length ≤ (if cov q p then d else 1) ∧ ∀ k, d < k → spec_l3Without.f k q.1 q.2 p.1 p.2 = some r := by
  intro d
  induction d with
  | zero =>
    intro q hq hd
    have f1 := hq.facts
    have f2 := hp.facts
    by_cases c1 : cov p q
    · refine ⟨[], by simp, fun x => ⟨fun ⟨t, ht, _⟩ => by simp at ht, fun h => (without_in hq hp c1 x h).elim⟩, by simp, fun k hk => ?_⟩
      obtain ⟨k, rfl⟩ : ∃ k', k = k' + 1 := ⟨k - 1, by omega⟩
      rw [spec_l3Without.f, l1Covers_cov hp hq, Option.bind_some, if_pos (decide_eq_true c1)]
    · have c2 : ¬ cov q p := fun h => c1 (cov_of_common hp hq (x := p.1) first_in ⟨h.2.1, h.2.2⟩ (by omega))
      refine ⟨[⟨q.1, q.2⟩], fun t ht => by rcases List.mem_singleton.1 ht with rfl; exact hq, fun x => ?_, by rw [if_neg c2]; simp, fun k hk => ?_⟩
      · rw [without_apart hq hp c1 c2 x]
        exact ⟨fun ⟨t, ht, h⟩ => by rcases List.mem_singleton.1 ht with rfl; exact h, fun h => ⟨q, by simp [pr], h⟩⟩
      · obtain ⟨k, rfl⟩ : ∃ k', k = k' + 1 := ⟨k - 1, by omega⟩
        rw [spec_l3Without.f, l1Covers_cov hp hq, Option.bind_some, if_neg (fun h => c1 (of_decide_eq_true h)), l1Covers_cov hq hp, Option.bind_some, if_neg (fun h => c2 (of_decide_eq_true h))]
  | succ d ih =>
    intro q hq hd
    have f1 := hq.facts
    have f2 := hp.facts
    by_cases c1 : cov p q
    · refine ⟨[], by simp, fun x => ⟨fun ⟨t, ht, _⟩ => by simp at ht, fun h => (without_in hq hp c1 x h).elim⟩, by simp, fun k hk => ?_⟩
      obtain ⟨k, rfl⟩ : ∃ k', k = k' + 1 := ⟨k - 1, by omega⟩
      rw [spec_l3Without.f, l1Covers_cov hp hq, Option.bind_some, if_pos (decide_eq_true c1)]
    · by_cases c2 : cov q p
      · obtain ⟨hn, hone⟩ := without_one hq hp c2 c1
        obtain ⟨g1, g2⟩ := halves_good hq hn
        obtain ⟨r1, a1, a2, a3, a4⟩ := ih (lowH q) g1 (by show (32 - (q.2 + 1)).toNat = d; omega)
        obtain ⟨r2, b1, b2, b3, b4⟩ := ih (highH q) g2 (by show (32 - (q.2 + 1)).toNat = d; omega)
        have hd0 : d ≤ 32 := by omega
        have hlen : r1.length + r2.length ≤ d + 1 := by
          rcases hone with ⟨h1, h2, _⟩ | ⟨h1, h2, _⟩
          · rw [if_pos h1] at a3; rw [if_neg h2] at b3; omega
          · rw [if_neg h2] at a3; rw [if_pos h1] at b3; omega
        refine ⟨r1 ++ r2, fun t ht => ?_, fun x => ?_, by rw [if_pos c2, List.length_append]; omega, fun k hk => ?_⟩
        · rcases List.mem_append.1 ht with h | h
          · exact a1 t h
          · exact b1 t h
        · rw [without_halves hq hn, ← a2 x, ← b2 x, List.map_append]
          unfold inL
          constructor
          · rintro ⟨t, ht, h⟩
            rcases List.mem_append.1 ht with h1 | h1
            · exact .inl ⟨t, h1, h⟩
            · exact .inr ⟨t, h1, h⟩
          · rintro (⟨t, ht, h⟩ | ⟨t, ht, h⟩)
            · exact ⟨t, List.mem_append.2 (.inl ht), h⟩
            · exact ⟨t, List.mem_append.2 (.inr ht), h⟩
        · obtain ⟨k, rfl⟩ : ∃ k', k = k' + 1 := ⟨k - 1, by omega⟩
          have e1 : spec_l3Without.f k q.1 (q.2 + 1) p.1 p.2 = some r1 := a4 k (by omega)
          have e2 : spec_l3Without.f k (q.1 + sz (q.2 + 1)) (q.2 + 1) p.1 p.2 = some r2 := b4 k (by omega)
          rw [spec_l3Without.f, l1Covers_cov hp hq, Option.bind_some, if_neg (fun h => c1 (of_decide_eq_true h)), l1Covers_cov hq hp, Option.bind_some, if_pos (decide_eq_true c2), spec_l1Halves_is (by omega) hn (by omega) (by omega), Option.bind_some]
          dsimp only
          rw [e1, Option.bind_some, e2, Option.bind_some, if_pos (by omega)]
      · refine ⟨[⟨q.1, q.2⟩], fun t ht => by rcases List.mem_singleton.1 ht with rfl; exact hq, fun x => ?_, by rw [if_neg c2]; simp, fun k hk => ?_⟩
        · rw [without_apart hq hp c1 c2 x]
          exact ⟨fun ⟨t, ht, h⟩ => by rcases List.mem_singleton.1 ht with rfl; exact h, fun h => ⟨q, by simp [pr], h⟩⟩
        · obtain ⟨k, rfl⟩ : ∃ k', k = k' + 1 := ⟨k - 1, by omega⟩
          rw [spec_l3Without.f, l1Covers_cov hp hq, Option.bind_some, if_neg (fun h => c1 (of_decide_eq_true h)), l1Covers_cov hq hp, Option.bind_some, if_neg (fun h => c2 (of_decide_eq_true h))]
theorem spec_CutPrefix_l1 (fa : List S45) (len i a n : Int) (ws : List S45) (hl : ws.length ≤ 1000) (hg : ∀ q, q ∈ ws → good q.f0 q.f1 = true) : ∀ (rest pre out : List S45) (S : Int → Prop), ws = pre ++ rest → Canon S (out.map pr) → out.length + rest.length ≤ 1000000 →
    ∃ r : List S45, Canon (fun x => S x ∨ inL (rest.map pr) x) (r.map pr) ∧ r.length ≤ out.length + rest.length ∧ ∃ K, ∀ k, K ≤ k → spec_CutPrefix.l1 (k + rest.length + 1) out fa len i ws (ws.length : Int) (pre.length : Int) a n = spec_CutPrefix.l0 k r fa len (wrap64 (i + 1)) a n := by
  intro rest
  induction rest with
  | nil =>
    intro pre out S e hC ho
    refine ⟨out, hC.congr (fun x => ⟨.inl, fun h => h.elim id (fun ⟨t, ht, _⟩ => by simp at ht)⟩), by simp, 0, fun k hk => ?_⟩
    rw [spec_CutPrefix.l1, if_neg (by rw [e]; simp)]
    rfl
  | cons q rest ih =>
    intro pre out S e hC ho
    have hq : GoodP (pr q) := hg q (by rw [e]; simp)
    have hlen : pre.length < ws.length := by rw [e]; simp
    have h1 : rd_T45 ws (pre.length : Int) = q := by rw [e]; exact rdm_Prefix _ _ _
    have hw : wrap64 ((pre.length : Int) + 1) = ((pre ++ [q]).length : Int) := by rw [wrap_id (by omega) (by omega)]; simp
    have e2 : ws = (pre ++ [q]) ++ rest := by rw [e]; simp
    rw [List.length_cons] at ho
    obtain ⟨r1, rC, rl, K1, hK1⟩ := l3Put_is _ (pr q) out S rfl hq hC (by omega)
    obtain ⟨r, rC2, rl2, K2, hK2⟩ := ih (pre ++ [q]) r1 _ e2 rC (by omega)
    refine ⟨r, rC2.congr (fun x => ?_), by rw [List.length_cons]; omega, K1 + K2, fun k hk => ?_⟩
    · unfold inL
      constructor
      · rintro ((h | h) | ⟨t, ht, h⟩)
        · exact .inl h
        · exact .inr ⟨pr q, by simp, h⟩
        · exact .inr ⟨t, by rw [List.map_cons]; exact List.mem_cons_of_mem _ ht, h⟩
      · rintro (h | ⟨t, ht, h⟩)
        · exact .inl (.inl h)
        · rw [List.map_cons] at ht
          rcases List.mem_cons.1 ht with rfl | ht
          · exact .inl (.inr h)
          · exact .inr ⟨t, ht, h⟩
    · rw [show k + (q :: rest).length + 1 = (k + rest.length + 1) + 1 by simp; omega, spec_CutPrefix.l1, if_pos (by omega), if_pos (len_nn _), if_pos (by omega), h1, show spec_l3Put.f (k + rest.length + 1) out q.f0 q.f1 = some r1 from hK1 _ (by omega), Option.bind_some, hw]
      exact hK2 k (by omega)
theorem spec_CutPrefix_l0 (fa : List S45) (hla : fa.length ≤ 1000) (ga : ∀ q, q ∈ fa → good q.f0 q.f1 = true) (p : Pr) (hp : GoodP p) : ∀ (rest pre out : List S45) (S : Int → Prop), fa = pre ++ rest → Canon S (out.map pr) → out.length + rest.length * 33 ≤ 1000000 →
    ∃ r : List S45, Canon (fun x => S x ∨ (inL (rest.map pr) x ∧ ¬ inP p x)) (r.map pr) ∧ ∃ K, ∀ k, K ≤ k → spec_CutPrefix.l0 k out fa (fa.length : Int) (pre.length : Int) p.1 p.2 = if (r.length : Int) > 64 then some ([], false) else some (r, true) := by
  intro rest
  induction rest with
  | nil =>
    intro pre out S e hC ho
    refine ⟨out, hC.congr (fun x => ⟨.inl, fun h => h.elim id (fun ⟨⟨t, ht, _⟩, _⟩ => by simp at ht)⟩), 1, fun k hk => ?_⟩
    obtain ⟨k, rfl⟩ : ∃ k', k = k' + 1 := ⟨k - 1, by omega⟩
    rw [spec_CutPrefix.l0, if_neg (by rw [e]; simp)]
  | cons q rest ih =>
    intro pre out S e hC ho
    have hq : GoodP (pr q) := ga q (by rw [e]; simp)
    have hlen : pre.length < fa.length := by rw [e]; simp
    have h1 : rd_T45 fa (pre.length : Int) = q := by rw [e]; exact rdm_Prefix _ _ _
    have hw : wrap64 ((pre.length : Int) + 1) = ((pre ++ [q]).length : Int) := by rw [wrap_id (by omega) (by omega)]; simp
    have e2 : fa = (pre ++ [q]) ++ rest := by rw [e]; simp
    rw [List.length_cons] at ho
    obtain ⟨ws, w1, w2, w3, w4⟩ := spec_l3Without_is p hp _ (pr q) hq rfl
    have hwl : ws.length ≤ 33 := by
      have := hq.facts
      split at w3 <;> omega
    obtain ⟨r1, rC, rl, K1, hK1⟩ := spec_CutPrefix_l1 fa (fa.length : Int) (pre.length : Int) p.1 p.2 ws (by omega) w1 ws [] out S rfl hC (by omega)
    obtain ⟨r, rC2, K2, hK2⟩ := ih (pre ++ [q]) r1 _ e2 rC (by omega)
    refine ⟨r, rC2.congr (fun x => ?_), K1 + K2 + 34 + ws.length + 1 + 1, fun k hk => ?_⟩
    · rw [w2 x]
      unfold inW
      constructor
      · rintro ((h | h) | ⟨⟨t, ht, h⟩, h2⟩)
        · exact .inl h
        · exact .inr ⟨⟨pr q, by simp, h.1⟩, h.2⟩
        · exact .inr ⟨⟨t, by rw [List.map_cons]; exact List.mem_cons_of_mem _ ht, h⟩, h2⟩
      · rintro (h | ⟨⟨t, ht, h⟩, h2⟩)
        · exact .inl (.inl h)
        · rw [List.map_cons] at ht
          rcases List.mem_cons.1 ht with rfl | ht
          · exact .inl (.inr ⟨h, h2⟩)
          · exact .inr ⟨⟨t, ht, h⟩, h2⟩
    · obtain ⟨k, rfl⟩ : ∃ k', k = (k' + ws.length + 1) + 1 := ⟨k - (ws.length + 1 + 1), by omega⟩
      have hq2 := hq.facts
      rw [spec_CutPrefix.l0, if_pos (by omega), if_pos (len_nn _), if_pos (by omega), h1, show spec_l3Without.f (k + ws.length + 1) q.f0 q.f1 p.1 p.2 = some ws from w4 _ (by show (32 - (pr q).2).toNat < _; omega), Option.bind_some]
      refine (hK1 k (by omega)).trans ?_
      rw [hw]
      exact hK2 k (by omega)
theorem CutPrefix_same (l : List S45) (a n : Int) (hl : l.length ≤ 1048576) : ∃ r, Ev (fun k => spec_CutPrefix.f k l a n) r ∧ Ev (fun k => impl_CutPrefix.f k l a n) r ∧ r.1.length ≤ 64 := by
  have none1 : ∀ k, l.length + 1 < k → ¬ (okL l = true ∧ good a n = true) → spec_CutPrefix.f k l a n = some ([], false) ∧ impl_CutPrefix.f k l a n = some ([], false) := by
    intro k hk h
    obtain ⟨k, rfl⟩ : ∃ k', k = k' + 1 := ⟨k - 1, by omega⟩
    unfold spec_CutPrefix.f impl_CutPrefix.f
    rw [spec_l3Good_is (k + 1) l hl (by omega), impl_arePrefixes_is (k + 1) l hl (by omega), Option.bind_some, Option.bind_some]
    by_cases h1 : okL l = true
    · have h2 : good a n = false := by
        cases h3 : good a n with
        | false => rfl
        | true => exact (h ⟨h1, h3⟩).elim
      have h1' : (decide (l.length ≤ 64) && (l.map pr).all (fun p => good p.1 p.2)) = true := h1
      rw [if_pos h1', if_pos h1', spec_GoodPrefix_is, impl_GoodPrefix_is, Option.bind_some, Option.bind_some, h2]
      simp only [spec_CutPrefix.j0, impl_CutPrefix.j0, Bool.not_false]
      exact ⟨if_pos trivial, if_pos trivial⟩
    · have h1' : ¬ (decide (l.length ≤ 64) && (l.map pr).all (fun p => good p.1 p.2)) = true := h1
      rw [if_neg h1', if_neg h1']
      simp only [spec_CutPrefix.j0, impl_CutPrefix.j0]
      exact ⟨if_pos trivial, if_pos trivial⟩
  by_cases h : okL l = true ∧ good a n = true
  · obtain ⟨l64, ga⟩ := okL_facts h.1
    have hp : GoodP (a, n) := h.2
    have o1 : (decide (l.length ≤ 64) && (l.map pr).all (fun p => good p.1 p.2)) = true := h.1
    obtain ⟨f1, f2, f3, f4, _⟩ := good_iff.1 h.2
    have hend := good_end h.2
    have hszp := sz_pos n
    obtain ⟨sa, sag, sai, sal, sab, K1, E1⟩ := spansOf_is l hl ga
    replace E1 : ∀ k, K1 ≤ k → impl_spansOf.f k l = some sa := E1
    obtain ⟨q, qC, K3, E3⟩ := meet_tail sa [⟨0, a - 1⟩, ⟨a + sz n - 1 + 1, 4294967295⟩] (by omega) (by simp) sag.srt (by
      unfold Gaps
      simp only [List.map_cons, List.map_nil, spn, List.pairwise_cons, List.mem_singleton, forall_eq, List.not_mem_nil, false_implies, implies_true, List.Pairwise.nil, and_true]
      omega) (fun s hs => ⟨(sab s hs).1, (sab s hs).2.2⟩)
    obtain ⟨fa, fC, fl, K4, E4⟩ := spec_l3Fewest_is l (by omega) ga
    have gfa : ∀ q, q ∈ fa → good q.f0 q.f1 = true := fun q hq => (fC.max (pr q) (List.mem_map.2 ⟨q, hq, rfl⟩)).1
    obtain ⟨r, rC, K6, E6⟩ := spec_CutPrefix_l0 fa (by omega) gfa (a, n) hp fa [] [] (fun _ => False) rfl ⟨by simp [Srt], fun p hp => by simp at hp, fun x hx => hx.elim⟩ (by simp; omega)
    have e : q = r := map_pr_inj (qC.unique (rC.congr (fun x => by
      rw [sai x, fC.inL x]
      constructor
      · rintro (h | ⟨h1, h2⟩)
        · exact h.elim
        · refine ⟨h1, ?_⟩
          have hx : 0 ≤ x ∧ x ≤ 4294967295 := by
            obtain ⟨t, ht, h3⟩ := h1
            obtain ⟨u, hu, rfl⟩ := List.mem_map.1 ht
            have g := ga u hu
            have g2 := good_end g
            have g3 := (good_iff.1 g).2.2.1
            have h4 : u.f0 ≤ x := h3.1
            have h5 : x ≤ u.f0 + sz u.f1 - 1 := h3.2
            omega
          unfold inP last at h2
          dsimp only at h2
          by_cases hc : x < a
          · exact ⟨(0, a - 1), by simp [spn], by dsimp only; omega⟩
          · exact ⟨(a + sz n - 1 + 1, 4294967295), by simp [spn], by dsimp only; omega⟩
      · rintro ⟨h1, t, ht, h2⟩
        refine .inr ⟨h1, fun h3 => ?_⟩
        unfold inP last at h3
        dsimp only at h3
        simp only [List.map_cons, List.map_nil, spn, List.mem_cons, List.not_mem_nil, or_false] at ht
        rcases ht with rfl | rfl
        · dsimp only at h2; omega
        · dsimp only at h2; omega)))
    subst e
    refine ⟨if (q.length : Int) > 64 then ([], false) else (q, true), ⟨K1 + K3 + K4 + K6 + l.length + 2, fun k hk => ?_⟩, ⟨K1 + K3 + K4 + K6 + l.length + 2, fun k hk => ?_⟩, ?_⟩
    · show spec_CutPrefix.f k l a n = _
      obtain ⟨k, rfl⟩ : ∃ k', k = k' + 1 := ⟨k - 1, by omega⟩
      unfold spec_CutPrefix.f
      rw [spec_l3Good_is (k + 1) l hl (by omega), Option.bind_some, if_pos o1, spec_GoodPrefix_is, Option.bind_some, h.2]
      simp only [spec_CutPrefix.j0, Bool.not_true]
      rw [if_neg (by simp), E4 k (by omega), Option.bind_some]
      refine (E6 k (by omega)).trans ?_
      split <;> rfl
    · show impl_CutPrefix.f k l a n = _
      obtain ⟨k, rfl⟩ : ∃ k', k = k' + 1 := ⟨k - 1, by omega⟩
      unfold impl_CutPrefix.f
      rw [impl_arePrefixes_is (k + 1) l hl (by omega), Option.bind_some, if_pos o1, impl_GoodPrefix_is, Option.bind_some, h.2]
      simp only [impl_CutPrefix.j0, Bool.not_true]
      obtain ⟨m, hm1, hm2⟩ := E3 k (by omega)
      rw [if_neg (by simp), impl_Prefix_end_is h.2, Option.bind_some, E1 k (by omega), Option.bind_some, wrap_id (by omega) (by omega), wrap_id (by omega) (by omega), hm1, Option.bind_some, hm2, Option.bind_some]
      unfold impl_setOf.f
      split <;> rfl
    · split
      · simp
      · show q.length ≤ 64; omega
  · exact ⟨([], false), ⟨l.length + 2, fun k hk => (none1 k (by omega) h).1⟩, ⟨l.length + 2, fun k hk => (none1 k (by omega) h).2⟩, by simp⟩
theorem szTwo (l l' : List S43) (m : l.length ≤ maxLen) (m' : l'.length ≤ maxLen) {r0 : Int} (h : laws_szPrefixS.f l 1048576 = some r0) (hn : ¬ r0 < 0) : ∃ r1, laws_szPrefixS.f l' r0 = some r1 ∧ (¬ r1 < 0 → l.length ≤ 1048576 ∧ l'.length ≤ 1048576) := by
  simp only [maxLen] at m m'
  have e : r0 = 1048576 - (l.length : Int) := by
    unfold laws_szPrefixS.f at h
    rw [wrap_id (by omega) (by omega)] at h
    split at h
    · have := Option.some.inj h; omega
    · exact (Option.some.inj h).symm
  unfold laws_szPrefixS.f
  rw [wrap_id (by omega) (by omega)]
  by_cases h2 : r0 - (l'.length : Int) < 0
  · exact ⟨_, if_pos h2, fun h' => absurd (by omega) h'⟩
  · exact ⟨_, if_neg h2, fun _ => ⟨by omega, by omega⟩⟩

end FnExactCutPrefixUses
open Go.RowKit Go.Proofs.Ytabejlfejlpkeaa.PFnExactCutPrefix Go.Proofs.YtabejlfejlpkeaaW.PrintWords Go.Proofs.YtabejlfejlpkeaaW.PrintLast Go.Proofs.YtabejlfejlpkeaaW.PrintMore Go.Proofs.Ytabejlfejlpkeaa.Pfx Go.Proofs.Ytabejlfejlpkeaa.Loop Go.Proofs.Ytabejlfejlpkeaa.Tbl FnExactCutPrefixUses
set_option linter.unusedVariables false
theorem FnExactCutPrefix (l0 : List S43) (a1_0 : Int) (a1_1 : Int) (m0 : l0.length ≤ maxLen) (w0 : ∀ a, a ∈ l0 → ((Lit.int .i64 a.f0).wf = true ∧ (Lit.int .i64 a.f1).wf = true)) (w1_0 : (Lit.int .i64 a1_0).wf = true) (w1_1 : (Lit.int .i64 a1_1).wf = true) : ∃ k, laws_FnExactCutPrefix.f k l0 a1_0 a1_1 = some true := by
  obtain ⟨r0, hr0, hb0⟩ := laws_szPrefixS_is l0 m0
  by_cases h : r0 < 0
  · exact ⟨0, by unfold laws_FnExactCutPrefix.f; rw [hr0, Option.bind_some, if_pos h]⟩
  · have hl := hb0 h
    obtain ⟨L, hL⟩ : ∃ L, L = (l0.map fun p => (⟨p.f0, p.f1⟩ : S45)) := ⟨_, rfl⟩
    have hLl : L.length = l0.length := by rw [hL]; simp
    obtain ⟨r, ⟨K1, h1⟩, ⟨K2, h2⟩, h64⟩ := CutPrefix_same L a1_0 a1_1 (by omega)
    replace h1 : ∀ k, K1 ≤ k → spec_CutPrefix.f k L a1_0 a1_1 = some r := h1
    replace h2 : ∀ k, K2 ≤ k → impl_CutPrefix.f k L a1_0 a1_1 = some r := h2
    obtain ⟨K, hK⟩ : ∃ K : Nat, K1 + K2 + l0.length + 200 ≤ K := ⟨_, Nat.le_refl _⟩
    have ht : ∀ k, K ≤ k → laws_toPrefixS.f k l0 = some L := fun k hk => by rw [laws_toPrefixS_is k l0 hl (by omega), hL]
    have he : ∀ k, K ≤ k → laws_eqPrefixS.f k L L = some true := fun k hk => laws_eqPrefixS_refl k L (by simp only [maxLen]; omega) (by omega)
    have he2 : ∀ k, K ≤ k → laws_eqPrefixS.f k r.1 r.1 = some true := fun k hk => laws_eqPrefixS_refl k r.1 (by simp only [maxLen]; omega) (by omega)
    have hp : laws_toPrefix.f a1_0 a1_1 = some (a1_0, a1_1) := rfl
    refine ⟨K + 1 + 1 + 1, ?_⟩
    unfold laws_FnExactCutPrefix.f
    rw [hr0, Option.bind_some, if_neg h, ht _ (by omega), Option.bind_some, hp, Option.bind_some, h1 _ (by omega), Option.bind_some, Option.bind_some, Option.bind_some, h2 _ (by omega), Option.bind_some, he2 _ (by omega), Option.bind_some, if_pos rfl]
    rw [laws_FnExactCutPrefix.j0, if_neg (by simp), ht _ (by omega), Option.bind_some, he _ (by omega), Option.bind_some, if_pos rfl, laws_markPrefixS_is L (by omega) 1 (by omega) (by omega) _ (by omega), Option.bind_some]
    dsimp only
    rw [if_neg (by omega), he2 _ (by omega), Option.bind_some, if_pos rfl]
    rw [laws_FnExactCutPrefix.j1, if_neg (by simp), laws_markPrefixS_is r.1 (by omega) 1 (by omega) (by omega) _ (by omega), Option.bind_some]
    dsimp only
    rw [laws_heldPrefixS_is r.1.length (by omega) 1 (by omega) (by omega) _ (by omega), Option.bind_some, if_neg (by omega), if_pos rfl, ht _ (by omega), Option.bind_some, hp, Option.bind_some, h2 _ (by omega), Option.bind_some, he2 _ (by omega), Option.bind_some, if_pos rfl]
    rw [laws_FnExactCutPrefix.j2, if_neg (by simp), laws_heldPrefixS_is r.1.length (by omega) 1 (by omega) (by omega) _ (by omega), Option.bind_some, if_neg (by omega), if_pos rfl]
end Go.Proofs.Ytabejlfejlpkeaa.Pure
