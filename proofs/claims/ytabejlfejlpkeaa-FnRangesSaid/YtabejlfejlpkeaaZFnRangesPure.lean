/- The pure statement of FnRanges: what the printed functions tell is what the reference tells. No condition but the arguments' own bounds. -/
import Derived.Test.YtabejlfejlpkeaaYFnRangesx19
import Derived.Test.YtabejlfejlpkeaaQFnRanges
namespace Go.Proofs.Ytabejlfejlpkeaa.Pure
namespace FnRangesUses
open Go.RowKit Go.Proofs.Ytabejlfejlpkeaa.PFnRanges Go.Proofs.YtabejlfejlpkeaaW.PrintWords Go.Proofs.YtabejlfejlpkeaaW.PrintLast Go.Proofs.YtabejlfejlpkeaaW.PrintMore Go.Proofs.Ytabejlfejlpkeaa.Pfx Go.Proofs.Ytabejlfejlpkeaa.Loop Go.Proofs.Ytabejlfejlpkeaa.Tbl
open Option renaming bind_some → kz
open List renaming mem_map → kq, length_cons → ky, map_cons → kj, mem_singleton → kk, length_append → kv, map_append → kh, mem_append → kg, length_map → ke, mem_cons → kd, length_singleton → ko, nil_append → kx, mem_cons_of_mem → ku, any_eq_true → ks, not_mem_nil → kp, all_eq_true → kn, filterMap_cons → kl
open Bool renaming and_eq_true → kb, not_true → km, true_and → kt, eq_iff_iff → kr, false_and → ki
open Int renaming tmod_eq_emod_of_nonneg → kc
set_option linter.unusedVariables false
set_option linter.unusedSimpArgs false

theorem spec_l1In_is (a lo hi : Int) : spec_l1In.f a lo hi = some (decide (lo ≤ a ∧ a ≤ hi)) := by
  unfold spec_l1In.f
  by_cases h : lo ≤ a
  · rw [if_pos h]; simp [h]
  · rw [if_neg h]; simp [h]
theorem impl_within_is (a lo hi : Int) : impl_within.f a lo hi = some (decide (lo ≤ a ∧ a ≤ hi)) := by
  unfold impl_within.f
  by_cases h : lo ≤ a
  · rw [if_pos h]; simp [h]
  · rw [if_neg h]; simp [h]
theorem spec_l1Addr_is (a : Int) : spec_l1Addr.f a = some (decide (0 ≤ a ∧ a ≤ 4294967295)) := by
  unfold spec_l1Addr.f; rw [spec_l1In_is]; rfl
theorem impl_isAddr_is (a : Int) : impl_isAddr.f a = some (decide (0 ≤ a ∧ a ≤ 4294967295)) := by
  unfold impl_isAddr.f; rw [impl_within_is]; rfl
theorem impl_sizeOf_is {n : Int} (h0 : 0 ≤ n) (h1 : n ≤ 32) : impl_sizeOf.f n = some (sz n) := by
  unfold impl_sizeOf.f
  rw [shl_sz h0 h1, if_pos (by rw [wrap_id (by omega) (by omega)]; omega)]
theorem spec_l1Size_is (a : Int) {n : Int} (h0 : 0 ≤ n) (h1 : n ≤ 32) : spec_l1Size.f a n = some (sz n) := by
  unfold spec_l1Size.f
  have e : IntKind.u64.wrap (wrap64 (32 - n)) = wrap64 (32 - n) := by rw [wrap_id (by omega) (by omega), u64_id (by omega) (by omega)]
  rw [e, shl_sz h0 h1, if_pos (by rw [wrap_id (by omega) (by omega)]; omega)]
theorem impl_GoodPrefix_is (a n : Int) : impl_GoodPrefix.f a n = some (good a n) := by
  unfold impl_GoodPrefix.f
  rw [impl_within_is, kz]
  by_cases h : 0 ≤ n ∧ n ≤ 32
  · rw [if_pos (decide_eq_true h), impl_isAddr_is, kz]
    by_cases h' : 0 ≤ a ∧ a ≤ 4294967295
    · rw [if_pos (decide_eq_true h'), impl_sizeOf_is h.1 h.2, kz, if_neg (by have := sz_pos n; omega), kc h'.1]
      simp [good, h.1, h.2, h'.1, h'.2, beq_dec]
    · rw [if_neg (by simpa using h')]
      have : good a n = false := by simp [good]; omega
      rw [this]
  · rw [if_neg (by simpa using h)]
    have : good a n = false := by simp [good]; omega
    rw [this]
theorem spec_GoodPrefix_is (a n : Int) : spec_GoodPrefix.f a n = some (good a n) := by
  unfold spec_GoodPrefix.f
  rw [spec_l1In_is, kz]
  by_cases h : 0 ≤ n ∧ n ≤ 32
  · rw [if_pos (decide_eq_true h), spec_l1Addr_is, kz]
    by_cases h' : 0 ≤ a ∧ a ≤ 4294967295
    · rw [if_pos (decide_eq_true h'), spec_l1Size_is a h.1 h.2, kz, if_neg (by have := sz_pos n; omega), kc h'.1]
      simp [good, h.1, h.2, h'.1, h'.2, beq_dec]
    · rw [if_neg (by simpa using h')]
      have : good a n = false := by simp [good]; omega
      rw [this]
  · rw [if_neg (by simpa using h)]
    have : good a n = false := by simp [good]; omega
    rw [this]
theorem impl_Prefix_end_is {a n : Int} (h : good a n = true) : impl_Prefix_end.f a n = some (a + sz n - 1) := by
  obtain ⟨h0, h1, h2, h3, h4⟩ := good_iff.1 h
  have := sz_pos n
  have := sz_le h0
  unfold impl_Prefix_end.f
  rw [impl_sizeOf_is h0 h1, kz, wrap_id (x := a + sz n) (by omega) (by omega), wrap_id (by omega) (by omega)]
theorem impl_Prefix_has_is {a n : Int} (x : Int) (h : good a n = true) : impl_Prefix_has.f a n x = some (decide (a ≤ x ∧ x ≤ a + sz n - 1)) := by
  unfold impl_Prefix_has.f
  rw [impl_Prefix_end_is h, kz, impl_within_is]; rfl
theorem spec_l1HasAddr_is {a n x : Int} (h : good a n = true) (h5 : 0 ≤ x) (h6 : x ≤ 4294967295) : spec_l1HasAddr.f a n x = some (decide (a ≤ x ∧ x ≤ a + sz n - 1)) := by
  obtain ⟨h0, h1, h2, h3, h4⟩ := good_iff.1 h
  have hs := sz_pos n
  have h7 := Int.emod_nonneg x (show sz n ≠ 0 by omega)
  have h8 := Int.emod_lt_of_pos x (show 0 < sz n by omega)
  have h9 := sz_le h0
  unfold spec_l1HasAddr.f
  rw [spec_l1Size_is a h0 h1, kz, if_neg (by omega), kc h5, wrap_id (by omega) (by omega), beq_dec]
  congr 1
  exact decide_eq_decide.2 (in_row (by omega) h4)
theorem impl_Prefix_covers_is {a n : Int} (b m : Int) (h : good a n = true) : impl_Prefix_covers.f a n b m = some (decide (n ≤ m ∧ a ≤ b ∧ b ≤ a + sz n - 1)) := by
  unfold impl_Prefix_covers.f
  by_cases h' : n ≤ m
  · rw [if_pos h', impl_Prefix_has_is b h]; simp [h']
  · rw [if_neg h']; simp [h']
theorem spec_l1Covers_is {a n b m : Int} (h : good a n = true) (hb : good b m = true) : spec_l1Covers.f a n b m = some (decide (n ≤ m ∧ a ≤ b ∧ b ≤ a + sz n - 1)) := by
  obtain ⟨h0, h1, h2, h3, h4⟩ := good_iff.1 hb
  unfold spec_l1Covers.f
  by_cases h' : n ≤ m
  · rw [if_pos h', spec_l1HasAddr_is h h2 h3]; simp [h']
  · rw [if_neg h']; simp [h']
theorem spec_l1Parent_is {a n : Int} (h : good a n = true) (hn : 0 < n) : spec_l1Parent.f a n = some (a - a % (2 * sz n), n - 1) := by
  obtain ⟨h0, h1, h2, h3, h4⟩ := good_iff.1 h
  have hs := sz_pos n
  have h9 := sz_le h0
  have h7 := Int.emod_nonneg a (show 2 * sz n ≠ 0 by omega)
  have h8 := Int.emod_lt_of_pos a (show 0 < 2 * sz n by omega)
  unfold spec_l1Parent.f
  rw [spec_l1Size_is a h0 h1, kz, wrap_id (x := 2 * sz n) (by omega) (by omega), if_neg (by omega), kc h2, wrap_id (by omega) (by omega), wrap_id (by omega) (by omega)]
theorem spec_l1Halves_is {a n : Int} (h0 : 0 ≤ n) (h1 : n < 32) (h2 : 0 ≤ a) (h3 : a ≤ 4294967295) : spec_l1Halves.f a n = some (a, n + 1, a + sz (n + 1), n + 1) := by
  have hs := sz_pos (n + 1)
  have h9 := sz_le (n := n + 1) (by omega)
  unfold spec_l1Halves.f
  rw [wrap_id (x := n + 1) (by omega) (by omega), spec_l1Size_is a (by omega) (by omega), kz, wrap_id (by omega) (by omega)]
theorem spec_l1Sibling_is {a n : Int} (h : good a n = true) (hn : 0 < n) : spec_l1Sibling.f a n = some (sib a n, n) := by
  obtain ⟨h0, h1, h2, h3, h4⟩ := good_iff.1 h
  have hs := sz_pos n
  have hr := parent_rest (a := a) (s := sz n) (by omega) h4
  have h7 := Int.emod_nonneg a (show 2 * sz n ≠ 0 by omega)
  have h8 : a % (2 * sz n) ≤ a := by
    obtain h | h := hr
    · omega
    · have := Int.mul_ediv_add_emod a (2 * sz n)
      have := Int.ediv_nonneg h2 (show 0 ≤ 2 * sz n by omega)
      have := Int.mul_nonneg (show 0 ≤ 2 * sz n by omega) this
      omega
  unfold spec_l1Sibling.f
  rw [spec_l1Parent_is h hn, kz]
  simp only []
  rw [spec_l1Halves_is (by omega) (by omega) (by omega) (by omega), kz]
  simp only [show n - 1 + 1 = n by omega, beq_self_eq_true, Bool.and_true]
  unfold sib
  rcases hr with hr | hr
  · rw [hr, if_pos (by simp)]; simp
  · rw [hr, if_neg (by simp; omega), if_neg (by omega)]
theorem impl_Prefix_sibling_is {a n : Int} (h : good a n = true) : impl_Prefix_sibling.f a n = some (sib a n, n) := by
  obtain ⟨h0, h1, h2, h3, h4⟩ := good_iff.1 h
  unfold impl_Prefix_sibling.f
  rw [impl_sizeOf_is h0 h1, kz, xor_sz h0 h1 h2 h3 h4]; rfl
theorem cmp_isNaN_int_is (a : Int) : cmp_isNaN_int.f a = some false := by unfold cmp_isNaN_int.f; simp
theorem cmp_Compare_int_is (a b : Int) : cmp_Compare_int.f a b = some (if a < b then -1 else if a > b then 1 else 0) := by
  unfold cmp_Compare_int.f
  simp only [cmp_isNaN_int_is, kz, Bool.false_eq_true, if_false]
  by_cases h1 : a < b
  · simp [h1]
  · by_cases h2 : a > b
    · simp [h1, h2]
    · simp [h1, h2]
theorem impl_compare_is (k : Nat) (a n b m : Int) : impl_compare.f (k + 3) a n b m = some (cmpP a n b m) := by
  unfold impl_compare.f cmp_Or_int.f
  rw [cmp_Compare_int_is, kz, cmp_Compare_int_is, kz]
  have w1 : wrap64 (0 + 1) = 1 := wrap_id (by omega) (by omega)
  have w2 : wrap64 (1 + 1) = 2 := wrap_id (by omega) (by omega)
  simp only [cmp_Or_int.l0, rd, ky, List.length_nil, w1, w2]
  unfold cmpP
  by_cases h1 : a < b
  · simp [h1]
  · by_cases h2 : b < a
    · have : ¬ a = b := by omega
      simp [h1, h2, this]
    · obtain rfl : a = b := by omega
      by_cases h3 : n < m
      · simp [h3]
      · by_cases h4 : m < n
        · have : ¬ n = m := by omega
          simp [h3, h4, this]
        · obtain rfl : n = m := by omega
          simp
theorem spec_l1Compare_is (k : Nat) (a n b m : Int) : spec_l1Compare.f (k + 1) a n b m = some (cmpP a n b m) := by
  unfold spec_l1Compare.f cmpP
  simp only [spec_l1Compare.j0]
  by_cases h1 : a < b
  · simp [h1]
  · by_cases h2 : a = b
    · subst h2
      by_cases h3 : n < m
      · simp [h3]
      · by_cases h4 : n = m
        · subst h4; simp
        · simp [h3, h4]
    · simp [h1, h2]
theorem impl_HasAddr_is (a n x : Int) : impl_HasAddr.f a n x = some (hasAddr a n x) := by
  unfold impl_HasAddr.f hasAddr
  rw [impl_GoodPrefix_is, kz]
  by_cases h : good a n = true
  · rw [if_pos h, impl_isAddr_is, kz]
    by_cases h' : 0 ≤ x ∧ x ≤ 4294967295
    · rw [if_pos (decide_eq_true h'), impl_Prefix_has_is x h, if_pos ⟨h, h'⟩]; rfl
    · rw [if_neg (by simpa using h'), if_neg (fun hh => h' hh.2)]
  · rw [if_neg h, if_neg (fun hh => h hh.1)]
theorem spec_HalvesOf_is (a n : Int) : spec_HalvesOf.f a n = some (halvesOf a n) := by
  unfold spec_HalvesOf.f halvesOf
  rw [spec_GoodPrefix_is, kz]
  by_cases h : good a n = true
  · obtain ⟨h0, h1, h2, h3, h4⟩ := good_iff.1 h
    rw [if_pos h]
    by_cases h' : n = 32
    · rw [if_pos h', if_neg (fun hh => hh.2 h')]
    · rw [if_neg h', spec_l1Halves_is h0 (by omega) h2 h3, kz, if_pos ⟨h, h'⟩]
  · rw [if_neg h, if_neg (fun hh => h hh.1)]
theorem rdm_Prefix (pre : List S45) (a : S45) (rest : List S45) : rd_T45 (pre ++ a :: rest) (pre.length : Int) = a := by unfold rd_T45; simp
def pr (p : S45) : Pr := (p.f0, p.f1)
theorem pr_inj {p q : S45} (h : pr p = pr q) : p = q := by cases p; cases q; simpa [pr] using h
theorem impl_areRising_is (k : Nat) (l : List S45) (hl : l.length ≤ 1048576) (hk : l.length + 4 < k) : impl_areRising.f k l = some (rising (l.map pr)) := by
  unfold impl_areRising.f
  have key : ∀ (rest pre : List S45) (k : Nat), l = pre ++ rest → rest.length + 4 < k →
      impl_areRising.l0 k l l (l.length : Int) (pre.length : Int) = some (risingFrom ((pre.map pr).getLast?) (rest.map pr)) := by
    intro rest
    induction rest with
    | nil =>
      intro pre k e hk
      obtain ⟨k, rfl⟩ : ∃ m, k = m + 1 := ⟨k - 1, by omega⟩
      simp only [impl_areRising.l0]
      rw [if_neg (by rw [e]; simp)]
      simp [risingFrom]
    | cons a rest ih =>
      intro pre k e hk
      obtain ⟨k, rfl⟩ : ∃ m, k = m + 1 := ⟨k - 1, by omega⟩
      have h1 : rd_T45 l (pre.length : Int) = a := by rw [e]; exact rdm_Prefix _ _ _
      have hih := ih (pre ++ [a]) k (by rw [e]; simp) (by simp at hk; omega)
      rw [kh, List.map_singleton, List.getLast?_concat] at hih
      simp only [impl_areRising.l0]
      rw [if_pos (by rw [e]; exact lt_mid _ _ _), if_pos (len_nn _), if_pos (by rw [e]; exact lt_mid _ _ _), h1, impl_GoodPrefix_is, kz, wrap_mid (rest := rest) (by rw [← e]; simp only [maxLen]; omega)]
      simp only [kj, risingFrom]
      by_cases hg : good a.f0 a.f1 = true
      · rw [if_pos hg]
        rcases snoc_cases pre with rfl | ⟨pre', q, rfl⟩
        · rw [if_neg (by simp)]
          simp only [kx, ko] at hih
          rw [show (([] : List S45) ++ [a]).length = 1 from rfl, hih]
          simp [pr, hg]
        · have h2 : wrap64 (((pre' ++ [q]).length : Int) - 1) = (pre'.length : Int) := by
            have : (pre' ++ [q] ++ a :: rest).length ≤ 1048576 := by rw [← e]; exact hl
            simp at this
            rw [kv, ko, wrap_id (by omega) (by omega)]; omega
          have h3 : rd_T45 l (pre'.length : Int) = q := by rw [e, List.append_assoc]; exact rdm_Prefix _ _ _
          obtain ⟨k', rfl⟩ : ∃ m, k = m + 3 := ⟨k - 3, by simp at hk; omega⟩
          rw [if_pos (by rw [kv, ko]; omega), h2, if_pos (len_nn _), if_pos (by rw [e, kv, kv, ko]; omega), h3, impl_compare_is, kz, hih, kh, List.map_singleton, List.getLast?_concat]
          by_cases hc : cmpP q.f0 q.f1 a.f0 a.f1 ≥ 0
          · rw [if_pos hc]
            have : ¬ cmpP q.f0 q.f1 a.f0 a.f1 < 0 := by omega
            simp [pr, this]
          · rw [if_neg hc]
            have : cmpP q.f0 q.f1 a.f0 a.f1 < 0 := by omega
            simp [pr, hg, this]
      · rw [if_neg hg]
        simp [pr, hg]
  exact key l [] k rfl hk
theorem rdm_Span (pre : List S74) (a : S74) (rest : List S74) : rd_T74 (pre ++ a :: rest) (pre.length : Int) = a := by unfold rd_T74; simp
def spn (s : S74) : Sp := (s.f0, s.f1)
theorem map_pr_inj : ∀ {l l' : List S45}, l.map pr = l'.map pr → l = l'
  | [], [], _ => rfl
  | [], _ :: _, h => by simp at h
  | _ :: _, [], h => by simp at h
  | a :: t, b :: t', h => by
    simp only [kj, List.cons.injEq] at h
    rw [pr_inj h.1, map_pr_inj h.2]
structure Part (a b : Int) (p : Pr) (r : List Pr) : Prop where
  srt : Srt r
  max : ∀ q, q ∈ r → MaxP (fun x => a ≤ x ∧ x ≤ b) q
  inside : ∀ q, q ∈ r → p.1 ≤ q.1 ∧ last q ≤ last p
  cover : ∀ x, inP p x → a ≤ x ∧ x ≤ b → inL r x
theorem spec_l3Range_is {a b : Int} : ∀ (d : Nat) (p : Pr) (out : List S45) (k : Nat), GoodP p → (32 - p.2).toNat = d → (0 < p.2 → ¬ ∀ x, inP (parent p) x → a ≤ x ∧ x ≤ b) → 3 * d + 3 ≤ k → out.length + 2 ^ d ≤ 8796093022208 →
    ∃ r : List S45, spec_l3Range.f k p.1 p.2 a b out = some (out ++ r) ∧ Part a b p (r.map pr) ∧ r.length ≤ 2 ^ d := by
  intro d
  induction d with
  | zero =>
    intro p out k hp hd hpar hk hlen
    obtain ⟨p0, p1, p2, p3, p4⟩ := hp.facts
    obtain ⟨k, rfl⟩ : ∃ m, k = m + 3 := ⟨k - 3, by omega⟩
    have hn : p.2 = 32 := by omega
    have hs : sz p.2 = 1 := by rw [hn]; exact sz_lit.2
    have hlast : last p = p.1 := by unfold last; omega
    simp only [spec_l3Range.f]
    rw [spec_l1Size_is _ p0 p1, kz, hs, wrap_id (x := p.1 + 1) (by omega) (by omega), wrap_id (by omega) (by omega), show p.1 + 1 - 1 = p.1 by omega]
    by_cases h1 : p.1 < a
    · rw [if_pos h1]
      simp only [spec_l3Range.j0]
      refine ⟨[], by simp, ⟨List.Pairwise.nil, by simp, by simp, fun x hx hx2 => ?_⟩, by simp⟩
      unfold inP at hx; omega
    · rw [if_neg h1]
      by_cases h2 : p.1 > b
      · simp only [spec_l3Range.j0]
        rw [if_pos (by simpa using h2)]
        refine ⟨[], by simp, ⟨List.Pairwise.nil, by simp, by simp, fun x hx hx2 => ?_⟩, by simp⟩
        unfold inP at hx; omega
      · simp only [spec_l3Range.j0]
        rw [if_neg (by simpa using h2), if_pos (by omega)]
        simp only [spec_l3Range.j1]
        rw [if_pos (by simp; omega), if_pos (by simp at hlen; omega)]
        refine ⟨[⟨p.1, p.2⟩], rfl, ⟨List.pairwise_singleton _ _, ?_, ?_, ?_⟩, by simp⟩
        · intro q hq
          have : q = p := by simpa [pr] using hq
          subst this
          exact ⟨hp, fun x hx => by unfold inP at hx; omega, hpar⟩
        · intro q hq
          have : q = p := by simpa [pr] using hq
          subst this
          omega
        · intro x hx _
          exact ⟨p, by simp [pr], hx⟩
  | succ d ih =>
    intro p out k hp hd hpar hk hlen
    obtain ⟨p0, p1, p2, p3, p4⟩ := hp.facts
    obtain ⟨k, rfl⟩ : ∃ m, k = m + 3 := ⟨k - 3, by omega⟩
    have hs := sz_pos p.2
    have hs2 := sz_le p0
    have hpow : 2 ^ (d + 1) = 2 ^ d + 2 ^ d := by rw [Nat.pow_succ]; omega
    have hp1 := Nat.one_le_two_pow (n := d)
    simp only [spec_l3Range.f]
    rw [spec_l1Size_is _ p0 p1, kz, wrap_id (x := p.1 + sz p.2) (by omega) (by omega), wrap_id (by omega) (by omega)]
    have hl : p.1 + sz p.2 - 1 = last p := rfl
    rw [hl]
    by_cases h1 : last p < a
    · rw [if_pos h1]
      simp only [spec_l3Range.j0]
      refine ⟨[], by simp, ⟨List.Pairwise.nil, by simp, by simp, fun x hx hx2 => ?_⟩, by simp⟩
      unfold inP at hx; omega
    · rw [if_neg h1]
      by_cases h2 : p.1 > b
      · simp only [spec_l3Range.j0]
        rw [if_pos (by simpa using h2)]
        refine ⟨[], by simp, ⟨List.Pairwise.nil, by simp, by simp, fun x hx hx2 => ?_⟩, by simp⟩
        unfold inP at hx; omega
      · by_cases h3 : p.1 ≥ a ∧ last p ≤ b
        · simp only [spec_l3Range.j0]
          rw [if_neg (by simpa using h2), if_pos h3.1]
          simp only [spec_l3Range.j1]
          rw [if_pos (by simpa using h3.2), if_pos (by have := Nat.one_le_two_pow (n := d + 1); omega)]
          refine ⟨[⟨p.1, p.2⟩], rfl, ⟨List.pairwise_singleton _ _, ?_, ?_, ?_⟩, by simpa using Nat.one_le_two_pow⟩
          · intro q hq
            have : q = p := by simpa [pr] using hq
            subst this
            exact ⟨hp, fun x hx => by unfold inP at hx; omega, hpar⟩
          · intro q hq
            have : q = p := by simpa [pr] using hq
            subst this
            omega
          · intro x hx _
            exact ⟨p, by simp [pr], hx⟩
        · have hlt : p.2 < 32 := by omega
          obtain ⟨g1, g2⟩ := halves_good hp hlt
          obtain ⟨e1, e2, _, _⟩ := halves_parent hp hlt
          have hsp := halves_split hp hlt
          have e := sz_succ p0 hlt
          have hsh := sz_pos (p.2 + 1)
          have hnot : ¬ ∀ x, inP p x → a ≤ x ∧ x ≤ b := fun h => by
            have ha := h p.1 first_in
            have hb := h (last p) ⟨fst_le_last p, Int.le_refl _⟩
            exact h3 ⟨by omega, hb.2⟩
          have hlow : last (lowH p) = p.1 + sz (p.2 + 1) - 1 := rfl
          have hhigh : last (highH p) = last p := by unfold last highH; simp only; omega
          have hh1 : (highH p).1 = p.1 + sz (p.2 + 1) := rfl
          obtain ⟨r1, hr1, P1, L1⟩ := ih (lowH p) out k g1 (by simp [lowH]; omega) (fun _ => by rw [e1]; exact hnot) (by omega) (by omega)
          obtain ⟨r2, hr2, P2, L2⟩ := ih (highH p) (out ++ r1) k g2 (by simp [highH]; omega) (fun _ => by rw [e2]; exact hnot) (by omega) (by rw [kv]; omega)
          refine ⟨r1 ++ r2, ?_, ⟨?_, ?_, ?_, ?_⟩, by rw [kv]; omega⟩
          · have key : spec_l3Range.j1 (k + 1) a b out false p.1 p.2 = some (out ++ (r1 ++ r2)) := by
              simp only [spec_l3Range.j1]
              rw [if_neg (by simp), spec_l1Halves_is p0 hlt p2 p3, kz]
              have hr1' : spec_l3Range.f k p.1 (p.2 + 1) a b out = some (out ++ r1) := hr1
              have hr2' : spec_l3Range.f k (p.1 + sz (p.2 + 1)) (p.2 + 1) a b (out ++ r1) = some (out ++ r1 ++ r2) := hr2
              simp only [hr1', hr2', kz, List.append_assoc]
            simp only [spec_l3Range.j0]
            rw [if_neg (by simpa using h2)]
            by_cases h4 : p.1 ≥ a
            · rw [if_pos h4]
              have : decide (last p ≤ b) = false := by simp; omega
              rw [this]; exact key
            · rw [if_neg h4]; exact key
          · rw [kh]
            refine List.pairwise_append.2 ⟨P1.srt, P2.srt, fun q hq q' hq' => ?_⟩
            have i1 := P1.inside q hq
            have i2 := P2.inside q' hq'
            omega
          · intro q hq
            rw [kh] at hq
            rcases kg.1 hq with hq | hq
            · exact P1.max q hq
            · exact P2.max q hq
          · intro q hq
            rw [kh] at hq
            have hp1 : (lowH p).1 = p.1 := rfl
            rcases kg.1 hq with hq | hq
            · have := P1.inside q hq
              omega
            · have := P2.inside q hq
              omega
          · intro x hx hab
            rw [kh]
            rcases (hsp x).1 hx with h | h
            · obtain ⟨q, hq, hqx⟩ := P1.cover x h hab
              exact ⟨q, List.mem_append_left _ hq, hqx⟩
            · obtain ⟨q, hq, hqx⟩ := P2.cover x h hab
              exact ⟨q, List.mem_append_right _ hq, hqx⟩
theorem spec_l3Range_all {a b : Int} (ha : 0 ≤ a) (hb : b ≤ 4294967295) (k : Nat) (hk : 99 ≤ k) : ∃ r : List S45, spec_l3Range.f k 0 0 a b [] = some r ∧ Canon (fun x => a ≤ x ∧ x ≤ b) (r.map pr) := by
  have hz : GoodP (0, 0) := good_mk ⟨by simp, by simp, by simp, by simp, by simp⟩
  obtain ⟨r, hr, P, _⟩ := spec_l3Range_is (a := a) (b := b) 32 (0, 0) [] k hz (by simp) (fun h => by simp at h) (by omega) (by simp)
  refine ⟨r, by simpa using hr, P.srt, P.max, fun x hx => P.cover x ?_ hx⟩
  have h1 : last (0, 0) = 4294967295 := by unfold last; rw [sz_lit.1]; rfl
  exact ⟨by simp; omega, by omega⟩
theorem best_of {f b : Int} (h0 : 0 ≤ f) (h1 : f ≤ b) (hb : b ≤ 4294967295) : ∃ n : Int, Best b (f, n) ∧ 0 ≤ n ∧ n ≤ 32 := by
  have key : ∀ d : Nat, d ≤ 32 → (∃ n : Int, Best b (f, n) ∧ 0 ≤ n ∧ n ≤ 32) ∨ ∀ n : Int, 0 ≤ n → n < d → GoodP (f, n) → ¬ last (f, n) ≤ b := by
    intro d
    induction d with
    | zero => intro _; exact .inr (fun n h h' => by omega)
    | succ d ih =>
      intro hd
      rcases ih (by omega) with h | h
      · exact .inl h
      · by_cases hg : GoodP (f, (d : Int)) ∧ last (f, (d : Int)) ≤ b
        · exact .inl ⟨d, ⟨hg.1, hg.2, fun n hn hlt => h n hn hlt⟩, by omega, by omega⟩
        · refine .inr (fun n hn hlt hgn hln => ?_)
          by_cases e : n = (d : Int)
          · subst e; exact hg ⟨hgn, hln⟩
          · exact h n hn (by omega) hgn hln
  rcases key 32 (by omega) with h | h
  · exact h
  · have hg : GoodP (f, 32) := good_mk ⟨by simp, by simp, h0, by simp; omega, by show f % sz 32 = 0; rw [sz_lit.2]; omega⟩
    have hl : last (f, 32) = f := by unfold last; rw [sz_lit.2]; simp
    exact ⟨32, ⟨hg, by omega, fun n hn hlt hgn hln => h n hn hlt hgn hln⟩, by omega, by omega⟩
theorem prefixesIn_l2 {b f n : Int} {out : List S45} {sp : List S74} {len i a : Int} {r : List S45} (hB : Best b (f, n)) (hb : b ≤ 4294967295) (hlen : out.length < 8796093022208)
    (h : Ev (fun k => impl_prefixesIn.l1 k (out ++ [⟨f, n⟩]) (last (f, n) + 1) sp len i a b) r) : ∀ (d : Nat) (m : Int), 0 ≤ m → m ≤ n → (n - m).toNat = d → Ev (fun k => impl_prefixesIn.l2 k out sp len i a b f m) r := by
  have hg := hB.good
  obtain ⟨p0, p1, p2, p3, p4⟩ := hg.facts
  have hend := good_end hg
  have hl : last (f, n) = f + sz n - 1 := rfl
  intro d
  induction d with
  | zero =>
    intro m h0 h1 hd
    obtain rfl : m = n := by omega
    refine Ev.step (f := fun k => impl_prefixesIn.l1 k (out ++ [⟨f, m⟩]) (last (f, m) + 1) sp len i a b) (fun k => ?_) h
    simp only [impl_prefixesIn.l2]
    have hgm : good f m = true := hg
    have hfit := hB.fits
    simp only at p2 p3 hend
    rw [impl_GoodPrefix_is, kz, if_pos hgm, impl_Prefix_end_is hgm, kz, if_neg (by omega), if_pos hlen, kz, wrap_id (by have := sz_pos m; omega) (by omega)]
    rfl
  | succ d ih =>
    intro m h0 h1 hd
    have hih := ih (m + 1) (by omega) (by omega) (by omega)
    refine Ev.step (f := fun k => impl_prefixesIn.l2 k out sp len i a b f (m + 1)) (fun k => ?_) hih
    have hlt : m < n := by omega
    simp only at p1
    have hleast := hB.least m h0 (by simpa using hlt)
    simp only [impl_prefixesIn.l2]
    rw [impl_GoodPrefix_is, kz, wrap_id (x := m + 1) (by omega) (by omega)]
    by_cases hgm : good f m = true
    · rw [if_pos hgm, impl_Prefix_end_is hgm, kz, if_pos]
      have : ¬ last (f, m) ≤ b := hleast hgm
      have h2 : last (f, m) = f + sz m - 1 := rfl
      omega
    · rw [if_neg hgm]
def RowsOf (l : List S74) (r : List (List S45)) : Prop := r.length = l.length ∧ ∀ (i : Nat) (s : S74) (g : List S45), l[i]? = some s → r[i]? = some g → Greedy s.f0 s.f1 s.f0 (g.map pr)
theorem RowsOf.cons {s : S74} {l : List S74} {g : List S45} {r : List (List S45)} (h : Greedy s.f0 s.f1 s.f0 (g.map pr)) (hr : RowsOf l r) : RowsOf (s :: l) (g :: r) := by
  refine ⟨by simp [hr.1], fun i s' g' h1 h2 => ?_⟩
  cases i with
  | zero =>
    simp only [List.getElem?_cons_zero, Option.some.injEq] at h1 h2
    subst h1; subst h2; exact h
  | succ i => exact hr.2 i s' g' (by simpa using h1) (by simpa using h2)
theorem prefixesIn_is (sp : List S74) (hn : sp.length ≤ 1048576) (hg : Gapped (sp.map spn)) (hb : ∀ s, s ∈ sp → 0 ≤ s.f0 ∧ s.f1 ≤ 4294967295) : ∃ r, RowsOf sp r ∧ Ev (fun k => impl_prefixesIn.f k sp) r.flatten := by
  have key : ∀ (rest pre : List S74) (out : List S45), sp = pre ++ rest → (∀ s, s ∈ rest → (out.length : Int) ≤ s.f0) →
      ∃ r, RowsOf rest r ∧ Ev (fun k => impl_prefixesIn.l0 k out sp (sp.length : Int) (pre.length : Int)) (out ++ r.flatten) := by
    intro rest
    induction rest with
    | nil =>
      intro pre out e ho
      refine ⟨[], ⟨rfl, by simp⟩, ?_⟩
      refine Ev.step (f := fun _ => some out) (fun k => ?_) (by simpa using Ev.now out)
      simp only [impl_prefixesIn.l0]
      rw [if_neg (by rw [e]; simp)]
    | cons s rest ih =>
      intro pre out e ho
      have hs := hb s (by rw [e]; simp)
      have hne := hg.ne (spn s) (kq.2 ⟨s, by rw [e]; simp, rfl⟩)
      have hgap : ∀ t, t ∈ rest → s.f1 + 1 < t.f0 := fun t ht => by
        have h := hg.srt
        rw [e, kh, kj] at h
        have h2 := (List.pairwise_append.1 h).2.1
        exact (List.pairwise_cons.1 h2).1 (spn t) (kq.2 ⟨t, ht, rfl⟩)
      have hlen : pre.length < sp.length := by rw [e]; simp
      have inner : ∀ (d : Nat) (f : Int) (out : List S45), (s.f1 + 1 - f).toNat = d → s.f0 ≤ f → f ≤ s.f1 + 1 → (out.length : Int) ≤ f → Clear s.f0 s.f1 f →
          ∃ g r, Greedy s.f0 s.f1 f (g.map pr) ∧ RowsOf rest r ∧ Ev (fun k => impl_prefixesIn.l1 k out f sp (sp.length : Int) (pre.length : Int) s.f0 s.f1) (out ++ g ++ r.flatten) := by
        intro d
        induction d using Nat.strongRecOn with
        | _ d ihd =>
          intro f out hd hf0 hf1 hol hcl
          by_cases hend : f ≤ s.f1
          · obtain ⟨n, hB, n0, n1⟩ := best_of (b := s.f1) (show 0 ≤ f by omega) hend hs.2
            have hfit := hB.fits
            have hsz := sz_pos n
            have hlast : last (f, n) = f + sz n - 1 := rfl
            obtain ⟨g, r, G, R, E⟩ := ihd (s.f1 + 1 - (last (f, n) + 1)).toNat (by omega) (last (f, n) + 1) (out ++ [⟨f, n⟩]) rfl (by omega) (by omega) (by simp; omega) (best_clear hB rfl hcl)
            refine ⟨⟨f, n⟩ :: g, r, ?_, R, ?_⟩
            · exact greedy_cons hB rfl hf0 hcl G
            · have E2 := prefixesIn_l2 hB hs.2 (by omega) E (n - 0).toNat 0 (by omega) n0 rfl
              have e3 : out ++ ⟨f, n⟩ :: g ++ r.flatten = out ++ [⟨f, n⟩] ++ g ++ r.flatten := by simp
              rw [e3]
              refine Ev.step (f := fun k => impl_prefixesIn.l2 k out sp (sp.length : Int) (pre.length : Int) s.f0 s.f1 f 0) (fun k => ?_) E2
              simp only [impl_prefixesIn.l1]
              rw [if_pos hend]
          · have hf : f = s.f1 + 1 := by omega
            obtain ⟨r, R, E⟩ := ih (pre ++ [s]) out (by rw [e]; simp) (fun t ht => by have := hgap t ht; omega)
            refine ⟨[], r, greedy_nil (by omega) hf1, R, ?_⟩
            rw [List.append_nil]
            refine Ev.step (f := fun k => impl_prefixesIn.l0 k out sp (sp.length : Int) ((pre ++ [s]).length : Int)) (fun k => ?_) E
            simp only [impl_prefixesIn.l1]
            rw [if_neg hend, wrap_id (by omega) (by omega)]
            simp
      obtain ⟨g, r, G, R, E⟩ := inner _ s.f0 out rfl (Int.le_refl _) (by have : s.f0 ≤ s.f1 := hne; omega) (ho s (by simp)) (clear_first _ _)
      refine ⟨g :: r, R.cons G, ?_⟩
      have e4 : out ++ (g :: r).flatten = out ++ g ++ r.flatten := by simp
      rw [e4]
      refine Ev.step (f := fun k => impl_prefixesIn.l1 k out s.f0 sp (sp.length : Int) (pre.length : Int) s.f0 s.f1) (fun k => ?_) E
      have h1 : rd_T74 sp (pre.length : Int) = s := by rw [e]; exact rdm_Span _ _ _
      simp only [impl_prefixesIn.l0]
      rw [if_pos (by omega), if_pos (len_nn _), if_pos (by omega), h1]
  obtain ⟨r, R, E⟩ := key sp [] [] rfl (fun s hs => by have := (hb s hs).1; simp; omega)
  refine ⟨r, R, ?_⟩
  refine Ev.congr (f := fun k => impl_prefixesIn.l0 k [] sp (sp.length : Int) (([] : List S74).length : Int)) (fun k => ?_) (by simpa using E)
  unfold impl_prefixesIn.f; rfl
theorem RowsOf.canon {l : List S74} {r : List (List S45)} (hg : Gapped (l.map spn)) (h : RowsOf l r) : Canon (inS (l.map spn)) (r.flatten.map pr) := by
  have e : r.flatten.map pr = (r.map (List.map pr)).flatten := by rw [List.map_flatten]
  rw [e]
  refine canon_rows hg (by simp [h.1]) (fun i s g h1 h2 => ?_)
  rw [List.getElem?_map] at h1 h2
  obtain ⟨s', hs', rfl⟩ := Option.map_eq_some_iff.1 h1
  obtain ⟨g', hg', rfl⟩ := Option.map_eq_some_iff.1 h2
  exact (h.2 i s' g' hs' hg').canon
theorem spec_l3Good_is (k : Nat) (l : List S45) (hl : l.length ≤ 1048576) (hk : l.length < k) : spec_l3Good.f k l = some (decide (l.length ≤ 64) && (l.map pr).all (fun p => good p.1 p.2)) := by
  unfold spec_l3Good.f
  have key : ∀ (rest pre : List S45) (k : Nat), l = pre ++ rest → rest.length < k →
      spec_l3Good.l0 k l l (l.length : Int) (pre.length : Int) = some (decide (l.length ≤ 64) && (rest.map pr).all (fun p => good p.1 p.2)) := by
    intro rest
    induction rest with
    | nil =>
      intro pre k e hk
      obtain ⟨k, rfl⟩ : ∃ m, k = m + 1 := ⟨k - 1, by omega⟩
      simp only [spec_l3Good.l0]
      rw [if_neg (by rw [e]; simp)]
      have : ((l.length : Int) ≤ 64) ↔ l.length ≤ 64 := by omega
      simp [this]
    | cons a rest ih =>
      intro pre k e hk
      obtain ⟨k, rfl⟩ : ∃ m, k = m + 1 := ⟨k - 1, by omega⟩
      have h1 : rd_T45 l (pre.length : Int) = a := by rw [e]; exact rdm_Prefix _ _ _
      have hih := ih (pre ++ [a]) k (by rw [e]; simp) (by simp at hk; omega)
      simp only [spec_l3Good.l0]
      rw [if_pos (by rw [e]; exact lt_mid _ _ _), if_pos (len_nn _), if_pos (by rw [e]; exact lt_mid _ _ _), h1, spec_GoodPrefix_is, kz, wrap_mid (rest := rest) (by rw [← e]; simp only [maxLen]; omega), hih]
      by_cases hg : good a.f0 a.f1 = true
      · rw [if_pos hg]; simp [pr, hg]
      · rw [if_neg hg]; simp [pr, hg]
  exact key l [] k rfl hk
theorem impl_GoodSet_in {l : List S45} (hl : l.length ≤ 1048576) (hg : ∀ p, p ∈ l → good p.f0 p.f1 = true) (p : S45) (hp : p ∈ l) (i : Nat) (x15 : List S45) (x16 x17 : Int) :
    ∀ (rest pre : List S45), l = pre ++ rest →
      (badAt i (pr p) pre.length (rest.map pr) = true → Ev (fun k => impl_GoodSet.l1 k l (i : Int) x15 x16 x17 l (l.length : Int) (pre.length : Int) p.f0 p.f1) false) ∧
      (badAt i (pr p) pre.length (rest.map pr) = false → ∀ r, Ev (fun k => impl_GoodSet.l0 k l x15 x16 (wrap64 (x17 + 1))) r → Ev (fun k => impl_GoodSet.l1 k l (i : Int) x15 x16 x17 l (l.length : Int) (pre.length : Int) p.f0 p.f1) r) := by
  have hgp := hg p hp
  intro rest
  induction rest with
  | nil =>
    intro pre e
    refine ⟨fun h => by simp [badAt] at h, fun _ r hr => ?_⟩
    refine Ev.step (f := fun k => impl_GoodSet.l0 k l x15 x16 (wrap64 (x17 + 1))) (fun k => ?_) hr
    simp only [impl_GoodSet.l1]
    rw [if_neg (by rw [e]; simp)]
  | cons q rest ih =>
    intro pre e
    obtain ⟨ih1, ih2⟩ := ih (pre ++ [q]) (by rw [e]; simp)
    have h1 : rd_T45 l (pre.length : Int) = q := by rw [e]; exact rdm_Prefix _ _ _
    have hw : wrap64 ((pre.length : Int) + 1) = ((pre ++ [q]).length : Int) := wrap_mid (rest := rest) (by rw [← e]; simp only [maxLen]; omega)
    have hlt : (pre.length : Int) < (l.length : Int) := by rw [e]; exact lt_mid _ _ _
    have hlen : (pre ++ [q]).length = pre.length + 1 := by simp
    rw [hlen] at ih1 ih2
    have one : ∀ k, impl_GoodSet.l1 (k + 1) l (i : Int) x15 x16 x17 l (l.length : Int) (pre.length : Int) p.f0 p.f1 =
        (if (!decide (i = pre.length) && (decide ((pr p).2 ≤ (pr q).2 ∧ (pr p).1 ≤ (pr q).1 ∧ (pr q).1 ≤ (pr p).1 + sz (pr p).2 - 1) || (decide (0 < (pr p).2) && ((pr q).1 == sib (pr p).1 (pr p).2 && (pr q).2 == (pr p).2)))) = true then some false
         else impl_GoodSet.l1 k l (i : Int) x15 x16 x17 l (l.length : Int) ((pre ++ [q]).length : Int) p.f0 p.f1) := by
      intro k
      simp only [impl_GoodSet.l1]
      rw [if_pos hlt, if_pos (len_nn _), if_pos hlt, hw, h1]
      by_cases hi : i = pre.length
      · rw [if_pos (by omega), if_neg (by simp [hi])]
      · rw [if_neg (by omega), impl_Prefix_covers_is _ _ hgp, kz]
        by_cases hc : p.f1 ≤ q.f1 ∧ p.f0 ≤ q.f0 ∧ q.f0 ≤ p.f0 + sz p.f1 - 1
        · rw [if_pos (decide_eq_true hc), if_pos (by simp [hi, pr, hc])]
        · rw [if_neg (by simpa using hc)]
          have hc' : decide ((pr p).2 ≤ (pr q).2 ∧ (pr p).1 ≤ (pr q).1 ∧ (pr q).1 ≤ (pr p).1 + sz (pr p).2 - 1) = false := decide_eq_false hc
          rw [hc', Bool.false_or]
          by_cases hn : p.f1 > 0
          · rw [if_pos hn, impl_Prefix_sibling_is hgp, kz]
            have hn' : decide (0 < (pr p).2) = true := decide_eq_true hn
            have hi' : (!decide (i = pre.length)) = true := by simp [hi]
            rw [hn', hi', kt, kt]
            have hsw : (sib p.f0 p.f1 == q.f0 && p.f1 == q.f1) = ((pr q).1 == sib (pr p).1 (pr p).2 && (pr q).2 == (pr p).2) := by
              simp only [pr]
              rw [Bool.beq_comm (a := q.f0), Bool.beq_comm (a := q.f1)]
            simp only [hsw]
          · rw [if_neg hn]
            have hn' : decide (0 < (pr p).2) = false := decide_eq_false hn
            rw [hn', ki, Bool.and_false, if_neg (by simp)]
    have hb : badAt i (pr p) pre.length ((q :: rest).map pr) = ((!decide (i = pre.length) && (decide ((pr p).2 ≤ (pr q).2 ∧ (pr p).1 ≤ (pr q).1 ∧ (pr q).1 ≤ (pr p).1 + sz (pr p).2 - 1) || (decide (0 < (pr p).2) && ((pr q).1 == sib (pr p).1 (pr p).2 && (pr q).2 == (pr p).2)))) || badAt i (pr p) (pre.length + 1) (rest.map pr)) := rfl
    generalize (!decide (i = pre.length) && (decide ((pr p).2 ≤ (pr q).2 ∧ (pr p).1 ≤ (pr q).1 ∧ (pr q).1 ≤ (pr p).1 + sz (pr p).2 - 1) || (decide (0 < (pr p).2) && ((pr q).1 == sib (pr p).1 (pr p).2 && (pr q).2 == (pr p).2)))) = B at one hb
    rw [hb]
    cases B with
    | true =>
      refine ⟨fun _ => Ev.step (f := fun _ => some false) (fun k => by rw [one]; simp) (Ev.now _), fun h => by simp at h⟩
    | false =>
      simp only [Bool.false_or]
      exact ⟨fun h => Ev.step (f := fun k => impl_GoodSet.l1 k l (i : Int) x15 x16 x17 l (l.length : Int) ((pre ++ [q]).length : Int) p.f0 p.f1) (fun k => by rw [one]; simp) (by rw [hlen]; exact ih1 h),
        fun h r hr => Ev.step (f := fun k => impl_GoodSet.l1 k l (i : Int) x15 x16 x17 l (l.length : Int) ((pre ++ [q]).length : Int) p.f0 p.f1) (fun k => by rw [one]; simp) (by rw [hlen]; exact ih2 h r hr)⟩
theorem impl_GoodSet_is (l : List S45) (hl : l.length ≤ 1048576) : Ev (fun k => impl_GoodSet.f k l) (goodSet (l.map pr)) := by
  have outer : (∀ p, p ∈ l → good p.f0 p.f1 = true) → ∀ (rest pre : List S45), l = pre ++ rest → Ev (fun k => impl_GoodSet.l0 k l l (l.length : Int) (pre.length : Int)) (outI (l.map pr) pre.length (rest.map pr)) := by
    intro hg rest
    induction rest with
    | nil =>
      intro pre e
      refine Ev.step (f := fun _ => some true) (fun k => ?_) (Ev.now _)
      simp only [impl_GoodSet.l0]
      rw [if_neg (by rw [e]; simp)]
    | cons p rest ih =>
      intro pre e
      have hih := ih (pre ++ [p]) (by rw [e]; simp)
      have h1 : rd_T45 l (pre.length : Int) = p := by rw [e]; exact rdm_Prefix _ _ _
      have hw : wrap64 ((pre.length : Int) + 1) = ((pre ++ [p]).length : Int) := wrap_mid (rest := rest) (by rw [← e]; simp only [maxLen]; omega)
      have hlt : (pre.length : Int) < (l.length : Int) := by rw [e]; exact lt_mid _ _ _
      obtain ⟨i1, i2⟩ := impl_GoodSet_in hl hg p (by rw [e]; simp) pre.length l (l.length : Int) (pre.length : Int) l [] rfl
      refine Ev.step (f := fun k => impl_GoodSet.l1 k l (pre.length : Int) l (l.length : Int) (pre.length : Int) l (l.length : Int) 0 p.f0 p.f1) (fun k => ?_) ?_
      · simp only [impl_GoodSet.l0]
        rw [if_pos hlt, if_pos (len_nn _), if_pos hlt, h1]
      · simp only [kj, outI]
        simp only [List.length_nil] at i1 i2
        cases hb : badAt pre.length (pr p) 0 (l.map pr) with
        | true => simpa using i1 hb
        | false =>
          have := i2 hb _ (by rw [hw]; exact hih)
          simpa using this
  unfold goodSet
  rw [ke]
  by_cases h64 : (l.length : Int) > 64
  · have h' : ¬ l.length ≤ 64 := by omega
    simp only [h', decide_false, ki]
    refine ⟨1, fun k hk => ?_⟩
    obtain ⟨k, rfl⟩ : ∃ m, k = m + 1 := ⟨k - 1, by omega⟩
    simp only [impl_GoodSet.f]
    rw [if_pos h64]
    simp [impl_GoodSet.j0]
  · have h' : l.length ≤ 64 := by omega
    simp only [h', decide_true, kt]
    cases hr : rising (l.map pr) with
    | false =>
      refine ⟨l.length + 5, fun k hk => ?_⟩
      simp only [impl_GoodSet.f]
      rw [if_neg h64, impl_areRising_is k l hl (by omega), kz, hr]
      obtain ⟨k, rfl⟩ : ∃ m, k = m + 1 := ⟨k - 1, by omega⟩
      simp [impl_GoodSet.j0]
    | true =>
      have hg : ∀ p, p ∈ l → good p.f0 p.f1 = true := fun p hp => rising_good hr (pr p) (kq.2 ⟨p, hp, rfl⟩)
      obtain ⟨K, hK⟩ := outer hg l [] rfl
      refine ⟨K + l.length + 6, fun k hk => ?_⟩
      simp only [impl_GoodSet.f]
      rw [if_neg h64, impl_areRising_is k l hl (by omega), kz, hr]
      obtain ⟨k, rfl⟩ : ∃ m, k = m + 1 := ⟨k - 1, by omega⟩
      simp only [impl_GoodSet.j0]
      rw [if_neg (by simp)]
      have := hK k (by omega)
      simpa using this
theorem impl_arePrefixes_is (k : Nat) (l : List S45) (hl : l.length ≤ 1048576) (hk : l.length < k) : impl_arePrefixes.f k l = some (decide (l.length ≤ 64) && (l.map pr).all (fun p => good p.1 p.2)) := by
  unfold impl_arePrefixes.f slices_ContainsFunc_impl_Prefix_impl_Prefix.f slices_IndexFunc_impl_Prefix_impl_Prefix.f
  rw [any_gen (fun k i => slices_IndexFunc_impl_Prefix_impl_Prefix.l0 k l (l.length : Int) i) l (fun p => !good p.f0 p.f1) (fun k => by
      show slices_IndexFunc_impl_Prefix_impl_Prefix.l0 (k + 1) l (l.length : Int) (l.length : Int) = _
      rw [slices_IndexFunc_impl_Prefix_impl_Prefix.l0, if_neg (not_lt_end l)]) (fun k pre a rest e => by
      show slices_IndexFunc_impl_Prefix_impl_Prefix.l0 (k + 1) l (l.length : Int) (pre.length : Int) = _
      have h1 : rd_T45 l (pre.length : Int) = a := by rw [e]; exact rdm_Prefix _ _ _
      rw [slices_IndexFunc_impl_Prefix_impl_Prefix.l0, if_pos (by rw [e]; exact lt_mid _ _ _), if_pos (len_nn _), if_pos (by rw [e]; exact lt_mid _ _ _), h1]
      unfold impl_arePrefixes_1.f
      rw [impl_GoodPrefix_is, kz, kz, wrap_mid (rest := rest) (by rw [← e]; simp only [maxLen]; omega)]) k hk]
  have e64 : ((l.length : Int) ≤ 64) ↔ l.length ≤ 64 := by omega
  by_cases h : (l.length : Int) ≤ 64
  · rw [if_pos h, kz]
    have h2 := e64.1 h
    simp only [h2, decide_true, kt, List.all_map, Function.comp_def, pr]
    rw [List.not_any_eq_all_not]
    simp
  · rw [if_neg h]
    have h2 : ¬ l.length ≤ 64 := fun h' => h (e64.2 h')
    simp [h2]
def setHas (l : List Pr) (x : Int) : Bool := l.any (fun p => decide (p.1 ≤ x ∧ x ≤ p.1 + sz p.2 - 1))
def setHasR (l : List Pr) (x : Int) : Bool × Bool := if (decide (l.length ≤ 64) && l.all (fun p => good p.1 p.2)) = true ∧ (0 ≤ x ∧ x ≤ 4294967295) then (setHas l x, true) else (false, false)
theorem impl_SetHas_is (k : Nat) (l : List S45) (x : Int) (hl : l.length ≤ 1048576) (hk : l.length < k) : impl_SetHas.f k l x = some (setHasR (l.map pr) x) := by
  unfold impl_SetHas.f setHasR
  rw [impl_arePrefixes_is k l hl hk, kz]
  have el : (l.map pr).length = l.length := ke ..
  rw [el]
  by_cases hA : (decide (l.length ≤ 64) && (l.map pr).all (fun p => good p.1 p.2)) = true
  · rw [if_pos hA, impl_isAddr_is, kz]
    by_cases hx : 0 ≤ x ∧ x ≤ 4294967295
    · rw [if_pos (decide_eq_true hx), if_pos ⟨hA, hx⟩]
      have hg : ∀ p, p ∈ l → good p.f0 p.f1 = true := by
        intro p hp
        simp only [kb, kn, kq] at hA
        exact hA.2 (pr p) ⟨p, hp, rfl⟩
      have key : impl_SetHas_ct.f k l x = some (setHas (l.map pr) x) := by
        unfold impl_SetHas_ct.f impl_SetHas_ix.f
        rw [any_gen (fun k i => impl_SetHas_ix.l0 x k l (l.length : Int) i) l (fun p => decide (p.f0 ≤ x ∧ x ≤ p.f0 + sz p.f1 - 1)) (fun k => by
          show impl_SetHas_ix.l0 x (k + 1) l (l.length : Int) (l.length : Int) = _
          rw [impl_SetHas_ix.l0, if_neg (not_lt_end l)]) (fun k pre a rest e => by
          show impl_SetHas_ix.l0 x (k + 1) l (l.length : Int) (pre.length : Int) = _
          have h1 : rd_T45 l (pre.length : Int) = a := by rw [e]; exact rdm_Prefix _ _ _
          rw [impl_SetHas_ix.l0, if_pos (by rw [e]; exact lt_mid _ _ _), if_pos (len_nn _), if_pos (by rw [e]; exact lt_mid _ _ _), h1]
          unfold impl_SetHas_1.f
          rw [impl_Prefix_has_is x (hg a (by rw [e]; simp)), kz, wrap_mid (rest := rest) (by rw [← e]; simp only [maxLen]; omega)]) k hk]
        unfold setHas
        rw [List.any_map]
        rfl
      rw [key, kz]
    · rw [if_neg (by simpa using hx), if_neg (fun h => hx h.2)]
  · rw [if_neg hA, if_neg (fun h => hA h.1)]
theorem mx_max (a b : Int) : mx a b = max a b := by unfold mx; split <;> omega
theorem spansOf_l0 (l : List S45) (hn : l.length ≤ 1048576) (hg : ∀ p, p ∈ l → good p.f0 p.f1 = true) : ∀ (rest pre : List S45) (out : List S74), l = pre ++ rest → out.length ≤ pre.length → (∀ s, s ∈ out → 0 ≤ s.f0 ∧ 0 ≤ s.f1 ∧ s.f1 ≤ 4294967295) →
    ∃ r : List S74, r.map spn = (rest.map pr).foldl rowPut (out.map spn) ∧ r.length ≤ l.length ∧ (∀ s, s ∈ r → 0 ≤ s.f0 ∧ 0 ≤ s.f1 ∧ s.f1 ≤ 4294967295) ∧ Ev (fun k => impl_spansOf.l0 k out l (l.length : Int) (pre.length : Int)) r := by
  intro rest
  induction rest with
  | nil =>
    intro pre out e ho hb
    refine ⟨out, rfl, by rw [e]; simpa using ho, hb, ?_⟩
    refine Ev.step (f := fun _ => some out) (fun k => ?_) (Ev.now out)
    simp only [impl_spansOf.l0]
    rw [if_neg (by rw [e]; simp)]
  | cons a rest ih =>
    intro pre out e ho hb
    have hga := hg a (by rw [e]; simp)
    have hlast : impl_Prefix_end.f a.f0 a.f1 = some (last (pr a)) := impl_Prefix_end_is hga
    obtain ⟨g1, g2, g3, g4, _⟩ := good_iff.1 hga
    have hszp := sz_pos a.f1
    have hle : last (pr a) ≤ 4294967295 := good_end hga
    have hl0 : a.f0 ≤ last (pr a) := fst_le_last (pr a)
    have hlen : pre.length < l.length := by rw [e]; simp
    have h1 : rd_T45 l (pre.length : Int) = a := by rw [e]; exact rdm_Prefix _ _ _
    have hw : wrap64 ((pre.length : Int) + 1) = ((pre ++ [a]).length : Int) := by rw [wrap_id (by omega) (by omega)]; simp

    have next : ∀ out' : List S74, out'.map spn = rowPut (out.map spn) (pr a) → out'.length ≤ pre.length + 1 → (∀ s, s ∈ out' → 0 ≤ s.f0 ∧ 0 ≤ s.f1 ∧ s.f1 ≤ 4294967295) →
        (∃ f : Nat → Option (List S74), (∀ k, impl_spansOf.l0 (k + 1) out l (l.length : Int) (pre.length : Int) = f k) ∧ ∀ k, f (k + 1) = impl_spansOf.l0 k out' l (l.length : Int) ((pre ++ [a]).length : Int)) →
        ∃ r : List S74, r.map spn = ((a :: rest).map pr).foldl rowPut (out.map spn) ∧ r.length ≤ l.length ∧ (∀ s, s ∈ r → 0 ≤ s.f0 ∧ 0 ≤ s.f1 ∧ s.f1 ≤ 4294967295) ∧ Ev (fun k => impl_spansOf.l0 k out l (l.length : Int) (pre.length : Int)) r := by
      rintro out' ho' hl' hb' ⟨f, hf1, hf2⟩
      obtain ⟨r, hr, hrl, hrb, E⟩ := ih (pre ++ [a]) out' (by rw [e]; simp) (by simpa using hl') hb'
      refine ⟨r, by rw [hr, ho']; rfl, hrl, hrb, ?_⟩
      exact Ev.step (f := f) hf1 (Ev.step (f := fun k => impl_spansOf.l0 k out' l (l.length : Int) ((pre ++ [a]).length : Int)) hf2 E)
    rcases List.eq_nil_or_concat out with rfl | ⟨init, s, rfl⟩
    · refine next [⟨a.f0, last (pr a)⟩] rfl (by simp) (fun s hs => by rcases kk.1 hs with rfl; exact ⟨g3, by show 0 ≤ last (pr a); omega, hle⟩) ?_
      refine ⟨fun k => impl_spansOf.j1 k [] (wrap64 ((([] : List S74).length : Int) - 1)) l (l.length : Int) (pre.length : Int) false a.f0 a.f1, fun k => ?_, fun k => ?_⟩
      · simp only [impl_spansOf.l0]
        rw [if_pos (by omega), if_pos (len_nn _), if_pos (by omega), if_neg (by simp only [List.length_nil]; rw [wrap_id (by omega) (by omega)]; omega), h1]
      · simp only [impl_spansOf.j1]
        rw [if_neg (by simp), hlast, kz, if_pos (by simp), hw]
        rfl
    · rw [List.concat_eq_append] at *
      have hbs := hb s (by simp)
      have hol : init.length + 1 ≤ pre.length := by simpa using ho
      have hw2 : wrap64 (((init ++ [s]).length : Int) - 1) = (init.length : Int) := by
        rw [show ((init ++ [s]).length : Int) = (init.length : Int) + 1 by simp, wrap_id (by omega) (by omega)]; omega
      have h2 : rd_T74 (init ++ [s]) (init.length : Int) = s := rdm_Span init s []
      have hw3 : wrap64 (s.f1 + 1) = s.f1 + 1 := wrap_id (by omega) (by omega)
      have hin : (init.length : Int) < ((init ++ [s]).length : Int) := by simp; omega
      have hgl : (List.map spn (init ++ [s])).getLast? = some (spn s) := by simp
      by_cases hc : a.f0 ≤ s.f1 + 1
      · refine next (init ++ [⟨s.f0, max s.f1 (last (pr a))⟩]) ?_ (by simpa using Nat.le_succ_of_le hol) (fun t ht => ?_) ?_
        · unfold rowPut
          rw [hgl]
          dsimp only
          rw [if_pos (show (pr a).1 ≤ (spn s).2 + 1 from hc)]
          simp [spn]
        · rcases kg.1 ht with h3 | h3
          · exact hb t (kg.2 (.inl h3))
          · rcases kk.1 h3 with rfl
            refine ⟨hbs.1, ?_, ?_⟩
            · show 0 ≤ max s.f1 (last (pr a)); omega
            · show max s.f1 (last (pr a)) ≤ 4294967295; omega
        · refine ⟨fun k => impl_spansOf.j1 k (init ++ [s]) (init.length : Int) l (l.length : Int) (pre.length : Int) (decide (a.f0 ≤ s.f1 + 1)) a.f0 a.f1, fun k => ?_, fun k => ?_⟩
          · simp only [impl_spansOf.l0]
            rw [if_pos (by omega), if_pos (len_nn _), if_pos (by omega), hw2, if_pos (len_nn _), if_pos (len_nn _), if_pos hin, h1, h2, hw3]
          · simp only [impl_spansOf.j1]
            rw [if_pos (by simpa using hc), if_pos (len_nn _), if_pos hin, hlast, kz, h2, hw, mx_max, set_mid]
      · refine next (init ++ [s] ++ [⟨a.f0, last (pr a)⟩]) ?_ (by simp; omega) (fun t ht => ?_) ?_
        · unfold rowPut
          rw [hgl]
          dsimp only
          rw [if_neg (show ¬ (pr a).1 ≤ (spn s).2 + 1 from hc), kh]
          rfl
        · rcases kg.1 ht with h3 | h3
          · exact hb t h3
          · rcases kk.1 h3 with rfl
            exact ⟨g3, by show 0 ≤ last (pr a); omega, hle⟩
        · refine ⟨fun k => impl_spansOf.j1 k (init ++ [s]) (init.length : Int) l (l.length : Int) (pre.length : Int) (decide (a.f0 ≤ s.f1 + 1)) a.f0 a.f1, fun k => ?_, fun k => ?_⟩
          · simp only [impl_spansOf.l0]
            rw [if_pos (by omega), if_pos (len_nn _), if_pos (by omega), hw2, if_pos (len_nn _), if_pos (len_nn _), if_pos hin, h1, h2, hw3]
          · simp only [impl_spansOf.j1]
            rw [if_neg (by simpa using hc), hlast, kz, if_pos (show (init ++ [s]).length < 8796093022208 by omega), hw]
theorem sv_sort_pairs (l : List (Int × Int)) : (sv_sort l).Pairwise (fun p q => p.1 ≤ q.1) := by
  have h := List.pairwise_mergeSort (le := fun x y : Int × Int => !(ltOf sv_cf) y x) (fun a b c h1 h2 => by
    have := sv_swo.ntrans c b a (by simpa using h2) (by simpa using h1)
    simpa using this) (fun a b => by
    cases h1 : ltOf sv_cf b a
    · simp
    · cases h2 : ltOf sv_cf a b
      · simp
      · have := sv_swo.trans a b a h2 h1
        rw [sv_swo.irrefl] at this; cases this) l
  refine h.imp (fun {a b} hab => ?_)
  have h1 : ltOf sv_cf b a = false := by simpa using hab
  rw [sv_lt] at h1
  simp only [decide_eq_false_iff_not] at h1
  omega
theorem spansOf_is (l : List S45) (hn : l.length ≤ 1048576) (hg : ∀ p, p ∈ l → good p.f0 p.f1 = true) :
    ∃ r : List S74, Gapped (r.map spn) ∧ (∀ x, inS (r.map spn) x ↔ inL (l.map pr) x) ∧ r.length ≤ l.length ∧ (∀ s, s ∈ r → 0 ≤ s.f0 ∧ 0 ≤ s.f1 ∧ s.f1 ≤ 4294967295) ∧ Ev (fun k => impl_spansOf.f k l) r := by
  have hperm : (sv_sort (l.map sv_p)).Perm (l.map sv_p) := List.mergeSort_perm _ _
  have hmem : ∀ p, p ∈ (sv_sort (l.map sv_p)).map sv_s ↔ p ∈ l := fun p => by
    rw [kq]
    constructor
    · rintro ⟨q, hq, rfl⟩
      obtain ⟨t, ht, rfl⟩ := kq.1 (hperm.mem_iff.1 hq)
      exact ht
    · intro hp
      exact ⟨sv_p p, hperm.mem_iff.2 (kq.2 ⟨p, hp, rfl⟩), rfl⟩
  have hlen : ((sv_sort (l.map sv_p)).map sv_s).length = l.length := by rw [ke, hperm.length_eq, ke]
  obtain ⟨r, hr, hrl, hrb, E⟩ := spansOf_l0 ((sv_sort (l.map sv_p)).map sv_s) (by omega) (fun p hp => hg p ((hmem p).1 hp)) ((sv_sort (l.map sv_p)).map sv_s) [] [] rfl (by simp) (by simp)
  have hpairs : (((sv_sort (l.map sv_p)).map sv_s).map pr) = sv_sort (l.map sv_p) := by
    rw [List.map_map]
    exact List.map_id _
  rw [hpairs] at hr
  obtain ⟨b', hI⟩ := rows_fold (sv_sort (l.map sv_p)) [] _ (-1) (rows_start (-1)) (sv_sort_pairs _) (fun p hp => by
    obtain ⟨t, ht, rfl⟩ := kq.1 (hperm.mem_iff.1 hp)
    obtain ⟨_, _, g3, _, _⟩ := good_iff.1 (hg t ht)
    show -1 ≤ t.f0
    omega)
  have hr' : r.map spn = (sv_sort (l.map sv_p)).foldl rowPut [] := hr
  refine ⟨r, by rw [hr']; exact hI.gap, fun x => ?_, by omega, hrb, ?_⟩
  · rw [hr', hI.eq x]
    unfold inL
    constructor
    · rintro (h | ⟨p, hp, h⟩)
      · exact h.elim
      · exact ⟨p, hperm.mem_iff.1 hp, h⟩
    · rintro ⟨p, hp, h⟩
      exact .inr ⟨p, hperm.mem_iff.2 hp, h⟩
  · refine Ev.congr (f := fun k => impl_spansOf.l0 k [] ((sv_sort (l.map sv_p)).map sv_s) (((sv_sort (l.map sv_p)).map sv_s).length : Int) (([] : List S45).length : Int)) (fun k => ?_) E
    unfold impl_spansOf.f slices_SortedFunc.f
    rw [if_pos (by omega), kz]
    rfl
theorem l3Put_l2 (p : Pr) : ∀ (rest pre : List S45), (pre ++ rest).length ≤ 1048576 → (rest.map pr).Pairwise (fun a b => a.1 ≤ b.1) → (∀ q, q ∈ pre → q.f0 ≤ p.1) →
    ∃ l1 l2, pre ++ rest = l1 ++ l2 ∧ (∀ q, q ∈ l1 → q.f0 ≤ p.1) ∧ (∀ q, q ∈ l2 → p.1 ≤ q.f0) ∧ ∃ K, ∀ k, K ≤ k → spec_l3Put.l2 k (pre ++ rest) (pre.length : Int) p.1 p.2 = some (l1 ++ ⟨p.1, p.2⟩ :: l2) := by
  have fin : ∀ (pre rest : List S45), (pre ++ rest).length ≤ 1048576 → (if (pre.length : Int) ≤ ((pre ++ rest).length : Int) then ((some ((pre ++ rest).take (pre.length : Int).toNat : List S45)).bind fun y176 => (if ([] : List S45).length + y176.length < 8796093022208 then ((some (([] : List S45) ++ y176 : List S45)).bind fun y180 => (if y180.length < 8796093022208 then ((some (y180 ++ [(⟨p.1, p.2⟩ : S45)] : List S45)).bind fun y183 => ((some ((pre ++ rest).drop (pre.length : Int).toNat : List S45)).bind fun y186 => (if y183.length + y186.length < 8796093022208 then (some (y183 ++ y186)) else (none)))) else (none))) else (none))) else (none)) = some (pre ++ ⟨p.1, p.2⟩ :: rest) := by
    intro pre rest h
    have h' : pre.length + rest.length ≤ 1048576 := by simpa using h
    rw [if_pos (by simp; omega), Int.toNat_natCast, List.take_left, List.drop_left]
    simp only [kz, kx]
    rw [if_pos (by simp; omega), if_pos (by omega), if_pos (by simp; omega)]
    simp
  intro rest
  induction rest with
  | nil =>
    intro pre h hs hp
    refine ⟨pre, [], rfl, hp, by simp, 1, fun k hk => ?_⟩
    obtain ⟨k, rfl⟩ : ∃ k', k = k' + 1 := ⟨k - 1, by omega⟩
    rw [spec_l3Put.l2, if_neg (by simp), if_pos (len_nn _)]
    exact fin pre [] h
  | cons q rest ih =>
    intro pre h hs hp
    have h1 : rd_T45 (pre ++ q :: rest) (pre.length : Int) = q := rdm_Prefix _ _ _
    have h' : pre.length + (rest.length + 1) ≤ 1048576 := by simpa using h
    obtain ⟨s1, s2⟩ := List.pairwise_cons.1 hs
    by_cases hc : cmpP q.f0 q.f1 p.1 p.2 < 0
    · have hq : q.f0 ≤ p.1 := by unfold cmpP at hc; split at hc <;> (try split at hc) <;> omega
      obtain ⟨l1, l2, e, a1, a2, K, hK⟩ := ih (pre ++ [q]) (by simpa using h) s2 (fun t ht => by
        rcases kg.1 ht with h2 | h2
        · exact hp t h2
        · rcases kk.1 h2 with rfl; exact hq)
      have e2 : pre ++ q :: rest = pre ++ [q] ++ rest := by simp
      refine ⟨l1, l2, by rw [e2, e], a1, a2, K + 2, fun k hk => ?_⟩
      obtain ⟨k, rfl⟩ : ∃ k', k = k' + 1 + 1 := ⟨k - 2, by omega⟩
      rw [spec_l3Put.l2, if_pos (lt_mid _ _ _), if_pos (len_nn _), h1, spec_l1Compare_is, kz, if_pos hc, wrap_id (by omega) (by omega), e2, show (pre.length : Int) + 1 = ((pre ++ [q]).length : Int) by simp]
      exact hK _ (by omega)
    · have hq : p.1 ≤ q.f0 := by unfold cmpP at hc; split at hc <;> (try split at hc) <;> omega
      refine ⟨pre, q :: rest, rfl, hp, fun t ht => ?_, 2, fun k hk => ?_⟩
      · rcases kd.1 ht with rfl | h2
        · exact hq
        · exact Int.le_trans hq (s1 (pr t) (kq.2 ⟨t, h2, rfl⟩))
      · obtain ⟨k, rfl⟩ : ∃ k', k = k' + 1 + 1 := ⟨k - 2, by omega⟩
        rw [spec_l3Put.l2, if_pos (lt_mid _ _ _), if_pos (len_nn _), h1, spec_l1Compare_is, kz, if_neg hc]
        exact fin pre (q :: rest) h
def kcov (p : Pr) (q : S45) : Bool := decide (p.2 ≤ q.f1 ∧ p.1 ≤ q.f0 ∧ q.f0 ≤ p.1 + sz p.2 - 1)
def ksib (p : Pr) (q : S45) : Bool := decide (0 < p.2) && (q.f0 == sib p.1 p.2 && q.f1 == p.2)
theorem l3Put_l1 (p : Pr) (hp : good p.1 p.2 = true) (l : List S45) (hl : l.length ≤ 1048576) (hg : ∀ q, q ∈ l → good q.f0 q.f1 = true) (k : Nat) : ∀ (rest pre x7 : List S45) (x8 : Bool), l = pre ++ rest → x7.length ≤ pre.length →
    spec_l3Put.l1 (k + rest.length + 1) x7 x8 l (l.length : Int) (pre.length : Int) p.1 p.2 = if (x8 || rest.any (fun q => !kcov p q && ksib p q)) = true then ((spec_l1Parent.f p.1 p.2).bind fun bt => ((spec_l3Put.f k (x7 ++ rest.filter (fun q => !kcov p q && !ksib p q)) bt.1 bt.2).bind fun t => (some t))) else spec_l3Put.l2 k (x7 ++ rest.filter (fun q => !kcov p q && !ksib p q)) 0 p.1 p.2 := by
  intro rest
  induction rest with
  | nil =>
    intro pre x7 x8 e h7
    rw [spec_l3Put.l1, if_neg (by rw [e]; simp)]
    simp
  | cons q rest ih =>
    intro pre x7 x8 e h7
    have hq := hg q (by rw [e]; simp)
    have hlen : pre.length < l.length := by rw [e]; simp
    have h1 : rd_T45 l (pre.length : Int) = q := by rw [e]; exact rdm_Prefix _ _ _
    have hw : wrap64 ((pre.length : Int) + 1) = ((pre ++ [q]).length : Int) := by rw [wrap_id (by omega) (by omega)]; simp
    have hk : k + (q :: rest).length + 1 = (k + rest.length + 1) + 1 := by simp; omega
    have e2 : l = (pre ++ [q]) ++ rest := by rw [e]; simp
    rw [hk, spec_l3Put.l1, if_pos (by omega), if_pos (len_nn _), if_pos (by omega), h1, spec_l1Covers_is hp hq, kz, hw, show decide (p.2 ≤ q.f1 ∧ p.1 ≤ q.f0 ∧ q.f0 ≤ p.1 + sz p.2 - 1) = kcov p q from rfl]
    by_cases hc : kcov p q = true
    · rw [if_pos hc, ih (pre ++ [q]) x7 x8 e2 (by simp; omega)]
      simp [hc]
    · have hc' : kcov p q = false := by simpa using hc
      rw [if_neg hc]
      have push : (if x7.length < 8796093022208 then (spec_l3Put.l1 (k + rest.length + 1) (x7 ++ [(⟨q.f0, q.f1⟩ : S45)]) x8 l (l.length : Int) ((pre ++ [q]).length : Int) p.1 p.2) else (none)) = if (x8 || rest.any (fun q => !kcov p q && ksib p q)) = true then ((spec_l1Parent.f p.1 p.2).bind fun bt => ((spec_l3Put.f k (x7 ++ q :: rest.filter (fun q => !kcov p q && !ksib p q)) bt.1 bt.2).bind fun t => (some t))) else spec_l3Put.l2 k (x7 ++ q :: rest.filter (fun q => !kcov p q && !ksib p q)) 0 p.1 p.2 := by
        rw [if_pos (by omega)]
        refine Eq.trans (ih (pre ++ [q]) (x7 ++ [q]) x8 e2 (by simp; omega)) ?_
        rw [show x7 ++ [q] ++ rest.filter (fun q => !kcov p q && !ksib p q) = x7 ++ q :: rest.filter (fun q => !kcov p q && !ksib p q) by simp]
      by_cases hn : p.2 > 0
      · rw [if_pos hn, spec_l1Sibling_is hp hn, kz]
        by_cases hs : (q.f0 == sib p.1 p.2 && q.f1 == p.2) = true
        · have hks : ksib p q = true := by unfold ksib; rw [hs]; simp; omega
          rw [if_pos hs, ih (pre ++ [q]) x7 true e2 (by simp; omega)]
          simp [hc', hks]
        · have hks : ksib p q = false := by unfold ksib; rw [Bool.eq_false_iff.2 hs]; simp
          rw [if_neg hs, push]
          simp [hc', hks]
      · have hks : ksib p q = false := by unfold ksib; simp; omega
        rw [if_neg hn, push]
        simp [hc', hks]
theorem l3Put_l0 (p : Pr) (hp : good p.1 p.2 = true) (l : List S45) (hl : l.length ≤ 1048576) (hg : ∀ q, q ∈ l → good q.f0 q.f1 = true) (k : Nat) : ∀ (rest pre : List S45), l = pre ++ rest →
    spec_l3Put.l0 (k + rest.length + 1) l l (l.length : Int) (pre.length : Int) p.1 p.2 = if rest.any (fun q => decide (cov (pr q) p)) = true then some l else spec_l3Put.l1 k [] false l (l.length : Int) 0 p.1 p.2 := by
  intro rest
  induction rest with
  | nil =>
    intro pre e
    rw [spec_l3Put.l0, if_neg (by rw [e]; simp)]
    simp
  | cons q rest ih =>
    intro pre e
    have hq := hg q (by rw [e]; simp)
    have hlen : pre.length < l.length := by rw [e]; simp
    have h1 : rd_T45 l (pre.length : Int) = q := by rw [e]; exact rdm_Prefix _ _ _
    have hw : wrap64 ((pre.length : Int) + 1) = ((pre ++ [q]).length : Int) := by rw [wrap_id (by omega) (by omega)]; simp
    have hk : k + (q :: rest).length + 1 = (k + rest.length + 1) + 1 := by simp; omega
    rw [hk, spec_l3Put.l0, if_pos (by omega), if_pos (len_nn _), if_pos (by omega), h1, spec_l1Covers_is hq hp, kz, hw]
    by_cases hc : q.f1 ≤ p.2 ∧ q.f0 ≤ p.1 ∧ p.1 ≤ q.f0 + sz q.f1 - 1
    · have hc2 : cov (pr q) p := hc
      rw [if_pos (by simpa using hc)]
      simp [hc2]
    · have hc2 : ¬ cov (pr q) p := hc
      rw [if_neg (by simpa using hc), ih (pre ++ [q]) (by rw [e]; simp)]
      simp [hc2]
theorem kcov_iff (p : Pr) (q : S45) : kcov p q = true ↔ cov p (pr q) := by unfold kcov; simp only [decide_eq_true_eq]; exact Iff.rfl
theorem ksib_iff (p : Pr) (q : S45) : ksib p q = true ↔ (0 < p.2 ∧ pr q = sibp p) := by
  unfold ksib sibp pr
  simp only [kb, decide_eq_true_eq, beq_iff_eq, Prod.mk.injEq]
def kf (p x : Pr) : Bool := !decide (cov p x) && !decide (0 < p.2 ∧ x = sibp p)
theorem kf_false {p q : Pr} (h : kf p q = false) : cov p q ∨ q = sibp p := by
  unfold kf at h
  by_cases h1 : cov p q
  · exact .inl h1
  · by_cases h2 : 0 < p.2 ∧ q = sibp p
    · exact .inr h2.2
    · simp [h1, h2] at h
theorem kept_map (p : Pr) (l : List S45) : (l.filter (fun q => !kcov p q && !ksib p q)).map pr = (l.map pr).filter (kf p) := by
  rw [List.filter_map]
  congr 1
  apply List.filter_congr
  intro q hq
  show (!kcov p q && !ksib p q) = kf p (pr q)
  unfold kf
  have e1 : kcov p q = decide (cov p (pr q)) := by rw [kr, kcov_iff]; simp
  have e2 : ksib p q = decide (0 < p.2 ∧ pr q = sibp p) := by rw [kr, ksib_iff]; simp
  rw [e1, e2]
theorem l3Put_is : ∀ (n : Nat) (p : Pr) (l : List S45) (S : Int → Prop), p.2.toNat = n → good p.1 p.2 = true → Canon S (l.map pr) → l.length ≤ 1000000 →
    ∃ r : List S45, Canon (fun x => S x ∨ inP p x) (r.map pr) ∧ r.length ≤ l.length + 1 ∧ ∃ K, ∀ k, K ≤ k → spec_l3Put.f k l p.1 p.2 = some r := by
  intro n
  induction n using Nat.strongRecOn with
  | _ n ih =>
    intro p l S hn hp hC hl
    have hg : ∀ q, q ∈ l → good q.f0 q.f1 = true := fun q hq => (hC.mem.1 (kq.2 ⟨q, hq, rfl⟩)).1
    have h0 := l3Put_l0 p hp l (by omega) hg
    have h1 := l3Put_l1 p hp l (by omega) hg
    by_cases hcov : l.any (fun q => decide (cov (pr q) p)) = true
    · obtain ⟨q, hq, hc⟩ := ks.1 hcov
      refine ⟨l, put_in hC hp (kq.2 ⟨q, hq, rfl⟩) (by simpa using hc), by omega, l.length + 2, fun k hk => ?_⟩
      obtain ⟨k', rfl⟩ : ∃ k', k = k' + l.length + 1 + 1 := ⟨k - l.length - 2, by omega⟩
      rw [spec_l3Put.f]
      refine (h0 k' l [] rfl).trans ?_
      rw [if_pos hcov]
    · have hno : ∀ q, q ∈ l → ¬ cov (pr q) p := fun q hq hc => hcov (ks.2 ⟨q, hq, by simpa using hc⟩)
      have hstart : ∀ k, spec_l3Put.f (k + l.length + 1 + l.length + 1 + 1) l p.1 p.2 = spec_l3Put.l1 (k + l.length + 1) [] false l (l.length : Int) 0 p.1 p.2 := fun k => by
        rw [spec_l3Put.f]
        refine (h0 (k + l.length + 1) l [] rfl).trans ?_
        rw [if_neg hcov]
      have hR := put_rest hC (kf p)
      have hkl : (l.filter (fun q => !kcov p q && !ksib p q)).length ≤ l.length := List.length_filter_le _ _
      by_cases hs : 0 < p.2 ∧ sibp p ∈ l.map pr
      · obtain ⟨hn0, hsm⟩ := hs
        obtain ⟨q, hq, hqs⟩ := kq.1 hsm
        have hncov : ¬ cov p (sibp p) := by
          rintro ⟨_, a1, a2⟩
          have := parent_cases hp
          have h3 : last p = p.1 + sz p.2 - 1 := rfl
          have := sz_pos p.2
          omega
        have hany : l.any (fun q => !kcov p q && ksib p q) = true := ks.2 ⟨q, hq, by
          have e1 : kcov p q = false := by rw [Bool.eq_false_iff]; intro hk; exact hncov (hqs ▸ (kcov_iff p q).1 hk)
          rw [e1, (ksib_iff p q).2 ⟨hn0, hqs⟩]; rfl⟩
        obtain ⟨r, rC, rl, K, hK⟩ := ih (parent p).2.toNat (by show (p.2 - 1).toNat < n; omega) (parent p) (l.filter (fun q => !kcov p q && !ksib p q)) _ rfl (good_parent hp hn0) (by rw [kept_map]; exact hR) (by omega)
        refine ⟨r, rC.congr (fun x => put_pair hC hp hn0 hsm (fun q h => kf_false h) x), by omega, K + l.length + 1 + l.length + 1 + 1, fun k hk => ?_⟩
        obtain ⟨k', rfl⟩ : ∃ k', k = k' + l.length + 1 + l.length + 1 + 1 := ⟨k - (l.length + 1 + l.length + 1 + 1), by omega⟩
        rw [hstart]
        refine (h1 k' l [] [] false rfl (by simp)).trans ?_
        rw [if_pos (by simpa using hany), spec_l1Parent_is hp hn0, kz, kx]
        have hK' := hK k' (by omega)
        exact (congrArg (fun o : Option (List S45) => o.bind fun t => some t) hK').trans rfl
      · have hsn : 0 < p.2 → sibp p ∉ l.map pr := fun h3 h4 => hs ⟨h3, h4⟩
        have hany : ¬ l.any (fun q => !kcov p q && ksib p q) = true := fun h => by
          obtain ⟨q, hq, hb⟩ := ks.1 h
          have hb2 : ksib p q = true := (kb _ _ ▸ hb).2
          obtain ⟨b1, b2⟩ := (ksib_iff p q).1 hb2
          exact hs ⟨b1, b2 ▸ kq.2 ⟨q, hq, rfl⟩⟩
        have hsrt : ((l.filter (fun q => !kcov p q && !ksib p q)).map pr).Pairwise (fun a b => a.1 ≤ b.1) := by
          rw [kept_map]
          exact hR.srt.imp (fun {a b} hab => by have := fst_le_last a; omega)
        obtain ⟨l1, l2, e, a1, a2, K, hK⟩ := l3Put_l2 p (l.filter (fun q => !kcov p q && !ksib p q)) [] (by rw [kx]; omega) hsrt (by simp)
        rw [kx] at e hK
        have el : l1.length + l2.length ≤ l.length := by rw [← kv, ← e]; exact hkl
        refine ⟨l1 ++ ⟨p.1, p.2⟩ :: l2, ?_, by simp; omega, K + l.length + 1 + l.length + 1 + 1, fun k hk => ?_⟩
        · rw [kh, kj]
          exact put_new hC hp (fun q hq => by obtain ⟨t, ht, rfl⟩ := kq.1 hq; exact hno t ht) hsn (f := kf p) (fun q hq => by
            have : ¬ (0 < p.2 ∧ q = sibp p) := fun h => hsn h.1 (h.2 ▸ hq)
            unfold kf; simp [this]) (by rw [← kept_map, e, kh]) (fun q hq => by obtain ⟨t, ht, rfl⟩ := kq.1 hq; exact a1 t ht) (fun q hq => by obtain ⟨t, ht, rfl⟩ := kq.1 hq; exact a2 t ht)
        · obtain ⟨k', rfl⟩ : ∃ k', k = k' + l.length + 1 + l.length + 1 + 1 := ⟨k - (l.length + 1 + l.length + 1 + 1), by omega⟩
          rw [hstart]
          refine (h1 k' l [] [] false rfl (by simp)).trans ?_
          rw [if_neg (by simpa using hany), kx]
          exact hK k' (by omega)
theorem l3Fewest_l0 (l : List S45) (hl : l.length ≤ 1000) (hg : ∀ q, q ∈ l → good q.f0 q.f1 = true) : ∀ (rest pre out : List S45) (S : Int → Prop), l = pre ++ rest → Canon S (out.map pr) → out.length ≤ pre.length →
    ∃ r : List S45, Canon (fun x => S x ∨ inL (rest.map pr) x) (r.map pr) ∧ r.length ≤ l.length ∧ ∃ K, ∀ k, K ≤ k → spec_l3Fewest.l0 k out l (l.length : Int) (pre.length : Int) = some r := by
  intro rest
  induction rest with
  | nil =>
    intro pre out S e hC ho
    refine ⟨out, hC.congr (fun x => ⟨.inl, fun h => h.elim id (fun ⟨p, hp, _⟩ => by simp at hp)⟩), by rw [e]; simpa using ho, 1, fun k hk => ?_⟩
    obtain ⟨k, rfl⟩ : ∃ k', k = k' + 1 := ⟨k - 1, by omega⟩
    rw [spec_l3Fewest.l0, if_neg (by rw [e]; simp)]
  | cons q rest ih =>
    intro pre out S e hC ho
    have hlen : pre.length < l.length := by rw [e]; simp
    have h1 : rd_T45 l (pre.length : Int) = q := by rw [e]; exact rdm_Prefix _ _ _
    have hw : wrap64 ((pre.length : Int) + 1) = ((pre ++ [q]).length : Int) := by rw [wrap_id (by omega) (by omega)]; simp
    obtain ⟨r1, rC, rl, K1, hK1⟩ := l3Put_is _ (pr q) out S rfl (hg q (by rw [e]; simp)) hC (by omega)
    obtain ⟨r, rC2, rl2, K2, hK2⟩ := ih (pre ++ [q]) r1 _ (by rw [e]; simp) rC (by simp; omega)
    refine ⟨r, rC2.congr (fun x => ?_), rl2, K1 + K2 + 1, fun k hk => ?_⟩
    · unfold inL
      constructor
      · rintro ((h | h) | ⟨p, hp, h⟩)
        · exact .inl h
        · exact .inr ⟨pr q, by simp, h⟩
        · exact .inr ⟨p, by simp only [kj, kd]; exact .inr hp, h⟩
      · rintro (h | ⟨p, hp, h⟩)
        · exact .inl (.inl h)
        · rw [kj] at hp
          rcases kd.1 hp with rfl | hp
          · exact .inl (.inr h)
          · exact .inr ⟨p, hp, h⟩
    · obtain ⟨k, rfl⟩ : ∃ k', k = k' + 1 := ⟨k - 1, by omega⟩
      rw [spec_l3Fewest.l0, if_pos (by omega), if_pos (len_nn _), if_pos (by omega), h1, hw]
      have := hK1 k (by omega)
      rw [show spec_l3Put.f k out q.f0 q.f1 = some r1 from this, kz]
      exact hK2 k (by omega)
theorem spec_l3Fewest_is (l : List S45) (hl : l.length ≤ 1000) (hg : ∀ q, q ∈ l → good q.f0 q.f1 = true) : ∃ r : List S45, Canon (inL (l.map pr)) (r.map pr) ∧ r.length ≤ l.length ∧ ∃ K, ∀ k, K ≤ k → spec_l3Fewest.f k l = some r := by
  obtain ⟨r, rC, rl, K, hK⟩ := l3Fewest_l0 l hl hg l [] [] (fun _ => False) rfl ⟨by simp [Srt], fun p hp => by simp at hp, fun x hx => hx.elim⟩ (by simp)
  exact ⟨r, rC.congr (fun x => ⟨fun h => h.elim False.elim id, .inr⟩), rl, K, fun k hk => hK k hk⟩
def okL (l : List S45) : Bool := decide (l.length ≤ 64) && (l.map pr).all (fun p => good p.1 p.2)
theorem okL_facts {l : List S45} (h : okL l = true) : l.length ≤ 64 ∧ ∀ p, p ∈ l → good p.f0 p.f1 = true := by
  unfold okL at h
  rw [kb] at h
  refine ⟨of_decide_eq_true h.1, fun p hp => ?_⟩
  exact kn.1 h.2 (pr p) (kq.2 ⟨p, hp, rfl⟩)
theorem mn_min (a b : Int) : mn a b = min a b := by unfold mn; split <;> omega
def meetT (x : S74) (b : List S74) : List S74 := b.filterMap (fun y => if max x.f0 y.f0 ≤ min x.f1 y.f1 then some ⟨max x.f0 y.f0, min x.f1 y.f1⟩ else none)
theorem meetT_map (x : S74) : ∀ b : List S74, (meetT x b).map spn = meetOne (spn x) (b.map spn)
  | [] => rfl
  | y :: b => by
    have ih := meetT_map x b
    unfold meetT meetOne at ih ⊢
    rw [kj, kl, kl]
    by_cases h : max x.f0 y.f0 ≤ min x.f1 y.f1
    · have h' : max (spn x).1 (spn y).1 ≤ min (spn x).2 (spn y).2 := h
      rw [if_pos h, if_pos h']
      dsimp only
      rw [kj, ih]
      rfl
    · have h' : ¬ max (spn x).1 (spn y).1 ≤ min (spn x).2 (spn y).2 := h
      rw [if_neg h, if_neg h']
      exact ih
theorem meetT_len (x : S74) (b : List S74) : (meetT x b).length ≤ b.length := List.length_filterMap_le _ _
theorem meet_l1 (b : List S74) (hb : b.length ≤ 1048576) (x : S74) (a : List S74) (len i : Int) (k : Nat) : ∀ (rest pre out : List S74), b = pre ++ rest → out.length + rest.length ≤ 1000000000 →
    impl_meet.l1 (k + rest.length + 1) b out a len i b (b.length : Int) (pre.length : Int) x.f0 x.f1 = impl_meet.l0 k b (out ++ meetT x rest) a len (wrap64 (i + 1)) := by
  intro rest
  induction rest with
  | nil =>
    intro pre out e _
    rw [impl_meet.l1, if_neg (by rw [e]; simp)]
    simp [meetT]
  | cons y rest ih =>
    intro pre out e ho
    have hlen : pre.length < b.length := by rw [e]; simp
    have h1 : rd_T74 b (pre.length : Int) = y := by rw [e]; exact rdm_Span _ _ _
    have hw : wrap64 ((pre.length : Int) + 1) = ((pre ++ [y]).length : Int) := by rw [wrap_id (by omega) (by omega)]; simp
    have hk : k + (y :: rest).length + 1 = (k + rest.length + 1) + 1 := by simp; omega
    have e2 : b = (pre ++ [y]) ++ rest := by rw [e]; simp
    rw [ky] at ho
    rw [hk, impl_meet.l1, if_pos (by omega), if_pos (len_nn _), if_pos (by omega), h1, mx_max, mn_min, hw]
    unfold meetT
    rw [kl]
    by_cases hc : max x.f0 y.f0 ≤ min x.f1 y.f1
    · rw [if_pos hc, if_pos (by omega), if_pos hc]
      refine (ih (pre ++ [y]) (out ++ [⟨max x.f0 y.f0, min x.f1 y.f1⟩]) e2 (by simp; omega)).trans ?_
      unfold meetT
      simp
    · rw [if_neg hc, if_neg hc]
      exact ih (pre ++ [y]) out e2 (by omega)
theorem meet_l0 (a b : List S74) (ha : a.length ≤ 1000) (hb : b.length ≤ 1000) : ∀ (rest pre out : List S74), a = pre ++ rest → out.length + rest.length * b.length ≤ 100000000 → ∀ k,
    impl_meet.l0 (k + rest.length * (b.length + 2) + 1) b out a (a.length : Int) (pre.length : Int) = some (out ++ rest.flatMap (fun x => meetT x b)) := by
  intro rest
  induction rest with
  | nil =>
    intro pre out e _ k
    rw [impl_meet.l0, if_neg (by rw [e]; simp)]
    simp
  | cons x rest ih =>
    intro pre out e ho k
    have hlen : pre.length < a.length := by rw [e]; simp
    have h1 : rd_T74 a (pre.length : Int) = x := by rw [e]; exact rdm_Span _ _ _
    have hw : wrap64 ((pre.length : Int) + 1) = ((pre ++ [x]).length : Int) := by rw [wrap_id (by omega) (by omega)]; simp
    have hk : k + (x :: rest).length * (b.length + 2) + 1 = ((k + rest.length * (b.length + 2) + 1) + b.length + 1) + 1 := by rw [ky, Nat.succ_mul]; omega
    have e2 : a = (pre ++ [x]) ++ rest := by rw [e]; simp
    rw [ky, Nat.succ_mul] at ho
    rw [hk, impl_meet.l0, if_pos (by omega), if_pos (len_nn _), if_pos (by omega), h1]
    refine (meet_l1 b (by omega) x a (a.length : Int) (pre.length : Int) (k + rest.length * (b.length + 2) + 1) b [] out rfl (by omega)).trans ?_
    rw [hw]
    have := meetT_len x b
    refine (ih (pre ++ [x]) (out ++ meetT x b) e2 (by rw [kv]; omega) k).trans ?_
    rw [List.flatMap_cons, List.append_assoc]
theorem impl_meet_is (a b : List S74) (ha : a.length ≤ 1000) (hb : b.length ≤ 1000) : ∃ r : List S74, r.map spn = meetS (a.map spn) (b.map spn) ∧ r.length ≤ a.length * b.length ∧ ∃ K, ∀ k, K ≤ k → impl_meet.f k a b = some r := by
  have hm : a.length * b.length ≤ 1000 * 1000 := Nat.mul_le_mul ha hb
  have hmap : ∀ l : List S74, (l.flatMap (fun x => meetT x b)).map spn = meetS (l.map spn) (b.map spn) := by
    intro l
    induction l with
    | nil => rfl
    | cons x l ih =>
      unfold meetS at ih ⊢
      rw [List.flatMap_cons, kh, ih, meetT_map, kj, List.flatMap_cons]
  refine ⟨a.flatMap (fun x => meetT x b), hmap a, ?_, a.length * (b.length + 2) + 1, fun k hk => ?_⟩
  · have := meet_len (a.map spn) (b.map spn)
    rw [← hmap a, ke, ke, ke] at this
    exact this
  · obtain ⟨k', rfl⟩ : ∃ k', k = k' + a.length * (b.length + 2) + 1 := ⟨k - (a.length * (b.length + 2) + 1), by omega⟩
    unfold impl_meet.f
    refine (meet_l0 a b ha hb a [] [] rfl (by simp; omega) k').trans ?_
    simp
theorem meet_tail (a b : List S74) (ha : a.length ≤ 1000) (hb : b.length ≤ 1000) (ga : Gaps (a.map spn)) (gb : Gaps (b.map spn)) (hr : ∀ s, s ∈ a → 0 ≤ s.f0 ∧ s.f1 ≤ 4294967295) :
    ∃ q : List S45, Canon (fun x => inS (a.map spn) x ∧ inS (b.map spn) x) (q.map pr) ∧ ∃ K, ∀ k, K ≤ k → ∃ m, impl_meet.f k a b = some m ∧ impl_prefixesIn.f k m = some q := by
  obtain ⟨r, hr1, hr2, K1, E1⟩ := impl_meet_is a b ha hb
  have hm : a.length * b.length ≤ 1000 * 1000 := Nat.mul_le_mul ha hb
  have hgap : Gapped (r.map spn) := by rw [hr1]; exact meet_gapped ga gb
  have hbd : ∀ s, s ∈ r → 0 ≤ s.f0 ∧ s.f1 ≤ 4294967295 := fun s hs => by
    have h1 : spn s ∈ meetS (a.map spn) (b.map spn) := by rw [← hr1]; exact kq.2 ⟨s, hs, rfl⟩
    obtain ⟨x, hx, h2⟩ := List.mem_flatMap.1 h1
    obtain ⟨y, hy, hc, h3⟩ := mem_meetOne.1 h2
    obtain ⟨t, ht, rfl⟩ := kq.1 hx
    obtain ⟨b1, b2⟩ := hr t ht
    have e1 : s.f0 = max t.f0 y.1 := congrArg Prod.fst h3
    have e2 : s.f1 = min t.f1 y.2 := congrArg Prod.snd h3
    omega
  obtain ⟨rr, hR, K2, E2⟩ := prefixesIn_is r (by omega) hgap hbd
  refine ⟨rr.flatten, (RowsOf.canon hgap hR).congr (fun x => by rw [hr1]; exact meet_in _ _ x), K1 + K2, fun k hk => ⟨r, E1 k (by omega), E2 k (by omega)⟩⟩
theorem l1Covers_cov {p q : Pr} (hp : GoodP p) (hq : GoodP q) : spec_l1Covers.f p.1 p.2 q.1 q.2 = some (decide (cov p q)) := by
  rw [spec_l1Covers_is hp hq]
  exact congrArg some (decide_eq_decide.2 Iff.rfl)
theorem spec_MeetSets_l1 (x1 fa fb : List S45) (len i : Int) (hl : fb.length ≤ 1000) (hg : ∀ q, q ∈ fb → good q.f0 q.f1 = true) (p : Pr) (hp : GoodP p) : ∀ (rest pre out : List S45) (S : Int → Prop), fb = pre ++ rest → Canon S (out.map pr) → out.length + rest.length ≤ 1000000 →
    ∃ r : List S45, Canon (fun x => S x ∨ (inP p x ∧ inL (rest.map pr) x)) (r.map pr) ∧ r.length ≤ out.length + rest.length ∧ ∃ K, ∀ k, K ≤ k → spec_MeetSets.l1 (k + rest.length + 1) x1 out fa len i fb (fb.length : Int) (pre.length : Int) p.1 p.2 = spec_MeetSets.l0 k x1 r fa len (wrap64 (i + 1)) := by
  intro rest
  induction rest with
  | nil =>
    intro pre out S e hC ho
    refine ⟨out, hC.congr (fun x => ⟨.inl, fun h => h.elim id (fun ⟨_, t, ht, _⟩ => by simp at ht)⟩), by simp, 0, fun k hk => ?_⟩
    rw [spec_MeetSets.l1, if_neg (by rw [e]; simp)]
    rfl
  | cons q rest ih =>
    intro pre out S e hC ho
    have hq : GoodP (pr q) := hg q (by rw [e]; simp)
    have hlen : pre.length < fb.length := by rw [e]; simp
    have h1 : rd_T45 fb (pre.length : Int) = q := by rw [e]; exact rdm_Prefix _ _ _
    have hw : wrap64 ((pre.length : Int) + 1) = ((pre ++ [q]).length : Int) := by rw [wrap_id (by omega) (by omega)]; simp
    have e2 : fb = (pre ++ [q]) ++ rest := by rw [e]; simp
    rw [ky] at ho
    have hb := both_in hp hq
    have fin : ∀ (T : Int → Prop) (x : Int), ((S x ∨ T x) ∨ (inP p x ∧ inL (rest.map pr) x)) → (T x ↔ (inP p x ∧ inP (pr q) x)) → (S x ∨ (inP p x ∧ inL ((q :: rest).map pr) x)) := by
      rintro T x ((h | h) | ⟨h, t, ht, h2⟩) hT
      · exact .inl h
      · exact .inr ⟨(hT.1 h).1, pr q, by simp, (hT.1 h).2⟩
      · exact .inr ⟨h, t, by rw [kj]; exact ku _ ht, h2⟩
    have fin2 : ∀ (T : Int → Prop) (x : Int), (S x ∨ (inP p x ∧ inL ((q :: rest).map pr) x)) → (T x ↔ (inP p x ∧ inP (pr q) x)) → ((S x ∨ T x) ∨ (inP p x ∧ inL (rest.map pr) x)) := by
      rintro T x (h | ⟨h, t, ht, h2⟩) hT
      · exact .inl (.inl h)
      · rw [kj] at ht
        rcases kd.1 ht with rfl | ht
        · exact .inl (.inr (hT.2 ⟨h, h2⟩))
        · exact .inr ⟨h, t, ht, h2⟩
    by_cases c1 : cov p (pr q)
    · obtain ⟨r1, rC, rl, K1, hK1⟩ := l3Put_is _ (pr q) out S rfl hq hC (by omega)
      obtain ⟨r, rC2, rl2, K2, hK2⟩ := ih (pre ++ [q]) r1 _ e2 rC (by omega)
      refine ⟨r, rC2.congr (fun x => ?_), by rw [ky]; omega, K1 + K2, fun k hk => ?_⟩
      · have hT : inP (pr q) x ↔ (inP p x ∧ inP (pr q) x) := by rw [hb x, if_pos c1]
        exact ⟨fun h => fin _ x h hT, fun h => fin2 _ x h hT⟩
      · rw [show k + (q :: rest).length + 1 = (k + rest.length + 1) + 1 by simp; omega, spec_MeetSets.l1, if_pos (by omega), if_pos (len_nn _), if_pos (by omega), h1, show spec_l1Covers.f p.1 p.2 q.f0 q.f1 = some (decide (cov p (pr q))) from l1Covers_cov hp hq, kz, if_pos (decide_eq_true c1), show spec_l3Put.f (k + rest.length + 1) out q.f0 q.f1 = some r1 from hK1 _ (by omega), kz, hw]
        exact hK2 k (by omega)
    · have n1 : ¬ decide (cov p (pr q)) = true := fun h => c1 (of_decide_eq_true h)
      by_cases c2 : cov (pr q) p
      · obtain ⟨r1, rC, rl, K1, hK1⟩ := l3Put_is _ p out S rfl hp hC (by omega)
        obtain ⟨r, rC2, rl2, K2, hK2⟩ := ih (pre ++ [q]) r1 _ e2 rC (by omega)
        refine ⟨r, rC2.congr (fun x => ?_), by rw [ky]; omega, K1 + K2, fun k hk => ?_⟩
        · have hT : inP p x ↔ (inP p x ∧ inP (pr q) x) := by rw [hb x, if_neg c1, if_pos c2]
          exact ⟨fun h => fin _ x h hT, fun h => fin2 _ x h hT⟩
        · have n2 : decide (cov (pr q) p) = true := decide_eq_true c2
          rw [show k + (q :: rest).length + 1 = (k + rest.length + 1) + 1 by simp; omega, spec_MeetSets.l1, if_pos (by omega), if_pos (len_nn _), if_pos (by omega), h1, show spec_l1Covers.f p.1 p.2 q.f0 q.f1 = some (decide (cov p (pr q))) from l1Covers_cov hp hq, kz, if_neg n1, show spec_l1Covers.f q.f0 q.f1 p.1 p.2 = some (decide (cov (pr q) p)) from l1Covers_cov hq hp, kz, if_pos n2, show spec_l3Put.f (k + rest.length + 1) out p.1 p.2 = some r1 from hK1 _ (by omega), kz, hw]
          exact hK2 k (by omega)
      · obtain ⟨r, rC2, rl2, K2, hK2⟩ := ih (pre ++ [q]) out S e2 hC (by omega)
        refine ⟨r, rC2.congr (fun x => ?_), by rw [ky]; omega, K2, fun k hk => ?_⟩
        · have hT : False ↔ (inP p x ∧ inP (pr q) x) := by rw [hb x, if_neg c1, if_neg c2]
          constructor
          · intro h
            exact fin (fun _ => False) x (h.elim (fun h => .inl (.inl h)) .inr) hT
          · intro h
            rcases fin2 (fun _ => False) x h hT with (h | h) | h
            · exact .inl h
            · exact h.elim
            · exact .inr h
        · have n2 : ¬ decide (cov (pr q) p) = true := fun h => c2 (of_decide_eq_true h)
          rw [show k + (q :: rest).length + 1 = (k + rest.length + 1) + 1 by simp; omega, spec_MeetSets.l1, if_pos (by omega), if_pos (len_nn _), if_pos (by omega), h1, show spec_l1Covers.f p.1 p.2 q.f0 q.f1 = some (decide (cov p (pr q))) from l1Covers_cov hp hq, kz, if_neg n1, show spec_l1Covers.f q.f0 q.f1 p.1 p.2 = some (decide (cov (pr q) p)) from l1Covers_cov hq hp, kz, if_neg n2, hw]
          exact hK2 k hk
theorem spec_MeetSets_l0 (x1 fa fb : List S45) (hla : fa.length ≤ 1000) (hlb : fb.length ≤ 1000) (ga : ∀ q, q ∈ fa → good q.f0 q.f1 = true) (gb : ∀ q, q ∈ fb → good q.f0 q.f1 = true) (hF : ∃ K, ∀ k, K ≤ k → spec_l3Fewest.f k x1 = some fb) : ∀ (rest pre out : List S45) (S : Int → Prop), fa = pre ++ rest → Canon S (out.map pr) → out.length + rest.length * fb.length ≤ 1000000 →
    ∃ r : List S45, Canon (fun x => S x ∨ (inL (rest.map pr) x ∧ inL (fb.map pr) x)) (r.map pr) ∧ ∃ K, ∀ k, K ≤ k → spec_MeetSets.l0 k x1 out fa (fa.length : Int) (pre.length : Int) = if (r.length : Int) > 64 then some ([], false) else some (r, true) := by
  intro rest
  induction rest with
  | nil =>
    intro pre out S e hC ho
    refine ⟨out, hC.congr (fun x => ⟨.inl, fun h => h.elim id (fun ⟨⟨t, ht, _⟩, _⟩ => by simp at ht)⟩), 1, fun k hk => ?_⟩
    obtain ⟨k, rfl⟩ : ∃ k', k = k' + 1 := ⟨k - 1, by omega⟩
    rw [spec_MeetSets.l0, if_neg (by rw [e]; simp)]
  | cons p rest ih =>
    intro pre out S e hC ho
    have hp : GoodP (pr p) := ga p (by rw [e]; simp)
    have hlen : pre.length < fa.length := by rw [e]; simp
    have h1 : rd_T45 fa (pre.length : Int) = p := by rw [e]; exact rdm_Prefix _ _ _
    have hw : wrap64 ((pre.length : Int) + 1) = ((pre ++ [p]).length : Int) := by rw [wrap_id (by omega) (by omega)]; simp
    have e2 : fa = (pre ++ [p]) ++ rest := by rw [e]; simp
    rw [ky, Nat.succ_mul] at ho
    obtain ⟨r1, rC, rl, K1, hK1⟩ := spec_MeetSets_l1 x1 fa fb (fa.length : Int) (pre.length : Int) hlb gb (pr p) hp fb [] out S rfl hC (by omega)
    obtain ⟨r, rC2, K2, hK2⟩ := ih (pre ++ [p]) r1 _ e2 rC (by omega)
    obtain ⟨K3, hK3⟩ := hF
    refine ⟨r, rC2.congr (fun x => ?_), K1 + K2 + K3 + fb.length + 1 + 1, fun k hk => ?_⟩
    · constructor
      · rintro ((h | h) | ⟨⟨t, ht, h⟩, h2⟩)
        · exact .inl h
        · exact .inr ⟨⟨pr p, by simp, h.1⟩, h.2⟩
        · exact .inr ⟨⟨t, by rw [kj]; exact ku _ ht, h⟩, h2⟩
      · rintro (h | ⟨⟨t, ht, h⟩, h2⟩)
        · exact .inl (.inl h)
        · rw [kj] at ht
          rcases kd.1 ht with rfl | ht
          · exact .inl (.inr ⟨h, h2⟩)
          · exact .inr ⟨⟨t, ht, h⟩, h2⟩
    · obtain ⟨k, rfl⟩ : ∃ k', k = (k' + fb.length + 1) + 1 := ⟨k - (fb.length + 1 + 1), by omega⟩
      rw [spec_MeetSets.l0, if_pos (by omega), if_pos (len_nn _), if_pos (by omega), h1, hK3 _ (by omega), kz]
      refine (hK1 k (by omega)).trans ?_
      rw [hw]
      exact hK2 k (by omega)
theorem spec_l3Without_is (p : Pr) (hp : GoodP p) : ∀ (d : Nat) (q : Pr), GoodP q → (32 - q.2).toNat = d →
    ∃ r : List S45, (∀ t, t ∈ r → good t.f0 t.f1 = true) ∧ (∀ x, inL (r.map pr) x ↔ inW q p x) ∧ r.length ≤ (if cov q p then d else 1) ∧ ∀ k, d < k → spec_l3Without.f k q.1 q.2 p.1 p.2 = some r := by
  intro d
  induction d with
  | zero =>
    intro q hq hd
    have f1 := hq.facts
    have f2 := hp.facts
    by_cases c1 : cov p q
    · refine ⟨[], by simp, fun x => ⟨fun ⟨t, ht, _⟩ => by simp at ht, fun h => (without_in hq hp c1 x h).elim⟩, by simp, fun k hk => ?_⟩
      obtain ⟨k, rfl⟩ : ∃ k', k = k' + 1 := ⟨k - 1, by omega⟩
      rw [spec_l3Without.f, l1Covers_cov hp hq, kz, if_pos (decide_eq_true c1)]
    · have c2 : ¬ cov q p := fun h => c1 (cov_of_common hp hq (x := p.1) first_in ⟨h.2.1, h.2.2⟩ (by omega))
      refine ⟨[⟨q.1, q.2⟩], fun t ht => by rcases kk.1 ht with rfl; exact hq, fun x => ?_, by rw [if_neg c2]; simp, fun k hk => ?_⟩
      · rw [without_apart hq hp c1 c2 x]
        exact ⟨fun ⟨t, ht, h⟩ => by rcases kk.1 ht with rfl; exact h, fun h => ⟨q, by simp [pr], h⟩⟩
      · obtain ⟨k, rfl⟩ : ∃ k', k = k' + 1 := ⟨k - 1, by omega⟩
        rw [spec_l3Without.f, l1Covers_cov hp hq, kz, if_neg (fun h => c1 (of_decide_eq_true h)), l1Covers_cov hq hp, kz, if_neg (fun h => c2 (of_decide_eq_true h))]
  | succ d ih =>
    intro q hq hd
    have f1 := hq.facts
    have f2 := hp.facts
    by_cases c1 : cov p q
    · refine ⟨[], by simp, fun x => ⟨fun ⟨t, ht, _⟩ => by simp at ht, fun h => (without_in hq hp c1 x h).elim⟩, by simp, fun k hk => ?_⟩
      obtain ⟨k, rfl⟩ : ∃ k', k = k' + 1 := ⟨k - 1, by omega⟩
      rw [spec_l3Without.f, l1Covers_cov hp hq, kz, if_pos (decide_eq_true c1)]
    · by_cases c2 : cov q p
      · obtain ⟨hn, hone⟩ := without_one hq hp c2 c1
        obtain ⟨g1, g2⟩ := halves_good hq hn
        obtain ⟨r1, a1, a2, a3, a4⟩ := ih (lowH q) g1 (by show (32 - (q.2 + 1)).toNat = d; omega)
        obtain ⟨r2, b1, b2, b3, b4⟩ := ih (highH q) g2 (by show (32 - (q.2 + 1)).toNat = d; omega)
        have hd0 : d ≤ 32 := by omega
        have hlen : r1.length + r2.length ≤ d + 1 := by
          rcases hone with ⟨h1, h2, _⟩ | ⟨h1, h2, _⟩
          · rw [if_pos h1] at a3; rw [if_neg h2] at b3; omega
          · rw [if_neg h2] at a3; rw [if_pos h1] at b3; omega
        refine ⟨r1 ++ r2, fun t ht => ?_, fun x => ?_, by rw [if_pos c2, kv]; omega, fun k hk => ?_⟩
        · rcases kg.1 ht with h | h
          · exact a1 t h
          · exact b1 t h
        · rw [without_halves hq hn, ← a2 x, ← b2 x, kh]
          unfold inL
          constructor
          · rintro ⟨t, ht, h⟩
            rcases kg.1 ht with h1 | h1
            · exact .inl ⟨t, h1, h⟩
            · exact .inr ⟨t, h1, h⟩
          · rintro (⟨t, ht, h⟩ | ⟨t, ht, h⟩)
            · exact ⟨t, kg.2 (.inl ht), h⟩
            · exact ⟨t, kg.2 (.inr ht), h⟩
        · obtain ⟨k, rfl⟩ : ∃ k', k = k' + 1 := ⟨k - 1, by omega⟩
          have e1 : spec_l3Without.f k q.1 (q.2 + 1) p.1 p.2 = some r1 := a4 k (by omega)
          have e2 : spec_l3Without.f k (q.1 + sz (q.2 + 1)) (q.2 + 1) p.1 p.2 = some r2 := b4 k (by omega)
          rw [spec_l3Without.f, l1Covers_cov hp hq, kz, if_neg (fun h => c1 (of_decide_eq_true h)), l1Covers_cov hq hp, kz, if_pos (decide_eq_true c2), spec_l1Halves_is (by omega) hn (by omega) (by omega), kz]
          dsimp only
          rw [e1, kz, e2, kz, if_pos (by omega)]
      · refine ⟨[⟨q.1, q.2⟩], fun t ht => by rcases kk.1 ht with rfl; exact hq, fun x => ?_, by rw [if_neg c2]; simp, fun k hk => ?_⟩
        · rw [without_apart hq hp c1 c2 x]
          exact ⟨fun ⟨t, ht, h⟩ => by rcases kk.1 ht with rfl; exact h, fun h => ⟨q, by simp [pr], h⟩⟩
        · obtain ⟨k, rfl⟩ : ∃ k', k = k' + 1 := ⟨k - 1, by omega⟩
          rw [spec_l3Without.f, l1Covers_cov hp hq, kz, if_neg (fun h => c1 (of_decide_eq_true h)), l1Covers_cov hq hp, kz, if_neg (fun h => c2 (of_decide_eq_true h))]
theorem spec_CutPrefix_l1 (fa : List S45) (len i a n : Int) (ws : List S45) (hl : ws.length ≤ 1000) (hg : ∀ q, q ∈ ws → good q.f0 q.f1 = true) : ∀ (rest pre out : List S45) (S : Int → Prop), ws = pre ++ rest → Canon S (out.map pr) → out.length + rest.length ≤ 1000000 →
    ∃ r : List S45, Canon (fun x => S x ∨ inL (rest.map pr) x) (r.map pr) ∧ r.length ≤ out.length + rest.length ∧ ∃ K, ∀ k, K ≤ k → spec_CutPrefix.l1 (k + rest.length + 1) out fa len i ws (ws.length : Int) (pre.length : Int) a n = spec_CutPrefix.l0 k r fa len (wrap64 (i + 1)) a n := by
  intro rest
  induction rest with
  | nil =>
    intro pre out S e hC ho
    refine ⟨out, hC.congr (fun x => ⟨.inl, fun h => h.elim id (fun ⟨t, ht, _⟩ => by simp at ht)⟩), by simp, 0, fun k hk => ?_⟩
    rw [spec_CutPrefix.l1, if_neg (by rw [e]; simp)]
    rfl
  | cons q rest ih =>
    intro pre out S e hC ho
    have hq : GoodP (pr q) := hg q (by rw [e]; simp)
    have hlen : pre.length < ws.length := by rw [e]; simp
    have h1 : rd_T45 ws (pre.length : Int) = q := by rw [e]; exact rdm_Prefix _ _ _
    have hw : wrap64 ((pre.length : Int) + 1) = ((pre ++ [q]).length : Int) := by rw [wrap_id (by omega) (by omega)]; simp
    have e2 : ws = (pre ++ [q]) ++ rest := by rw [e]; simp
    rw [ky] at ho
    obtain ⟨r1, rC, rl, K1, hK1⟩ := l3Put_is _ (pr q) out S rfl hq hC (by omega)
    obtain ⟨r, rC2, rl2, K2, hK2⟩ := ih (pre ++ [q]) r1 _ e2 rC (by omega)
    refine ⟨r, rC2.congr (fun x => ?_), by rw [ky]; omega, K1 + K2, fun k hk => ?_⟩
    · unfold inL
      constructor
      · rintro ((h | h) | ⟨t, ht, h⟩)
        · exact .inl h
        · exact .inr ⟨pr q, by simp, h⟩
        · exact .inr ⟨t, by rw [kj]; exact ku _ ht, h⟩
      · rintro (h | ⟨t, ht, h⟩)
        · exact .inl (.inl h)
        · rw [kj] at ht
          rcases kd.1 ht with rfl | ht
          · exact .inl (.inr h)
          · exact .inr ⟨t, ht, h⟩
    · rw [show k + (q :: rest).length + 1 = (k + rest.length + 1) + 1 by simp; omega, spec_CutPrefix.l1, if_pos (by omega), if_pos (len_nn _), if_pos (by omega), h1, show spec_l3Put.f (k + rest.length + 1) out q.f0 q.f1 = some r1 from hK1 _ (by omega), kz, hw]
      exact hK2 k (by omega)
theorem spec_CutPrefix_l0 (fa : List S45) (hla : fa.length ≤ 1000) (ga : ∀ q, q ∈ fa → good q.f0 q.f1 = true) (p : Pr) (hp : GoodP p) : ∀ (rest pre out : List S45) (S : Int → Prop), fa = pre ++ rest → Canon S (out.map pr) → out.length + rest.length * 33 ≤ 1000000 →
    ∃ r : List S45, Canon (fun x => S x ∨ (inL (rest.map pr) x ∧ ¬ inP p x)) (r.map pr) ∧ ∃ K, ∀ k, K ≤ k → spec_CutPrefix.l0 k out fa (fa.length : Int) (pre.length : Int) p.1 p.2 = if (r.length : Int) > 64 then some ([], false) else some (r, true) := by
  intro rest
  induction rest with
  | nil =>
    intro pre out S e hC ho
    refine ⟨out, hC.congr (fun x => ⟨.inl, fun h => h.elim id (fun ⟨⟨t, ht, _⟩, _⟩ => by simp at ht)⟩), 1, fun k hk => ?_⟩
    obtain ⟨k, rfl⟩ : ∃ k', k = k' + 1 := ⟨k - 1, by omega⟩
    rw [spec_CutPrefix.l0, if_neg (by rw [e]; simp)]
  | cons q rest ih =>
    intro pre out S e hC ho
    have hq : GoodP (pr q) := ga q (by rw [e]; simp)
    have hlen : pre.length < fa.length := by rw [e]; simp
    have h1 : rd_T45 fa (pre.length : Int) = q := by rw [e]; exact rdm_Prefix _ _ _
    have hw : wrap64 ((pre.length : Int) + 1) = ((pre ++ [q]).length : Int) := by rw [wrap_id (by omega) (by omega)]; simp
    have e2 : fa = (pre ++ [q]) ++ rest := by rw [e]; simp
    rw [ky] at ho
    obtain ⟨ws, w1, w2, w3, w4⟩ := spec_l3Without_is p hp _ (pr q) hq rfl
    have hwl : ws.length ≤ 33 := by
      have := hq.facts
      split at w3 <;> omega
    obtain ⟨r1, rC, rl, K1, hK1⟩ := spec_CutPrefix_l1 fa (fa.length : Int) (pre.length : Int) p.1 p.2 ws (by omega) w1 ws [] out S rfl hC (by omega)
    obtain ⟨r, rC2, K2, hK2⟩ := ih (pre ++ [q]) r1 _ e2 rC (by omega)
    refine ⟨r, rC2.congr (fun x => ?_), K1 + K2 + 34 + ws.length + 1 + 1, fun k hk => ?_⟩
    · rw [w2 x]
      unfold inW
      constructor
      · rintro ((h | h) | ⟨⟨t, ht, h⟩, h2⟩)
        · exact .inl h
        · exact .inr ⟨⟨pr q, by simp, h.1⟩, h.2⟩
        · exact .inr ⟨⟨t, by rw [kj]; exact ku _ ht, h⟩, h2⟩
      · rintro (h | ⟨⟨t, ht, h⟩, h2⟩)
        · exact .inl (.inl h)
        · rw [kj] at ht
          rcases kd.1 ht with rfl | ht
          · exact .inl (.inr ⟨h, h2⟩)
          · exact .inr ⟨⟨t, ht, h⟩, h2⟩
    · obtain ⟨k, rfl⟩ : ∃ k', k = (k' + ws.length + 1) + 1 := ⟨k - (ws.length + 1 + 1), by omega⟩
      have hq2 := hq.facts
      rw [spec_CutPrefix.l0, if_pos (by omega), if_pos (len_nn _), if_pos (by omega), h1, show spec_l3Without.f (k + ws.length + 1) q.f0 q.f1 p.1 p.2 = some ws from w4 _ (by show (32 - (pr q).2).toNat < _; omega), kz]
      refine (hK1 k (by omega)).trans ?_
      rw [hw]
      exact hK2 k (by omega)
theorem impl_Count_l0 (rs : List S74) (hl : rs.length ≤ 1000000) (hb : ∀ s, s ∈ rs → 0 ≤ s.f0 ∧ s.f0 ≤ s.f1 ∧ s.f1 ≤ 4294967295) : ∀ (rest pre : List S74) (acc : Int) (k : Nat), rs = pre ++ rest → 0 ≤ acc → acc ≤ pre.length * 4294967296 → rest.length < k →
    impl_CountAddrs.l0 k acc rs (rs.length : Int) (pre.length : Int) = some (acc + totalS (rest.map spn), true) := by
  intro rest
  induction rest with
  | nil =>
    intro pre acc k e h0 h1 hk
    obtain ⟨k, rfl⟩ : ∃ k', k = k' + 1 := ⟨k - 1, by omega⟩
    rw [impl_CountAddrs.l0, if_neg (by rw [e]; simp)]
    simp [totalS]
  | cons s rest ih =>
    intro pre acc k e h0 h1 hk
    rw [ky] at hk
    obtain ⟨k, rfl⟩ : ∃ k', k = k' + 1 := ⟨k - 1, by omega⟩
    have hs := hb s (by rw [e]; simp)
    have hlen : pre.length < rs.length := by rw [e]; simp
    have h2 : rd_T74 rs (pre.length : Int) = s := by rw [e]; exact rdm_Span _ _ _
    have hw : wrap64 ((pre.length : Int) + 1) = ((pre ++ [s]).length : Int) := by rw [wrap_id (by omega) (by omega)]; simp
    have e2 : rs = (pre ++ [s]) ++ rest := by rw [e]; simp
    rw [impl_CountAddrs.l0, if_pos (by omega), if_pos (len_nn _), if_pos (by omega), h2, hw, wrap_id (x := s.f1 - s.f0) (by omega) (by omega), wrap_id (x := s.f1 - s.f0 + 1) (by omega) (by omega), wrap_id (by omega) (by omega)]
    refine (ih (pre ++ [s]) (acc + (s.f1 - s.f0 + 1)) k e2 (by omega) (by rw [kv, ko]; omega) (by omega)).trans ?_
    rw [kj, totalS_cons]
    show some (acc + (s.f1 - s.f0 + 1) + _, true) = some (acc + (s.f1 - s.f0 + 1 + _), true)
    rw [Int.add_assoc]
def Bts (c : List Int) : Prop := c.length ≤ 140737488351232 ∧ ∀ x, x ∈ c → 0 ≤ x ∧ x ≤ 255
theorem Bts.at_ {c : List Int} (h : Bts c) {i : Int} (h0 : 0 ≤ i) (h1 : i < (c.length : Int)) : 0 ≤ rd c i ∧ rd c i ≤ 255 := by
  have : i.toNat < c.length := by omega
  unfold rd
  rw [List.getD_eq_getElem?_getD, List.getElem?_eq_getElem this]
  exact h.2 _ (List.getElem_mem this)
theorem u64_range (x : Int) : 0 ≤ IntKind.u64.wrap x ∧ IntKind.u64.wrap x < 18446744073709551616 := by
  simp only [IntKind.wrap, IntKind.bits, IntKind.signed]
  constructor
  · simp; omega
  · simp; omega
theorem u64_and255 {x : Int} (h0 : 0 ≤ x) (h1 : x < 18446744073709551616) : Go.bits .and .u64 x 255 = x % 256 :=
  bits_mask .u64 64 (by decide) (fun n h2 h3 => by simp only [IntKind.wrap, IntKind.bits, IntKind.signed]; simp; omega) 8 (by decide) x h0 h1
theorem next_ok {c : List Int} (hc : Bts c) {i : Int} (s : Int) (h0 : 0 ≤ i) (h1 : i ≤ 1000000000000000) : ∃ b s', spec_l1Cur_next.f c i s = some (b, i + 1, s') ∧ 0 ≤ b ∧ b ≤ 255 := by
  have hl := hc.1
  unfold spec_l1Cur_next.f
  rw [wrap_id (x := i + 1) (by omega) (by omega)]
  by_cases h : i < (c.length : Int)
  · have hb := hc.at_ h0 h
    rw [if_pos h, if_pos h0, if_pos (by omega)]
    exact ⟨_, _, rfl, by rw [wrap_id (by omega) (by omega)]; exact hb.1, by rw [wrap_id (by omega) (by omega)]; exact hb.2⟩
  · rw [if_neg h, if_neg (by omega)]
    refine ⟨_, _, rfl, ?_⟩
    have hr := u64_range (IntKind.u64.wrap (IntKind.u64.wrap (s * 6364136223846793005)) + 1442695040888963407)
    generalize IntKind.u64.wrap (IntKind.u64.wrap (IntKind.u64.wrap (s * 6364136223846793005)) + 1442695040888963407) = X at hr
    rw [u64_and255 (by omega) (by omega), wrap_id (by omega) (by omega)]
    omega
theorem pick_ok {c : List Int} (hc : Bts c) {i : Int} (s : Int) {n : Int} (h0 : 0 ≤ i) (h1 : i ≤ 100000000000000) (hn : n ≤ 1000000) : ∃ b i' s', spec_l1Cur_pick.f c i s n = some (b, i', s') ∧ 0 ≤ b ∧ (b < n ∨ b = 0) ∧ i ≤ i' ∧ i' ≤ i + 2 := by
  unfold spec_l1Cur_pick.f
  by_cases h : n ≤ 1
  · rw [if_pos h]
    exact ⟨_, _, _, rfl, by omega, .inr rfl, by omega, by omega⟩
  · rw [if_neg h]
    obtain ⟨b, s1, e1, b0, b1⟩ := next_ok hc s h0 (by omega)
    rw [e1, kz]
    have hmod : ∀ x : Int, 0 ≤ x → 0 ≤ Int.tmod x n ∧ Int.tmod x n < n := fun x hx => ⟨Int.tmod_nonneg _ hx, Int.tmod_lt_of_pos _ (by omega)⟩
    by_cases h2 : n > 200
    · rw [if_pos h2]
      dsimp only
      obtain ⟨d, s2, e2, d0, d1⟩ := next_ok hc (i := i + 1) s1 (by omega) (by omega)
      rw [e2, kz, if_neg (by omega)]
      dsimp only
      rw [wrap_id (x := b * 256) (by omega) (by omega), wrap_id (by omega) (by omega)]
      obtain ⟨m0, m1⟩ := hmod (b * 256 + d) (by omega)
      exact ⟨_, _, _, rfl, m0, .inl m1, by omega, by omega⟩
    · rw [if_neg h2, if_neg (by omega)]
      dsimp only
      obtain ⟨m0, m1⟩ := hmod b b0
      exact ⟨_, _, _, rfl, m0, .inl m1, by omega, by omega⟩
theorem one_ok {c : List Int} (hc : Bts c) {i : Int} (s : Int) {n : Int} (h0 : 0 ≤ i) (h1 : i ≤ 100000000000000) (hn : n ≤ 1000000) : ∃ b i' s', spec_l1Cur_one.f c i s n = some (b, i', s') ∧ i ≤ i' ∧ i' ≤ i + 2 := by
  unfold spec_l1Cur_one.f
  obtain ⟨b, i', s', e, _, _, h2, h3⟩ := pick_ok hc s h0 h1 hn
  rw [e, kz]
  exact ⟨_, _, _, rfl, h2, h3⟩
theorem among_ok {c : List Int} (hc : Bts c) {i : Int} (s : Int) (l : List Int) (h0 : 0 ≤ i) (h1 : i ≤ 100000000000000) (hl : l ≠ []) (hn : l.length ≤ 1000) : ∃ v i' s', spec_l1Cur_among.f c i s l = some (v, i', s') ∧ v ∈ l ∧ i ≤ i' ∧ i' ≤ i + 2 := by
  unfold spec_l1Cur_among.f
  have hpos : 0 < l.length := List.length_pos_iff.2 hl
  obtain ⟨b, i', s', e, b0, b1, h2, h3⟩ := pick_ok hc s (n := (l.length : Int)) h0 h1 (by omega)
  have hb : b < (l.length : Int) := by omega
  rw [e, kz, if_pos b0, if_pos hb]
  refine ⟨_, _, _, rfl, ?_, h2, h3⟩
  have : b.toNat < l.length := by omega
  unfold rd
  rw [List.getD_eq_getElem?_getD, List.getElem?_eq_getElem this]
  exact List.getElem_mem this
theorem prefix_ok {c : List Int} (hc : Bts c) {i : Int} (s : Int) (h0 : 0 ≤ i) (h1 : i ≤ 10000000000000) : ∃ a n i' s', spec_l1Cur_prefix.f c i s = some (a, n, i', s') ∧ i ≤ i' ∧ i' ≤ i + 8 := by
  unfold spec_l1Cur_prefix.f
  obtain ⟨n, i1, s1, e1, m1, a1, b1⟩ := among_ok hc s [0, 1, 2, 3, 4, 8, 8, 16, 24, 31, 32] h0 (by omega) (by simp) (by simp)
  rw [e1, kz]
  dsimp only
  obtain ⟨a, i2, s2, e2, m2, a2, b2⟩ := among_ok hc s1 [0, 167772160, 167837696, 3232235520, 2147483648, 4294967295, 3758096384, 167772165] (i := i1) (by omega) (by omega) (by simp) (by simp)
  rw [e2, kz]
  have hn : 0 ≤ n ∧ n ≤ 32 := by
    simp only [kd, kp, or_false] at m1
    omega
  have hs := sz_pos n
  dsimp only
  rw [spec_l1Size_is _ hn.1 hn.2, kz, if_neg (by omega)]
  obtain ⟨b, i3, s3, e3, _, _, a3, b3⟩ := pick_ok hc s2 (n := 30) (i := i2) (by omega) (by omega) (by omega)
  rw [e3, kz]
  dsimp only
  by_cases hb : b = 0
  · rw [if_pos hb]; exact ⟨_, _, _, _, rfl, by omega, by omega⟩
  · rw [if_neg hb]
    by_cases hb2 : b = 1
    · rw [if_pos hb2]
      obtain ⟨v, i4, s4, e4, _, a4, b4⟩ := among_ok hc s3 [(-1), 33] (i := i3) (by omega) (by omega) (by simp) (by simp)
      rw [e4, kz]
      exact ⟨_, _, _, _, rfl, by dsimp only; omega, by dsimp only; omega⟩
    · rw [if_neg hb2]; exact ⟨_, _, _, _, rfl, by omega, by omega⟩
theorem fine_ok {c : List Int} (hc : Bts c) {i : Int} (s : Int) (h0 : 0 ≤ i) (h1 : i ≤ 10000000000000) : ∃ a n i' s', spec_l1Cur_fine.f c i s = some (a, n, i', s') ∧ good a n = true ∧ i ≤ i' ∧ i' ≤ i + 8 := by
  unfold spec_l1Cur_fine.f
  obtain ⟨a, n, i1, s1, e1, a1, b1⟩ := prefix_ok hc s h0 h1
  rw [e1, kz, spec_GoodPrefix_is, kz]
  dsimp only
  by_cases hg : good a n = true
  · rw [if_pos hg]; exact ⟨_, _, _, _, rfl, hg, a1, b1⟩
  · rw [if_neg hg]
    refine ⟨_, _, _, _, rfl, ?_, a1, b1⟩
    refine good_iff.2 ⟨by omega, by omega, by omega, by omega, ?_⟩
    have : sz 8 = 16777216 := by unfold sz; rfl
    rw [this]; rfl
theorem addr_ok {c : List Int} (hc : Bts c) {i : Int} (s : Int) (h0 : 0 ≤ i) (h1 : i ≤ 10000000000000) : ∃ a i' s', spec_l1Cur_addr.f c i s = some (a, i', s') ∧ -1 ≤ a ∧ a ≤ 4294967296 ∧ i ≤ i' ∧ i' ≤ i + 2 := by
  unfold spec_l1Cur_addr.f
  obtain ⟨a, i1, s1, e1, m1, a1, b1⟩ := among_ok hc s [0, 167772165, 167837705, 3232235527, 4294967295, 2147483648, (-1), 4294967296] h0 (by omega) (by simp) (by simp)
  rw [e1, kz]
  simp only [kd, kp, or_false] at m1
  exact ⟨_, _, _, rfl, by dsimp only; omega, by dsimp only; omega, by dsimp only; omega, by dsimp only; omega⟩
theorem prefixes_j3 {c : List Int} (hc : Bts c) (l : List S45) (hl : l.length ≤ 200) {i : Int} (s : Int) (h0 : 0 ≤ i) (h1 : i ≤ 100000) : ∃ r i' s', (∀ k, spec_l1Cur_prefixes.j3 (k + 1) l c i s = some (r, i', s')) ∧ r.length ≤ 200 ∧ i ≤ i' ∧ i' ≤ i + 10 := by
  by_cases h : (l.length : Int) > 0
  · obtain ⟨b, i1, s1, e1, a1, b1⟩ := one_ok hc s (n := 30) h0 (by omega) (by omega)
    cases b with
    | true =>
      obtain ⟨a, n, i2, s2, e2, a2, b2⟩ := prefix_ok hc s1 (i := i1) (by omega) (by omega)
      refine ⟨l.set (0 : Int).toNat ⟨a, n⟩, i2, s2, fun k => ?_, ?_, by omega, by omega⟩
      · rw [spec_l1Cur_prefixes.j3, if_pos h, e1, kz, if_pos rfl, e2, kz, if_pos h]
      · rw [List.length_set]; exact hl
    | false =>
      refine ⟨l, i1, s1, fun k => ?_, hl, by omega, by omega⟩
      rw [spec_l1Cur_prefixes.j3, if_pos h, e1, kz, if_neg (by simp)]
  · refine ⟨l, i, s, fun k => ?_, hl, by omega, by omega⟩
    rw [spec_l1Cur_prefixes.j3, if_neg h]
theorem prefixes_j2 {c : List Int} (hc : Bts c) (l : List S45) (hl : l.length ≤ 200) (b : Bool) (hb : b = true → 64 ≤ (l.length : Int)) {i : Int} (s : Int) (h0 : 0 ≤ i) (h1 : i ≤ 100000) : ∃ r i' s', (∀ k, spec_l1Cur_prefixes.j2 (k + 1 + 1) l b c i s = some (r, i', s')) ∧ r.length ≤ 200 ∧ i ≤ i' ∧ i' ≤ i + 10 := by
  cases b with
  | true =>
    obtain ⟨r, i1, s1, e, h2⟩ := prefixes_j3 hc (l.take (64 : Int).toNat) (by rw [List.length_take]; omega) s h0 h1
    refine ⟨r, i1, s1, fun k => ?_, h2⟩
    rw [spec_l1Cur_prefixes.j2, if_pos rfl, if_pos (hb rfl), e]
  | false =>
    obtain ⟨r, i1, s1, e, h2⟩ := prefixes_j3 hc l hl s h0 h1
    refine ⟨r, i1, s1, fun k => ?_, h2⟩
    rw [spec_l1Cur_prefixes.j2, if_neg (by simp), e]
theorem prefixes_l0 {c : List Int} (hc : Bts c) (B : Int) (hB : B ≤ 90000) : ∀ (m : Nat) (l : List S45) (i s : Int), m ≤ 70 → l.length + 2 * m ≤ 200 → 0 ≤ i → i + 10 * m ≤ B → ∃ r i' s', (∀ k, spec_l1Cur_prefixes.l0 (k + m + 3) l (m : Int) c i s = some (r, i', s')) ∧ r.length ≤ 200 ∧ 0 ≤ i' ∧ i' ≤ B + 30 := by
  intro m
  induction m with
  | zero =>
    intro l i s hm hl h0 h1
    by_cases h : (l.length : Int) > 64
    · obtain ⟨b, i1, s1, e1, a1, b1⟩ := one_ok hc s (n := 4) h0 (by omega) (by omega)
      obtain ⟨r, i2, s2, e2, h2, h3, h4⟩ := prefixes_j2 hc l (by omega) (!b) (fun _ => by omega) (i := i1) s1 (by omega) (by omega)
      refine ⟨r, i2, s2, fun k => ?_, h2, by omega, by omega⟩
      rw [show k + 0 + 3 = (k + 1 + 1) + 1 by omega, spec_l1Cur_prefixes.l0, if_neg (by omega), if_pos h, e1, kz]
      exact e2 k
    · obtain ⟨r, i2, s2, e2, h2, h3, h4⟩ := prefixes_j2 hc l (by omega) false (fun hf => by cases hf) (i := i) s (by omega) (by omega)
      refine ⟨r, i2, s2, fun k => ?_, h2, by omega, by omega⟩
      rw [show k + 0 + 3 = (k + 1 + 1) + 1 by omega, spec_l1Cur_prefixes.l0, if_neg (by omega), if_neg h]
      exact e2 k
  | succ m ih =>
    intro l i s hm hl h0 h1
    obtain ⟨a, n, i1, s1, e1, g1, a1, b1⟩ := fine_ok hc s h0 (by omega)
    have hw : wrap64 (((m + 1 : Nat) : Int) - 1) = (m : Int) := by rw [wrap_id (by omega) (by omega)]; omega
    have hk : ∀ k : Nat, k + (m + 1) + 3 = (k + m + 3) + 1 := fun k => by omega
    by_cases hn : n > 0
    · obtain ⟨b, i2, s2, e2, a2, b2⟩ := one_ok hc s1 (n := 4) (i := i1) (by omega) (by omega) (by omega)
      cases b with
      | true =>
        obtain ⟨r, i3, s3, e3, h3⟩ := ih (l ++ [⟨a, n⟩] ++ [⟨sib a n, n⟩]) i2 s2 (by omega) (by simp; omega) (by omega) (by omega)
        refine ⟨r, i3, s3, fun k => ?_, h3⟩
        rw [hk, spec_l1Cur_prefixes.l0, if_pos (by omega), e1, kz, if_pos (by omega), kz]
        dsimp only
        rw [if_pos hn, e2, kz, if_pos rfl, spec_l1Sibling_is g1 (by omega), kz, if_pos (by simp; omega), hw]
        exact e3 k
      | false =>
        obtain ⟨r, i3, s3, e3, h3⟩ := ih (l ++ [⟨a, n⟩]) i2 s2 (by omega) (by simp; omega) (by omega) (by omega)
        refine ⟨r, i3, s3, fun k => ?_, h3⟩
        rw [hk, spec_l1Cur_prefixes.l0, if_pos (by omega), e1, kz, if_pos (by omega), kz]
        dsimp only
        rw [if_pos hn, e2, kz, if_neg (by simp), hw]
        exact e3 k
    · obtain ⟨r, i3, s3, e3, h3⟩ := ih (l ++ [⟨a, n⟩]) i1 s1 (by omega) (by simp; omega) (by omega) (by omega)
      refine ⟨r, i3, s3, fun k => ?_, h3⟩
      rw [hk, spec_l1Cur_prefixes.l0, if_pos (by omega), e1, kz, if_pos (by omega), kz]
      dsimp only
      rw [if_neg hn, hw]
      exact e3 k
theorem prefixes_ok {c : List Int} (hc : Bts c) (i s : Int) (h0 : 0 ≤ i) (h1 : i ≤ 60000) : ∃ (r : List S45) (i' s' : Int), (∃ K, ∀ k, K ≤ k → spec_l1Cur_prefixes.f k c i s = some (r, i', s')) ∧ r.length ≤ 200 ∧ 0 ≤ i' ∧ i' ≤ i + 1000 := by
  obtain ⟨n, i1, s1, e1, n0, n1, a1, b1⟩ := pick_ok hc s (n := 8) (i := i) (by omega) (by omega) (by omega)
  obtain ⟨b, i2, s2, e2, a2, b2⟩ := one_ok hc s1 (n := 20) (i := i1) (by omega) (by omega) (by omega)
  have go : ∀ (m : Nat) (j s : Int), m ≤ 70 → 0 ≤ j → j ≤ i + 100 → ∃ (r : List S45) (i' s' : Int), (∀ k, spec_l1Cur_prefixes.j0 (k + m + 3 + 1) [] (m : Int) c j s = some (r, i', s')) ∧ r.length ≤ 200 ∧ 0 ≤ i' ∧ i' ≤ i + 1000 := fun m j s hm hj0 hj1 => by
    obtain ⟨r, i3, s3, e3, h3, h4, h5⟩ := prefixes_l0 hc (i + 800) (by omega) m [] j s hm (by simp; omega) hj0 (by omega)
    refine ⟨r, i3, s3, fun k => ?_, h3, h4, by omega⟩
    rw [spec_l1Cur_prefixes.j0]
    exact e3 k
  cases b with
  | true =>
    obtain ⟨d, i3, s3, e3, d0, d1, a3, b3⟩ := pick_ok hc s2 (n := 2) (i := i2) (by omega) (by omega) (by omega)
    obtain ⟨r, i4, s4, e4, h4⟩ := go (64 + d).toNat i3 s3 (by omega) (by omega) (by omega)
    refine ⟨r, i4, s4, ⟨200, fun k hk => ?_⟩, h4⟩
    obtain ⟨k, rfl⟩ : ∃ k', k = k' + (64 + d).toNat + 3 + 1 := ⟨k - ((64 + d).toNat + 3 + 1), by omega⟩
    unfold spec_l1Cur_prefixes.f
    rw [e1, kz]
    dsimp only
    rw [e2, kz, if_pos rfl, e3, kz]
    dsimp only
    rw [wrap_id (by omega) (by omega), show 64 + d = ((64 + d).toNat : Int) by omega]
    exact e4 k
  | false =>
    obtain ⟨r, i4, s4, e4, h4⟩ := go n.toNat i2 s2 (by omega) (by omega) (by omega)
    refine ⟨r, i4, s4, ⟨200, fun k hk => ?_⟩, h4⟩
    obtain ⟨k, rfl⟩ : ∃ k', k = k' + n.toNat + 3 + 1 := ⟨k - (n.toNat + 3 + 1), by omega⟩
    unfold spec_l1Cur_prefixes.f
    rw [e1, kz]
    dsimp only
    rw [e2, kz, if_neg (by simp)]
    dsimp only
    rw [show n = (n.toNat : Int) by omega]
    exact e4 k
theorem MeetSets_full (a b : List S45) (ha : a.length ≤ 1048576) (hb : b.length ≤ 1048576) : ∃ r, Ev (fun k => spec_MeetSets.f k a b) r ∧ Ev (fun k => impl_MeetSets.f k a b) r ∧ r.1.length ≤ 64 ∧ (r.2 = true → okL a = true ∧ okL b = true ∧ Canon (fun x => inL (a.map pr) x ∧ inL (b.map pr) x) (r.1.map pr)) := by
  have none1 : ∀ k, a.length + b.length + 1 < k → ¬ (okL a = true ∧ okL b = true) → spec_MeetSets.f k a b = some ([], false) ∧ impl_MeetSets.f k a b = some ([], false) := by
    intro k hk h
    obtain ⟨k, rfl⟩ : ∃ k', k = k' + 1 := ⟨k - 1, by omega⟩
    unfold spec_MeetSets.f impl_MeetSets.f
    rw [spec_l3Good_is (k + 1) a ha (by omega), impl_arePrefixes_is (k + 1) a ha (by omega), kz, kz]
    by_cases h1 : okL a = true
    · have h2 : okL b = false := by
        cases h3 : okL b with
        | false => rfl
        | true => exact (h ⟨h1, h3⟩).elim
      have h1' : (decide (a.length ≤ 64) && (a.map pr).all (fun p => good p.1 p.2)) = true := h1
      have h2' : (decide (b.length ≤ 64) && (b.map pr).all (fun p => good p.1 p.2)) = false := h2
      rw [if_pos h1', if_pos h1', spec_l3Good_is (k + 1) b hb (by omega), impl_arePrefixes_is (k + 1) b hb (by omega), kz, kz, h2']
      simp only [spec_MeetSets.j0, impl_MeetSets.j0, Bool.not_false]
      exact ⟨if_pos trivial, if_pos trivial⟩
    · have h1' : ¬ (decide (a.length ≤ 64) && (a.map pr).all (fun p => good p.1 p.2)) = true := h1
      rw [if_neg h1', if_neg h1']
      simp only [spec_MeetSets.j0, impl_MeetSets.j0]
      exact ⟨if_pos trivial, if_pos trivial⟩
  by_cases h : okL a = true ∧ okL b = true
  · obtain ⟨a64, ga⟩ := okL_facts h.1
    obtain ⟨b64, gb⟩ := okL_facts h.2
    have o1 : (decide (a.length ≤ 64) && (a.map pr).all (fun p => good p.1 p.2)) = true := h.1
    have o2 : (decide (b.length ≤ 64) && (b.map pr).all (fun p => good p.1 p.2)) = true := h.2
    obtain ⟨sa, sag, sai, sal, sab, K1, E1⟩ := spansOf_is a ha ga
    obtain ⟨sb, sbg, sbi, sbl, sbb, K2, E2⟩ := spansOf_is b hb gb
    replace E1 : ∀ k, K1 ≤ k → impl_spansOf.f k a = some sa := E1
    replace E2 : ∀ k, K2 ≤ k → impl_spansOf.f k b = some sb := E2
    obtain ⟨q, qC, K3, E3⟩ := meet_tail sa sb (by omega) (by omega) sag.srt sbg.srt (fun s hs => ⟨(sab s hs).1, (sab s hs).2.2⟩)
    obtain ⟨fa, fC, fl, K4, E4⟩ := spec_l3Fewest_is a (by omega) ga
    obtain ⟨fb, gC, gl, K5, E5⟩ := spec_l3Fewest_is b (by omega) gb
    have gfa : ∀ q, q ∈ fa → good q.f0 q.f1 = true := fun q hq => (fC.max (pr q) (kq.2 ⟨q, hq, rfl⟩)).1
    have gfb : ∀ q, q ∈ fb → good q.f0 q.f1 = true := fun q hq => (gC.max (pr q) (kq.2 ⟨q, hq, rfl⟩)).1
    have hm : fa.length * fb.length ≤ 64 * 64 := Nat.mul_le_mul (by omega) (by omega)
    obtain ⟨r, rC, K6, E6⟩ := spec_MeetSets_l0 b fa fb (by omega) (by omega) gfa gfb ⟨K5, E5⟩ fa [] [] (fun _ => False) rfl ⟨by simp [Srt], fun p hp => by simp at hp, fun x hx => hx.elim⟩ (by simp; omega)
    have e : q = r := map_pr_inj (qC.unique (rC.congr (fun x => by
      rw [sai x, sbi x, fC.inL x, gC.inL x]
      exact ⟨fun h => h.elim False.elim id, .inr⟩)))
    subst e
    refine ⟨if (q.length : Int) > 64 then ([], false) else (q, true), ⟨K1 + K2 + K3 + K4 + K5 + K6 + a.length + b.length + 2, fun k hk => ?_⟩, ⟨K1 + K2 + K3 + K4 + K5 + K6 + a.length + b.length + 2, fun k hk => ?_⟩, ?_, ?_⟩
    · show spec_MeetSets.f k a b = _
      obtain ⟨k, rfl⟩ : ∃ k', k = k' + 1 := ⟨k - 1, by omega⟩
      unfold spec_MeetSets.f
      rw [spec_l3Good_is (k + 1) a ha (by omega), kz, if_pos o1, spec_l3Good_is (k + 1) b hb (by omega), kz, o2]
      simp only [spec_MeetSets.j0, km]
      rw [if_neg (by simp), E4 k (by omega), kz]
      refine (E6 k (by omega)).trans ?_
      split <;> rfl
    · show impl_MeetSets.f k a b = _
      obtain ⟨k, rfl⟩ : ∃ k', k = k' + 1 := ⟨k - 1, by omega⟩
      unfold impl_MeetSets.f
      rw [impl_arePrefixes_is (k + 1) a ha (by omega), kz, if_pos o1, impl_arePrefixes_is (k + 1) b hb (by omega), kz, o2]
      simp only [impl_MeetSets.j0, km]
      obtain ⟨m, hm1, hm2⟩ := E3 k (by omega)
      rw [if_neg (by simp), E1 k (by omega), kz, E2 k (by omega), kz, hm1, kz, hm2, kz]
      unfold impl_setOf.f
      split <;> rfl
    · split
      · simp
      · show q.length ≤ 64; omega
    · split
      · intro hf; cases hf
      · intro _; exact ⟨h.1, h.2, qC.congr (fun x => by rw [sai x, sbi x])⟩
  · exact ⟨([], false), ⟨a.length + b.length + 2, fun k hk => (none1 k (by omega) h).1⟩, ⟨a.length + b.length + 2, fun k hk => (none1 k (by omega) h).2⟩, by simp, fun hf => by cases hf⟩
theorem CutPrefix_full (l : List S45) (a n : Int) (hl : l.length ≤ 1048576) : ∃ r, Ev (fun k => spec_CutPrefix.f k l a n) r ∧ Ev (fun k => impl_CutPrefix.f k l a n) r ∧ r.1.length ≤ 64 ∧ (r.2 = true → okL l = true ∧ good a n = true ∧ Canon (fun x => inL (l.map pr) x ∧ ¬ inP (a, n) x) (r.1.map pr)) := by
  have none1 : ∀ k, l.length + 1 < k → ¬ (okL l = true ∧ good a n = true) → spec_CutPrefix.f k l a n = some ([], false) ∧ impl_CutPrefix.f k l a n = some ([], false) := by
    intro k hk h
    obtain ⟨k, rfl⟩ : ∃ k', k = k' + 1 := ⟨k - 1, by omega⟩
    unfold spec_CutPrefix.f impl_CutPrefix.f
    rw [spec_l3Good_is (k + 1) l hl (by omega), impl_arePrefixes_is (k + 1) l hl (by omega), kz, kz]
    by_cases h1 : okL l = true
    · have h2 : good a n = false := by
        cases h3 : good a n with
        | false => rfl
        | true => exact (h ⟨h1, h3⟩).elim
      have h1' : (decide (l.length ≤ 64) && (l.map pr).all (fun p => good p.1 p.2)) = true := h1
      rw [if_pos h1', if_pos h1', spec_GoodPrefix_is, impl_GoodPrefix_is, kz, kz, h2]
      simp only [spec_CutPrefix.j0, impl_CutPrefix.j0, Bool.not_false]
      exact ⟨if_pos trivial, if_pos trivial⟩
    · have h1' : ¬ (decide (l.length ≤ 64) && (l.map pr).all (fun p => good p.1 p.2)) = true := h1
      rw [if_neg h1', if_neg h1']
      simp only [spec_CutPrefix.j0, impl_CutPrefix.j0]
      exact ⟨if_pos trivial, if_pos trivial⟩
  by_cases h : okL l = true ∧ good a n = true
  · obtain ⟨l64, ga⟩ := okL_facts h.1
    have hp : GoodP (a, n) := h.2
    have o1 : (decide (l.length ≤ 64) && (l.map pr).all (fun p => good p.1 p.2)) = true := h.1
    obtain ⟨f1, f2, f3, f4, _⟩ := good_iff.1 h.2
    have hend := good_end h.2
    have hszp := sz_pos n
    obtain ⟨sa, sag, sai, sal, sab, K1, E1⟩ := spansOf_is l hl ga
    replace E1 : ∀ k, K1 ≤ k → impl_spansOf.f k l = some sa := E1
    obtain ⟨q, qC, K3, E3⟩ := meet_tail sa [⟨0, a - 1⟩, ⟨a + sz n - 1 + 1, 4294967295⟩] (by omega) (by simp) sag.srt (by
      unfold Gaps
      simp only [kj, List.map_nil, spn, List.pairwise_cons, kk, forall_eq, kp, false_implies, implies_true, List.Pairwise.nil, and_true]
      omega) (fun s hs => ⟨(sab s hs).1, (sab s hs).2.2⟩)
    obtain ⟨fa, fC, fl, K4, E4⟩ := spec_l3Fewest_is l (by omega) ga
    have gfa : ∀ q, q ∈ fa → good q.f0 q.f1 = true := fun q hq => (fC.max (pr q) (kq.2 ⟨q, hq, rfl⟩)).1
    obtain ⟨r, rC, K6, E6⟩ := spec_CutPrefix_l0 fa (by omega) gfa (a, n) hp fa [] [] (fun _ => False) rfl ⟨by simp [Srt], fun p hp => by simp at hp, fun x hx => hx.elim⟩ (by simp; omega)
    have e : q = r := map_pr_inj (qC.unique (rC.congr (fun x => by
      rw [sai x, fC.inL x]
      constructor
      · rintro (h | ⟨h1, h2⟩)
        · exact h.elim
        · refine ⟨h1, ?_⟩
          have hx : 0 ≤ x ∧ x ≤ 4294967295 := by
            obtain ⟨t, ht, h3⟩ := h1
            obtain ⟨u, hu, rfl⟩ := kq.1 ht
            have g := ga u hu
            have g2 := good_end g
            have g3 := (good_iff.1 g).2.2.1
            have h4 : u.f0 ≤ x := h3.1
            have h5 : x ≤ u.f0 + sz u.f1 - 1 := h3.2
            omega
          unfold inP last at h2
          dsimp only at h2
          by_cases hc : x < a
          · exact ⟨(0, a - 1), by simp [spn], by dsimp only; omega⟩
          · exact ⟨(a + sz n - 1 + 1, 4294967295), by simp [spn], by dsimp only; omega⟩
      · rintro ⟨h1, t, ht, h2⟩
        refine .inr ⟨h1, fun h3 => ?_⟩
        unfold inP last at h3
        dsimp only at h3
        simp only [kj, List.map_nil, spn, kd, kp, or_false] at ht
        rcases ht with rfl | rfl
        · dsimp only at h2; omega
        · dsimp only at h2; omega)))
    subst e
    refine ⟨if (q.length : Int) > 64 then ([], false) else (q, true), ⟨K1 + K3 + K4 + K6 + l.length + 2, fun k hk => ?_⟩, ⟨K1 + K3 + K4 + K6 + l.length + 2, fun k hk => ?_⟩, ?_, ?_⟩
    · show spec_CutPrefix.f k l a n = _
      obtain ⟨k, rfl⟩ : ∃ k', k = k' + 1 := ⟨k - 1, by omega⟩
      unfold spec_CutPrefix.f
      rw [spec_l3Good_is (k + 1) l hl (by omega), kz, if_pos o1, spec_GoodPrefix_is, kz, h.2]
      simp only [spec_CutPrefix.j0, km]
      rw [if_neg (by simp), E4 k (by omega), kz]
      refine (E6 k (by omega)).trans ?_
      split <;> rfl
    · show impl_CutPrefix.f k l a n = _
      obtain ⟨k, rfl⟩ : ∃ k', k = k' + 1 := ⟨k - 1, by omega⟩
      unfold impl_CutPrefix.f
      rw [impl_arePrefixes_is (k + 1) l hl (by omega), kz, if_pos o1, impl_GoodPrefix_is, kz, h.2]
      simp only [impl_CutPrefix.j0, km]
      obtain ⟨m, hm1, hm2⟩ := E3 k (by omega)
      rw [if_neg (by simp), impl_Prefix_end_is h.2, kz, E1 k (by omega), kz, wrap_id (by omega) (by omega), wrap_id (by omega) (by omega), hm1, kz, hm2, kz]
      unfold impl_setOf.f
      split <;> rfl
    · split
      · simp
      · show q.length ≤ 64; omega
    · split
      · intro hf; cases hf
      · intro _; exact ⟨h.1, h.2, rC.congr (fun x => by
          rw [fC.inL x]
          exact ⟨fun h => h.elim False.elim id, .inr⟩)⟩
  · exact ⟨([], false), ⟨l.length + 2, fun k hk => (none1 k (by omega) h).1⟩, ⟨l.length + 2, fun k hk => (none1 k (by omega) h).2⟩, by simp, fun hf => by cases hf⟩
theorem RangeOf_full (a b : Int) : ∃ r, Ev (fun k => spec_RangeOf.f k a b) r ∧ Ev (fun k => impl_RangeOf.f k a b) r ∧ r.1.length ≤ 64 ∧ (r.2 = true → 0 ≤ a ∧ b ≤ 4294967295 ∧ a ≤ b ∧ Canon (fun x => a ≤ x ∧ x ≤ b) (r.1.map pr)) := by
  by_cases h : (0 ≤ a ∧ a ≤ 4294967295) ∧ (0 ≤ b ∧ b ≤ 4294967295) ∧ ¬ a > b
  · obtain ⟨ha, hb, hab⟩ := h
    obtain ⟨r, hr, C⟩ := spec_l3Range_all (a := a) (b := b) ha.1 hb.2 99 (Nat.le_refl _)
    have hg : Gapped ([(⟨a, b⟩ : S74)].map spn) := ⟨by simp, fun s hs => by
      have : s = (a, b) := by simpa [spn] using hs
      rw [this]; simp; omega⟩
    obtain ⟨g, R, E⟩ := prefixesIn_is [(⟨a, b⟩ : S74)] (by simp) hg (fun s hs => by
      have : s = ⟨a, b⟩ := by simpa using hs
      rw [this]; exact ⟨ha.1, hb.2⟩)
    have C2 := R.canon hg
    have C3 : Canon (fun x => a ≤ x ∧ x ≤ b) (g.flatten.map pr) := C2.congr (fun x => by simp [inS, spn])
    have e : g.flatten = r := map_pr_inj (C3.unique C)
    rw [e] at E
    refine ⟨(r, true), ⟨99, fun k hk => ?_⟩, ?_, by have := range_le C; simpa using this, fun _ => ⟨ha.1, hb.2, by omega, C⟩⟩
    · have hr2 := at_rounds (fun k => spec_l3Range.mono _ _ _ _ _ k) hk hr
      simp only [spec_RangeOf.f]
      rw [spec_l1Addr_is, kz, if_pos (decide_eq_true ha), spec_l1Addr_is, kz, if_pos (decide_eq_true hb), if_neg hab, hr2]; rfl
    · refine Ev.congr (f := fun k => (impl_prefixesIn.f k [(⟨a, b⟩ : S74)]).bind fun t => some (t, true)) (fun k => ?_) (Ev.bind E (Ev.now _))
      simp only [impl_RangeOf.f]
      rw [impl_isAddr_is, kz, if_pos (decide_eq_true ha), impl_isAddr_is, kz, if_pos (decide_eq_true hb), if_neg hab]
  · refine ⟨([], false), ⟨0, fun k _ => ?_⟩, ⟨0, fun k _ => ?_⟩, by simp, fun hf => by cases hf⟩
    · simp only [spec_RangeOf.f]
      rw [spec_l1Addr_is, kz]
      by_cases h1 : 0 ≤ a ∧ a ≤ 4294967295
      · rw [if_pos (decide_eq_true h1), spec_l1Addr_is, kz]
        by_cases h2 : 0 ≤ b ∧ b ≤ 4294967295
        · rw [if_pos (decide_eq_true h2), if_pos]
          by_cases h3 : a > b
          · exact h3
          · exact absurd ⟨h1, h2, h3⟩ h
        · rw [if_neg (by simpa using h2)]
      · rw [if_neg (by simpa using h1)]
    · simp only [impl_RangeOf.f]
      rw [impl_isAddr_is, kz]
      by_cases h1 : 0 ≤ a ∧ a ≤ 4294967295
      · rw [if_pos (decide_eq_true h1), impl_isAddr_is, kz]
        by_cases h2 : 0 ≤ b ∧ b ≤ 4294967295
        · rw [if_pos (decide_eq_true h2), if_pos]
          by_cases h3 : a > b
          · exact h3
          · exact absurd ⟨h1, h2, h3⟩ h
        · rw [if_neg (by simpa using h2)]
      · rw [if_neg (by simpa using h1)]
theorem samePrefixes_l0 (a b : List S45) (hl : a.length ≤ 1048576) (he : a.length = b.length) : ∀ (ra pa rb pb : List S45) (k : Nat), a = pa ++ ra → b = pb ++ rb → pa.length = pb.length → ra.length < k →
    laws_samePrefixes.l0 k a b (a.length : Int) (pa.length : Int) = some (decide (ra.map pr = rb.map pr)) := by
  intro ra
  induction ra with
  | nil =>
    intro pa rb pb k e1 e2 e3 hk
    obtain ⟨k, rfl⟩ : ∃ k', k = k' + 1 := ⟨k - 1, by omega⟩
    have : rb = [] := by
      rw [e1, e2] at he
      simp at he
      exact List.length_eq_zero_iff.1 (by omega)
    subst this
    rw [laws_samePrefixes.l0, if_neg (by rw [e1]; simp)]
    simp
  | cons x ra ih =>
    intro pa rb pb k e1 e2 e3 hk
    rw [ky] at hk
    obtain ⟨k, rfl⟩ : ∃ k', k = k' + 1 := ⟨k - 1, by omega⟩
    have hlen : pa.length < a.length := by rw [e1]; simp
    rcases rb with _ | ⟨y, rb⟩
    · rw [e1, e2] at he; simp at he; omega
    have h1 : rd_T45 a (pa.length : Int) = x := by rw [e1]; exact rdm_Prefix _ _ _
    have h2 : rd_T45 b (pa.length : Int) = y := by rw [e2, e3]; exact rdm_Prefix _ _ _
    have hw : wrap64 ((pa.length : Int) + 1) = ((pa ++ [x]).length : Int) := by rw [wrap_id (by omega) (by omega)]; simp
    rw [laws_samePrefixes.l0, if_pos (by omega), if_pos (len_nn _), if_pos (by omega), if_pos (by omega), h1, h2, hw]
    by_cases hxy : pr x = pr y
    · have i1 : x.f0 = y.f0 := congrArg Prod.fst hxy
      have i2 : x.f1 = y.f1 := congrArg Prod.snd hxy
      rw [if_neg (by simp [i1, i2]), ih (pa ++ [x]) rb (pb ++ [y]) k (by rw [e1]; simp) (by rw [e2]; simp) (by simp [e3]) (by omega)]
      simp [hxy]
    · have : ¬ (x.f0 = y.f0 ∧ x.f1 = y.f1) := fun h => hxy (Prod.ext h.1 h.2)
      rw [if_pos (by
        rw [Bool.or_eq_true, Bool.not_eq_true', Bool.not_eq_true', beq_eq_false_iff_ne, beq_eq_false_iff_ne]
        by_cases e : x.f0 = y.f0
        · exact .inr (fun h => this ⟨e, h⟩)
        · exact .inl e)]
      simp [hxy]
theorem samePrefixes_is (a b : List S45) (hl : a.length ≤ 1048576) (k : Nat) (hk : a.length < k) : laws_samePrefixes.f k a b = some (decide (a.map pr = b.map pr)) := by
  unfold laws_samePrefixes.f
  by_cases h : a.length = b.length
  · rw [if_pos (by omega)]
    exact samePrefixes_l0 a b hl h a [] b [] k rfl rfl rfl hk
  · rw [if_neg (by omega)]
    have : ¬ a.map pr = b.map pr := fun e => h (by have := congrArg List.length e; simpa using this)
    simp [this]
theorem okL_of {l : List S45} (h : l.length ≤ 64) (hg : ∀ p, p ∈ l → good p.f0 p.f1 = true) : okL l = true := by
  unfold okL
  rw [kb]
  refine ⟨decide_eq_true h, kn.2 (fun p hp => ?_)⟩
  obtain ⟨q, hq, rfl⟩ := kq.1 hp
  exact hg q hq
theorem okL_canon {S : Int → Prop} {l : List S45} (h : l.length ≤ 64) (hC : Canon S (l.map pr)) : okL l = true := okL_of h (fun p hp => (hC.max (pr p) (kq.2 ⟨p, hp, rfl⟩)).1)
theorem setHas_iff (l : List Pr) (x : Int) : setHas l x = true ↔ inL l x := by
  unfold setHas
  rw [ks]
  constructor
  · rintro ⟨p, hp, h⟩
    have h2 : p.1 ≤ x ∧ x ≤ p.1 + sz p.2 - 1 := of_decide_eq_true h
    exact ⟨p, hp, h2⟩
  · rintro ⟨p, hp, h⟩
    have h2 : p.1 ≤ x ∧ x ≤ p.1 + sz p.2 - 1 := h
    exact ⟨p, hp, decide_eq_true h2⟩
theorem setHasR_ok {l : List S45} (h : okL l = true) {x : Int} (hx : 0 ≤ x ∧ x ≤ 4294967295) : setHasR (l.map pr) x = (setHas (l.map pr) x, true) := by
  unfold setHasR
  have : (decide ((l.map pr).length ≤ 64) && (l.map pr).all (fun p => good p.1 p.2)) = true := by
    rw [ke]; exact h
  rw [if_pos ⟨this, hx⟩]
theorem setHasR_two {l : List S45} {x : Int} (h : (setHasR (l.map pr) x).2 = true) : okL l = true ∧ (0 ≤ x ∧ x ≤ 4294967295) := by
  unfold setHasR at h
  split at h
  · rename_i hc
    rw [ke] at hc
    exact hc
  · cases h
theorem spec_FewestOf_draw (l : List S45) (hl : l.length ≤ 1000) : ∃ r : List S45 × Bool, (∃ K, ∀ k, K ≤ k → spec_FewestOf.f k l = some r) ∧ r.1.length ≤ l.length := by
  by_cases h : (decide (l.length ≤ 64) && (l.map pr).all (fun p => good p.1 p.2)) = true
  · have hg : ∀ p, p ∈ l → good p.f0 p.f1 = true := fun p hp => by
      rw [kb] at h
      exact kn.1 h.2 (pr p) (kq.2 ⟨p, hp, rfl⟩)
    obtain ⟨q, qC, ql, K3, E3⟩ := spec_l3Fewest_is l hl hg
    refine ⟨(q, true), ⟨K3 + l.length + 1, fun k hk => ?_⟩, ql⟩
    unfold spec_FewestOf.f
    rw [spec_l3Good_is k l (by omega) (by omega), kz, if_pos h, E3 k (by omega), kz]
  · refine ⟨([], false), ⟨l.length + 1, fun k hk => ?_⟩, by simp⟩
    unfold spec_FewestOf.f
    rw [spec_l3Good_is k l (by omega) (by omega), kz, if_neg h]
theorem DrawSame_l0 {c : List Int} (hc : Bts c) (x5 x6 x33 : List S45) (hx : x33.length ≤ 1000) : ∀ (rest pre x8 : List S45) (i s : Int), x33 = pre ++ rest → x8.length + 2 * rest.length ≤ 2000 → 0 ≤ i → i + 2 * rest.length ≤ 100000 →
    ∃ r, (∀ k, spec_DrawSameAddrs.l0 (k + rest.length + 1) x5 x6 x8 x33 (x33.length : Int) (pre.length : Int) c i s = some (x5, r)) ∧ r.length ≤ 2000 := by
  intro rest
  induction rest with
  | nil =>
    intro pre x8 i s e hl h0 h1
    refine ⟨x8, fun k => ?_, by omega⟩
    rw [spec_DrawSameAddrs.l0, if_neg (by rw [e]; simp)]
  | cons q rest ih =>
    intro pre x8 i s e hl h0 h1
    rw [ky] at hl h1
    have hlen : pre.length < x33.length := by rw [e]; simp
    have h2 : rd_T45 x33 (pre.length : Int) = q := by rw [e]; exact rdm_Prefix _ _ _
    have hw : wrap64 ((pre.length : Int) + 1) = ((pre ++ [q]).length : Int) := by rw [wrap_id (by omega) (by omega)]; simp
    have hk : ∀ k, k + (q :: rest).length + 1 = (k + rest.length + 1) + 1 := fun k => by simp; omega
    have e2 : x33 = (pre ++ [q]) ++ rest := by rw [e]; simp
    obtain ⟨b, i1, s1, e3, a1, b1⟩ := one_ok hc s (n := 2) h0 (by omega) (by omega)
    by_cases hh : (halvesOf q.f0 q.f1).2.2.2.2 = true
    · by_cases hb : b = true
      · by_cases h20 : (x6.length : Int) < 20
        · obtain ⟨r, e4, h4⟩ := ih (pre ++ [q]) (x8 ++ [⟨(halvesOf q.f0 q.f1).2.2.1, (halvesOf q.f0 q.f1).2.2.2.1⟩, ⟨(halvesOf q.f0 q.f1).1, (halvesOf q.f0 q.f1).2.1⟩]) i1 s1 e2 (by simp; omega) (by omega) (by omega)
          refine ⟨r, fun k => ?_, h4⟩
          rw [hk, spec_DrawSameAddrs.l0, if_pos (by omega), if_pos (len_nn _), if_pos (by omega), h2, spec_HalvesOf_is, kz, if_pos hh, e3, kz]
          dsimp only
          rw [if_pos hb, if_pos h20, kz, if_pos (by simp; omega), hw]
          exact e4 k
        · obtain ⟨r, e4, h4⟩ := ih (pre ++ [q]) (x8 ++ [⟨q.f0, q.f1⟩]) i1 s1 e2 (by simp; omega) (by omega) (by omega)
          refine ⟨r, fun k => ?_, h4⟩
          rw [hk, spec_DrawSameAddrs.l0, if_pos (by omega), if_pos (len_nn _), if_pos (by omega), h2, spec_HalvesOf_is, kz, if_pos hh, e3, kz]
          dsimp only
          rw [if_pos hb, if_neg h20, if_pos (by omega), hw]
          exact e4 k
      · obtain ⟨r, e4, h4⟩ := ih (pre ++ [q]) (x8 ++ [⟨q.f0, q.f1⟩]) i1 s1 e2 (by simp; omega) (by omega) (by omega)
        refine ⟨r, fun k => ?_, h4⟩
        rw [hk, spec_DrawSameAddrs.l0, if_pos (by omega), if_pos (len_nn _), if_pos (by omega), h2, spec_HalvesOf_is, kz, if_pos hh, e3, kz]
        dsimp only
        rw [if_neg hb, if_pos (by omega), hw]
        exact e4 k
    · obtain ⟨r, e4, h4⟩ := ih (pre ++ [q]) (x8 ++ [⟨q.f0, q.f1⟩]) i s e2 (by simp; omega) (by omega) (by omega)
      refine ⟨r, fun k => ?_, h4⟩
      rw [hk, spec_DrawSameAddrs.l0, if_pos (by omega), if_pos (len_nn _), if_pos (by omega), h2, spec_HalvesOf_is, kz, if_neg hh, if_pos (by omega), hw]
      exact e4 k
theorem DrawSameAddrs_ok {c : List Int} (hc : Bts c) : ∃ a b : List S45, (∃ K, ∀ k, K ≤ k → spec_DrawSameAddrs.f k c = some (a, b)) ∧ a.length ≤ 2000 ∧ b.length ≤ 2000 := by
  obtain ⟨l, i, s, ⟨K, hK⟩, hl, h0, h1⟩ := prefixes_ok hc 0 0 (by omega) (by omega)
  obtain ⟨r, ⟨K1, e1⟩, F1⟩ := spec_FewestOf_draw l (by omega)
  have hr : r.1.length ≤ 200 := by omega
  have yes : ∀ i s, 0 ≤ i → i ≤ 5000 → ∃ b : List S45, (∃ K, ∀ k, K ≤ k → spec_DrawSameAddrs.j0 k l r.1 true c i s = some (l, b)) ∧ b.length ≤ 2000 := fun i s h2 h3 => by
    obtain ⟨b, i2, s2, ⟨K2, e2⟩, hb, _⟩ := prefixes_ok hc i s h2 (by omega)
    refine ⟨b, ⟨K2 + 1, fun k hk => ?_⟩, by omega⟩
    obtain ⟨k, rfl⟩ : ∃ k', k = k' + 1 := ⟨k - 1, by omega⟩
    rw [spec_DrawSameAddrs.j0, if_pos rfl, e2 k (by omega), kz]
  by_cases h2 : r.2 = true
  · obtain ⟨b, i1, s1, e, a1, b1⟩ := one_ok hc s (n := 2) h0 (by omega) (by omega)
    cases b with
    | true =>
      obtain ⟨b, ⟨K2, e2⟩, hb⟩ := yes i1 s1 (by omega) (by omega)
      refine ⟨l, b, ⟨K + K1 + K2, fun k hk => ?_⟩, by omega, hb⟩
      unfold spec_DrawSameAddrs.f
      rw [hK k (by omega), kz]
      dsimp only
      rw [e1 k (by omega), kz, if_pos h2, e, kz]
      exact e2 k (by omega)
    | false =>
      obtain ⟨b, e2, hb⟩ := DrawSame_l0 hc l r.1 r.1 (by omega) r.1 [] [] i1 s1 rfl (by simp; omega) (by omega) (by omega)
      refine ⟨l, b, ⟨K + K1 + r.1.length + 2, fun k hk => ?_⟩, by omega, hb⟩
      obtain ⟨k, rfl⟩ : ∃ k', k = (k' + r.1.length + 1) + 1 := ⟨k - (r.1.length + 1 + 1), by omega⟩
      unfold spec_DrawSameAddrs.f
      rw [hK _ (by omega), kz]
      dsimp only
      rw [e1 _ (by omega), kz, if_pos h2, e, kz]
      dsimp only
      rw [spec_DrawSameAddrs.j0, if_neg (by simp)]
      exact e2 k
  · obtain ⟨b, ⟨K2, e2⟩, hb⟩ := yes i s h0 (by omega)
    refine ⟨l, b, ⟨K + K1 + K2, fun k hk => ?_⟩, by omega, hb⟩
    unfold spec_DrawSameAddrs.f
    rw [hK k (by omega), kz]
    dsimp only
    rw [e1 k (by omega), kz, if_neg h2]
    exact e2 k (by omega)
theorem DrawRangeOf_ok {c : List Int} (hc : Bts c) : ∃ fr tt : Int, spec_DrawRangeOf.f c = some (fr, tt) := by
  obtain ⟨a, i, s, e, _, _, h1, h2⟩ := addr_ok hc 0 (i := 0) (by omega) (by omega)
  obtain ⟨v, i1, s1, e1, _⟩ := among_ok hc s [(-1), 0, 1, 5, 255, 65536] (i := i) (by omega) (by omega) (by simp) (by simp)
  unfold spec_DrawRangeOf.f
  rw [e, kz]
  dsimp only
  rw [e1, kz]
  exact ⟨_, _, rfl⟩
theorem DrawCutPrefix_ok {c : List Int} (hc : Bts c) : ∃ (l : List S45) (a n : Int), (∃ K, ∀ k, K ≤ k → spec_DrawCutPrefix.f k c = some (l, a, n)) ∧ l.length ≤ 200 := by
  obtain ⟨l, i, s, ⟨K, hK⟩, hl, h0, h1⟩ := prefixes_ok hc 0 0 (by omega) (by omega)
  obtain ⟨a, n, i1, s1, e, _⟩ := prefix_ok hc s h0 (by omega)
  refine ⟨l, a, n, ⟨K, fun k hk => ?_⟩, hl⟩
  unfold spec_DrawCutPrefix.f
  rw [hK k hk, kz]
  dsimp only
  rw [e, kz]
theorem DrawMeetSets_ok {c : List Int} (hc : Bts c) : ∃ a b : List S45, (∃ K, ∀ k, K ≤ k → spec_DrawMeetSets.f k c = some (a, b)) ∧ a.length ≤ 2000 ∧ b.length ≤ 2000 := by
  obtain ⟨a, b, ⟨K, hK⟩, h⟩ := DrawSameAddrs_ok hc
  refine ⟨a, b, ⟨K, fun k hk => ?_⟩, h⟩
  unfold spec_DrawMeetSets.f
  rw [hK k hk, kz]
theorem numberOf_l0 {c : List Int} (hc : Bts c) : ∀ (rest pre : List Int) (x : Int) (k : Nat), c = pre ++ rest → 0 ≤ x → x ≤ 1000003 → rest.length < k → ∃ r, laws_numberOf.l0 k x c (c.length : Int) (pre.length : Int) = some r ∧ 0 ≤ r ∧ r ≤ 1000003 := by
  intro rest
  induction rest with
  | nil =>
    intro pre x k e h0 h1 hk
    obtain ⟨k, rfl⟩ : ∃ k', k = k' + 1 := ⟨k - 1, by omega⟩
    exact ⟨x, by rw [laws_numberOf.l0, if_neg (by rw [e]; simp)], h0, h1⟩
  | cons b rest ih =>
    intro pre x k e h0 h1 hk
    rw [ky] at hk
    obtain ⟨k, rfl⟩ : ∃ k', k = k' + 1 := ⟨k - 1, by omega⟩
    have hl := hc.1
    have hlen : pre.length < c.length := by rw [e]; simp
    have hb := hc.2 b (by rw [e]; simp)
    have h2 : rd c (pre.length : Int) = b := by rw [e]; exact rd_mid _ _ _
    have hw : wrap64 ((pre.length : Int) + 1) = ((pre ++ [b]).length : Int) := by rw [wrap_id (by omega) (by omega)]; simp
    have m0 := Int.tmod_nonneg (a := 31 * x + b) 1000003 (by omega)
    have m1 := Int.tmod_lt_of_pos (31 * x + b) (b := 1000003) (by omega)
    obtain ⟨r, e1, hr⟩ := ih (pre ++ [b]) (Int.tmod (31 * x + b) 1000003) k (by rw [e]; simp) m0 (by omega) (by omega)
    refine ⟨r, ?_, hr⟩
    rw [laws_numberOf.l0, if_pos (by omega), if_pos (by omega), if_pos (by omega), h2, hw, wrap_id (x := 31 * x) (by omega) (by omega), wrap_id (x := b) (by omega) (by omega), wrap_id (x := 31 * x + b) (by omega) (by omega)]
    exact e1
theorem numberOf_ok {c : List Int} (hc : Bts c) : ∃ n : Int, 0 ≤ n ∧ n ≤ 1000003 ∧ ∃ K, ∀ k, K ≤ k → laws_numberOf.f k c = some n := by
  obtain ⟨n, e, h0, h1⟩ := numberOf_l0 hc c [] 0 (c.length + 1) rfl (by omega) (by omega) (by omega)
  refine ⟨n, h0, h1, c.length + 1, fun k hk => ?_⟩
  obtain ⟨n', e', _⟩ := numberOf_l0 hc c [] 0 k rfl (by omega) (by omega) (by omega)
  have h3 : laws_numberOf.l0 k 0 c (c.length : Int) 0 = some n := at_rounds (fun k => laws_numberOf.mono_l k _ _ _ _) (show c.length + 1 ≤ k by omega) e
  exact h3
theorem CountAddrs_impl (l : List S45) (hl : l.length ≤ 1048576) : ∃ r, Ev (fun k => impl_CountAddrs.f k l) r ∧ (okL l = true → ∀ q, Canon (inL (l.map pr)) q → r = (total q, true)) := by
  by_cases h : okL l = true
  · obtain ⟨h64, hg⟩ := okL_facts h
    obtain ⟨rs, hgap, hin, hlen, hb, K1, E1⟩ := spansOf_is l hl hg
    refine ⟨(totalS (rs.map spn), true), ⟨K1 + l.length + 1, fun k hk => ?_⟩, fun _ q hq => ?_⟩
    · show impl_CountAddrs.f k l = _
      unfold impl_CountAddrs.f
      replace E1 : impl_spansOf.f k l = some rs := E1 k (by omega)
      rw [impl_arePrefixes_is k l hl (by omega), kz, if_pos (show (decide (l.length ≤ 64) && (l.map pr).all (fun p => good p.1 p.2)) = true from h), E1, kz]
      refine (impl_Count_l0 rs (by omega) (fun s hs => ⟨(hb s hs).1, hgap.ne (spn s) (kq.2 ⟨s, hs, rfl⟩), (hb s hs).2.2⟩) rs [] 0 k rfl (by omega) (by simp) (by omega)).trans ?_
      rw [Int.zero_add]
    · rw [canon_total hgap (fun s hs => by
        obtain ⟨t, ht, rfl⟩ := kq.1 hs
        exact ⟨(hb t ht).1, (hb t ht).2.2⟩) (hq.congr (fun x => (hin x).symm))]
  · refine ⟨(0, false), ⟨l.length + 1, fun k hk => ?_⟩, fun hn => (h hn).elim⟩
    show impl_CountAddrs.f k l = _
    unfold impl_CountAddrs.f
    rw [impl_arePrefixes_is k l hl (by omega), kz, if_neg (show ¬ (decide (l.length ≤ 64) && (l.map pr).all (fun p => good p.1 p.2)) = true from h)]

end FnRangesUses
open Go.RowKit Go.Proofs.Ytabejlfejlpkeaa.PFnRanges Go.Proofs.YtabejlfejlpkeaaW.PrintWords Go.Proofs.YtabejlfejlpkeaaW.PrintLast Go.Proofs.YtabejlfejlpkeaaW.PrintMore Go.Proofs.Ytabejlfejlpkeaa.Pfx Go.Proofs.Ytabejlfejlpkeaa.Loop Go.Proofs.Ytabejlfejlpkeaa.Tbl FnRangesUses
open Option renaming bind_some → kz
open List renaming mem_map → kq, length_cons → ky, map_cons → kj, mem_singleton → kk, length_append → kv, map_append → kh, mem_append → kg, length_map → ke, mem_cons → kd, length_singleton → ko, nil_append → kx, mem_cons_of_mem → ku, any_eq_true → ks, not_mem_nil → kp, all_eq_true → kn, filterMap_cons → kl
open Bool renaming and_eq_true → kb, not_true → km, true_and → kt, eq_iff_iff → kr, false_and → ki
open Int renaming tmod_eq_emod_of_nonneg → kc
set_option linter.unusedVariables false
theorem FnRanges : laws_FnRanges.Pure := by
  intro l0 l1 m0 w0 b0 m1 w1 b1
  have hbt : ∀ c : List Int, c.length * 1 ≤ 140737488351232 → (∀ x ∈ c, (Lit.int .u8 x).wf = true) → Bts c := fun c h1 h2 => ⟨by omega, fun x hx => by
    have := h2 x hx
    simp [Lit.wf, IntKind.min, IntKind.max, IntKind.signed, IntKind.bits] at this
    omega⟩
  have hc0 := hbt l0 w0 b0
  have hc1 := hbt l1 w1 b1
  by_cases hsz : wrap64 ((l0.length : Int) + (l1.length : Int)) > 1048576
  · exact ⟨0, by unfold laws_FnRanges.f; rw [if_pos hsz]⟩
  obtain ⟨fr, tt, hD⟩ := DrawRangeOf_ok hc0
  obtain ⟨l, pa, pn, ⟨K0, hE⟩, hll⟩ := DrawCutPrefix_ok hc0
  obtain ⟨a, b, ⟨K1, hG⟩, hal, hbl⟩ := DrawMeetSets_ok hc1
  obtain ⟨R, ⟨K2, r1⟩, ⟨K3, r2⟩, R64, Rc⟩ := RangeOf_full fr tt
  obtain ⟨C, ⟨K4, c1⟩, ⟨K5, c2⟩, C64, Cc⟩ := CutPrefix_full l pa pn (by omega)
  obtain ⟨M, ⟨K6, e1⟩, ⟨K7, e2⟩, M64, Mc⟩ := MeetSets_full a b (by omega) (by omega)
  obtain ⟨N, N0, N1, K8, n1⟩ := numberOf_ok hc1
  obtain ⟨T, ⟨K9, t2⟩, T1⟩ := CountAddrs_impl R.1 (by omega)
  obtain ⟨K10, p1⟩ := impl_GoodSet_is R.1 (by omega)
  obtain ⟨K11, p2⟩ := impl_GoodSet_is C.1 (by omega)
  obtain ⟨K12, p3⟩ := impl_GoodSet_is M.1 (by omega)
  replace r1 : ∀ k, K2 ≤ k → spec_RangeOf.f k fr tt = some R := r1
  replace r2 : ∀ k, K3 ≤ k → impl_RangeOf.f k fr tt = some R := r2
  replace c1 : ∀ k, K4 ≤ k → spec_CutPrefix.f k l pa pn = some C := c1
  replace c2 : ∀ k, K5 ≤ k → impl_CutPrefix.f k l pa pn = some C := c2
  replace e1 : ∀ k, K6 ≤ k → spec_MeetSets.f k a b = some M := e1
  replace e2 : ∀ k, K7 ≤ k → impl_MeetSets.f k a b = some M := e2
  replace t2 : ∀ k, K9 ≤ k → impl_CountAddrs.f k R.1 = some T := t2
  replace p1 : ∀ k, K10 ≤ k → impl_GoodSet.f k R.1 = some (goodSet (R.1.map pr)) := p1
  replace p2 : ∀ k, K11 ≤ k → impl_GoodSet.f k C.1 = some (goodSet (C.1.map pr)) := p2
  replace p3 : ∀ k, K12 ≤ k → impl_GoodSet.f k M.1 = some (goodSet (M.1.map pr)) := p3
  obtain ⟨K, hK⟩ : ∃ K : Nat, K0 + K1 + K2 + K3 + K4 + K5 + K6 + K7 + K8 + K9 + K10 + K11 + K12 + 5000 ≤ K := ⟨_, Nat.le_refl _⟩
  have J6 : ∀ (ad : Int), 0 ≤ ad ∧ ad ≤ 4294967295 → ∀ k, K < k → laws_FnRanges.j6 k a b M.1 M.2 ad = some true := fun ad hx k hk => by
    obtain ⟨k, rfl⟩ : ∃ k', k = k' + 1 := ⟨k - 1, by omega⟩
    rw [laws_FnRanges.j6]
    by_cases hM : M.2 = true
    · obtain ⟨oa, ob, MC⟩ := Mc hM
      have oM : okL M.1 = true := okL_canon M64 MC
      have hgood : goodSet (M.1.map pr) = true := goodSet_canon (canon_self MC) (by simpa using M64)
      have key : setHas (M.1.map pr) ad = (setHas (a.map pr) ad && setHas (b.map pr) ad) := by
        rw [kr, kb, setHas_iff, setHas_iff, setHas_iff]
        exact MC.inL ad
      rw [if_pos hM, impl_SetHas_is k a ad (by omega) (by omega), kz, impl_SetHas_is k b ad (by omega) (by omega), kz, impl_SetHas_is k M.1 ad (by omega) (by omega), kz, setHasR_ok oa hx, setHasR_ok ob hx, setHasR_ok oM hx]
      dsimp only
      rw [if_pos rfl, if_pos rfl, if_pos rfl, key]
      cases h1 : setHas (a.map pr) ad with
      | true => rw [if_pos rfl, kt, if_neg (by simp), p3 k (by omega), kz, hgood, if_pos rfl]
      | false => rw [if_neg (by simp), ki, if_neg (by simp), p3 k (by omega), kz, hgood, if_pos rfl]
    · rw [if_neg hM]
  have J5 : ∀ (ad : Int), 0 ≤ ad ∧ ad ≤ 4294967295 → ∀ k, K + 1 < k → laws_FnRanges.j5 k l C.1 C.2 a b M.1 M.2 ad pa pn = some true := fun ad hx k hk => by
    obtain ⟨k, rfl⟩ : ∃ k', k = k' + 1 := ⟨k - 1, by omega⟩
    rw [laws_FnRanges.j5]
    by_cases hC : C.2 = true
    · obtain ⟨ol, op, CC⟩ := Cc hC
      have oC : okL C.1 = true := okL_canon C64 CC
      have hgood : goodSet (C.1.map pr) = true := goodSet_canon (canon_self CC) (by simpa using C64)
      have hHas : hasAddr pa pn ad = (decide (pa ≤ ad ∧ ad ≤ pa + sz pn - 1), true) := by unfold hasAddr; rw [if_pos ⟨op, hx⟩]
      have key : setHas (C.1.map pr) ad = (setHas (l.map pr) ad && !decide (pa ≤ ad ∧ ad ≤ pa + sz pn - 1)) := by
        rw [kr, kb, setHas_iff, setHas_iff, CC.inL ad, Bool.not_eq_true', decide_eq_false_iff_not]
        rfl
      rw [if_pos hC, impl_SetHas_is k l ad (by omega) (by omega), kz, impl_HasAddr_is, kz, impl_SetHas_is k C.1 ad (by omega) (by omega), kz, setHasR_ok ol hx, setHasR_ok oC hx, hHas]
      dsimp only
      rw [if_pos rfl, if_pos rfl, if_pos rfl, key]
      cases h1 : setHas (l.map pr) ad with
      | true =>
        rw [if_pos rfl, kt, if_neg (by simp), p2 k (by omega), kz, hgood, if_pos rfl]
        exact J6 ad hx k (by omega)
      | false =>
        rw [if_neg (by simp), ki, if_neg (by simp), p2 k (by omega), kz, hgood, if_pos rfl]
        exact J6 ad hx k (by omega)
    · rw [if_neg hC]
      exact J6 ad hx k (by omega)
  have J4 : ∀ k, K + 2 < k → laws_FnRanges.j4 k l1 l C.1 C.2 a b M.1 M.2 false pa pn = some true := fun k hk => by
    obtain ⟨k, rfl⟩ : ∃ k', k = k' + 1 := ⟨k - 1, by omega⟩
    rw [laws_FnRanges.j4, if_neg (by simp), n1 k (by omega), kz]
    generalize wrap64 (wrap64 (N * 4099) + pa) = X
    have hm := Int.tmod_lt_of_pos X (b := 4294967296) (by omega)
    by_cases h : Int.tmod X 4294967296 < 0
    · rw [if_pos h]
      exact J5 0 (by omega) k (by omega)
    · rw [if_neg h]
      exact J5 _ (by omega) k (by omega)
  have J3 : ∀ k, K + 3 < k → laws_FnRanges.j3 k l0 l1 = some true := fun k hk => by
    obtain ⟨k, rfl⟩ : ∃ k', k = k' + 1 := ⟨k - 1, by omega⟩
    rw [laws_FnRanges.j3, hE k (by omega), kz]
    dsimp only
    rw [c2 k (by omega), kz, c1 k (by omega), kz, hG k (by omega), kz]
    dsimp only
    rw [e2 k (by omega), kz, e1 k (by omega), kz, if_neg (by simp), samePrefixes_is C.1 C.1 (by omega) k (by omega), kz, if_pos (decide_eq_true rfl), if_neg (by simp), samePrefixes_is M.1 M.1 (by omega) k (by omega), kz, decide_eq_true rfl, km]
    exact J4 k (by omega)
  have J0 : ∃ M0 : Nat, ∀ k, M0 ≤ k → laws_FnRanges.j0 k l0 l1 fr tt R.1 R.2 false = some true := by
    by_cases hR : R.2 = true
    · obtain ⟨f0, f1, f2, RC⟩ := Rc hR
      have oR : okL R.1 = true := okL_canon R64 RC
      have hgood : goodSet (R.1.map pr) = true := goodSet_canon (canon_self RC) (by simpa using R64)
      have hT := T1 oR _ (canon_self RC)
      have htot : total (R.1.map pr) = tt - fr + 1 := by
        have hg : Gapped [(fr, tt)] := ⟨by simp, fun s hs => by rcases kk.1 hs with rfl; exact f2⟩
        have := canon_total hg (fun s hs => by rcases kk.1 hs with rfl; exact ⟨f0, f1⟩) (RC.congr (fun x => by rw [inS_one]))
        rw [this]
        simp [totalS]
      have hset : ∀ x, setHas (R.1.map pr) x = decide (fr ≤ x ∧ x ≤ tt) := fun x => by
        rw [kr, setHas_iff, decide_eq_true_iff]
        exact RC.inL x
      have loop : ∀ (y rest pre : List Int) (k : Nat), y.length ≤ 100 → y = pre ++ rest → K + 4 + rest.length < k → laws_FnRanges.l0 k l0 l1 fr tt R.1 y (y.length : Int) (pre.length : Int) = some true := by
        intro y rest
        induction rest with
        | nil =>
          intro pre k hy e hk
          obtain ⟨k, rfl⟩ : ∃ k', k = k' + 1 := ⟨k - 1, by omega⟩
          rw [laws_FnRanges.l0, if_neg (by rw [e]; simp)]
          exact J3 k (by simp at hk; omega)
        | cons x rest ih =>
          intro pre k hy e hk
          rw [ky] at hk
          obtain ⟨k, rfl⟩ : ∃ k', k = k' + 1 := ⟨k - 1, by omega⟩
          have hlen : pre.length < y.length := by rw [e]; simp
          have h2 : rd y (pre.length : Int) = x := by rw [e]; exact rd_mid _ _ _
          have hw : wrap64 ((pre.length : Int) + 1) = ((pre ++ [x]).length : Int) := by rw [wrap_id (by omega) (by omega)]; simp
          have hnext := ih (pre ++ [x]) k hy (by rw [e]; simp) (by omega)
          rw [laws_FnRanges.l0, if_pos (by omega), if_pos (by omega), if_pos (by omega), h2, hw, impl_SetHas_is k R.1 x (by omega) (by omega), kz]
          by_cases h3 : (setHasR (R.1.map pr) x).2 = true
          · obtain ⟨_, hx⟩ := setHasR_two h3
            rw [if_pos h3, setHasR_ok oR hx]
            dsimp only
            rw [hset x]
            by_cases h4 : x ≥ fr
            · rw [if_pos h4, if_neg (by
                have : decide (fr ≤ x ∧ x ≤ tt) = decide (x ≤ tt) := decide_eq_decide.2 ⟨fun h => h.2, fun h => ⟨h4, h⟩⟩
                rw [this]; simp)]
              exact hnext
            · rw [if_neg h4, if_neg (by
                have : decide (fr ≤ x ∧ x ≤ tt) = false := decide_eq_false (fun h => h4 h.1)
                rw [this]; simp)]
              exact hnext
          · rw [if_neg h3]
            exact hnext
      refine ⟨K + 20, fun k hk => ?_⟩
      obtain ⟨k, rfl⟩ : ∃ k', k = k' + 1 + 1 := ⟨k - 2, by omega⟩
      rw [laws_FnRanges.j0, if_neg (by simp), if_pos hR, t2 _ (by omega), kz, hT]
      dsimp only
      rw [if_pos rfl, if_pos (by rw [htot, wrap_id (x := tt - fr) (by omega) (by omega), wrap_id (by omega) (by omega)]), p1 _ (by omega), kz, hgood, km, laws_FnRanges.j1, if_neg (by simp), kz]
      exact loop _ _ [] k (by simp) rfl (by simp; omega)
    · refine ⟨K + 20, fun k hk => ?_⟩
      obtain ⟨k, rfl⟩ : ∃ k', k = k' + 1 := ⟨k - 1, by omega⟩
      rw [laws_FnRanges.j0, if_neg (by simp), if_neg hR]
      exact J3 k (by omega)
  obtain ⟨M0, hM0⟩ := J0
  refine ⟨K + M0, ?_⟩
  unfold laws_FnRanges.f
  rw [if_neg hsz, hD, kz]
  dsimp only
  rw [r2 _ (by omega), kz, r1 _ (by omega), kz, if_neg (by simp), samePrefixes_is R.1 R.1 (by omega) _ (by omega), kz, decide_eq_true rfl, km]
  exact hM0 _ (by omega)
end Go.Proofs.Ytabejlfejlpkeaa.Pure
