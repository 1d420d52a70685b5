/- The pure statement of FnFewest: what the printed functions tell is what the reference tells. No condition but the arguments' own bounds. -/
import Derived.Test.YtabejlfejlpkeaaYFnFewestx20
import Derived.Test.YtabejlfejlpkeaaQFnFewest
namespace Go.Proofs.Ytabejlfejlpkeaa.Pure
namespace FnFewestUses
open Go.RowKit Go.Proofs.Ytabejlfejlpkeaa.PFnFewest Go.Proofs.YtabejlfejlpkeaaW.PrintWords Go.Proofs.YtabejlfejlpkeaaW.PrintLast Go.Proofs.YtabejlfejlpkeaaW.PrintMore Go.Proofs.Ytabejlfejlpkeaa.Pfx Go.Proofs.Ytabejlfejlpkeaa.Loop Go.Proofs.Ytabejlfejlpkeaa.Tbl
open Option renaming bind_some → kz
open List renaming mem_map → kq, length_append → ky, length_singleton → kj, map_cons → kk, length_cons → kv, map_append → kg, length_map → ke, all_eq_true → kc, length_nil → ko, nil_append → kx, any_eq_true → km, map_singleton → ku, mem_singleton → ks, length_eq_zero_iff → kt, mem_cons → kp, mem_append → kl
open Bool renaming and_eq_true → kh, true_and → kd, false_or → kr, eq_iff_iff → kn
open Int renaming tmod_eq_emod_of_nonneg → kb
set_option linter.unusedVariables false
set_option linter.unusedSimpArgs false

theorem spec_l1In_is (a lo hi : Int) : spec_l1In.f a lo hi = some (decide (lo ≤ a ∧ a ≤ hi)) := by
  unfold spec_l1In.f
  by_cases h : lo ≤ a
  · rw [if_pos h]; simp [h]
  · rw [if_neg h]; simp [h]
theorem impl_within_is (a lo hi : Int) : impl_within.f a lo hi = some (decide (lo ≤ a ∧ a ≤ hi)) := by
  unfold impl_within.f
  by_cases h : lo ≤ a
  · rw [if_pos h]; simp [h]
  · rw [if_neg h]; simp [h]
theorem spec_l1Addr_is (a : Int) : spec_l1Addr.f a = some (decide (0 ≤ a ∧ a ≤ 4294967295)) := by
  unfold spec_l1Addr.f; rw [spec_l1In_is]; rfl
theorem impl_isAddr_is (a : Int) : impl_isAddr.f a = some (decide (0 ≤ a ∧ a ≤ 4294967295)) := by
  unfold impl_isAddr.f; rw [impl_within_is]; rfl
theorem impl_sizeOf_is {n : Int} (h0 : 0 ≤ n) (h1 : n ≤ 32) : impl_sizeOf.f n = some (sz n) := by
  unfold impl_sizeOf.f
  rw [shl_sz h0 h1, if_pos (by rw [wrap_id (by omega) (by omega)]; omega)]
theorem spec_l1Size_is (a : Int) {n : Int} (h0 : 0 ≤ n) (h1 : n ≤ 32) : spec_l1Size.f a n = some (sz n) := by
  unfold spec_l1Size.f
  have e : IntKind.u64.wrap (wrap64 (32 - n)) = wrap64 (32 - n) := by rw [wrap_id (by omega) (by omega), u64_id (by omega) (by omega)]
  rw [e, shl_sz h0 h1, if_pos (by rw [wrap_id (by omega) (by omega)]; omega)]
theorem impl_GoodPrefix_is (a n : Int) : impl_GoodPrefix.f a n = some (good a n) := by
  unfold impl_GoodPrefix.f
  rw [impl_within_is, kz]
  by_cases h : 0 ≤ n ∧ n ≤ 32
  · rw [if_pos (decide_eq_true h), impl_isAddr_is, kz]
    by_cases h' : 0 ≤ a ∧ a ≤ 4294967295
    · rw [if_pos (decide_eq_true h'), impl_sizeOf_is h.1 h.2, kz, if_neg (by have := sz_pos n; omega), kb h'.1]
      simp [good, h.1, h.2, h'.1, h'.2, beq_dec]
    · rw [if_neg (by simpa using h')]
      have : good a n = false := by simp [good]; omega
      rw [this]
  · rw [if_neg (by simpa using h)]
    have : good a n = false := by simp [good]; omega
    rw [this]
theorem spec_GoodPrefix_is (a n : Int) : spec_GoodPrefix.f a n = some (good a n) := by
  unfold spec_GoodPrefix.f
  rw [spec_l1In_is, kz]
  by_cases h : 0 ≤ n ∧ n ≤ 32
  · rw [if_pos (decide_eq_true h), spec_l1Addr_is, kz]
    by_cases h' : 0 ≤ a ∧ a ≤ 4294967295
    · rw [if_pos (decide_eq_true h'), spec_l1Size_is a h.1 h.2, kz, if_neg (by have := sz_pos n; omega), kb h'.1]
      simp [good, h.1, h.2, h'.1, h'.2, beq_dec]
    · rw [if_neg (by simpa using h')]
      have : good a n = false := by simp [good]; omega
      rw [this]
  · rw [if_neg (by simpa using h)]
    have : good a n = false := by simp [good]; omega
    rw [this]
theorem impl_Prefix_end_is {a n : Int} (h : good a n = true) : impl_Prefix_end.f a n = some (a + sz n - 1) := by
  obtain ⟨h0, h1, h2, h3, h4⟩ := good_iff.1 h
  have := sz_pos n
  have := sz_le h0
  unfold impl_Prefix_end.f
  rw [impl_sizeOf_is h0 h1, kz, wrap_id (x := a + sz n) (by omega) (by omega), wrap_id (by omega) (by omega)]
theorem impl_Prefix_has_is {a n : Int} (x : Int) (h : good a n = true) : impl_Prefix_has.f a n x = some (decide (a ≤ x ∧ x ≤ a + sz n - 1)) := by
  unfold impl_Prefix_has.f
  rw [impl_Prefix_end_is h, kz, impl_within_is]; rfl
theorem spec_l1HasAddr_is {a n x : Int} (h : good a n = true) (h5 : 0 ≤ x) (h6 : x ≤ 4294967295) : spec_l1HasAddr.f a n x = some (decide (a ≤ x ∧ x ≤ a + sz n - 1)) := by
  obtain ⟨h0, h1, h2, h3, h4⟩ := good_iff.1 h
  have hs := sz_pos n
  have h7 := Int.emod_nonneg x (show sz n ≠ 0 by omega)
  have h8 := Int.emod_lt_of_pos x (show 0 < sz n by omega)
  have h9 := sz_le h0
  unfold spec_l1HasAddr.f
  rw [spec_l1Size_is a h0 h1, kz, if_neg (by omega), kb h5, wrap_id (by omega) (by omega), beq_dec]
  congr 1
  exact decide_eq_decide.2 (in_row (by omega) h4)
theorem impl_Prefix_covers_is {a n : Int} (b m : Int) (h : good a n = true) : impl_Prefix_covers.f a n b m = some (decide (n ≤ m ∧ a ≤ b ∧ b ≤ a + sz n - 1)) := by
  unfold impl_Prefix_covers.f
  by_cases h' : n ≤ m
  · rw [if_pos h', impl_Prefix_has_is b h]; simp [h']
  · rw [if_neg h']; simp [h']
theorem spec_l1Covers_is {a n b m : Int} (h : good a n = true) (hb : good b m = true) : spec_l1Covers.f a n b m = some (decide (n ≤ m ∧ a ≤ b ∧ b ≤ a + sz n - 1)) := by
  obtain ⟨h0, h1, h2, h3, h4⟩ := good_iff.1 hb
  unfold spec_l1Covers.f
  by_cases h' : n ≤ m
  · rw [if_pos h', spec_l1HasAddr_is h h2 h3]; simp [h']
  · rw [if_neg h']; simp [h']
theorem spec_l1Parent_is {a n : Int} (h : good a n = true) (hn : 0 < n) : spec_l1Parent.f a n = some (a - a % (2 * sz n), n - 1) := by
  obtain ⟨h0, h1, h2, h3, h4⟩ := good_iff.1 h
  have hs := sz_pos n
  have h9 := sz_le h0
  have h7 := Int.emod_nonneg a (show 2 * sz n ≠ 0 by omega)
  have h8 := Int.emod_lt_of_pos a (show 0 < 2 * sz n by omega)
  unfold spec_l1Parent.f
  rw [spec_l1Size_is a h0 h1, kz, wrap_id (x := 2 * sz n) (by omega) (by omega), if_neg (by omega), kb h2, wrap_id (by omega) (by omega), wrap_id (by omega) (by omega)]
theorem spec_l1Halves_is {a n : Int} (h0 : 0 ≤ n) (h1 : n < 32) (h2 : 0 ≤ a) (h3 : a ≤ 4294967295) : spec_l1Halves.f a n = some (a, n + 1, a + sz (n + 1), n + 1) := by
  have hs := sz_pos (n + 1)
  have h9 := sz_le (n := n + 1) (by omega)
  unfold spec_l1Halves.f
  rw [wrap_id (x := n + 1) (by omega) (by omega), spec_l1Size_is a (by omega) (by omega), kz, wrap_id (by omega) (by omega)]
theorem spec_l1Sibling_is {a n : Int} (h : good a n = true) (hn : 0 < n) : spec_l1Sibling.f a n = some (sib a n, n) := by
  obtain ⟨h0, h1, h2, h3, h4⟩ := good_iff.1 h
  have hs := sz_pos n
  have hr := parent_rest (a := a) (s := sz n) (by omega) h4
  have h7 := Int.emod_nonneg a (show 2 * sz n ≠ 0 by omega)
  have h8 : a % (2 * sz n) ≤ a := by
    obtain h | h := hr
    · omega
    · have := Int.mul_ediv_add_emod a (2 * sz n)
      have := Int.ediv_nonneg h2 (show 0 ≤ 2 * sz n by omega)
      have := Int.mul_nonneg (show 0 ≤ 2 * sz n by omega) this
      omega
  unfold spec_l1Sibling.f
  rw [spec_l1Parent_is h hn, kz]
  simp only []
  rw [spec_l1Halves_is (by omega) (by omega) (by omega) (by omega), kz]
  simp only [show n - 1 + 1 = n by omega, beq_self_eq_true, Bool.and_true]
  unfold sib
  rcases hr with hr | hr
  · rw [hr, if_pos (by simp)]; simp
  · rw [hr, if_neg (by simp; omega), if_neg (by omega)]
theorem impl_Prefix_sibling_is {a n : Int} (h : good a n = true) : impl_Prefix_sibling.f a n = some (sib a n, n) := by
  obtain ⟨h0, h1, h2, h3, h4⟩ := good_iff.1 h
  unfold impl_Prefix_sibling.f
  rw [impl_sizeOf_is h0 h1, kz, xor_sz h0 h1 h2 h3 h4]; rfl
theorem cmp_isNaN_int_is (a : Int) : cmp_isNaN_int.f a = some false := by unfold cmp_isNaN_int.f; simp
theorem cmp_Compare_int_is (a b : Int) : cmp_Compare_int.f a b = some (if a < b then -1 else if a > b then 1 else 0) := by
  unfold cmp_Compare_int.f
  simp only [cmp_isNaN_int_is, kz, Bool.false_eq_true, if_false]
  by_cases h1 : a < b
  · simp [h1]
  · by_cases h2 : a > b
    · simp [h1, h2]
    · simp [h1, h2]
theorem impl_compare_is (k : Nat) (a n b m : Int) : impl_compare.f (k + 3) a n b m = some (cmpP a n b m) := by
  unfold impl_compare.f cmp_Or_int.f
  rw [cmp_Compare_int_is, kz, cmp_Compare_int_is, kz]
  have w1 : wrap64 (0 + 1) = 1 := wrap_id (by omega) (by omega)
  have w2 : wrap64 (1 + 1) = 2 := wrap_id (by omega) (by omega)
  simp only [cmp_Or_int.l0, rd, kv, ko, w1, w2]
  unfold cmpP
  by_cases h1 : a < b
  · simp [h1]
  · by_cases h2 : b < a
    · have : ¬ a = b := by omega
      simp [h1, h2, this]
    · obtain rfl : a = b := by omega
      by_cases h3 : n < m
      · simp [h3]
      · by_cases h4 : m < n
        · have : ¬ n = m := by omega
          simp [h3, h4, this]
        · obtain rfl : n = m := by omega
          simp
theorem spec_l1Compare_is (k : Nat) (a n b m : Int) : spec_l1Compare.f (k + 1) a n b m = some (cmpP a n b m) := by
  unfold spec_l1Compare.f cmpP
  simp only [spec_l1Compare.j0]
  by_cases h1 : a < b
  · simp [h1]
  · by_cases h2 : a = b
    · subst h2
      by_cases h3 : n < m
      · simp [h3]
      · by_cases h4 : n = m
        · subst h4; simp
        · simp [h3, h4]
    · simp [h1, h2]
theorem spec_HalvesOf_is (a n : Int) : spec_HalvesOf.f a n = some (halvesOf a n) := by
  unfold spec_HalvesOf.f halvesOf
  rw [spec_GoodPrefix_is, kz]
  by_cases h : good a n = true
  · obtain ⟨h0, h1, h2, h3, h4⟩ := good_iff.1 h
    rw [if_pos h]
    by_cases h' : n = 32
    · rw [if_pos h', if_neg (fun hh => hh.2 h')]
    · rw [if_neg h', spec_l1Halves_is h0 (by omega) h2 h3, kz, if_pos ⟨h, h'⟩]
  · rw [if_neg h, if_neg (fun hh => h hh.1)]
theorem rdm_Prefix (pre : List S45) (a : S45) (rest : List S45) : rd_T45 (pre ++ a :: rest) (pre.length : Int) = a := by unfold rd_T45; simp
def pr (p : S45) : Pr := (p.f0, p.f1)
theorem pr_inj {p q : S45} (h : pr p = pr q) : p = q := by cases p; cases q; simpa [pr] using h
theorem impl_areRising_is (k : Nat) (l : List S45) (hl : l.length ≤ 1048576) (hk : l.length + 4 < k) : impl_areRising.f k l = some (rising (l.map pr)) := by
  unfold impl_areRising.f
  have key : ∀ (rest pre : List S45) (k : Nat), l = pre ++ rest → rest.length + 4 < k →
      impl_areRising.l0 k l l (l.length : Int) (pre.length : Int) = some (risingFrom ((pre.map pr).getLast?) (rest.map pr)) := by
    intro rest
    induction rest with
    | nil =>
      intro pre k e hk
      obtain ⟨k, rfl⟩ : ∃ m, k = m + 1 := ⟨k - 1, by omega⟩
      simp only [impl_areRising.l0]
      rw [if_neg (by rw [e]; simp)]
      simp [risingFrom]
    | cons a rest ih =>
      intro pre k e hk
      obtain ⟨k, rfl⟩ : ∃ m, k = m + 1 := ⟨k - 1, by omega⟩
      have h1 : rd_T45 l (pre.length : Int) = a := by rw [e]; exact rdm_Prefix _ _ _
      have hih := ih (pre ++ [a]) k (by rw [e]; simp) (by simp at hk; omega)
      rw [kg, ku, List.getLast?_concat] at hih
      simp only [impl_areRising.l0]
      rw [if_pos (by rw [e]; exact lt_mid _ _ _), if_pos (len_nn _), if_pos (by rw [e]; exact lt_mid _ _ _), h1, impl_GoodPrefix_is, kz, wrap_mid (rest := rest) (by rw [← e]; simp only [maxLen]; omega)]
      simp only [kk, risingFrom]
      by_cases hg : good a.f0 a.f1 = true
      · rw [if_pos hg]
        rcases snoc_cases pre with rfl | ⟨pre', q, rfl⟩
        · rw [if_neg (by simp)]
          simp only [kx, kj] at hih
          rw [show (([] : List S45) ++ [a]).length = 1 from rfl, hih]
          simp [pr, hg]
        · have h2 : wrap64 (((pre' ++ [q]).length : Int) - 1) = (pre'.length : Int) := by
            have : (pre' ++ [q] ++ a :: rest).length ≤ 1048576 := by rw [← e]; exact hl
            simp at this
            rw [ky, kj, wrap_id (by omega) (by omega)]; omega
          have h3 : rd_T45 l (pre'.length : Int) = q := by rw [e, List.append_assoc]; exact rdm_Prefix _ _ _
          obtain ⟨k', rfl⟩ : ∃ m, k = m + 3 := ⟨k - 3, by simp at hk; omega⟩
          rw [if_pos (by rw [ky, kj]; omega), h2, if_pos (len_nn _), if_pos (by rw [e, ky, ky, kj]; omega), h3, impl_compare_is, kz, hih, kg, ku, List.getLast?_concat]
          by_cases hc : cmpP q.f0 q.f1 a.f0 a.f1 ≥ 0
          · rw [if_pos hc]
            have : ¬ cmpP q.f0 q.f1 a.f0 a.f1 < 0 := by omega
            simp [pr, this]
          · rw [if_neg hc]
            have : cmpP q.f0 q.f1 a.f0 a.f1 < 0 := by omega
            simp [pr, hg, this]
      · rw [if_neg hg]
        simp [pr, hg]
  exact key l [] k rfl hk
theorem rdm_Span (pre : List S74) (a : S74) (rest : List S74) : rd_T74 (pre ++ a :: rest) (pre.length : Int) = a := by unfold rd_T74; simp
def spn (s : S74) : Sp := (s.f0, s.f1)
theorem map_pr_inj : ∀ {l l' : List S45}, l.map pr = l'.map pr → l = l'
  | [], [], _ => rfl
  | [], _ :: _, h => by simp at h
  | _ :: _, [], h => by simp at h
  | a :: t, b :: t', h => by
    simp only [kk, List.cons.injEq] at h
    rw [pr_inj h.1, map_pr_inj h.2]
theorem best_of {f b : Int} (h0 : 0 ≤ f) (h1 : f ≤ b) (hb : b ≤ 4294967295) : ∃ n : Int, Best b (f, n) ∧ 0 ≤ n ∧ n ≤ 32 := by
  have key : ∀ d : Nat, d ≤ 32 → (∃ n : Int, Best b (f, n) ∧ 0 ≤ n ∧ n ≤ 32) ∨ ∀ n : Int, 0 ≤ n → n < d → GoodP (f, n) → ¬ last (f, n) ≤ b := by
    intro d
    induction d with
    | zero => intro _; exact .inr (fun n h h' => by omega)
    | succ d ih =>
      intro hd
      rcases ih (by omega) with h | h
      · exact .inl h
      · by_cases hg : GoodP (f, (d : Int)) ∧ last (f, (d : Int)) ≤ b
        · exact .inl ⟨d, ⟨hg.1, hg.2, fun n hn hlt => h n hn hlt⟩, by omega, by omega⟩
        · refine .inr (fun n hn hlt hgn hln => ?_)
          by_cases e : n = (d : Int)
          · subst e; exact hg ⟨hgn, hln⟩
          · exact h n hn (by omega) hgn hln
  rcases key 32 (by omega) with h | h
  · exact h
  · have hg : GoodP (f, 32) := good_mk ⟨by simp, by simp, h0, by simp; omega, by show f % sz 32 = 0; rw [sz_lit.2]; omega⟩
    have hl : last (f, 32) = f := by unfold last; rw [sz_lit.2]; simp
    exact ⟨32, ⟨hg, by omega, fun n hn hlt hgn hln => h n hn hlt hgn hln⟩, by omega, by omega⟩
theorem prefixesIn_l2 {b f n : Int} {out : List S45} {sp : List S74} {len i a : Int} {r : List S45} (hB : Best b (f, n)) (hb : b ≤ 4294967295) (hlen : out.length < 8796093022208)
    (h : Ev (fun k => impl_prefixesIn.l1 k (out ++ [⟨f, n⟩]) (last (f, n) + 1) sp len i a b) r) : ∀ (d : Nat) (m : Int), 0 ≤ m → m ≤ n → (n - m).toNat = d → Ev (fun k => impl_prefixesIn.l2 k out sp len i a b f m) r := by
  have hg := hB.good
  obtain ⟨p0, p1, p2, p3, p4⟩ := hg.facts
  have hend := good_end hg
  have hl : last (f, n) = f + sz n - 1 := rfl
  intro d
  induction d with
  | zero =>
    intro m h0 h1 hd
    obtain rfl : m = n := by omega
    refine Ev.step (f := fun k => impl_prefixesIn.l1 k (out ++ [⟨f, m⟩]) (last (f, m) + 1) sp len i a b) (fun k => ?_) h
    simp only [impl_prefixesIn.l2]
    have hgm : good f m = true := hg
    have hfit := hB.fits
    simp only at p2 p3 hend
    rw [impl_GoodPrefix_is, kz, if_pos hgm, impl_Prefix_end_is hgm, kz, if_neg (by omega), if_pos hlen, kz, wrap_id (by have := sz_pos m; omega) (by omega)]
    rfl
  | succ d ih =>
    intro m h0 h1 hd
    have hih := ih (m + 1) (by omega) (by omega) (by omega)
    refine Ev.step (f := fun k => impl_prefixesIn.l2 k out sp len i a b f (m + 1)) (fun k => ?_) hih
    have hlt : m < n := by omega
    simp only at p1
    have hleast := hB.least m h0 (by simpa using hlt)
    simp only [impl_prefixesIn.l2]
    rw [impl_GoodPrefix_is, kz, wrap_id (x := m + 1) (by omega) (by omega)]
    by_cases hgm : good f m = true
    · rw [if_pos hgm, impl_Prefix_end_is hgm, kz, if_pos]
      have : ¬ last (f, m) ≤ b := hleast hgm
      have h2 : last (f, m) = f + sz m - 1 := rfl
      omega
    · rw [if_neg hgm]
def RowsOf (l : List S74) (r : List (List S45)) : Prop := r.length = l.length ∧ ∀ (i : Nat) (s : S74) (g : List S45), l[i]? = some s → r[i]? = some g → Greedy s.f0 s.f1 s.f0 (g.map pr)
theorem RowsOf.cons {s : S74} {l : List S74} {g : List S45} {r : List (List S45)} (h : Greedy s.f0 s.f1 s.f0 (g.map pr)) (hr : RowsOf l r) : RowsOf (s :: l) (g :: r) := by
  refine ⟨by simp [hr.1], fun i s' g' h1 h2 => ?_⟩
  cases i with
  | zero =>
    simp only [List.getElem?_cons_zero, Option.some.injEq] at h1 h2
    subst h1; subst h2; exact h
  | succ i => exact hr.2 i s' g' (by simpa using h1) (by simpa using h2)
theorem prefixesIn_is (sp : List S74) (hn : sp.length ≤ 1048576) (hg : Gapped (sp.map spn)) (hb : ∀ s, s ∈ sp → 0 ≤ s.f0 ∧ s.f1 ≤ 4294967295) : ∃ r, RowsOf sp r ∧ Ev (fun k => impl_prefixesIn.f k sp) r.flatten := by
  have key : ∀ (rest pre : List S74) (out : List S45), sp = pre ++ rest → (∀ s, s ∈ rest → (out.length : Int) ≤ s.f0) →
      ∃ r, RowsOf rest r ∧ Ev (fun k => impl_prefixesIn.l0 k out sp (sp.length : Int) (pre.length : Int)) (out ++ r.flatten) := by
    intro rest
    induction rest with
    | nil =>
      intro pre out e ho
      refine ⟨[], ⟨rfl, by simp⟩, ?_⟩
      refine Ev.step (f := fun _ => some out) (fun k => ?_) (by simpa using Ev.now out)
      simp only [impl_prefixesIn.l0]
      rw [if_neg (by rw [e]; simp)]
    | cons s rest ih =>
      intro pre out e ho
      have hs := hb s (by rw [e]; simp)
      have hne := hg.ne (spn s) (kq.2 ⟨s, by rw [e]; simp, rfl⟩)
      have hgap : ∀ t, t ∈ rest → s.f1 + 1 < t.f0 := fun t ht => by
        have h := hg.srt
        rw [e, kg, kk] at h
        have h2 := (List.pairwise_append.1 h).2.1
        exact (List.pairwise_cons.1 h2).1 (spn t) (kq.2 ⟨t, ht, rfl⟩)
      have hlen : pre.length < sp.length := by rw [e]; simp
      have inner : ∀ (d : Nat) (f : Int) (out : List S45), (s.f1 + 1 - f).toNat = d → s.f0 ≤ f → f ≤ s.f1 + 1 → (out.length : Int) ≤ f → Clear s.f0 s.f1 f →
          ∃ g r, Greedy s.f0 s.f1 f (g.map pr) ∧ RowsOf rest r ∧ Ev (fun k => impl_prefixesIn.l1 k out f sp (sp.length : Int) (pre.length : Int) s.f0 s.f1) (out ++ g ++ r.flatten) := by
        intro d
        induction d using Nat.strongRecOn with
        | _ d ihd =>
          intro f out hd hf0 hf1 hol hcl
          by_cases hend : f ≤ s.f1
          · obtain ⟨n, hB, n0, n1⟩ := best_of (b := s.f1) (show 0 ≤ f by omega) hend hs.2
            have hfit := hB.fits
            have hsz := sz_pos n
            have hlast : last (f, n) = f + sz n - 1 := rfl
            obtain ⟨g, r, G, R, E⟩ := ihd (s.f1 + 1 - (last (f, n) + 1)).toNat (by omega) (last (f, n) + 1) (out ++ [⟨f, n⟩]) rfl (by omega) (by omega) (by simp; omega) (best_clear hB rfl hcl)
            refine ⟨⟨f, n⟩ :: g, r, ?_, R, ?_⟩
            · exact greedy_cons hB rfl hf0 hcl G
            · have E2 := prefixesIn_l2 hB hs.2 (by omega) E (n - 0).toNat 0 (by omega) n0 rfl
              have e3 : out ++ ⟨f, n⟩ :: g ++ r.flatten = out ++ [⟨f, n⟩] ++ g ++ r.flatten := by simp
              rw [e3]
              refine Ev.step (f := fun k => impl_prefixesIn.l2 k out sp (sp.length : Int) (pre.length : Int) s.f0 s.f1 f 0) (fun k => ?_) E2
              simp only [impl_prefixesIn.l1]
              rw [if_pos hend]
          · have hf : f = s.f1 + 1 := by omega
            obtain ⟨r, R, E⟩ := ih (pre ++ [s]) out (by rw [e]; simp) (fun t ht => by have := hgap t ht; omega)
            refine ⟨[], r, greedy_nil (by omega) hf1, R, ?_⟩
            rw [List.append_nil]
            refine Ev.step (f := fun k => impl_prefixesIn.l0 k out sp (sp.length : Int) ((pre ++ [s]).length : Int)) (fun k => ?_) E
            simp only [impl_prefixesIn.l1]
            rw [if_neg hend, wrap_id (by omega) (by omega)]
            simp
      obtain ⟨g, r, G, R, E⟩ := inner _ s.f0 out rfl (Int.le_refl _) (by have : s.f0 ≤ s.f1 := hne; omega) (ho s (by simp)) (clear_first _ _)
      refine ⟨g :: r, R.cons G, ?_⟩
      have e4 : out ++ (g :: r).flatten = out ++ g ++ r.flatten := by simp
      rw [e4]
      refine Ev.step (f := fun k => impl_prefixesIn.l1 k out s.f0 sp (sp.length : Int) (pre.length : Int) s.f0 s.f1) (fun k => ?_) E
      have h1 : rd_T74 sp (pre.length : Int) = s := by rw [e]; exact rdm_Span _ _ _
      simp only [impl_prefixesIn.l0]
      rw [if_pos (by omega), if_pos (len_nn _), if_pos (by omega), h1]
  obtain ⟨r, R, E⟩ := key sp [] [] rfl (fun s hs => by have := (hb s hs).1; simp; omega)
  refine ⟨r, R, ?_⟩
  refine Ev.congr (f := fun k => impl_prefixesIn.l0 k [] sp (sp.length : Int) (([] : List S74).length : Int)) (fun k => ?_) (by simpa using E)
  unfold impl_prefixesIn.f; rfl
theorem RowsOf.canon {l : List S74} {r : List (List S45)} (hg : Gapped (l.map spn)) (h : RowsOf l r) : Canon (inS (l.map spn)) (r.flatten.map pr) := by
  have e : r.flatten.map pr = (r.map (List.map pr)).flatten := by rw [List.map_flatten]
  rw [e]
  refine canon_rows hg (by simp [h.1]) (fun i s g h1 h2 => ?_)
  rw [List.getElem?_map] at h1 h2
  obtain ⟨s', hs', rfl⟩ := Option.map_eq_some_iff.1 h1
  obtain ⟨g', hg', rfl⟩ := Option.map_eq_some_iff.1 h2
  exact (h.2 i s' g' hs' hg').canon
theorem spec_l3Good_is (k : Nat) (l : List S45) (hl : l.length ≤ 1048576) (hk : l.length < k) : spec_l3Good.f k l = some (decide (l.length ≤ 64) && (l.map pr).all (fun p => good p.1 p.2)) := by
  unfold spec_l3Good.f
  have key : ∀ (rest pre : List S45) (k : Nat), l = pre ++ rest → rest.length < k →
      spec_l3Good.l0 k l l (l.length : Int) (pre.length : Int) = some (decide (l.length ≤ 64) && (rest.map pr).all (fun p => good p.1 p.2)) := by
    intro rest
    induction rest with
    | nil =>
      intro pre k e hk
      obtain ⟨k, rfl⟩ : ∃ m, k = m + 1 := ⟨k - 1, by omega⟩
      simp only [spec_l3Good.l0]
      rw [if_neg (by rw [e]; simp)]
      have : ((l.length : Int) ≤ 64) ↔ l.length ≤ 64 := by omega
      simp [this]
    | cons a rest ih =>
      intro pre k e hk
      obtain ⟨k, rfl⟩ : ∃ m, k = m + 1 := ⟨k - 1, by omega⟩
      have h1 : rd_T45 l (pre.length : Int) = a := by rw [e]; exact rdm_Prefix _ _ _
      have hih := ih (pre ++ [a]) k (by rw [e]; simp) (by simp at hk; omega)
      simp only [spec_l3Good.l0]
      rw [if_pos (by rw [e]; exact lt_mid _ _ _), if_pos (len_nn _), if_pos (by rw [e]; exact lt_mid _ _ _), h1, spec_GoodPrefix_is, kz, wrap_mid (rest := rest) (by rw [← e]; simp only [maxLen]; omega), hih]
      by_cases hg : good a.f0 a.f1 = true
      · rw [if_pos hg]; simp [pr, hg]
      · rw [if_neg hg]; simp [pr, hg]
  exact key l [] k rfl hk
theorem impl_GoodSet_in {l : List S45} (hl : l.length ≤ 1048576) (hg : ∀ p, p ∈ l → good p.f0 p.f1 = true) (p : S45) (hp : p ∈ l) (i : Nat) (x15 : List S45) (x16 x17 : Int) :
    ∀ (rest pre : List S45), l = pre ++ rest →
      (badAt i (pr p) pre.length (rest.map pr) = true → Ev (fun k => impl_GoodSet.l1 k l (i : Int) x15 x16 x17 l (l.length : Int) (pre.length : Int) p.f0 p.f1) false) ∧
      (badAt i (pr p) pre.length (rest.map pr) = false → ∀ r, Ev (fun k => impl_GoodSet.l0 k l x15 x16 (wrap64 (x17 + 1))) r → Ev (fun k => impl_GoodSet.l1 k l (i : Int) x15 x16 x17 l (l.length : Int) (pre.length : Int) p.f0 p.f1) r) := by
  have hgp := hg p hp
  intro rest
  induction rest with
  | nil =>
    intro pre e
    refine ⟨fun h => by simp [badAt] at h, fun _ r hr => ?_⟩
    refine Ev.step (f := fun k => impl_GoodSet.l0 k l x15 x16 (wrap64 (x17 + 1))) (fun k => ?_) hr
    simp only [impl_GoodSet.l1]
    rw [if_neg (by rw [e]; simp)]
  | cons q rest ih =>
    intro pre e
    obtain ⟨ih1, ih2⟩ := ih (pre ++ [q]) (by rw [e]; simp)
    have h1 : rd_T45 l (pre.length : Int) = q := by rw [e]; exact rdm_Prefix _ _ _
    have hw : wrap64 ((pre.length : Int) + 1) = ((pre ++ [q]).length : Int) := wrap_mid (rest := rest) (by rw [← e]; simp only [maxLen]; omega)
    have hlt : (pre.length : Int) < (l.length : Int) := by rw [e]; exact lt_mid _ _ _
    have hlen : (pre ++ [q]).length = pre.length + 1 := by simp
    rw [hlen] at ih1 ih2
    have one : ∀ k, impl_GoodSet.l1 (k + 1) l (i : Int) x15 x16 x17 l (l.length : Int) (pre.length : Int) p.f0 p.f1 =
        (if (!decide (i = pre.length) && (decide ((pr p).2 ≤ (pr q).2 ∧ (pr p).1 ≤ (pr q).1 ∧ (pr q).1 ≤ (pr p).1 + sz (pr p).2 - 1) || (decide (0 < (pr p).2) && ((pr q).1 == sib (pr p).1 (pr p).2 && (pr q).2 == (pr p).2)))) = true then some false
         else impl_GoodSet.l1 k l (i : Int) x15 x16 x17 l (l.length : Int) ((pre ++ [q]).length : Int) p.f0 p.f1) := by
      intro k
      simp only [impl_GoodSet.l1]
      rw [if_pos hlt, if_pos (len_nn _), if_pos hlt, hw, h1]
      by_cases hi : i = pre.length
      · rw [if_pos (by omega), if_neg (by simp [hi])]
      · rw [if_neg (by omega), impl_Prefix_covers_is _ _ hgp, kz]
        by_cases hc : p.f1 ≤ q.f1 ∧ p.f0 ≤ q.f0 ∧ q.f0 ≤ p.f0 + sz p.f1 - 1
        · rw [if_pos (decide_eq_true hc), if_pos (by simp [hi, pr, hc])]
        · rw [if_neg (by simpa using hc)]
          have hc' : decide ((pr p).2 ≤ (pr q).2 ∧ (pr p).1 ≤ (pr q).1 ∧ (pr q).1 ≤ (pr p).1 + sz (pr p).2 - 1) = false := decide_eq_false hc
          rw [hc', kr]
          by_cases hn : p.f1 > 0
          · rw [if_pos hn, impl_Prefix_sibling_is hgp, kz]
            have hn' : decide (0 < (pr p).2) = true := decide_eq_true hn
            have hi' : (!decide (i = pre.length)) = true := by simp [hi]
            rw [hn', hi', kd, kd]
            have hsw : (sib p.f0 p.f1 == q.f0 && p.f1 == q.f1) = ((pr q).1 == sib (pr p).1 (pr p).2 && (pr q).2 == (pr p).2) := by
              simp only [pr]
              rw [Bool.beq_comm (a := q.f0), Bool.beq_comm (a := q.f1)]
            simp only [hsw]
          · rw [if_neg hn]
            have hn' : decide (0 < (pr p).2) = false := decide_eq_false hn
            rw [hn', Bool.false_and, Bool.and_false, if_neg (by simp)]
    have hb : badAt i (pr p) pre.length ((q :: rest).map pr) = ((!decide (i = pre.length) && (decide ((pr p).2 ≤ (pr q).2 ∧ (pr p).1 ≤ (pr q).1 ∧ (pr q).1 ≤ (pr p).1 + sz (pr p).2 - 1) || (decide (0 < (pr p).2) && ((pr q).1 == sib (pr p).1 (pr p).2 && (pr q).2 == (pr p).2)))) || badAt i (pr p) (pre.length + 1) (rest.map pr)) := rfl
    generalize (!decide (i = pre.length) && (decide ((pr p).2 ≤ (pr q).2 ∧ (pr p).1 ≤ (pr q).1 ∧ (pr q).1 ≤ (pr p).1 + sz (pr p).2 - 1) || (decide (0 < (pr p).2) && ((pr q).1 == sib (pr p).1 (pr p).2 && (pr q).2 == (pr p).2)))) = B at one hb
    rw [hb]
    cases B with
    | true =>
      refine ⟨fun _ => Ev.step (f := fun _ => some false) (fun k => by rw [one]; simp) (Ev.now _), fun h => by simp at h⟩
    | false =>
      simp only [kr]
      exact ⟨fun h => Ev.step (f := fun k => impl_GoodSet.l1 k l (i : Int) x15 x16 x17 l (l.length : Int) ((pre ++ [q]).length : Int) p.f0 p.f1) (fun k => by rw [one]; simp) (by rw [hlen]; exact ih1 h),
        fun h r hr => Ev.step (f := fun k => impl_GoodSet.l1 k l (i : Int) x15 x16 x17 l (l.length : Int) ((pre ++ [q]).length : Int) p.f0 p.f1) (fun k => by rw [one]; simp) (by rw [hlen]; exact ih2 h r hr)⟩
theorem impl_GoodSet_is (l : List S45) (hl : l.length ≤ 1048576) : Ev (fun k => impl_GoodSet.f k l) (goodSet (l.map pr)) := by
  have outer : (∀ p, p ∈ l → good p.f0 p.f1 = true) → ∀ (rest pre : List S45), l = pre ++ rest → Ev (fun k => impl_GoodSet.l0 k l l (l.length : Int) (pre.length : Int)) (outI (l.map pr) pre.length (rest.map pr)) := by
    intro hg rest
    induction rest with
    | nil =>
      intro pre e
      refine Ev.step (f := fun _ => some true) (fun k => ?_) (Ev.now _)
      simp only [impl_GoodSet.l0]
      rw [if_neg (by rw [e]; simp)]
    | cons p rest ih =>
      intro pre e
      have hih := ih (pre ++ [p]) (by rw [e]; simp)
      have h1 : rd_T45 l (pre.length : Int) = p := by rw [e]; exact rdm_Prefix _ _ _
      have hw : wrap64 ((pre.length : Int) + 1) = ((pre ++ [p]).length : Int) := wrap_mid (rest := rest) (by rw [← e]; simp only [maxLen]; omega)
      have hlt : (pre.length : Int) < (l.length : Int) := by rw [e]; exact lt_mid _ _ _
      obtain ⟨i1, i2⟩ := impl_GoodSet_in hl hg p (by rw [e]; simp) pre.length l (l.length : Int) (pre.length : Int) l [] rfl
      refine Ev.step (f := fun k => impl_GoodSet.l1 k l (pre.length : Int) l (l.length : Int) (pre.length : Int) l (l.length : Int) 0 p.f0 p.f1) (fun k => ?_) ?_
      · simp only [impl_GoodSet.l0]
        rw [if_pos hlt, if_pos (len_nn _), if_pos hlt, h1]
      · simp only [kk, outI]
        simp only [ko] at i1 i2
        cases hb : badAt pre.length (pr p) 0 (l.map pr) with
        | true => simpa using i1 hb
        | false =>
          have := i2 hb _ (by rw [hw]; exact hih)
          simpa using this
  unfold goodSet
  rw [ke]
  by_cases h64 : (l.length : Int) > 64
  · have h' : ¬ l.length ≤ 64 := by omega
    simp only [h', decide_false, Bool.false_and]
    refine ⟨1, fun k hk => ?_⟩
    obtain ⟨k, rfl⟩ : ∃ m, k = m + 1 := ⟨k - 1, by omega⟩
    simp only [impl_GoodSet.f]
    rw [if_pos h64]
    simp [impl_GoodSet.j0]
  · have h' : l.length ≤ 64 := by omega
    simp only [h', decide_true, kd]
    cases hr : rising (l.map pr) with
    | false =>
      refine ⟨l.length + 5, fun k hk => ?_⟩
      simp only [impl_GoodSet.f]
      rw [if_neg h64, impl_areRising_is k l hl (by omega), kz, hr]
      obtain ⟨k, rfl⟩ : ∃ m, k = m + 1 := ⟨k - 1, by omega⟩
      simp [impl_GoodSet.j0]
    | true =>
      have hg : ∀ p, p ∈ l → good p.f0 p.f1 = true := fun p hp => rising_good hr (pr p) (kq.2 ⟨p, hp, rfl⟩)
      obtain ⟨K, hK⟩ := outer hg l [] rfl
      refine ⟨K + l.length + 6, fun k hk => ?_⟩
      simp only [impl_GoodSet.f]
      rw [if_neg h64, impl_areRising_is k l hl (by omega), kz, hr]
      obtain ⟨k, rfl⟩ : ∃ m, k = m + 1 := ⟨k - 1, by omega⟩
      simp only [impl_GoodSet.j0]
      rw [if_neg (by simp)]
      have := hK k (by omega)
      simpa using this
theorem spec_GoodSet_in {l : List S45} (hl : l.length ≤ 1048576) (hg : ∀ p, p ∈ l → good p.f0 p.f1 = true) (p : S45) (hp : p ∈ l) (i : Nat) (x10 : List S45) (x11 x12 : Int) (F : Nat → Option Bool)
    (hF : ∀ k, spec_GoodSet.l1 (k + 1) l (i : Int) x10 x11 x12 l (l.length : Int) (l.length : Int) p.f0 p.f1 = F k) :
    ∀ (rest pre : List S45), l = pre ++ rest →
      (badAt i (pr p) pre.length (rest.map pr) = true → Ev (fun k => spec_GoodSet.l1 k l (i : Int) x10 x11 x12 l (l.length : Int) (pre.length : Int) p.f0 p.f1) false) ∧
      (badAt i (pr p) pre.length (rest.map pr) = false → ∀ r, Ev F r → Ev (fun k => spec_GoodSet.l1 k l (i : Int) x10 x11 x12 l (l.length : Int) (pre.length : Int) p.f0 p.f1) r) := by
  have hgp := hg p hp
  intro rest
  induction rest with
  | nil =>
    intro pre e
    have e' : l = pre := by simpa using e
    refine ⟨fun h => by simp [badAt] at h, fun _ r hr => ?_⟩
    refine Ev.step (f := F) (fun k => ?_) hr
    rw [← hF k, e']
  | cons q rest ih =>
    intro pre e
    obtain ⟨ih1, ih2⟩ := ih (pre ++ [q]) (by rw [e]; simp)
    have h1 : rd_T45 l (pre.length : Int) = q := by rw [e]; exact rdm_Prefix _ _ _
    have hgq := hg q (by rw [e]; simp)
    have hw : wrap64 ((pre.length : Int) + 1) = ((pre ++ [q]).length : Int) := wrap_mid (rest := rest) (by rw [← e]; simp only [maxLen]; omega)
    have hlt : (pre.length : Int) < (l.length : Int) := by rw [e]; exact lt_mid _ _ _
    have hlen : (pre ++ [q]).length = pre.length + 1 := by simp
    rw [hlen] at ih1 ih2
    have one : ∀ k, spec_GoodSet.l1 (k + 1) l (i : Int) x10 x11 x12 l (l.length : Int) (pre.length : Int) p.f0 p.f1 =
        (if (!decide (i = pre.length) && (decide ((pr p).2 ≤ (pr q).2 ∧ (pr p).1 ≤ (pr q).1 ∧ (pr q).1 ≤ (pr p).1 + sz (pr p).2 - 1) || (decide (0 < (pr p).2) && ((pr q).1 == sib (pr p).1 (pr p).2 && (pr q).2 == (pr p).2)))) = true then some false
         else spec_GoodSet.l1 k l (i : Int) x10 x11 x12 l (l.length : Int) ((pre ++ [q]).length : Int) p.f0 p.f1) := by
      intro k
      simp only [spec_GoodSet.l1]
      rw [if_pos hlt, if_pos (len_nn _), if_pos hlt, hw, h1]
      by_cases hi : i = pre.length
      · rw [if_pos (by omega), if_neg (by simp [hi])]
      · rw [if_neg (by omega), spec_l1Covers_is hgp hgq, kz]
        by_cases hc : p.f1 ≤ q.f1 ∧ p.f0 ≤ q.f0 ∧ q.f0 ≤ p.f0 + sz p.f1 - 1
        · rw [if_pos (decide_eq_true hc), if_pos (by simp [hi, pr, hc])]
        · rw [if_neg (by simpa using hc)]
          have hc' : decide ((pr p).2 ≤ (pr q).2 ∧ (pr p).1 ≤ (pr q).1 ∧ (pr q).1 ≤ (pr p).1 + sz (pr p).2 - 1) = false := decide_eq_false hc
          rw [hc', kr]
          by_cases hn : p.f1 > 0
          · rw [if_pos hn, spec_l1Sibling_is hgp hn, kz]
            have hn' : decide (0 < (pr p).2) = true := decide_eq_true hn
            have hi' : (!decide (i = pre.length)) = true := by simp [hi]
            rw [hn', hi', kd, kd]
            rfl
          · rw [if_neg hn]
            have hn' : decide (0 < (pr p).2) = false := decide_eq_false hn
            rw [hn', Bool.false_and, Bool.and_false, if_neg (by simp)]
    have hb : badAt i (pr p) pre.length ((q :: rest).map pr) = ((!decide (i = pre.length) && (decide ((pr p).2 ≤ (pr q).2 ∧ (pr p).1 ≤ (pr q).1 ∧ (pr q).1 ≤ (pr p).1 + sz (pr p).2 - 1) || (decide (0 < (pr p).2) && ((pr q).1 == sib (pr p).1 (pr p).2 && (pr q).2 == (pr p).2)))) || badAt i (pr p) (pre.length + 1) (rest.map pr)) := rfl
    generalize (!decide (i = pre.length) && (decide ((pr p).2 ≤ (pr q).2 ∧ (pr p).1 ≤ (pr q).1 ∧ (pr q).1 ≤ (pr p).1 + sz (pr p).2 - 1) || (decide (0 < (pr p).2) && ((pr q).1 == sib (pr p).1 (pr p).2 && (pr q).2 == (pr p).2)))) = B at one hb
    rw [hb]
    cases B with
    | true =>
      refine ⟨fun _ => Ev.step (f := fun _ => some false) (fun k => by rw [one]; simp) (Ev.now _), fun h => by simp at h⟩
    | false =>
      simp only [kr]
      exact ⟨fun h => Ev.step (f := fun k => spec_GoodSet.l1 k l (i : Int) x10 x11 x12 l (l.length : Int) ((pre ++ [q]).length : Int) p.f0 p.f1) (fun k => by rw [one]; simp) (by rw [hlen]; exact ih1 h),
        fun h r hr => Ev.step (f := fun k => spec_GoodSet.l1 k l (i : Int) x10 x11 x12 l (l.length : Int) ((pre ++ [q]).length : Int) p.f0 p.f1) (fun k => by rw [one]; simp) (by rw [hlen]; exact ih2 h r hr)⟩
theorem spec_GoodSet_is (l : List S45) (hl : l.length ≤ 1048576) : Ev (fun k => spec_GoodSet.f k l) (goodSet (l.map pr)) := by
  have outer : (∀ p, p ∈ l → good p.f0 p.f1 = true) → ∀ (rest pre : List S45), l = pre ++ rest → Ev (fun k => spec_GoodSet.l0 k l l (l.length : Int) (pre.length : Int)) (outS (l.map pr) ((pre.map pr).getLast?) pre.length (rest.map pr)) := by
    intro hg rest
    induction rest with
    | nil =>
      intro pre e
      refine Ev.step (f := fun _ => some true) (fun k => ?_) (by simpa [outS] using Ev.now true)
      simp only [spec_GoodSet.l0]
      rw [if_neg (by rw [e]; simp)]
    | cons p rest ih =>
      intro pre e
      have hih := ih (pre ++ [p]) (by rw [e]; simp)
      rw [kg, ku, List.getLast?_concat] at hih
      have h1 : rd_T45 l (pre.length : Int) = p := by rw [e]; exact rdm_Prefix _ _ _
      have hw : wrap64 ((pre.length : Int) + 1) = ((pre ++ [p]).length : Int) := wrap_mid (rest := rest) (by rw [← e]; simp only [maxLen]; omega)
      have hlt : (pre.length : Int) < (l.length : Int) := by rw [e]; exact lt_mid _ _ _
      have hlen1 : (pre ++ [p]).length = pre.length + 1 := by simp
      rw [hlen1] at hw
      have hcast : ((pre.length + 1 : Nat) : Int) = ((pre ++ [p]).length : Int) := by simp
      refine Ev.step (f := fun k => spec_GoodSet.l1 k l (pre.length : Int) l (l.length : Int) (pre.length : Int) l (l.length : Int) 0 p.f0 p.f1) (fun k => ?_) ?_
      · simp only [spec_GoodSet.l0]
        rw [if_pos hlt, if_pos (len_nn _), if_pos hlt, h1]
      · simp only [kk, outS]
        rw [hlen1] at hih
        rcases snoc_cases pre with hpre | ⟨pre', q, hpre⟩
        · subst hpre
          obtain ⟨i1, i2⟩ := spec_GoodSet_in hl hg p (by rw [e]; simp) 0 l (l.length : Int) 0 (fun k => spec_GoodSet.l0 k l l (l.length : Int) 1) (fun k => by
            simp only [spec_GoodSet.l1]
            rw [if_neg (by omega), if_neg (by simp)]
            rw [show wrap64 (0 + 1) = 1 from wrap_id (by omega) (by omega)]) l [] rfl
          simp only [ko] at i1 i2
          simp only [List.map_nil, List.getLast?_nil, ko, Bool.and_true]
          cases hb : badAt 0 (pr p) 0 (l.map pr) with
          | true => simpa using i1 hb
          | false =>
            have := i2 hb _ hih
            simpa using this
        · subst hpre
          have h3 : rd_T45 l (pre'.length : Int) = q := by rw [e, List.append_assoc]; exact rdm_Prefix _ _ _
          have h2 : wrap64 (((pre' ++ [q]).length : Int) - 1) = (pre'.length : Int) := by
            have : (pre' ++ [q] ++ p :: rest).length ≤ 1048576 := by rw [← e]; exact hl
            simp at this
            rw [ky, kj, wrap_id (by omega) (by omega)]; omega
          have hlt2 : (pre'.length : Int) < (l.length : Int) := by rw [e, ky, ky, kj]; omega
          obtain ⟨i1, i2⟩ := spec_GoodSet_in hl hg p (by rw [e]; simp) (pre' ++ [q]).length l (l.length : Int) ((pre' ++ [q]).length : Int) (fun k => (spec_l1Compare.f k q.f0 q.f1 p.f0 p.f1).bind fun t => if t ≥ 0 then some false else spec_GoodSet.l0 k l l (l.length : Int) (((pre' ++ [q]).length + 1 : Nat) : Int)) (fun k => by
            simp only [spec_GoodSet.l1]
            rw [if_neg (by omega), if_pos (by rw [ky, kj]; omega), h2, if_pos (len_nn _), if_pos hlt2, h3, hw]) l [] rfl
          simp only [ko] at i1 i2
          rw [kg, ku, List.getLast?_concat]
          cases hb : badAt (pre' ++ [q]).length (pr p) 0 (l.map pr) with
          | true => simpa using i1 hb
          | false =>
            obtain ⟨K, hK⟩ := hih
            have := i2 hb (decide (cmpP q.f0 q.f1 p.f0 p.f1 < 0) && outS (l.map pr) (some (pr p)) ((pre' ++ [q]).length + 1) (rest.map pr)) ⟨K + 1, fun k hk => by
              obtain ⟨k, rfl⟩ : ∃ m, k = m + 1 := ⟨k - 1, by omega⟩
              simp only []
              rw [spec_l1Compare_is, kz]
              have hh := hK (k + 1) (by omega)
              simp only at hh
              by_cases hc : cmpP q.f0 q.f1 p.f0 p.f1 ≥ 0
              · rw [if_pos hc]
                have : ¬ cmpP q.f0 q.f1 p.f0 p.f1 < 0 := by omega
                simp [this]
              · rw [if_neg hc]
                have : cmpP q.f0 q.f1 p.f0 p.f1 < 0 := by omega
                simp only [this, decide_true, kd]
                rw [hcast] at hh ⊢
                exact hh⟩
            show Ev _ ((!false && decide (cmpP (pr q).1 (pr q).2 (pr p).1 (pr p).2 < 0)) && outS (l.map pr) (some (pr p)) ((pre' ++ [q]).length + 1) (rest.map pr))
            rw [Bool.not_false, kd]
            exact this
  have hsame := out_same (l.map pr) (l.map pr) none 0
  unfold goodSet rising
  rw [ke, Bool.and_assoc, ← hsame, ← Bool.and_assoc]
  cases hg3 : (decide (l.length ≤ 64) && (l.map pr).all (fun p => good p.1 p.2)) with
  | false =>
    refine ⟨l.length + 1, fun k hk => ?_⟩
    simp only [spec_GoodSet.f]
    rw [spec_l3Good_is k l hl (by omega), hg3]; simp
  | true =>
    have hg : ∀ p, p ∈ l → good p.f0 p.f1 = true := fun p hp => by
      simp only [kh] at hg3
      exact kc.1 hg3.2 (pr p) (kq.2 ⟨p, hp, rfl⟩)
    obtain ⟨K, hK⟩ := outer hg l [] rfl
    refine ⟨K + l.length + 1, fun k hk => ?_⟩
    simp only [spec_GoodSet.f]
    rw [spec_l3Good_is k l hl (by omega), hg3]
    have := hK k (by omega)
    simpa using this
theorem impl_arePrefixes_is (k : Nat) (l : List S45) (hl : l.length ≤ 1048576) (hk : l.length < k) : impl_arePrefixes.f k l = some (decide (l.length ≤ 64) && (l.map pr).all (fun p => good p.1 p.2)) := by
  unfold impl_arePrefixes.f slices_ContainsFunc_impl_Prefix_impl_Prefix.f slices_IndexFunc_impl_Prefix_impl_Prefix.f
  rw [any_gen (fun k i => slices_IndexFunc_impl_Prefix_impl_Prefix.l0 k l (l.length : Int) i) l (fun p => !good p.f0 p.f1) (fun k => by
      show slices_IndexFunc_impl_Prefix_impl_Prefix.l0 (k + 1) l (l.length : Int) (l.length : Int) = _
      rw [slices_IndexFunc_impl_Prefix_impl_Prefix.l0, if_neg (not_lt_end l)]) (fun k pre a rest e => by
      show slices_IndexFunc_impl_Prefix_impl_Prefix.l0 (k + 1) l (l.length : Int) (pre.length : Int) = _
      have h1 : rd_T45 l (pre.length : Int) = a := by rw [e]; exact rdm_Prefix _ _ _
      rw [slices_IndexFunc_impl_Prefix_impl_Prefix.l0, if_pos (by rw [e]; exact lt_mid _ _ _), if_pos (len_nn _), if_pos (by rw [e]; exact lt_mid _ _ _), h1]
      unfold impl_arePrefixes_1.f
      rw [impl_GoodPrefix_is, kz, kz, wrap_mid (rest := rest) (by rw [← e]; simp only [maxLen]; omega)]) k hk]
  have e64 : ((l.length : Int) ≤ 64) ↔ l.length ≤ 64 := by omega
  by_cases h : (l.length : Int) ≤ 64
  · rw [if_pos h, kz]
    have h2 := e64.1 h
    simp only [h2, decide_true, kd, List.all_map, Function.comp_def, pr]
    rw [List.not_any_eq_all_not]
    simp
  · rw [if_neg h]
    have h2 : ¬ l.length ≤ 64 := fun h' => h (e64.2 h')
    simp [h2]
def setHas (l : List Pr) (x : Int) : Bool := l.any (fun p => decide (p.1 ≤ x ∧ x ≤ p.1 + sz p.2 - 1))
def setHasR (l : List Pr) (x : Int) : Bool × Bool := if (decide (l.length ≤ 64) && l.all (fun p => good p.1 p.2)) = true ∧ (0 ≤ x ∧ x ≤ 4294967295) then (setHas l x, true) else (false, false)
theorem impl_SetHas_is (k : Nat) (l : List S45) (x : Int) (hl : l.length ≤ 1048576) (hk : l.length < k) : impl_SetHas.f k l x = some (setHasR (l.map pr) x) := by
  unfold impl_SetHas.f setHasR
  rw [impl_arePrefixes_is k l hl hk, kz]
  have el : (l.map pr).length = l.length := ke ..
  rw [el]
  by_cases hA : (decide (l.length ≤ 64) && (l.map pr).all (fun p => good p.1 p.2)) = true
  · rw [if_pos hA, impl_isAddr_is, kz]
    by_cases hx : 0 ≤ x ∧ x ≤ 4294967295
    · rw [if_pos (decide_eq_true hx), if_pos ⟨hA, hx⟩]
      have hg : ∀ p, p ∈ l → good p.f0 p.f1 = true := by
        intro p hp
        simp only [kh, kc, kq] at hA
        exact hA.2 (pr p) ⟨p, hp, rfl⟩
      have key : impl_SetHas_ct.f k l x = some (setHas (l.map pr) x) := by
        unfold impl_SetHas_ct.f impl_SetHas_ix.f
        rw [any_gen (fun k i => impl_SetHas_ix.l0 x k l (l.length : Int) i) l (fun p => decide (p.f0 ≤ x ∧ x ≤ p.f0 + sz p.f1 - 1)) (fun k => by
          show impl_SetHas_ix.l0 x (k + 1) l (l.length : Int) (l.length : Int) = _
          rw [impl_SetHas_ix.l0, if_neg (not_lt_end l)]) (fun k pre a rest e => by
          show impl_SetHas_ix.l0 x (k + 1) l (l.length : Int) (pre.length : Int) = _
          have h1 : rd_T45 l (pre.length : Int) = a := by rw [e]; exact rdm_Prefix _ _ _
          rw [impl_SetHas_ix.l0, if_pos (by rw [e]; exact lt_mid _ _ _), if_pos (len_nn _), if_pos (by rw [e]; exact lt_mid _ _ _), h1]
          unfold impl_SetHas_1.f
          rw [impl_Prefix_has_is x (hg a (by rw [e]; simp)), kz, wrap_mid (rest := rest) (by rw [← e]; simp only [maxLen]; omega)]) k hk]
        unfold setHas
        rw [List.any_map]
        rfl
      rw [key, kz]
    · rw [if_neg (by simpa using hx), if_neg (fun h => hx h.2)]
  · rw [if_neg hA, if_neg (fun h => hA h.1)]
theorem spec_SetHas_is (k : Nat) (l : List S45) (x : Int) (hl : l.length ≤ 1048576) (hk : l.length + 1 < k) : spec_SetHas.f k l x = some (setHasR (l.map pr) x) := by
  unfold spec_SetHas.f setHasR
  rw [spec_l3Good_is k l hl (by omega), kz]
  have el : (l.map pr).length = l.length := ke ..
  rw [el]
  obtain ⟨k, rfl⟩ : ∃ m, k = m + 1 := ⟨k - 1, by omega⟩
  by_cases hA : (decide (l.length ≤ 64) && (l.map pr).all (fun p => good p.1 p.2)) = true
  · rw [if_pos hA, spec_l1Addr_is, kz]
    by_cases hx : 0 ≤ x ∧ x ≤ 4294967295
    · rw [if_pos ⟨hA, hx⟩]
      have hg : ∀ p, p ∈ l → good p.f0 p.f1 = true := by
        intro p hp
        simp only [kh, kc, kq] at hA
        exact hA.2 (pr p) ⟨p, hp, rfl⟩
      simp only [spec_SetHas.j0]
      rw [if_neg (by simp [hx])]
      have key : ∀ (rest pre : List S45) (k : Nat), l = pre ++ rest → rest.length < k → spec_SetHas.l0 k x l (l.length : Int) (pre.length : Int) = some (setHas (rest.map pr) x, true) := by
        intro rest
        induction rest with
        | nil =>
          intro pre k e hk
          obtain ⟨k, rfl⟩ : ∃ m, k = m + 1 := ⟨k - 1, by omega⟩
          rw [spec_SetHas.l0, if_neg (by rw [e]; simp)]
          rfl
        | cons a rest ih =>
          intro pre k e hk
          obtain ⟨k, rfl⟩ : ∃ m, k = m + 1 := ⟨k - 1, by omega⟩
          have h1 : rd_T45 l (pre.length : Int) = a := by rw [e]; exact rdm_Prefix _ _ _
          rw [spec_SetHas.l0, if_pos (by rw [e]; exact lt_mid _ _ _), if_pos (len_nn _), if_pos (by rw [e]; exact lt_mid _ _ _), h1, spec_l1HasAddr_is (hg a (by rw [e]; simp)) hx.1 hx.2, kz, wrap_mid (rest := rest) (by rw [← e]; simp only [maxLen]; omega), ih (pre ++ [a]) k (by rw [e]; simp) (by simp at hk; omega)]
          by_cases hv : a.f0 ≤ x ∧ x ≤ a.f0 + sz a.f1 - 1
          · rw [if_pos (decide_eq_true hv)]; simp [setHas, pr, hv]
          · rw [if_neg (by simpa using hv)]
            have : decide (a.f0 ≤ x ∧ x ≤ a.f0 + sz a.f1 - 1) = false := decide_eq_false hv
            simp only [setHas, kk, List.any_cons, pr, this, kr]
      exact key l [] k rfl (by omega)
    · rw [if_neg (fun h => hx h.2)]
      simp only [spec_SetHas.j0]
      rw [if_pos (by simp only [decide_eq_false hx, Bool.not_false])]
  · rw [if_neg hA, if_neg (fun h => hA h.1)]
    simp only [spec_SetHas.j0]
    rw [if_pos trivial]
theorem mx_max (a b : Int) : mx a b = max a b := by unfold mx; split <;> omega
theorem spansOf_l0 (l : List S45) (hn : l.length ≤ 1048576) (hg : ∀ p, p ∈ l → good p.f0 p.f1 = true) : ∀ (rest pre : List S45) (out : List S74), l = pre ++ rest → out.length ≤ pre.length → (∀ s, s ∈ out → 0 ≤ s.f0 ∧ 0 ≤ s.f1 ∧ s.f1 ≤ 4294967295) →
    ∃ r : List S74, r.map spn = (rest.map pr).foldl rowPut (out.map spn) ∧ r.length ≤ l.length ∧ (∀ s, s ∈ r → 0 ≤ s.f0 ∧ 0 ≤ s.f1 ∧ s.f1 ≤ 4294967295) ∧ Ev (fun k => impl_spansOf.l0 k out l (l.length : Int) (pre.length : Int)) r := by
  intro rest
  induction rest with
  | nil =>
    intro pre out e ho hb
    refine ⟨out, rfl, by rw [e]; simpa using ho, hb, ?_⟩
    refine Ev.step (f := fun _ => some out) (fun k => ?_) (Ev.now out)
    simp only [impl_spansOf.l0]
    rw [if_neg (by rw [e]; simp)]
  | cons a rest ih =>
    intro pre out e ho hb
    have hga := hg a (by rw [e]; simp)
    have hlast : impl_Prefix_end.f a.f0 a.f1 = some (last (pr a)) := impl_Prefix_end_is hga
    obtain ⟨g1, g2, g3, g4, _⟩ := good_iff.1 hga
    have hszp := sz_pos a.f1
    have hle : last (pr a) ≤ 4294967295 := good_end hga
    have hl0 : a.f0 ≤ last (pr a) := fst_le_last (pr a)
    have hlen : pre.length < l.length := by rw [e]; simp
    have h1 : rd_T45 l (pre.length : Int) = a := by rw [e]; exact rdm_Prefix _ _ _
    have hw : wrap64 ((pre.length : Int) + 1) = ((pre ++ [a]).length : Int) := by rw [wrap_id (by omega) (by omega)]; simp

    have next : ∀ out' : List S74, out'.map spn = rowPut (out.map spn) (pr a) → out'.length ≤ pre.length + 1 → (∀ s, s ∈ out' → 0 ≤ s.f0 ∧ 0 ≤ s.f1 ∧ s.f1 ≤ 4294967295) →
        (∃ f : Nat → Option (List S74), (∀ k, impl_spansOf.l0 (k + 1) out l (l.length : Int) (pre.length : Int) = f k) ∧ ∀ k, f (k + 1) = impl_spansOf.l0 k out' l (l.length : Int) ((pre ++ [a]).length : Int)) →
        ∃ r : List S74, r.map spn = ((a :: rest).map pr).foldl rowPut (out.map spn) ∧ r.length ≤ l.length ∧ (∀ s, s ∈ r → 0 ≤ s.f0 ∧ 0 ≤ s.f1 ∧ s.f1 ≤ 4294967295) ∧ Ev (fun k => impl_spansOf.l0 k out l (l.length : Int) (pre.length : Int)) r := by
      rintro out' ho' hl' hb' ⟨f, hf1, hf2⟩
      obtain ⟨r, hr, hrl, hrb, E⟩ := ih (pre ++ [a]) out' (by rw [e]; simp) (by simpa using hl') hb'
      refine ⟨r, by rw [hr, ho']; rfl, hrl, hrb, ?_⟩
      exact Ev.step (f := f) hf1 (Ev.step (f := fun k => impl_spansOf.l0 k out' l (l.length : Int) ((pre ++ [a]).length : Int)) hf2 E)
    rcases List.eq_nil_or_concat out with rfl | ⟨init, s, rfl⟩
    · refine next [⟨a.f0, last (pr a)⟩] rfl (by simp) (fun s hs => by rcases ks.1 hs with rfl; exact ⟨g3, by show 0 ≤ last (pr a); omega, hle⟩) ?_
      refine ⟨fun k => impl_spansOf.j1 k [] (wrap64 ((([] : List S74).length : Int) - 1)) l (l.length : Int) (pre.length : Int) false a.f0 a.f1, fun k => ?_, fun k => ?_⟩
      · simp only [impl_spansOf.l0]
        rw [if_pos (by omega), if_pos (len_nn _), if_pos (by omega), if_neg (by simp only [ko]; rw [wrap_id (by omega) (by omega)]; omega), h1]
      · simp only [impl_spansOf.j1]
        rw [if_neg (by simp), hlast, kz, if_pos (by simp), hw]
        rfl
    · rw [List.concat_eq_append] at *
      have hbs := hb s (by simp)
      have hol : init.length + 1 ≤ pre.length := by simpa using ho
      have hw2 : wrap64 (((init ++ [s]).length : Int) - 1) = (init.length : Int) := by
        rw [show ((init ++ [s]).length : Int) = (init.length : Int) + 1 by simp, wrap_id (by omega) (by omega)]; omega
      have h2 : rd_T74 (init ++ [s]) (init.length : Int) = s := rdm_Span init s []
      have hw3 : wrap64 (s.f1 + 1) = s.f1 + 1 := wrap_id (by omega) (by omega)
      have hin : (init.length : Int) < ((init ++ [s]).length : Int) := by simp; omega
      have hgl : (List.map spn (init ++ [s])).getLast? = some (spn s) := by simp
      by_cases hc : a.f0 ≤ s.f1 + 1
      · refine next (init ++ [⟨s.f0, max s.f1 (last (pr a))⟩]) ?_ (by simpa using Nat.le_succ_of_le hol) (fun t ht => ?_) ?_
        · unfold rowPut
          rw [hgl]
          dsimp only
          rw [if_pos (show (pr a).1 ≤ (spn s).2 + 1 from hc)]
          simp [spn]
        · rcases kl.1 ht with h3 | h3
          · exact hb t (kl.2 (.inl h3))
          · rcases ks.1 h3 with rfl
            refine ⟨hbs.1, ?_, ?_⟩
            · show 0 ≤ max s.f1 (last (pr a)); omega
            · show max s.f1 (last (pr a)) ≤ 4294967295; omega
        · refine ⟨fun k => impl_spansOf.j1 k (init ++ [s]) (init.length : Int) l (l.length : Int) (pre.length : Int) (decide (a.f0 ≤ s.f1 + 1)) a.f0 a.f1, fun k => ?_, fun k => ?_⟩
          · simp only [impl_spansOf.l0]
            rw [if_pos (by omega), if_pos (len_nn _), if_pos (by omega), hw2, if_pos (len_nn _), if_pos (len_nn _), if_pos hin, h1, h2, hw3]
          · simp only [impl_spansOf.j1]
            rw [if_pos (by simpa using hc), if_pos (len_nn _), if_pos hin, hlast, kz, h2, hw, mx_max, set_mid]
      · refine next (init ++ [s] ++ [⟨a.f0, last (pr a)⟩]) ?_ (by simp; omega) (fun t ht => ?_) ?_
        · unfold rowPut
          rw [hgl]
          dsimp only
          rw [if_neg (show ¬ (pr a).1 ≤ (spn s).2 + 1 from hc), kg]
          rfl
        · rcases kl.1 ht with h3 | h3
          · exact hb t h3
          · rcases ks.1 h3 with rfl
            exact ⟨g3, by show 0 ≤ last (pr a); omega, hle⟩
        · refine ⟨fun k => impl_spansOf.j1 k (init ++ [s]) (init.length : Int) l (l.length : Int) (pre.length : Int) (decide (a.f0 ≤ s.f1 + 1)) a.f0 a.f1, fun k => ?_, fun k => ?_⟩
          · simp only [impl_spansOf.l0]
            rw [if_pos (by omega), if_pos (len_nn _), if_pos (by omega), hw2, if_pos (len_nn _), if_pos (len_nn _), if_pos hin, h1, h2, hw3]
          · simp only [impl_spansOf.j1]
            rw [if_neg (by simpa using hc), hlast, kz, if_pos (show (init ++ [s]).length < 8796093022208 by omega), hw]
theorem sv_sort_pairs (l : List (Int × Int)) : (sv_sort l).Pairwise (fun p q => p.1 ≤ q.1) := by
  have h := List.pairwise_mergeSort (le := fun x y : Int × Int => !(ltOf sv_cf) y x) (fun a b c h1 h2 => by
    have := sv_swo.ntrans c b a (by simpa using h2) (by simpa using h1)
    simpa using this) (fun a b => by
    cases h1 : ltOf sv_cf b a
    · simp
    · cases h2 : ltOf sv_cf a b
      · simp
      · have := sv_swo.trans a b a h2 h1
        rw [sv_swo.irrefl] at this; cases this) l
  refine h.imp (fun {a b} hab => ?_)
  have h1 : ltOf sv_cf b a = false := by simpa using hab
  rw [sv_lt] at h1
  simp only [decide_eq_false_iff_not] at h1
  omega
theorem spansOf_is (l : List S45) (hn : l.length ≤ 1048576) (hg : ∀ p, p ∈ l → good p.f0 p.f1 = true) :
    ∃ r : List S74, Gapped (r.map spn) ∧ (∀ x, inS (r.map spn) x ↔ inL (l.map pr) x) ∧ r.length ≤ l.length ∧ (∀ s, s ∈ r → 0 ≤ s.f0 ∧ 0 ≤ s.f1 ∧ s.f1 ≤ 4294967295) ∧ Ev (fun k => impl_spansOf.f k l) r := by
  have hperm : (sv_sort (l.map sv_p)).Perm (l.map sv_p) := List.mergeSort_perm _ _
  have hmem : ∀ p, p ∈ (sv_sort (l.map sv_p)).map sv_s ↔ p ∈ l := fun p => by
    rw [kq]
    constructor
    · rintro ⟨q, hq, rfl⟩
      obtain ⟨t, ht, rfl⟩ := kq.1 (hperm.mem_iff.1 hq)
      exact ht
    · intro hp
      exact ⟨sv_p p, hperm.mem_iff.2 (kq.2 ⟨p, hp, rfl⟩), rfl⟩
  have hlen : ((sv_sort (l.map sv_p)).map sv_s).length = l.length := by rw [ke, hperm.length_eq, ke]
  obtain ⟨r, hr, hrl, hrb, E⟩ := spansOf_l0 ((sv_sort (l.map sv_p)).map sv_s) (by omega) (fun p hp => hg p ((hmem p).1 hp)) ((sv_sort (l.map sv_p)).map sv_s) [] [] rfl (by simp) (by simp)
  have hpairs : (((sv_sort (l.map sv_p)).map sv_s).map pr) = sv_sort (l.map sv_p) := by
    rw [List.map_map]
    exact List.map_id _
  rw [hpairs] at hr
  obtain ⟨b', hI⟩ := rows_fold (sv_sort (l.map sv_p)) [] _ (-1) (rows_start (-1)) (sv_sort_pairs _) (fun p hp => by
    obtain ⟨t, ht, rfl⟩ := kq.1 (hperm.mem_iff.1 hp)
    obtain ⟨_, _, g3, _, _⟩ := good_iff.1 (hg t ht)
    show -1 ≤ t.f0
    omega)
  have hr' : r.map spn = (sv_sort (l.map sv_p)).foldl rowPut [] := hr
  refine ⟨r, by rw [hr']; exact hI.gap, fun x => ?_, by omega, hrb, ?_⟩
  · rw [hr', hI.eq x]
    unfold inL
    constructor
    · rintro (h | ⟨p, hp, h⟩)
      · exact h.elim
      · exact ⟨p, hperm.mem_iff.1 hp, h⟩
    · rintro ⟨p, hp, h⟩
      exact .inr ⟨p, hperm.mem_iff.2 hp, h⟩
  · refine Ev.congr (f := fun k => impl_spansOf.l0 k [] ((sv_sort (l.map sv_p)).map sv_s) (((sv_sort (l.map sv_p)).map sv_s).length : Int) (([] : List S45).length : Int)) (fun k => ?_) E
    unfold impl_spansOf.f slices_SortedFunc.f
    rw [if_pos (by omega), kz]
    rfl
theorem l3Put_l2 (p : Pr) : ∀ (rest pre : List S45), (pre ++ rest).length ≤ 1048576 → (rest.map pr).Pairwise (fun a b => a.1 ≤ b.1) → (∀ q, q ∈ pre → q.f0 ≤ p.1) →
    ∃ l1 l2, pre ++ rest = l1 ++ l2 ∧ (∀ q, q ∈ l1 → q.f0 ≤ p.1) ∧ (∀ q, q ∈ l2 → p.1 ≤ q.f0) ∧ ∃ K, ∀ k, K ≤ k → spec_l3Put.l2 k (pre ++ rest) (pre.length : Int) p.1 p.2 = some (l1 ++ ⟨p.1, p.2⟩ :: l2) := by
  have fin : ∀ (pre rest : List S45), (pre ++ rest).length ≤ 1048576 → (if (pre.length : Int) ≤ ((pre ++ rest).length : Int) then ((some ((pre ++ rest).take (pre.length : Int).toNat : List S45)).bind fun y176 => (if ([] : List S45).length + y176.length < 8796093022208 then ((some (([] : List S45) ++ y176 : List S45)).bind fun y180 => (if y180.length < 8796093022208 then ((some (y180 ++ [(⟨p.1, p.2⟩ : S45)] : List S45)).bind fun y183 => ((some ((pre ++ rest).drop (pre.length : Int).toNat : List S45)).bind fun y186 => (if y183.length + y186.length < 8796093022208 then (some (y183 ++ y186)) else (none)))) else (none))) else (none))) else (none)) = some (pre ++ ⟨p.1, p.2⟩ :: rest) := by
    intro pre rest h
    have h' : pre.length + rest.length ≤ 1048576 := by simpa using h
    rw [if_pos (by simp; omega), Int.toNat_natCast, List.take_left, List.drop_left]
    simp only [kz, kx]
    rw [if_pos (by simp; omega), if_pos (by omega), if_pos (by simp; omega)]
    simp
  intro rest
  induction rest with
  | nil =>
    intro pre h hs hp
    refine ⟨pre, [], rfl, hp, by simp, 1, fun k hk => ?_⟩
    obtain ⟨k, rfl⟩ : ∃ k', k = k' + 1 := ⟨k - 1, by omega⟩
    rw [spec_l3Put.l2, if_neg (by simp), if_pos (len_nn _)]
    exact fin pre [] h
  | cons q rest ih =>
    intro pre h hs hp
    have h1 : rd_T45 (pre ++ q :: rest) (pre.length : Int) = q := rdm_Prefix _ _ _
    have h' : pre.length + (rest.length + 1) ≤ 1048576 := by simpa using h
    obtain ⟨s1, s2⟩ := List.pairwise_cons.1 hs
    by_cases hc : cmpP q.f0 q.f1 p.1 p.2 < 0
    · have hq : q.f0 ≤ p.1 := by unfold cmpP at hc; split at hc <;> (try split at hc) <;> omega
      obtain ⟨l1, l2, e, a1, a2, K, hK⟩ := ih (pre ++ [q]) (by simpa using h) s2 (fun t ht => by
        rcases kl.1 ht with h2 | h2
        · exact hp t h2
        · rcases ks.1 h2 with rfl; exact hq)
      have e2 : pre ++ q :: rest = pre ++ [q] ++ rest := by simp
      refine ⟨l1, l2, by rw [e2, e], a1, a2, K + 2, fun k hk => ?_⟩
      obtain ⟨k, rfl⟩ : ∃ k', k = k' + 1 + 1 := ⟨k - 2, by omega⟩
      rw [spec_l3Put.l2, if_pos (lt_mid _ _ _), if_pos (len_nn _), h1, spec_l1Compare_is, kz, if_pos hc, wrap_id (by omega) (by omega), e2, show (pre.length : Int) + 1 = ((pre ++ [q]).length : Int) by simp]
      exact hK _ (by omega)
    · have hq : p.1 ≤ q.f0 := by unfold cmpP at hc; split at hc <;> (try split at hc) <;> omega
      refine ⟨pre, q :: rest, rfl, hp, fun t ht => ?_, 2, fun k hk => ?_⟩
      · rcases kp.1 ht with rfl | h2
        · exact hq
        · exact Int.le_trans hq (s1 (pr t) (kq.2 ⟨t, h2, rfl⟩))
      · obtain ⟨k, rfl⟩ : ∃ k', k = k' + 1 + 1 := ⟨k - 2, by omega⟩
        rw [spec_l3Put.l2, if_pos (lt_mid _ _ _), if_pos (len_nn _), h1, spec_l1Compare_is, kz, if_neg hc]
        exact fin pre (q :: rest) h
def kcov (p : Pr) (q : S45) : Bool := decide (p.2 ≤ q.f1 ∧ p.1 ≤ q.f0 ∧ q.f0 ≤ p.1 + sz p.2 - 1)
def ksib (p : Pr) (q : S45) : Bool := decide (0 < p.2) && (q.f0 == sib p.1 p.2 && q.f1 == p.2)
theorem l3Put_l1 (p : Pr) (hp : good p.1 p.2 = true) (l : List S45) (hl : l.length ≤ 1048576) (hg : ∀ q, q ∈ l → good q.f0 q.f1 = true) (k : Nat) : ∀ (rest pre x7 : List S45) (x8 : Bool), l = pre ++ rest → x7.length ≤ pre.length →
    spec_l3Put.l1 (k + rest.length + 1) x7 x8 l (l.length : Int) (pre.length : Int) p.1 p.2 = if (x8 || rest.any (fun q => !kcov p q && ksib p q)) = true then ((spec_l1Parent.f p.1 p.2).bind fun bt => ((spec_l3Put.f k (x7 ++ rest.filter (fun q => !kcov p q && !ksib p q)) bt.1 bt.2).bind fun t => (some t))) else spec_l3Put.l2 k (x7 ++ rest.filter (fun q => !kcov p q && !ksib p q)) 0 p.1 p.2 := by
  intro rest
  induction rest with
  | nil =>
    intro pre x7 x8 e h7
    rw [spec_l3Put.l1, if_neg (by rw [e]; simp)]
    simp
  | cons q rest ih =>
    intro pre x7 x8 e h7
    have hq := hg q (by rw [e]; simp)
    have hlen : pre.length < l.length := by rw [e]; simp
    have h1 : rd_T45 l (pre.length : Int) = q := by rw [e]; exact rdm_Prefix _ _ _
    have hw : wrap64 ((pre.length : Int) + 1) = ((pre ++ [q]).length : Int) := by rw [wrap_id (by omega) (by omega)]; simp
    have hk : k + (q :: rest).length + 1 = (k + rest.length + 1) + 1 := by simp; omega
    have e2 : l = (pre ++ [q]) ++ rest := by rw [e]; simp
    rw [hk, spec_l3Put.l1, if_pos (by omega), if_pos (len_nn _), if_pos (by omega), h1, spec_l1Covers_is hp hq, kz, hw, show decide (p.2 ≤ q.f1 ∧ p.1 ≤ q.f0 ∧ q.f0 ≤ p.1 + sz p.2 - 1) = kcov p q from rfl]
    by_cases hc : kcov p q = true
    · rw [if_pos hc, ih (pre ++ [q]) x7 x8 e2 (by simp; omega)]
      simp [hc]
    · have hc' : kcov p q = false := by simpa using hc
      rw [if_neg hc]
      have push : (if x7.length < 8796093022208 then (spec_l3Put.l1 (k + rest.length + 1) (x7 ++ [(⟨q.f0, q.f1⟩ : S45)]) x8 l (l.length : Int) ((pre ++ [q]).length : Int) p.1 p.2) else (none)) = if (x8 || rest.any (fun q => !kcov p q && ksib p q)) = true then ((spec_l1Parent.f p.1 p.2).bind fun bt => ((spec_l3Put.f k (x7 ++ q :: rest.filter (fun q => !kcov p q && !ksib p q)) bt.1 bt.2).bind fun t => (some t))) else spec_l3Put.l2 k (x7 ++ q :: rest.filter (fun q => !kcov p q && !ksib p q)) 0 p.1 p.2 := by
        rw [if_pos (by omega)]
        refine Eq.trans (ih (pre ++ [q]) (x7 ++ [q]) x8 e2 (by simp; omega)) ?_
        rw [show x7 ++ [q] ++ rest.filter (fun q => !kcov p q && !ksib p q) = x7 ++ q :: rest.filter (fun q => !kcov p q && !ksib p q) by simp]
      by_cases hn : p.2 > 0
      · rw [if_pos hn, spec_l1Sibling_is hp hn, kz]
        by_cases hs : (q.f0 == sib p.1 p.2 && q.f1 == p.2) = true
        · have hks : ksib p q = true := by unfold ksib; rw [hs]; simp; omega
          rw [if_pos hs, ih (pre ++ [q]) x7 true e2 (by simp; omega)]
          simp [hc', hks]
        · have hks : ksib p q = false := by unfold ksib; rw [Bool.eq_false_iff.2 hs]; simp
          rw [if_neg hs, push]
          simp [hc', hks]
      · have hks : ksib p q = false := by unfold ksib; simp; omega
        rw [if_neg hn, push]
        simp [hc', hks]
theorem l3Put_l0 (p : Pr) (hp : good p.1 p.2 = true) (l : List S45) (hl : l.length ≤ 1048576) (hg : ∀ q, q ∈ l → good q.f0 q.f1 = true) (k : Nat) : ∀ (rest pre : List S45), l = pre ++ rest →
    spec_l3Put.l0 (k + rest.length + 1) l l (l.length : Int) (pre.length : Int) p.1 p.2 = if rest.any (fun q => decide (cov (pr q) p)) = true then some l else spec_l3Put.l1 k [] false l (l.length : Int) 0 p.1 p.2 := by
  intro rest
  induction rest with
  | nil =>
    intro pre e
    rw [spec_l3Put.l0, if_neg (by rw [e]; simp)]
    simp
  | cons q rest ih =>
    intro pre e
    have hq := hg q (by rw [e]; simp)
    have hlen : pre.length < l.length := by rw [e]; simp
    have h1 : rd_T45 l (pre.length : Int) = q := by rw [e]; exact rdm_Prefix _ _ _
    have hw : wrap64 ((pre.length : Int) + 1) = ((pre ++ [q]).length : Int) := by rw [wrap_id (by omega) (by omega)]; simp
    have hk : k + (q :: rest).length + 1 = (k + rest.length + 1) + 1 := by simp; omega
    rw [hk, spec_l3Put.l0, if_pos (by omega), if_pos (len_nn _), if_pos (by omega), h1, spec_l1Covers_is hq hp, kz, hw]
    by_cases hc : q.f1 ≤ p.2 ∧ q.f0 ≤ p.1 ∧ p.1 ≤ q.f0 + sz q.f1 - 1
    · have hc2 : cov (pr q) p := hc
      rw [if_pos (by simpa using hc)]
      simp [hc2]
    · have hc2 : ¬ cov (pr q) p := hc
      rw [if_neg (by simpa using hc), ih (pre ++ [q]) (by rw [e]; simp)]
      simp [hc2]
theorem kcov_iff (p : Pr) (q : S45) : kcov p q = true ↔ cov p (pr q) := by unfold kcov; simp only [decide_eq_true_eq]; exact Iff.rfl
theorem ksib_iff (p : Pr) (q : S45) : ksib p q = true ↔ (0 < p.2 ∧ pr q = sibp p) := by
  unfold ksib sibp pr
  simp only [kh, decide_eq_true_eq, beq_iff_eq, Prod.mk.injEq]
def kf (p x : Pr) : Bool := !decide (cov p x) && !decide (0 < p.2 ∧ x = sibp p)
theorem kf_false {p q : Pr} (h : kf p q = false) : cov p q ∨ q = sibp p := by
  unfold kf at h
  by_cases h1 : cov p q
  · exact .inl h1
  · by_cases h2 : 0 < p.2 ∧ q = sibp p
    · exact .inr h2.2
    · simp [h1, h2] at h
theorem kept_map (p : Pr) (l : List S45) : (l.filter (fun q => !kcov p q && !ksib p q)).map pr = (l.map pr).filter (kf p) := by
  rw [List.filter_map]
  congr 1
  apply List.filter_congr
  intro q hq
  show (!kcov p q && !ksib p q) = kf p (pr q)
  unfold kf
  have e1 : kcov p q = decide (cov p (pr q)) := by rw [kn, kcov_iff]; simp
  have e2 : ksib p q = decide (0 < p.2 ∧ pr q = sibp p) := by rw [kn, ksib_iff]; simp
  rw [e1, e2]
theorem l3Put_is : ∀ (n : Nat) (p : Pr) (l : List S45) (S : Int → Prop), p.2.toNat = n → good p.1 p.2 = true → Canon S (l.map pr) → l.length ≤ 1000000 →
    ∃ r : List S45, Canon (fun x => S x ∨ inP p x) (r.map pr) ∧ r.length ≤ l.length + 1 ∧ ∃ K, ∀ k, K ≤ k → spec_l3Put.f k l p.1 p.2 = some r := by
  intro n
  induction n using Nat.strongRecOn with
  | _ n ih =>
    intro p l S hn hp hC hl
    have hg : ∀ q, q ∈ l → good q.f0 q.f1 = true := fun q hq => (hC.mem.1 (kq.2 ⟨q, hq, rfl⟩)).1
    have h0 := l3Put_l0 p hp l (by omega) hg
    have h1 := l3Put_l1 p hp l (by omega) hg
    by_cases hcov : l.any (fun q => decide (cov (pr q) p)) = true
    · obtain ⟨q, hq, hc⟩ := km.1 hcov
      refine ⟨l, put_in hC hp (kq.2 ⟨q, hq, rfl⟩) (by simpa using hc), by omega, l.length + 2, fun k hk => ?_⟩
      obtain ⟨k', rfl⟩ : ∃ k', k = k' + l.length + 1 + 1 := ⟨k - l.length - 2, by omega⟩
      rw [spec_l3Put.f]
      refine (h0 k' l [] rfl).trans ?_
      rw [if_pos hcov]
    · have hno : ∀ q, q ∈ l → ¬ cov (pr q) p := fun q hq hc => hcov (km.2 ⟨q, hq, by simpa using hc⟩)
      have hstart : ∀ k, spec_l3Put.f (k + l.length + 1 + l.length + 1 + 1) l p.1 p.2 = spec_l3Put.l1 (k + l.length + 1) [] false l (l.length : Int) 0 p.1 p.2 := fun k => by
        rw [spec_l3Put.f]
        refine (h0 (k + l.length + 1) l [] rfl).trans ?_
        rw [if_neg hcov]
      have hR := put_rest hC (kf p)
      have hkl : (l.filter (fun q => !kcov p q && !ksib p q)).length ≤ l.length := List.length_filter_le _ _
      by_cases hs : 0 < p.2 ∧ sibp p ∈ l.map pr
      · obtain ⟨hn0, hsm⟩ := hs
        obtain ⟨q, hq, hqs⟩ := kq.1 hsm
        have hncov : ¬ cov p (sibp p) := by
          rintro ⟨_, a1, a2⟩
          have := parent_cases hp
          have h3 : last p = p.1 + sz p.2 - 1 := rfl
          have := sz_pos p.2
          omega
        have hany : l.any (fun q => !kcov p q && ksib p q) = true := km.2 ⟨q, hq, by
          have e1 : kcov p q = false := by rw [Bool.eq_false_iff]; intro hk; exact hncov (hqs ▸ (kcov_iff p q).1 hk)
          rw [e1, (ksib_iff p q).2 ⟨hn0, hqs⟩]; rfl⟩
        obtain ⟨r, rC, rl, K, hK⟩ := ih (parent p).2.toNat (by show (p.2 - 1).toNat < n; omega) (parent p) (l.filter (fun q => !kcov p q && !ksib p q)) _ rfl (good_parent hp hn0) (by rw [kept_map]; exact hR) (by omega)
        refine ⟨r, rC.congr (fun x => put_pair hC hp hn0 hsm (fun q h => kf_false h) x), by omega, K + l.length + 1 + l.length + 1 + 1, fun k hk => ?_⟩
        obtain ⟨k', rfl⟩ : ∃ k', k = k' + l.length + 1 + l.length + 1 + 1 := ⟨k - (l.length + 1 + l.length + 1 + 1), by omega⟩
        rw [hstart]
        refine (h1 k' l [] [] false rfl (by simp)).trans ?_
        rw [if_pos (by simpa using hany), spec_l1Parent_is hp hn0, kz, kx]
        have hK' := hK k' (by omega)
        exact (congrArg (fun o : Option (List S45) => o.bind fun t => some t) hK').trans rfl
      · have hsn : 0 < p.2 → sibp p ∉ l.map pr := fun h3 h4 => hs ⟨h3, h4⟩
        have hany : ¬ l.any (fun q => !kcov p q && ksib p q) = true := fun h => by
          obtain ⟨q, hq, hb⟩ := km.1 h
          have hb2 : ksib p q = true := (kh _ _ ▸ hb).2
          obtain ⟨b1, b2⟩ := (ksib_iff p q).1 hb2
          exact hs ⟨b1, b2 ▸ kq.2 ⟨q, hq, rfl⟩⟩
        have hsrt : ((l.filter (fun q => !kcov p q && !ksib p q)).map pr).Pairwise (fun a b => a.1 ≤ b.1) := by
          rw [kept_map]
          exact hR.srt.imp (fun {a b} hab => by have := fst_le_last a; omega)
        obtain ⟨l1, l2, e, a1, a2, K, hK⟩ := l3Put_l2 p (l.filter (fun q => !kcov p q && !ksib p q)) [] (by rw [kx]; omega) hsrt (by simp)
        rw [kx] at e hK
        have el : l1.length + l2.length ≤ l.length := by rw [← ky, ← e]; exact hkl
        refine ⟨l1 ++ ⟨p.1, p.2⟩ :: l2, ?_, by simp; omega, K + l.length + 1 + l.length + 1 + 1, fun k hk => ?_⟩
        · rw [kg, kk]
          exact put_new hC hp (fun q hq => by obtain ⟨t, ht, rfl⟩ := kq.1 hq; exact hno t ht) hsn (f := kf p) (fun q hq => by
            have : ¬ (0 < p.2 ∧ q = sibp p) := fun h => hsn h.1 (h.2 ▸ hq)
            unfold kf; simp [this]) (by rw [← kept_map, e, kg]) (fun q hq => by obtain ⟨t, ht, rfl⟩ := kq.1 hq; exact a1 t ht) (fun q hq => by obtain ⟨t, ht, rfl⟩ := kq.1 hq; exact a2 t ht)
        · obtain ⟨k', rfl⟩ : ∃ k', k = k' + l.length + 1 + l.length + 1 + 1 := ⟨k - (l.length + 1 + l.length + 1 + 1), by omega⟩
          rw [hstart]
          refine (h1 k' l [] [] false rfl (by simp)).trans ?_
          rw [if_neg (by simpa using hany), kx]
          exact hK k' (by omega)
theorem l3Fewest_l0 (l : List S45) (hl : l.length ≤ 1000) (hg : ∀ q, q ∈ l → good q.f0 q.f1 = true) : ∀ (rest pre out : List S45) (S : Int → Prop), l = pre ++ rest → Canon S (out.map pr) → out.length ≤ pre.length →
    ∃ r : List S45, Canon (fun x => S x ∨ inL (rest.map pr) x) (r.map pr) ∧ r.length ≤ l.length ∧ ∃ K, ∀ k, K ≤ k → spec_l3Fewest.l0 k out l (l.length : Int) (pre.length : Int) = some r := by
  intro rest
  induction rest with
  | nil =>
    intro pre out S e hC ho
    refine ⟨out, hC.congr (fun x => ⟨.inl, fun h => h.elim id (fun ⟨p, hp, _⟩ => by simp at hp)⟩), by rw [e]; simpa using ho, 1, fun k hk => ?_⟩
    obtain ⟨k, rfl⟩ : ∃ k', k = k' + 1 := ⟨k - 1, by omega⟩
    rw [spec_l3Fewest.l0, if_neg (by rw [e]; simp)]
  | cons q rest ih =>
    intro pre out S e hC ho
    have hlen : pre.length < l.length := by rw [e]; simp
    have h1 : rd_T45 l (pre.length : Int) = q := by rw [e]; exact rdm_Prefix _ _ _
    have hw : wrap64 ((pre.length : Int) + 1) = ((pre ++ [q]).length : Int) := by rw [wrap_id (by omega) (by omega)]; simp
    obtain ⟨r1, rC, rl, K1, hK1⟩ := l3Put_is _ (pr q) out S rfl (hg q (by rw [e]; simp)) hC (by omega)
    obtain ⟨r, rC2, rl2, K2, hK2⟩ := ih (pre ++ [q]) r1 _ (by rw [e]; simp) rC (by simp; omega)
    refine ⟨r, rC2.congr (fun x => ?_), rl2, K1 + K2 + 1, fun k hk => ?_⟩
    · unfold inL
      constructor
      · rintro ((h | h) | ⟨p, hp, h⟩)
        · exact .inl h
        · exact .inr ⟨pr q, by simp, h⟩
        · exact .inr ⟨p, by simp only [kk, kp]; exact .inr hp, h⟩
      · rintro (h | ⟨p, hp, h⟩)
        · exact .inl (.inl h)
        · rw [kk] at hp
          rcases kp.1 hp with rfl | hp
          · exact .inl (.inr h)
          · exact .inr ⟨p, hp, h⟩
    · obtain ⟨k, rfl⟩ : ∃ k', k = k' + 1 := ⟨k - 1, by omega⟩
      rw [spec_l3Fewest.l0, if_pos (by omega), if_pos (len_nn _), if_pos (by omega), h1, hw]
      have := hK1 k (by omega)
      rw [show spec_l3Put.f k out q.f0 q.f1 = some r1 from this, kz]
      exact hK2 k (by omega)
theorem spec_l3Fewest_is (l : List S45) (hl : l.length ≤ 1000) (hg : ∀ q, q ∈ l → good q.f0 q.f1 = true) : ∃ r : List S45, Canon (inL (l.map pr)) (r.map pr) ∧ r.length ≤ l.length ∧ ∃ K, ∀ k, K ≤ k → spec_l3Fewest.f k l = some r := by
  obtain ⟨r, rC, rl, K, hK⟩ := l3Fewest_l0 l hl hg l [] [] (fun _ => False) rfl ⟨by simp [Srt], fun p hp => by simp at hp, fun x hx => hx.elim⟩ (by simp)
  exact ⟨r, rC.congr (fun x => ⟨fun h => h.elim False.elim id, .inr⟩), rl, K, fun k hk => hK k hk⟩
def okL (l : List S45) : Bool := decide (l.length ≤ 64) && (l.map pr).all (fun p => good p.1 p.2)
theorem okL_facts {l : List S45} (h : okL l = true) : l.length ≤ 64 ∧ ∀ p, p ∈ l → good p.f0 p.f1 = true := by
  unfold okL at h
  rw [kh] at h
  refine ⟨of_decide_eq_true h.1, fun p hp => ?_⟩
  exact kc.1 h.2 (pr p) (kq.2 ⟨p, hp, rfl⟩)
theorem impl_Count_l0 (rs : List S74) (hl : rs.length ≤ 1000000) (hb : ∀ s, s ∈ rs → 0 ≤ s.f0 ∧ s.f0 ≤ s.f1 ∧ s.f1 ≤ 4294967295) : ∀ (rest pre : List S74) (acc : Int) (k : Nat), rs = pre ++ rest → 0 ≤ acc → acc ≤ pre.length * 4294967296 → rest.length < k →
    impl_CountAddrs.l0 k acc rs (rs.length : Int) (pre.length : Int) = some (acc + totalS (rest.map spn), true) := by
  intro rest
  induction rest with
  | nil =>
    intro pre acc k e h0 h1 hk
    obtain ⟨k, rfl⟩ : ∃ k', k = k' + 1 := ⟨k - 1, by omega⟩
    rw [impl_CountAddrs.l0, if_neg (by rw [e]; simp)]
    simp [totalS]
  | cons s rest ih =>
    intro pre acc k e h0 h1 hk
    rw [kv] at hk
    obtain ⟨k, rfl⟩ : ∃ k', k = k' + 1 := ⟨k - 1, by omega⟩
    have hs := hb s (by rw [e]; simp)
    have hlen : pre.length < rs.length := by rw [e]; simp
    have h2 : rd_T74 rs (pre.length : Int) = s := by rw [e]; exact rdm_Span _ _ _
    have hw : wrap64 ((pre.length : Int) + 1) = ((pre ++ [s]).length : Int) := by rw [wrap_id (by omega) (by omega)]; simp
    have e2 : rs = (pre ++ [s]) ++ rest := by rw [e]; simp
    rw [impl_CountAddrs.l0, if_pos (by omega), if_pos (len_nn _), if_pos (by omega), h2, hw, wrap_id (x := s.f1 - s.f0) (by omega) (by omega), wrap_id (x := s.f1 - s.f0 + 1) (by omega) (by omega), wrap_id (by omega) (by omega)]
    refine (ih (pre ++ [s]) (acc + (s.f1 - s.f0 + 1)) k e2 (by omega) (by rw [ky, kj]; omega) (by omega)).trans ?_
    rw [kk, totalS_cons]
    show some (acc + (s.f1 - s.f0 + 1) + _, true) = some (acc + (s.f1 - s.f0 + 1 + _), true)
    rw [Int.add_assoc]
theorem spec_Count_l0 (rs : List S45) (hl : rs.length ≤ 1000000) (hb : ∀ s, s ∈ rs → good s.f0 s.f1 = true) : ∀ (rest pre : List S45) (acc : Int) (k : Nat), rs = pre ++ rest → 0 ≤ acc → acc ≤ pre.length * 4294967296 → rest.length < k →
    spec_CountAddrs.l0 k acc rs (rs.length : Int) (pre.length : Int) = some (acc + total (rest.map pr), true) := by
  intro rest
  induction rest with
  | nil =>
    intro pre acc k e h0 h1 hk
    obtain ⟨k, rfl⟩ : ∃ k', k = k' + 1 := ⟨k - 1, by omega⟩
    rw [spec_CountAddrs.l0, if_neg (by rw [e]; simp)]
    simp [total]
  | cons s rest ih =>
    intro pre acc k e h0 h1 hk
    rw [kv] at hk
    obtain ⟨k, rfl⟩ : ∃ k', k = k' + 1 := ⟨k - 1, by omega⟩
    have hs := hb s (by rw [e]; simp)
    obtain ⟨g1, g2, g3, g4, _⟩ := good_iff.1 hs
    have g5 := good_end hs
    have g6 := sz_pos s.f1
    have hlen : pre.length < rs.length := by rw [e]; simp
    have h2 : rd_T45 rs (pre.length : Int) = s := by rw [e]; exact rdm_Prefix _ _ _
    have hw : wrap64 ((pre.length : Int) + 1) = ((pre ++ [s]).length : Int) := by rw [wrap_id (by omega) (by omega)]; simp
    have e2 : rs = (pre ++ [s]) ++ rest := by rw [e]; simp
    rw [spec_CountAddrs.l0, if_pos (by omega), if_pos (len_nn _), if_pos (by omega), h2, hw, spec_l1Size_is _ g1 g2, kz, wrap_id (by omega) (by omega)]
    refine (ih (pre ++ [s]) (acc + sz s.f1) k e2 (by omega) (by rw [ky, kj]; omega) (by omega)).trans ?_
    rw [kk, total_cons]
    show some (acc + sz s.f1 + _, true) = some (acc + (sz s.f1 + _), true)
    rw [Int.add_assoc]
theorem spans_Equal_l0 (a b : List S74) (hl : a.length ≤ 1048576) (he : a.length = b.length) : ∀ (ra pa rb pb : List S74) (k : Nat), a = pa ++ ra → b = pb ++ rb → pa.length = pb.length → ra.length < k →
    slices_Equal_impl_span_impl_span.l0 k a b (a.length : Int) (pa.length : Int) = some (decide (ra.map spn = rb.map spn)) := by
  intro ra
  induction ra with
  | nil =>
    intro pa rb pb k e1 e2 e3 hk
    obtain ⟨k, rfl⟩ : ∃ k', k = k' + 1 := ⟨k - 1, by omega⟩
    have : rb = [] := by
      rw [e1, e2] at he
      simp at he
      exact kt.1 (by omega)
    subst this
    rw [slices_Equal_impl_span_impl_span.l0, if_neg (by rw [e1]; simp)]
    simp
  | cons x ra ih =>
    intro pa rb pb k e1 e2 e3 hk
    rw [kv] at hk
    obtain ⟨k, rfl⟩ : ∃ k', k = k' + 1 := ⟨k - 1, by omega⟩
    have hlen : pa.length < a.length := by rw [e1]; simp
    rcases rb with _ | ⟨y, rb⟩
    · rw [e1, e2] at he; simp at he; omega
    have h1 : rd_T74 a (pa.length : Int) = x := by rw [e1]; exact rdm_Span _ _ _
    have h2 : rd_T74 b (pa.length : Int) = y := by rw [e2, e3]; exact rdm_Span _ _ _
    have hw : wrap64 ((pa.length : Int) + 1) = ((pa ++ [x]).length : Int) := by rw [wrap_id (by omega) (by omega)]; simp
    rw [slices_Equal_impl_span_impl_span.l0, if_pos (by omega), if_pos (len_nn _), if_pos (by omega), if_pos (by omega), h1, h2, hw]
    by_cases hxy : spn x = spn y
    · have i1 : x.f0 = y.f0 := congrArg Prod.fst hxy
      have i2 : x.f1 = y.f1 := congrArg Prod.snd hxy
      rw [if_neg (by simp [i1, i2]), ih (pa ++ [x]) rb (pb ++ [y]) k (by rw [e1]; simp) (by rw [e2]; simp) (by simp [e3]) (by omega)]
      simp [hxy]
    · have : ¬ (x.f0 = y.f0 ∧ x.f1 = y.f1) := fun h => hxy (Prod.ext h.1 h.2)
      rw [if_pos (by
        rw [Bool.or_eq_true, Bool.not_eq_true', Bool.not_eq_true', beq_eq_false_iff_ne, beq_eq_false_iff_ne]
        by_cases e : x.f0 = y.f0
        · exact .inr (fun h => this ⟨e, h⟩)
        · exact .inl e)]
      simp [hxy]
theorem spans_Equal_is (a b : List S74) (hl : a.length ≤ 1048576) (k : Nat) (hk : a.length < k) : slices_Equal_impl_span_impl_span.f k a b = some (decide (a.map spn = b.map spn)) := by
  unfold slices_Equal_impl_span_impl_span.f
  by_cases h : a.length = b.length
  · rw [if_pos (by omega)]
    exact spans_Equal_l0 a b hl h a [] b [] k rfl rfl rfl hk
  · rw [if_neg (by omega)]
    have : ¬ a.map spn = b.map spn := fun e => h (by have := congrArg List.length e; simpa using this)
    simp [this]
theorem spec_Same_l0 (a b : List S45) (hl : a.length ≤ 1048576) (he : a.length = b.length) : ∀ (ra pa rb pb : List S45) (k : Nat), a = pa ++ ra → b = pb ++ rb → pa.length = pb.length → ra.length < k →
    spec_SameAddrs.l0 k a b (a.length : Int) (pa.length : Int) = some (decide (ra.map pr = rb.map pr), true) := by
  intro ra
  induction ra with
  | nil =>
    intro pa rb pb k e1 e2 e3 hk
    obtain ⟨k, rfl⟩ : ∃ k', k = k' + 1 := ⟨k - 1, by omega⟩
    have : rb = [] := by
      rw [e1, e2] at he
      simp at he
      exact kt.1 (by omega)
    subst this
    rw [spec_SameAddrs.l0, if_neg (by rw [e1]; simp)]
    simp
  | cons x ra ih =>
    intro pa rb pb k e1 e2 e3 hk
    rw [kv] at hk
    obtain ⟨k, rfl⟩ : ∃ k', k = k' + 1 := ⟨k - 1, by omega⟩
    have hlen : pa.length < a.length := by rw [e1]; simp
    rcases rb with _ | ⟨y, rb⟩
    · rw [e1, e2] at he; simp at he; omega
    have h1 : rd_T45 a (pa.length : Int) = x := by rw [e1]; exact rdm_Prefix _ _ _
    have h2 : rd_T45 b (pa.length : Int) = y := by rw [e2, e3]; exact rdm_Prefix _ _ _
    have hw : wrap64 ((pa.length : Int) + 1) = ((pa ++ [x]).length : Int) := by rw [wrap_id (by omega) (by omega)]; simp
    rw [spec_SameAddrs.l0, if_pos (by omega), if_pos (len_nn _), if_pos (by omega), if_pos (by omega), h1, h2, hw]
    by_cases hxy : pr x = pr y
    · have i1 : x.f0 = y.f0 := congrArg Prod.fst hxy
      have i2 : x.f1 = y.f1 := congrArg Prod.snd hxy
      rw [if_neg (by simp [i1, i2]), ih (pa ++ [x]) rb (pb ++ [y]) k (by rw [e1]; simp) (by rw [e2]; simp) (by simp [e3]) (by omega)]
      simp [hxy]
    · have : ¬ (x.f0 = y.f0 ∧ x.f1 = y.f1) := fun h => hxy (Prod.ext h.1 h.2)
      rw [if_pos (by
        rw [Bool.or_eq_true, Bool.not_eq_true', Bool.not_eq_true', beq_eq_false_iff_ne, beq_eq_false_iff_ne]
        by_cases e : x.f0 = y.f0
        · exact .inr (fun h => this ⟨e, h⟩)
        · exact .inl e)]
      simp [hxy]
def Bts (c : List Int) : Prop := c.length ≤ 140737488351232 ∧ ∀ x, x ∈ c → 0 ≤ x ∧ x ≤ 255
theorem Bts.at_ {c : List Int} (h : Bts c) {i : Int} (h0 : 0 ≤ i) (h1 : i < (c.length : Int)) : 0 ≤ rd c i ∧ rd c i ≤ 255 := by
  have : i.toNat < c.length := by omega
  unfold rd
  rw [List.getD_eq_getElem?_getD, List.getElem?_eq_getElem this]
  exact h.2 _ (List.getElem_mem this)
theorem u64_range (x : Int) : 0 ≤ IntKind.u64.wrap x ∧ IntKind.u64.wrap x < 18446744073709551616 := by
  simp only [IntKind.wrap, IntKind.bits, IntKind.signed]
  constructor
  · simp; omega
  · simp; omega
theorem u64_and255 {x : Int} (h0 : 0 ≤ x) (h1 : x < 18446744073709551616) : Go.bits .and .u64 x 255 = x % 256 :=
  bits_mask .u64 64 (by decide) (fun n h2 h3 => by simp only [IntKind.wrap, IntKind.bits, IntKind.signed]; simp; omega) 8 (by decide) x h0 h1
theorem next_ok {c : List Int} (hc : Bts c) {i : Int} (s : Int) (h0 : 0 ≤ i) (h1 : i ≤ 1000000000000000) : ∃ b s', spec_l1Cur_next.f c i s = some (b, i + 1, s') ∧ 0 ≤ b ∧ b ≤ 255 := by
  have hl := hc.1
  unfold spec_l1Cur_next.f
  rw [wrap_id (x := i + 1) (by omega) (by omega)]
  by_cases h : i < (c.length : Int)
  · have hb := hc.at_ h0 h
    rw [if_pos h, if_pos h0, if_pos (by omega)]
    exact ⟨_, _, rfl, by rw [wrap_id (by omega) (by omega)]; exact hb.1, by rw [wrap_id (by omega) (by omega)]; exact hb.2⟩
  · rw [if_neg h, if_neg (by omega)]
    refine ⟨_, _, rfl, ?_⟩
    have hr := u64_range (IntKind.u64.wrap (IntKind.u64.wrap (s * 6364136223846793005)) + 1442695040888963407)
    generalize IntKind.u64.wrap (IntKind.u64.wrap (IntKind.u64.wrap (s * 6364136223846793005)) + 1442695040888963407) = X at hr
    rw [u64_and255 (by omega) (by omega), wrap_id (by omega) (by omega)]
    omega
theorem pick_ok {c : List Int} (hc : Bts c) {i : Int} (s : Int) {n : Int} (h0 : 0 ≤ i) (h1 : i ≤ 100000000000000) (hn : n ≤ 1000000) : ∃ b i' s', spec_l1Cur_pick.f c i s n = some (b, i', s') ∧ 0 ≤ b ∧ (b < n ∨ b = 0) ∧ i ≤ i' ∧ i' ≤ i + 2 := by
  unfold spec_l1Cur_pick.f
  by_cases h : n ≤ 1
  · rw [if_pos h]
    exact ⟨_, _, _, rfl, by omega, .inr rfl, by omega, by omega⟩
  · rw [if_neg h]
    obtain ⟨b, s1, e1, b0, b1⟩ := next_ok hc s h0 (by omega)
    rw [e1, kz]
    have hmod : ∀ x : Int, 0 ≤ x → 0 ≤ Int.tmod x n ∧ Int.tmod x n < n := fun x hx => ⟨Int.tmod_nonneg _ hx, Int.tmod_lt_of_pos _ (by omega)⟩
    by_cases h2 : n > 200
    · rw [if_pos h2]
      dsimp only
      obtain ⟨d, s2, e2, d0, d1⟩ := next_ok hc (i := i + 1) s1 (by omega) (by omega)
      rw [e2, kz, if_neg (by omega)]
      dsimp only
      rw [wrap_id (x := b * 256) (by omega) (by omega), wrap_id (by omega) (by omega)]
      obtain ⟨m0, m1⟩ := hmod (b * 256 + d) (by omega)
      exact ⟨_, _, _, rfl, m0, .inl m1, by omega, by omega⟩
    · rw [if_neg h2, if_neg (by omega)]
      dsimp only
      obtain ⟨m0, m1⟩ := hmod b b0
      exact ⟨_, _, _, rfl, m0, .inl m1, by omega, by omega⟩
theorem one_ok {c : List Int} (hc : Bts c) {i : Int} (s : Int) {n : Int} (h0 : 0 ≤ i) (h1 : i ≤ 100000000000000) (hn : n ≤ 1000000) : ∃ b i' s', spec_l1Cur_one.f c i s n = some (b, i', s') ∧ i ≤ i' ∧ i' ≤ i + 2 := by
  unfold spec_l1Cur_one.f
  obtain ⟨b, i', s', e, _, _, h2, h3⟩ := pick_ok hc s h0 h1 hn
  rw [e, kz]
  exact ⟨_, _, _, rfl, h2, h3⟩
theorem among_ok {c : List Int} (hc : Bts c) {i : Int} (s : Int) (l : List Int) (h0 : 0 ≤ i) (h1 : i ≤ 100000000000000) (hl : l ≠ []) (hn : l.length ≤ 1000) : ∃ v i' s', spec_l1Cur_among.f c i s l = some (v, i', s') ∧ v ∈ l ∧ i ≤ i' ∧ i' ≤ i + 2 := by
  unfold spec_l1Cur_among.f
  have hpos : 0 < l.length := List.length_pos_iff.2 hl
  obtain ⟨b, i', s', e, b0, b1, h2, h3⟩ := pick_ok hc s (n := (l.length : Int)) h0 h1 (by omega)
  have hb : b < (l.length : Int) := by omega
  rw [e, kz, if_pos b0, if_pos hb]
  refine ⟨_, _, _, rfl, ?_, h2, h3⟩
  have : b.toNat < l.length := by omega
  unfold rd
  rw [List.getD_eq_getElem?_getD, List.getElem?_eq_getElem this]
  exact List.getElem_mem this
theorem prefix_ok {c : List Int} (hc : Bts c) {i : Int} (s : Int) (h0 : 0 ≤ i) (h1 : i ≤ 10000000000000) : ∃ a n i' s', spec_l1Cur_prefix.f c i s = some (a, n, i', s') ∧ i ≤ i' ∧ i' ≤ i + 8 := by
  unfold spec_l1Cur_prefix.f
  obtain ⟨n, i1, s1, e1, m1, a1, b1⟩ := among_ok hc s [0, 1, 2, 3, 4, 8, 8, 16, 24, 31, 32] h0 (by omega) (by simp) (by simp)
  rw [e1, kz]
  dsimp only
  obtain ⟨a, i2, s2, e2, m2, a2, b2⟩ := among_ok hc s1 [0, 167772160, 167837696, 3232235520, 2147483648, 4294967295, 3758096384, 167772165] (i := i1) (by omega) (by omega) (by simp) (by simp)
  rw [e2, kz]
  have hn : 0 ≤ n ∧ n ≤ 32 := by
    simp only [kp, List.not_mem_nil, or_false] at m1
    omega
  have hs := sz_pos n
  dsimp only
  rw [spec_l1Size_is _ hn.1 hn.2, kz, if_neg (by omega)]
  obtain ⟨b, i3, s3, e3, _, _, a3, b3⟩ := pick_ok hc s2 (n := 30) (i := i2) (by omega) (by omega) (by omega)
  rw [e3, kz]
  dsimp only
  by_cases hb : b = 0
  · rw [if_pos hb]; exact ⟨_, _, _, _, rfl, by omega, by omega⟩
  · rw [if_neg hb]
    by_cases hb2 : b = 1
    · rw [if_pos hb2]
      obtain ⟨v, i4, s4, e4, _, a4, b4⟩ := among_ok hc s3 [(-1), 33] (i := i3) (by omega) (by omega) (by simp) (by simp)
      rw [e4, kz]
      exact ⟨_, _, _, _, rfl, by dsimp only; omega, by dsimp only; omega⟩
    · rw [if_neg hb2]; exact ⟨_, _, _, _, rfl, by omega, by omega⟩
theorem fine_ok {c : List Int} (hc : Bts c) {i : Int} (s : Int) (h0 : 0 ≤ i) (h1 : i ≤ 10000000000000) : ∃ a n i' s', spec_l1Cur_fine.f c i s = some (a, n, i', s') ∧ good a n = true ∧ i ≤ i' ∧ i' ≤ i + 8 := by
  unfold spec_l1Cur_fine.f
  obtain ⟨a, n, i1, s1, e1, a1, b1⟩ := prefix_ok hc s h0 h1
  rw [e1, kz, spec_GoodPrefix_is, kz]
  dsimp only
  by_cases hg : good a n = true
  · rw [if_pos hg]; exact ⟨_, _, _, _, rfl, hg, a1, b1⟩
  · rw [if_neg hg]
    refine ⟨_, _, _, _, rfl, ?_, a1, b1⟩
    refine good_iff.2 ⟨by omega, by omega, by omega, by omega, ?_⟩
    have : sz 8 = 16777216 := by unfold sz; rfl
    rw [this]; rfl
theorem addr_ok {c : List Int} (hc : Bts c) {i : Int} (s : Int) (h0 : 0 ≤ i) (h1 : i ≤ 10000000000000) : ∃ a i' s', spec_l1Cur_addr.f c i s = some (a, i', s') ∧ -1 ≤ a ∧ a ≤ 4294967296 ∧ i ≤ i' ∧ i' ≤ i + 2 := by
  unfold spec_l1Cur_addr.f
  obtain ⟨a, i1, s1, e1, m1, a1, b1⟩ := among_ok hc s [0, 167772165, 167837705, 3232235527, 4294967295, 2147483648, (-1), 4294967296] h0 (by omega) (by simp) (by simp)
  rw [e1, kz]
  simp only [kp, List.not_mem_nil, or_false] at m1
  exact ⟨_, _, _, rfl, by dsimp only; omega, by dsimp only; omega, by dsimp only; omega, by dsimp only; omega⟩
theorem prefixes_j3 {c : List Int} (hc : Bts c) (l : List S45) (hl : l.length ≤ 200) {i : Int} (s : Int) (h0 : 0 ≤ i) (h1 : i ≤ 100000) : ∃ r i' s', (∀ k, spec_l1Cur_prefixes.j3 (k + 1) l c i s = some (r, i', s')) ∧ r.length ≤ 200 ∧ i ≤ i' ∧ i' ≤ i + 10 := by
  by_cases h : (l.length : Int) > 0
  · obtain ⟨b, i1, s1, e1, a1, b1⟩ := one_ok hc s (n := 30) h0 (by omega) (by omega)
    cases b with
    | true =>
      obtain ⟨a, n, i2, s2, e2, a2, b2⟩ := prefix_ok hc s1 (i := i1) (by omega) (by omega)
      refine ⟨l.set (0 : Int).toNat ⟨a, n⟩, i2, s2, fun k => ?_, ?_, by omega, by omega⟩
      · rw [spec_l1Cur_prefixes.j3, if_pos h, e1, kz, if_pos rfl, e2, kz, if_pos h]
      · rw [List.length_set]; exact hl
    | false =>
      refine ⟨l, i1, s1, fun k => ?_, hl, by omega, by omega⟩
      rw [spec_l1Cur_prefixes.j3, if_pos h, e1, kz, if_neg (by simp)]
  · refine ⟨l, i, s, fun k => ?_, hl, by omega, by omega⟩
    rw [spec_l1Cur_prefixes.j3, if_neg h]
theorem prefixes_j2 {c : List Int} (hc : Bts c) (l : List S45) (hl : l.length ≤ 200) (b : Bool) (hb : b = true → 64 ≤ (l.length : Int)) {i : Int} (s : Int) (h0 : 0 ≤ i) (h1 : i ≤ 100000) : ∃ r i' s', (∀ k, spec_l1Cur_prefixes.j2 (k + 1 + 1) l b c i s = some (r, i', s')) ∧ r.length ≤ 200 ∧ i ≤ i' ∧ i' ≤ i + 10 := by
  cases b with
  | true =>
    obtain ⟨r, i1, s1, e, h2⟩ := prefixes_j3 hc (l.take (64 : Int).toNat) (by rw [List.length_take]; omega) s h0 h1
    refine ⟨r, i1, s1, fun k => ?_, h2⟩
    rw [spec_l1Cur_prefixes.j2, if_pos rfl, if_pos (hb rfl), e]
  | false =>
    obtain ⟨r, i1, s1, e, h2⟩ := prefixes_j3 hc l hl s h0 h1
    refine ⟨r, i1, s1, fun k => ?_, h2⟩
    rw [spec_l1Cur_prefixes.j2, if_neg (by simp), e]
theorem prefixes_l0 {c : List Int} (hc : Bts c) (B : Int) (hB : B ≤ 90000) : ∀ (m : Nat) (l : List S45) (i s : Int), m ≤ 70 → l.length + 2 * m ≤ 200 → 0 ≤ i → i + 10 * m ≤ B → ∃ r i' s', (∀ k, spec_l1Cur_prefixes.l0 (k + m + 3) l (m : Int) c i s = some (r, i', s')) ∧ r.length ≤ 200 ∧ 0 ≤ i' ∧ i' ≤ B + 30 := by
  intro m
  induction m with
  | zero =>
    intro l i s hm hl h0 h1
    by_cases h : (l.length : Int) > 64
    · obtain ⟨b, i1, s1, e1, a1, b1⟩ := one_ok hc s (n := 4) h0 (by omega) (by omega)
      obtain ⟨r, i2, s2, e2, h2, h3, h4⟩ := prefixes_j2 hc l (by omega) (!b) (fun _ => by omega) (i := i1) s1 (by omega) (by omega)
      refine ⟨r, i2, s2, fun k => ?_, h2, by omega, by omega⟩
      rw [show k + 0 + 3 = (k + 1 + 1) + 1 by omega, spec_l1Cur_prefixes.l0, if_neg (by omega), if_pos h, e1, kz]
      exact e2 k
    · obtain ⟨r, i2, s2, e2, h2, h3, h4⟩ := prefixes_j2 hc l (by omega) false (fun hf => by cases hf) (i := i) s (by omega) (by omega)
      refine ⟨r, i2, s2, fun k => ?_, h2, by omega, by omega⟩
      rw [show k + 0 + 3 = (k + 1 + 1) + 1 by omega, spec_l1Cur_prefixes.l0, if_neg (by omega), if_neg h]
      exact e2 k
  | succ m ih =>
    intro l i s hm hl h0 h1
    obtain ⟨a, n, i1, s1, e1, g1, a1, b1⟩ := fine_ok hc s h0 (by omega)
    have hw : wrap64 (((m + 1 : Nat) : Int) - 1) = (m : Int) := by rw [wrap_id (by omega) (by omega)]; omega
    have hk : ∀ k : Nat, k + (m + 1) + 3 = (k + m + 3) + 1 := fun k => by omega
    by_cases hn : n > 0
    · obtain ⟨b, i2, s2, e2, a2, b2⟩ := one_ok hc s1 (n := 4) (i := i1) (by omega) (by omega) (by omega)
      cases b with
      | true =>
        obtain ⟨r, i3, s3, e3, h3⟩ := ih (l ++ [⟨a, n⟩] ++ [⟨sib a n, n⟩]) i2 s2 (by omega) (by simp; omega) (by omega) (by omega)
        refine ⟨r, i3, s3, fun k => ?_, h3⟩
        rw [hk, spec_l1Cur_prefixes.l0, if_pos (by omega), e1, kz, if_pos (by omega), kz]
        dsimp only
        rw [if_pos hn, e2, kz, if_pos rfl, spec_l1Sibling_is g1 (by omega), kz, if_pos (by simp; omega), hw]
        exact e3 k
      | false =>
        obtain ⟨r, i3, s3, e3, h3⟩ := ih (l ++ [⟨a, n⟩]) i2 s2 (by omega) (by simp; omega) (by omega) (by omega)
        refine ⟨r, i3, s3, fun k => ?_, h3⟩
        rw [hk, spec_l1Cur_prefixes.l0, if_pos (by omega), e1, kz, if_pos (by omega), kz]
        dsimp only
        rw [if_pos hn, e2, kz, if_neg (by simp), hw]
        exact e3 k
    · obtain ⟨r, i3, s3, e3, h3⟩ := ih (l ++ [⟨a, n⟩]) i1 s1 (by omega) (by simp; omega) (by omega) (by omega)
      refine ⟨r, i3, s3, fun k => ?_, h3⟩
      rw [hk, spec_l1Cur_prefixes.l0, if_pos (by omega), e1, kz, if_pos (by omega), kz]
      dsimp only
      rw [if_neg hn, hw]
      exact e3 k
theorem prefixes_ok {c : List Int} (hc : Bts c) (i s : Int) (h0 : 0 ≤ i) (h1 : i ≤ 60000) : ∃ (r : List S45) (i' s' : Int), (∃ K, ∀ k, K ≤ k → spec_l1Cur_prefixes.f k c i s = some (r, i', s')) ∧ r.length ≤ 200 ∧ 0 ≤ i' ∧ i' ≤ i + 1000 := by
  obtain ⟨n, i1, s1, e1, n0, n1, a1, b1⟩ := pick_ok hc s (n := 8) (i := i) (by omega) (by omega) (by omega)
  obtain ⟨b, i2, s2, e2, a2, b2⟩ := one_ok hc s1 (n := 20) (i := i1) (by omega) (by omega) (by omega)
  have go : ∀ (m : Nat) (j s : Int), m ≤ 70 → 0 ≤ j → j ≤ i + 100 → ∃ (r : List S45) (i' s' : Int), (∀ k, spec_l1Cur_prefixes.j0 (k + m + 3 + 1) [] (m : Int) c j s = some (r, i', s')) ∧ r.length ≤ 200 ∧ 0 ≤ i' ∧ i' ≤ i + 1000 := fun m j s hm hj0 hj1 => by
    obtain ⟨r, i3, s3, e3, h3, h4, h5⟩ := prefixes_l0 hc (i + 800) (by omega) m [] j s hm (by simp; omega) hj0 (by omega)
    refine ⟨r, i3, s3, fun k => ?_, h3, h4, by omega⟩
    rw [spec_l1Cur_prefixes.j0]
    exact e3 k
  cases b with
  | true =>
    obtain ⟨d, i3, s3, e3, d0, d1, a3, b3⟩ := pick_ok hc s2 (n := 2) (i := i2) (by omega) (by omega) (by omega)
    obtain ⟨r, i4, s4, e4, h4⟩ := go (64 + d).toNat i3 s3 (by omega) (by omega) (by omega)
    refine ⟨r, i4, s4, ⟨200, fun k hk => ?_⟩, h4⟩
    obtain ⟨k, rfl⟩ : ∃ k', k = k' + (64 + d).toNat + 3 + 1 := ⟨k - ((64 + d).toNat + 3 + 1), by omega⟩
    unfold spec_l1Cur_prefixes.f
    rw [e1, kz]
    dsimp only
    rw [e2, kz, if_pos rfl, e3, kz]
    dsimp only
    rw [wrap_id (by omega) (by omega), show 64 + d = ((64 + d).toNat : Int) by omega]
    exact e4 k
  | false =>
    obtain ⟨r, i4, s4, e4, h4⟩ := go n.toNat i2 s2 (by omega) (by omega) (by omega)
    refine ⟨r, i4, s4, ⟨200, fun k hk => ?_⟩, h4⟩
    obtain ⟨k, rfl⟩ : ∃ k', k = k' + n.toNat + 3 + 1 := ⟨k - (n.toNat + 3 + 1), by omega⟩
    unfold spec_l1Cur_prefixes.f
    rw [e1, kz]
    dsimp only
    rw [e2, kz, if_neg (by simp)]
    dsimp only
    rw [show n = (n.toNat : Int) by omega]
    exact e4 k
theorem FewestOf_full (l : List S45) (hl : l.length ≤ 1048576) : ∃ r, Ev (fun k => spec_FewestOf.f k l) r ∧ Ev (fun k => impl_FewestOf.f k l) r ∧ (okL l = true → r.2 = true ∧ Canon (inL (l.map pr)) (r.1.map pr) ∧ r.1.length ≤ l.length) ∧ (¬ okL l = true → r = ([], false)) := by
  by_cases h : okL l = true
  · obtain ⟨h64, hg⟩ := okL_facts h
    obtain ⟨rs, hgap, hin, hlen, hb, K1, E1⟩ := spansOf_is l hl hg
    obtain ⟨rr, hR, K2, E2⟩ := prefixesIn_is rs (by omega) hgap (fun s hs => ⟨(hb s hs).1, (hb s hs).2.2⟩)
    obtain ⟨q, qC, ql, K3, E3⟩ := spec_l3Fewest_is l (by omega) hg
    have e : rr.flatten = q := map_pr_inj (((RowsOf.canon hgap hR).congr hin).unique qC)
    refine ⟨(q, true), ⟨K1 + K2 + K3 + l.length + 1, fun k hk => ?_⟩, ⟨K1 + K2 + K3 + l.length + 1, fun k hk => ?_⟩, fun _ => ⟨rfl, qC, ql⟩, fun hn => (hn h).elim⟩
    · show spec_FewestOf.f k l = some (q, true)
      unfold spec_FewestOf.f
      rw [spec_l3Good_is k l hl (by omega), kz, if_pos (show (decide (l.length ≤ 64) && (l.map pr).all (fun p => good p.1 p.2)) = true from h), E3 k (by omega), kz]
    · show impl_FewestOf.f k l = some (q, true)
      unfold impl_FewestOf.f
      replace E1 : impl_spansOf.f k l = some rs := E1 k (by omega)
      replace E2 : impl_prefixesIn.f k rs = some rr.flatten := E2 k (by omega)
      rw [impl_arePrefixes_is k l hl (by omega), kz, if_pos (show (decide (l.length ≤ 64) && (l.map pr).all (fun p => good p.1 p.2)) = true from h), E1, kz, E2, kz, e]
      unfold impl_setOf.f
      rw [if_neg (by omega)]
      rfl
  · refine ⟨([], false), ⟨l.length + 1, fun k hk => ?_⟩, ⟨l.length + 1, fun k hk => ?_⟩, fun hn => (h hn).elim, fun _ => rfl⟩
    · show spec_FewestOf.f k l = some ([], false)
      unfold spec_FewestOf.f
      rw [spec_l3Good_is k l hl (by omega), kz, if_neg (show ¬ (decide (l.length ≤ 64) && (l.map pr).all (fun p => good p.1 p.2)) = true from h)]
    · show impl_FewestOf.f k l = some ([], false)
      unfold impl_FewestOf.f
      rw [impl_arePrefixes_is k l hl (by omega), kz, if_neg (show ¬ (decide (l.length ≤ 64) && (l.map pr).all (fun p => good p.1 p.2)) = true from h)]
theorem SameAddrs_full (a b : List S45) (ha : a.length ≤ 1048576) (hb : b.length ≤ 1048576) : ∃ r, Ev (fun k => spec_SameAddrs.f k a b) r ∧ Ev (fun k => impl_SameAddrs.f k a b) r ∧ (okL a = true → okL b = true → r.2 = true ∧ (r.1 = true ↔ ∀ x, inL (a.map pr) x ↔ inL (b.map pr) x)) ∧ (¬ (okL a = true ∧ okL b = true) → r = (false, false)) := by
  have none1 : ∀ k, a.length + b.length + 1 < k → ¬ (okL a = true ∧ okL b = true) → spec_SameAddrs.f k a b = some (false, false) ∧ impl_SameAddrs.f k a b = some (false, false) := by
    intro k hk h
    obtain ⟨k, rfl⟩ : ∃ k', k = k' + 1 := ⟨k - 1, by omega⟩
    unfold spec_SameAddrs.f impl_SameAddrs.f
    rw [spec_l3Good_is (k + 1) a ha (by omega), impl_arePrefixes_is (k + 1) a ha (by omega), kz, kz]
    by_cases h1 : okL a = true
    · have h2 : okL b = false := by
        cases h3 : okL b with
        | false => rfl
        | true => exact (h ⟨h1, h3⟩).elim
      have h1' : (decide (a.length ≤ 64) && (a.map pr).all (fun p => good p.1 p.2)) = true := h1
      have h2' : (decide (b.length ≤ 64) && (b.map pr).all (fun p => good p.1 p.2)) = false := h2
      rw [if_pos h1', if_pos h1', spec_l3Good_is (k + 1) b hb (by omega), impl_arePrefixes_is (k + 1) b hb (by omega), kz, kz, h2']
      simp only [spec_SameAddrs.j0, impl_SameAddrs.j0, Bool.not_false]
      exact ⟨if_pos trivial, if_pos trivial⟩
    · have h1' : ¬ (decide (a.length ≤ 64) && (a.map pr).all (fun p => good p.1 p.2)) = true := h1
      rw [if_neg h1', if_neg h1']
      simp only [spec_SameAddrs.j0, impl_SameAddrs.j0]
      exact ⟨if_pos trivial, if_pos trivial⟩
  by_cases h : okL a = true ∧ okL b = true
  · obtain ⟨a64, ga⟩ := okL_facts h.1
    obtain ⟨b64, gb⟩ := okL_facts h.2
    have o1 : (decide (a.length ≤ 64) && (a.map pr).all (fun p => good p.1 p.2)) = true := h.1
    have o2 : (decide (b.length ≤ 64) && (b.map pr).all (fun p => good p.1 p.2)) = true := h.2
    obtain ⟨sa, sag, sai, sal, sab, K1, E1⟩ := spansOf_is a ha ga
    obtain ⟨sb, sbg, sbi, sbl, sbb, K2, E2⟩ := spansOf_is b hb gb
    replace E1 : ∀ k, K1 ≤ k → impl_spansOf.f k a = some sa := E1
    replace E2 : ∀ k, K2 ≤ k → impl_spansOf.f k b = some sb := E2
    obtain ⟨fa, fC, fl, K4, E4⟩ := spec_l3Fewest_is a (by omega) ga
    obtain ⟨fb, gC, gl, K5, E5⟩ := spec_l3Fewest_is b (by omega) gb
    have key : (fa.map pr = fb.map pr) ↔ (sa.map spn = sb.map spn) := by
      constructor
      · intro e
        refine sag.unique sbg (fun x => ?_)
        rw [sai x, sbi x, ← fC.inL x, ← gC.inL x, e]
      · intro e
        refine fC.unique (gC.congr (fun x => ?_))
        rw [← sai x, ← sbi x, e]
    refine ⟨(decide (sa.map spn = sb.map spn), true), ⟨K1 + K2 + K4 + K5 + a.length + b.length + 2, fun k hk => ?_⟩, ⟨K1 + K2 + K4 + K5 + a.length + b.length + 2, fun k hk => ?_⟩, fun _ _ => ⟨rfl, ?_⟩, fun hn => (hn h).elim⟩
    · show spec_SameAddrs.f k a b = _
      obtain ⟨k, rfl⟩ : ∃ k', k = k' + 1 := ⟨k - 1, by omega⟩
      unfold spec_SameAddrs.f
      rw [spec_l3Good_is (k + 1) a ha (by omega), kz, if_pos o1, spec_l3Good_is (k + 1) b hb (by omega), kz, o2]
      simp only [spec_SameAddrs.j0, Bool.not_true]
      rw [if_neg (by simp), E4 k (by omega), kz, E5 k (by omega), kz]
      by_cases hl : fa.length = fb.length
      · rw [if_pos (by omega)]
        refine (spec_Same_l0 fa fb (by omega) hl fa [] fb [] k rfl rfl rfl (by omega)).trans ?_
        rw [decide_eq_decide.2 key]
      · rw [if_neg (by omega)]
        have : ¬ sa.map spn = sb.map spn := fun e => hl (by have := congrArg List.length (key.2 e); simpa using this)
        rw [decide_eq_false this]
    · show impl_SameAddrs.f k a b = _
      obtain ⟨k, rfl⟩ : ∃ k', k = k' + 1 := ⟨k - 1, by omega⟩
      unfold impl_SameAddrs.f
      rw [impl_arePrefixes_is (k + 1) a ha (by omega), kz, if_pos o1, impl_arePrefixes_is (k + 1) b hb (by omega), kz, o2]
      simp only [impl_SameAddrs.j0, Bool.not_true]
      rw [if_neg (by simp), E1 k (by omega), kz, E2 k (by omega), kz, spans_Equal_is sa sb (by omega) k (by omega), kz]
    · dsimp only
      rw [decide_eq_true_iff]
      constructor
      · intro e x
        rw [← sai x, ← sbi x, e]
      · intro e
        exact sag.unique sbg (fun x => by rw [sai x, sbi x]; exact e x)
  · exact ⟨(false, false), ⟨a.length + b.length + 2, fun k hk => (none1 k (by omega) h).1⟩, ⟨a.length + b.length + 2, fun k hk => (none1 k (by omega) h).2⟩, fun h1 h2 => (h ⟨h1, h2⟩).elim, fun _ => rfl⟩
theorem CountAddrs_full (l : List S45) (hl : l.length ≤ 1048576) : ∃ r, Ev (fun k => spec_CountAddrs.f k l) r ∧ Ev (fun k => impl_CountAddrs.f k l) r ∧ (okL l = true → ∀ q, Canon (inL (l.map pr)) q → r = (total q, true)) ∧ (¬ okL l = true → r = (0, false)) := by
  by_cases h : okL l = true
  · obtain ⟨h64, hg⟩ := okL_facts h
    obtain ⟨rs, hgap, hin, hlen, hb, K1, E1⟩ := spansOf_is l hl hg
    obtain ⟨q, qC, ql, K3, E3⟩ := spec_l3Fewest_is l (by omega) hg
    have gq : ∀ s, s ∈ q → good s.f0 s.f1 = true := fun s hs => (qC.max (pr s) (kq.2 ⟨s, hs, rfl⟩)).1
    have ht : total (q.map pr) = totalS (rs.map spn) := canon_total hgap (fun s hs => by
      obtain ⟨t, ht, rfl⟩ := kq.1 hs
      exact ⟨(hb t ht).1, (hb t ht).2.2⟩) (qC.congr (fun x => (hin x).symm))
    refine ⟨(totalS (rs.map spn), true), ⟨K1 + K3 + l.length + 1, fun k hk => ?_⟩, ⟨K1 + K3 + l.length + 1, fun k hk => ?_⟩, fun _ p hp => by rw [← ht, qC.unique hp], fun hn => (hn h).elim⟩
    · show spec_CountAddrs.f k l = _
      unfold spec_CountAddrs.f
      rw [spec_l3Good_is k l hl (by omega), kz, if_pos (show (decide (l.length ≤ 64) && (l.map pr).all (fun p => good p.1 p.2)) = true from h), E3 k (by omega), kz]
      refine (spec_Count_l0 q (by omega) gq q [] 0 k rfl (by omega) (by simp) (by omega)).trans ?_
      rw [ht, Int.zero_add]
    · show impl_CountAddrs.f k l = _
      unfold impl_CountAddrs.f
      replace E1 : impl_spansOf.f k l = some rs := E1 k (by omega)
      rw [impl_arePrefixes_is k l hl (by omega), kz, if_pos (show (decide (l.length ≤ 64) && (l.map pr).all (fun p => good p.1 p.2)) = true from h), E1, kz]
      refine (impl_Count_l0 rs (by omega) (fun s hs => ⟨(hb s hs).1, hgap.ne (spn s) (kq.2 ⟨s, hs, rfl⟩), (hb s hs).2.2⟩) rs [] 0 k rfl (by omega) (by simp) (by omega)).trans ?_
      rw [Int.zero_add]
  · refine ⟨(0, false), ⟨l.length + 1, fun k hk => ?_⟩, ⟨l.length + 1, fun k hk => ?_⟩, fun hn => (h hn).elim, fun _ => rfl⟩
    · show spec_CountAddrs.f k l = _
      unfold spec_CountAddrs.f
      rw [spec_l3Good_is k l hl (by omega), kz, if_neg (show ¬ (decide (l.length ≤ 64) && (l.map pr).all (fun p => good p.1 p.2)) = true from h)]
    · show impl_CountAddrs.f k l = _
      unfold impl_CountAddrs.f
      rw [impl_arePrefixes_is k l hl (by omega), kz, if_neg (show ¬ (decide (l.length ≤ 64) && (l.map pr).all (fun p => good p.1 p.2)) = true from h)]
theorem samePrefixes_l0 (a b : List S45) (hl : a.length ≤ 1048576) (he : a.length = b.length) : ∀ (ra pa rb pb : List S45) (k : Nat), a = pa ++ ra → b = pb ++ rb → pa.length = pb.length → ra.length < k →
    laws_samePrefixes.l0 k a b (a.length : Int) (pa.length : Int) = some (decide (ra.map pr = rb.map pr)) := by
  intro ra
  induction ra with
  | nil =>
    intro pa rb pb k e1 e2 e3 hk
    obtain ⟨k, rfl⟩ : ∃ k', k = k' + 1 := ⟨k - 1, by omega⟩
    have : rb = [] := by
      rw [e1, e2] at he
      simp at he
      exact kt.1 (by omega)
    subst this
    rw [laws_samePrefixes.l0, if_neg (by rw [e1]; simp)]
    simp
  | cons x ra ih =>
    intro pa rb pb k e1 e2 e3 hk
    rw [kv] at hk
    obtain ⟨k, rfl⟩ : ∃ k', k = k' + 1 := ⟨k - 1, by omega⟩
    have hlen : pa.length < a.length := by rw [e1]; simp
    rcases rb with _ | ⟨y, rb⟩
    · rw [e1, e2] at he; simp at he; omega
    have h1 : rd_T45 a (pa.length : Int) = x := by rw [e1]; exact rdm_Prefix _ _ _
    have h2 : rd_T45 b (pa.length : Int) = y := by rw [e2, e3]; exact rdm_Prefix _ _ _
    have hw : wrap64 ((pa.length : Int) + 1) = ((pa ++ [x]).length : Int) := by rw [wrap_id (by omega) (by omega)]; simp
    rw [laws_samePrefixes.l0, if_pos (by omega), if_pos (len_nn _), if_pos (by omega), if_pos (by omega), h1, h2, hw]
    by_cases hxy : pr x = pr y
    · have i1 : x.f0 = y.f0 := congrArg Prod.fst hxy
      have i2 : x.f1 = y.f1 := congrArg Prod.snd hxy
      rw [if_neg (by simp [i1, i2]), ih (pa ++ [x]) rb (pb ++ [y]) k (by rw [e1]; simp) (by rw [e2]; simp) (by simp [e3]) (by omega)]
      simp [hxy]
    · have : ¬ (x.f0 = y.f0 ∧ x.f1 = y.f1) := fun h => hxy (Prod.ext h.1 h.2)
      rw [if_pos (by
        rw [Bool.or_eq_true, Bool.not_eq_true', Bool.not_eq_true', beq_eq_false_iff_ne, beq_eq_false_iff_ne]
        by_cases e : x.f0 = y.f0
        · exact .inr (fun h => this ⟨e, h⟩)
        · exact .inl e)]
      simp [hxy]
theorem samePrefixes_is (a b : List S45) (hl : a.length ≤ 1048576) (k : Nat) (hk : a.length < k) : laws_samePrefixes.f k a b = some (decide (a.map pr = b.map pr)) := by
  unfold laws_samePrefixes.f
  by_cases h : a.length = b.length
  · rw [if_pos (by omega)]
    exact samePrefixes_l0 a b hl h a [] b [] k rfl rfl rfl hk
  · rw [if_neg (by omega)]
    have : ¬ a.map pr = b.map pr := fun e => h (by have := congrArg List.length e; simpa using this)
    simp [this]
theorem okL_of {l : List S45} (h : l.length ≤ 64) (hg : ∀ p, p ∈ l → good p.f0 p.f1 = true) : okL l = true := by
  unfold okL
  rw [kh]
  refine ⟨decide_eq_true h, kc.2 (fun p hp => ?_)⟩
  obtain ⟨q, hq, rfl⟩ := kq.1 hp
  exact hg q hq
theorem okL_canon {S : Int → Prop} {l : List S45} (h : l.length ≤ 64) (hC : Canon S (l.map pr)) : okL l = true := okL_of h (fun p hp => (hC.max (pr p) (kq.2 ⟨p, hp, rfl⟩)).1)
theorem setHas_iff (l : List Pr) (x : Int) : setHas l x = true ↔ inL l x := by
  unfold setHas
  rw [km]
  constructor
  · rintro ⟨p, hp, h⟩
    have h2 : p.1 ≤ x ∧ x ≤ p.1 + sz p.2 - 1 := of_decide_eq_true h
    exact ⟨p, hp, h2⟩
  · rintro ⟨p, hp, h⟩
    have h2 : p.1 ≤ x ∧ x ≤ p.1 + sz p.2 - 1 := h
    exact ⟨p, hp, decide_eq_true h2⟩
theorem setHasR_ok {l : List S45} (h : okL l = true) {x : Int} (hx : 0 ≤ x ∧ x ≤ 4294967295) : setHasR (l.map pr) x = (setHas (l.map pr) x, true) := by
  unfold setHasR
  have : (decide ((l.map pr).length ≤ 64) && (l.map pr).all (fun p => good p.1 p.2)) = true := by
    rw [ke]; exact h
  rw [if_pos ⟨this, hx⟩]
theorem setHasR_two {l : List S45} {x : Int} (h : (setHasR (l.map pr) x).2 = true) : okL l = true ∧ (0 ≤ x ∧ x ≤ 4294967295) := by
  unfold setHasR at h
  split at h
  · rename_i hc
    rw [ke] at hc
    exact hc
  · cases h
theorem DrawSetHas_ok {c : List Int} (hc : Bts c) : ∃ (l : List S45) (x : Int), (∃ K, ∀ k, K ≤ k → spec_DrawSetHas.f k c = some (l, x)) ∧ l.length ≤ 200 := by
  obtain ⟨l, i, s, ⟨K, hK⟩, hl, h0, h1⟩ := prefixes_ok hc 0 0 (by omega) (by omega)
  obtain ⟨x, i1, s1, e, _⟩ := addr_ok hc s h0 (by omega)
  refine ⟨l, x, ⟨K, fun k hk => ?_⟩, hl⟩
  unfold spec_DrawSetHas.f
  rw [hK k hk, kz]
  dsimp only
  rw [e, kz]
theorem spec_FewestOf_draw (l : List S45) (hl : l.length ≤ 1000) : ∃ r : List S45 × Bool, (∃ K, ∀ k, K ≤ k → spec_FewestOf.f k l = some r) ∧ r.1.length ≤ l.length := by
  by_cases h : (decide (l.length ≤ 64) && (l.map pr).all (fun p => good p.1 p.2)) = true
  · have hg : ∀ p, p ∈ l → good p.f0 p.f1 = true := fun p hp => by
      rw [kh] at h
      exact kc.1 h.2 (pr p) (kq.2 ⟨p, hp, rfl⟩)
    obtain ⟨q, qC, ql, K3, E3⟩ := spec_l3Fewest_is l hl hg
    refine ⟨(q, true), ⟨K3 + l.length + 1, fun k hk => ?_⟩, ql⟩
    unfold spec_FewestOf.f
    rw [spec_l3Good_is k l (by omega) (by omega), kz, if_pos h, E3 k (by omega), kz]
  · refine ⟨([], false), ⟨l.length + 1, fun k hk => ?_⟩, by simp⟩
    unfold spec_FewestOf.f
    rw [spec_l3Good_is k l (by omega) (by omega), kz, if_neg h]
theorem DrawGoodSet_ok {c : List Int} (hc : Bts c) : ∃ l : List S45, (∃ K, ∀ k, K ≤ k → spec_DrawGoodSet.f k c = some l) ∧ l.length ≤ 200 := by
  obtain ⟨l, i, s, ⟨K, hK⟩, hl, h0, h1⟩ := prefixes_ok hc 0 0 (by omega) (by omega)
  obtain ⟨r, ⟨K1, e1⟩, F1⟩ := spec_FewestOf_draw l (by omega)
  obtain ⟨b, i1, s1, e, _⟩ := one_ok hc s (n := 2) h0 (by omega) (by omega)
  have hr : r.1.length ≤ 200 := by omega
  refine ⟨if r.2 = true then (if b = true then r.1 else l) else l, ⟨K + K1, fun k hk => ?_⟩, by split <;> (try split) <;> assumption⟩
  unfold spec_DrawGoodSet.f
  rw [hK k (by omega), kz]
  dsimp only
  rw [e1 k (by omega), kz]
  by_cases h2 : r.2 = true
  · rw [if_pos h2, if_pos h2, e, kz]
    dsimp only
    split <;> rfl
  · rw [if_neg h2, if_neg h2]
theorem DrawSame_l0 {c : List Int} (hc : Bts c) (x5 x6 x33 : List S45) (hx : x33.length ≤ 1000) : ∀ (rest pre x8 : List S45) (i s : Int), x33 = pre ++ rest → x8.length + 2 * rest.length ≤ 2000 → 0 ≤ i → i + 2 * rest.length ≤ 100000 →
    ∃ r, (∀ k, spec_DrawSameAddrs.l0 (k + rest.length + 1) x5 x6 x8 x33 (x33.length : Int) (pre.length : Int) c i s = some (x5, r)) ∧ r.length ≤ 2000 := by
  intro rest
  induction rest with
  | nil =>
    intro pre x8 i s e hl h0 h1
    refine ⟨x8, fun k => ?_, by omega⟩
    rw [spec_DrawSameAddrs.l0, if_neg (by rw [e]; simp)]
  | cons q rest ih =>
    intro pre x8 i s e hl h0 h1
    rw [kv] at hl h1
    have hlen : pre.length < x33.length := by rw [e]; simp
    have h2 : rd_T45 x33 (pre.length : Int) = q := by rw [e]; exact rdm_Prefix _ _ _
    have hw : wrap64 ((pre.length : Int) + 1) = ((pre ++ [q]).length : Int) := by rw [wrap_id (by omega) (by omega)]; simp
    have hk : ∀ k, k + (q :: rest).length + 1 = (k + rest.length + 1) + 1 := fun k => by simp; omega
    have e2 : x33 = (pre ++ [q]) ++ rest := by rw [e]; simp
    obtain ⟨b, i1, s1, e3, a1, b1⟩ := one_ok hc s (n := 2) h0 (by omega) (by omega)
    by_cases hh : (halvesOf q.f0 q.f1).2.2.2.2 = true
    · by_cases hb : b = true
      · by_cases h20 : (x6.length : Int) < 20
        · obtain ⟨r, e4, h4⟩ := ih (pre ++ [q]) (x8 ++ [⟨(halvesOf q.f0 q.f1).2.2.1, (halvesOf q.f0 q.f1).2.2.2.1⟩, ⟨(halvesOf q.f0 q.f1).1, (halvesOf q.f0 q.f1).2.1⟩]) i1 s1 e2 (by simp; omega) (by omega) (by omega)
          refine ⟨r, fun k => ?_, h4⟩
          rw [hk, spec_DrawSameAddrs.l0, if_pos (by omega), if_pos (len_nn _), if_pos (by omega), h2, spec_HalvesOf_is, kz, if_pos hh, e3, kz]
          dsimp only
          rw [if_pos hb, if_pos h20, kz, if_pos (by simp; omega), hw]
          exact e4 k
        · obtain ⟨r, e4, h4⟩ := ih (pre ++ [q]) (x8 ++ [⟨q.f0, q.f1⟩]) i1 s1 e2 (by simp; omega) (by omega) (by omega)
          refine ⟨r, fun k => ?_, h4⟩
          rw [hk, spec_DrawSameAddrs.l0, if_pos (by omega), if_pos (len_nn _), if_pos (by omega), h2, spec_HalvesOf_is, kz, if_pos hh, e3, kz]
          dsimp only
          rw [if_pos hb, if_neg h20, if_pos (by omega), hw]
          exact e4 k
      · obtain ⟨r, e4, h4⟩ := ih (pre ++ [q]) (x8 ++ [⟨q.f0, q.f1⟩]) i1 s1 e2 (by simp; omega) (by omega) (by omega)
        refine ⟨r, fun k => ?_, h4⟩
        rw [hk, spec_DrawSameAddrs.l0, if_pos (by omega), if_pos (len_nn _), if_pos (by omega), h2, spec_HalvesOf_is, kz, if_pos hh, e3, kz]
        dsimp only
        rw [if_neg hb, if_pos (by omega), hw]
        exact e4 k
    · obtain ⟨r, e4, h4⟩ := ih (pre ++ [q]) (x8 ++ [⟨q.f0, q.f1⟩]) i s e2 (by simp; omega) (by omega) (by omega)
      refine ⟨r, fun k => ?_, h4⟩
      rw [hk, spec_DrawSameAddrs.l0, if_pos (by omega), if_pos (len_nn _), if_pos (by omega), h2, spec_HalvesOf_is, kz, if_neg hh, if_pos (by omega), hw]
      exact e4 k
theorem DrawSameAddrs_ok {c : List Int} (hc : Bts c) : ∃ a b : List S45, (∃ K, ∀ k, K ≤ k → spec_DrawSameAddrs.f k c = some (a, b)) ∧ a.length ≤ 2000 ∧ b.length ≤ 2000 := by
  obtain ⟨l, i, s, ⟨K, hK⟩, hl, h0, h1⟩ := prefixes_ok hc 0 0 (by omega) (by omega)
  obtain ⟨r, ⟨K1, e1⟩, F1⟩ := spec_FewestOf_draw l (by omega)
  have hr : r.1.length ≤ 200 := by omega
  have yes : ∀ i s, 0 ≤ i → i ≤ 5000 → ∃ b : List S45, (∃ K, ∀ k, K ≤ k → spec_DrawSameAddrs.j0 k l r.1 true c i s = some (l, b)) ∧ b.length ≤ 2000 := fun i s h2 h3 => by
    obtain ⟨b, i2, s2, ⟨K2, e2⟩, hb, _⟩ := prefixes_ok hc i s h2 (by omega)
    refine ⟨b, ⟨K2 + 1, fun k hk => ?_⟩, by omega⟩
    obtain ⟨k, rfl⟩ : ∃ k', k = k' + 1 := ⟨k - 1, by omega⟩
    rw [spec_DrawSameAddrs.j0, if_pos rfl, e2 k (by omega), kz]
  by_cases h2 : r.2 = true
  · obtain ⟨b, i1, s1, e, a1, b1⟩ := one_ok hc s (n := 2) h0 (by omega) (by omega)
    cases b with
    | true =>
      obtain ⟨b, ⟨K2, e2⟩, hb⟩ := yes i1 s1 (by omega) (by omega)
      refine ⟨l, b, ⟨K + K1 + K2, fun k hk => ?_⟩, by omega, hb⟩
      unfold spec_DrawSameAddrs.f
      rw [hK k (by omega), kz]
      dsimp only
      rw [e1 k (by omega), kz, if_pos h2, e, kz]
      exact e2 k (by omega)
    | false =>
      obtain ⟨b, e2, hb⟩ := DrawSame_l0 hc l r.1 r.1 (by omega) r.1 [] [] i1 s1 rfl (by simp; omega) (by omega) (by omega)
      refine ⟨l, b, ⟨K + K1 + r.1.length + 2, fun k hk => ?_⟩, by omega, hb⟩
      obtain ⟨k, rfl⟩ : ∃ k', k = (k' + r.1.length + 1) + 1 := ⟨k - (r.1.length + 1 + 1), by omega⟩
      unfold spec_DrawSameAddrs.f
      rw [hK _ (by omega), kz]
      dsimp only
      rw [e1 _ (by omega), kz, if_pos h2, e, kz]
      dsimp only
      rw [spec_DrawSameAddrs.j0, if_neg (by simp)]
      exact e2 k
  · obtain ⟨b, ⟨K2, e2⟩, hb⟩ := yes i s h0 (by omega)
    refine ⟨l, b, ⟨K + K1 + K2, fun k hk => ?_⟩, by omega, hb⟩
    unfold spec_DrawSameAddrs.f
    rw [hK k (by omega), kz]
    dsimp only
    rw [e1 k (by omega), kz, if_neg h2]
    exact e2 k (by omega)
end FnFewestUses
open Go.RowKit Go.Proofs.Ytabejlfejlpkeaa.PFnFewest Go.Proofs.YtabejlfejlpkeaaW.PrintWords Go.Proofs.YtabejlfejlpkeaaW.PrintLast Go.Proofs.YtabejlfejlpkeaaW.PrintMore Go.Proofs.Ytabejlfejlpkeaa.Pfx Go.Proofs.Ytabejlfejlpkeaa.Loop Go.Proofs.Ytabejlfejlpkeaa.Tbl FnFewestUses
open Option renaming bind_some → kz
open List renaming mem_map → kq, length_append → ky, length_singleton → kj, map_cons → kk, length_cons → kv, map_append → kg, length_map → ke, all_eq_true → kc, length_nil → ko, nil_append → kx, any_eq_true → km, map_singleton → ku, mem_singleton → ks, length_eq_zero_iff → kt, mem_cons → kp, mem_append → kl
open Bool renaming and_eq_true → kh, true_and → kd, false_or → kr, eq_iff_iff → kn
open Int renaming tmod_eq_emod_of_nonneg → kb
set_option linter.unusedVariables false
theorem FnFewest : laws_FnFewest.Pure := by
  intro l0 l1 m0 w0 b0 m1 w1 b1
  have hbt : ∀ c : List Int, c.length * 1 ≤ 140737488351232 → (∀ x ∈ c, (Lit.int .u8 x).wf = true) → Bts c := fun c h1 h2 => ⟨by omega, fun x hx => by
    have := h2 x hx
    simp [Lit.wf, IntKind.min, IntKind.max, IntKind.signed, IntKind.bits] at this
    omega⟩
  have hc0 := hbt l0 w0 b0
  have hc1 := hbt l1 w1 b1
  by_cases hsz : wrap64 ((l0.length : Int) + (l1.length : Int)) > 1048576
  · exact ⟨0, by unfold laws_FnFewest.f; rw [if_pos hsz]⟩
  obtain ⟨a, b, ⟨K0, hD⟩, hal, hbl⟩ := DrawSameAddrs_ok hc0
  obtain ⟨l, ad, ⟨K1, hE⟩, hll⟩ := DrawSetHas_ok hc1
  obtain ⟨s, ⟨K2, hG⟩, hsl⟩ := DrawGoodSet_ok hc1
  obtain ⟨S, ⟨K3, s1⟩, ⟨K4, s2⟩, S1, S2⟩ := SameAddrs_full a b (by omega) (by omega)
  obtain ⟨F, ⟨K5, f1⟩, ⟨K6, f2⟩, F1, F2⟩ := FewestOf_full a (by omega)
  obtain ⟨C, ⟨K7, c1⟩, ⟨K8, c2⟩, C1, C2⟩ := CountAddrs_full a (by omega)
  obtain ⟨G, _, ⟨K9, g2⟩, G1, G2⟩ := FewestOf_full b (by omega)
  obtain ⟨H, _, ⟨K10, h2⟩, H1, H2⟩ := FewestOf_full l (by omega)
  obtain ⟨K11, p1⟩ := impl_GoodSet_is s (by omega)
  obtain ⟨K12, p2⟩ := spec_GoodSet_is s (by omega)
  replace s1 : ∀ k, K3 ≤ k → spec_SameAddrs.f k a b = some S := s1
  replace s2 : ∀ k, K4 ≤ k → impl_SameAddrs.f k a b = some S := s2
  replace f1 : ∀ k, K5 ≤ k → spec_FewestOf.f k a = some F := f1
  replace f2 : ∀ k, K6 ≤ k → impl_FewestOf.f k a = some F := f2
  replace c1 : ∀ k, K7 ≤ k → spec_CountAddrs.f k a = some C := c1
  replace c2 : ∀ k, K8 ≤ k → impl_CountAddrs.f k a = some C := c2
  replace g2 : ∀ k, K9 ≤ k → impl_FewestOf.f k b = some G := g2
  replace h2 : ∀ k, K10 ≤ k → impl_FewestOf.f k l = some H := h2
  replace p1 : ∀ k, K11 ≤ k → impl_GoodSet.f k s = some (goodSet (s.map pr)) := p1
  replace p2 : ∀ k, K12 ≤ k → spec_GoodSet.f k s = some (goodSet (s.map pr)) := p2
  obtain ⟨K, hK⟩ : ∃ K : Nat, K0 + K1 + K2 + K3 + K4 + K5 + K6 + K7 + K8 + K9 + K10 + K11 + K12 + 5000 ≤ K := ⟨_, Nat.le_refl _⟩
  have J5 : ∀ k, K < k → laws_FnFewest.j5 k l1 false = some true := fun k hk => by
    obtain ⟨k, rfl⟩ : ∃ k', k = k' + 1 := ⟨k - 1, by omega⟩
    rw [laws_FnFewest.j5, if_neg (by simp), hG k (by omega), kz, p1 k (by omega), kz, p2 k (by omega), kz, beq_self_eq_true]
  have J4 : ∀ k, K + 1 < k → laws_FnFewest.j4 k l1 l ad (setHasR (l.map pr) ad).1 (setHasR (l.map pr) ad).2 false = some true := fun k hk => by
    obtain ⟨k, rfl⟩ : ∃ k', k = k' + 1 := ⟨k - 1, by omega⟩
    rw [laws_FnFewest.j4, if_neg (by simp)]
    by_cases hR : (setHasR (l.map pr) ad).2 = true
    · obtain ⟨ok, hx⟩ := setHasR_two hR
      obtain ⟨Ha, Hb, Hc⟩ := H1 ok
      have h64 := (okL_facts ok).1
      have okH : okL H.1 = true := okL_canon (by omega) Hb
      rw [if_pos hR, h2 k (by omega), kz, impl_SetHas_is k H.1 ad (by omega) (by omega), kz, if_pos Ha, setHasR_ok okH hx, setHasR_ok ok hx]
      dsimp only
      have e : setHas (H.1.map pr) ad = setHas (l.map pr) ad := by
        rw [kn, setHas_iff, setHas_iff]
        exact Hb.inL ad
      rw [if_pos rfl, e, bne_self_eq_false]
      exact J5 k (by omega)
    · rw [if_neg hR, hG k (by omega), kz, p1 k (by omega), kz, p2 k (by omega), kz, beq_self_eq_true]
  have J3 : ∀ k, K + 2 < k → laws_FnFewest.j3 k l1 = some true := fun k hk => by
    obtain ⟨k, rfl⟩ : ∃ k', k = k' + 1 := ⟨k - 1, by omega⟩
    rw [laws_FnFewest.j3, hE k (by omega), kz]
    dsimp only
    rw [impl_SetHas_is k l ad (by omega) (by omega), kz, spec_SetHas_is k l ad (by omega) (by omega), kz, if_neg (by simp), bne_self_eq_false]
    exact J4 k (by omega)
  have J2 : ∀ k, K + 3 < k → laws_FnFewest.j2 k l1 b S.1 S.2 F.1 = some true := fun k hk => by
    obtain ⟨k, rfl⟩ : ∃ k', k = k' + 1 := ⟨k - 1, by omega⟩
    rw [laws_FnFewest.j2]
    by_cases hS : S.2 = true
    · have hab : okL a = true ∧ okL b = true := by
        by_cases h : okL a = true ∧ okL b = true
        · exact h
        · rw [S2 h] at hS; cases hS
      obtain ⟨Fa, Fb, Fc⟩ := F1 hab.1
      obtain ⟨Ga, Gb, Gc⟩ := G1 hab.2
      have key : S.1 = decide (F.1.map pr = G.1.map pr) := by
        rw [kn, (S1 hab.1 hab.2).2, decide_eq_true_iff]
        constructor
        · intro e
          exact Fb.unique (Gb.congr (fun x => (e x).symm))
        · intro e x
          rw [← Fb.inL x, ← Gb.inL x, e]
      rw [if_pos hS, g2 k (by omega), kz, if_pos Ga, samePrefixes_is F.1 G.1 (by omega) k (by omega), kz, ← key, if_neg (by simp)]
      by_cases hS1 : S.1 = true
      · have e : F.1.length = G.1.length := by
          have := of_decide_eq_true (key.symm.trans hS1)
          have := congrArg List.length this
          simpa using this
        rw [if_pos hS1, if_neg (by omega)]
        exact J3 k (by omega)
      · rw [if_neg hS1]
        exact J3 k (by omega)
    · rw [if_neg hS]
      exact J3 k (by omega)
  have J0 : ∃ M : Nat, ∀ k, M ≤ k → laws_FnFewest.j0 k l1 a b S.1 S.2 F.1 F.2 C.1 false = some true := by
    by_cases hF : F.2 = true
    · have ok : okL a = true := by
        by_cases h : okL a = true
        · exact h
        · rw [F2 h] at hF; cases hF
      obtain ⟨Fa, Fb, Fc⟩ := F1 ok
      have a64 := (okL_facts ok).1
      have okF : okL F.1 = true := okL_canon (by omega) Fb
      have hgF := (okL_facts okF).2
      obtain ⟨F', _, ⟨M1, e1⟩, F1', _⟩ := FewestOf_full F.1 (by omega)
      obtain ⟨S', _, ⟨M2, e2⟩, S1', _⟩ := SameAddrs_full a F.1 (by omega) (by omega)
      obtain ⟨M3, e3⟩ := impl_GoodSet_is F.1 (by omega)
      replace e1 : ∀ k, M1 ≤ k → impl_FewestOf.f k F.1 = some F' := e1
      replace e2 : ∀ k, M2 ≤ k → impl_SameAddrs.f k a F.1 = some S' := e2
      replace e3 : ∀ k, M3 ≤ k → impl_GoodSet.f k F.1 = some (goodSet (F.1.map pr)) := e3
      obtain ⟨Fa', Fb', Fc'⟩ := F1' okF
      obtain ⟨Sa', Sb'⟩ := S1' ok okF
      have hS1 : S'.1 = true := Sb'.2 (fun x => (Fb.inL x).symm)
      have hset : goodSet (F.1.map pr) = true := goodSet_canon (canon_self Fb) (by simpa using (okL_facts okF).1)
      have hsame : F'.1.map pr = F.1.map pr := Fb'.unique (canon_self Fb)
      have hcnt : C.1 = total (F.1.map pr) := by rw [C1 ok _ Fb]
      have loop : ∀ (rest pre : List S45) (acc : Int) (k : Nat), F.1 = pre ++ rest → 0 ≤ acc → acc ≤ pre.length * 4294967296 → acc + total (rest.map pr) = C.1 → K + M1 + M2 + M3 + 5 + rest.length < k →
          laws_FnFewest.l0 k l1 a b S.1 S.2 F.1 C.1 F'.1 F'.2 S'.1 S'.2 acc F.1 (F.1.length : Int) (pre.length : Int) = some true := by
        intro rest
        induction rest with
        | nil =>
          intro pre acc k e h0 h1 hs hk
          obtain ⟨k, rfl⟩ : ∃ k', k = k' + 1 := ⟨k - 1, by omega⟩
          have hacc : acc = C.1 := by rw [← hs]; simp [total]
          rw [laws_FnFewest.l0, if_neg (by rw [e]; simp), e3 k (by omega), kz, hset, if_pos rfl, if_pos Fa', samePrefixes_is F'.1 F.1 (by omega) k (by omega), kz, if_pos (decide_eq_true hsame), if_pos Sa', if_pos hS1, if_neg (by omega), if_pos hacc]
          exact J2 k (by omega)
        | cons q rest ih =>
          intro pre acc k e h0 h1 hs hk
          rw [kv] at hk
          obtain ⟨k, rfl⟩ : ∃ k', k = k' + 1 := ⟨k - 1, by omega⟩
          have hq := hgF q (by rw [e]; simp)
          obtain ⟨g1, g2', g3, g4, _⟩ := good_iff.1 hq
          have g5 := good_end hq
          have g6 := sz_pos q.f1
          have hlen : pre.length < F.1.length := by rw [e]; simp
          have hl : F.1.length ≤ 64 := (okL_facts okF).1
          have r1 : rd_T45 F.1 (pre.length : Int) = q := by
            have := rdm_Prefix pre q rest
            rw [← e] at this; exact this
          have hw : wrap64 ((pre.length : Int) + 1) = ((pre ++ [q]).length : Int) := by rw [wrap_id (by omega) (by omega)]; simp
          have hsh : IntKind.u64.wrap (wrap64 (32 - q.f1)) = wrap64 (32 - q.f1) := by rw [wrap_id (by omega) (by omega), u64_id (by omega) (by omega)]
          rw [laws_FnFewest.l0, if_pos (by omega), if_pos (len_nn _), if_pos (by omega), r1, hsh, if_pos (by rw [wrap_id (by omega) (by omega)]; omega), shl_sz g1 g2', hw, wrap_id (x := acc + sz q.f1) (by omega) (by omega)]
          rw [kk, total_cons] at hs
          exact ih (pre ++ [q]) (acc + sz q.f1) k (by rw [e]; simp) (by omega) (by rw [ky, kj]; omega) (by rw [← hs]; show acc + sz q.f1 + _ = acc + (sz q.f1 + _); omega) (by omega)
      refine ⟨K + M1 + M2 + M3 + 5 + F.1.length + 1 + 1, fun k hk => ?_⟩
      obtain ⟨k, rfl⟩ : ∃ k', k = k' + 1 := ⟨k - 1, by omega⟩
      rw [laws_FnFewest.j0, if_neg (by simp), if_pos hF, e1 k (by omega), kz, e2 k (by omega), kz]
      exact loop F.1 [] 0 k rfl (by omega) (by simp) (by rw [hcnt]; omega) (by omega)
    · refine ⟨K + 5, fun k hk => ?_⟩
      obtain ⟨k, rfl⟩ : ∃ k', k = k' + 1 := ⟨k - 1, by omega⟩
      rw [laws_FnFewest.j0, if_neg (by simp), if_neg hF]
      exact J2 k (by omega)
  obtain ⟨M, hM⟩ := J0
  have hFl : F.1.length ≤ 2000 := by
    by_cases h : okL a = true
    · have := (F1 h).2.2; omega
    · rw [F2 h]; simp
  refine ⟨K + M, ?_⟩
  unfold laws_FnFewest.f
  rw [if_neg hsz, hD _ (by omega), kz]
  dsimp only
  rw [s2 _ (by omega), kz, s1 _ (by omega), kz, f2 _ (by omega), kz, f1 _ (by omega), kz, c2 _ (by omega), kz, c1 _ (by omega), kz, if_neg (by simp), if_neg (by simp), if_neg (by simp), samePrefixes_is F.1 F.1 (by omega) _ (by omega), kz, if_pos (decide_eq_true rfl), if_neg (by simp), bne_self_eq_false]
  exact hM _ (by omega)
end Go.Proofs.Ytabejlfejlpkeaa.Pure
