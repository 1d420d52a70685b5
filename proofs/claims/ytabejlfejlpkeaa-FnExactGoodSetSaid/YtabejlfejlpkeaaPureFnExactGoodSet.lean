/- The pure statement of FnExactGoodSet: what the printed functions tell is what the reference tells. No condition but the arguments' own bounds. -/
import Derived.Test.YtabejlfejlpkeaaPFnExactGoodSetx9
import Derived.Test.YtabejlfejlpkeaaPfx
import Derived.Test.YtabejlfejlpkeaaSets
import Derived.Test.YtabejlfejlpkeaaSpans
import Derived.Test.YtabejlfejlpkeaaLoop
import Derived.Test.YtabejlfejlpkeaaTbl
namespace Go.Proofs.Ytabejlfejlpkeaa.Pure
namespace FnExactGoodSetUses
open Go.RowKit Go.Proofs.Ytabejlfejlpkeaa.PFnExactGoodSet Go.Proofs.YtabejlfejlpkeaaW.PrintWords Go.Proofs.YtabejlfejlpkeaaW.PrintLast Go.Proofs.YtabejlfejlpkeaaW.PrintMore Go.Proofs.Ytabejlfejlpkeaa.Pfx Go.Proofs.Ytabejlfejlpkeaa.Loop Go.Proofs.Ytabejlfejlpkeaa.Tbl
set_option linter.unusedVariables false
set_option linter.unusedSimpArgs false

theorem spec_l1In_is (a lo hi : Int) : spec_l1In.f a lo hi = some (decide (lo ≤ a ∧ a ≤ hi)) := by
  unfold spec_l1In.f
  by_cases h : lo ≤ a
  · rw [if_pos h]; simp [h]
  · rw [if_neg h]; simp [h]
theorem impl_within_is (a lo hi : Int) : impl_within.f a lo hi = some (decide (lo ≤ a ∧ a ≤ hi)) := by
  unfold impl_within.f
  by_cases h : lo ≤ a
  · rw [if_pos h]; simp [h]
  · rw [if_neg h]; simp [h]
theorem spec_l1Addr_is (a : Int) : spec_l1Addr.f a = some (decide (0 ≤ a ∧ a ≤ 4294967295)) := by
  unfold spec_l1Addr.f; rw [spec_l1In_is]; rfl
theorem impl_isAddr_is (a : Int) : impl_isAddr.f a = some (decide (0 ≤ a ∧ a ≤ 4294967295)) := by
  unfold impl_isAddr.f; rw [impl_within_is]; rfl
theorem impl_sizeOf_is {n : Int} (h0 : 0 ≤ n) (h1 : n ≤ 32) : impl_sizeOf.f n = some (sz n) := by
  unfold impl_sizeOf.f
  rw [shl_sz h0 h1, if_pos (by rw [wrap_id (by omega) (by omega)]; omega)]
theorem spec_l1Size_is (a : Int) {n : Int} (h0 : 0 ≤ n) (h1 : n ≤ 32) : spec_l1Size.f a n = some (sz n) := by
  unfold spec_l1Size.f
  have e : IntKind.u64.wrap (wrap64 (32 - n)) = wrap64 (32 - n) := by rw [wrap_id (by omega) (by omega), u64_id (by omega) (by omega)]
  rw [e, shl_sz h0 h1, if_pos (by rw [wrap_id (by omega) (by omega)]; omega)]
theorem impl_GoodPrefix_is (a n : Int) : impl_GoodPrefix.f a n = some (good a n) := by
  unfold impl_GoodPrefix.f
  rw [impl_within_is, Option.bind_some]
  by_cases h : 0 ≤ n ∧ n ≤ 32
  · rw [if_pos (decide_eq_true h), impl_isAddr_is, Option.bind_some]
    by_cases h' : 0 ≤ a ∧ a ≤ 4294967295
    · rw [if_pos (decide_eq_true h'), impl_sizeOf_is h.1 h.2, Option.bind_some, if_neg (by have := sz_pos n; omega), Int.tmod_eq_emod_of_nonneg h'.1]
      simp [good, h.1, h.2, h'.1, h'.2, beq_dec]
    · rw [if_neg (by simpa using h')]
      have : good a n = false := by simp [good]; omega
      rw [this]
  · rw [if_neg (by simpa using h)]
    have : good a n = false := by simp [good]; omega
    rw [this]
theorem spec_GoodPrefix_is (a n : Int) : spec_GoodPrefix.f a n = some (good a n) := by
  unfold spec_GoodPrefix.f
  rw [spec_l1In_is, Option.bind_some]
  by_cases h : 0 ≤ n ∧ n ≤ 32
  · rw [if_pos (decide_eq_true h), spec_l1Addr_is, Option.bind_some]
    by_cases h' : 0 ≤ a ∧ a ≤ 4294967295
    · rw [if_pos (decide_eq_true h'), spec_l1Size_is a h.1 h.2, Option.bind_some, if_neg (by have := sz_pos n; omega), Int.tmod_eq_emod_of_nonneg h'.1]
      simp [good, h.1, h.2, h'.1, h'.2, beq_dec]
    · rw [if_neg (by simpa using h')]
      have : good a n = false := by simp [good]; omega
      rw [this]
  · rw [if_neg (by simpa using h)]
    have : good a n = false := by simp [good]; omega
    rw [this]
theorem impl_Prefix_end_is {a n : Int} (h : good a n = true) : impl_Prefix_end.f a n = some (a + sz n - 1) := by
  obtain ⟨h0, h1, h2, h3, h4⟩ := good_iff.1 h
  have := sz_pos n
  have := sz_le h0
  unfold impl_Prefix_end.f
  rw [impl_sizeOf_is h0 h1, Option.bind_some, wrap_id (x := a + sz n) (by omega) (by omega), wrap_id (by omega) (by omega)]
theorem impl_Prefix_has_is {a n : Int} (x : Int) (h : good a n = true) : impl_Prefix_has.f a n x = some (decide (a ≤ x ∧ x ≤ a + sz n - 1)) := by
  unfold impl_Prefix_has.f
  rw [impl_Prefix_end_is h, Option.bind_some, impl_within_is]; rfl
theorem spec_l1HasAddr_is {a n x : Int} (h : good a n = true) (h5 : 0 ≤ x) (h6 : x ≤ 4294967295) : spec_l1HasAddr.f a n x = some (decide (a ≤ x ∧ x ≤ a + sz n - 1)) := by
  obtain ⟨h0, h1, h2, h3, h4⟩ := good_iff.1 h
  have hs := sz_pos n
  have h7 := Int.emod_nonneg x (show sz n ≠ 0 by omega)
  have h8 := Int.emod_lt_of_pos x (show 0 < sz n by omega)
  have h9 := sz_le h0
  unfold spec_l1HasAddr.f
  rw [spec_l1Size_is a h0 h1, Option.bind_some, if_neg (by omega), Int.tmod_eq_emod_of_nonneg h5, wrap_id (by omega) (by omega), beq_dec]
  congr 1
  exact decide_eq_decide.2 (in_row (by omega) h4)
theorem impl_Prefix_covers_is {a n : Int} (b m : Int) (h : good a n = true) : impl_Prefix_covers.f a n b m = some (decide (n ≤ m ∧ a ≤ b ∧ b ≤ a + sz n - 1)) := by
  unfold impl_Prefix_covers.f
  by_cases h' : n ≤ m
  · rw [if_pos h', impl_Prefix_has_is b h]; simp [h']
  · rw [if_neg h']; simp [h']
theorem spec_l1Covers_is {a n b m : Int} (h : good a n = true) (hb : good b m = true) : spec_l1Covers.f a n b m = some (decide (n ≤ m ∧ a ≤ b ∧ b ≤ a + sz n - 1)) := by
  obtain ⟨h0, h1, h2, h3, h4⟩ := good_iff.1 hb
  unfold spec_l1Covers.f
  by_cases h' : n ≤ m
  · rw [if_pos h', spec_l1HasAddr_is h h2 h3]; simp [h']
  · rw [if_neg h']; simp [h']
theorem spec_l1Parent_is {a n : Int} (h : good a n = true) (hn : 0 < n) : spec_l1Parent.f a n = some (a - a % (2 * sz n), n - 1) := by
  obtain ⟨h0, h1, h2, h3, h4⟩ := good_iff.1 h
  have hs := sz_pos n
  have h9 := sz_le h0
  have h7 := Int.emod_nonneg a (show 2 * sz n ≠ 0 by omega)
  have h8 := Int.emod_lt_of_pos a (show 0 < 2 * sz n by omega)
  unfold spec_l1Parent.f
  rw [spec_l1Size_is a h0 h1, Option.bind_some, wrap_id (x := 2 * sz n) (by omega) (by omega), if_neg (by omega), Int.tmod_eq_emod_of_nonneg h2, wrap_id (by omega) (by omega), wrap_id (by omega) (by omega)]
theorem spec_l1Halves_is {a n : Int} (h0 : 0 ≤ n) (h1 : n < 32) (h2 : 0 ≤ a) (h3 : a ≤ 4294967295) : spec_l1Halves.f a n = some (a, n + 1, a + sz (n + 1), n + 1) := by
  have hs := sz_pos (n + 1)
  have h9 := sz_le (n := n + 1) (by omega)
  unfold spec_l1Halves.f
  rw [wrap_id (x := n + 1) (by omega) (by omega), spec_l1Size_is a (by omega) (by omega), Option.bind_some, wrap_id (by omega) (by omega)]
theorem spec_l1Sibling_is {a n : Int} (h : good a n = true) (hn : 0 < n) : spec_l1Sibling.f a n = some (sib a n, n) := by
  obtain ⟨h0, h1, h2, h3, h4⟩ := good_iff.1 h
  have hs := sz_pos n
  have hr := parent_rest (a := a) (s := sz n) (by omega) h4
  have h7 := Int.emod_nonneg a (show 2 * sz n ≠ 0 by omega)
  have h8 : a % (2 * sz n) ≤ a := by
    obtain h | h := hr
    · omega
    · have := Int.mul_ediv_add_emod a (2 * sz n)
      have := Int.ediv_nonneg h2 (show 0 ≤ 2 * sz n by omega)
      have := Int.mul_nonneg (show 0 ≤ 2 * sz n by omega) this
      omega
  unfold spec_l1Sibling.f
  rw [spec_l1Parent_is h hn, Option.bind_some]
  simp only []
  rw [spec_l1Halves_is (by omega) (by omega) (by omega) (by omega), Option.bind_some]
  simp only [show n - 1 + 1 = n by omega, beq_self_eq_true, Bool.and_true]
  unfold sib
  rcases hr with hr | hr
  · rw [hr, if_pos (by simp)]; simp
  · rw [hr, if_neg (by simp; omega), if_neg (by omega)]
theorem impl_Prefix_sibling_is {a n : Int} (h : good a n = true) : impl_Prefix_sibling.f a n = some (sib a n, n) := by
  obtain ⟨h0, h1, h2, h3, h4⟩ := good_iff.1 h
  unfold impl_Prefix_sibling.f
  rw [impl_sizeOf_is h0 h1, Option.bind_some, xor_sz h0 h1 h2 h3 h4]; rfl
theorem cmp_isNaN_int_is (a : Int) : cmp_isNaN_int.f a = some false := by unfold cmp_isNaN_int.f; simp
theorem cmp_Compare_int_is (a b : Int) : cmp_Compare_int.f a b = some (if a < b then -1 else if a > b then 1 else 0) := by
  unfold cmp_Compare_int.f
  simp only [cmp_isNaN_int_is, Option.bind_some, Bool.false_eq_true, if_false]
  by_cases h1 : a < b
  · simp [h1]
  · by_cases h2 : a > b
    · simp [h1, h2]
    · simp [h1, h2]
theorem impl_compare_is (k : Nat) (a n b m : Int) : impl_compare.f (k + 3) a n b m = some (cmpP a n b m) := by
  unfold impl_compare.f cmp_Or_int.f
  rw [cmp_Compare_int_is, Option.bind_some, cmp_Compare_int_is, Option.bind_some]
  have w1 : wrap64 (0 + 1) = 1 := wrap_id (by omega) (by omega)
  have w2 : wrap64 (1 + 1) = 2 := wrap_id (by omega) (by omega)
  simp only [cmp_Or_int.l0, rd, List.length_cons, List.length_nil, w1, w2]
  unfold cmpP
  by_cases h1 : a < b
  · simp [h1]
  · by_cases h2 : b < a
    · have : ¬ a = b := by omega
      simp [h1, h2, this]
    · obtain rfl : a = b := by omega
      by_cases h3 : n < m
      · simp [h3]
      · by_cases h4 : m < n
        · have : ¬ n = m := by omega
          simp [h3, h4, this]
        · obtain rfl : n = m := by omega
          simp
theorem spec_l1Compare_is (k : Nat) (a n b m : Int) : spec_l1Compare.f (k + 1) a n b m = some (cmpP a n b m) := by
  unfold spec_l1Compare.f cmpP
  simp only [spec_l1Compare.j0]
  by_cases h1 : a < b
  · simp [h1]
  · by_cases h2 : a = b
    · subst h2
      by_cases h3 : n < m
      · simp [h3]
      · by_cases h4 : n = m
        · subst h4; simp
        · simp [h3, h4]
    · simp [h1, h2]
theorem laws_eqPrefix_is (a n b m : Int) : laws_eqPrefix.f a n b m = some (decide (a = b ∧ n = m)) := by
  unfold laws_eqPrefix.f
  by_cases h : a = b
  · by_cases h' : n = m
    · rw [if_pos h, if_pos h']; simp [h, h']
    · rw [if_pos h, if_neg h']; simp [h']
  · rw [if_neg h]; simp [h]
theorem rdm_Prefix (pre : List S45) (a : S45) (rest : List S45) : rd_T45 (pre ++ a :: rest) (pre.length : Int) = a := by unfold rd_T45; simp
def pr (p : S45) : Pr := (p.f0, p.f1)
theorem pr_inj {p q : S45} (h : pr p = pr q) : p = q := by cases p; cases q; simpa [pr] using h
theorem rdm_LPrefix (pre : List S43) (a : S43) (rest : List S43) : rd_T43 (pre ++ a :: rest) (pre.length : Int) = a := by unfold rd_T43; simp
theorem laws_eqPrefixS_refl (k : Nat) (l : List S45) (hl : l.length ≤ maxLen) (hk : l.length < k) : laws_eqPrefixS.f k l l = some true := by
  unfold laws_eqPrefixS.f
  rw [if_pos rfl]
  have key : ∀ (rest pre : List S45) (k : Nat), l = pre ++ rest → rest.length < k → laws_eqPrefixS.l0 k l l (pre.length : Int) = some true := by
    intro rest
    induction rest with
    | nil =>
      intro pre k e hk
      obtain ⟨k, rfl⟩ : ∃ m, k = m + 1 := ⟨k - 1, by omega⟩
      simp only [laws_eqPrefixS.l0]
      rw [if_neg (by rw [e]; simp)]
    | cons a rest ih =>
      intro pre k e hk
      obtain ⟨k, rfl⟩ : ∃ m, k = m + 1 := ⟨k - 1, by omega⟩
      simp only [laws_eqPrefixS.l0]
      rw [if_pos (by rw [e]; exact lt_mid _ _ _), if_pos (len_nn _), if_pos (by rw [e]; exact lt_mid _ _ _), laws_eqPrefix_is]
      simp only [Option.bind_some, and_self, decide_true, if_true]
      rw [wrap_mid (rest := rest) (by rw [← e]; exact hl)]
      exact ih (pre ++ [a]) k (by rw [e]; simp) (by simp at hk; omega)
  exact key l [] k rfl hk
theorem laws_toPrefixS_is (k : Nat) (l : List S43) (hl : l.length ≤ 1048576) (hk : l.length < k) : laws_toPrefixS.f k l = some (l.map fun p => (⟨p.f0, p.f1⟩ : S45)) := by
  unfold laws_toPrefixS.f
  rw [if_pos (len_nn _), if_pos (by simp; omega)]
  have key : ∀ (rest pre : List S43) (k : Nat), l = pre ++ rest → rest.length < k →
      laws_toPrefixS.l0 k l ((pre.map fun p => (⟨p.f0, p.f1⟩ : S45)) ++ List.replicate rest.length z45) (pre.length : Int) = some (l.map fun p => (⟨p.f0, p.f1⟩ : S45)) := by
    intro rest
    induction rest with
    | nil =>
      intro pre k e hk
      obtain ⟨k, rfl⟩ : ∃ m, k = m + 1 := ⟨k - 1, by omega⟩
      simp only [laws_toPrefixS.l0]
      rw [if_neg (by rw [e]; simp)]
      simp [e]
    | cons a rest ih =>
      intro pre k e hk
      obtain ⟨k, rfl⟩ : ∃ m, k = m + 1 := ⟨k - 1, by omega⟩
      simp only [laws_toPrefixS.l0, laws_toPrefix.f, Option.bind_some]
      rw [if_pos (by rw [e]; exact lt_mid _ _ _), if_pos (len_nn _), if_pos (by simp; omega), wrap_mid (rest := rest) (by rw [← e]; simp only [maxLen]; omega)]
      have h1 : rd_T43 l (pre.length : Int) = a := by rw [e]; exact rdm_LPrefix _ _ _
      rw [h1, List.length_cons, List.replicate_succ]
      have h2 := ih (pre ++ [a]) k (by rw [e]; simp) (by simp at hk; omega)
      have h3 : ((pre.map fun p => (⟨p.f0, p.f1⟩ : S45)) ++ z45 :: List.replicate rest.length z45).set ((pre.length : Int)).toNat (⟨a.f0, a.f1⟩ : S45) = ((pre ++ [a]).map fun p => (⟨p.f0, p.f1⟩ : S45)) ++ List.replicate rest.length z45 := by
        have := set_mid (pre.map fun p => (⟨p.f0, p.f1⟩ : S45)) z45 ⟨a.f0, a.f1⟩ (List.replicate rest.length z45)
        rw [List.length_map] at this
        rw [this]; simp
      rw [h3]; exact h2
  have := key l [] k rfl hk
  simpa using this
theorem impl_areRising_is (k : Nat) (l : List S45) (hl : l.length ≤ 1048576) (hk : l.length + 4 < k) : impl_areRising.f k l = some (rising (l.map pr)) := by
  unfold impl_areRising.f
  have key : ∀ (rest pre : List S45) (k : Nat), l = pre ++ rest → rest.length + 4 < k →
      impl_areRising.l0 k l l (l.length : Int) (pre.length : Int) = some (risingFrom ((pre.map pr).getLast?) (rest.map pr)) := by
    intro rest
    induction rest with
    | nil =>
      intro pre k e hk
      obtain ⟨k, rfl⟩ : ∃ m, k = m + 1 := ⟨k - 1, by omega⟩
      simp only [impl_areRising.l0]
      rw [if_neg (by rw [e]; simp)]
      simp [risingFrom]
    | cons a rest ih =>
      intro pre k e hk
      obtain ⟨k, rfl⟩ : ∃ m, k = m + 1 := ⟨k - 1, by omega⟩
      have h1 : rd_T45 l (pre.length : Int) = a := by rw [e]; exact rdm_Prefix _ _ _
      have hih := ih (pre ++ [a]) k (by rw [e]; simp) (by simp at hk; omega)
      rw [List.map_append, List.map_singleton, List.getLast?_concat] at hih
      simp only [impl_areRising.l0]
      rw [if_pos (by rw [e]; exact lt_mid _ _ _), if_pos (len_nn _), if_pos (by rw [e]; exact lt_mid _ _ _), h1, impl_GoodPrefix_is, Option.bind_some, wrap_mid (rest := rest) (by rw [← e]; simp only [maxLen]; omega)]
      simp only [List.map_cons, risingFrom]
      by_cases hg : good a.f0 a.f1 = true
      · rw [if_pos hg]
        rcases snoc_cases pre with rfl | ⟨pre', q, rfl⟩
        · rw [if_neg (by simp)]
          simp only [List.nil_append, List.length_singleton] at hih
          rw [show (([] : List S45) ++ [a]).length = 1 from rfl, hih]
          simp [pr, hg]
        · have h2 : wrap64 (((pre' ++ [q]).length : Int) - 1) = (pre'.length : Int) := by
            have : (pre' ++ [q] ++ a :: rest).length ≤ 1048576 := by rw [← e]; exact hl
            simp at this
            rw [List.length_append, List.length_singleton, wrap_id (by omega) (by omega)]; omega
          have h3 : rd_T45 l (pre'.length : Int) = q := by rw [e, List.append_assoc]; exact rdm_Prefix _ _ _
          obtain ⟨k', rfl⟩ : ∃ m, k = m + 3 := ⟨k - 3, by simp at hk; omega⟩
          rw [if_pos (by rw [List.length_append, List.length_singleton]; omega), h2, if_pos (len_nn _), if_pos (by rw [e, List.length_append, List.length_append, List.length_singleton]; omega), h3, impl_compare_is, Option.bind_some, hih, List.map_append, List.map_singleton, List.getLast?_concat]
          by_cases hc : cmpP q.f0 q.f1 a.f0 a.f1 ≥ 0
          · rw [if_pos hc]
            have : ¬ cmpP q.f0 q.f1 a.f0 a.f1 < 0 := by omega
            simp [pr, this]
          · rw [if_neg hc]
            have : cmpP q.f0 q.f1 a.f0 a.f1 < 0 := by omega
            simp [pr, hg, this]
      · rw [if_neg hg]
        simp [pr, hg]
  exact key l [] k rfl hk
theorem laws_szPrefixS_is (l : List S43) (m0 : l.length ≤ maxLen) : ∃ r, laws_szPrefixS.f l 1048576 = some r ∧ (¬ r < 0 → l.length ≤ 1048576) := by
  unfold laws_szPrefixS.f
  by_cases h : wrap64 (1048576 - (l.length : Int)) < 0
  · exact ⟨_, if_pos h, fun h' => absurd (by omega) h'⟩
  · exact ⟨_, if_neg h, fun h' => sz_ok m0 (if_neg h) h'⟩
theorem map_pr_inj : ∀ {l l' : List S45}, l.map pr = l'.map pr → l = l'
  | [], [], _ => rfl
  | [], _ :: _, h => by simp at h
  | _ :: _, [], h => by simp at h
  | a :: t, b :: t', h => by
    simp only [List.map_cons, List.cons.injEq] at h
    rw [pr_inj h.1, map_pr_inj h.2]
theorem spec_l3Good_is (k : Nat) (l : List S45) (hl : l.length ≤ 1048576) (hk : l.length < k) : spec_l3Good.f k l = some (decide (l.length ≤ 64) && (l.map pr).all (fun p => good p.1 p.2)) := by
  unfold spec_l3Good.f
  have key : ∀ (rest pre : List S45) (k : Nat), l = pre ++ rest → rest.length < k →
      spec_l3Good.l0 k l l (l.length : Int) (pre.length : Int) = some (decide (l.length ≤ 64) && (rest.map pr).all (fun p => good p.1 p.2)) := by
    intro rest
    induction rest with
    | nil =>
      intro pre k e hk
      obtain ⟨k, rfl⟩ : ∃ m, k = m + 1 := ⟨k - 1, by omega⟩
      simp only [spec_l3Good.l0]
      rw [if_neg (by rw [e]; simp)]
      have : ((l.length : Int) ≤ 64) ↔ l.length ≤ 64 := by omega
      simp [this]
    | cons a rest ih =>
      intro pre k e hk
      obtain ⟨k, rfl⟩ : ∃ m, k = m + 1 := ⟨k - 1, by omega⟩
      have h1 : rd_T45 l (pre.length : Int) = a := by rw [e]; exact rdm_Prefix _ _ _
      have hih := ih (pre ++ [a]) k (by rw [e]; simp) (by simp at hk; omega)
      simp only [spec_l3Good.l0]
      rw [if_pos (by rw [e]; exact lt_mid _ _ _), if_pos (len_nn _), if_pos (by rw [e]; exact lt_mid _ _ _), h1, spec_GoodPrefix_is, Option.bind_some, wrap_mid (rest := rest) (by rw [← e]; simp only [maxLen]; omega), hih]
      by_cases hg : good a.f0 a.f1 = true
      · rw [if_pos hg]; simp [pr, hg]
      · rw [if_neg hg]; simp [pr, hg]
  exact key l [] k rfl hk
theorem impl_GoodSet_in {l : List S45} (hl : l.length ≤ 1048576) (hg : ∀ p, p ∈ l → good p.f0 p.f1 = true) (p : S45) (hp : p ∈ l) (i : Nat) (x15 : List S45) (x16 x17 : Int) :
    ∀ (rest pre : List S45), l = pre ++ rest →
      (badAt i (pr p) pre.length (rest.map pr) = true → Ev (fun k => impl_GoodSet.l1 k l (i : Int) x15 x16 x17 l (l.length : Int) (pre.length : Int) p.f0 p.f1) false) ∧
      (badAt i (pr p) pre.length (rest.map pr) = false → ∀ r, Ev (fun k => impl_GoodSet.l0 k l x15 x16 (wrap64 (x17 + 1))) r → Ev (fun k => impl_GoodSet.l1 k l (i : Int) x15 x16 x17 l (l.length : Int) (pre.length : Int) p.f0 p.f1) r) := by
  have hgp := hg p hp
  intro rest
  induction rest with
  | nil =>
    intro pre e
    refine ⟨fun h => by simp [badAt] at h, fun _ r hr => ?_⟩
    refine Ev.step (f := fun k => impl_GoodSet.l0 k l x15 x16 (wrap64 (x17 + 1))) (fun k => ?_) hr
    simp only [impl_GoodSet.l1]
    rw [if_neg (by rw [e]; simp)]
  | cons q rest ih =>
    intro pre e
    obtain ⟨ih1, ih2⟩ := ih (pre ++ [q]) (by rw [e]; simp)
    have h1 : rd_T45 l (pre.length : Int) = q := by rw [e]; exact rdm_Prefix _ _ _
    have hw : wrap64 ((pre.length : Int) + 1) = ((pre ++ [q]).length : Int) := wrap_mid (rest := rest) (by rw [← e]; simp only [maxLen]; omega)
    have hlt : (pre.length : Int) < (l.length : Int) := by rw [e]; exact lt_mid _ _ _
    have hlen : (pre ++ [q]).length = pre.length + 1 := by simp
    rw [hlen] at ih1 ih2
    have one : ∀ k, impl_GoodSet.l1 (k + 1) l (i : Int) x15 x16 x17 l (l.length : Int) (pre.length : Int) p.f0 p.f1 =
        (if (!decide (i = pre.length) && (decide ((pr p).2 ≤ (pr q).2 ∧ (pr p).1 ≤ (pr q).1 ∧ (pr q).1 ≤ (pr p).1 + sz (pr p).2 - 1) || (decide (0 < (pr p).2) && ((pr q).1 == sib (pr p).1 (pr p).2 && (pr q).2 == (pr p).2)))) = true then some false
         else impl_GoodSet.l1 k l (i : Int) x15 x16 x17 l (l.length : Int) ((pre ++ [q]).length : Int) p.f0 p.f1) := by
      intro k
      simp only [impl_GoodSet.l1]
      rw [if_pos hlt, if_pos (len_nn _), if_pos hlt, hw, h1]
      by_cases hi : i = pre.length
      · rw [if_pos (by omega), if_neg (by simp [hi])]
      · rw [if_neg (by omega), impl_Prefix_covers_is _ _ hgp, Option.bind_some]
        by_cases hc : p.f1 ≤ q.f1 ∧ p.f0 ≤ q.f0 ∧ q.f0 ≤ p.f0 + sz p.f1 - 1
        · rw [if_pos (decide_eq_true hc), if_pos (by simp [hi, pr, hc])]
        · rw [if_neg (by simpa using hc)]
          have hc' : decide ((pr p).2 ≤ (pr q).2 ∧ (pr p).1 ≤ (pr q).1 ∧ (pr q).1 ≤ (pr p).1 + sz (pr p).2 - 1) = false := decide_eq_false hc
          rw [hc', Bool.false_or]
          by_cases hn : p.f1 > 0
          · rw [if_pos hn, impl_Prefix_sibling_is hgp, Option.bind_some]
            have hn' : decide (0 < (pr p).2) = true := decide_eq_true hn
            have hi' : (!decide (i = pre.length)) = true := by simp [hi]
            rw [hn', hi', Bool.true_and, Bool.true_and]
            have hsw : (sib p.f0 p.f1 == q.f0 && p.f1 == q.f1) = ((pr q).1 == sib (pr p).1 (pr p).2 && (pr q).2 == (pr p).2) := by
              simp only [pr]
              rw [Bool.beq_comm (a := q.f0), Bool.beq_comm (a := q.f1)]
            simp only [hsw]
          · rw [if_neg hn]
            have hn' : decide (0 < (pr p).2) = false := decide_eq_false hn
            rw [hn', Bool.false_and, Bool.and_false, if_neg (by simp)]
    have hb : badAt i (pr p) pre.length ((q :: rest).map pr) = ((!decide (i = pre.length) && (decide ((pr p).2 ≤ (pr q).2 ∧ (pr p).1 ≤ (pr q).1 ∧ (pr q).1 ≤ (pr p).1 + sz (pr p).2 - 1) || (decide (0 < (pr p).2) && ((pr q).1 == sib (pr p).1 (pr p).2 && (pr q).2 == (pr p).2)))) || badAt i (pr p) (pre.length + 1) (rest.map pr)) := rfl
    generalize (!decide (i = pre.length) && (decide ((pr p).2 ≤ (pr q).2 ∧ (pr p).1 ≤ (pr q).1 ∧ (pr q).1 ≤ (pr p).1 + sz (pr p).2 - 1) || (decide (0 < (pr p).2) && ((pr q).1 == sib (pr p).1 (pr p).2 && (pr q).2 == (pr p).2)))) = B at one hb
    rw [hb]
    cases B with
    | true =>
      refine ⟨fun _ => Ev.step (f := fun _ => some false) (fun k => by rw [one]; simp) (Ev.now _), fun h => by simp at h⟩
    | false =>
      simp only [Bool.false_or]
      exact ⟨fun h => Ev.step (f := fun k => impl_GoodSet.l1 k l (i : Int) x15 x16 x17 l (l.length : Int) ((pre ++ [q]).length : Int) p.f0 p.f1) (fun k => by rw [one]; simp) (by rw [hlen]; exact ih1 h),
        fun h r hr => Ev.step (f := fun k => impl_GoodSet.l1 k l (i : Int) x15 x16 x17 l (l.length : Int) ((pre ++ [q]).length : Int) p.f0 p.f1) (fun k => by rw [one]; simp) (by rw [hlen]; exact ih2 h r hr)⟩
theorem impl_GoodSet_is (l : List S45) (hl : l.length ≤ 1048576) : Ev (fun k => impl_GoodSet.f k l) (goodSet (l.map pr)) := by
  have outer : (∀ p, p ∈ l → good p.f0 p.f1 = true) → ∀ (rest pre : List S45), l = pre ++ rest → Ev (fun k => impl_GoodSet.l0 k l l (l.length : Int) (pre.length : Int)) (outI (l.map pr) pre.length (rest.map pr)) := by
    intro hg rest
    induction rest with
    | nil =>
      intro pre e
      refine Ev.step (f := fun _ => some true) (fun k => ?_) (Ev.now _)
      simp only [impl_GoodSet.l0]
      rw [if_neg (by rw [e]; simp)]
    | cons p rest ih =>
      intro pre e
      have hih := ih (pre ++ [p]) (by rw [e]; simp)
      have h1 : rd_T45 l (pre.length : Int) = p := by rw [e]; exact rdm_Prefix _ _ _
      have hw : wrap64 ((pre.length : Int) + 1) = ((pre ++ [p]).length : Int) := wrap_mid (rest := rest) (by rw [← e]; simp only [maxLen]; omega)
      have hlt : (pre.length : Int) < (l.length : Int) := by rw [e]; exact lt_mid _ _ _
      obtain ⟨i1, i2⟩ := impl_GoodSet_in hl hg p (by rw [e]; simp) pre.length l (l.length : Int) (pre.length : Int) l [] rfl
      refine Ev.step (f := fun k => impl_GoodSet.l1 k l (pre.length : Int) l (l.length : Int) (pre.length : Int) l (l.length : Int) 0 p.f0 p.f1) (fun k => ?_) ?_
      · simp only [impl_GoodSet.l0]
        rw [if_pos hlt, if_pos (len_nn _), if_pos hlt, h1]
      · simp only [List.map_cons, outI]
        simp only [List.length_nil] at i1 i2
        cases hb : badAt pre.length (pr p) 0 (l.map pr) with
        | true => simpa using i1 hb
        | false =>
          have := i2 hb _ (by rw [hw]; exact hih)
          simpa using this
  unfold goodSet
  rw [List.length_map]
  by_cases h64 : (l.length : Int) > 64
  · have h' : ¬ l.length ≤ 64 := by omega
    simp only [h', decide_false, Bool.false_and]
    refine ⟨1, fun k hk => ?_⟩
    obtain ⟨k, rfl⟩ : ∃ m, k = m + 1 := ⟨k - 1, by omega⟩
    simp only [impl_GoodSet.f]
    rw [if_pos h64]
    simp [impl_GoodSet.j0]
  · have h' : l.length ≤ 64 := by omega
    simp only [h', decide_true, Bool.true_and]
    cases hr : rising (l.map pr) with
    | false =>
      refine ⟨l.length + 5, fun k hk => ?_⟩
      simp only [impl_GoodSet.f]
      rw [if_neg h64, impl_areRising_is k l hl (by omega), Option.bind_some, hr]
      obtain ⟨k, rfl⟩ : ∃ m, k = m + 1 := ⟨k - 1, by omega⟩
      simp [impl_GoodSet.j0]
    | true =>
      have hg : ∀ p, p ∈ l → good p.f0 p.f1 = true := fun p hp => rising_good hr (pr p) (List.mem_map.2 ⟨p, hp, rfl⟩)
      obtain ⟨K, hK⟩ := outer hg l [] rfl
      refine ⟨K + l.length + 6, fun k hk => ?_⟩
      simp only [impl_GoodSet.f]
      rw [if_neg h64, impl_areRising_is k l hl (by omega), Option.bind_some, hr]
      obtain ⟨k, rfl⟩ : ∃ m, k = m + 1 := ⟨k - 1, by omega⟩
      simp only [impl_GoodSet.j0]
      rw [if_neg (by simp)]
      have := hK k (by omega)
      simpa using this
theorem spec_GoodSet_in {l : List S45} (hl : l.length ≤ 1048576) (hg : ∀ p, p ∈ l → good p.f0 p.f1 = true) (p : S45) (hp : p ∈ l) (i : Nat) (x10 : List S45) (x11 x12 : Int) (F : Nat → Option Bool)
    (hF : ∀ k, spec_GoodSet.l1 (k + 1) l (i : Int) x10 x11 x12 l (l.length : Int) (l.length : Int) p.f0 p.f1 = F k) :
    ∀ (rest pre : List S45), l = pre ++ rest →
      (badAt i (pr p) pre.length (rest.map pr) = true → Ev (fun k => spec_GoodSet.l1 k l (i : Int) x10 x11 x12 l (l.length : Int) (pre.length : Int) p.f0 p.f1) false) ∧
      (badAt i (pr p) pre.length (rest.map pr) = false → ∀ r, Ev F r → Ev (fun k => spec_GoodSet.l1 k l (i : Int) x10 x11 x12 l (l.length : Int) (pre.length : Int) p.f0 p.f1) r) := by
  have hgp := hg p hp
  intro rest
  induction rest with
  | nil =>
    intro pre e
    have e' : l = pre := by simpa using e
    refine ⟨fun h => by simp [badAt] at h, fun _ r hr => ?_⟩
    refine Ev.step (f := F) (fun k => ?_) hr
    rw [← hF k, e']
  | cons q rest ih =>
    intro pre e
    obtain ⟨ih1, ih2⟩ := ih (pre ++ [q]) (by rw [e]; simp)
    have h1 : rd_T45 l (pre.length : Int) = q := by rw [e]; exact rdm_Prefix _ _ _
    have hgq := hg q (by rw [e]; simp)
    have hw : wrap64 ((pre.length : Int) + 1) = ((pre ++ [q]).length : Int) := wrap_mid (rest := rest) (by rw [← e]; simp only [maxLen]; omega)
    have hlt : (pre.length : Int) < (l.length : Int) := by rw [e]; exact lt_mid _ _ _
    have hlen : (pre ++ [q]).length = pre.length + 1 := by simp
    rw [hlen] at ih1 ih2
    have one : ∀ k, spec_GoodSet.l1 (k + 1) l (i : Int) x10 x11 x12 l (l.length : Int) (pre.length : Int) p.f0 p.f1 =
        (if (!decide (i = pre.length) && (decide ((pr p).2 ≤ (pr q).2 ∧ (pr p).1 ≤ (pr q).1 ∧ (pr q).1 ≤ (pr p).1 + sz (pr p).2 - 1) || (decide (0 < (pr p).2) && ((pr q).1 == sib (pr p).1 (pr p).2 && (pr q).2 == (pr p).2)))) = true then some false
         else spec_GoodSet.l1 k l (i : Int) x10 x11 x12 l (l.length : Int) ((pre ++ [q]).length : Int) p.f0 p.f1) := by
      intro k
      simp only [spec_GoodSet.l1]
      rw [if_pos hlt, if_pos (len_nn _), if_pos hlt, hw, h1]
      by_cases hi : i = pre.length
      · rw [if_pos (by omega), if_neg (by simp [hi])]
      · rw [if_neg (by omega), spec_l1Covers_is hgp hgq, Option.bind_some]
        by_cases hc : p.f1 ≤ q.f1 ∧ p.f0 ≤ q.f0 ∧ q.f0 ≤ p.f0 + sz p.f1 - 1
        · rw [if_pos (decide_eq_true hc), if_pos (by simp [hi, pr, hc])]
        · rw [if_neg (by simpa using hc)]
          have hc' : decide ((pr p).2 ≤ (pr q).2 ∧ (pr p).1 ≤ (pr q).1 ∧ (pr q).1 ≤ (pr p).1 + sz (pr p).2 - 1) = false := decide_eq_false hc
          rw [hc', Bool.false_or]
          by_cases hn : p.f1 > 0
          · rw [if_pos hn, spec_l1Sibling_is hgp hn, Option.bind_some]
            have hn' : decide (0 < (pr p).2) = true := decide_eq_true hn
            have hi' : (!decide (i = pre.length)) = true := by simp [hi]
            rw [hn', hi', Bool.true_and, Bool.true_and]
            rfl
          · rw [if_neg hn]
            have hn' : decide (0 < (pr p).2) = false := decide_eq_false hn
            rw [hn', Bool.false_and, Bool.and_false, if_neg (by simp)]
    have hb : badAt i (pr p) pre.length ((q :: rest).map pr) = ((!decide (i = pre.length) && (decide ((pr p).2 ≤ (pr q).2 ∧ (pr p).1 ≤ (pr q).1 ∧ (pr q).1 ≤ (pr p).1 + sz (pr p).2 - 1) || (decide (0 < (pr p).2) && ((pr q).1 == sib (pr p).1 (pr p).2 && (pr q).2 == (pr p).2)))) || badAt i (pr p) (pre.length + 1) (rest.map pr)) := rfl
    generalize (!decide (i = pre.length) && (decide ((pr p).2 ≤ (pr q).2 ∧ (pr p).1 ≤ (pr q).1 ∧ (pr q).1 ≤ (pr p).1 + sz (pr p).2 - 1) || (decide (0 < (pr p).2) && ((pr q).1 == sib (pr p).1 (pr p).2 && (pr q).2 == (pr p).2)))) = B at one hb
    rw [hb]
    cases B with
    | true =>
      refine ⟨fun _ => Ev.step (f := fun _ => some false) (fun k => by rw [one]; simp) (Ev.now _), fun h => by simp at h⟩
    | false =>
      simp only [Bool.false_or]
      exact ⟨fun h => Ev.step (f := fun k => spec_GoodSet.l1 k l (i : Int) x10 x11 x12 l (l.length : Int) ((pre ++ [q]).length : Int) p.f0 p.f1) (fun k => by rw [one]; simp) (by rw [hlen]; exact ih1 h),
        fun h r hr => Ev.step (f := fun k => spec_GoodSet.l1 k l (i : Int) x10 x11 x12 l (l.length : Int) ((pre ++ [q]).length : Int) p.f0 p.f1) (fun k => by rw [one]; simp) (by rw [hlen]; exact ih2 h r hr)⟩
theorem spec_GoodSet_is (l : List S45) (hl : l.length ≤ 1048576) : Ev (fun k => spec_GoodSet.f k l) (goodSet (l.map pr)) := by
  have outer : (∀ p, p ∈ l → good p.f0 p.f1 = true) → ∀ (rest pre : List S45), l = pre ++ rest → Ev (fun k => spec_GoodSet.l0 k l l (l.length : Int) (pre.length : Int)) (outS (l.map pr) ((pre.map pr).getLast?) pre.length (rest.map pr)) := by
    intro hg rest
    induction rest with
    | nil =>
      intro pre e
      refine Ev.step (f := fun _ => some true) (fun k => ?_) (by simpa [outS] using Ev.now true)
      simp only [spec_GoodSet.l0]
      rw [if_neg (by rw [e]; simp)]
    | cons p rest ih =>
      intro pre e
      have hih := ih (pre ++ [p]) (by rw [e]; simp)
      rw [List.map_append, List.map_singleton, List.getLast?_concat] at hih
      have h1 : rd_T45 l (pre.length : Int) = p := by rw [e]; exact rdm_Prefix _ _ _
      have hw : wrap64 ((pre.length : Int) + 1) = ((pre ++ [p]).length : Int) := wrap_mid (rest := rest) (by rw [← e]; simp only [maxLen]; omega)
      have hlt : (pre.length : Int) < (l.length : Int) := by rw [e]; exact lt_mid _ _ _
      have hlen1 : (pre ++ [p]).length = pre.length + 1 := by simp
      rw [hlen1] at hw
      have hcast : ((pre.length + 1 : Nat) : Int) = ((pre ++ [p]).length : Int) := by simp
      refine Ev.step (f := fun k => spec_GoodSet.l1 k l (pre.length : Int) l (l.length : Int) (pre.length : Int) l (l.length : Int) 0 p.f0 p.f1) (fun k => ?_) ?_
      · simp only [spec_GoodSet.l0]
        rw [if_pos hlt, if_pos (len_nn _), if_pos hlt, h1]
      · simp only [List.map_cons, outS]
        rw [hlen1] at hih
        rcases snoc_cases pre with hpre | ⟨pre', q, hpre⟩
        · subst hpre
          obtain ⟨i1, i2⟩ := spec_GoodSet_in hl hg p (by rw [e]; simp) 0 l (l.length : Int) 0 (fun k => spec_GoodSet.l0 k l l (l.length : Int) 1) (fun k => by
            simp only [spec_GoodSet.l1]
            rw [if_neg (by omega), if_neg (by simp)]
            rw [show wrap64 (0 + 1) = 1 from wrap_id (by omega) (by omega)]) l [] rfl
          simp only [List.length_nil] at i1 i2
          simp only [List.map_nil, List.getLast?_nil, List.length_nil, Bool.and_true]
          cases hb : badAt 0 (pr p) 0 (l.map pr) with
          | true => simpa using i1 hb
          | false =>
            have := i2 hb _ hih
            simpa using this
        · subst hpre
          have h3 : rd_T45 l (pre'.length : Int) = q := by rw [e, List.append_assoc]; exact rdm_Prefix _ _ _
          have h2 : wrap64 (((pre' ++ [q]).length : Int) - 1) = (pre'.length : Int) := by
            have : (pre' ++ [q] ++ p :: rest).length ≤ 1048576 := by rw [← e]; exact hl
            simp at this
            rw [List.length_append, List.length_singleton, wrap_id (by omega) (by omega)]; omega
          have hlt2 : (pre'.length : Int) < (l.length : Int) := by rw [e, List.length_append, List.length_append, List.length_singleton]; omega
          obtain ⟨i1, i2⟩ := spec_GoodSet_in hl hg p (by rw [e]; simp) (pre' ++ [q]).length l (l.length : Int) ((pre' ++ [q]).length : Int) (fun k => (spec_l1Compare.f k q.f0 q.f1 p.f0 p.f1).bind fun t => if t ≥ 0 then some false else spec_GoodSet.l0 k l l (l.length : Int) (((pre' ++ [q]).length + 1 : Nat) : Int)) (fun k => by
            simp only [spec_GoodSet.l1]
            rw [if_neg (by omega), if_pos (by rw [List.length_append, List.length_singleton]; omega), h2, if_pos (len_nn _), if_pos hlt2, h3, hw]) l [] rfl
          simp only [List.length_nil] at i1 i2
          rw [List.map_append, List.map_singleton, List.getLast?_concat]
          cases hb : badAt (pre' ++ [q]).length (pr p) 0 (l.map pr) with
          | true => simpa using i1 hb
          | false =>
            obtain ⟨K, hK⟩ := hih
            have := i2 hb (decide (cmpP q.f0 q.f1 p.f0 p.f1 < 0) && outS (l.map pr) (some (pr p)) ((pre' ++ [q]).length + 1) (rest.map pr)) ⟨K + 1, fun k hk => by
              obtain ⟨k, rfl⟩ : ∃ m, k = m + 1 := ⟨k - 1, by omega⟩
              simp only []
              rw [spec_l1Compare_is, Option.bind_some]
              have hh := hK (k + 1) (by omega)
              simp only at hh
              by_cases hc : cmpP q.f0 q.f1 p.f0 p.f1 ≥ 0
              · rw [if_pos hc]
                have : ¬ cmpP q.f0 q.f1 p.f0 p.f1 < 0 := by omega
                simp [this]
              · rw [if_neg hc]
                have : cmpP q.f0 q.f1 p.f0 p.f1 < 0 := by omega
                simp only [this, decide_true, Bool.true_and]
                rw [hcast] at hh ⊢
                exact hh⟩
            show Ev _ ((!false && decide (cmpP (pr q).1 (pr q).2 (pr p).1 (pr p).2 < 0)) && outS (l.map pr) (some (pr p)) ((pre' ++ [q]).length + 1) (rest.map pr))
            rw [Bool.not_false, Bool.true_and]
            exact this
  have hsame := out_same (l.map pr) (l.map pr) none 0
  unfold goodSet rising
  rw [List.length_map, Bool.and_assoc, ← hsame, ← Bool.and_assoc]
  cases hg3 : (decide (l.length ≤ 64) && (l.map pr).all (fun p => good p.1 p.2)) with
  | false =>
    refine ⟨l.length + 1, fun k hk => ?_⟩
    simp only [spec_GoodSet.f]
    rw [spec_l3Good_is k l hl (by omega), hg3]; simp
  | true =>
    have hg : ∀ p, p ∈ l → good p.f0 p.f1 = true := fun p hp => by
      simp only [Bool.and_eq_true] at hg3
      exact List.all_eq_true.1 hg3.2 (pr p) (List.mem_map.2 ⟨p, hp, rfl⟩)
    obtain ⟨K, hK⟩ := outer hg l [] rfl
    refine ⟨K + l.length + 1, fun k hk => ?_⟩
    simp only [spec_GoodSet.f]
    rw [spec_l3Good_is k l hl (by omega), hg3]
    have := hK k (by omega)
    simpa using this

end FnExactGoodSetUses
open Go.RowKit Go.Proofs.Ytabejlfejlpkeaa.PFnExactGoodSet Go.Proofs.YtabejlfejlpkeaaW.PrintWords Go.Proofs.YtabejlfejlpkeaaW.PrintLast Go.Proofs.YtabejlfejlpkeaaW.PrintMore Go.Proofs.Ytabejlfejlpkeaa.Pfx Go.Proofs.Ytabejlfejlpkeaa.Loop Go.Proofs.Ytabejlfejlpkeaa.Tbl FnExactGoodSetUses
set_option linter.unusedVariables false
theorem FnExactGoodSet (l0 : List S43) (m0 : l0.length ≤ maxLen) (w0 : ∀ a, a ∈ l0 → ((Lit.int .i64 a.f0).wf = true ∧ (Lit.int .i64 a.f1).wf = true)) : ∃ k, laws_FnExactGoodSet.f k l0 = some true := by
  obtain ⟨r, hr, hb⟩ := laws_szPrefixS_is l0 m0
  by_cases h : r < 0
  · exact ⟨0, by unfold laws_FnExactGoodSet.f; rw [hr, Option.bind_some, if_pos h]⟩
  · have hl := hb h
    obtain ⟨K1, h1⟩ := spec_GoodSet_is (l0.map fun p => (⟨p.f0, p.f1⟩ : S45)) (by simpa using hl)
    obtain ⟨K2, h2⟩ := impl_GoodSet_is (l0.map fun p => (⟨p.f0, p.f1⟩ : S45)) (by simpa using hl)
    replace h1 : ∀ k, K1 ≤ k → spec_GoodSet.f k _ = _ := h1
    replace h2 : ∀ k, K2 ≤ k → impl_GoodSet.f k _ = _ := h2
    refine ⟨K1 + K2 + l0.length + 1, ?_⟩
    unfold laws_FnExactGoodSet.f
    rw [hr, Option.bind_some, if_neg h, laws_toPrefixS_is _ l0 hl (by omega)]
    simp only [Option.bind_some]
    rw [h1 _ (by omega), h2 _ (by omega)]
    simp only [Option.bind_some, bne_self_eq_false]
    rw [laws_eqPrefixS_refl _ _ (by simp only [maxLen, List.length_map]; omega) (by simp; omega)]
    simp
end Go.Proofs.Ytabejlfejlpkeaa.Pure
