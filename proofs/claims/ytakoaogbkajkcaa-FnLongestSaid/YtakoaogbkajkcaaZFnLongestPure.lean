/- The pure statement of FnLongest: what the printed functions tell is what the reference tells. No condition but the arguments' own bounds. -/
import Derived.Test.YtakoaogbkajkcaaYFnLongestx24
import Derived.Test.YtakoaogbkajkcaaQFnLongest
namespace Go.Proofs.Ytakoaogbkajkcaa.Pure
namespace FnLongestUses
open Go.RowKit Go.Proofs.Ytakoaogbkajkcaa.PFnLongest Go.Proofs.YtakoaogbkajkcaaW.PrintWords Go.Proofs.YtakoaogbkajkcaaW.PrintLast Go.Proofs.YtakoaogbkajkcaaW.PrintMore Go.Proofs.Ytakoaogbkajkcaa.Pfx Go.Proofs.Ytakoaogbkajkcaa.Loop Go.Proofs.Ytakoaogbkajkcaa.Tbl
open Option renaming bind_some → kz
open List renaming length_singleton → kq, length_set → ky, replicate → kv, length_append → kh, countP_cons → kg, length_cons → ke, mem_cons → kb, mem_singleton → kd, mem_append → kc, map_singleton → kx, map_append → ks, pairwise_cons → kt
open Int renaming dvd_of_emod_eq_zero → kj, mul_le_mul_of_nonneg_left → kk, le_refl → kf, eq_ofNat_of_zero_le → ko, tmod_eq_emod_of_nonneg → km, mul_add → kr, mul_assoc → kl
open Bool renaming and_eq_true → ku, true_and → kp, false_or → kn, true → ki, false → kw
set_option linter.unusedVariables false
set_option linter.unusedSimpArgs false

theorem spec_l1In_is (a lo hi : Int) : spec_l1In.f a lo hi = some (decide (lo ≤ a ∧ a ≤ hi)) := by
  unfold spec_l1In.f
  by_cases h : lo ≤ a
  · rw [if_pos h]; simp [h]
  · rw [if_neg h]; simp [h]
theorem impl_within_is (a lo hi : Int) : impl_within.f a lo hi = some (decide (lo ≤ a ∧ a ≤ hi)) := by
  unfold impl_within.f
  by_cases h : lo ≤ a
  · rw [if_pos h]; simp [h]
  · rw [if_neg h]; simp [h]
theorem spec_l1Addr_is (a : Int) : spec_l1Addr.f a = some (decide (0 ≤ a ∧ a ≤ 4294967295)) := by
  unfold spec_l1Addr.f; rw [spec_l1In_is]; rfl
theorem impl_isAddr_is (a : Int) : impl_isAddr.f a = some (decide (0 ≤ a ∧ a ≤ 4294967295)) := by
  unfold impl_isAddr.f; rw [impl_within_is]; rfl
theorem impl_sizeOf_is {n : Int} (h0 : 0 ≤ n) (h1 : n ≤ 32) : impl_sizeOf.f n = some (sz n) := by
  unfold impl_sizeOf.f
  rw [shl_sz h0 h1, if_pos (by rw [wrap_id (by omega) (by omega)]; omega)]
theorem spec_l1Size_is (a : Int) {n : Int} (h0 : 0 ≤ n) (h1 : n ≤ 32) : spec_l1Size.f a n = some (sz n) := by
  unfold spec_l1Size.f
  have e : IntKind.u64.wrap (wrap64 (32 - n)) = wrap64 (32 - n) := by rw [wrap_id (by omega) (by omega), u64_id (by omega) (by omega)]
  rw [e, shl_sz h0 h1, if_pos (by rw [wrap_id (by omega) (by omega)]; omega)]
theorem impl_GoodPrefix_is (a n : Int) : impl_GoodPrefix.f a n = some (good a n) := by
  unfold impl_GoodPrefix.f
  rw [impl_within_is, kz]
  by_cases h : 0 ≤ n ∧ n ≤ 32
  · rw [if_pos (decide_eq_true h), impl_isAddr_is, kz]
    by_cases h' : 0 ≤ a ∧ a ≤ 4294967295
    · rw [if_pos (decide_eq_true h'), impl_sizeOf_is h.1 h.2, kz, if_neg (by have := sz_pos n; omega), km h'.1]
      simp [good, h.1, h.2, h'.1, h'.2, beq_dec]
    · rw [if_neg (by simpa using h')]
      have : good a n = false := by simp [good]; omega
      rw [this]
  · rw [if_neg (by simpa using h)]
    have : good a n = false := by simp [good]; omega
    rw [this]
theorem spec_GoodPrefix_is (a n : Int) : spec_GoodPrefix.f a n = some (good a n) := by
  unfold spec_GoodPrefix.f
  rw [spec_l1In_is, kz]
  by_cases h : 0 ≤ n ∧ n ≤ 32
  · rw [if_pos (decide_eq_true h), spec_l1Addr_is, kz]
    by_cases h' : 0 ≤ a ∧ a ≤ 4294967295
    · rw [if_pos (decide_eq_true h'), spec_l1Size_is a h.1 h.2, kz, if_neg (by have := sz_pos n; omega), km h'.1]
      simp [good, h.1, h.2, h'.1, h'.2, beq_dec]
    · rw [if_neg (by simpa using h')]
      have : good a n = false := by simp [good]; omega
      rw [this]
  · rw [if_neg (by simpa using h)]
    have : good a n = false := by simp [good]; omega
    rw [this]
theorem impl_Prefix_end_is {a n : Int} (h : good a n = true) : impl_Prefix_end.f a n = some (a + sz n - 1) := by
  obtain ⟨h0, h1, h2, h3, h4⟩ := good_iff.1 h
  have := sz_pos n
  have := sz_le h0
  unfold impl_Prefix_end.f
  rw [impl_sizeOf_is h0 h1, kz, wrap_id (x := a + sz n) (by omega) (by omega), wrap_id (by omega) (by omega)]
theorem impl_Prefix_has_is {a n : Int} (x : Int) (h : good a n = true) : impl_Prefix_has.f a n x = some (decide (a ≤ x ∧ x ≤ a + sz n - 1)) := by
  unfold impl_Prefix_has.f
  rw [impl_Prefix_end_is h, kz, impl_within_is]; rfl
theorem spec_l1HasAddr_is {a n x : Int} (h : good a n = true) (h5 : 0 ≤ x) (h6 : x ≤ 4294967295) : spec_l1HasAddr.f a n x = some (decide (a ≤ x ∧ x ≤ a + sz n - 1)) := by
  obtain ⟨h0, h1, h2, h3, h4⟩ := good_iff.1 h
  have hs := sz_pos n
  have h7 := Int.emod_nonneg x (show sz n ≠ 0 by omega)
  have h8 := Int.emod_lt_of_pos x (show 0 < sz n by omega)
  have h9 := sz_le h0
  unfold spec_l1HasAddr.f
  rw [spec_l1Size_is a h0 h1, kz, if_neg (by omega), km h5, wrap_id (by omega) (by omega), beq_dec]
  congr 1
  exact decide_eq_decide.2 (in_row (by omega) h4)
theorem impl_Prefix_halves_is {a n : Int} (h0 : 0 ≤ n) (h1 : n < 32) (h2 : 0 ≤ a) (h3 : a ≤ 4294967295) : impl_Prefix_halves.f a n = some (a, n + 1, a + sz (n + 1), n + 1) := by
  have hs := sz_pos (n + 1)
  have h9 := sz_le (n := n + 1) (by omega)
  unfold impl_Prefix_halves.f
  rw [wrap_id (x := n + 1) (by omega) (by omega), impl_sizeOf_is (by omega) (by omega), kz, wrap_id (by omega) (by omega)]
theorem cmp_isNaN_int_is (a : Int) : cmp_isNaN_int.f a = some false := by unfold cmp_isNaN_int.f; simp
theorem cmp_Compare_int_is (a b : Int) : cmp_Compare_int.f a b = some (if a < b then -1 else if a > b then 1 else 0) := by
  unfold cmp_Compare_int.f
  simp only [cmp_isNaN_int_is, kz, Bool.false_eq_true, if_false]
  by_cases h1 : a < b
  · simp [h1]
  · by_cases h2 : a > b
    · simp [h1, h2]
    · simp [h1, h2]
theorem impl_compare_is (k : Nat) (a n b m : Int) : impl_compare.f (k + 3) a n b m = some (cmpP a n b m) := by
  unfold impl_compare.f cmp_Or_int.f
  rw [cmp_Compare_int_is, kz, cmp_Compare_int_is, kz]
  have w1 : wrap64 (0 + 1) = 1 := wrap_id (by omega) (by omega)
  have w2 : wrap64 (1 + 1) = 2 := wrap_id (by omega) (by omega)
  simp only [cmp_Or_int.l0, rd, ke, List.length_nil, w1, w2]
  unfold cmpP
  by_cases h1 : a < b
  · simp [h1]
  · by_cases h2 : b < a
    · have : ¬ a = b := by omega
      simp [h1, h2, this]
    · obtain rfl : a = b := by omega
      by_cases h3 : n < m
      · simp [h3]
      · by_cases h4 : m < n
        · have : ¬ n = m := by omega
          simp [h3, h4, this]
        · obtain rfl : n = m := by omega
          simp
theorem spec_l1Compare_is (k : Nat) (a n b m : Int) : spec_l1Compare.f (k + 1) a n b m = some (cmpP a n b m) := by
  unfold spec_l1Compare.f cmpP
  simp only [spec_l1Compare.j0]
  by_cases h1 : a < b
  · simp [h1]
  · by_cases h2 : a = b
    · subst h2
      by_cases h3 : n < m
      · simp [h3]
      · by_cases h4 : n = m
        · subst h4; simp
        · simp [h3, h4]
    · simp [h1, h2]
theorem impl_HasAddr_is (a n x : Int) : impl_HasAddr.f a n x = some (hasAddr a n x) := by
  unfold impl_HasAddr.f hasAddr
  rw [impl_GoodPrefix_is, kz]
  by_cases h : good a n = true
  · rw [if_pos h, impl_isAddr_is, kz]
    by_cases h' : 0 ≤ x ∧ x ≤ 4294967295
    · rw [if_pos (decide_eq_true h'), impl_Prefix_has_is x h, if_pos ⟨h, h'⟩]; rfl
    · rw [if_neg (by simpa using h'), if_neg (fun hh => h' hh.2)]
  · rw [if_neg h, if_neg (fun hh => h hh.1)]
theorem rdm_Prefix (pre : List S37) (a : S37) (rest : List S37) : rd_T37 (pre ++ a :: rest) (pre.length : Int) = a := by unfold rd_T37; simp
def pr (p : S37) : Pr := (p.f0, p.f1)
theorem rdm_Entry (pre : List S39) (a : S39) (rest : List S39) : rd_T39 (pre ++ a :: rest) (pre.length : Int) = a := by unfold rd_T39; simp
theorem impl_areRising_is (k : Nat) (l : List S37) (hl : l.length ≤ 1048576) (hk : l.length + 4 < k) : impl_areRising.f k l = some (rising (l.map pr)) := by
  unfold impl_areRising.f
  have key : ∀ (rest pre : List S37) (k : Nat), l = pre ++ rest → rest.length + 4 < k →
      impl_areRising.l0 k l l (l.length : Int) (pre.length : Int) = some (risingFrom ((pre.map pr).getLast?) (rest.map pr)) := by
    intro rest
    induction rest with
    | nil =>
      intro pre k e hk
      obtain ⟨k, rfl⟩ : ∃ m, k = m + 1 := ⟨k - 1, by omega⟩
      simp only [impl_areRising.l0]
      rw [if_neg (by rw [e]; simp)]
      simp [risingFrom]
    | cons a rest ih =>
      intro pre k e hk
      obtain ⟨k, rfl⟩ : ∃ m, k = m + 1 := ⟨k - 1, by omega⟩
      have h1 : rd_T37 l (pre.length : Int) = a := by rw [e]; exact rdm_Prefix _ _ _
      have hih := ih (pre ++ [a]) k (by rw [e]; simp) (by simp at hk; omega)
      rw [ks, kx, List.getLast?_concat] at hih
      simp only [impl_areRising.l0]
      rw [if_pos (by rw [e]; exact lt_mid _ _ _), if_pos (len_nn _), if_pos (by rw [e]; exact lt_mid _ _ _), h1, impl_GoodPrefix_is, kz, wrap_mid (rest := rest) (by rw [← e]; simp only [maxLen]; omega)]
      simp only [List.map_cons, risingFrom]
      by_cases hg : good a.f0 a.f1 = true
      · rw [if_pos hg]
        rcases snoc_cases pre with rfl | ⟨pre', q, rfl⟩
        · rw [if_neg (by simp)]
          simp only [List.nil_append, kq] at hih
          rw [show (([] : List S37) ++ [a]).length = 1 from rfl, hih]
          simp [pr, hg]
        · have h2 : wrap64 (((pre' ++ [q]).length : Int) - 1) = (pre'.length : Int) := by
            have : (pre' ++ [q] ++ a :: rest).length ≤ 1048576 := by rw [← e]; exact hl
            simp at this
            rw [kh, kq, wrap_id (by omega) (by omega)]; omega
          have h3 : rd_T37 l (pre'.length : Int) = q := by rw [e, List.append_assoc]; exact rdm_Prefix _ _ _
          obtain ⟨k', rfl⟩ : ∃ m, k = m + 3 := ⟨k - 3, by simp at hk; omega⟩
          rw [if_pos (by rw [kh, kq]; omega), h2, if_pos (len_nn _), if_pos (by rw [e, kh, kh, kq]; omega), h3, impl_compare_is, kz, hih, ks, kx, List.getLast?_concat]
          by_cases hc : cmpP q.f0 q.f1 a.f0 a.f1 ≥ 0
          · rw [if_pos hc]
            have : ¬ cmpP q.f0 q.f1 a.f0 a.f1 < 0 := by omega
            simp [pr, this]
          · rw [if_neg hc]
            have : cmpP q.f0 q.f1 a.f0 a.f1 < 0 := by omega
            simp [pr, hg, this]
      · rw [if_neg hg]
        simp [pr, hg]
  exact key l [] k rfl hk
theorem impl_isValue_is (a : Int) : impl_isValue.f a = some (isVal a) := by
  unfold impl_isValue.f; rw [impl_within_is]; rfl
theorem spec_l2Value_is (a : Int) : spec_l2Value.f a = some (isVal a) := by
  unfold spec_l2Value.f; rw [spec_l1In_is]; rfl
theorem impl_prefixesOf_is (k : Nat) (l : List S39) (hl : l.length ≤ 1048576) (hk : l.length < k) : impl_prefixesOf.f k l = some (l.map fun x => (⟨x.f0.f0, x.f0.f1⟩ : S37)) := by
  unfold impl_prefixesOf.f
  have key : ∀ (rest pre : List S39) (k : Nat), l = pre ++ rest → rest.length < k →
      impl_prefixesOf.l0 k (pre.map fun x => (⟨x.f0.f0, x.f0.f1⟩ : S37)) l (l.length : Int) (pre.length : Int) = some (l.map fun x => (⟨x.f0.f0, x.f0.f1⟩ : S37)) := by
    intro rest
    induction rest with
    | nil =>
      intro pre k e hk
      obtain ⟨k, rfl⟩ : ∃ m, k = m + 1 := ⟨k - 1, by omega⟩
      simp only [impl_prefixesOf.l0]
      rw [if_neg (by rw [e]; simp)]
      simp [e]
    | cons a rest ih =>
      intro pre k e hk
      obtain ⟨k, rfl⟩ : ∃ m, k = m + 1 := ⟨k - 1, by omega⟩
      have h1 : rd_T39 l (pre.length : Int) = a := by rw [e]; exact rdm_Entry _ _ _
      have hlen : pre.length < 8796093022208 := by
        have : (pre ++ a :: rest).length ≤ 1048576 := by rw [← e]; exact hl
        simp at this; omega
      have hih := ih (pre ++ [a]) k (by rw [e]; simp) (by simp at hk; omega)
      rw [ks, kx] at hih
      simp only [impl_prefixesOf.l0]
      rw [if_pos (by rw [e]; exact lt_mid _ _ _), if_pos (len_nn _), if_pos (by rw [e]; exact lt_mid _ _ _), if_pos (by simpa using hlen), h1, wrap_mid (rest := rest) (by rw [← e]; simp only [maxLen]; omega)]
      exact hih
  exact key l [] k rfl hk
theorem impl_GoodTable_1_is (a n v : Int) : impl_GoodTable_1.f a n v = some (!isVal v) := by
  unfold impl_GoodTable_1.f; rw [impl_isValue_is]; rfl
def ent (e : S39) : Pr := (e.f0.f0, e.f0.f1)
def goodTable (l : List S39) : Bool := decide (l.length ≤ 30) && rising (l.map ent) && l.all (fun e => isVal e.f1)
theorem impl_GoodTable_any (k : Nat) (l : List S39) (hl : l.length ≤ 1048576) (hk : l.length < k) : slices_ContainsFunc_impl_Entry_impl_Entry.f k l = some (l.any fun e => !isVal e.f1) := by
  unfold slices_ContainsFunc_impl_Entry_impl_Entry.f slices_IndexFunc_impl_Entry_impl_Entry.f
  have key : ∀ (rest pre : List S39) (k : Nat), l = pre ++ rest → rest.length < k →
      ∃ r : Int, slices_IndexFunc_impl_Entry_impl_Entry.l0 k l (l.length : Int) (pre.length : Int) = some r ∧ (0 ≤ r ↔ (rest.any fun e => !isVal e.f1) = true) := by
    intro rest
    induction rest with
    | nil =>
      intro pre k e hk
      obtain ⟨k, rfl⟩ : ∃ m, k = m + 1 := ⟨k - 1, by omega⟩
      refine ⟨-1, ?_, by simp⟩
      simp only [slices_IndexFunc_impl_Entry_impl_Entry.l0]
      rw [if_neg (by rw [e]; simp)]
    | cons a rest ih =>
      intro pre k e hk
      obtain ⟨k, rfl⟩ : ∃ m, k = m + 1 := ⟨k - 1, by omega⟩
      have h1 : rd_T39 l (pre.length : Int) = a := by rw [e]; exact rdm_Entry _ _ _
      simp only [slices_IndexFunc_impl_Entry_impl_Entry.l0]
      rw [if_pos (by rw [e]; exact lt_mid _ _ _), if_pos (len_nn _), if_pos (by rw [e]; exact lt_mid _ _ _), h1, impl_GoodTable_1_is, kz, wrap_mid (rest := rest) (by rw [← e]; simp only [maxLen]; omega)]
      by_cases hv : (!isVal a.f1) = true
      · rw [if_pos hv]
        exact ⟨_, rfl, by simp [hv]⟩
      · rw [if_neg hv]
        obtain ⟨r, hr, hi⟩ := ih (pre ++ [a]) k (by rw [e]; simp) (by simp at hk; omega)
        refine ⟨r, hr, ?_⟩
        rw [hi]; simp [hv]
  obtain ⟨r, hr, hi⟩ := key l [] k rfl hk
  have hr' : slices_IndexFunc_impl_Entry_impl_Entry.l0 k l (l.length : Int) 0 = some r := hr
  rw [hr', kz]
  congr 1
  by_cases h : 0 ≤ r
  · rw [hi.1 h]; simp [h]
  · have : (l.any fun e => !isVal e.f1) = false := by
      cases hb : (l.any fun e => !isVal e.f1) with
      | false => rfl
      | true => exact absurd (hi.2 hb) h
    rw [this]; simp; omega
theorem impl_GoodTable_is (k : Nat) (l : List S39) (hl : l.length ≤ 1048576) (hk : l.length + 4 < k) : impl_GoodTable.f k l = some (goodTable l) := by
  unfold impl_GoodTable.f goodTable
  by_cases h : (l.length : Int) ≤ 30
  · rw [if_pos h, impl_prefixesOf_is k l hl (by omega), kz, impl_areRising_is k _ (by simpa using hl) (by simpa using hk), kz]
    have he : ((l.map fun x => (⟨x.f0.f0, x.f0.f1⟩ : S37)).map pr) = l.map ent := by rw [List.map_map]; rfl
    rw [he]
    have h30 : l.length ≤ 30 := by omega
    by_cases hr : rising (l.map ent) = true
    · rw [if_pos hr, impl_GoodTable_any k l hl (by omega), kz]
      simp only [h30, decide_true, hr, kp, List.not_any_eq_all_not, Bool.not_not]
    · rw [if_neg hr]
      simp [hr]
  · rw [if_neg h]
    have h30 : ¬ l.length ≤ 30 := by omega
    simp [h30]
theorem spec_GoodTable_is (k : Nat) (l : List S39) (hl : l.length ≤ 1048576) (hk : l.length + 2 < k) : spec_GoodTable.f k l = some (goodTable l) := by
  unfold spec_GoodTable.f
  have key : ∀ (rest pre : List S39) (k : Nat), l = pre ++ rest → rest.length + 2 < k →
      spec_GoodTable.l0 k l l (l.length : Int) (pre.length : Int) = some (decide (l.length ≤ 30) && risingFrom ((pre.map ent).getLast?) (rest.map ent) && rest.all (fun e => isVal e.f1)) := by
    intro rest
    induction rest with
    | nil =>
      intro pre k e hk
      obtain ⟨k, rfl⟩ : ∃ m, k = m + 1 := ⟨k - 1, by omega⟩
      simp only [spec_GoodTable.l0]
      rw [if_neg (by rw [e]; simp)]
      have : ((l.length : Int) ≤ 30) ↔ l.length ≤ 30 := by omega
      simp [risingFrom, this]
    | cons a rest ih =>
      intro pre k e hk
      obtain ⟨k, rfl⟩ : ∃ m, k = m + 1 := ⟨k - 1, by omega⟩
      have h1 : rd_T39 l (pre.length : Int) = a := by rw [e]; exact rdm_Entry _ _ _
      have hih := ih (pre ++ [a]) k (by rw [e]; simp) (by simp at hk; omega)
      rw [ks, kx, List.getLast?_concat] at hih
      simp only [spec_GoodTable.l0]
      rw [if_pos (by rw [e]; exact lt_mid _ _ _), if_pos (len_nn _), if_pos (by rw [e]; exact lt_mid _ _ _), h1, spec_GoodPrefix_is, kz, spec_l2Value_is, kz, wrap_mid (rest := rest) (by rw [← e]; simp only [maxLen]; omega)]
      simp only [List.map_cons, risingFrom, List.all_cons]
      by_cases hg : good a.f0.f0 a.f0.f1 = true
      · rw [if_pos hg]
        by_cases hv : isVal a.f1 = true
        · rw [if_pos hv]
          rcases snoc_cases pre with rfl | ⟨pre', q, rfl⟩
          · rw [if_neg (by simp)]
            simp only [List.nil_append, kq] at hih
            rw [show (([] : List S39) ++ [a]).length = 1 from rfl, hih]
            simp [ent, hg, hv]
          · have h2 : wrap64 (((pre' ++ [q]).length : Int) - 1) = (pre'.length : Int) := by
              have : (pre' ++ [q] ++ a :: rest).length ≤ 1048576 := by rw [← e]; exact hl
              simp at this
              rw [kh, kq, wrap_id (by omega) (by omega)]; omega
            have h3 : rd_T39 l (pre'.length : Int) = q := by rw [e, List.append_assoc]; exact rdm_Entry _ _ _
            obtain ⟨k', rfl⟩ : ∃ m, k = m + 1 := ⟨k - 1, by simp at hk; omega⟩
            rw [if_pos (by rw [kh, kq]; omega), h2, if_pos (len_nn _), if_pos (by rw [e, kh, kh, kq]; omega), h3, spec_l1Compare_is, kz, hih, ks, kx, List.getLast?_concat]
            by_cases hc : cmpP q.f0.f0 q.f0.f1 a.f0.f0 a.f0.f1 ≥ 0
            · rw [if_pos hc]
              have : ¬ cmpP q.f0.f0 q.f0.f1 a.f0.f0 a.f0.f1 < 0 := by omega
              simp [ent, this]
            · rw [if_neg hc]
              have : cmpP q.f0.f0 q.f0.f1 a.f0.f0 a.f0.f1 < 0 := by omega
              simp [ent, hg, hv, this]
        · rw [if_neg hv]
          simp [hv]
      · rw [if_neg hg]
        simp [ent, hg]
  exact key l [] k rfl hk
theorem goodTable_good {l : List S39} (h : goodTable l = true) : ∀ e, e ∈ l → good e.f0.f0 e.f0.f1 = true := by
  intro e he
  unfold goodTable at h
  simp only [ku] at h
  exact rising_good h.1.2 (ent e) (List.mem_map.2 ⟨e, he, rfl⟩)
theorem rd_mem_Entry {l : List S39} {i : Int} (h0 : 0 ≤ i) (h1 : i < (l.length : Int)) : rd_T39 l i ∈ l := by
  unfold rd_T39
  have : i.toNat < l.length := by omega
  rw [List.getD_eq_getElem?_getD, List.getElem?_eq_getElem this]
  exact List.getElem_mem this
theorem longest_same (l : List S39) (x : Int) (hg : ∀ e, e ∈ l → good e.f0.f0 e.f0.f1 = true) (hx : 0 ≤ x ∧ x ≤ 4294967295) : ∀ (k : Nat) (b i : Int), impl_LongestIn.l0 k l x b l (l.length : Int) i = spec_l2Longest.l0 k l x b l (l.length : Int) i
  | 0, _, _ => rfl
  | k + 1, b, i => by
    simp only [impl_LongestIn.l0, spec_l2Longest.l0]
    by_cases h1 : i < (l.length : Int)
    · rw [if_pos h1, if_pos h1]
      by_cases h2 : 0 ≤ i
      · have hm := hg _ (rd_mem_Entry h2 h1)
        rw [if_pos h2, if_pos h2, if_pos h1, if_pos h1, impl_Prefix_has_is x hm, spec_l1HasAddr_is hm hx.1 hx.2]
        simp only [longest_same l x hg hx k]
      · simp only [if_neg h2, if_pos h1]
    · rw [if_neg h1, if_neg h1]
theorem slices_Repeat_one (a n : Int) (h0 : 0 ≤ n) (h1 : n ≤ 17592186044416) : slices_Repeat_int_int.f [a] n = some (kv n.toNat a) := by
  unfold slices_Repeat_int_int.f
  dsimp only
  rw [if_pos h0, if_pos h1]
theorem rdm_Node (pre : List S86) (a : S86) (rest : List S86) : rd_T86 (pre ++ a :: rest) (pre.length : Int) = a := by unfold rd_T86; simp
def tput (n i : Int) (D : List Int) (x : Int) : Option (List Int) := if x = 0 then some D else if i + 1 ≤ x ∧ x ≤ n - 1 ∧ rd D x < 0 then some (D.set x.toNat (rd D i + 1)) else none
def nodeOk (i : Int) (a : S86) : Bool := isVal a.f3 && (a.f2 || (a.f3 == 0 && !(decide (0 < i) && (a.f0 == 0 && a.f1 == 0))))
def trieOk (n : Int) : List S86 → Int → List Int → Int → Bool
  | [], _, _, c => decide (c ≤ 30)
  | a :: t, i, D, c => if rd D i < 0 ∨ rd D i > 32 then false else if nodeOk i a = true then
      (match (tput n i D a.f0).bind (fun D => tput n i D a.f1) with
      | none => false
      | some D' => trieOk n t (i + 1) D' (if a.f2 = true then c + 1 else c)) else false
def goodTrie (l : List S86) : Bool := if 1 ≤ (l.length : Int) ∧ (l.length : Int) ≤ 2000 then trieOk l.length l 0 ((kv l.length (-1 : Int)).set 0 0) 0 else false
theorem rd_set_ne {D : List Int} {x y : Int} {v : Int} (hx : 0 ≤ x) (hy : 0 ≤ y) (h : x ≠ y) : rd (D.set x.toNat v) y = rd D y := by
  unfold rd
  have : x.toNat ≠ y.toNat := by omega
  simp only [List.getD_eq_getElem?_getD, List.getElem?_set_ne this]
theorem rd_set_eq {D : List Int} {x : Int} {v : Int} (hx : 0 ≤ x) (h : x < (D.length : Int)) : rd (D.set x.toNat v) x = v := by
  unfold rd
  have : x.toNat < D.length := by omega
  simp [List.getD_eq_getElem?_getD, List.getElem?_set, this]
def DepB (D : List Int) : Prop := ∀ j : Int, 0 ≤ j → -1 ≤ rd D j ∧ rd D j ≤ 33
theorem tput_ok {n i : Int} {D D' : List Int} {x : Int} (h : tput n i D x = some D') (hi : 0 ≤ i) (hb : DepB D) (hd : rd D i ≤ 32) (hn : (D.length : Int) = n) : D'.length = D.length ∧ DepB D' ∧ rd D' i = rd D i ∧ (∀ j, 0 ≤ j → 0 ≤ rd D j → rd D' j = rd D j) := by
  unfold tput at h
  by_cases h0 : x = 0
  · rw [if_pos h0] at h; cases h; exact ⟨rfl, hb, rfl, fun _ _ _ => rfl⟩
  · rw [if_neg h0] at h
    by_cases h1 : i + 1 ≤ x ∧ x ≤ n - 1 ∧ rd D x < 0
    · rw [if_pos h1] at h
      cases h
      refine ⟨ky .., fun j hj => ?_, rd_set_ne (by omega) hi (by omega), fun j hj hd2 => rd_set_ne (by omega) hj (fun e => by subst e; omega)⟩
      by_cases e : x = j
      · subst e
        rw [rd_set_eq hj (by omega)]
        have := hb i hi
        omega
      · rw [rd_set_ne (by omega) hj e]; exact hb j hj
    · rw [if_neg h1] at h; cases h
theorem impl_trie_child {l : List S86} {D L : List Int} {c i : Int} {r : Bool} (hn : (l.length : Int) ≤ 2000) (hD : D.length = l.length) (hb : DepB D) (hi : 0 ≤ i) (hi2 : i < (l.length : Int)) (hd : 0 ≤ rd D i ∧ rd D i ≤ 32)
    (q : Nat) (hL : L.length = 2) (hq : q < 2)
    (h : match tput (l.length : Int) i D (rd L q) with | none => r = false | some D' => Ev (fun k => impl_GoodTrie.l1 k l D' c i l (l.length : Int) i L 2 ((q + 1 : Nat) : Int)) r) :
    Ev (fun k => impl_GoodTrie.l1 k l D c i l (l.length : Int) i L 2 (q : Int)) r := by
  have hw : wrap64 ((q : Int) + 1) = ((q + 1 : Nat) : Int) := by rw [wrap_id (by omega) (by omega)]; omega
  have hw1 : wrap64 (i + 1) = i + 1 := wrap_id (by omega) (by omega)
  have hw2 : wrap64 ((l.length : Int) - 1) = (l.length : Int) - 1 := wrap_id (by omega) (by omega)
  have hw3 : wrap64 (rd D i + 1) = rd D i + 1 := wrap_id (by omega) (by omega)
  unfold tput at h
  by_cases h0 : rd L q = 0
  · rw [if_pos h0] at h
    refine Ev.step (fun k => ?_) h
    rw [impl_GoodTrie.l1, if_pos (by omega), if_pos (by omega), if_pos (by rw [hL]; omega), if_pos h0, hw]
  · rw [if_neg h0] at h
    by_cases h1 : i + 1 ≤ rd L q ∧ rd L q ≤ (l.length : Int) - 1
    · by_cases h2 : rd D (rd L q) < 0
      · rw [if_pos ⟨h1.1, h1.2, h2⟩] at h
        refine Ev.step (fun k => ?_) h
        rw [impl_GoodTrie.l1, if_pos (by omega), if_pos (by omega), if_pos (by rw [hL]; omega), if_neg h0, impl_within_is, kz, hw1, hw2, if_pos (decide_eq_true h1), if_pos (by omega), if_pos (by rw [hD]; omega), if_neg (by omega), if_pos hi, if_pos (by rw [hD]; omega), hw, hw3]
      · rw [if_neg (fun h' => h2 h'.2.2)] at h
        subst h
        refine Ev.step (fun k => ?_) (Ev.now _)
        rw [impl_GoodTrie.l1, if_pos (by omega), if_pos (by omega), if_pos (by rw [hL]; omega), if_neg h0, impl_within_is, kz, hw1, hw2, if_pos (decide_eq_true h1), if_pos (by omega), if_pos (by rw [hD]; omega), if_pos (by omega)]
    · rw [if_neg (fun h' => h1 ⟨h'.1, h'.2.1⟩)] at h
      subst h
      refine Ev.step (fun k => ?_) (Ev.now _)
      rw [impl_GoodTrie.l1, if_pos (by omega), if_pos (by omega), if_pos (by rw [hL]; omega), if_neg h0, impl_within_is, kz, hw1, hw2, if_neg (by simpa using h1)]
theorem impl_trie_l0 {l : List S86} (hn : (l.length : Int) ≤ 2000) : ∀ (rest pre : List S86) (D : List Int) (c : Int), l = pre ++ rest → D.length = l.length → DepB D → 0 ≤ c → c ≤ pre.length →
    Ev (fun k => impl_GoodTrie.l0 k l D c l (l.length : Int) (pre.length : Int)) (trieOk l.length rest pre.length D c)
  | [], pre, D, c, e, hD, hb, c0, c1 => by
    refine Ev.step (fun k => ?_) (Ev.now _)
    rw [impl_GoodTrie.l0, if_neg (by rw [e]; simp), trieOk]
  | a :: rest, pre, D, c, e, hD, hb, c0, c1 => by
    have hlen : (l.length : Int) = pre.length + (rest.length + 1) := by rw [e]; simp
    have h1 : rd_T86 l (pre.length : Int) = a := by rw [e]; exact rdm_Node _ _ _
    have hbi := hb (pre.length : Int) (by omega)
    have step : ∀ bad : Bool, (bad = (decide (rd D (pre.length : Int) < 0 ∨ rd D (pre.length : Int) > 32) || !nodeOk (pre.length : Int) a)) → ∀ k, impl_GoodTrie.l0 (k + 1) l D c l (l.length : Int) (pre.length : Int) = impl_GoodTrie.j1 k l D c (pre.length : Int) l (l.length : Int) (pre.length : Int) bad a.f0 a.f1 a.f2 a.f3 := by
      intro bad hbad k
      rw [impl_GoodTrie.l0, if_pos (by omega), if_pos (by omega), if_pos (by omega), if_pos (by rw [hD]; omega), h1]
      subst hbad
      by_cases b1 : rd D (pre.length : Int) < 0
      · rw [if_pos b1]; simp [b1]
      · rw [if_neg b1]
        by_cases b2 : rd D (pre.length : Int) > 32
        · rw [if_pos b2]; simp [b2]
        · rw [if_neg b2, impl_isValue_is, kz]
          have b3 : (decide (rd D (pre.length : Int) < 0 ∨ rd D (pre.length : Int) > 32)) = false := decide_eq_false (fun h => h.elim b1 b2)
          rw [b3, kn]
          unfold nodeOk
          cases hv : isVal a.f3
          · rfl
          · rw [if_pos rfl]
            cases hh : a.f2
            · rw [if_neg (by simp)]
              by_cases b4 : a.f3 = 0
              · rw [if_pos b4]
                by_cases b5 : (pre.length : Int) > 0
                · rw [if_pos b5]
                  by_cases b6 : a.f0 = 0
                  · rw [if_pos b6]
                    have b5' : decide (0 < (pre.length : Int)) = true := decide_eq_true b5
                    simp only [b4, b5', b6, beq_self_eq_true, kp, kn, Bool.not_not]
                  · rw [if_neg b6]
                    have b6' : (a.f0 == 0) = false := by simpa using b6
                    simp [b4, b6']
                · rw [if_neg b5]
                  have b5' : decide (0 < (pre.length : Int)) = false := decide_eq_false b5
                  simp only [b4, b5', beq_self_eq_true, kp, Bool.false_and, Bool.not_false, Bool.or_true, Bool.not_true]
              · rw [if_neg b4]
                have b4' : (a.f3 == 0) = false := by simpa using b4
                simp [b4']
            · rw [if_pos rfl]
              by_cases b5 : (pre.length : Int) > 0
              · rw [if_pos b5]; simp
              · rw [if_neg b5]; simp
    refine Ev.step (step _ rfl) ?_
    rw [trieOk]
    by_cases hd : rd D (pre.length : Int) < 0 ∨ rd D (pre.length : Int) > 32
    · rw [if_pos hd, decide_eq_true hd]
      refine Ev.step (fun k => ?_) (Ev.now _)
      rw [impl_GoodTrie.j1, if_pos (by rfl)]
    · rw [if_neg hd, decide_eq_false hd, kn]
      cases hok : nodeOk (pre.length : Int) a
      · rw [if_neg (by simp)]
        refine Ev.step (fun k => ?_) (Ev.now _)
        rw [impl_GoodTrie.j1, if_pos (by rfl)]
      · rw [if_pos rfl]
        have hd2 : 0 ≤ rd D (pre.length : Int) ∧ rd D (pre.length : Int) ≤ 32 := by omega
        have hwc : wrap64 (c + 1) = c + 1 := wrap_id (by omega) (by omega)
        have hcc : (0 ≤ if a.f2 = true then c + 1 else c) ∧ (if a.f2 = true then c + 1 else c) ≤ (pre.length : Int) + 1 := by by_cases h : a.f2 = true <;> simp only [h, if_true, if_false, Bool.false_eq_true] <;> omega
        have key : ∀ c', 0 ≤ c' → c' ≤ (pre.length : Int) + 1 → Ev (fun k => impl_GoodTrie.j2 k l D c' (pre.length : Int) l (l.length : Int) (pre.length : Int) a.f0 a.f1 a.f2 a.f3) (match (tput (l.length : Int) (pre.length : Int) D a.f0).bind (fun D => tput (l.length : Int) (pre.length : Int) D a.f1) with | none => false | some D' => trieOk (l.length : Int) rest ((pre.length : Int) + 1) D' c') := by
          intro c' g0 g1
          refine Ev.step (f := fun k => impl_GoodTrie.l1 k l D c' (pre.length : Int) l (l.length : Int) (pre.length : Int) [a.f0, a.f1] 2 ((0 : Nat) : Int)) (fun k => ?_) ?_
          · rw [impl_GoodTrie.j2, kz]; rfl
          · refine impl_trie_child hn hD hb (by omega) (by omega) hd2 0 rfl (by omega) ?_
            rw [show rd [a.f0, a.f1] ((0 : Nat) : Int) = a.f0 from rfl]
            cases hp : tput (l.length : Int) (pre.length : Int) D a.f0 with
            | none => rfl
            | some D1 =>
              obtain ⟨g2, g3, g4, _⟩ := tput_ok hp (by omega) hb hd2.2 (by rw [hD])
              refine impl_trie_child hn (by omega) g3 (by omega) (by omega) (by omega) 1 rfl (by omega) ?_
              rw [show rd [a.f0, a.f1] ((1 : Nat) : Int) = a.f1 from rfl, kz]
              cases hp2 : tput (l.length : Int) (pre.length : Int) D1 a.f1 with
              | none => rfl
              | some D2 =>
                obtain ⟨g5, g6, g7, _⟩ := tput_ok hp2 (by omega) g3 (by omega) (by rw [g2, hD])
                refine Ev.step (f := fun k => impl_GoodTrie.l0 k l D2 c' l (l.length : Int) ((pre ++ [a]).length : Int)) (fun k => ?_) ?_
                · rw [impl_GoodTrie.l1, if_neg (by decide), wrap_mid (rest := rest) (by rw [← e]; simp only [maxLen]; omega)]
                · have := impl_trie_l0 hn rest (pre ++ [a]) D2 c' (by rw [e]; simp) (by omega) g6 g0 (by simp; omega)
                  rwa [show ((pre ++ [a]).length : Int) = (pre.length : Int) + 1 by simp] at this ⊢
        refine Ev.step (f := fun k => impl_GoodTrie.j2 k l D (if a.f2 = true then c + 1 else c) (pre.length : Int) l (l.length : Int) (pre.length : Int) a.f0 a.f1 a.f2 a.f3) (fun k => ?_) (key _ hcc.1 hcc.2)
        rw [impl_GoodTrie.j1, if_neg (by decide), hwc]
        by_cases h : a.f2 = true
        · rw [if_pos h, if_pos h]
        · rw [if_neg h, if_neg h]
theorem depB_first (n : Nat) : DepB ((kv n (-1 : Int)).set 0 0) := by
  intro j hj
  unfold rd
  rw [List.getD_eq_getElem?_getD, List.getElem?_set]
  by_cases h : 0 = j.toNat
  · rw [if_pos h]
    by_cases h2 : 0 < (kv n (-1 : Int)).length
    · rw [if_pos h2]; simp
    · rw [if_neg h2]; simp
  · rw [if_neg h, List.getElem?_replicate]
    by_cases h2 : j.toNat < n
    · rw [if_pos h2]; simp
    · rw [if_neg h2]; simp
theorem impl_GoodTrie_is (l : List S86) : Ev (fun k => impl_GoodTrie.f k l) (goodTrie l) := by
  unfold goodTrie
  by_cases h : 1 ≤ (l.length : Int) ∧ (l.length : Int) ≤ 2000
  · rw [if_pos h]
    refine Ev.congr (f := fun k => impl_GoodTrie.l0 k l ((kv l.length (-1 : Int)).set 0 0) 0 l (l.length : Int) (([] : List S86).length : Int)) (fun k => ?_) (impl_trie_l0 h.2 l [] _ 0 rfl (by simp) (depB_first _) (by omega) (by simp))
    unfold impl_GoodTrie.f
    rw [impl_within_is, kz, if_pos (decide_eq_true h)]
    rw [slices_Repeat_one _ _ (by omega) (by omega), kz, if_pos (by rw [List.length_replicate]; omega)]
    simp
  · rw [if_neg h]
    refine Ev.congr (fun k => ?_) (Ev.now false)
    unfold impl_GoodTrie.f
    rw [impl_within_is, kz, if_neg (by simpa using h)]
structure TRel (D U E : List Int) : Prop where
  lu : U.length = D.length
  le : E.length = D.length
  zero : rd U 0 = 0 ∧ rd D 0 = 0 ∧ rd E 0 = 0
  other : ∀ j : Int, 0 < j → j < (D.length : Int) → (rd D j < 0 ∧ rd U j = 0) ∨ (0 ≤ rd D j ∧ rd U j = 1 ∧ rd E j = rd D j)
theorem TRel.deep {D U E : List Int} (h : TRel D U E) {j : Int} (h0 : 0 ≤ j) (h1 : j < (D.length : Int)) (h2 : 0 ≤ rd D j) : rd E j = rd D j := by
  by_cases e : j = 0
  · subst e; rw [h.zero.2.1, h.zero.2.2]
  · rcases h.other j (by omega) h1 with h3 | h3
    · omega
    · exact h3.2.2
theorem TRel.put {D U E : List Int} (h : TRel D U E) {x v : Int} (h0 : 0 < x) (h1 : x < (D.length : Int)) (hv : 0 ≤ v) : TRel (D.set x.toNat v) (U.set x.toNat 1) (E.set x.toNat v) := by
  refine ⟨by simp [h.lu], by simp [h.le], ⟨?_, ?_, ?_⟩, fun j h2 h3 => ?_⟩
  · rw [rd_set_ne (by omega) (by omega) (by omega)]; exact h.zero.1
  · rw [rd_set_ne (by omega) (by omega) (by omega)]; exact h.zero.2.1
  · rw [rd_set_ne (by omega) (by omega) (by omega)]; exact h.zero.2.2
  · have h3' : j < (D.length : Int) := by simpa using h3
    by_cases e : x = j
    · subst e
      rw [rd_set_eq (by omega) h1, rd_set_eq (by omega) (by rw [h.lu]; exact h1), rd_set_eq (by omega) (by rw [h.le]; exact h1)]
      exact .inr ⟨hv, rfl, rfl⟩
    · rw [rd_set_ne (by omega) (by omega) e, rd_set_ne (by omega) (by omega) e, rd_set_ne (by omega) (by omega) e]
      exact h.other j h2 h3'
theorem spec_trie_child {l : List S86} {D U E L : List Int} {c i z o v : Int} {hs : Bool} {r : Bool} (hn : (l.length : Int) ≤ 2000) (hD : D.length = l.length) (hb : DepB D) (hR : TRel D U E) (hi : 0 ≤ i) (hi2 : i < (l.length : Int)) (hd : 0 ≤ rd D i ∧ rd D i ≤ 32)
    (q : Nat) (hL : L.length = 2) (hq : q < 2)
    (h : match tput (l.length : Int) i D (rd L q) with | none => r = false | some D' => ∀ U' E', TRel D' U' E' → Ev (fun k => spec_GoodTrie.l1 k l U' E' c i l (l.length : Int) i L 2 ((q + 1 : Nat) : Int) z o hs v) r) :
    Ev (fun k => spec_GoodTrie.l1 k l U E c i l (l.length : Int) i L 2 (q : Int) z o hs v) r := by
  have hw : wrap64 ((q : Int) + 1) = ((q + 1 : Nat) : Int) := by rw [wrap_id (by omega) (by omega)]; omega
  have hE : rd E i = rd D i := hR.deep hi (by omega) hd.1
  have hw3 : wrap64 (rd E i + 1) = rd D i + 1 := by rw [hE]; exact wrap_id (by omega) (by omega)
  have lu := hR.lu
  have le := hR.le
  unfold tput at h
  by_cases h0 : rd L q = 0
  · rw [if_pos h0] at h
    refine Ev.step (fun k => ?_) (h U E hR)
    rw [spec_GoodTrie.l1, if_pos (by omega), if_pos (by omega), if_pos (by rw [hL]; omega), if_pos h0, hw]
  · rw [if_neg h0] at h
    by_cases h1 : i + 1 ≤ rd L q ∧ rd L q ≤ (l.length : Int) - 1
    · rcases hR.other (rd L q) (by omega) (by omega) with h3 | h3
      · rw [if_pos ⟨h1.1, h1.2, h3.1⟩] at h
        refine Ev.step (fun k => ?_) (h _ _ (hR.put (x := rd L q) (v := rd D i + 1) (by omega) (by omega) (by omega)))
        rw [spec_GoodTrie.l1, if_pos (by omega), if_pos (by omega), if_pos (by rw [hL]; omega), if_neg h0, if_neg (by omega), if_neg (by omega), if_pos (by omega), if_pos (by omega), if_pos h3.2, if_pos hi, if_pos (by omega), if_pos (by omega), hw, hw3]
      · rw [if_neg (fun h' => by omega)] at h
        subst h
        refine Ev.step (fun k => ?_) (Ev.now _)
        rw [spec_GoodTrie.l1, if_pos (by omega), if_pos (by omega), if_pos (by rw [hL]; omega), if_neg h0, if_neg (by omega), if_neg (by omega), if_pos (by omega), if_pos (by omega), if_neg (by omega)]
    · rw [if_neg (fun h' => h1 ⟨h'.1, h'.2.1⟩)] at h
      subst h
      refine Ev.step (fun k => ?_) (Ev.now _)
      by_cases h4 : rd L q ≤ i
      · rw [spec_GoodTrie.l1, if_pos (by omega), if_pos (by omega), if_pos (by rw [hL]; omega), if_neg h0, if_pos h4]
      · rw [spec_GoodTrie.l1, if_pos (by omega), if_pos (by omega), if_pos (by rw [hL]; omega), if_neg h0, if_neg h4, if_pos (by omega)]
theorem spec_trie_end (l : List S86) (U E : List Int) (c i : Int) (a : S86) (L : List Int) (r : Bool) (hi : 0 ≤ i)
    (h : nodeOk i a = true → Ev (fun k => spec_GoodTrie.l0 k l U E (if a.f2 = true then wrap64 (c + 1) else c) l (l.length : Int) (wrap64 (i + 1))) r) (h' : nodeOk i a = false → r = false) :
    Ev (fun k => spec_GoodTrie.l1 k l U E c i l (l.length : Int) i L 2 ((2 : Nat) : Int) a.f0 a.f1 a.f2 a.f3) r := by
  have st : ∀ k, spec_GoodTrie.l1 (k + 1) l U E c i l (l.length : Int) i L 2 ((2 : Nat) : Int) a.f0 a.f1 a.f2 a.f3 = if nodeOk i a = true then spec_GoodTrie.l0 k l U E (if a.f2 = true then wrap64 (c + 1) else c) l (l.length : Int) (wrap64 (i + 1)) else some false := by
    intro k
    rw [spec_GoodTrie.l1, if_neg (by decide), spec_l2Value_is]
    simp only [kz]
    unfold nodeOk
    cases hv : isVal a.f3
    · cases hh : a.f2
      · by_cases b4 : a.f3 = 0
        · simp [b4]
        · simp [b4]
      · simp
    · cases hh : a.f2
      · by_cases b4 : a.f3 = 0
        · by_cases b5 : i > 0
          · by_cases b6 : a.f0 = 0
            · by_cases b7 : a.f1 = 0
              · simp [b4, b5, b6, b7]
              · simp [b4, b5, b6, b7]
            · simp [b4, b5, b6]
          · simp [b4, b5]
        · simp [b4]
      · by_cases b5 : i > 0
        · by_cases b6 : a.f0 = 0
          · by_cases b7 : a.f1 = 0
            · simp [b5, b6, b7]
            · simp [b5, b6, b7]
          · simp [b5, b6]
        · simp [b5]
  cases hok : nodeOk i a
  · rw [h' hok]
    refine Ev.step (fun k => ?_) (Ev.now _)
    rw [st, if_neg (by rw [hok]; decide)]
  · refine Ev.step (fun k => ?_) (h hok)
    rw [st, if_pos hok]
theorem spec_trie_l0 {l : List S86} (hn : (l.length : Int) ≤ 2000) : ∀ (rest pre : List S86) (D U E : List Int) (c : Int), l = pre ++ rest → D.length = l.length → DepB D → TRel D U E → 0 ≤ c → c ≤ pre.length →
    Ev (fun k => spec_GoodTrie.l0 k l U E c l (l.length : Int) (pre.length : Int)) (trieOk l.length rest pre.length D c)
  | [], pre, D, U, E, c, e, hD, hb, hR, c0, c1 => by
    refine Ev.step (fun k => ?_) (Ev.now _)
    rw [spec_GoodTrie.l0, if_neg (by rw [e]; simp), trieOk]
  | a :: rest, pre, D, U, E, c, e, hD, hb, hR, c0, c1 => by
    have hlen : (l.length : Int) = pre.length + (rest.length + 1) := by rw [e]; simp
    have h1 : rd_T86 l (pre.length : Int) = a := by rw [e]; exact rdm_Node _ _ _
    have lu := hR.lu
    have le := hR.le
    have step : ∀ k, spec_GoodTrie.l0 (k + 1) l U E c l (l.length : Int) (pre.length : Int) = spec_GoodTrie.j1 k l U E c (pre.length : Int) l (l.length : Int) (pre.length : Int) (decide (rd D (pre.length : Int) < 0 ∨ rd D (pre.length : Int) > 32)) a.f0 a.f1 a.f2 a.f3 := by
      intro k
      rw [spec_GoodTrie.l0, if_pos (by omega), if_pos (by omega), if_pos (by omega), h1]
      by_cases b5 : (pre.length : Int) > 0
      · rw [if_pos b5, if_pos (by omega)]
        rcases hR.other (pre.length : Int) (by omega) (by omega) with h3 | h3
        · rw [if_pos h3.2, decide_eq_true (Or.inl h3.1)]
        · have h4 : ¬ rd D (pre.length : Int) < 0 := by omega
          rw [if_neg (by omega), if_pos (by omega), h3.2.2]
          simp [h4]
      · have e0 : (pre.length : Int) = 0 := by omega
        rw [if_neg b5, if_pos (by omega), e0, hR.zero.2.1, hR.zero.2.2]
        simp
    refine Ev.step step ?_
    rw [trieOk]
    by_cases hd : rd D (pre.length : Int) < 0 ∨ rd D (pre.length : Int) > 32
    · rw [if_pos hd, decide_eq_true hd]
      refine Ev.step (fun k => ?_) (Ev.now _)
      rw [spec_GoodTrie.j1, if_pos rfl]
    · rw [if_neg hd, decide_eq_false hd]
      have hd2 : 0 ≤ rd D (pre.length : Int) ∧ rd D (pre.length : Int) ≤ 32 := by omega
      refine Ev.step (f := fun k => spec_GoodTrie.l1 k l U E c (pre.length : Int) l (l.length : Int) (pre.length : Int) [a.f0, a.f1] 2 ((0 : Nat) : Int) a.f0 a.f1 a.f2 a.f3) (fun k => ?_) ?_
      · rw [spec_GoodTrie.j1, if_neg (by decide), kz]; rfl
      · have hfin : ∀ r : Bool, nodeOk (pre.length : Int) a = false → (if nodeOk (pre.length : Int) a = true then r else false) = false := fun r h => by rw [if_neg (by rw [h]; decide)]
        refine spec_trie_child hn hD hb hR (by omega) (by omega) hd2 0 rfl (by omega) ?_
        rw [show rd [a.f0, a.f1] ((0 : Nat) : Int) = a.f0 from rfl]
        cases hp : tput (l.length : Int) (pre.length : Int) D a.f0 with
        | none => by_cases hok : nodeOk (pre.length : Int) a = true <;> simp [hok]
        | some D1 =>
          intro U1 E1 hR1
          obtain ⟨g2, g3, g4, _⟩ := tput_ok hp (by omega) hb hd2.2 (by rw [hD])
          refine spec_trie_child hn (by omega) g3 hR1 (by omega) (by omega) (by omega) 1 rfl (by omega) ?_
          rw [show rd [a.f0, a.f1] ((1 : Nat) : Int) = a.f1 from rfl, kz]
          cases hp2 : tput (l.length : Int) (pre.length : Int) D1 a.f1 with
          | none => by_cases hok : nodeOk (pre.length : Int) a = true <;> simp [hok]
          | some D2 =>
            intro U2 E2 hR2
            obtain ⟨g5, g6, g7, _⟩ := tput_ok hp2 (by omega) g3 (by omega) (by rw [g2, hD])
            refine spec_trie_end l U2 E2 c (pre.length : Int) a [a.f0, a.f1] _ (by omega) (fun hok => ?_) (hfin _)
            rw [if_pos hok, wrap_mid (rest := rest) (by rw [← e]; simp only [maxLen]; omega)]
            have hwc : wrap64 (c + 1) = c + 1 := wrap_id (by omega) (by omega)
            rw [hwc]
            have hcc : (0 ≤ if a.f2 = true then c + 1 else c) ∧ (if a.f2 = true then c + 1 else c) ≤ (pre.length : Int) + 1 := by by_cases h : a.f2 = true <;> simp only [h, if_true, if_false, Bool.false_eq_true] <;> omega
            have := spec_trie_l0 hn rest (pre ++ [a]) D2 U2 E2 (if a.f2 = true then c + 1 else c) (by rw [e]; simp) (by omega) g6 hR2 hcc.1 (by simp; omega)
            rwa [show ((pre ++ [a]).length : Int) = (pre.length : Int) + 1 by simp] at this ⊢
theorem tRel_first (n : Nat) : TRel ((kv n (-1 : Int)).set 0 0) (kv n 0) (kv n 0) := by
  have hz : ∀ j : Int, rd (kv n (0 : Int)) j = 0 := by
    intro j
    unfold rd
    rw [List.getD_eq_getElem?_getD, List.getElem?_replicate]
    by_cases h2 : j.toNat < n
    · rw [if_pos h2]; rfl
    · rw [if_neg h2]; rfl
  refine ⟨by simp, by simp, ⟨hz 0, ?_, hz 0⟩, fun j h0 h1 => .inl ⟨?_, hz j⟩⟩
  · unfold rd
    rw [List.getD_eq_getElem?_getD, List.getElem?_set]
    by_cases h2 : 0 < n
    · simp [h2]
    · simp [h2]
  · have h1' : j < (n : Int) := by simpa using h1
    rw [show (0 : Nat) = (0 : Int).toNat from rfl, rd_set_ne (by omega) (by omega) (by omega)]
    unfold rd
    rw [List.getD_eq_getElem?_getD, List.getElem?_replicate, if_pos (by omega)]
    simp
theorem spec_GoodTrie_is (l : List S86) : Ev (fun k => spec_GoodTrie.f k l) (goodTrie l) := by
  unfold goodTrie
  by_cases h : 1 ≤ (l.length : Int) ∧ (l.length : Int) ≤ 2000
  · rw [if_pos h]
    refine Ev.congr (f := fun k => spec_GoodTrie.l0 k l (kv l.length 0) (kv l.length 0) 0 l (l.length : Int) (([] : List S86).length : Int)) (fun k => ?_) (spec_trie_l0 h.2 l [] _ _ _ 0 rfl (by simp) (depB_first _) (tRel_first _) (by omega) (by simp))
    unfold spec_GoodTrie.f
    rw [spec_l1In_is, kz, if_pos (decide_eq_true h), if_pos (by omega), if_pos (by omega)]
    rfl
  · rw [if_neg h]
    refine Ev.congr (fun k => ?_) (Ev.now false)
    unfold spec_GoodTrie.f
    rw [spec_l1In_is, kz, if_neg (by simpa using h)]
def kidOk (n i x : Int) : Prop := x = 0 ∨ (i + 1 ≤ x ∧ x ≤ n - 1)
theorem tput_kid {n i : Int} {D D' : List Int} {x : Int} (h : tput n i D x = some D') : kidOk n i x := by
  unfold tput at h
  by_cases h0 : x = 0
  · exact .inl h0
  · rw [if_neg h0] at h
    by_cases h1 : i + 1 ≤ x ∧ x ≤ n - 1 ∧ rd D x < 0
    · exact .inr ⟨h1.1, h1.2.1⟩
    · rw [if_neg h1] at h; cases h
theorem trieOk_kids (n : Int) : ∀ (rest : List S86) (i : Int) (D : List Int) (c : Int), trieOk n rest i D c = true → ∀ (j : Nat) (a : S86), rest[j]? = some a → (kidOk n (i + j) a.f0 ∧ kidOk n (i + j) a.f1) ∧ isVal a.f3 = true
  | [], _, _, _, _, j, a, h => by simp at h
  | b :: t, i, D, c, ht, j, a, h => by
    rw [trieOk] at ht
    by_cases hd : rd D i < 0 ∨ rd D i > 32
    · rw [if_pos hd] at ht; cases ht
    · rw [if_neg hd] at ht
      cases hok : nodeOk i b
      · rw [hok, if_neg (by decide)] at ht; cases ht
      · rw [hok, if_pos rfl] at ht
        cases hp : tput n i D b.f0 with
        | none => rw [hp] at ht; cases ht
        | some D1 =>
          rw [hp, kz] at ht
          cases hp2 : tput n i D1 b.f1 with
          | none => rw [hp2] at ht; cases ht
          | some D2 =>
            rw [hp2] at ht
            cases j with
            | zero =>
              simp at h
              subst h
              refine ⟨by simpa using ⟨tput_kid hp, tput_kid hp2⟩, ?_⟩
              unfold nodeOk at hok
              simp only [ku] at hok
              exact hok.1
            | succ j =>
              have := trieOk_kids n t (i + 1) D2 _ ht j a (by simpa using h)
              rwa [show i + 1 + (j : Int) = i + ((j + 1 : Nat) : Int) by omega] at this
theorem goodTrie_len {l : List S86} (h : goodTrie l = true) : 1 ≤ (l.length : Int) ∧ (l.length : Int) ≤ 2000 := by
  unfold goodTrie at h
  by_cases h1 : 1 ≤ (l.length : Int) ∧ (l.length : Int) ≤ 2000
  · exact h1
  · rw [if_neg h1] at h; cases h
theorem goodTrie_kids {l : List S86} (h : goodTrie l = true) {i : Int} (h0 : 0 ≤ i) (h1 : i < (l.length : Int)) : (kidOk l.length i (rd_T86 l i).f0 ∧ kidOk l.length i (rd_T86 l i).f1) ∧ isVal (rd_T86 l i).f3 = true := by
  have hl := goodTrie_len h
  unfold goodTrie at h
  rw [if_pos hl] at h
  have hi : i.toNat < l.length := by omega
  have := trieOk_kids _ l 0 _ _ h i.toNat (l[i.toNat]'hi) (List.getElem?_eq_getElem hi)
  have e : rd_T86 l i = l[i.toNat]'hi := by unfold rd_T86; rw [List.getD_eq_getElem?_getD, List.getElem?_eq_getElem hi]; rfl
  rw [e]
  rwa [show (0 : Int) + (i.toNat : Int) = i by omega] at this
def bitv (a d : Int) : Int := Go.bits .and .i64 (shr .i64 a (31 - d)) 1
theorem bitv_range (a d : Int) : bitv a d = 0 ∨ bitv a d = 1 := by
  unfold bitv
  show IntKind.i64.wrap ((BitVec.ofInt 64 _ &&& BitVec.ofInt 64 1).toNat : Int) = 0 ∨ IntKind.i64.wrap ((BitVec.ofInt 64 _ &&& BitVec.ofInt 64 1).toNat : Int) = 1
  rw [BitVec.toNat_and]
  have h := @Nat.and_le_right (BitVec.ofInt 64 (shr .i64 a (31 - d))).toNat (BitVec.ofInt 64 1).toNat
  have h1 : (BitVec.ofInt 64 1).toNat = 1 := by decide
  rw [h1] at h ⊢
  generalize (BitVec.ofInt 64 (shr .i64 a (31 - d))).toNat &&& 1 = q at h ⊢
  rw [i64_w, wrap_id (by omega) (by omega)]
  omega
theorem impl_bitOf_is (a d : Int) (h0 : 0 ≤ d) (h1 : d ≤ 31) : impl_bitOf.f a d = some (bitv a d) := by
  unfold impl_bitOf.f bitv
  rw [wrap_id (by omega) (by omega), if_pos (by omega)]
theorem spec_l2Bit_is (a d : Int) (h0 : 0 ≤ d) (h1 : d ≤ 31) : spec_l2Bit.f a d = some (bitv a d) := by
  unfold spec_l2Bit.f bitv
  rw [wrap_id (by omega) (by omega), u64_id (by omega) (by omega), if_pos (by omega)]
def halfv (a : S86) (b : Int) : Int := if b = 1 then a.f1 else a.f0
theorem impl_half_is (a : S86) (b : Int) (h : b = 0 ∨ b = 1) : impl_TrieNode_half.f a.f0 a.f1 a.f2 a.f3 b = some (halfv a b) := by
  unfold impl_TrieNode_half.f halfv
  rcases h with rfl | rfl
  · rw [if_pos rfl, if_neg (by decide)]
  · rw [if_neg (by decide), if_pos rfl]
theorem spec_half_is (a : S86) (b : Int) : spec_l2Half.f a.f0 a.f1 a.f2 a.f3 b = some (halfv a b) := by
  unfold spec_l2Half.f halfv
  by_cases h : b = 1
  · rw [if_pos h, if_pos h]
  · rw [if_neg h, if_neg h]
theorem halfv_kid {n i b : Int} {a : S86} (h : kidOk n i a.f0 ∧ kidOk n i a.f1) : kidOk n i (halfv a b) := by
  unfold halfv
  by_cases hb : b = 1
  · rw [if_pos hb]; exact h.2
  · rw [if_neg hb]; exact h.1
structure LkRel (f : Bool) (v d v' d' : Int) : Prop where
  mk :: (out : (f = false ∧ v = 0 ∧ d = 0 ∧ v' = 0 ∧ d' = -1) ∨ (f = true ∧ v = v' ∧ d = d' ∧ 0 ≤ d'))
theorem LkRel.fin {f : Bool} {v d v' d' : Int} (h : LkRel f v d v' d') : (if d' < 0 then (some (0, 0, false)) else (some (v', d', true))) = (some (v, d, f) : Option (Int × Int × Bool)) := by
  rcases h.out with ⟨rfl, rfl, rfl, rfl, rfl⟩ | ⟨rfl, rfl, rfl, h⟩
  · rw [if_pos (by decide)]
  · rw [if_neg (by omega)]
theorem lookup_same {l : List S86} (hg : goodTrie l = true) (x : Int) : ∀ (m : Nat) (k0 i : Int) (f : Bool) (v d v' d' : Int), k0 + m = 32 → 0 ≤ k0 → 0 ≤ i → i < (l.length : Int) → LkRel f v d v' d' →
    ∃ r, Ev (fun k => spec_LookUp.l0 k l x f v d i k0) r ∧ Ev (fun k => impl_LookUp.l0 k l x v' d' i k0) r := by
  intro m
  induction m with
  | zero =>
    intro k0 i f v d v' d' hk h0 hi hi2 hR
    have hk32 : k0 = 32 := by omega
    by_cases hf : (rd_T86 l i).f2 = true
    · refine ⟨((rd_T86 l i).f3, k0, true), Ev.step (f := fun k => spec_LookUp.j2 k l x true (rd_T86 l i).f3 k0 i k0) (fun k => ?_) (Ev.step (fun k => ?_) (Ev.now _)), Ev.step (f := fun k => impl_LookUp.j2 k l x (rd_T86 l i).f3 k0 i k0) (fun k => ?_) (Ev.step (fun k => ?_) (Ev.now _))⟩
      · rw [spec_LookUp.l0, if_pos hi, if_pos hi2, if_pos hf]
      · rw [spec_LookUp.j2, if_pos hk32]
      · rw [impl_LookUp.l0, if_pos hi, if_pos hi2, if_pos hf]
      · rw [impl_LookUp.j2, if_pos hk32, if_neg (by omega)]
    · refine ⟨(v, d, f), Ev.step (f := fun k => spec_LookUp.j2 k l x f v d i k0) (fun k => ?_) (Ev.step (fun k => ?_) (Ev.now _)), Ev.step (f := fun k => impl_LookUp.j2 k l x v' d' i k0) (fun k => ?_) (Ev.step (fun k => ?_) (Ev.now _))⟩
      · rw [spec_LookUp.l0, if_pos hi, if_pos hi2, if_neg hf]
      · rw [spec_LookUp.j2, if_pos hk32]
      · rw [impl_LookUp.l0, if_pos hi, if_pos hi2, if_neg hf]
      · rw [impl_LookUp.j2, if_pos hk32, hR.fin]
  | succ m ih =>
    intro k0 i f v d v' d' hk h0 hi hi2 hR
    have hk32 : ¬ k0 = 32 := by omega
    have hkid := halfv_kid (b := bitv x k0) (goodTrie_kids hg hi hi2).1
    have hw : wrap64 (k0 + 1) = k0 + 1 := wrap_id (by omega) (by omega)

    have mid : ∀ (f : Bool) (v d v' d' : Int), LkRel f v d v' d' → ∃ r, Ev (fun k => spec_LookUp.j2 k l x f v d i k0) r ∧ Ev (fun k => impl_LookUp.j2 k l x v' d' i k0) r := by
      intro f v d v' d' hR
      by_cases hz : halfv (rd_T86 l i) (bitv x k0) = 0
      · refine ⟨(v, d, f), Ev.step (fun k => ?_) (Ev.now _), Ev.step (fun k => ?_) (Ev.now _)⟩
        · rw [spec_LookUp.j2, if_neg hk32, if_pos hi, if_pos hi2, spec_l2Bit_is _ _ h0 (by omega), kz, spec_half_is, kz, if_pos hz]
        · rw [impl_LookUp.j2, if_neg hk32, if_pos hi, if_pos hi2, impl_bitOf_is _ _ h0 (by omega), kz, impl_half_is _ _ (bitv_range _ _), kz, if_pos hz, hR.fin]
      · have hv : i + 1 ≤ halfv (rd_T86 l i) (bitv x k0) ∧ halfv (rd_T86 l i) (bitv x k0) ≤ (l.length : Int) - 1 := by
          rcases hkid with h | h
          · exact absurd h hz
          · exact h
        obtain ⟨r, h1, h2⟩ := ih (k0 + 1) (halfv (rd_T86 l i) (bitv x k0)) f v d v' d' (by omega) (by omega) (by omega) (by omega) hR
        refine ⟨r, Ev.step (fun k => ?_) h1, Ev.step (fun k => ?_) h2⟩
        · rw [spec_LookUp.j2, if_neg hk32, if_pos hi, if_pos hi2, spec_l2Bit_is _ _ h0 (by omega), kz, spec_half_is, kz, if_neg hz, hw]
        · rw [impl_LookUp.j2, if_neg hk32, if_pos hi, if_pos hi2, impl_bitOf_is _ _ h0 (by omega), kz, impl_half_is _ _ (bitv_range _ _), kz, if_neg hz, hw]
    by_cases hf : (rd_T86 l i).f2 = true
    · obtain ⟨r, h1, h2⟩ := mid true (rd_T86 l i).f3 k0 (rd_T86 l i).f3 k0 ⟨.inr ⟨rfl, rfl, rfl, h0⟩⟩
      refine ⟨r, Ev.step (fun k => ?_) h1, Ev.step (fun k => ?_) h2⟩
      · rw [spec_LookUp.l0, if_pos hi, if_pos hi2, if_pos hf]
      · rw [impl_LookUp.l0, if_pos hi, if_pos hi2, if_pos hf]
    · obtain ⟨r, h1, h2⟩ := mid f v d v' d' hR
      refine ⟨r, Ev.step (fun k => ?_) h1, Ev.step (fun k => ?_) h2⟩
      · rw [spec_LookUp.l0, if_pos hi, if_pos hi2, if_neg hf]
      · rw [impl_LookUp.l0, if_pos hi, if_pos hi2, if_neg hf]
theorem LookUp_same (l : List S86) (x : Int) : ∃ r, Ev (fun k => spec_LookUp.f k l x) r ∧ Ev (fun k => impl_LookUp.f k l x) r := by
  obtain ⟨K1, h1⟩ := spec_GoodTrie_is l
  obtain ⟨K2, h2⟩ := impl_GoodTrie_is l
  replace h1 : ∀ k, K1 ≤ k → spec_GoodTrie.f k l = _ := h1
  replace h2 : ∀ k, K2 ≤ k → impl_GoodTrie.f k l = _ := h2
  have bad1 : ∀ k, spec_LookUp.j0 (k + 1) l x true = some (0, 0, false) := fun k => by rw [spec_LookUp.j0, if_pos rfl]
  have bad2 : ∀ k, impl_LookUp.j0 (k + 1) l x true = some (0, 0, false) := fun k => by rw [impl_LookUp.j0, if_pos rfl]
  by_cases hg : goodTrie l = true
  · by_cases hx : 0 ≤ x ∧ x ≤ 4294967295
    · have hl := goodTrie_len hg
      obtain ⟨r, ⟨K3, h3⟩, ⟨K4, h4⟩⟩ := lookup_same hg x 32 0 0 false 0 0 0 (-1) (by omega) (by omega) (by omega) (by omega) ⟨.inl ⟨rfl, rfl, rfl, rfl, rfl⟩⟩
      replace h3 : ∀ k, K3 ≤ k → spec_LookUp.l0 k l x false 0 0 0 0 = _ := h3
      replace h4 : ∀ k, K4 ≤ k → impl_LookUp.l0 k l x 0 (-1) 0 0 = _ := h4
      refine ⟨r, ⟨K1 + K3 + 1, fun k hk => ?_⟩, ⟨K2 + K4 + 1, fun k hk => ?_⟩⟩
      · show spec_LookUp.f k l x = _
        obtain ⟨k, rfl⟩ : ∃ m, k = m + 1 := ⟨k - 1, by omega⟩
        unfold spec_LookUp.f
        rw [h1 _ (by omega), kz, if_pos hg, spec_l1Addr_is, kz, decide_eq_true hx, spec_LookUp.j0, if_neg (by decide), h3 _ (by omega)]
      · show impl_LookUp.f k l x = _
        obtain ⟨k, rfl⟩ : ∃ m, k = m + 1 := ⟨k - 1, by omega⟩
        unfold impl_LookUp.f
        rw [h2 _ (by omega), kz, if_pos hg, impl_isAddr_is, kz, decide_eq_true hx, impl_LookUp.j0, if_neg (by decide), h4 _ (by omega)]
    · refine ⟨(0, 0, false), ⟨K1 + 1, fun k hk => ?_⟩, ⟨K2 + 1, fun k hk => ?_⟩⟩
      · show spec_LookUp.f k l x = _
        obtain ⟨k, rfl⟩ : ∃ m, k = m + 1 := ⟨k - 1, by omega⟩
        unfold spec_LookUp.f
        rw [h1 _ (by omega), kz, if_pos hg, spec_l1Addr_is, kz, decide_eq_false hx]
        exact bad1 k
      · show impl_LookUp.f k l x = _
        obtain ⟨k, rfl⟩ : ∃ m, k = m + 1 := ⟨k - 1, by omega⟩
        unfold impl_LookUp.f
        rw [h2 _ (by omega), kz, if_pos hg, impl_isAddr_is, kz, decide_eq_false hx]
        exact bad2 k
  · refine ⟨(0, 0, false), ⟨K1 + 1, fun k hk => ?_⟩, ⟨K2 + 1, fun k hk => ?_⟩⟩
    · show spec_LookUp.f k l x = _
      obtain ⟨k, rfl⟩ : ∃ m, k = m + 1 := ⟨k - 1, by omega⟩
      unfold spec_LookUp.f
      rw [h1 _ (by omega), kz, if_neg hg]
      exact bad1 k
    · show impl_LookUp.f k l x = _
      obtain ⟨k, rfl⟩ : ∃ m, k = m + 1 := ⟨k - 1, by omega⟩
      unfold impl_LookUp.f
      rw [h2 _ (by omega), kz, if_neg hg]
      exact bad2 k
def KidsV (l : List S86) : Prop := ∀ i : Int, 0 ≤ i → i < (l.length : Int) → kidOk l.length i (rd_T86 l i).f0 ∧ kidOk l.length i (rd_T86 l i).f1
theorem goodTrie_KidsV {l : List S86} (h : goodTrie l = true) : KidsV l := fun _ h0 h1 => (goodTrie_kids h h0 h1).1
theorem nrd_set_ne {l : List S86} {x y : Int} {v : S86} (hx : 0 ≤ x) (hy : 0 ≤ y) (h : x ≠ y) : rd_T86 (l.set x.toNat v) y = rd_T86 l y := by
  unfold rd_T86
  have : x.toNat ≠ y.toNat := by omega
  simp only [List.getD_eq_getElem?_getD, List.getElem?_set_ne this]
theorem nrd_set_eq {l : List S86} {x : Int} {v : S86} (hx : 0 ≤ x) (h : x < (l.length : Int)) : rd_T86 (l.set x.toNat v) x = v := by
  unfold rd_T86
  have : x.toNat < l.length := by omega
  simp [List.getD_eq_getElem?_getD, List.getElem?_set, this]
theorem nrd_app {l m : List S86} {x : Int} (hx : 0 ≤ x) (h : x < (l.length : Int)) : rd_T86 (l ++ m) x = rd_T86 l x := by
  unfold rd_T86
  rw [List.getD_eq_getElem?_getD, List.getD_eq_getElem?_getD, List.getElem?_append_left (by omega)]
theorem nrd_last {l : List S86} {a : S86} : rd_T86 (l ++ [a]) (l.length : Int) = a := by unfold rd_T86; simp
def withHalf (a : S86) (b n : Int) : S86 := if b = 1 then ⟨a.f0, n, a.f2, a.f3⟩ else ⟨n, a.f1, a.f2, a.f3⟩
def insP (v a : Int) : Nat → Int → List S86 → Int → List S86
  | 0, _, l, i => l.set i.toNat ⟨(rd_T86 l i).f0, (rd_T86 l i).f1, true, v⟩
  | m + 1, d, l, i => if halfv (rd_T86 l i) (bitv a d) = 0 then insP v a m (d + 1) ((l ++ [(⟨0, 0, false, 0⟩ : S86)]).set i.toNat (withHalf (rd_T86 l i) (bitv a d) (l.length : Int))) (l.length : Int) else insP v a m (d + 1) l (halfv (rd_T86 l i) (bitv a d))
theorem KidsV.grow {l : List S86} (h : KidsV l) {i : Int} (b : Int) (h0 : 0 ≤ i) (h1 : i < (l.length : Int)) : KidsV ((l ++ [(⟨0, 0, false, 0⟩ : S86)]).set i.toNat (withHalf (rd_T86 l i) b (l.length : Int))) := by
  have hlen : ((((l ++ [(⟨0, 0, false, 0⟩ : S86)]).set i.toNat (withHalf (rd_T86 l i) b (l.length : Int))).length : Nat) : Int) = (l.length : Int) + 1 := by simp
  have up : ∀ {j x : Int}, kidOk l.length j x → kidOk ((l.length : Int) + 1) j x := fun hk => hk.elim .inl (fun hk => .inr ⟨hk.1, by omega⟩)
  intro j hj hj2
  rw [hlen] at hj2 ⊢
  by_cases e : i = j
  · subst e
    rw [nrd_set_eq h0 (by simp; omega)]
    have hk := h i h0 h1
    unfold withHalf
    by_cases hb : b = 1
    · rw [if_pos hb]; dsimp only; exact ⟨up hk.1, .inr ⟨by omega, by omega⟩⟩
    · rw [if_neg hb]; dsimp only; exact ⟨.inr ⟨by omega, by omega⟩, up hk.2⟩
  · rw [nrd_set_ne h0 hj e]
    by_cases e2 : j < (l.length : Int)
    · rw [nrd_app hj e2]
      have hk := h j hj e2
      exact ⟨up hk.1, up hk.2⟩
    · have : j = (l.length : Int) := by omega
      subst this
      rw [nrd_last]
      exact ⟨.inl rfl, .inl rfl⟩
theorem insP_len (v a : Int) : ∀ (m : Nat) (d : Int) (l : List S86) (i : Int), l.length ≤ (insP v a m d l i).length ∧ (insP v a m d l i).length ≤ l.length + m
  | 0, _, l, i => by simp [insP]
  | m + 1, d, l, i => by
    rw [insP]
    by_cases h : halfv (rd_T86 l i) (bitv a d) = 0
    · rw [if_pos h]
      have := insP_len v a m (d + 1) ((l ++ [(⟨0, 0, false, 0⟩ : S86)]).set i.toNat (withHalf (rd_T86 l i) (bitv a d) (l.length : Int))) (l.length : Int)
      simp only [ky, kh, kq] at this
      omega
    · rw [if_neg h]
      have := insP_len v a m (d + 1) l (halfv (rd_T86 l i) (bitv a d))
      omega
theorem last_set {l : List S86} {i v : Int} (h0 : 0 ≤ i) (h1 : i < (l.length : Int)) : ((some (l.set (i : Int).toNat (⟨(rd_T86 l i).f0, (rd_T86 l i).f1, true, (rd_T86 l i).f3⟩ : S86) : List S86)).bind fun y => (some (y.set (i : Int).toNat (⟨(rd_T86 y i).f0, (rd_T86 y i).f1, (rd_T86 y i).f2, v⟩ : S86)))) = some (l.set i.toNat ⟨(rd_T86 l i).f0, (rd_T86 l i).f1, true, v⟩) := by
  rw [kz, nrd_set_eq h0 h1, List.set_set]
theorem impl_inserted_l0 (v a p : Int) : ∀ (m : Nat) (d : Int) (l : List S86) (i : Int) (k : Nat), KidsV l → 0 ≤ i → i < (l.length : Int) → 0 ≤ d → d + m = p → p ≤ 32 → l.length + m ≤ 100000000 → m < k → impl_inserted.l0 k v l i p d a p = some (insP v a m d l i)
  | 0, d, l, i, k, hk, h0, h1, h2, h3, h4, h5, h6 => by
    obtain ⟨k, rfl⟩ : ∃ j, k = j + 1 := ⟨k - 1, by omega⟩
    rw [impl_inserted.l0, if_neg (by omega), if_pos h0, if_pos h1, last_set h0 h1]
    rfl
  | m + 1, d, l, i, k, hk, h0, h1, h2, h3, h4, h5, h6 => by
    obtain ⟨k, rfl⟩ : ∃ j, k = j + 1 := ⟨k - 1, by omega⟩
    have hb := bitv_range a d
    have hw : wrap64 (d + 1) = d + 1 := wrap_id (by omega) (by omega)
    rw [impl_inserted.l0, if_pos (by omega), impl_bitOf_is _ _ h2 (by omega), kz, if_pos h0, if_pos h1, impl_half_is _ _ hb, kz, insP, hw]
    by_cases h : halfv (rd_T86 l i) (bitv a d) = 0
    · rw [if_pos h, if_pos h, if_pos (by omega), kz, nrd_app h0 h1]
      have hg := hk.grow (bitv a d) h0 h1
      have ih := impl_inserted_l0 v a p m (d + 1) _ (l.length : Int) k hg (by omega) (by simp; omega) (by omega) (by omega) h4 (by simp; omega) (by omega)
      unfold withHalf at ih ⊢
      rcases hb with e | e
      · rw [if_pos e, if_pos (by simp; omega)]
        rw [if_neg (show ¬ bitv a d = 1 by omega)] at ih ⊢
        exact ih
      · rw [if_neg (show ¬ bitv a d = 0 by omega), if_pos (by simp; omega)]
        rw [if_pos e] at ih ⊢
        exact ih
    · rw [if_neg h, if_neg h]
      have hv := halfv_kid (b := bitv a d) (hk i h0 h1)
      exact impl_inserted_l0 v a p m (d + 1) l _ k hk (by rcases hv with e | e; exact absurd e h; omega) (by rcases hv with e | e; exact absurd e h; omega) (by omega) (by omega) h4 (by omega) (by omega)
theorem spec_insert_l0 (v a p : Int) : ∀ (m : Nat) (d : Int) (l : List S86) (i : Int) (k : Nat), KidsV l → 0 ≤ i → i < (l.length : Int) → 0 ≤ d → d + m = p → p ≤ 32 → l.length + m ≤ 100000000 → m < k → spec_l2Insert.l0 k l v i d a p = some (insP v a m d l i)
  | 0, d, l, i, k, hk, h0, h1, h2, h3, h4, h5, h6 => by
    obtain ⟨k, rfl⟩ : ∃ j, k = j + 1 := ⟨k - 1, by omega⟩
    rw [spec_l2Insert.l0, if_neg (by omega), if_pos h0, if_pos h1, last_set h0 h1]
    rfl
  | m + 1, d, l, i, k, hk, h0, h1, h2, h3, h4, h5, h6 => by
    obtain ⟨k, rfl⟩ : ∃ j, k = j + 1 := ⟨k - 1, by omega⟩
    have hb := bitv_range a d
    have hw : wrap64 (d + 1) = d + 1 := wrap_id (by omega) (by omega)
    rw [spec_l2Insert.l0, if_pos (by omega), spec_l2Bit_is _ _ h2 (by omega), kz, if_pos h0, if_pos h1, spec_half_is, kz, insP, hw]
    by_cases h : halfv (rd_T86 l i) (bitv a d) = 0
    · rw [if_pos h, if_pos h, if_pos (by omega), kz, nrd_app h0 h1]
      have hg := hk.grow (bitv a d) h0 h1
      have ih := spec_insert_l0 v a p m (d + 1) _ (l.length : Int) k hg (by omega) (by simp; omega) (by omega) (by omega) h4 (by simp; omega) (by omega)
      unfold withHalf at ih ⊢
      rcases hb with e | e
      · rw [if_neg (show ¬ bitv a d = 1 by omega), if_pos (by simp; omega)]
        rw [if_neg (show ¬ bitv a d = 1 by omega)] at ih ⊢
        exact ih
      · rw [if_pos e, if_pos (by simp; omega)]
        rw [if_pos e] at ih ⊢
        exact ih
    · rw [if_neg h, if_neg h]
      have hv := halfv_kid (b := bitv a d) (hk i h0 h1)
      exact spec_insert_l0 v a p m (d + 1) l _ k hk (by rcases hv with e | e; exact absurd e h; omega) (by rcases hv with e | e; exact absurd e h; omega) (by omega) (by omega) h4 (by omega) (by omega)
theorem impl_inserted_is (l : List S86) (a p v : Int) (k : Nat) (hk : KidsV l) (h1 : 1 ≤ l.length) (h2 : l.length ≤ 1000000) (h3 : 0 ≤ p) (h4 : p ≤ 32) (h5 : 33 ≤ k) : impl_inserted.f k l a p v = some (insP v a p.toNat 0 l 0) := by
  unfold impl_inserted.f slices_Clone_impl_TrieNode_impl_TrieNode.f
  rw [if_pos (by omega), kz]
  exact impl_inserted_l0 v a p p.toNat 0 l 0 k hk (by omega) (by omega) (by omega) (by omega) h4 (by omega) (by omega)
theorem spec_l2Insert_is (l : List S86) (a p v : Int) (k : Nat) (hk : KidsV l) (h1 : 1 ≤ l.length) (h2 : l.length ≤ 1000000) (h3 : 0 ≤ p) (h4 : p ≤ 32) (h5 : 33 ≤ k) : spec_l2Insert.f k l a p v = some (insP v a p.toNat 0 l 0) := by
  unfold spec_l2Insert.f
  exact spec_insert_l0 v a p p.toNat 0 l 0 k hk (by omega) (by omega) (by omega) (by omega) h4 (by omega) (by omega)
def walkP (t : List S86) : Nat → Int → Int → Int → List S39 → List S39
  | 0, i, a, n, out => if (rd_T86 t i).f2 = true then out ++ [⟨⟨a, n⟩, (rd_T86 t i).f3⟩] else out
  | m + 1, i, a, n, out =>
    let o1 := if (rd_T86 t i).f2 = true then out ++ [⟨⟨a, n⟩, (rd_T86 t i).f3⟩] else out
    let o2 := if (rd_T86 t i).f0 = 0 then o1 else walkP t m (rd_T86 t i).f0 a (n + 1) o1
    if (rd_T86 t i).f1 = 0 then o2 else walkP t m (rd_T86 t i).f1 (a + sz (n + 1)) (n + 1) o2
theorem walkP_len (t : List S86) : ∀ (m : Nat) (i a n : Int) (out : List S39), (walkP t m i a n out).length + 1 ≤ out.length + 2 ^ (m + 1)
  | 0, i, a, n, out => by
    rw [walkP]
    by_cases h : (rd_T86 t i).f2 = true
    · rw [if_pos h]; simp
    · rw [if_neg h]; simp; try omega
  | m + 1, i, a, n, out => by
    rw [walkP]
    have h1 : (if (rd_T86 t i).f2 = true then out ++ [⟨⟨a, n⟩, (rd_T86 t i).f3⟩] else out).length ≤ out.length + 1 := by
      by_cases h : (rd_T86 t i).f2 = true
      · rw [if_pos h]; simp
      · rw [if_neg h]; omega
    generalize (if (rd_T86 t i).f2 = true then out ++ [⟨⟨a, n⟩, (rd_T86 t i).f3⟩] else out) = o1 at h1 ⊢
    have hp : (2 : Nat) ^ (m + 1 + 1) = 2 ^ (m + 1) + 2 ^ (m + 1) := by rw [Nat.pow_succ]; omega
    have hq : 1 ≤ (2 : Nat) ^ (m + 1) := Nat.one_le_two_pow
    have h2 : (if (rd_T86 t i).f0 = 0 then o1 else walkP t m (rd_T86 t i).f0 a (n + 1) o1).length + 1 ≤ o1.length + 2 ^ (m + 1) := by
      by_cases h : (rd_T86 t i).f0 = 0
      · rw [if_pos h]; omega
      · rw [if_neg h]; exact walkP_len t m _ _ _ _
    generalize (if (rd_T86 t i).f0 = 0 then o1 else walkP t m (rd_T86 t i).f0 a (n + 1) o1) = o2 at h2 ⊢
    by_cases h : (rd_T86 t i).f1 = 0
    · rw [if_pos h]; omega
    · rw [if_neg h]
      have := walkP_len t m (rd_T86 t i).f1 (a + sz (n + 1)) (n + 1) o2
      omega
def Bts (c : List Int) : Prop := c.length ≤ 140737488351232 ∧ ∀ x, x ∈ c → 0 ≤ x ∧ x ≤ 255
theorem Bts.at_ {c : List Int} (h : Bts c) {i : Int} (h0 : 0 ≤ i) (h1 : i < (c.length : Int)) : 0 ≤ rd c i ∧ rd c i ≤ 255 := by
  have : i.toNat < c.length := by omega
  unfold rd
  rw [List.getD_eq_getElem?_getD, List.getElem?_eq_getElem this]
  exact h.2 _ (List.getElem_mem this)
theorem u64_range (x : Int) : 0 ≤ IntKind.u64.wrap x ∧ IntKind.u64.wrap x < 18446744073709551616 := by
  simp only [IntKind.wrap, IntKind.bits, IntKind.signed]
  constructor
  · simp; omega
  · simp; omega
theorem u64_and255 {x : Int} (h0 : 0 ≤ x) (h1 : x < 18446744073709551616) : Go.bits .and .u64 x 255 = x % 256 :=
  bits_mask .u64 64 (by decide) (fun n h2 h3 => by simp only [IntKind.wrap, IntKind.bits, IntKind.signed]; simp; omega) 8 (by decide) x h0 h1
theorem next_ok {c : List Int} (hc : Bts c) {i : Int} (s : Int) (h0 : 0 ≤ i) (h1 : i ≤ 1000000000000000) : ∃ b s', spec_l1Cur_next.f c i s = some (b, i + 1, s') ∧ 0 ≤ b ∧ b ≤ 255 := by
  have hl := hc.1
  unfold spec_l1Cur_next.f
  rw [wrap_id (x := i + 1) (by omega) (by omega)]
  by_cases h : i < (c.length : Int)
  · have hb := hc.at_ h0 h
    rw [if_pos h, if_pos h0, if_pos (by omega)]
    exact ⟨_, _, rfl, by rw [wrap_id (by omega) (by omega)]; exact hb.1, by rw [wrap_id (by omega) (by omega)]; exact hb.2⟩
  · rw [if_neg h, if_neg (by omega)]
    refine ⟨_, _, rfl, ?_⟩
    have hr := u64_range (IntKind.u64.wrap (IntKind.u64.wrap (s * 6364136223846793005)) + 1442695040888963407)
    generalize IntKind.u64.wrap (IntKind.u64.wrap (IntKind.u64.wrap (s * 6364136223846793005)) + 1442695040888963407) = X at hr
    rw [u64_and255 (by omega) (by omega), wrap_id (by omega) (by omega)]
    omega
theorem pick_ok {c : List Int} (hc : Bts c) {i : Int} (s : Int) {n : Int} (h0 : 0 ≤ i) (h1 : i ≤ 100000000000000) (hn : n ≤ 1000000) : ∃ b i' s', spec_l1Cur_pick.f c i s n = some (b, i', s') ∧ 0 ≤ b ∧ (b < n ∨ b = 0) ∧ i ≤ i' ∧ i' ≤ i + 2 := by
  unfold spec_l1Cur_pick.f
  by_cases h : n ≤ 1
  · rw [if_pos h]
    exact ⟨_, _, _, rfl, by omega, .inr rfl, by omega, by omega⟩
  · rw [if_neg h]
    obtain ⟨b, s1, e1, b0, b1⟩ := next_ok hc s h0 (by omega)
    rw [e1, kz]
    have hmod : ∀ x : Int, 0 ≤ x → 0 ≤ Int.tmod x n ∧ Int.tmod x n < n := fun x hx => ⟨Int.tmod_nonneg _ hx, Int.tmod_lt_of_pos _ (by omega)⟩
    by_cases h2 : n > 200
    · rw [if_pos h2]
      dsimp only
      obtain ⟨d, s2, e2, d0, d1⟩ := next_ok hc (i := i + 1) s1 (by omega) (by omega)
      rw [e2, kz, if_neg (by omega)]
      dsimp only
      rw [wrap_id (x := b * 256) (by omega) (by omega), wrap_id (by omega) (by omega)]
      obtain ⟨m0, m1⟩ := hmod (b * 256 + d) (by omega)
      exact ⟨_, _, _, rfl, m0, .inl m1, by omega, by omega⟩
    · rw [if_neg h2, if_neg (by omega)]
      dsimp only
      obtain ⟨m0, m1⟩ := hmod b b0
      exact ⟨_, _, _, rfl, m0, .inl m1, by omega, by omega⟩
theorem one_ok {c : List Int} (hc : Bts c) {i : Int} (s : Int) {n : Int} (h0 : 0 ≤ i) (h1 : i ≤ 100000000000000) (hn : n ≤ 1000000) : ∃ b i' s', spec_l1Cur_one.f c i s n = some (b, i', s') ∧ i ≤ i' ∧ i' ≤ i + 2 := by
  unfold spec_l1Cur_one.f
  obtain ⟨b, i', s', e, _, _, h2, h3⟩ := pick_ok hc s h0 h1 hn
  rw [e, kz]
  exact ⟨_, _, _, rfl, h2, h3⟩
theorem among_ok {c : List Int} (hc : Bts c) {i : Int} (s : Int) (l : List Int) (h0 : 0 ≤ i) (h1 : i ≤ 100000000000000) (hl : l ≠ []) (hn : l.length ≤ 1000) : ∃ v i' s', spec_l1Cur_among.f c i s l = some (v, i', s') ∧ v ∈ l ∧ i ≤ i' ∧ i' ≤ i + 2 := by
  unfold spec_l1Cur_among.f
  have hpos : 0 < l.length := List.length_pos_iff.2 hl
  obtain ⟨b, i', s', e, b0, b1, h2, h3⟩ := pick_ok hc s (n := (l.length : Int)) h0 h1 (by omega)
  have hb : b < (l.length : Int) := by omega
  rw [e, kz, if_pos b0, if_pos hb]
  refine ⟨_, _, _, rfl, ?_, h2, h3⟩
  have : b.toNat < l.length := by omega
  unfold rd
  rw [List.getD_eq_getElem?_getD, List.getElem?_eq_getElem this]
  exact List.getElem_mem this
theorem prefix_ok {c : List Int} (hc : Bts c) {i : Int} (s : Int) (h0 : 0 ≤ i) (h1 : i ≤ 10000000000000) : ∃ a n i' s', spec_l1Cur_prefix.f c i s = some (a, n, i', s') ∧ i ≤ i' ∧ i' ≤ i + 8 := by
  unfold spec_l1Cur_prefix.f
  obtain ⟨n, i1, s1, e1, m1, a1, b1⟩ := among_ok hc s [0, 1, 2, 3, 4, 8, 8, 16, 24, 31, 32] h0 (by omega) (by simp) (by simp)
  rw [e1, kz]
  dsimp only
  obtain ⟨a, i2, s2, e2, m2, a2, b2⟩ := among_ok hc s1 [0, 167772160, 167837696, 3232235520, 2147483648, 4294967295, 3758096384, 167772165] (i := i1) (by omega) (by omega) (by simp) (by simp)
  rw [e2, kz]
  have hn : 0 ≤ n ∧ n ≤ 32 := by
    simp only [kb, List.not_mem_nil, or_false] at m1
    omega
  have hs := sz_pos n
  dsimp only
  rw [spec_l1Size_is _ hn.1 hn.2, kz, if_neg (by omega)]
  obtain ⟨b, i3, s3, e3, _, _, a3, b3⟩ := pick_ok hc s2 (n := 30) (i := i2) (by omega) (by omega) (by omega)
  rw [e3, kz]
  dsimp only
  by_cases hb : b = 0
  · rw [if_pos hb]; exact ⟨_, _, _, _, rfl, by omega, by omega⟩
  · rw [if_neg hb]
    by_cases hb2 : b = 1
    · rw [if_pos hb2]
      obtain ⟨v, i4, s4, e4, _, a4, b4⟩ := among_ok hc s3 [(-1), 33] (i := i3) (by omega) (by omega) (by simp) (by simp)
      rw [e4, kz]
      exact ⟨_, _, _, _, rfl, by dsimp only; omega, by dsimp only; omega⟩
    · rw [if_neg hb2]; exact ⟨_, _, _, _, rfl, by omega, by omega⟩
theorem fine_ok {c : List Int} (hc : Bts c) {i : Int} (s : Int) (h0 : 0 ≤ i) (h1 : i ≤ 10000000000000) : ∃ a n i' s', spec_l1Cur_fine.f c i s = some (a, n, i', s') ∧ good a n = true ∧ i ≤ i' ∧ i' ≤ i + 8 := by
  unfold spec_l1Cur_fine.f
  obtain ⟨a, n, i1, s1, e1, a1, b1⟩ := prefix_ok hc s h0 h1
  rw [e1, kz, spec_GoodPrefix_is, kz]
  dsimp only
  by_cases hg : good a n = true
  · rw [if_pos hg]; exact ⟨_, _, _, _, rfl, hg, a1, b1⟩
  · rw [if_neg hg]
    refine ⟨_, _, _, _, rfl, ?_, a1, b1⟩
    refine good_iff.2 ⟨by omega, by omega, by omega, by omega, ?_⟩
    have : sz 8 = 16777216 := by unfold sz; rfl
    rw [this]; rfl
theorem addr_ok {c : List Int} (hc : Bts c) {i : Int} (s : Int) (h0 : 0 ≤ i) (h1 : i ≤ 10000000000000) : ∃ a i' s', spec_l1Cur_addr.f c i s = some (a, i', s') ∧ -1 ≤ a ∧ a ≤ 4294967296 ∧ i ≤ i' ∧ i' ≤ i + 2 := by
  unfold spec_l1Cur_addr.f
  obtain ⟨a, i1, s1, e1, m1, a1, b1⟩ := among_ok hc s [0, 167772165, 167837705, 3232235527, 4294967295, 2147483648, (-1), 4294967296] h0 (by omega) (by simp) (by simp)
  rw [e1, kz]
  simp only [kb, List.not_mem_nil, or_false] at m1
  exact ⟨_, _, _, rfl, by dsimp only; omega, by dsimp only; omega, by dsimp only; omega, by dsimp only; omega⟩
def cntH (l : List S86) : Nat := l.countP (fun a => a.f2)
structure TInv (l : List S86) (dep par : Int → Int) (cur : Int) : Prop where
  dep0 : dep 0 = 0
  kid : ∀ i b : Int, 0 ≤ i → i < (l.length : Int) → (b = 0 ∨ b = 1) → halfv (rd_T86 l i) b ≠ 0 → i < halfv (rd_T86 l i) b ∧ halfv (rd_T86 l i) b < (l.length : Int) ∧ dep (halfv (rd_T86 l i) b) = dep i + 1 ∧ par (halfv (rd_T86 l i) b) = 2 * i + b
  up : ∀ x : Int, 0 < x → x < (l.length : Int) → ∃ j b : Int, 0 ≤ j ∧ j < x ∧ (b = 0 ∨ b = 1) ∧ halfv (rd_T86 l j) b = x
  rng : ∀ i : Int, 0 ≤ i → i < (l.length : Int) → 0 ≤ dep i ∧ dep i ≤ 32
  val : ∀ i : Int, 0 ≤ i → i < (l.length : Int) → isVal (rd_T86 l i).f3 = true ∧ ((rd_T86 l i).f2 = true ∨ (rd_T86 l i).f3 = 0)
  full : ∀ i : Int, 0 < i → i < (l.length : Int) → i ≠ cur → (rd_T86 l i).f2 = true ∨ (rd_T86 l i).f0 ≠ 0 ∨ (rd_T86 l i).f1 ≠ 0
theorem halfv_zero (a : S86) : halfv a 0 = a.f0 := rfl
theorem halfv_one (a : S86) : halfv a 1 = a.f1 := rfl
theorem TInv.kids {l : List S86} {dep par : Int → Int} {cur : Int} (h : TInv l dep par cur) : KidsV l := fun i h0 h1 => by
  constructor
  · by_cases e : (rd_T86 l i).f0 = 0
    · exact .inl e
    · have := h.kid i 0 h0 h1 (.inl rfl) e
      rw [halfv_zero] at this
      exact .inr ⟨by omega, by omega⟩
  · by_cases e : (rd_T86 l i).f1 = 0
    · exact .inl e
    · have := h.kid i 1 h0 h1 (.inr rfl) e
      rw [halfv_one] at this
      exact .inr ⟨by omega, by omega⟩
def DS (l : List S86) (dep par : Int → Int) (m : Int) (D : List Int) : Prop := D.length = l.length ∧ ∀ x : Int, 0 ≤ x → x < (l.length : Int) → rd D x = if x = 0 ∨ par x < m then dep x else -1
theorem TInv.par_lt {l : List S86} {dep par : Int → Int} {cur : Int} (h : TInv l dep par cur) {x : Int} (h0 : 0 < x) (h1 : x < (l.length : Int)) : par x < 2 * x := by
  obtain ⟨j, b, j0, j1, hb, e⟩ := h.up x h0 h1
  have := (h.kid j b j0 (by omega) hb (by omega)).2.2.2
  rw [e] at this
  omega
theorem DS.step {l : List S86} {dep par : Int → Int} {cur : Int} (h : TInv l dep par cur) {i b : Int} {D : List Int} (h0 : 0 ≤ i) (h1 : i < (l.length : Int)) (hb : b = 0 ∨ b = 1) (hD : DS l dep par (2 * i + b) D) : ∃ D', tput (l.length : Int) i D (halfv (rd_T86 l i) b) = some D' ∧ DS l dep par (2 * i + b + 1) D' := by
  have hdi : rd D i = dep i := by
    rw [hD.2 i h0 h1, if_pos]
    by_cases e : i = 0
    · exact .inl e
    · have := h.par_lt (x := i) (by omega) h1
      exact .inr (by omega)
  unfold tput
  by_cases e : halfv (rd_T86 l i) b = 0
  · rw [if_pos e]
    refine ⟨D, rfl, hD.1, fun x x0 x1 => ?_⟩
    rw [hD.2 x x0 x1]
    by_cases hx : x = 0
    · rw [if_pos (.inl hx), if_pos (.inl hx)]
    · obtain ⟨j, c, j0, j1, hc, e2⟩ := h.up x (by omega) x1
      have hp := (h.kid j c j0 (by omega) hc (by omega)).2.2.2
      rw [e2] at hp
      have hne : par x ≠ 2 * i + b := fun hh => by
        have ej : j = i := by omega
        have ec : c = b := by omega
        rw [ej, ec, e] at e2
        exact hx e2.symm
      by_cases hlt : par x < 2 * i + b
      · rw [if_pos (.inr hlt), if_pos (.inr (by omega))]
      · rw [if_neg (by omega), if_neg (by omega)]
  · obtain ⟨k1, k2, k3, k4⟩ := h.kid i b h0 h1 hb e
    have hx : rd D (halfv (rd_T86 l i) b) < 0 := by
      rw [hD.2 _ (by omega) k2, if_neg (by omega)]
      omega
    rw [if_neg e, if_pos ⟨by omega, by omega, hx⟩]
    refine ⟨_, rfl, by rw [ky]; exact hD.1, fun x x0 x1 => ?_⟩
    have hDl := hD.1
    by_cases ex : halfv (rd_T86 l i) b = x
    · rw [← ex, rd_set_eq (by omega) (by omega), hdi, if_pos (.inr (by omega)), k3]
    · rw [rd_set_ne (by omega) x0 ex, hD.2 x x0 x1]
      by_cases hz : x = 0
      · rw [if_pos (.inl hz), if_pos (.inl hz)]
      · obtain ⟨j, c, j0, j1, hc, e2⟩ := h.up x (by omega) x1
        have hp := (h.kid j c j0 (by omega) hc (by omega)).2.2.2
        rw [e2] at hp
        have hne : par x ≠ 2 * i + b := fun hh => by
          have ej : j = i := by omega
          have ec : c = b := by omega
          rw [ej, ec] at e2
          exact ex e2
        by_cases hlt : par x < 2 * i + b
        · rw [if_pos (.inr hlt), if_pos (.inr (by omega))]
        · rw [if_neg (by omega), if_neg (by omega)]
theorem nrd_mid {l pre rest : List S86} {a : S86} (e : l = pre ++ a :: rest) : rd_T86 l (pre.length : Int) = a := by rw [e]; exact rdm_Node _ _ _
theorem trieOk_of {l : List S86} {dep par : Int → Int} (h : TInv l dep par 0) : ∀ (rest pre : List S86) (D : List Int) (c : Int), l = pre ++ rest → DS l dep par (2 * (pre.length : Int)) D → c + cntH rest ≤ 30 → trieOk (l.length : Int) rest (pre.length : Int) D c = true
  | [], pre, D, c, _, _, hc => by
    rw [trieOk]
    simp [cntH] at hc
    exact decide_eq_true hc
  | a :: rest, pre, D, c, e, hD, hc => by
    have hlen : (pre.length : Int) < (l.length : Int) := by rw [e]; simp; omega
    have ea := nrd_mid e
    have h0 : (0 : Int) ≤ (pre.length : Int) := by omega
    have hr := h.rng _ h0 hlen
    have hdi : rd D (pre.length : Int) = dep (pre.length : Int) := by
      rw [hD.2 _ h0 hlen, if_pos]
      by_cases e0 : (pre.length : Int) = 0
      · exact .inl e0
      · have := h.par_lt (x := (pre.length : Int)) (by omega) hlen
        exact .inr (by omega)
    obtain ⟨v1, v2⟩ := h.val _ h0 hlen
    have hfull := h.full (pre.length : Int)
    obtain ⟨D1, t1, d1⟩ := DS.step h h0 hlen (.inl rfl) (by rw [Int.add_zero]; exact hD)
    obtain ⟨D2, t2, d2⟩ := DS.step h h0 hlen (b := 1) (.inr rfl) (by rw [Int.add_zero] at d1; exact d1)
    rw [ea] at v1 v2 hfull t1 t2
    rw [halfv_zero] at t1
    rw [halfv_one] at t2
    have hok : nodeOk (pre.length : Int) a = true := by
      unfold nodeOk
      rw [v1, kp]
      cases h2 : a.f2 with
      | true => rfl
      | false =>
        rw [kn]
        have h3 : a.f3 = 0 := v2.resolve_left (by rw [h2]; decide)
        rw [h3]
        by_cases hp : 0 < (pre.length : Int)
        · have := (hfull hp hlen (by omega)).resolve_left (by rw [h2]; decide)
          rcases this with h4 | h4
          · simp [h4]
          · simp [h4]
        · have hp' : ¬ 0 < pre.length := by omega
          simp [hp']
    rw [trieOk, if_neg (by rw [hdi]; omega), if_pos hok, t1, kz, t2]
    dsimp only
    have hcnt : cntH (a :: rest) = cntH rest + if a.f2 = true then 1 else 0 := by unfold cntH; rw [kg]
    rw [hcnt] at hc
    have ih := trieOk_of h rest (pre ++ [a]) D2 (if a.f2 = true then c + 1 else c) (by rw [e]; simp) (by
      have : 2 * (pre.length : Int) + 1 + 1 = 2 * ((pre ++ [a]).length : Int) := by simp; omega
      rw [← this]; exact d2) (by split <;> rename_i hh <;> simp only [hh, if_true, if_false] at hc <;> (try simp at hc) <;> omega)
    simpa using ih
theorem goodTrie_of {l : List S86} {dep par : Int → Int} (h : TInv l dep par 0) (h1 : 1 ≤ l.length) (h2 : l.length ≤ 2000) (hc : cntH l ≤ 30) (hp : ∀ x, 0 < x → x < (l.length : Int) → 0 ≤ par x) : goodTrie l = true := by
  unfold goodTrie
  rw [if_pos ⟨by omega, by omega⟩]
  refine trieOk_of h l [] _ 0 rfl ⟨by simp, fun x x0 x1 => ?_⟩ (by rw [Int.zero_add]; exact_mod_cast hc)
  by_cases e : x = 0
  · subst e
    rw [if_pos (.inl rfl), h.dep0]
    show rd ((kv l.length (-1 : Int)).set (0 : Int).toNat 0) 0 = 0
    exact rd_set_eq (x := 0) (by omega) (by rw [List.length_replicate]; omega)
  · have hpx := hp x (by omega) x1
    rw [if_neg (by simp; omega)]
    have := rd_set_ne (D := kv l.length (-1 : Int)) (x := 0) (y := x) (v := 0) (by omega) x0 (fun h => e h.symm)
    rw [show ((0 : Int).toNat) = 0 from rfl] at this
    rw [this]
    unfold rd
    rw [List.getD_eq_getElem?_getD, List.getElem?_replicate, if_pos (by omega)]
    rfl
theorem cntH_set : ∀ (l : List S86) (i : Nat) (a : S86), cntH (l.set i a) ≤ cntH l + 1
  | [], i, a => by simp [cntH]
  | x :: l, 0, a => by
    unfold cntH
    rw [List.set_cons_zero, kg, kg]
    split <;> split <;> omega
  | x :: l, i + 1, a => by
    have := cntH_set l i a
    unfold cntH at *
    rw [List.set_cons_succ, kg, kg]
    omega
theorem cntH_set_same : ∀ (l : List S86) (i : Nat) (a : S86), (∀ h : i < l.length, a.f2 = (l[i]).f2) → cntH (l.set i a) = cntH l
  | [], i, a, _ => by simp [cntH]
  | x :: l, 0, a, h => by
    have := h (by simp)
    unfold cntH
    rw [List.set_cons_zero, kg, kg, this]
    rfl
  | x :: l, i + 1, a, h => by
    have := cntH_set_same l i a (fun hi => h (by rw [ke]; omega))
    unfold cntH at *
    rw [List.set_cons_succ, kg, kg, this]
theorem halfv_with (a : S86) {b b' n : Int} (hb : b = 0 ∨ b = 1) (hb' : b' = 0 ∨ b' = 1) : halfv (withHalf a b n) b' = if b = b' then n else halfv a b' := by
  rcases hb with rfl | rfl <;> rcases hb' with rfl | rfl <;> simp [halfv, withHalf]
theorem with_f2 (a : S86) (b n : Int) : (withHalf a b n).f2 = a.f2 ∧ (withHalf a b n).f3 = a.f3 := by
  unfold withHalf; split <;> exact ⟨rfl, rfl⟩
theorem with_ne (a : S86) (b : Int) {n : Int} (hn : n ≠ 0) : (withHalf a b n).f0 ≠ 0 ∨ (withHalf a b n).f1 ≠ 0 := by
  unfold withHalf; split
  · exact .inr hn
  · exact .inl hn
theorem TInv.grow {l : List S86} {dep par : Int → Int} {i b : Int} (h : TInv l dep par i) (h0 : 0 ≤ i) (h1 : i < (l.length : Int)) (hb : b = 0 ∨ b = 1) (hz : halfv (rd_T86 l i) b = 0) (hd : dep i + 1 ≤ 32) :
    TInv ((l ++ [(⟨0, 0, false, 0⟩ : S86)]).set i.toNat (withHalf (rd_T86 l i) b (l.length : Int))) (fun x => if x = (l.length : Int) then dep i + 1 else dep x) (fun x => if x = (l.length : Int) then 2 * i + b else par x) (l.length : Int) := by
  have hlen : ((((l ++ [(⟨0, 0, false, 0⟩ : S86)]).set i.toNat (withHalf (rd_T86 l i) b (l.length : Int))).length : Nat) : Int) = (l.length : Int) + 1 := by simp
  have at_i : rd_T86 ((l ++ [(⟨0, 0, false, 0⟩ : S86)]).set i.toNat (withHalf (rd_T86 l i) b (l.length : Int))) i = withHalf (rd_T86 l i) b (l.length : Int) := nrd_set_eq h0 (by simp; omega)
  have at_n : rd_T86 ((l ++ [(⟨0, 0, false, 0⟩ : S86)]).set i.toNat (withHalf (rd_T86 l i) b (l.length : Int))) (l.length : Int) = ⟨0, 0, false, 0⟩ := by
    rw [nrd_set_ne h0 (by omega) (by omega)]; exact nrd_last
  have at_j : ∀ j : Int, 0 ≤ j → j < (l.length : Int) → j ≠ i → rd_T86 ((l ++ [(⟨0, 0, false, 0⟩ : S86)]).set i.toNat (withHalf (rd_T86 l i) b (l.length : Int))) j = rd_T86 l j := fun j j0 j1 hne => by
    rw [nrd_set_ne h0 j0 (Ne.symm hne)]; exact nrd_app j0 j1
  refine ⟨?_, fun j c j0 j1 hc hne => ?_, fun x x0 x1 => ?_, fun j j0 j1 => ?_, fun j j0 j1 => ?_, fun j j0 j1 hne => ?_⟩
  · try dsimp only
    rw [if_neg (by omega)]; exact h.dep0
  · rw [hlen] at j1 ⊢
    try dsimp only
    by_cases e : j = i
    · subst e
      rw [at_i, halfv_with _ hb hc] at hne ⊢
      by_cases e2 : b = c
      · rw [if_pos e2, if_pos rfl, if_pos rfl, if_neg (by omega)]
        exact ⟨h1, by omega, rfl, by omega⟩
      · rw [if_neg e2] at hne ⊢
        obtain ⟨k1, k2, k3, k4⟩ := h.kid j c j0 h1 hc hne
        rw [if_neg (by omega), if_neg (by omega), if_neg (by omega)]
        exact ⟨k1, by omega, k3, k4⟩
    · by_cases e2 : j = (l.length : Int)
      · subst e2
        rw [at_n] at hne
        exact (hne (by unfold halfv; split <;> rfl)).elim
      · rw [at_j j j0 (by omega) e] at hne ⊢
        obtain ⟨k1, k2, k3, k4⟩ := h.kid j c j0 (by omega) hc hne
        rw [if_neg (by omega), if_neg (by omega), if_neg (by omega)]
        exact ⟨k1, by omega, k3, k4⟩
  · rw [hlen] at x1
    by_cases e : x = (l.length : Int)
    · exact ⟨i, b, h0, by omega, hb, by rw [at_i, halfv_with _ hb hb, if_pos rfl, e]⟩
    · obtain ⟨j, c, j0, j1, hc, e2⟩ := h.up x x0 (by omega)
      refine ⟨j, c, j0, j1, hc, ?_⟩
      by_cases e3 : j = i
      · subst e3
        have : b ≠ c := fun hh => by rw [← hh, hz] at e2; omega
        rw [at_i, halfv_with _ hb hc, if_neg this, e2]
      · rw [at_j j j0 (by omega) e3, e2]
  · rw [hlen] at j1
    try dsimp only
    split
    · have := h.rng i h0 h1; omega
    · exact h.rng j j0 (by omega)
  · rw [hlen] at j1
    by_cases e : j = i
    · subst e
      have := h.val j j0 h1
      rw [at_i, (with_f2 _ _ _).1, (with_f2 _ _ _).2]
      exact this
    · by_cases e2 : j = (l.length : Int)
      · subst e2
        rw [at_n]
        exact ⟨by decide, .inr rfl⟩
      · rw [at_j j j0 (by omega) e]
        exact h.val j j0 (by omega)
  · rw [hlen] at j1
    by_cases e : j = i
    · subst e
      rw [at_i]
      exact .inr (with_ne _ _ (by omega))
    · rw [at_j j (by omega) (by omega) e]
      exact h.full j j0 (by omega) e
theorem TInv.go {l : List S86} {dep par : Int → Int} {i b : Int} (h : TInv l dep par i) (h0 : 0 ≤ i) (h1 : i < (l.length : Int)) (hz : halfv (rd_T86 l i) b ≠ 0) (n : Int) : TInv l dep par n := by
  refine ⟨h.dep0, h.kid, h.up, h.rng, h.val, fun j j0 j1 _ => ?_⟩
  by_cases e : j = i
  · subst e
    right
    by_cases hb : b = 1
    · right; intro hh; exact hz (by unfold halfv; rw [if_pos hb]; exact hh)
    · left; intro hh; exact hz (by unfold halfv; rw [if_neg hb]; exact hh)
  · exact h.full j j0 j1 e
theorem insP_inv (v a : Int) (hv : isVal v = true) : ∀ (m : Nat) (d : Int) (l : List S86) (i : Int) (dep par : Int → Int), TInv l dep par i → 0 ≤ i → i < (l.length : Int) → dep i = d → d + m ≤ 32 → (∀ x, 0 < x → x < (l.length : Int) → 0 ≤ par x) →
    ∃ dep' par', TInv (insP v a m d l i) dep' par' 0 ∧ (∀ x, 0 < x → x < ((insP v a m d l i).length : Int) → 0 ≤ par' x) ∧ cntH (insP v a m d l i) ≤ cntH l + 1
  | 0, d, l, i, dep, par, h, h0, h1, hd, hm, hp => by
    have at_i : rd_T86 (l.set i.toNat ⟨(rd_T86 l i).f0, (rd_T86 l i).f1, true, v⟩) i = ⟨(rd_T86 l i).f0, (rd_T86 l i).f1, true, v⟩ := nrd_set_eq h0 h1
    have at_j : ∀ j : Int, 0 ≤ j → j ≠ i → rd_T86 (l.set i.toNat ⟨(rd_T86 l i).f0, (rd_T86 l i).f1, true, v⟩) j = rd_T86 l j := fun j j0 hne => nrd_set_ne h0 j0 (Ne.symm hne)
    have hh : ∀ (j c : Int), 0 ≤ j → halfv (rd_T86 (l.set i.toNat ⟨(rd_T86 l i).f0, (rd_T86 l i).f1, true, v⟩) j) c = halfv (rd_T86 l j) c := fun j c j0 => by
      by_cases e : j = i
      · subst e; rw [at_i]; unfold halfv; split <;> rfl
      · rw [at_j j j0 e]
    rw [insP]
    refine ⟨dep, par, ⟨h.dep0, fun j c j0 j1 hc hne => ?_, fun x x0 x1 => ?_, fun j j0 j1 => ?_, fun j j0 j1 => ?_, fun j j0 j1 _ => ?_⟩, fun x x0 x1 => ?_, cntH_set _ _ _⟩
    · rw [ky] at j1 ⊢
      rw [hh j c j0] at hne ⊢
      exact h.kid j c j0 j1 hc hne
    · rw [ky] at x1
      obtain ⟨j, c, j0, j1, hc, e⟩ := h.up x x0 x1
      exact ⟨j, c, j0, j1, hc, by rw [hh j c j0]; exact e⟩
    · rw [ky] at j1; exact h.rng j j0 j1
    · rw [ky] at j1
      by_cases e : j = i
      · subst e; rw [at_i]; exact ⟨hv, .inl rfl⟩
      · rw [at_j j j0 e]; exact h.val j j0 j1
    · rw [ky] at j1
      by_cases e : j = i
      · subst e; rw [at_i]; exact .inl rfl
      · rw [at_j j (by omega) e]; exact h.full j j0 j1 e
    · rw [ky] at x1; exact hp x x0 x1
  | m + 1, d, l, i, dep, par, h, h0, h1, hd, hm, hp => by
    have hb := bitv_range a d
    rw [insP]
    by_cases hz : halfv (rd_T86 l i) (bitv a d) = 0
    · rw [if_pos hz]
      have hg := h.grow h0 h1 hb hz (by omega)
      obtain ⟨dep', par', i1, i2, i3⟩ := insP_inv v a hv m (d + 1) _ (l.length : Int) _ _ hg (by omega) (by simp; omega) (by rw [if_pos rfl]; omega) (by omega) (fun x x0 x1 => by
        try dsimp only
        split
        · omega
        · exact hp x x0 (by simp at x1; omega))
      refine ⟨dep', par', i1, i2, ?_⟩
      have hc : cntH ((l ++ [(⟨0, 0, false, 0⟩ : S86)]).set i.toNat (withHalf (rd_T86 l i) (bitv a d) (l.length : Int))) = cntH l := by
        rw [cntH_set_same _ _ _ (fun hi => by
          rw [(with_f2 _ _ _).1]
          have hil : i.toNat < l.length := by omega
          rw [List.getElem_append_left hil]
          unfold rd_T86
          rw [List.getD_eq_getElem?_getD, List.getElem?_eq_getElem hil]
          rfl)]
        unfold cntH
        rw [List.countP_append]
        simp
      omega
    · rw [if_neg hz]
      obtain ⟨k1, k2, k3, k4⟩ := h.kid i (bitv a d) h0 h1 hb hz
      exact insP_inv v a hv m (d + 1) l _ dep par (h.go h0 h1 hz _) (by omega) k2 (by omega) (by omega) hp
def buildP (es : List S39) : List S86 := es.foldl (fun t e => insP e.f1 e.f0.f0 e.f0.f1.toNat 0 t 0) [⟨0, 0, false, 0⟩]
theorem build_inv : ∀ (es : List S39) (t : List S86) (dep par : Int → Int), (∀ e, e ∈ es → good e.f0.f0 e.f0.f1 = true ∧ isVal e.f1 = true) → TInv t dep par 0 → 1 ≤ t.length → (∀ x, 0 < x → x < (t.length : Int) → 0 ≤ par x) →
    ∃ dep' par', TInv (es.foldl (fun t e => insP e.f1 e.f0.f0 e.f0.f1.toNat 0 t 0) t) dep' par' 0 ∧ (∀ x, 0 < x → x < ((es.foldl (fun t e => insP e.f1 e.f0.f0 e.f0.f1.toNat 0 t 0) t).length : Int) → 0 ≤ par' x) ∧ cntH (es.foldl (fun t e => insP e.f1 e.f0.f0 e.f0.f1.toNat 0 t 0) t) ≤ cntH t + es.length ∧ 1 ≤ (es.foldl (fun t e => insP e.f1 e.f0.f0 e.f0.f1.toNat 0 t 0) t).length ∧ (es.foldl (fun t e => insP e.f1 e.f0.f0 e.f0.f1.toNat 0 t 0) t).length ≤ t.length + 32 * es.length
  | [], t, dep, par, _, h, h1, hp => ⟨dep, par, h, hp, by simp, h1, by simp⟩
  | e :: es, t, dep, par, he, h, h1, hp => by
    obtain ⟨g1, g2⟩ := he e (by simp)
    obtain ⟨f1, f2, _⟩ := good_iff.1 g1
    obtain ⟨dep1, par1, i1, i2, i3⟩ := insP_inv e.f1 e.f0.f0 g2 e.f0.f1.toNat 0 t 0 dep par h (by omega) (by omega) h.dep0 (by omega) hp
    have hl := insP_len e.f1 e.f0.f0 e.f0.f1.toNat 0 t 0
    obtain ⟨dep2, par2, j1, j2, j3, j4, j5⟩ := build_inv es _ dep1 par1 (fun x hx => he x (by simp [hx])) i1 (by omega) i2
    rw [List.foldl_cons]
    refine ⟨dep2, par2, j1, j2, ?_, j4, ?_⟩
    · rw [ke]; omega
    · rw [ke]; omega
theorem start_inv : TInv [(⟨0, 0, false, 0⟩ : S86)] (fun _ => 0) (fun _ => 0) 0 := by
  have at0 : rd_T86 [(⟨0, 0, false, 0⟩ : S86)] 0 = ⟨0, 0, false, 0⟩ := rdm_Node [] _ []
  refine ⟨rfl, fun i b h0 h1 _ hne => ?_, fun x x0 x1 => ?_, fun i h0 h1 => ⟨by omega, by omega⟩, fun i h0 h1 => ?_, fun i h0 h1 => ?_⟩
  · have : i = 0 := by simp at h1; omega
    subst this
    rw [at0] at hne
    exact (hne (by unfold halfv; split <;> rfl)).elim
  · simp at x1; omega
  · have : i = 0 := by simp at h1; omega
    subst this
    rw [at0]
    exact ⟨by decide, .inr rfl⟩
  · simp at h1; omega
theorem goodTable_vals {l : List S39} (h : goodTable l = true) : l.length ≤ 30 ∧ ∀ e, e ∈ l → good e.f0.f0 e.f0.f1 = true ∧ isVal e.f1 = true := by
  unfold goodTable at h
  simp only [ku] at h
  exact ⟨of_decide_eq_true h.1.1, fun e he => ⟨rising_good h.1.2 (ent e) (List.mem_map.2 ⟨e, he, rfl⟩), List.all_eq_true.1 h.2 e he⟩⟩
theorem impl_Build_l0 (es : List S39) (hl : es.length ≤ 30) (hg : ∀ e, e ∈ es → good e.f0.f0 e.f0.f1 = true ∧ isVal e.f1 = true) : ∀ (rest pre : List S39) (t : List S86) (dep par : Int → Int), es = pre ++ rest → TInv t dep par 0 → 1 ≤ t.length → t.length ≤ 1 + 32 * pre.length → (∀ x, 0 < x → x < (t.length : Int) → 0 ≤ par x) → cntH t ≤ pre.length →
    ∃ K, ∀ k, K ≤ k → impl_BuildTrie.l0 k t es (es.length : Int) (pre.length : Int) = some (rest.foldl (fun t e => insP e.f1 e.f0.f0 e.f0.f1.toNat 0 t 0) t, true) := by
  intro rest
  induction rest with
  | nil =>
    intro pre t dep par e h h1 h2 hp hc
    have hpl : pre.length = es.length := by rw [e]; simp
    obtain ⟨K, hK⟩ := impl_GoodTrie_is t
    replace hK : ∀ k, K ≤ k → impl_GoodTrie.f k t = some (goodTrie t) := hK
    refine ⟨K + 1, fun k hk => ?_⟩
    obtain ⟨k, rfl⟩ : ∃ k', k = k' + 1 := ⟨k - 1, by omega⟩
    rw [impl_BuildTrie.l0, if_neg (by omega), hK k (by omega), kz, goodTrie_of h h1 (by omega) (by omega) hp, if_pos rfl]
    rfl
  | cons x rest ih =>
    intro pre t dep par e h h1 h2 hp hc
    have hlen : pre.length < es.length := by rw [e]; simp
    obtain ⟨g1, g2⟩ := hg x (by rw [e]; simp)
    obtain ⟨f1, f2, _⟩ := good_iff.1 g1
    have hr : rd_T39 es (pre.length : Int) = x := by rw [e]; exact rdm_Entry _ _ _
    have hw : wrap64 ((pre.length : Int) + 1) = ((pre ++ [x]).length : Int) := by rw [wrap_id (by omega) (by omega)]; simp
    obtain ⟨dep1, par1, i1, i2, i3⟩ := insP_inv x.f1 x.f0.f0 g2 x.f0.f1.toNat 0 t 0 dep par h (by omega) (by omega) h.dep0 (by omega) hp
    have hl2 := insP_len x.f1 x.f0.f0 x.f0.f1.toNat 0 t 0
    obtain ⟨K, hK⟩ := ih (pre ++ [x]) _ dep1 par1 (by rw [e]; simp) i1 (by omega) (by simp; omega) i2 (by simp; omega)
    refine ⟨K + 34, fun k hk => ?_⟩
    obtain ⟨k, rfl⟩ : ∃ k', k = k' + 1 := ⟨k - 1, by omega⟩
    rw [impl_BuildTrie.l0, if_pos (by omega), if_pos (len_nn _), if_pos (by omega), hr, impl_inserted_is t x.f0.f0 x.f0.f1 x.f1 k h.kids h1 (by omega) f1 f2 (by omega), kz, hw, hK k (by omega)]
    rfl
theorem spec_Build_l0 (es : List S39) (hl : es.length ≤ 30) (hg : ∀ e, e ∈ es → good e.f0.f0 e.f0.f1 = true ∧ isVal e.f1 = true) : ∀ (rest pre : List S39) (t : List S86) (dep par : Int → Int), es = pre ++ rest → TInv t dep par 0 → 1 ≤ t.length → t.length ≤ 1 + 32 * pre.length → (∀ x, 0 < x → x < (t.length : Int) → 0 ≤ par x) →
    ∀ k, 34 + rest.length ≤ k → spec_l2Build.l0 k t es (es.length : Int) (pre.length : Int) = some (rest.foldl (fun t e => insP e.f1 e.f0.f0 e.f0.f1.toNat 0 t 0) t) := by
  intro rest
  induction rest with
  | nil =>
    intro pre t dep par e h h1 h2 hp k hk
    have hpl : pre.length = es.length := by rw [e]; simp
    obtain ⟨k, rfl⟩ : ∃ k', k = k' + 1 := ⟨k - 1, by omega⟩
    rw [spec_l2Build.l0, if_neg (by omega)]
    rfl
  | cons x rest ih =>
    intro pre t dep par e h h1 h2 hp k hk
    rw [ke] at hk
    have hlen : pre.length < es.length := by rw [e]; simp
    obtain ⟨g1, g2⟩ := hg x (by rw [e]; simp)
    obtain ⟨f1, f2, _⟩ := good_iff.1 g1
    have hr : rd_T39 es (pre.length : Int) = x := by rw [e]; exact rdm_Entry _ _ _
    have hw : wrap64 ((pre.length : Int) + 1) = ((pre ++ [x]).length : Int) := by rw [wrap_id (by omega) (by omega)]; simp
    obtain ⟨dep1, par1, i1, i2, i3⟩ := insP_inv x.f1 x.f0.f0 g2 x.f0.f1.toNat 0 t 0 dep par h (by omega) (by omega) h.dep0 (by omega) hp
    have hl2 := insP_len x.f1 x.f0.f0 x.f0.f1.toNat 0 t 0
    obtain ⟨k, rfl⟩ : ∃ k', k = k' + 1 := ⟨k - 1, by omega⟩
    rw [spec_l2Build.l0, if_pos (by omega), if_pos (len_nn _), if_pos (by omega), hr, spec_l2Insert_is t x.f0.f0 x.f0.f1 x.f1 k h.kids h1 (by omega) f1 f2 (by omega), kz, hw]
    exact ih (pre ++ [x]) _ dep1 par1 (by rw [e]; simp) i1 (by omega) (by simp; omega) i2 k (by omega)
theorem BuildTrie_same (l : List S39) (hl : l.length ≤ 1048576) : ∃ r : List S86 × Bool, Ev (fun k => spec_BuildTrie.f k l) r ∧ Ev (fun k => impl_BuildTrie.f k l) r ∧ r.1.length ≤ 2000 ∧ (goodTable l = true → r = (buildP l, true)) ∧ (¬ goodTable l = true → r = ([], false)) := by
  by_cases h : goodTable l = true
  · obtain ⟨h30, hg⟩ := goodTable_vals h
    obtain ⟨dep', par', j1, j2, j3, j4, j5⟩ := build_inv l _ _ _ hg start_inv (by simp) (fun x x0 x1 => kf _)
    obtain ⟨K, hK⟩ := impl_Build_l0 l h30 hg l [] [⟨0, 0, false, 0⟩] _ _ rfl start_inv (by simp) (by simp) (fun x x0 x1 => kf _) (by simp [cntH])
    have hS := spec_Build_l0 l h30 hg l [] [⟨0, 0, false, 0⟩] _ _ rfl start_inv (by simp) (by simp) (fun x x0 x1 => kf _)
    refine ⟨(buildP l, true), ⟨l.length + 50, fun k hk => ?_⟩, ⟨K + l.length + 50, fun k hk => ?_⟩, ?_, fun _ => rfl, fun hn => (hn h).elim⟩
    · show spec_BuildTrie.f k l = _
      unfold spec_BuildTrie.f spec_l2Build.f
      rw [spec_GoodTable_is k l hl (by omega), kz, if_pos h]
      have := hS k (by omega)
      rw [show ((([] : List S39).length : Nat) : Int) = 0 from rfl] at this
      rw [this]
      rfl
    · show impl_BuildTrie.f k l = _
      unfold impl_BuildTrie.f
      rw [impl_GoodTable_is k l hl (by omega), kz, if_pos h]
      exact hK k (by omega)
    · show (buildP l).length ≤ 2000
      unfold buildP
      simp only [kq] at j5
      omega
  · refine ⟨([], false), ⟨l.length + 50, fun k hk => ?_⟩, ⟨l.length + 50, fun k hk => ?_⟩, by simp, fun hn => (h hn).elim, fun _ => rfl⟩
    · show spec_BuildTrie.f k l = _
      unfold spec_BuildTrie.f
      rw [spec_GoodTable_is k l hl (by omega), kz, if_neg h]
    · show impl_BuildTrie.f k l = _
      unfold impl_BuildTrie.f
      rw [impl_GoodTable_is k l hl (by omega), kz, if_neg h]
def code (a n : Int) : Int := (4294967296 + a) / sz n
theorem code_zero {a : Int} (h0 : 0 ≤ a) (h1 : a ≤ 4294967295) : code a 0 = 1 := by
  unfold code; rw [sz_lit.1]; omega
theorem code_pos {a n : Int} (h0 : 0 ≤ a) (n0 : 0 ≤ n) : 1 ≤ code a n := by
  unfold code
  have h1 := sz_pos n
  have h2 := sz_le n0
  exact (Int.le_ediv_iff_mul_le (by omega)).2 (by omega)
theorem and_one {x : Int} (h0 : 0 ≤ x) (h1 : x ≤ 4294967295) : Go.bits .and .i64 x 1 = x % 2 := by
  show IntKind.i64.wrap ((BitVec.ofInt 64 x &&& BitVec.ofInt 64 1).toNat : Int) = x % 2
  obtain ⟨n, rfl⟩ := ko h0
  have e : (BitVec.ofInt 64 (n : Int)).toNat = n := by
    rw [BitVec.toNat_ofInt]
    omega
  have e1 : (BitVec.ofInt 64 1).toNat = 1 := by decide
  rw [BitVec.toNat_and, e, e1, Nat.and_one_is_mod, i64_w, wrap_id (by omega) (by omega)]
  omega
theorem bitv_is {a d : Int} (h0 : 0 ≤ a) (h1 : a ≤ 4294967295) (d0 : 0 ≤ d) (d1 : d ≤ 31) : bitv a d = (a / sz (d + 1)) % 2 := by
  unfold bitv
  have e : shr .i64 a (31 - d) = a / sz (d + 1) := by
    obtain ⟨n, hn⟩ := ko (show 0 ≤ 31 - d by omega)
    unfold sz shr
    rw [show (32 - (d + 1)).toNat = n by omega, hn, show min (n : Int).toNat IntKind.i64.bits = n by show min (n : Int).toNat 64 = n; omega]
  have hs := sz_pos (d + 1)
  rw [e, and_one (Int.ediv_nonneg h0 (by omega)) (by
    have := Int.ediv_le_self (sz (d + 1)) h0
    omega)]
theorem code_succ {a d : Int} (h0 : 0 ≤ a) (h1 : a ≤ 4294967295) (d0 : 0 ≤ d) (d1 : d < 32) : code a (d + 1) = 2 * code a d + bitv a d := by
  rw [bitv_is h0 h1 d0 (by omega)]
  unfold code
  have hs := sz_pos (d + 1)
  have e0 : sz 0 = sz (d + 1) * 2 ^ (d + 1 - 0).toNat := sz_add (by omega) (by omega) (by omega)
  have e1 : (2 : Int) ^ (d + 1 - 0).toNat = 2 * 2 ^ d.toNat := by
    rw [show (d + 1 - 0).toNat = d.toNat + 1 by omega, Int.pow_succ]; omega
  rw [sz_lit.1, e1] at e0
  have e2 : (4294967296 + a) / sz (d + 1) = a / sz (d + 1) + 2 * 2 ^ d.toNat := by
    rw [e0, Int.add_comm, Int.add_mul_ediv_left _ _ (by omega)]
  have e3 : (4294967296 + a) / sz d = (4294967296 + a) / sz (d + 1) / 2 := by
    rw [sz_succ d0 d1, Int.mul_comm, Int.ediv_ediv_of_nonneg (by omega)]
  rw [e3, e2]
  generalize a / sz (d + 1) = q
  generalize (2 : Int) ^ d.toNat = p
  omega
theorem code_row {a n x : Int} (ha : a % sz n = 0) (h0 : a ≤ x) (h1 : x ≤ a + sz n - 1) (n0 : 0 ≤ n) (n1 : n ≤ 32) : code x n = code a n := by
  unfold code
  have hs := sz_pos n
  obtain ⟨q, hq⟩ := kj ha
  obtain ⟨p, hp⟩ : sz n ∣ 4294967296 := by rw [← sz_lit.1]; exact sz_dvd (by omega) n0 n1
  have e : ∀ r : Int, 0 ≤ r → r < sz n → (4294967296 + (a + r)) / sz n = p + q := fun r r0 r1 => by
    rw [hq, hp, show sz n * p + (sz n * q + r) = r + sz n * (p + q) by rw [kr]; omega, Int.add_mul_ediv_left _ _ (by omega), Int.ediv_eq_zero_of_lt r0 r1]
    omega
  have := e (x - a) (by omega) (by omega)
  rw [show a + (x - a) = x by omega] at this
  rw [this]
  have := e 0 (by omega) (by omega)
  rw [Int.add_zero] at this
  exact this.symm
theorem code_mul {a n : Int} (h : good a n = true) : sz n * code a n = 4294967296 + a := by
  obtain ⟨n0, n1, _, _, ha⟩ := good_iff.1 h
  have hs := sz_pos n
  obtain ⟨q, hq⟩ := kj ha
  obtain ⟨p, hp⟩ : sz n ∣ 4294967296 := by rw [← sz_lit.1]; exact sz_dvd (by omega) n0 n1
  unfold code
  have : sz n ∣ 4294967296 + a := by rw [hq, hp, ← kr]; exact Int.dvd_mul_right _ _
  exact Int.mul_ediv_cancel' this
theorem code_inj {a n a' n' : Int} (h : good a n = true) (h' : good a' n' = true) (e : code a n = code a' n') : a = a' ∧ n = n' := by
  obtain ⟨n0, n1, a0, a1, _⟩ := good_iff.1 h
  obtain ⟨m0, m1, b0, b1, _⟩ := good_iff.1 h'
  have e1 := code_mul h
  have e2 := code_mul h'
  rw [e] at e1
  have far : ∀ {n m a b q : Int}, 0 ≤ n → n < m → m ≤ 32 → sz n * q = 4294967296 + a → sz m * q = 4294967296 + b → a ≤ 4294967295 → 0 ≤ b → False := fun {n m a b q} n0 hnm hm e1 e2 ha hb => by
    have h1 := sz_succ n0 (by omega)
    have h2 := sz_mono (n := n + 1) (m := m) (by omega) (by omega) hm
    have hq : 0 ≤ q := by
      by_cases hq : 0 ≤ q
      · exact hq
      · have := kk (show q ≤ 0 by omega) (show 0 ≤ sz m by have := sz_pos m; omega)
        omega
    have h3 := Int.mul_le_mul_of_nonneg_right h2 hq
    rw [h1, kl] at e1
    omega
  have hn : n = n' := by
    rcases Int.lt_trichotomy n n' with h | h | h
    · exact (far n0 h m1 e1 e2 a1 b0).elim
    · exact h
    · exact (far m0 h n1 e2 e1 b1 a0).elim
  rw [hn, e2] at e1
  exact ⟨by omega, hn⟩
structure PInv (l : List S86) (pc : Int → Int) : Prop where
  root : pc 0 = 1
  pos : ∀ i : Int, 0 ≤ i → i < (l.length : Int) → 1 ≤ pc i
  kid : ∀ i b : Int, 0 ≤ i → i < (l.length : Int) → (b = 0 ∨ b = 1) → halfv (rd_T86 l i) b ≠ 0 → i < halfv (rd_T86 l i) b ∧ halfv (rd_T86 l i) b < (l.length : Int) ∧ pc (halfv (rd_T86 l i) b) = 2 * pc i + b
  up : ∀ x : Int, 0 < x → x < (l.length : Int) → ∃ j b : Int, 0 ≤ j ∧ j < x ∧ (b = 0 ∨ b = 1) ∧ halfv (rd_T86 l j) b = x
  inj : ∀ i j : Int, 0 ≤ i → i < (l.length : Int) → 0 ≤ j → j < (l.length : Int) → pc i = pc j → i = j
def Holds (l : List S86) (pc : Int → Int) (q v : Int) : Prop := ∃ j : Int, 0 ≤ j ∧ j < (l.length : Int) ∧ pc j = q ∧ (rd_T86 l j).f2 = true ∧ (rd_T86 l j).f3 = v
theorem PInv.grow {l : List S86} {pc : Int → Int} {i b : Int} (h : PInv l pc) (h0 : 0 ≤ i) (h1 : i < (l.length : Int)) (hb : b = 0 ∨ b = 1) (hz : halfv (rd_T86 l i) b = 0) :
    PInv ((l ++ [(⟨0, 0, false, 0⟩ : S86)]).set i.toNat (withHalf (rd_T86 l i) b (l.length : Int))) (fun x => if x = (l.length : Int) then 2 * pc i + b else pc x) ∧ ∀ q v, Holds ((l ++ [(⟨0, 0, false, 0⟩ : S86)]).set i.toNat (withHalf (rd_T86 l i) b (l.length : Int))) (fun x => if x = (l.length : Int) then 2 * pc i + b else pc x) q v ↔ Holds l pc q v := by
  have hlen : ((((l ++ [(⟨0, 0, false, 0⟩ : S86)]).set i.toNat (withHalf (rd_T86 l i) b (l.length : Int))).length : Nat) : Int) = (l.length : Int) + 1 := by simp
  have at_i : rd_T86 ((l ++ [(⟨0, 0, false, 0⟩ : S86)]).set i.toNat (withHalf (rd_T86 l i) b (l.length : Int))) i = withHalf (rd_T86 l i) b (l.length : Int) := nrd_set_eq h0 (by simp; omega)
  have at_n : rd_T86 ((l ++ [(⟨0, 0, false, 0⟩ : S86)]).set i.toNat (withHalf (rd_T86 l i) b (l.length : Int))) (l.length : Int) = ⟨0, 0, false, 0⟩ := by
    rw [nrd_set_ne h0 (by omega) (by omega)]; exact nrd_last
  have at_j : ∀ j : Int, 0 ≤ j → j < (l.length : Int) → j ≠ i → rd_T86 ((l ++ [(⟨0, 0, false, 0⟩ : S86)]).set i.toNat (withHalf (rd_T86 l i) b (l.length : Int))) j = rd_T86 l j := fun j j0 j1 hne => by
    rw [nrd_set_ne h0 j0 (Ne.symm hne)]; exact nrd_app j0 j1
  have fresh : ∀ j : Int, 0 ≤ j → j < (l.length : Int) → pc j ≠ 2 * pc i + b := fun j j0 j1 e => by
    have hpi := h.pos i h0 h1
    by_cases ej : j = 0
    · have := h.root
      rw [ej] at e
      omega
    · obtain ⟨p, c, p0, p1, hc, e2⟩ := h.up j (by omega) j1
      have k := (h.kid p c p0 (by omega) hc (by omega)).2.2
      rw [e2] at k
      have hp : p = i := h.inj p i p0 (by omega) h0 h1 (by omega)
      have hcb : c = b := by rw [hp] at k; omega
      rw [hp, hcb, hz] at e2
      omega
  generalize (l ++ [(⟨0, 0, false, 0⟩ : S86)]).set i.toNat (withHalf (rd_T86 l i) b (l.length : Int)) = l' at hlen at_i at_n at_j ⊢
  have pc_n : (fun x => if x = (l.length : Int) then 2 * pc i + b else pc x) (l.length : Int) = 2 * pc i + b := if_pos rfl
  have pc_j : ∀ j : Int, j ≠ (l.length : Int) → (fun x => if x = (l.length : Int) then 2 * pc i + b else pc x) j = pc j := fun j hj => if_neg hj
  generalize (fun x => if x = (l.length : Int) then 2 * pc i + b else pc x) = pc' at pc_n pc_j ⊢
  refine ⟨⟨?_, fun j j0 j1 => ?_, fun j c j0 j1 hc hne => ?_, fun x x0 x1 => ?_, fun x y x0 x1 y0 y1 e => ?_⟩, fun q v => ⟨?_, ?_⟩⟩
  · rw [pc_j _ (by omega)]; exact h.root
  · rw [hlen] at j1
    by_cases e : j = (l.length : Int)
    · have := h.pos i h0 h1
      rw [e, pc_n]; omega
    · rw [pc_j _ e]; exact h.pos j j0 (by omega)
  · rw [hlen] at j1 ⊢
    by_cases e : j = i
    · subst e
      rw [at_i, halfv_with _ hb hc] at hne ⊢
      by_cases e2 : b = c
      · rw [if_pos e2, pc_n, pc_j _ (by omega)]
        exact ⟨h1, by omega, by omega⟩
      · rw [if_neg e2] at hne ⊢
        obtain ⟨k1, k2, k3⟩ := h.kid j c j0 h1 hc hne
        rw [pc_j _ (by omega), pc_j _ (by omega)]
        exact ⟨k1, by omega, k3⟩
    · by_cases e2 : j = (l.length : Int)
      · subst e2
        rw [at_n] at hne
        exact (hne (by unfold halfv; split <;> rfl)).elim
      · rw [at_j j j0 (by omega) e] at hne ⊢
        obtain ⟨k1, k2, k3⟩ := h.kid j c j0 (by omega) hc hne
        rw [pc_j _ (by omega), pc_j _ (by omega)]
        exact ⟨k1, by omega, k3⟩
  · rw [hlen] at x1
    by_cases e : x = (l.length : Int)
    · exact ⟨i, b, h0, by omega, hb, by rw [at_i, halfv_with _ hb hb, if_pos rfl, e]⟩
    · obtain ⟨j, c, j0, j1, hc, e2⟩ := h.up x x0 (by omega)
      refine ⟨j, c, j0, j1, hc, ?_⟩
      by_cases e3 : j = i
      · subst e3
        have : b ≠ c := fun hh => by rw [← hh, hz] at e2; omega
        rw [at_i, halfv_with _ hb hc, if_neg this, e2]
      · rw [at_j j j0 (by omega) e3, e2]
  · rw [hlen] at x1 y1
    by_cases ex : x = (l.length : Int)
    · by_cases ey : y = (l.length : Int)
      · omega
      · rw [ex, pc_n, pc_j _ ey] at e
        exact (fresh y y0 (by omega) e.symm).elim
    · by_cases ey : y = (l.length : Int)
      · rw [ey, pc_n, pc_j _ ex] at e
        exact (fresh x x0 (by omega) e).elim
      · rw [pc_j _ ex, pc_j _ ey] at e
        exact h.inj x y x0 (by omega) y0 (by omega) e
  · rintro ⟨j, j0, j1, e, e2, e3⟩
    rw [hlen] at j1
    by_cases ej : j = (l.length : Int)
    · rw [ej, at_n] at e2
      exact absurd e2 (by decide)
    · rw [pc_j _ ej] at e
      by_cases ei : j = i
      · rw [ei, at_i] at e2 e3
        rw [(with_f2 _ _ _).1] at e2
        rw [(with_f2 _ _ _).2] at e3
        exact ⟨i, h0, h1, by rw [← ei]; exact e, e2, e3⟩
      · rw [at_j j j0 (by omega) ei] at e2 e3
        exact ⟨j, j0, by omega, e, e2, e3⟩
  · rintro ⟨j, j0, j1, e, e2, e3⟩
    refine ⟨j, j0, by omega, by rw [pc_j _ (by omega)]; exact e, ?_⟩
    by_cases ei : j = i
    · subst ei
      rw [at_i, (with_f2 _ _ _).1, (with_f2 _ _ _).2]
      exact ⟨e2, e3⟩
    · rw [at_j j j0 j1 ei]
      exact ⟨e2, e3⟩
theorem ins_holds (v a : Int) (a0 : 0 ≤ a) (a1 : a ≤ 4294967295) : ∀ (m : Nat) (d : Int) (l : List S86) (i : Int) (pc : Int → Int), PInv l pc → 0 ≤ i → i < (l.length : Int) → pc i = code a d → 0 ≤ d → d + m ≤ 32 →
    ∃ pc', PInv (insP v a m d l i) pc' ∧ ∀ q w, Holds (insP v a m d l i) pc' q w ↔ (q = code a (d + m) ∧ w = v) ∨ (q ≠ code a (d + m) ∧ Holds l pc q w)
  | 0, d, l, i, pc, h, i0, i1, e, d0, d1 => by
    rw [insP]
    have at_i : rd_T86 (l.set i.toNat (⟨(rd_T86 l i).f0, (rd_T86 l i).f1, true, v⟩ : S86)) i = ⟨(rd_T86 l i).f0, (rd_T86 l i).f1, true, v⟩ := nrd_set_eq i0 i1
    have at_j : ∀ j : Int, 0 ≤ j → j ≠ i → rd_T86 (l.set i.toNat (⟨(rd_T86 l i).f0, (rd_T86 l i).f1, true, v⟩ : S86)) j = rd_T86 l j := fun j j0 hj => nrd_set_ne i0 j0 (Ne.symm hj)
    have hlen : (((l.set i.toNat (⟨(rd_T86 l i).f0, (rd_T86 l i).f1, true, v⟩ : S86)).length : Nat) : Int) = (l.length : Int) := by simp
    generalize l.set i.toNat (⟨(rd_T86 l i).f0, (rd_T86 l i).f1, true, v⟩ : S86) = l' at at_i at_j hlen ⊢
    have same : ∀ j b : Int, 0 ≤ j → halfv (rd_T86 l' j) b = halfv (rd_T86 l j) b := fun j b j0 => by
      by_cases ej : j = i
      · rw [ej, at_i]; rfl
      · rw [at_j j j0 ej]
    refine ⟨pc, ⟨h.root, fun j j0 j1 => h.pos j j0 (by omega), fun j b j0 j1 hb hne => ?_, fun x x0 x1 => ?_, fun x y x0 x1 y0 y1 => h.inj x y x0 (by omega) y0 (by omega)⟩, fun q w => ?_⟩
    · rw [same j b j0] at hne ⊢
      rw [hlen]
      exact h.kid j b j0 (by omega) hb hne
    · obtain ⟨j, b, j0, j1, hb, e2⟩ := h.up x x0 (by omega)
      exact ⟨j, b, j0, j1, hb, by rw [same j b j0, e2]⟩
    · rw [show d + ((0 : Nat) : Int) = d by omega, ← e]
      constructor
      · rintro ⟨j, j0, j1, e1, e2, e3⟩
        by_cases ej : j = i
        · rw [ej, at_i] at e3
          exact .inl ⟨by rw [← e1, ej], e3.symm⟩
        · rw [at_j j j0 ej] at e2 e3
          exact .inr ⟨fun hq => ej (h.inj j i j0 (by omega) i0 i1 (by rw [e1, hq])), j, j0, by omega, e1, e2, e3⟩
      · rintro (⟨rfl, rfl⟩ | ⟨hq, j, j0, j1, e1, e2, e3⟩)
        · exact ⟨i, i0, by omega, rfl, by rw [at_i], by rw [at_i]⟩
        · have ej : j ≠ i := fun hj => hq (by rw [← e1, hj])
          exact ⟨j, j0, by omega, e1, by rw [at_j j j0 ej]; exact e2, by rw [at_j j j0 ej]; exact e3⟩
  | m + 1, d, l, i, pc, h, i0, i1, e, d0, d1 => by
    rw [insP, show d + ((m + 1 : Nat) : Int) = d + 1 + (m : Int) by omega]
    by_cases hz : halfv (rd_T86 l i) (bitv a d) = 0
    · rw [if_pos hz]
      obtain ⟨g1, g2⟩ := h.grow i0 i1 (bitv_range a d) hz
      obtain ⟨pc', p1, p2⟩ := ins_holds v a a0 a1 m (d + 1) _ (l.length : Int) _ g1 (by omega) (by simp; omega) (by
        show (if (l.length : Int) = (l.length : Int) then _ else _) = _
        rw [if_pos rfl, e, code_succ a0 a1 d0 (by omega)]) (by omega) (by omega)
      exact ⟨pc', p1, fun q w => by rw [p2, g2]⟩
    · rw [if_neg hz]
      obtain ⟨k1, k2, k3⟩ := h.kid i _ i0 i1 (bitv_range a d) hz
      exact ins_holds v a a0 a1 m (d + 1) l _ pc h (by omega) k2 (by rw [k3, e, code_succ a0 a1 d0 (by omega)]) (by omega) (by omega)
theorem start_pinv : PInv [(⟨0, 0, false, 0⟩ : S86)] (fun _ => 1) := ⟨rfl, fun _ _ _ => kf _, fun i b i0 i1 hb hne => by
    have : i = 0 := by simp at i1; omega
    subst this
    exact (hne (by show halfv ⟨0, 0, false, 0⟩ b = 0; unfold halfv; split <;> rfl)).elim, fun x x0 x1 => by simp at x1; omega, fun i j i0 i1 j0 j1 _ => by simp at i1 j1; omega⟩
theorem start_holds (q v : Int) : ¬ Holds [(⟨0, 0, false, 0⟩ : S86)] (fun _ => 1) q v := by
  rintro ⟨j, j0, j1, _, e, _⟩
  have : j = 0 := by simp at j1; omega
  subst this
  exact absurd e (by decide)
theorem build_holds : ∀ (es : List S39) (t : List S86) (pc : Int → Int), PInv t pc → 1 ≤ t.length → (∀ e, e ∈ es → good e.f0.f0 e.f0.f1 = true) → es.Pairwise (fun e e' => code e.f0.f0 e.f0.f1 ≠ code e'.f0.f0 e'.f0.f1) →
    ∃ pc', PInv (es.foldl (fun t e => insP e.f1 e.f0.f0 e.f0.f1.toNat 0 t 0) t) pc' ∧ ∀ q w, Holds (es.foldl (fun t e => insP e.f1 e.f0.f0 e.f0.f1.toNat 0 t 0) t) pc' q w ↔ (∃ e, e ∈ es ∧ code e.f0.f0 e.f0.f1 = q ∧ e.f1 = w) ∨ ((∀ e, e ∈ es → code e.f0.f0 e.f0.f1 ≠ q) ∧ Holds t pc q w)
  | [], t, pc, h, _, _, _ => ⟨pc, h, fun q w => by simp⟩
  | e :: es, t, pc, h, ht, hg, hp => by
    obtain ⟨n0, n1, a0, a1, _⟩ := good_iff.1 (hg e (by simp))
    obtain ⟨pc1, h1, r1⟩ := ins_holds e.f1 e.f0.f0 a0 a1 e.f0.f1.toNat 0 t 0 pc h (by omega) (by omega) (by rw [h.root, code_zero a0 a1]) (by omega) (by omega)
    have hlen := (insP_len e.f1 e.f0.f0 e.f0.f1.toNat 0 t 0).1
    obtain ⟨hp1, hp2⟩ := kt.1 hp
    obtain ⟨pc2, h2, r2⟩ := build_holds es _ pc1 h1 (by omega) (fun e' he => hg e' (by simp [he])) hp2
    refine ⟨pc2, h2, fun q w => ?_⟩
    rw [List.foldl_cons, r2, r1, show (0 : Int) + (e.f0.f1.toNat : Int) = e.f0.f1 by omega]
    constructor
    · rintro (⟨e', he, e1, e2⟩ | ⟨hn, ⟨e1, e2⟩ | ⟨e1, e2⟩⟩)
      · exact .inl ⟨e', by simp [he], e1, e2⟩
      · exact .inl ⟨e, by simp, e1.symm, e2.symm⟩
      · exact .inr ⟨fun e' he => by
          rcases kb.1 he with rfl | he
          · exact Ne.symm e1
          · exact hn e' he, e2⟩
    · rintro (⟨e', he, e1, e2⟩ | ⟨hn, e2⟩)
      · rcases kb.1 he with rfl | he
        · exact .inr ⟨fun e'' he' => by rw [← e1]; exact Ne.symm (hp1 e'' he'), .inl ⟨e1.symm, e2.symm⟩⟩
        · exact .inl ⟨e', he, e1, e2⟩
      · exact .inr ⟨fun e' he => hn e' (by simp [he]), .inr ⟨Ne.symm (hn e (by simp)), e2⟩⟩
theorem code_low {b m : Int} (b0 : 0 ≤ b) (m0 : 0 ≤ m) (m1 : m ≤ 32) : 4294967296 ≤ sz m * code b m := by
  have hs := sz_pos m
  obtain ⟨p, hp⟩ : sz m ∣ 4294967296 := by rw [← sz_lit.1]; exact sz_dvd (by omega) m0 m1
  have h1 : p ≤ code b m := by
    unfold code
    refine (Int.le_ediv_iff_mul_le (by omega)).2 ?_
    rw [Int.mul_comm]; omega
  have := kk h1 (show 0 ≤ sz m by omega)
  omega
theorem code_high (a n : Int) : sz n * code a n ≤ 4294967296 + a ∧ 4294967296 + a < sz n * code a n + sz n := by
  have hs := sz_pos n
  unfold code
  have h1 := Int.mul_ediv_self_le (x := 4294967296 + a) (k := sz n) (by omega)
  have h2 := Int.lt_mul_ediv_self_add (x := 4294967296 + a) (k := sz n) (by omega)
  exact ⟨h1, h2⟩
theorem code_len {a b n m : Int} (n0 : 0 ≤ n) (n1 : n ≤ 32) (m0 : 0 ≤ m) (m1 : m ≤ 32) (a0 : 0 ≤ a) (a1 : a ≤ 4294967295) (b0 : 0 ≤ b) (b1 : b ≤ 4294967295) (e : code a n = code b m) : n = m := by
  have far : ∀ {n m a b : Int}, 0 ≤ n → n < m → m ≤ 32 → a ≤ 4294967295 → 0 ≤ b → code a n = code b m → False := fun {n m a b} n0 hnm hm ha hb e => by
    have h1 := sz_succ n0 (by omega)
    have h2 := sz_mono (n := n + 1) (m := m) (by omega) (by omega) hm
    have h3 := code_low hb (by omega) hm
    have h4 := (code_high a n).1
    rw [e, h1, kl] at h4
    have hq : 0 ≤ code b m := by have := code_pos hb (show 0 ≤ m by omega); omega
    have h5 := Int.mul_le_mul_of_nonneg_right h2 hq
    omega
  rcases Int.lt_trichotomy n m with h | h | h
  · exact (far n0 h m1 a1 b0 e).elim
  · exact h
  · exact (far m0 h n1 b1 a0 e.symm).elim
theorem has_code {a n x : Int} (h : good a n = true) : (a ≤ x ∧ x ≤ a + sz n - 1) ↔ code x n = code a n := by
  obtain ⟨n0, n1, a0, a1, ha⟩ := good_iff.1 h
  constructor
  · rintro ⟨h0, h1⟩
    exact code_row ha h0 h1 n0 n1
  · intro e
    have h1 := code_mul h
    have h2 := code_high x n
    rw [e, h1] at h2
    omega
theorem PInv.stop {l : List S86} {pc : Int → Int} (h : PInv l pc) {x i d : Int} (x0 : 0 ≤ x) (x1 : x ≤ 4294967295) (i0 : 0 ≤ i) (i1 : i < (l.length : Int)) (e : pc i = code x d) (d0 : 0 ≤ d) (hz : halfv (rd_T86 l i) (bitv x d) = 0) :
    ∀ (m : Nat) (j : Int), 0 ≤ j → j < (l.length : Int) → d + m < 32 → pc j ≠ code x (d + m + 1) := by
  have step : ∀ (m : Nat) (j : Int), 0 ≤ j → j < (l.length : Int) → d + m < 32 → pc j = code x (d + m + 1) → ∃ p, 0 ≤ p ∧ p < (l.length : Int) ∧ 0 < j ∧ halfv (rd_T86 l p) (bitv x (d + m)) = j ∧ pc p = code x (d + m) := fun m j j0 j1 hm ej => by
    rw [code_succ x0 x1 (d := d + m) (by omega) (by omega)] at ej
    have hb := bitv_range x (d + m)
    have hc := code_pos (n := d + m) x0 (by omega)
    have hne : j ≠ 0 := fun h0 => by
      rw [h0, h.root] at ej
      omega
    obtain ⟨p, b, p0, p1, hb', e2⟩ := h.up j (by omega) j1
    have k := (h.kid p b p0 (by omega) hb' (by omega)).2.2
    rw [e2] at k
    have eb : b = bitv x (d + m) := by omega
    exact ⟨p, p0, by omega, by omega, by rw [← eb]; exact e2, by omega⟩
  intro m
  induction m with
  | zero =>
    intro j j0 j1 hm ej
    obtain ⟨p, p0, p1, jp, e2, ep⟩ := step 0 j j0 j1 hm ej
    rw [show d + ((0 : Nat) : Int) = d by omega] at e2 ep
    have hp : p = i := h.inj p i p0 p1 i0 i1 (by rw [ep, e])
    rw [hp, hz] at e2
    omega
  | succ m ih =>
    intro j j0 j1 hm ej
    obtain ⟨p, p0, p1, jp, e2, ep⟩ := step (m + 1) j j0 j1 hm ej
    exact ih p p0 p1 (by omega) (by rw [ep]; congr 1; omega)
def IsLk (l : List S86) (pc : Int → Int) (x : Int) (r : Int × Int × Bool) : Prop :=
  (r = (0, 0, false) ∧ ∀ n w, 0 ≤ n → n ≤ 32 → ¬ Holds l pc (code x n) w) ∨ (∃ v d, r = (v, d, true) ∧ 0 ≤ d ∧ d ≤ 32 ∧ Holds l pc (code x d) v ∧ ∀ n w, d < n → n ≤ 32 → ¬ Holds l pc (code x n) w)
def BestTo (l : List S86) (pc : Int → Int) (x k0 v d : Int) : Prop :=
  (d = -1 ∧ ∀ n w, 0 ≤ n → n < k0 → ¬ Holds l pc (code x n) w) ∨ (0 ≤ d ∧ d < k0 ∧ Holds l pc (code x d) v ∧ ∀ n w, d < n → n < k0 → ¬ Holds l pc (code x n) w)
theorem BestTo.fin {l : List S86} {pc : Int → Int} {x k0 v d : Int} (h : BestTo l pc x k0 v d) (h33 : k0 ≤ 33) (hn : ∀ n w, k0 ≤ n → n ≤ 32 → ¬ Holds l pc (code x n) w) : ∃ r, (if d < 0 then some (0, 0, false) else some (v, d, true) : Option (Int × Int × Bool)) = some r ∧ IsLk l pc x r := by
  rcases h with ⟨rfl, h⟩ | ⟨d0, d1, h, h2⟩
  · refine ⟨_, if_pos (by omega), .inl ⟨rfl, fun n w n0 n1 => ?_⟩⟩
    by_cases hk : n < k0
    · exact h n w n0 hk
    · exact hn n w (by omega) n1
  · refine ⟨_, if_neg (by omega), .inr ⟨v, d, rfl, d0, by omega, h, fun n w n0 n1 => ?_⟩⟩
    by_cases hk : n < k0
    · exact h2 n w n0 hk
    · exact hn n w (by omega) n1
theorem lookup_res {l : List S86} {pc : Int → Int} (h : PInv l pc) {x : Int} (x0 : 0 ≤ x) (x1 : x ≤ 4294967295) : ∀ (m : Nat) (k0 i v d : Int), k0 + m = 32 → 0 ≤ k0 → 0 ≤ i → i < (l.length : Int) → pc i = code x k0 → BestTo l pc x k0 v d →
    ∃ r, Ev (fun k => impl_LookUp.l0 k l x v d i k0) r ∧ IsLk l pc x r := by
  intro m
  induction m with
  | zero =>
    intro k0 i v d hk h0 hi hi2 ei hB
    have mid : ∀ v d : Int, BestTo l pc x (k0 + 1) v d → ∃ r, Ev (fun k => impl_LookUp.j2 k l x v d i k0) r ∧ IsLk l pc x r := fun v d hB => by
      obtain ⟨r, h1, h2⟩ := hB.fin (by omega) (fun n w n0 n1 => by omega)
      exact ⟨r, Ev.step (fun k => by rw [impl_LookUp.j2, if_pos (by omega), h1]) (Ev.now _), h2⟩
    by_cases hf : (rd_T86 l i).f2 = true
    · obtain ⟨r, h1, h2⟩ := mid (rd_T86 l i).f3 k0 (.inr ⟨h0, by omega, ⟨i, hi, hi2, ei, hf, rfl⟩, fun n w n0 n1 => by omega⟩)
      exact ⟨r, Ev.step (fun k => by rw [impl_LookUp.l0, if_pos hi, if_pos hi2, if_pos hf]) h1, h2⟩
    · have hno : ∀ w, ¬ Holds l pc (code x k0) w := fun w ⟨j, j0, j1, e1, e2, _⟩ => hf (by rw [← h.inj j i j0 j1 hi hi2 (by rw [e1, ei])]; exact e2)
      obtain ⟨r, h1, h2⟩ := mid v d (by
        rcases hB with ⟨e, hB⟩ | ⟨d0, d1, hB, hB2⟩
        · exact .inl ⟨e, fun n w n0 n1 => by
            by_cases hk : n = k0
            · rw [hk]; exact hno w
            · exact hB n w n0 (by omega)⟩
        · exact .inr ⟨d0, by omega, hB, fun n w n0 n1 => by
            by_cases hk : n = k0
            · rw [hk]; exact hno w
            · exact hB2 n w n0 (by omega)⟩)
      exact ⟨r, Ev.step (fun k => by rw [impl_LookUp.l0, if_pos hi, if_pos hi2, if_neg hf]) h1, h2⟩
  | succ m ih =>
    intro k0 i v d hk h0 hi hi2 ei hB
    have mid : ∀ v d : Int, BestTo l pc x (k0 + 1) v d → ∃ r, Ev (fun k => impl_LookUp.j2 k l x v d i k0) r ∧ IsLk l pc x r := fun v d hB => by
      by_cases hz : halfv (rd_T86 l i) (bitv x k0) = 0
      · obtain ⟨r, h1, h2⟩ := hB.fin (by omega) (fun n w n0 n1 ⟨j, j0, j1, e1, _, _⟩ => by
          obtain ⟨q, hq⟩ := ko (show 0 ≤ n - k0 - 1 by omega)
          exact h.stop x0 x1 hi hi2 ei h0 hz q j j0 j1 (by omega) (by rw [e1]; congr 1; omega))
        exact ⟨r, Ev.step (fun k => by rw [impl_LookUp.j2, if_neg (by omega), if_pos hi, if_pos hi2, impl_bitOf_is _ _ h0 (by omega), kz, impl_half_is _ _ (bitv_range _ _), kz, if_pos hz, h1]) (Ev.now _), h2⟩
      · obtain ⟨k1, k2, k3⟩ := h.kid i _ hi hi2 (bitv_range x k0) hz
        obtain ⟨r, h1, h2⟩ := ih (k0 + 1) (halfv (rd_T86 l i) (bitv x k0)) v d (by omega) (by omega) (by omega) k2 (by rw [k3, ei, code_succ x0 x1 h0 (by omega)]) hB
        exact ⟨r, Ev.step (fun k => by rw [impl_LookUp.j2, if_neg (by omega), if_pos hi, if_pos hi2, impl_bitOf_is _ _ h0 (by omega), kz, impl_half_is _ _ (bitv_range _ _), kz, if_neg hz, wrap_id (by omega) (by omega)]) h1, h2⟩
    by_cases hf : (rd_T86 l i).f2 = true
    · obtain ⟨r, h1, h2⟩ := mid (rd_T86 l i).f3 k0 (.inr ⟨h0, by omega, ⟨i, hi, hi2, ei, hf, rfl⟩, fun n w n0 n1 => by omega⟩)
      exact ⟨r, Ev.step (fun k => by rw [impl_LookUp.l0, if_pos hi, if_pos hi2, if_pos hf]) h1, h2⟩
    · have hno : ∀ w, ¬ Holds l pc (code x k0) w := fun w ⟨j, j0, j1, e1, e2, _⟩ => hf (by rw [← h.inj j i j0 j1 hi hi2 (by rw [e1, ei])]; exact e2)
      obtain ⟨r, h1, h2⟩ := mid v d (by
        rcases hB with ⟨e, hB⟩ | ⟨d0, d1, hB, hB2⟩
        · exact .inl ⟨e, fun n w n0 n1 => by
            by_cases hk : n = k0
            · rw [hk]; exact hno w
            · exact hB n w n0 (by omega)⟩
        · exact .inr ⟨d0, by omega, hB, fun n w n0 n1 => by
            by_cases hk : n = k0
            · rw [hk]; exact hno w
            · exact hB2 n w n0 (by omega)⟩)
      exact ⟨r, Ev.step (fun k => by rw [impl_LookUp.l0, if_pos hi, if_pos hi2, if_neg hf]) h1, h2⟩
def ltE (e e' : S39) : Prop := e.f0.f0 < e'.f0.f0 ∨ (e.f0.f0 = e'.f0.f0 ∧ e.f0.f1 < e'.f0.f1)
theorem cmp_lt {a n b m : Int} (h : cmpP a n b m < 0) : a < b ∨ a = b ∧ n < m := by
  unfold cmpP at h
  by_cases h1 : a < b ∨ a = b ∧ n < m
  · exact h1
  · rw [if_neg h1] at h
    split at h <;> omega
theorem rising_pairwise : ∀ (l : List S39) (o : Option Pr2), risingFrom o (l.map ent) = true → (∀ q, o = some q → ∀ e, e ∈ l → q.1 < e.f0.f0 ∨ (q.1 = e.f0.f0 ∧ q.2 < e.f0.f1)) ∧ l.Pairwise ltE
  | [], o, _ => ⟨fun _ _ _ h => by simp at h, List.Pairwise.nil⟩
  | p :: t, o, h => by
    simp only [List.map_cons, risingFrom, ku] at h
    obtain ⟨r1, r2⟩ := rising_pairwise t (some (ent p)) h.2
    have hp := r1 _ rfl
    refine ⟨fun q hq x hx => ?_, kt.2 ⟨fun e he => hp e he, r2⟩⟩
    subst hq
    have h1 := cmp_lt (of_decide_eq_true h.1.2)
    rcases kb.1 hx with rfl | hx
    · exact h1
    · have h2 := hp x hx
      simp only [ent] at h1 h2
      omega
theorem table_rises {l : List S39} (h : goodTable l = true) : l.Pairwise ltE := by
  unfold goodTable at h
  simp only [ku] at h
  exact (rising_pairwise l none h.1.2).2
theorem table_codes {l : List S39} (h : goodTable l = true) : l.Pairwise (fun e e' => code e.f0.f0 e.f0.f1 ≠ code e'.f0.f0 e'.f0.f1) := by
  have hg := goodTable_good h
  refine List.Pairwise.imp_of_mem (fun {e e'} he he' hlt hc => ?_) (table_rises h)
  obtain ⟨h1, h2⟩ := code_inj (hg e he) (hg e' he') hc
  unfold ltE at hlt
  omega
def IsLong (es : List S39) (x : Int) (r : Int × Int × Int × Bool) : Prop :=
  (r = (0, 0, 0, false) ∧ ∀ e, e ∈ es → ¬ (e.f0.f0 ≤ x ∧ x ≤ e.f0.f0 + sz e.f0.f1 - 1)) ∨ (∃ e, e ∈ es ∧ r = (e.f0.f0, e.f0.f1, e.f1, true) ∧ (e.f0.f0 ≤ x ∧ x ≤ e.f0.f0 + sz e.f0.f1 - 1) ∧ ∀ e', e' ∈ es → (e'.f0.f0 ≤ x ∧ x ≤ e'.f0.f0 + sz e'.f0.f1 - 1) → e'.f0.f1 ≤ e.f0.f1)
theorem longest_res (es : List S39) (x : Int) (hl : es.length ≤ 1048576) (hg : ∀ e, e ∈ es → good e.f0.f0 e.f0.f1 = true) (x0 : 0 ≤ x) (x1 : x ≤ 4294967295) : ∀ (rest pre : List S39) (b : Int) (k : Nat), es = pre ++ rest → rest.length < k →
    ((b = -1 ∧ ∀ e, e ∈ pre → ¬ (e.f0.f0 ≤ x ∧ x ≤ e.f0.f0 + sz e.f0.f1 - 1)) ∨ (0 ≤ b ∧ b < (pre.length : Int) ∧ ((rd_T39 es b).f0.f0 ≤ x ∧ x ≤ (rd_T39 es b).f0.f0 + sz (rd_T39 es b).f0.f1 - 1) ∧ ∀ e', e' ∈ pre → (e'.f0.f0 ≤ x ∧ x ≤ e'.f0.f0 + sz e'.f0.f1 - 1) → e'.f0.f1 ≤ (rd_T39 es b).f0.f1)) →
    ∃ r, spec_l2Longest.l0 k es x b es (es.length : Int) (pre.length : Int) = some r ∧ IsLong es x r
  | [], pre, b, k, e, hk, hB => by
    obtain ⟨k, rfl⟩ : ∃ m, k = m + 1 := ⟨k - 1, by simp at hk; omega⟩
    have e' : es = pre := by rw [e, List.append_nil]
    rw [spec_l2Longest.l0, if_neg (by rw [e']; omega)]
    rcases hB with ⟨rfl, hB⟩ | ⟨b0, b1, hB, hB2⟩
    · exact ⟨_, if_pos (by omega), .inl ⟨rfl, by rw [e']; exact hB⟩⟩
    · have b2 : b < (es.length : Int) := by rw [e']; exact b1
      exact ⟨_, by rw [if_neg (by omega), if_pos b0, if_pos b2], .inr ⟨_, rd_mem_Entry b0 b2, rfl, hB, by rw [← e'] at hB2; exact hB2⟩⟩
  | a :: rest, pre, b, k, e, hk, hB => by
    obtain ⟨k, rfl⟩ : ∃ m, k = m + 1 := ⟨k - 1, by simp at hk; omega⟩
    have hlen : (pre.length : Int) < (es.length : Int) := by rw [e]; exact lt_mid _ _ _
    have ha : rd_T39 es (pre.length : Int) = a := by rw [e]; exact rdm_Entry _ _ _
    have hga := hg a (by rw [e]; simp)
    have hw : wrap64 ((pre.length : Int) + 1) = ((pre ++ [a]).length : Int) := by rw [wrap_id (by omega) (by omega)]; simp
    have ih := fun b => longest_res es x hl hg x0 x1 rest (pre ++ [a]) b k (by rw [e]; simp) (by simp at hk; omega)
    have keep : ¬ (a.f0.f0 ≤ x ∧ x ≤ a.f0.f0 + sz a.f0.f1 - 1) → ∃ r, spec_l2Longest.l0 k es x b es (es.length : Int) ((pre ++ [a]).length : Int) = some r ∧ IsLong es x r := fun hn => ih b (by
      rcases hB with ⟨hb, hB⟩ | ⟨b0, b1, hB, hB2⟩
      · exact .inl ⟨hb, fun e' he => by
          rcases kc.1 he with he | he
          · exact hB e' he
          · rw [kd.1 he]; exact hn⟩
      · exact .inr ⟨b0, by simp; omega, hB, fun e' he h' => by
          rcases kc.1 he with he | he
          · exact hB2 e' he h'
          · rw [kd.1 he] at h'; exact (hn h').elim⟩)
    have take : (a.f0.f0 ≤ x ∧ x ≤ a.f0.f0 + sz a.f0.f1 - 1) → (∀ e', e' ∈ pre → (e'.f0.f0 ≤ x ∧ x ≤ e'.f0.f0 + sz e'.f0.f1 - 1) → e'.f0.f1 ≤ a.f0.f1) → ∃ r, spec_l2Longest.l0 k es x (pre.length : Int) es (es.length : Int) ((pre ++ [a]).length : Int) = some r ∧ IsLong es x r := fun hy hm => ih (pre.length : Int) (.inr ⟨by omega, by simp; omega, by rw [ha]; exact hy, fun e' he h' => by
        rw [ha]
        rcases kc.1 he with he | he
        · exact hm e' he h'
        · rw [kd.1 he]; exact kf _⟩)
    rw [spec_l2Longest.l0, if_pos hlen, if_pos (by omega), if_pos hlen, ha, spec_l1HasAddr_is hga x0 x1, kz, hw]
    by_cases hy : a.f0.f0 ≤ x ∧ x ≤ a.f0.f0 + sz a.f0.f1 - 1
    · rw [if_pos (decide_eq_true hy)]
      rcases hB with ⟨hb, hB⟩ | ⟨b0, b1, hB, hB2⟩
      · rw [if_pos (by omega)]
        exact take hy (fun e' he h' => (hB e' he h').elim)
      · rw [if_neg (by omega), if_pos b0, if_pos (by omega)]
        by_cases hgt : a.f0.f1 > (rd_T39 es b).f0.f1
        · rw [if_pos hgt]
          exact take hy (fun e' he h' => by have := hB2 e' he h'; omega)
        · rw [if_neg hgt]
          exact ih b (.inr ⟨b0, by simp; omega, hB, fun e' he h' => by
            rcases kc.1 he with he | he
            · exact hB2 e' he h'
            · rw [kd.1 he]; omega⟩)
    · rw [if_neg (by simpa using hy)]
      exact keep hy
theorem ltE_asymm {e e' : S39} (h : ltE e e') : ¬ ltE e' e := by unfold ltE at *; omega
theorem rise_eq : ∀ (l m : List S39), l.Pairwise ltE → m.Pairwise ltE → (∀ e, e ∈ l ↔ e ∈ m) → l = m
  | [], [], _, _, _ => rfl
  | [], b :: m, _, _, h => absurd ((h b).2 (by simp)) (by simp)
  | a :: l, [], _, _, h => absurd ((h a).1 (by simp)) (by simp)
  | a :: l, b :: m, hl, hm, h => by
    obtain ⟨l1, l2⟩ := kt.1 hl
    obtain ⟨m1, m2⟩ := kt.1 hm
    have hab : a = b := by
      rcases kb.1 ((h a).1 (by simp)) with e | ha
      · exact e
      · rcases kb.1 ((h b).2 (by simp)) with e | hb
        · exact e.symm
        · exact absurd (l1 b hb) (ltE_asymm (m1 a ha))
    subst hab
    rw [rise_eq l m l2 m2 (fun e => ⟨fun he => by
      rcases kb.1 ((h e).1 (by simp [he])) with rfl | h'
      · exact absurd (l1 e he) (ltE_asymm (l1 e he))
      · exact h', fun he => by
      rcases kb.1 ((h e).2 (by simp [he])) with rfl | h'
      · exact absurd (m1 e he) (ltE_asymm (m1 e he))
      · exact h'⟩)]
theorem code_left {a n : Int} (h : good a n = true) (hn : n < 32) : good a (n + 1) = true ∧ code a (n + 1) = 2 * code a n := by
  obtain ⟨n0, n1, a0, a1, ha⟩ := good_iff.1 h
  have hg : good a (n + 1) = true := good_iff.2 ⟨by omega, by omega, a0, a1, Int.emod_eq_zero_of_dvd (Int.dvd_trans (sz_dvd n0 (by omega) (by omega)) (kj ha))⟩
  refine ⟨hg, ?_⟩
  have e1 := code_mul h
  have e2 := code_mul hg
  have hs := sz_pos (n + 1)
  rw [sz_succ n0 hn, kl, Int.mul_left_comm] at e1
  exact Int.eq_of_mul_eq_mul_left (show sz (n + 1) ≠ 0 by omega) (by rw [e2, e1])
theorem code_right {a n : Int} (h : good a n = true) (hn : n < 32) : good (a + sz (n + 1)) (n + 1) = true ∧ code (a + sz (n + 1)) (n + 1) = 2 * code a n + 1 := by
  obtain ⟨n0, n1, a0, a1, ha⟩ := good_iff.1 h
  have hs := sz_pos (n + 1)
  have h2 := sz_succ n0 hn
  have hd : sz (n + 1) ∣ a := Int.dvd_trans (sz_dvd n0 (by omega) (by omega)) (kj ha)
  have hle : a + sz n ≤ 4294967296 := by
    have e1 := code_mul h
    have hd0 : sz n ∣ 4294967296 := by rw [← sz_lit.1]; exact sz_dvd (by omega) n0 n1
    obtain ⟨p, hp⟩ := hd0
    obtain ⟨q, hq⟩ := kj ha
    have hlt : q < p := by
      by_cases hqp : q < p
      · exact hqp
      · have := kk (show p ≤ q by omega) (show 0 ≤ sz n by have := sz_pos n; omega)
        omega
    have := kk (show q + 1 ≤ p by omega) (show 0 ≤ sz n by have := sz_pos n; omega)
    rw [kr] at this
    omega
  have hg : good (a + sz (n + 1)) (n + 1) = true := good_iff.2 ⟨by omega, by omega, by omega, by omega, Int.emod_eq_zero_of_dvd (Int.dvd_add hd (Int.dvd_refl _))⟩
  refine ⟨hg, ?_⟩
  have e1 := code_mul h
  have e2 := code_mul hg
  rw [h2, kl, Int.mul_left_comm] at e1
  exact Int.eq_of_mul_eq_mul_left (show sz (n + 1) ≠ 0 by omega) (by rw [e2, kr, e1]; omega)
def InE (e : S39) (a n : Int) : Prop := good e.f0.f0 e.f0.f1 = true ∧ n ≤ e.f0.f1 ∧ a ≤ e.f0.f0 ∧ e.f0.f0 + sz e.f0.f1 ≤ a + sz n
theorem walk_holds {t : List S86} {pc : Int → Int} (h : PInv t pc) : ∀ (m : Nat) (i a n : Int) (out : List S39), n + m = 32 → 0 ≤ i → i < (t.length : Int) → good a n = true → pc i = code a n →
    ∃ w, walkP t m i a n out = out ++ w ∧ w.Pairwise ltE ∧ ∀ e, e ∈ w ↔ (InE e a n ∧ Holds t pc (code e.f0.f0 e.f0.f1) e.f1) := by
  have self : ∀ (i a n : Int) (out : List S39), 0 ≤ i → i < (t.length : Int) → pc i = code a n → ∃ s, (if (rd_T86 t i).f2 = true then out ++ [(⟨⟨a, n⟩, (rd_T86 t i).f3⟩ : S39)] else out) = out ++ s ∧ s.Pairwise ltE ∧ ∀ e, e ∈ s ↔ (e.f0.f0 = a ∧ e.f0.f1 = n ∧ Holds t pc (code a n) e.f1) := fun i a n out i0 i1 ei => by
    by_cases hf : (rd_T86 t i).f2 = true
    · refine ⟨[⟨⟨a, n⟩, (rd_T86 t i).f3⟩], if_pos hf, by simp, fun e => ⟨fun he => ?_, fun he => ?_⟩⟩
      · rw [kd.1 he]
        exact ⟨rfl, rfl, i, i0, i1, ei, hf, rfl⟩
      · obtain ⟨e1, e2, j, j0, j1, ej, _, e3⟩ := he
        rw [h.inj j i j0 j1 i0 i1 (by rw [ej, ei])] at e3
        cases e with
        | mk p v =>
          cases p with
          | mk p1 p2 =>
            dsimp only at e1 e2 e3
            rw [e1, e2, e3]
            exact kd.2 rfl
    · refine ⟨[], by rw [if_neg hf, List.append_nil], List.Pairwise.nil, fun e => ⟨fun he => by simp at he, fun he => ?_⟩⟩
      obtain ⟨_, _, j, j0, j1, ej, e2, _⟩ := he
      rw [h.inj j i j0 j1 i0 i1 (by rw [ej, ei])] at e2
      exact (hf e2).elim
  intro m
  induction m with
  | zero =>
    intro i a n out hn i0 i1 hg ei
    obtain ⟨s, s1, s2, s3⟩ := self i a n out i0 i1 ei
    have hn32 : n = 32 := by omega
    refine ⟨s, by rw [walkP, s1], s2, fun e => ?_⟩
    rw [s3]
    constructor
    · rintro ⟨rfl, rfl, hh⟩
      exact ⟨⟨hg, kf _, kf _, kf _⟩, hh⟩
    · rintro ⟨⟨g, g1, g2, g3⟩, hh⟩
      have := (good_iff.1 g).2.1
      have en : e.f0.f1 = n := by omega
      rw [en] at g3
      have ea : e.f0.f0 = a := by omega
      rw [ea, en] at hh
      exact ⟨ea, en, hh⟩
  | succ m ih =>
    intro i a n out hn i0 i1 hg ei
    obtain ⟨n0, n1, a0, a1, ha⟩ := good_iff.1 hg
    obtain ⟨gl, cl⟩ := code_left hg (by omega)
    obtain ⟨gr, cr⟩ := code_right hg (by omega)
    have hs := sz_pos (n + 1)
    have h2 := sz_succ n0 (by omega)
    have half : ∀ (b c : Int) (out : List S39), (b = 0 ∨ b = 1) → good c (n + 1) = true → code c (n + 1) = 2 * code a n + b → a ≤ c → c + sz (n + 1) ≤ a + sz n →
        ∃ w, (if halfv (rd_T86 t i) b = 0 then out else walkP t m (halfv (rd_T86 t i) b) c (n + 1) out) = out ++ w ∧ w.Pairwise ltE ∧ ∀ e, e ∈ w ↔ (InE e c (n + 1) ∧ Holds t pc (code e.f0.f0 e.f0.f1) e.f1) := fun b c out hb gc cc c0 c1 => by
      by_cases hz : halfv (rd_T86 t i) b = 0
      · refine ⟨[], by rw [if_pos hz, List.append_nil], List.Pairwise.nil, fun e => ⟨fun he => by simp at he, fun he => ?_⟩⟩
        obtain ⟨⟨g, g1, g2, g3⟩, j, j0, j1, ej, _, _⟩ := he
        obtain ⟨m0, m1, b0, b1, _⟩ := good_iff.1 g
        have hse := sz_pos e.f0.f1
        have r1 : code e.f0.f0 n = code a n := code_row ha (by omega) (by omega) n0 n1
        have r2 : code e.f0.f0 (n + 1) = code c (n + 1) := code_row (good_iff.1 gc).2.2.2.2 (by omega) (by omega) (by omega) (by omega)
        rw [code_succ b0 b1 n0 (by omega), cc, r1] at r2
        have hbit : bitv e.f0.f0 n = b := by omega
        obtain ⟨q, hq⟩ := ko (show 0 ≤ e.f0.f1 - n - 1 by omega)
        exact (h.stop b0 b1 i0 i1 (by rw [ei, r1]) n0 (by rw [hbit]; exact hz) q j j0 j1 (by omega) (by rw [ej]; congr 1; omega)).elim
      · obtain ⟨k1, k2, k3⟩ := h.kid i b i0 i1 hb hz
        obtain ⟨w, w1, w2, w3⟩ := ih (halfv (rd_T86 t i) b) c (n + 1) out (by omega) (by omega) k2 gc (by rw [k3, ei, cc])
        exact ⟨w, by rw [if_neg hz, w1], w2, w3⟩
    obtain ⟨s, s1, s2, s3⟩ := self i a n out i0 i1 ei
    obtain ⟨wl, l1, l2, l3⟩ := half 0 a (out ++ s) (.inl rfl) gl (by rw [cl]; omega) (kf _) (by omega)
    obtain ⟨wr, r1, r2, r3⟩ := half 1 (a + sz (n + 1)) (out ++ s ++ wl) (.inr rfl) gr cr (by omega) (by omega)
    rw [halfv_zero] at l1
    rw [halfv_one] at r1
    refine ⟨s ++ wl ++ wr, ?_, ?_, fun e => ?_⟩
    · rw [walkP]
      rw [s1, l1, r1]
      simp only [List.append_assoc]
    · refine List.pairwise_append.2 ⟨List.pairwise_append.2 ⟨s2, l2, fun x hx y hy => ?_⟩, r2, fun x hx y hy => ?_⟩
      · obtain ⟨e1, e2, _⟩ := (s3 x).1 hx
        obtain ⟨⟨_, g1, g2, _⟩, _⟩ := (l3 y).1 hy
        unfold ltE
        omega
      · obtain ⟨⟨_, g1, g2, _⟩, _⟩ := (r3 y).1 hy
        unfold ltE
        rcases kc.1 hx with hx | hx
        · obtain ⟨e1, e2, _⟩ := (s3 x).1 hx
          omega
        · obtain ⟨⟨_, q1, q2, q3⟩, _⟩ := (l3 x).1 hx
          have := sz_pos x.f0.f1
          omega
    · rw [kc, kc, s3, l3, r3]
      constructor
      · rintro ((⟨rfl, rfl, hh⟩ | ⟨⟨g, g1, g2, g3⟩, hh⟩) | ⟨⟨g, g1, g2, g3⟩, hh⟩)
        · exact ⟨⟨hg, kf _, kf _, kf _⟩, hh⟩
        · exact ⟨⟨g, by omega, g2, by omega⟩, hh⟩
        · exact ⟨⟨g, by omega, by omega, by omega⟩, hh⟩
      · rintro ⟨⟨g, g1, g2, g3⟩, hh⟩
        by_cases en : e.f0.f1 = n
        · rw [en] at g3
          have ea : e.f0.f0 = a := by omega
          rw [ea, en] at hh
          exact .inl (.inl ⟨ea, en, hh⟩)
        · obtain ⟨m0, m1, b0, b1, hm⟩ := good_iff.1 g
          have hse := sz_pos e.f0.f1
          by_cases hlt : e.f0.f0 < a + sz (n + 1)
          · refine .inl (.inr ⟨⟨g, by omega, g2, ?_⟩, hh⟩)
            have d1 : sz e.f0.f1 ∣ a := Int.dvd_trans (sz_dvd n0 (by omega) m1) (kj ha)
            have d2 : sz e.f0.f1 ∣ sz (n + 1) := sz_dvd (by omega) (by omega) m1
            have d3 : sz e.f0.f1 ∣ a + sz (n + 1) - e.f0.f0 := Int.dvd_sub (Int.dvd_add d1 d2) (kj hm)
            have := Int.le_of_dvd (by omega) d3
            omega
          · exact .inr ⟨⟨g, by omega, by omega, by omega⟩, hh⟩
theorem walk_impl {t : List S86} (hk : KidsV t) : ∀ (m : Nat) (i a n : Int) (out : List S39) (k : Nat), 0 ≤ i → i < (t.length : Int) → 0 ≤ n → n + m = 32 → 0 ≤ a → a + sz n ≤ 4294967296 → out.length + 2 ^ (m + 1) ≤ 100000000000 → 2 * m + 2 ≤ k →
    impl_entriesBelow.f k t i a n out = some (walkP t m i a n out)
  | 0, i, a, n, out, k, i0, i1, n0, hn, a0, a1, ho, hkk => by
    obtain ⟨k, rfl⟩ : ∃ j, k = j + 1 + 1 := ⟨k - 2, by omega⟩
    rw [impl_entriesBelow.f, if_pos i0, if_pos i1, walkP]
    by_cases h : (rd_T86 t i).f2 = true
    · rw [if_pos h, if_pos h, if_pos (by omega), impl_entriesBelow.j0, if_pos (show n = 32 by omega)]
    · rw [if_neg h, if_neg h, impl_entriesBelow.j0, if_pos (show n = 32 by omega)]
  | m + 1, i, a, n, out, k, i0, i1, n0, hn, a0, a1, ho, hkk => by
    obtain ⟨k, rfl⟩ : ∃ j, k = j + 1 + 1 := ⟨k - 2, by omega⟩
    have hki := hk i i0 i1
    have hs := sz_succ n0 (by omega)
    have hs1 := sz_pos (n + 1)
    have hp : (2 : Nat) ^ (m + 1 + 1) = 2 ^ (m + 1) + 2 ^ (m + 1) := by rw [Nat.pow_succ]; omega
    have hq : 2 ≤ (2 : Nat) ^ (m + 1) := by have := @Nat.one_le_two_pow m; rw [Nat.pow_succ]; omega
    have mid : ∀ o1 : List S39, o1.length ≤ out.length + 1 →
        impl_entriesBelow.j0 (k + 1) t o1 a n (rd_T86 t i).f0 (rd_T86 t i).f1 (rd_T86 t i).f2 (rd_T86 t i).f3 = some (if (rd_T86 t i).f1 = 0 then (if (rd_T86 t i).f0 = 0 then o1 else walkP t m (rd_T86 t i).f0 a (n + 1) o1) else walkP t m (rd_T86 t i).f1 (a + sz (n + 1)) (n + 1) (if (rd_T86 t i).f0 = 0 then o1 else walkP t m (rd_T86 t i).f0 a (n + 1) o1)) := by
      intro o1 h1
      rw [impl_entriesBelow.j0, if_neg (show ¬ n = 32 by omega), impl_Prefix_halves_is n0 (by omega) a0 (by omega), kz]
      dsimp only
      by_cases z0 : (rd_T86 t i).f0 = 0
      · rw [if_neg (show ¬ (rd_T86 t i).f0 > 0 by omega), if_pos z0]
        by_cases z1 : (rd_T86 t i).f1 = 0
        · rw [if_neg (show ¬ (rd_T86 t i).f1 > 0 by omega), if_pos z1]
        · have hv : i + 1 ≤ (rd_T86 t i).f1 ∧ (rd_T86 t i).f1 ≤ (t.length : Int) - 1 := hki.2.elim (fun e => absurd e z1) id
          have r2 := walk_impl hk m (rd_T86 t i).f1 (a + sz (n + 1)) (n + 1) o1 k (by omega) (by omega) (by omega) (by omega) (by omega) (by omega) (by omega) (by omega)
          rw [if_pos (show (rd_T86 t i).f1 > 0 by omega), if_neg z1, r2, kz]
      · have hv0 : i + 1 ≤ (rd_T86 t i).f0 ∧ (rd_T86 t i).f0 ≤ (t.length : Int) - 1 := hki.1.elim (fun e => absurd e z0) id
        have q2 := walk_impl hk m (rd_T86 t i).f0 a (n + 1) o1 k (by omega) (by omega) (by omega) (by omega) a0 (by omega) (by omega) (by omega)
        have hl := walkP_len t m (rd_T86 t i).f0 a (n + 1) o1
        rw [if_pos (show (rd_T86 t i).f0 > 0 by omega), if_neg z0, q2, kz]
        by_cases z1 : (rd_T86 t i).f1 = 0
        · rw [if_neg (show ¬ (rd_T86 t i).f1 > 0 by omega), if_pos z1]
        · have hv : i + 1 ≤ (rd_T86 t i).f1 ∧ (rd_T86 t i).f1 ≤ (t.length : Int) - 1 := hki.2.elim (fun e => absurd e z1) id
          have r2 := walk_impl hk m (rd_T86 t i).f1 (a + sz (n + 1)) (n + 1) (walkP t m (rd_T86 t i).f0 a (n + 1) o1) k (by omega) (by omega) (by omega) (by omega) (by omega) (by omega) (by omega) (by omega)
          rw [if_pos (show (rd_T86 t i).f1 > 0 by omega), if_neg z1, r2, kz]
    rw [impl_entriesBelow.f, if_pos i0, if_pos i1, walkP]
    by_cases h : (rd_T86 t i).f2 = true
    · simp only [if_pos h]
      rw [if_pos (show out.length < 5864062014805 by omega)]
      exact mid _ (by simp)
    · simp only [if_neg h]
      exact mid _ (by omega)
theorem build_pinv {l : List S39} (h : goodTable l = true) : ∃ pc, PInv (buildP l) pc ∧ ∀ q w, Holds (buildP l) pc q w ↔ ∃ e, e ∈ l ∧ code e.f0.f0 e.f0.f1 = q ∧ e.f1 = w := by
  obtain ⟨pc, h1, h2⟩ := build_holds l _ _ start_pinv (by simp) (goodTable_good h) (table_codes h)
  exact ⟨pc, h1, fun q w => (h2 q w).trans ⟨fun hh => hh.elim id (fun hn => (start_holds q w hn.2).elim), .inl⟩⟩
theorem build_good {l : List S39} (h : goodTable l = true) : goodTrie (buildP l) = true ∧ 1 ≤ (buildP l).length ∧ (buildP l).length ≤ 2000 := by
  obtain ⟨h30, hg⟩ := goodTable_vals h
  obtain ⟨dep', par', j1, j2, j3, j4, j5⟩ := build_inv l _ _ _ hg start_inv (by simp) (fun x x0 x1 => kf _)
  simp only [kq] at j5
  have c0 : cntH [(⟨0, 0, false, 0⟩ : S86)] = 0 := by simp [cntH]
  rw [c0] at j3
  unfold buildP
  exact ⟨goodTrie_of j1 j4 (by omega) (by omega) j2, j4, by omega⟩
theorem good_end {a n : Int} (h : good a n = true) : a + sz n ≤ 4294967296 := by
  obtain ⟨n0, n1, a0, a1, ha⟩ := good_iff.1 h
  have hs := sz_pos n
  obtain ⟨p, hp⟩ : sz n ∣ 4294967296 := by rw [← sz_lit.1]; exact sz_dvd (by omega) n0 n1
  obtain ⟨q, hq⟩ := kj ha
  have hlt : q < p := by
    by_cases hqp : q < p
    · exact hqp
    · have := kk (show p ≤ q by omega) (show 0 ≤ sz n by omega)
      omega
  have := kk (show q + 1 ≤ p by omega) (show 0 ≤ sz n by omega)
  rw [kr] at this
  omega
theorem Holds.one {l : List S86} {pc : Int → Int} {q v w : Int} (h : PInv l pc) (h1 : Holds l pc q v) (h2 : Holds l pc q w) : v = w := by
  obtain ⟨i, i0, i1, e1, _, e2⟩ := h1
  obtain ⟨j, j0, j1, e3, _, e4⟩ := h2
  rw [h.inj i j i0 i1 j0 j1 (by rw [e1, e3])] at e2
  rw [← e2, e4]
theorem build_entries {l : List S39} (h : goodTable l = true) : walkP (buildP l) 32 0 0 0 [] = l := by
  obtain ⟨pc, hp, hh⟩ := build_pinv h
  have hlen := (build_good h).2.1
  obtain ⟨w, e, hw, hm⟩ := walk_holds hp 32 0 0 0 [] (by rfl) (by omega) (by omega) (good_iff.2 ⟨by omega, by omega, by omega, by omega, by rfl⟩) (by rw [hp.root, code_zero (by omega) (by omega)])
  rw [e, List.nil_append]
  refine rise_eq w l hw (table_rises h) (fun x => ?_)
  rw [hm, hh]
  constructor
  · rintro ⟨⟨g, _⟩, y, hy, e1, e2⟩
    obtain ⟨q1, q2⟩ := code_inj (goodTable_good h y hy) g e1
    have : y = x := by
      rcases x with ⟨⟨x1, x2⟩, x3⟩
      rcases y with ⟨⟨y1, y2⟩, y3⟩
      dsimp only at q1 q2 e2
      rw [q1, q2, e2]
    rw [← this]; exact hy
  · intro hx
    have g := goodTable_good h x hx
    obtain ⟨n0, n1, a0, a1, _⟩ := good_iff.1 g
    have := good_end g
    exact ⟨⟨g, n0, a0, by rw [sz_lit.1]; omega⟩, x, hx, rfl, rfl⟩
theorem look_long {l : List S39} (h : goodTable l = true) {pc : Int → Int} (hp : PInv (buildP l) pc) (hh : ∀ q w, Holds (buildP l) pc q w ↔ ∃ e, e ∈ l ∧ code e.f0.f0 e.f0.f1 = q ∧ e.f1 = w) {x : Int} (x0 : 0 ≤ x) (x1 : x ≤ 4294967295) {r : Int × Int × Bool} {r' : Int × Int × Int × Bool} (h1 : IsLk (buildP l) pc x r) (h2 : IsLong l x r') :
    r.2.2 = r'.2.2.2 ∧ (r'.2.2.2 = true → r.1 = r'.2.2.1 ∧ r.2.1 = r'.2.1) := by
  have up : ∀ e, e ∈ l → (e.f0.f0 ≤ x ∧ x ≤ e.f0.f0 + sz e.f0.f1 - 1) → Holds (buildP l) pc (code x e.f0.f1) e.f1 := fun e he hx => (hh _ _).2 ⟨e, he, ((has_code (goodTable_good h e he)).1 hx).symm, rfl⟩
  have down : ∀ v d, 0 ≤ d → d ≤ 32 → Holds (buildP l) pc (code x d) v → ∃ e, e ∈ l ∧ e.f0.f1 = d ∧ e.f1 = v ∧ (e.f0.f0 ≤ x ∧ x ≤ e.f0.f0 + sz e.f0.f1 - 1) := fun v d d0 d1 hv => by
    obtain ⟨e, he, e1, e2⟩ := (hh _ _).1 hv
    have g := goodTable_good h e he
    obtain ⟨n0, n1, a0, a1, _⟩ := good_iff.1 g
    have en : e.f0.f1 = d := code_len n0 n1 d0 d1 a0 a1 x0 x1 e1
    exact ⟨e, he, en, e2, (has_code g).2 (by rw [e1, en])⟩
  rcases h1 with ⟨rfl, h1⟩ | ⟨v, d, rfl, d0, d1, h1, h3⟩
  · rcases h2 with ⟨rfl, h2⟩ | ⟨e, he, rfl, hx, h2⟩
    · exact ⟨rfl, fun hf => by cases hf⟩
    · obtain ⟨n0, n1, _⟩ := good_iff.1 (goodTable_good h e he)
      exact (h1 _ _ n0 n1 (up e he hx)).elim
  · obtain ⟨e1, he1, en, ev, hx1⟩ := down v d d0 d1 h1
    rcases h2 with ⟨rfl, h2⟩ | ⟨e, he, rfl, hx, h2⟩
    · exact (h2 e1 he1 hx1).elim
    · obtain ⟨n0, n1, _⟩ := good_iff.1 (goodTable_good h e he)
      have q1 := h2 e1 he1 hx1
      have q2 : ¬ d < e.f0.f1 := fun hd => h3 _ _ hd n1 (up e he hx)
      have q3 : d = e.f0.f1 := by omega
      have q4 := up e he hx
      rw [← q3] at q4
      exact ⟨rfl, fun _ => ⟨h1.one hp q4, q3⟩⟩
theorem put_ok (l : List S39) (a n v : Int) (hl : l.length ≤ 1000) : ∀ (m : Nat) (x : Int), 0 ≤ x → x + m = l.length → ∃ r, (∀ k, spec_l2Put.l0 (k + m + 2) l x a n v = some r) ∧ r.length ≤ l.length + 1 := by
  intro m
  induction m with
  | zero =>
    intro x h0 hx
    refine ⟨([] ++ l.take x.toNat) ++ [(⟨⟨a, n⟩, v⟩ : S39)] ++ l.drop x.toNat, fun k => ?_, by simp; omega⟩
    rw [show k + 0 + 2 = (k + 1) + 1 by omega, spec_l2Put.l0, if_neg (by omega), if_pos h0, if_pos (by omega), kz, if_pos (by simp; omega), kz, if_pos (by simp; omega), kz, kz, if_pos (by simp; omega)]
  | succ m ih =>
    intro x h0 hx
    have hw : wrap64 (x + 1) = x + 1 := wrap_id (by omega) (by omega)
    by_cases hc : cmpP (rd_T39 l x).f0.f0 (rd_T39 l x).f0.f1 a n < 0
    · obtain ⟨r, e, h⟩ := ih (x + 1) (by omega) (by omega)
      refine ⟨r, fun k => ?_, h⟩
      rw [show k + (m + 1) + 2 = (k + m + 2) + 1 by omega, spec_l2Put.l0, if_pos (by omega), if_pos h0, show k + m + 2 = (k + m + 1) + 1 by omega, spec_l1Compare_is, kz, if_pos hc, hw]
      exact e k
    · by_cases he : ((rd_T39 l x).f0.f0 == a && ((rd_T39 l x).f0.f1 == n)) = true
      · refine ⟨([] ++ l.take x.toNat) ++ [(⟨⟨a, n⟩, v⟩ : S39)] ++ l.drop (x + 1).toNat, fun k => ?_, by simp; omega⟩
        rw [show k + (m + 1) + 2 = (k + m + 2) + 1 by omega, spec_l2Put.l0, if_pos (by omega), if_pos h0, show k + m + 2 = (k + m + 1) + 1 by omega, spec_l1Compare_is, kz, if_neg hc, if_pos (by omega), kz, if_pos (by simp; omega), kz, if_pos (by simp; omega), kz, if_pos he, hw, if_pos (by omega), if_pos (by omega), kz, if_pos (by simp; omega)]
      · refine ⟨([] ++ l.take x.toNat) ++ [(⟨⟨a, n⟩, v⟩ : S39)] ++ l.drop x.toNat, fun k => ?_, by simp; omega⟩
        rw [show k + (m + 1) + 2 = (k + m + 2) + 1 by omega, spec_l2Put.l0, if_pos (by omega), if_pos h0, show k + m + 2 = (k + m + 1) + 1 by omega, spec_l1Compare_is, kz, if_neg hc, if_pos (by omega), kz, if_pos (by simp; omega), kz, if_pos (by simp; omega), kz, if_neg he, kz, if_pos (by simp; omega)]
theorem table_end {c : List Int} (hc : Bts c) (l : List S39) (x4 : Int) (hl : l.length ≤ 31) {i : Int} (s : Int) (h0 : 0 ≤ i) (h1 : i ≤ 100000) : ∃ r i' s', (∀ k, spec_l1Cur_table.j2 (k + 2) l x4 false c i s = some (r, i', s')) ∧ r.length ≤ l.length + 1 ∧ 0 ≤ i' ∧ i' ≤ i + 30 := by
  have none3 : ∀ (k : Nat) (i s : Int), spec_l1Cur_table.j3 (k + 1) l false c i s = some (l, i, s) := fun k i s => by rw [spec_l1Cur_table.j3, if_neg (by simp)]
  by_cases h : (l.length : Int) > 0
  · obtain ⟨b, i1, s1, e1, a1, b1⟩ := one_ok hc s (n := 20) h0 (by omega) (by omega)
    cases b with
    | false =>
      refine ⟨l, i1, s1, fun k => ?_, by omega, by omega, by omega⟩
      rw [show k + 2 = (k + 1) + 1 by omega, spec_l1Cur_table.j2, if_neg (by simp), if_pos h, e1, kz]
      exact none3 _ _ _
    | true =>
      obtain ⟨p, i2, s2, e2, p0, p1, a2, b2⟩ := pick_ok hc s1 (n := (l.length : Int)) (i := i1) (by omega) (by omega) (by omega)
      obtain ⟨q, i3, s3, e3, q0, q1, a3, b3⟩ := pick_ok hc s2 (n := 3) (i := i2) (by omega) (by omega) (by omega)
      have hp : p < (l.length : Int) := by omega
      have go : ∀ k, spec_l1Cur_table.j2 (k + 2) l x4 false c i s = spec_l1Cur_table.j3 (k + 1) l true c i1 s1 := fun k => by
        rw [show k + 2 = (k + 1) + 1 by omega, spec_l1Cur_table.j2, if_neg (by simp), if_pos h, e1, kz]
      by_cases c0 : q = 0
      · obtain ⟨v, i4, s4, e4, _, a4, b4⟩ := among_ok hc s3 [(-1), 1000000, 1000001] (i := i3) (by omega) (by omega) (by simp) (by simp)
        refine ⟨l.set p.toNat ⟨⟨(rd_T39 l p).f0.f0, (rd_T39 l p).f0.f1⟩, v⟩, i4, s4, fun k => ?_, by rw [ky]; omega, by omega, by omega⟩
        rw [go, spec_l1Cur_table.j3, if_pos rfl, e2, kz]
        dsimp only
        rw [e3, kz]
        dsimp only
        rw [if_pos c0, e4, kz, if_pos p0, if_pos hp]
      · by_cases c1 : q = 1
        · obtain ⟨a, n, i4, s4, e4, a4, b4⟩ := prefix_ok hc s3 (i := i3) (by omega) (by omega)
          refine ⟨l.set p.toNat ⟨⟨a, n⟩, (rd_T39 l p).f1⟩, i4, s4, fun k => ?_, by rw [ky]; omega, by omega, by omega⟩
          rw [go, spec_l1Cur_table.j3, if_pos rfl, e2, kz]
          dsimp only
          rw [e3, kz]
          dsimp only
          rw [if_neg c0, if_pos c1, e4, kz, if_pos p0, if_pos hp]
        · refine ⟨l ++ [⟨⟨(rd_T39 l 0).f0.f0, (rd_T39 l 0).f0.f1⟩, (rd_T39 l 0).f1⟩], i3, s3, fun k => ?_, by simp, by omega, by omega⟩
          rw [go, spec_l1Cur_table.j3, if_pos rfl, e2, kz]
          dsimp only
          rw [e3, kz]
          dsimp only
          rw [if_neg c0, if_neg c1, if_pos (by omega), if_pos (by omega)]
  · refine ⟨l, i, s, fun k => ?_, by omega, by omega, by omega⟩
    rw [show k + 2 = (k + 1) + 1 by omega, spec_l1Cur_table.j2, if_neg (by simp), if_neg h]
    exact none3 _ _ _
theorem table_l0 {c : List Int} (hc : Bts c) : ∀ (m : Nat) (l : List S39) (i s : Int), m ≤ 40 → l.length ≤ 30 → 0 ≤ i → i + 30 * m ≤ 50000 → ∃ r i' s', (∀ k, spec_l1Cur_table.l0 (k + 2 * m + 60) l (m : Int) c i s = some (r, i', s')) ∧ r.length ≤ 31 ∧ 0 ≤ i' ∧ i' ≤ i + 30 * m + 30 := by
  intro m
  induction m with
  | zero =>
    intro l i s _ hl h0 h1
    obtain ⟨r, i1, s1, e, g1, g2, g3⟩ := table_end hc l (0 : Int) (by omega) s h0 (by omega)
    refine ⟨r, i1, s1, fun k => ?_, by omega, by omega, by omega⟩
    rw [show k + 2 * 0 + 60 = (k + 57 + 2) + 1 by omega, spec_l1Cur_table.l0, if_neg (by omega)]
    exact e _
  | succ m ih =>
    intro l i s hm hl h0 h1
    have hw : wrap64 (((m + 1 : Nat) : Int) - 1) = (m : Int) := by rw [wrap_id (by omega) (by omega)]; omega
    by_cases hlt : (l.length : Int) < 30
    · obtain ⟨a, n, i1, s1, e1, g1, a1, b1⟩ := fine_ok hc s h0 (by omega)
      obtain ⟨v, i2, s2, e2, _, _, a2, b2⟩ := pick_ok hc s1 (n := 9) (i := i1) (by omega) (by omega) (by omega)
      obtain ⟨p, e3, hp⟩ := put_ok l a n v (by omega) l.length 0 (by omega) (by omega)
      obtain ⟨r, i4, s4, e4, h4, h5, h6⟩ := ih p i2 s2 (by omega) (by omega) (by omega) (by omega)
      refine ⟨r, i4, s4, fun k => ?_, h4, h5, by omega⟩
      have e3' : spec_l2Put.f (k + 2 * m + 60) l a n v = some p := by
        have := e3 (k + 2 * m + 58 - l.length)
        rw [show k + 2 * m + 58 - l.length + l.length + 2 = k + 2 * m + 60 by omega] at this
        exact this
      rw [show k + 2 * (m + 1) + 60 = (k + 2 * m + 60) + 1 + 1 by omega, spec_l1Cur_table.l0, if_pos (by omega), decide_eq_true hlt, spec_l1Cur_table.j2, if_pos rfl, e1, kz]
      dsimp only
      rw [e2, kz]
      dsimp only
      rw [e3', kz, hw]
      exact e4 k
    · obtain ⟨r, i1, s1, e, g1, g2, g3⟩ := table_end hc l ((m + 1 : Nat) : Int) (by omega) s h0 (by omega)
      refine ⟨r, i1, s1, fun k => ?_, by omega, by omega, by omega⟩
      rw [show k + 2 * (m + 1) + 60 = (k + 2 * m + 59 + 2) + 1 by omega, spec_l1Cur_table.l0, if_pos (by omega), decide_eq_false hlt]
      exact e _
theorem table_ok {c : List Int} (hc : Bts c) (i s : Int) (h0 : 0 ≤ i) (h1 : i ≤ 10000) : ∃ (r : List S39) (i' s' : Int), (∀ k, 200 ≤ k → spec_l1Cur_table.f k c i s = some (r, i', s')) ∧ r.length ≤ 31 ∧ 0 ≤ i' ∧ i' ≤ i + 2000 := by
  obtain ⟨n, i1, s1, e1, n0, n1, a1, b1⟩ := pick_ok hc s (n := 9) (i := i) (by omega) (by omega) (by omega)
  obtain ⟨b, i2, s2, e2, a2, b2⟩ := one_ok hc s1 (n := 20) (i := i1) (by omega) (by omega) (by omega)
  cases b with
  | true =>
    obtain ⟨r, i3, s3, e3, h3, h4, h5⟩ := table_l0 hc 40 [] i2 s2 (by omega) (by simp) (by omega) (by omega)
    refine ⟨r, i3, s3, fun k hk => ?_, h3, h4, by omega⟩
    obtain ⟨k, rfl⟩ : ∃ k', k = k' + 2 * 40 + 60 + 1 := ⟨k - 141, by omega⟩
    unfold spec_l1Cur_table.f
    rw [e1, kz]
    dsimp only
    rw [e2, kz, if_pos rfl, spec_l1Cur_table.j0]
    exact e3 k
  | false =>
    obtain ⟨r, i3, s3, e3, h3, h4, h5⟩ := table_l0 hc n.toNat [] i2 s2 (by omega) (by simp) (by omega) (by omega)
    refine ⟨r, i3, s3, fun k hk => ?_, h3, h4, by omega⟩
    obtain ⟨k, rfl⟩ : ∃ k', k = k' + 2 * n.toNat + 60 + 1 := ⟨k - (2 * n.toNat + 61), by omega⟩
    unfold spec_l1Cur_table.f
    rw [e1, kz]
    dsimp only
    rw [e2, kz, if_neg (by simp), spec_l1Cur_table.j0, show n = (n.toNat : Int) by omega]
    exact e3 k
theorem DrawLongest_ok {c : List Int} (hc : Bts c) : ∃ (l : List S39) (x : Int), (∀ k, 200 ≤ k → spec_DrawLongestIn.f k c = some (l, x)) ∧ l.length ≤ 31 := by
  obtain ⟨l, i, s, e, h, h0, h1⟩ := table_ok hc 0 0 (by omega) (by omega)
  obtain ⟨x, i2, s2, e2, _⟩ := addr_ok hc s (i := i) h0 (by omega)
  refine ⟨l, x, fun k hk => ?_, h⟩
  unfold spec_DrawLongestIn.f
  rw [e k hk, kz]
  dsimp only
  rw [e2, kz]
theorem trie_ok {c : List Int} (hc : Bts c) (i s : Int) (h0 : 0 ≤ i) (h1 : i ≤ 10000) : ∃ (t : List S86) (i' s' : Int), (∃ K, ∀ k, K ≤ k → spec_l1Cur_trie.f k c i s = some (t, i', s')) ∧ 1 ≤ t.length ∧ t.length ≤ 2000 ∧ 0 ≤ i' ∧ i' ≤ i + 3000 := by
  have j0_ok : ∀ (t : List S86) (i s : Int), 1 ≤ t.length → t.length ≤ 2000 → 0 ≤ i → i ≤ 20000 → ∃ (r : List S86) (i' s' : Int), (∀ k, spec_l1Cur_trie.j0 (k + 1) t c i s = some (r, i', s')) ∧ r.length = t.length ∧ 0 ≤ i' ∧ i' ≤ i + 30 := by
    intro t i s t1 t2 h0 h1
    obtain ⟨b, i1, s1, e1, a1, b1⟩ := one_ok hc s (n := 12) h0 (by omega) (by omega)
    cases b with
    | false =>
      refine ⟨t, i1, s1, fun k => ?_, rfl, by omega, by omega⟩
      rw [spec_l1Cur_trie.j0, e1, kz, if_neg (by simp)]
    | true =>
      obtain ⟨p, i2, s2, e2, p0, p1, a2, b2⟩ := pick_ok hc s1 (n := (t.length : Int)) (i := i1) (by omega) (by omega) (by omega)
      obtain ⟨q, i3, s3, e3, q0, q1, a3, b3⟩ := pick_ok hc s2 (n := 3) (i := i2) (by omega) (by omega) (by omega)
      have hp : p < (t.length : Int) := by omega
      by_cases c0 : q = 0
      · obtain ⟨v, i4, s4, e4, _, _, a4, b4⟩ := pick_ok hc s3 (n := wrap64 ((t.length : Int) + 1)) (i := i3) (by omega) (by omega) (by rw [wrap_id (by omega) (by omega)]; omega)
        refine ⟨t.set p.toNat ⟨v, (rd_T86 t p).f1, (rd_T86 t p).f2, (rd_T86 t p).f3⟩, i4, s4, fun k => ?_, by rw [ky], by omega, by omega⟩
        rw [spec_l1Cur_trie.j0, e1, kz, if_pos rfl, e2, kz]
        dsimp only
        rw [e3, kz]
        dsimp only
        rw [if_pos c0, e4, kz, if_pos p0, if_pos hp]
      · by_cases c1 : q = 1
        · refine ⟨t.set p.toNat ⟨(rd_T86 t p).f0, (rd_T86 t p).f1, !((rd_T86 t p).f2), (rd_T86 t p).f3⟩, i3, s3, fun k => ?_, by rw [ky], by omega, by omega⟩
          rw [spec_l1Cur_trie.j0, e1, kz, if_pos rfl, e2, kz]
          dsimp only
          rw [e3, kz]
          dsimp only
          rw [if_neg c0, if_pos c1, if_pos p0, if_pos hp]
        · obtain ⟨v, i4, s4, e4, _, _, a4, b4⟩ := pick_ok hc s3 (n := 3) (i := i3) (by omega) (by omega) (by omega)
          refine ⟨t.set p.toNat ⟨(rd_T86 t p).f0, (rd_T86 t p).f1, (rd_T86 t p).f2, v⟩, i4, s4, fun k => ?_, by rw [ky], by omega, by omega⟩
          rw [spec_l1Cur_trie.j0, e1, kz, if_pos rfl, e2, kz]
          dsimp only
          rw [e3, kz]
          dsimp only
          rw [if_neg c0, if_neg c1, e4, kz, if_pos p0, if_pos hp]
  obtain ⟨l, i1, s1, e1, g1, g2, g3⟩ := table_ok hc i s h0 h1
  obtain ⟨r, ⟨K, hK⟩, _, r2, r3, r4⟩ := BuildTrie_same l (by omega)
  replace hK : ∀ k, K ≤ k → spec_BuildTrie.f k l = some r := hK
  by_cases hg : goodTable l = true
  · have hr := r3 hg
    obtain ⟨_, q1, q2⟩ := build_good hg
    obtain ⟨t, i2, s2, e2, t1, t2, t3⟩ := j0_ok (buildP l) i1 s1 q1 q2 g2 (by omega)
    refine ⟨t, i2, s2, ⟨K + 201, fun k hk => ?_⟩, by omega, by omega, t2, by omega⟩
    obtain ⟨k, rfl⟩ : ∃ k', k = k' + 1 := ⟨k - 1, by omega⟩
    unfold spec_l1Cur_trie.f
    rw [e1 _ (by omega), kz]
    dsimp only
    rw [hK _ (by omega), hr, kz, if_pos rfl]
    exact e2 k
  · have hr := r4 hg
    obtain ⟨t, i2, s2, e2, t1, t2, t3⟩ := j0_ok [⟨0, 0, false, 0⟩] i1 s1 (by simp) (by simp) g2 (by omega)
    rw [kq] at t1
    refine ⟨t, i2, s2, ⟨K + 201, fun k hk => ?_⟩, by omega, by omega, t2, by omega⟩
    obtain ⟨k, rfl⟩ : ∃ k', k = k' + 1 := ⟨k - 1, by omega⟩
    unfold spec_l1Cur_trie.f
    rw [e1 _ (by omega), kz]
    dsimp only
    rw [hK _ (by omega), hr, kz, if_neg (by simp)]
    exact e2 k
theorem DrawLookUp_ok {c : List Int} (hc : Bts c) : ∃ (t : List S86) (x : Int), (∃ K, ∀ k, K ≤ k → spec_DrawLookUp.f k c = some (t, x)) ∧ t.length ≤ 2000 := by
  obtain ⟨t, i, s, ⟨K, e⟩, _, h, h0, h1⟩ := trie_ok hc 0 0 (by omega) (by omega)
  obtain ⟨x, i2, s2, e2, _⟩ := addr_ok hc s (i := i) h0 (by omega)
  refine ⟨t, x, ⟨K, fun k hk => ?_⟩, h⟩
  unfold spec_DrawLookUp.f
  rw [e k hk, kz]
  dsimp only
  rw [e2, kz]
theorem sameEntries_self (l : List S39) (hl : l.length ≤ 1000000) (k : Nat) (hk : l.length < k) : laws_sameEntries.f k l l = some true := by
  have key : ∀ (rest pre : List S39) (k : Nat), l = pre ++ rest → rest.length < k → laws_sameEntries.l0 k l l (l.length : Int) (pre.length : Int) = some true := by
    intro rest
    induction rest with
    | nil =>
      intro pre k e hk
      obtain ⟨k, rfl⟩ : ∃ k', k = k' + 1 := ⟨k - 1, by omega⟩
      rw [laws_sameEntries.l0, if_neg (by rw [e]; simp)]
    | cons a rest ih =>
      intro pre k e hk
      rw [ke] at hk
      obtain ⟨k, rfl⟩ : ∃ k', k = k' + 1 := ⟨k - 1, by omega⟩
      have hlen : pre.length < l.length := by rw [e]; simp
      have hw : wrap64 ((pre.length : Int) + 1) = ((pre ++ [a]).length : Int) := by rw [wrap_id (by omega) (by omega)]; simp
      rw [laws_sameEntries.l0, if_pos (by omega), if_pos (by omega), if_pos (by omega), if_pos (by omega), if_neg (by simp), hw]
      exact ih (pre ++ [a]) k (by rw [e]; simp) (by omega)
  unfold laws_sameEntries.f
  rw [if_pos rfl]
  exact key l [] k rfl hk
theorem sameTries_self (l : List S86) (hl : l.length ≤ 1000000) (k : Nat) (hk : l.length < k) : laws_sameTries.f k l l = some true := by
  have key : ∀ (rest pre : List S86) (k : Nat), l = pre ++ rest → rest.length < k → laws_sameTries.l0 k l l (l.length : Int) (pre.length : Int) = some true := by
    intro rest
    induction rest with
    | nil =>
      intro pre k e hk
      obtain ⟨k, rfl⟩ : ∃ k', k = k' + 1 := ⟨k - 1, by omega⟩
      rw [laws_sameTries.l0, if_neg (by rw [e]; simp)]
    | cons a rest ih =>
      intro pre k e hk
      rw [ke] at hk
      obtain ⟨k, rfl⟩ : ∃ k', k = k' + 1 := ⟨k - 1, by omega⟩
      have hlen : pre.length < l.length := by rw [e]; simp
      have hw : wrap64 ((pre.length : Int) + 1) = ((pre ++ [a]).length : Int) := by rw [wrap_id (by omega) (by omega)]; simp
      rw [laws_sameTries.l0, if_pos (by omega), if_pos (by omega), if_pos (by omega), if_pos (by omega), if_neg (by simp), hw]
      exact ih (pre ++ [a]) k (by rw [e]; simp) (by omega)
  unfold laws_sameTries.f
  rw [if_pos rfl]
  exact key l [] k rfl hk
theorem Longest_val {l : List S39} (h : goodTable l = true) {x : Int} (hx : 0 ≤ x ∧ x ≤ 4294967295) : ∃ r, IsLong l x r ∧ (∀ k, l.length + 10 ≤ k → spec_LongestIn.f k l x = some r ∧ impl_LongestIn.f k l x = some r) := by
  have hl := (goodTable_vals h).1
  have hg := goodTable_good h
  obtain ⟨r, e, hr⟩ := longest_res l x (by omega) hg hx.1 hx.2 l [] (-1) (l.length + 1) rfl (by omega) (.inl ⟨rfl, fun e he => by simp at he⟩)
  have up : ∀ k, l.length + 1 ≤ k → spec_l2Longest.l0 k l x (-1) l (l.length : Int) 0 = some r := fun k hk => at_rounds (fun k => spec_l2Longest.mono_l k _ _ _ _ _ _) hk e
  refine ⟨r, hr, fun k hk => ⟨?_, ?_⟩⟩
  · unfold spec_LongestIn.f
    rw [spec_GoodTable_is k l (by omega) (by omega), kz, if_pos h, spec_l1Addr_is, kz, if_pos (decide_eq_true hx)]
    unfold spec_l2Longest.f
    rw [up k (by omega)]
    rfl
  · obtain ⟨k, rfl⟩ : ∃ k', k = k' + 1 := ⟨k - 1, by omega⟩
    unfold impl_LongestIn.f
    rw [impl_GoodTable_is (k + 1) l (by omega) (by omega), kz, if_pos h, impl_isAddr_is, kz, decide_eq_true hx, impl_LongestIn.j0, if_neg (by simp), longest_same l x hg hx, up k (by omega)]
theorem Longest_bad {l : List S39} (hl : l.length ≤ 1000) {x : Int} (h : ¬ (goodTable l = true ∧ (0 ≤ x ∧ x ≤ 4294967295))) : ∀ k, l.length + 10 ≤ k → spec_LongestIn.f k l x = some (0, 0, 0, false) ∧ impl_LongestIn.f k l x = some (0, 0, 0, false) := fun k hk => by
  obtain ⟨k, rfl⟩ : ∃ k', k = k' + 1 := ⟨k - 1, by omega⟩
  unfold spec_LongestIn.f impl_LongestIn.f
  rw [spec_GoodTable_is (k + 1) l (by omega) (by omega), impl_GoodTable_is (k + 1) l (by omega) (by omega), kz, kz]
  by_cases hg : goodTable l = true
  · have hx : ¬ (0 ≤ x ∧ x ≤ 4294967295) := fun hh => h ⟨hg, hh⟩
    rw [if_pos hg, if_pos hg, spec_l1Addr_is, impl_isAddr_is, kz, kz, decide_eq_false hx, if_neg (by simp), impl_LongestIn.j0, Bool.not_false, if_pos rfl]
    exact ⟨rfl, rfl⟩
  · rw [if_neg hg, if_neg hg, impl_LongestIn.j0, if_pos rfl]
    exact ⟨rfl, rfl⟩
theorem LookUp_val {t : List S86} (hg : goodTrie t = true) {pc : Int → Int} (hp : PInv t pc) {x : Int} (hx : 0 ≤ x ∧ x ≤ 4294967295) : ∃ r K, IsLk t pc x r ∧ ∀ k, K ≤ k → impl_LookUp.f k t x = some r := by
  obtain ⟨K2, h2⟩ := impl_GoodTrie_is t
  replace h2 : ∀ k, K2 ≤ k → impl_GoodTrie.f k t = _ := h2
  have hl := goodTrie_len hg
  obtain ⟨r, ⟨K, hK⟩, hr⟩ := lookup_res hp hx.1 hx.2 32 0 0 0 (-1) (by rfl) (by omega) (by omega) (by omega) (by rw [hp.root, code_zero hx.1 hx.2]) (.inl ⟨rfl, fun n w n0 n1 => by omega⟩)
  replace hK : ∀ k, K ≤ k → impl_LookUp.l0 k t x 0 (-1) 0 0 = some r := hK
  refine ⟨r, K2 + K + 1, hr, fun k hk => ?_⟩
  obtain ⟨k, rfl⟩ : ∃ m, k = m + 1 := ⟨k - 1, by omega⟩
  unfold impl_LookUp.f
  rw [h2 _ (by omega), kz, if_pos hg, impl_isAddr_is, kz, decide_eq_true hx, impl_LookUp.j0, if_neg (by decide), hK _ (by omega)]
theorem LookUp_bad {t : List S86} {x : Int} (hx : ¬ (0 ≤ x ∧ x ≤ 4294967295)) : ∃ K, ∀ k, K ≤ k → impl_LookUp.f k t x = some (0, 0, false) := by
  obtain ⟨K2, h2⟩ := impl_GoodTrie_is t
  replace h2 : ∀ k, K2 ≤ k → impl_GoodTrie.f k t = _ := h2
  refine ⟨K2 + 1, fun k hk => ?_⟩
  obtain ⟨k, rfl⟩ : ∃ m, k = m + 1 := ⟨k - 1, by omega⟩
  unfold impl_LookUp.f
  rw [h2 _ (by omega), kz]
  by_cases hg : goodTrie t = true
  · rw [if_pos hg, impl_isAddr_is, kz, decide_eq_false hx, impl_LookUp.j0, if_pos (by rfl)]
  · rw [if_neg hg, impl_LookUp.j0, if_pos rfl]
theorem Entries_val {t : List S86} (hg : goodTrie t = true) : ∃ K, ∀ k, K ≤ k → impl_TrieEntries.f k t = some (walkP t 32 0 0 0 [], true) := by
  obtain ⟨K2, h2⟩ := impl_GoodTrie_is t
  replace h2 : ∀ k, K2 ≤ k → impl_GoodTrie.f k t = _ := h2
  have hl := goodTrie_len hg
  refine ⟨K2 + 66, fun k hk => ?_⟩
  unfold impl_TrieEntries.f
  rw [h2 _ (by omega), kz, if_pos hg, walk_impl (goodTrie_KidsV hg) 32 0 0 0 [] k (by omega) (by omega) (by omega) (by rfl) (by omega) (by rw [sz_lit.1]; omega) (by decide) (by omega), kz]
structure GI (l : List S86) (pc : Int → Int) (m : Int) (D : List Int) : Prop where
  len : D.length = l.length
  root : pc 0 = 1
  rt : 0 ≤ rd D 0
  pos : ∀ x, 1 ≤ pc x
  vis : ∀ x : Int, 0 < x → x < (l.length : Int) → 0 ≤ rd D x → ∃ j c : Int, 0 ≤ j ∧ j < x ∧ (c = 0 ∨ c = 1) ∧ 2 * j + c < m ∧ halfv (rd_T86 l j) c = x
  kid : ∀ j c : Int, 0 ≤ j → (c = 0 ∨ c = 1) → 2 * j + c < m → 0 ≤ rd D j ∧ (halfv (rd_T86 l j) c ≠ 0 → j < halfv (rd_T86 l j) c ∧ halfv (rd_T86 l j) c < (l.length : Int) ∧ 0 ≤ rd D (halfv (rd_T86 l j) c) ∧ pc (halfv (rd_T86 l j) c) = 2 * pc j + c)
  inj : ∀ x y : Int, 0 ≤ x → x < (l.length : Int) → 0 ≤ y → y < (l.length : Int) → 0 ≤ rd D x → 0 ≤ rd D y → pc x = pc y → x = y
end FnLongestUses
open Go.RowKit Go.Proofs.Ytakoaogbkajkcaa.PFnLongest Go.Proofs.YtakoaogbkajkcaaW.PrintWords Go.Proofs.YtakoaogbkajkcaaW.PrintLast Go.Proofs.YtakoaogbkajkcaaW.PrintMore Go.Proofs.Ytakoaogbkajkcaa.Pfx Go.Proofs.Ytakoaogbkajkcaa.Loop Go.Proofs.Ytakoaogbkajkcaa.Tbl FnLongestUses
open Option renaming bind_some → kz
open List renaming length_singleton → kq, length_set → ky, replicate → kv, length_append → kh, countP_cons → kg, length_cons → ke, mem_cons → kb, mem_singleton → kd, mem_append → kc, map_singleton → kx, map_append → ks, pairwise_cons → kt
open Int renaming dvd_of_emod_eq_zero → kj, mul_le_mul_of_nonneg_left → kk, le_refl → kf, eq_ofNat_of_zero_le → ko, tmod_eq_emod_of_nonneg → km, mul_add → kr, mul_assoc → kl
open Bool renaming and_eq_true → ku, true_and → kp, false_or → kn, true → ki, false → kw
set_option linter.unusedVariables false
theorem FnLongest : laws_FnLongest.Pure := by
  intro l0 l1 m0 w0 b0 m1 w1 b1
  have hbt : ∀ c : List Int, c.length * 1 ≤ 140737488351232 → (∀ x ∈ c, (Lit.int .u8 x).wf = true) → Bts c := fun c h1 h2 => ⟨by omega, fun x hx => by
    have := h2 x hx
    simp [Lit.wf, IntKind.min, IntKind.max, IntKind.signed, IntKind.bits] at this
    omega⟩
  have hc0 := hbt l0 w0 b0
  have hc1 := hbt l1 w1 b1
  by_cases hsz : wrap64 ((l0.length : Int) + (l1.length : Int)) > 1048576
  · exact ⟨0, by unfold laws_FnLongest.f; rw [if_pos hsz]⟩
  obtain ⟨l, x, hD, hl⟩ := DrawLongest_ok hc0
  obtain ⟨u, y, ⟨K1, hU⟩, hu⟩ := DrawLookUp_ok hc1
  obtain ⟨lk, ⟨K2, k1⟩, ⟨K3, k2⟩⟩ := LookUp_same u y
  obtain ⟨K4, g1⟩ := spec_GoodTrie_is u
  obtain ⟨K5, g2⟩ := impl_GoodTrie_is u
  obtain ⟨bt, ⟨K6, b1⟩, ⟨K7, b2⟩, bt3, bt4, bt5⟩ := BuildTrie_same l (by omega)
  replace k1 : ∀ k, K2 ≤ k → spec_LookUp.f k u y = some lk := k1
  replace k2 : ∀ k, K3 ≤ k → impl_LookUp.f k u y = some lk := k2
  replace g1 : ∀ k, K4 ≤ k → spec_GoodTrie.f k u = some (goodTrie u) := g1
  replace g2 : ∀ k, K5 ≤ k → impl_GoodTrie.f k u = some (goodTrie u) := g2
  replace b1 : ∀ k, K6 ≤ k → spec_BuildTrie.f k l = some bt := b1
  replace b2 : ∀ k, K7 ≤ k → impl_BuildTrie.f k l = some bt := b2
  have J3 : ∀ k, K1 + K2 + K3 + K4 + K5 < k → laws_FnLongest.j3 k l1 = some true := fun k hk => by
    obtain ⟨k, rfl⟩ : ∃ k', k = k' + 1 := ⟨k - 1, by omega⟩
    rw [laws_FnLongest.j3, hU k (by omega), kz]
    dsimp only
    rw [k2 k (by omega), kz, k1 k (by omega), kz, if_pos (by simp), if_pos rfl, if_pos rfl, g2 k (by omega), kz, g1 k (by omega), kz]
    simp

  have rest : ∀ (R : Int × Int × Int × Bool) (K : Nat), (R.2.2.2 = true → goodTable l = true ∧ (0 ≤ x ∧ x ≤ 4294967295) ∧ IsLong l x R) → ∀ k, K1 + K2 + K3 + K4 + K5 + 100 < k → laws_FnLongest.j1 k l1 l x R.2.2.2 R.1 R.2.1 R.2.2.1 = some true := fun R _ hR k hk => by
    obtain ⟨k, rfl⟩ : ∃ k', k = k' + 1 := ⟨k - 1, by omega⟩
    rw [laws_FnLongest.j1]
    by_cases hr : R.2.2.2 = true
    · obtain ⟨hT, hx, hL⟩ := hR hr
      have hg := goodTable_good hT
      have big : ∀ e, e ∈ l → (e.f0.f0 ≤ x ∧ x ≤ e.f0.f0 + sz e.f0.f1 - 1) → e.f0.f1 ≤ R.2.1 := fun e he h => by
        rcases hL with ⟨e1, _⟩ | ⟨e', _, e1, _, h2⟩
        · rw [e1] at hr; cases hr
        · have := h2 e he h
          rw [e1]; exact this
      have loop : ∀ (rest pre : List S39) (k : Nat), l = pre ++ rest → K1 + K2 + K3 + K4 + K5 + 1 + rest.length < k → laws_FnLongest.l0 k l1 x l (l.length : Int) (pre.length : Int) R.1 R.2.1 R.2.2.1 = some true := by
        intro rest
        induction rest with
        | nil =>
          intro pre k e hk
          obtain ⟨k, rfl⟩ : ∃ k', k = k' + 1 := ⟨k - 1, by omega⟩
          rw [laws_FnLongest.l0, if_neg (by rw [e]; simp)]
          exact J3 k (by simp at hk; omega)
        | cons a rest ih =>
          intro pre k e hk
          rw [ke] at hk
          obtain ⟨k, rfl⟩ : ∃ k', k = k' + 1 := ⟨k - 1, by omega⟩
          have hlen : pre.length < l.length := by rw [e]; simp
          have ha : rd_T39 l (pre.length : Int) = a := by rw [e]; exact rdm_Entry _ _ _
          have hw : wrap64 ((pre.length : Int) + 1) = ((pre ++ [a]).length : Int) := by rw [wrap_id (by omega) (by omega)]; simp
          have hal : a ∈ l := by rw [e]; simp
          have hh : hasAddr a.f0.f0 a.f0.f1 x = (decide (a.f0.f0 ≤ x ∧ x ≤ a.f0.f0 + sz a.f0.f1 - 1), true) := if_pos ⟨hg a hal, hx⟩
          have ih' := ih (pre ++ [a]) k (by rw [e]; simp) (by omega)
          rw [laws_FnLongest.l0, if_pos (by omega), if_pos (by omega), if_pos (by omega), ha, impl_HasAddr_is, kz, hh]
          dsimp only
          rw [if_pos rfl, hw]
          by_cases hin : a.f0.f0 ≤ x ∧ x ≤ a.f0.f0 + sz a.f0.f1 - 1
          · rw [if_pos (decide_eq_true hin), if_neg (by have := big a hal hin; omega)]
            exact ih'
          · rw [if_neg (by simpa using hin)]
            exact ih'
      rw [if_pos hr]
      exact loop l [] k rfl (by omega)
    · rw [if_neg hr]
      exact J3 k (by omega)
  by_cases hT : goodTable l = true
  · have hbt := bt4 hT
    obtain ⟨hgt, q1, q2⟩ := build_good hT
    obtain ⟨pc, hp, hh⟩ := build_pinv hT
    obtain ⟨K8, t1⟩ := Entries_val hgt
    obtain ⟨K9, t2⟩ := impl_GoodTrie_is (buildP l)
    replace t2 : ∀ k, K9 ≤ k → impl_GoodTrie.f k (buildP l) = some (goodTrie (buildP l)) := t2
    rw [build_entries hT] at t1
    obtain ⟨R, Q, K10, hR, hv, hq, hag⟩ : ∃ (R : Int × Int × Int × Bool) (Q : Int × Int × Bool) (K10 : Nat), (R.2.2.2 = true → goodTable l = true ∧ (0 ≤ x ∧ x ≤ 4294967295) ∧ IsLong l x R) ∧ (∀ k, l.length + 10 ≤ k → spec_LongestIn.f k l x = some R ∧ impl_LongestIn.f k l x = some R) ∧ (∀ k, K10 ≤ k → impl_LookUp.f k (buildP l) x = some Q) ∧ (Q.2.2 = R.2.2.2 ∧ (R.2.2.2 = true → Q.1 = R.2.2.1 ∧ Q.2.1 = R.2.1)) := by
      by_cases hx : 0 ≤ x ∧ x ≤ 4294967295
      · obtain ⟨R, hL, hv⟩ := Longest_val hT hx
        obtain ⟨Q, K10, hQ, hq⟩ := LookUp_val hgt hp hx
        exact ⟨R, Q, K10, fun _ => ⟨hT, hx, hL⟩, hv, hq, look_long hT hp hh hx.1 hx.2 hQ hL⟩
      · obtain ⟨K10, hq⟩ := LookUp_bad (t := buildP l) hx
        exact ⟨(0, 0, 0, false), (0, 0, false), K10, fun hf => (by cases hf), Longest_bad (by omega) (fun h => hx h.2), hq, rfl, fun hf => by cases hf⟩
    obtain ⟨K, hK⟩ : ∃ K : Nat, K1 + K2 + K3 + K4 + K5 + K6 + K7 + K8 + K9 + K10 + 5000 ≤ K := ⟨_, Nat.le_refl _⟩
    refine ⟨K + 1, ?_⟩
    have fin := rest R 0 hR K (by omega)
    unfold laws_FnLongest.f
    rw [if_neg hsz, hD _ (by omega), kz]
    dsimp only
    rw [(hv (K + 1) (by omega)).2, kz, (hv (K + 1) (by omega)).1, kz, b2 _ (by omega), kz, b1 _ (by omega), kz, if_neg (by simp), if_neg (by simp), if_neg (by simp), sameTries_self bt.1 (by omega) _ (by omega), kz, if_pos rfl, impl_GoodTable_is (K + 1) l (by omega) (by omega), kz, hbt, hT]
    dsimp only
    rw [bne_self_eq_false, laws_FnLongest.j0, if_neg (by simp), if_pos rfl, hq K (by omega), kz, t1 K (by omega), kz]
    dsimp only
    rw [if_neg (by rw [hag.1]; simp), sameEntries_self l (by omega) _ (by omega), t2 K (by omega), hgt]
    by_cases hr : R.2.2.2 = true
    · rw [if_pos hr, if_pos (hag.2 hr).1, if_pos (hag.2 hr).2, if_pos rfl, kz, if_pos rfl, kz, if_pos rfl]
      exact fin
    · rw [if_neg hr, if_pos rfl, kz, if_pos rfl, kz, if_pos rfl]
      exact fin
  · have hbt := bt5 hT
    have hv := Longest_bad (l := l) (by omega) (x := x) (fun h => hT h.1)
    obtain ⟨K, hK⟩ : ∃ K : Nat, K1 + K2 + K3 + K4 + K5 + K6 + K7 + 5000 ≤ K := ⟨_, Nat.le_refl _⟩
    refine ⟨K + 1, ?_⟩
    have fin := rest (0, 0, 0, false) 0 (fun hf => by cases hf) K (by omega)
    have hTf : goodTable l = false := by
      cases h : goodTable l with
      | false => rfl
      | true => exact (hT h).elim
    unfold laws_FnLongest.f
    rw [if_neg hsz, hD _ (by omega), kz]
    dsimp only
    rw [(hv (K + 1) (by omega)).2, kz, (hv (K + 1) (by omega)).1, kz, b2 _ (by omega), kz, b1 _ (by omega), kz, if_neg (by simp), if_neg (by simp), if_neg (by simp), sameTries_self bt.1 (by omega) _ (by omega), kz, if_pos rfl, impl_GoodTable_is (K + 1) l (by omega) (by omega), kz, hbt, hTf]
    dsimp only
    rw [bne_self_eq_false, laws_FnLongest.j0, if_neg (by simp), if_neg (by simp)]
    exact fin
end Go.Proofs.Ytakoaogbkajkcaa.Pure
