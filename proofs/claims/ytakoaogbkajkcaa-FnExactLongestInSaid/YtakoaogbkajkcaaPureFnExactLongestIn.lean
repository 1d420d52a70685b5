/- The pure statement of FnExactLongestIn: what the printed functions tell is what the reference tells. No condition but the arguments' own bounds. -/
import Derived.Test.YtakoaogbkajkcaaPFnExactLongestInx11
import Derived.Test.YtakoaogbkajkcaaPfx
import Derived.Test.YtakoaogbkajkcaaSets
import Derived.Test.YtakoaogbkajkcaaLoop
import Derived.Test.YtakoaogbkajkcaaTbl
namespace Go.Proofs.Ytakoaogbkajkcaa.Pure
namespace FnExactLongestInUses
open Go.RowKit Go.Proofs.Ytakoaogbkajkcaa.PFnExactLongestIn Go.Proofs.YtakoaogbkajkcaaW.PrintWords Go.Proofs.YtakoaogbkajkcaaW.PrintLast Go.Proofs.YtakoaogbkajkcaaW.PrintMore Go.Proofs.Ytakoaogbkajkcaa.Pfx Go.Proofs.Ytakoaogbkajkcaa.Loop Go.Proofs.Ytakoaogbkajkcaa.Tbl
set_option linter.unusedVariables false
set_option linter.unusedSimpArgs false

theorem spec_l1In_is (a lo hi : Int) : spec_l1In.f a lo hi = some (decide (lo ≤ a ∧ a ≤ hi)) := by
  unfold spec_l1In.f
  by_cases h : lo ≤ a
  · rw [if_pos h]; simp [h]
  · rw [if_neg h]; simp [h]
theorem impl_within_is (a lo hi : Int) : impl_within.f a lo hi = some (decide (lo ≤ a ∧ a ≤ hi)) := by
  unfold impl_within.f
  by_cases h : lo ≤ a
  · rw [if_pos h]; simp [h]
  · rw [if_neg h]; simp [h]
theorem spec_l1Addr_is (a : Int) : spec_l1Addr.f a = some (decide (0 ≤ a ∧ a ≤ 4294967295)) := by
  unfold spec_l1Addr.f; rw [spec_l1In_is]; rfl
theorem impl_isAddr_is (a : Int) : impl_isAddr.f a = some (decide (0 ≤ a ∧ a ≤ 4294967295)) := by
  unfold impl_isAddr.f; rw [impl_within_is]; rfl
theorem impl_sizeOf_is {n : Int} (h0 : 0 ≤ n) (h1 : n ≤ 32) : impl_sizeOf.f n = some (sz n) := by
  unfold impl_sizeOf.f
  rw [shl_sz h0 h1, if_pos (by rw [wrap_id (by omega) (by omega)]; omega)]
theorem spec_l1Size_is (a : Int) {n : Int} (h0 : 0 ≤ n) (h1 : n ≤ 32) : spec_l1Size.f a n = some (sz n) := by
  unfold spec_l1Size.f
  have e : IntKind.u64.wrap (wrap64 (32 - n)) = wrap64 (32 - n) := by rw [wrap_id (by omega) (by omega), u64_id (by omega) (by omega)]
  rw [e, shl_sz h0 h1, if_pos (by rw [wrap_id (by omega) (by omega)]; omega)]
theorem impl_GoodPrefix_is (a n : Int) : impl_GoodPrefix.f a n = some (good a n) := by
  unfold impl_GoodPrefix.f
  rw [impl_within_is, Option.bind_some]
  by_cases h : 0 ≤ n ∧ n ≤ 32
  · rw [if_pos (decide_eq_true h), impl_isAddr_is, Option.bind_some]
    by_cases h' : 0 ≤ a ∧ a ≤ 4294967295
    · rw [if_pos (decide_eq_true h'), impl_sizeOf_is h.1 h.2, Option.bind_some, if_neg (by have := sz_pos n; omega), Int.tmod_eq_emod_of_nonneg h'.1]
      simp [good, h.1, h.2, h'.1, h'.2, beq_dec]
    · rw [if_neg (by simpa using h')]
      have : good a n = false := by simp [good]; omega
      rw [this]
  · rw [if_neg (by simpa using h)]
    have : good a n = false := by simp [good]; omega
    rw [this]
theorem spec_GoodPrefix_is (a n : Int) : spec_GoodPrefix.f a n = some (good a n) := by
  unfold spec_GoodPrefix.f
  rw [spec_l1In_is, Option.bind_some]
  by_cases h : 0 ≤ n ∧ n ≤ 32
  · rw [if_pos (decide_eq_true h), spec_l1Addr_is, Option.bind_some]
    by_cases h' : 0 ≤ a ∧ a ≤ 4294967295
    · rw [if_pos (decide_eq_true h'), spec_l1Size_is a h.1 h.2, Option.bind_some, if_neg (by have := sz_pos n; omega), Int.tmod_eq_emod_of_nonneg h'.1]
      simp [good, h.1, h.2, h'.1, h'.2, beq_dec]
    · rw [if_neg (by simpa using h')]
      have : good a n = false := by simp [good]; omega
      rw [this]
  · rw [if_neg (by simpa using h)]
    have : good a n = false := by simp [good]; omega
    rw [this]
theorem impl_Prefix_end_is {a n : Int} (h : good a n = true) : impl_Prefix_end.f a n = some (a + sz n - 1) := by
  obtain ⟨h0, h1, h2, h3, h4⟩ := good_iff.1 h
  have := sz_pos n
  have := sz_le h0
  unfold impl_Prefix_end.f
  rw [impl_sizeOf_is h0 h1, Option.bind_some, wrap_id (x := a + sz n) (by omega) (by omega), wrap_id (by omega) (by omega)]
theorem impl_Prefix_has_is {a n : Int} (x : Int) (h : good a n = true) : impl_Prefix_has.f a n x = some (decide (a ≤ x ∧ x ≤ a + sz n - 1)) := by
  unfold impl_Prefix_has.f
  rw [impl_Prefix_end_is h, Option.bind_some, impl_within_is]; rfl
theorem spec_l1HasAddr_is {a n x : Int} (h : good a n = true) (h5 : 0 ≤ x) (h6 : x ≤ 4294967295) : spec_l1HasAddr.f a n x = some (decide (a ≤ x ∧ x ≤ a + sz n - 1)) := by
  obtain ⟨h0, h1, h2, h3, h4⟩ := good_iff.1 h
  have hs := sz_pos n
  have h7 := Int.emod_nonneg x (show sz n ≠ 0 by omega)
  have h8 := Int.emod_lt_of_pos x (show 0 < sz n by omega)
  have h9 := sz_le h0
  unfold spec_l1HasAddr.f
  rw [spec_l1Size_is a h0 h1, Option.bind_some, if_neg (by omega), Int.tmod_eq_emod_of_nonneg h5, wrap_id (by omega) (by omega), beq_dec]
  congr 1
  exact decide_eq_decide.2 (in_row (by omega) h4)
theorem cmp_isNaN_int_is (a : Int) : cmp_isNaN_int.f a = some false := by unfold cmp_isNaN_int.f; simp
theorem cmp_Compare_int_is (a b : Int) : cmp_Compare_int.f a b = some (if a < b then -1 else if a > b then 1 else 0) := by
  unfold cmp_Compare_int.f
  simp only [cmp_isNaN_int_is, Option.bind_some, Bool.false_eq_true, if_false]
  by_cases h1 : a < b
  · simp [h1]
  · by_cases h2 : a > b
    · simp [h1, h2]
    · simp [h1, h2]
theorem impl_compare_is (k : Nat) (a n b m : Int) : impl_compare.f (k + 3) a n b m = some (cmpP a n b m) := by
  unfold impl_compare.f cmp_Or_int.f
  rw [cmp_Compare_int_is, Option.bind_some, cmp_Compare_int_is, Option.bind_some]
  have w1 : wrap64 (0 + 1) = 1 := wrap_id (by omega) (by omega)
  have w2 : wrap64 (1 + 1) = 2 := wrap_id (by omega) (by omega)
  simp only [cmp_Or_int.l0, rd, List.length_cons, List.length_nil, w1, w2]
  unfold cmpP
  by_cases h1 : a < b
  · simp [h1]
  · by_cases h2 : b < a
    · have : ¬ a = b := by omega
      simp [h1, h2, this]
    · obtain rfl : a = b := by omega
      by_cases h3 : n < m
      · simp [h3]
      · by_cases h4 : m < n
        · have : ¬ n = m := by omega
          simp [h3, h4, this]
        · obtain rfl : n = m := by omega
          simp
theorem spec_l1Compare_is (k : Nat) (a n b m : Int) : spec_l1Compare.f (k + 1) a n b m = some (cmpP a n b m) := by
  unfold spec_l1Compare.f cmpP
  simp only [spec_l1Compare.j0]
  by_cases h1 : a < b
  · simp [h1]
  · by_cases h2 : a = b
    · subst h2
      by_cases h3 : n < m
      · simp [h3]
      · by_cases h4 : n = m
        · subst h4; simp
        · simp [h3, h4]
    · simp [h1, h2]
theorem laws_eqPrefix_is (a n b m : Int) : laws_eqPrefix.f a n b m = some (decide (a = b ∧ n = m)) := by
  unfold laws_eqPrefix.f
  by_cases h : a = b
  · by_cases h' : n = m
    · rw [if_pos h, if_pos h']; simp [h, h']
    · rw [if_pos h, if_neg h']; simp [h']
  · rw [if_neg h]; simp [h]
theorem rdm_Prefix (pre : List S37) (a : S37) (rest : List S37) : rd_T37 (pre ++ a :: rest) (pre.length : Int) = a := by unfold rd_T37; simp
def pr (p : S37) : Pr := (p.f0, p.f1)
theorem pr_inj {p q : S37} (h : pr p = pr q) : p = q := by cases p; cases q; simpa [pr] using h
theorem rdm_LPrefix (pre : List S51) (a : S51) (rest : List S51) : rd_T51 (pre ++ a :: rest) (pre.length : Int) = a := by unfold rd_T51; simp
theorem rdm_Entry (pre : List S39) (a : S39) (rest : List S39) : rd_T39 (pre ++ a :: rest) (pre.length : Int) = a := by unfold rd_T39; simp
theorem rdm_LEntry (pre : List S77) (a : S77) (rest : List S77) : rd_T77 (pre ++ a :: rest) (pre.length : Int) = a := by unfold rd_T77; simp
theorem laws_eqEntry_is (a n v b m u : Int) : laws_eqEntry.f a n v b m u = some (decide ((a = b ∧ n = m) ∧ v = u)) := by
  unfold laws_eqEntry.f
  rw [laws_eqPrefix_is, Option.bind_some]
  by_cases h : a = b ∧ n = m
  · rw [if_pos (decide_eq_true h)]
    by_cases h2 : v = u
    · rw [if_pos h2]; simp [h, h2]
    · rw [if_neg h2]; simp [h2]
  · rw [if_neg (by simpa using h)]; simp; intro h1 h2; exact absurd ⟨h1, h2⟩ h
theorem laws_eqEntryS_refl (k : Nat) (l : List S39) (hl : l.length ≤ maxLen) (hk : l.length < k) : laws_eqEntryS.f k l l = some true := by
  unfold laws_eqEntryS.f
  rw [if_pos rfl]
  have key : ∀ (rest pre : List S39) (k : Nat), l = pre ++ rest → rest.length < k → laws_eqEntryS.l0 k l l (pre.length : Int) = some true := by
    intro rest
    induction rest with
    | nil =>
      intro pre k e hk
      obtain ⟨k, rfl⟩ : ∃ m, k = m + 1 := ⟨k - 1, by omega⟩
      simp only [laws_eqEntryS.l0]
      rw [if_neg (by rw [e]; simp)]
    | cons a rest ih =>
      intro pre k e hk
      obtain ⟨k, rfl⟩ : ∃ m, k = m + 1 := ⟨k - 1, by omega⟩
      simp only [laws_eqEntryS.l0]
      rw [if_pos (by rw [e]; exact lt_mid _ _ _), if_pos (len_nn _), if_pos (by rw [e]; exact lt_mid _ _ _), laws_eqEntry_is]
      simp only [Option.bind_some, and_self, decide_true, if_true]
      rw [wrap_mid (rest := rest) (by rw [← e]; exact hl)]
      exact ih (pre ++ [a]) k (by rw [e]; simp) (by simp at hk; omega)
  exact key l [] k rfl hk
theorem laws_toEntryS_is (k : Nat) (l : List S77) (hl : l.length ≤ 1048576) (hk : l.length < k) : laws_toEntryS.f k l = some (l.map fun p => (⟨⟨p.f0.f0, p.f0.f1⟩, p.f1⟩ : S39)) := by
  unfold laws_toEntryS.f
  rw [if_pos (len_nn _), if_pos (by simp; omega)]
  have key : ∀ (rest pre : List S77) (k : Nat), l = pre ++ rest → rest.length < k →
      laws_toEntryS.l0 k l ((pre.map fun p => (⟨⟨p.f0.f0, p.f0.f1⟩, p.f1⟩ : S39)) ++ List.replicate rest.length z39) (pre.length : Int) = some (l.map fun p => (⟨⟨p.f0.f0, p.f0.f1⟩, p.f1⟩ : S39)) := by
    intro rest
    induction rest with
    | nil =>
      intro pre k e hk
      obtain ⟨k, rfl⟩ : ∃ m, k = m + 1 := ⟨k - 1, by omega⟩
      simp only [laws_toEntryS.l0]
      rw [if_neg (by rw [e]; simp)]
      simp [e]
    | cons a rest ih =>
      intro pre k e hk
      obtain ⟨k, rfl⟩ : ∃ m, k = m + 1 := ⟨k - 1, by omega⟩
      simp only [laws_toEntryS.l0, laws_toEntry.f, laws_toPrefix.f, Option.bind_some]
      rw [if_pos (by rw [e]; exact lt_mid _ _ _), if_pos (len_nn _), if_pos (by simp; omega), wrap_mid (rest := rest) (by rw [← e]; simp only [maxLen]; omega)]
      have h1 : rd_T77 l (pre.length : Int) = a := by rw [e]; exact rdm_LEntry _ _ _
      rw [h1, List.length_cons, List.replicate_succ]
      have h2 := ih (pre ++ [a]) k (by rw [e]; simp) (by simp at hk; omega)
      have h3 : ((pre.map fun p => (⟨⟨p.f0.f0, p.f0.f1⟩, p.f1⟩ : S39)) ++ z39 :: List.replicate rest.length z39).set ((pre.length : Int)).toNat (⟨⟨a.f0.f0, a.f0.f1⟩, a.f1⟩ : S39) = ((pre ++ [a]).map fun p => (⟨⟨p.f0.f0, p.f0.f1⟩, p.f1⟩ : S39)) ++ List.replicate rest.length z39 := by
        have := set_mid (pre.map fun p => (⟨⟨p.f0.f0, p.f0.f1⟩, p.f1⟩ : S39)) z39 ⟨⟨a.f0.f0, a.f0.f1⟩, a.f1⟩ (List.replicate rest.length z39)
        rw [List.length_map] at this
        rw [this]; simp
      rw [h3]; exact h2
  have := key l [] k rfl hk
  simpa using this
theorem impl_areRising_is (k : Nat) (l : List S37) (hl : l.length ≤ 1048576) (hk : l.length + 4 < k) : impl_areRising.f k l = some (rising (l.map pr)) := by
  unfold impl_areRising.f
  have key : ∀ (rest pre : List S37) (k : Nat), l = pre ++ rest → rest.length + 4 < k →
      impl_areRising.l0 k l l (l.length : Int) (pre.length : Int) = some (risingFrom ((pre.map pr).getLast?) (rest.map pr)) := by
    intro rest
    induction rest with
    | nil =>
      intro pre k e hk
      obtain ⟨k, rfl⟩ : ∃ m, k = m + 1 := ⟨k - 1, by omega⟩
      simp only [impl_areRising.l0]
      rw [if_neg (by rw [e]; simp)]
      simp [risingFrom]
    | cons a rest ih =>
      intro pre k e hk
      obtain ⟨k, rfl⟩ : ∃ m, k = m + 1 := ⟨k - 1, by omega⟩
      have h1 : rd_T37 l (pre.length : Int) = a := by rw [e]; exact rdm_Prefix _ _ _
      have hih := ih (pre ++ [a]) k (by rw [e]; simp) (by simp at hk; omega)
      rw [List.map_append, List.map_singleton, List.getLast?_concat] at hih
      simp only [impl_areRising.l0]
      rw [if_pos (by rw [e]; exact lt_mid _ _ _), if_pos (len_nn _), if_pos (by rw [e]; exact lt_mid _ _ _), h1, impl_GoodPrefix_is, Option.bind_some, wrap_mid (rest := rest) (by rw [← e]; simp only [maxLen]; omega)]
      simp only [List.map_cons, risingFrom]
      by_cases hg : good a.f0 a.f1 = true
      · rw [if_pos hg]
        rcases snoc_cases pre with rfl | ⟨pre', q, rfl⟩
        · rw [if_neg (by simp)]
          simp only [List.nil_append, List.length_singleton] at hih
          rw [show (([] : List S37) ++ [a]).length = 1 from rfl, hih]
          simp [pr, hg]
        · have h2 : wrap64 (((pre' ++ [q]).length : Int) - 1) = (pre'.length : Int) := by
            have : (pre' ++ [q] ++ a :: rest).length ≤ 1048576 := by rw [← e]; exact hl
            simp at this
            rw [List.length_append, List.length_singleton, wrap_id (by omega) (by omega)]; omega
          have h3 : rd_T37 l (pre'.length : Int) = q := by rw [e, List.append_assoc]; exact rdm_Prefix _ _ _
          obtain ⟨k', rfl⟩ : ∃ m, k = m + 3 := ⟨k - 3, by simp at hk; omega⟩
          rw [if_pos (by rw [List.length_append, List.length_singleton]; omega), h2, if_pos (len_nn _), if_pos (by rw [e, List.length_append, List.length_append, List.length_singleton]; omega), h3, impl_compare_is, Option.bind_some, hih, List.map_append, List.map_singleton, List.getLast?_concat]
          by_cases hc : cmpP q.f0 q.f1 a.f0 a.f1 ≥ 0
          · rw [if_pos hc]
            have : ¬ cmpP q.f0 q.f1 a.f0 a.f1 < 0 := by omega
            simp [pr, this]
          · rw [if_neg hc]
            have : cmpP q.f0 q.f1 a.f0 a.f1 < 0 := by omega
            simp [pr, hg, this]
      · rw [if_neg hg]
        simp [pr, hg]
  exact key l [] k rfl hk
theorem impl_isValue_is (a : Int) : impl_isValue.f a = some (isVal a) := by
  unfold impl_isValue.f; rw [impl_within_is]; rfl
theorem spec_l2Value_is (a : Int) : spec_l2Value.f a = some (isVal a) := by
  unfold spec_l2Value.f; rw [spec_l1In_is]; rfl
theorem impl_prefixesOf_is (k : Nat) (l : List S39) (hl : l.length ≤ 1048576) (hk : l.length < k) : impl_prefixesOf.f k l = some (l.map fun x => (⟨x.f0.f0, x.f0.f1⟩ : S37)) := by
  unfold impl_prefixesOf.f
  have key : ∀ (rest pre : List S39) (k : Nat), l = pre ++ rest → rest.length < k →
      impl_prefixesOf.l0 k (pre.map fun x => (⟨x.f0.f0, x.f0.f1⟩ : S37)) l (l.length : Int) (pre.length : Int) = some (l.map fun x => (⟨x.f0.f0, x.f0.f1⟩ : S37)) := by
    intro rest
    induction rest with
    | nil =>
      intro pre k e hk
      obtain ⟨k, rfl⟩ : ∃ m, k = m + 1 := ⟨k - 1, by omega⟩
      simp only [impl_prefixesOf.l0]
      rw [if_neg (by rw [e]; simp)]
      simp [e]
    | cons a rest ih =>
      intro pre k e hk
      obtain ⟨k, rfl⟩ : ∃ m, k = m + 1 := ⟨k - 1, by omega⟩
      have h1 : rd_T39 l (pre.length : Int) = a := by rw [e]; exact rdm_Entry _ _ _
      have hlen : pre.length < 8796093022208 := by
        have : (pre ++ a :: rest).length ≤ 1048576 := by rw [← e]; exact hl
        simp at this; omega
      have hih := ih (pre ++ [a]) k (by rw [e]; simp) (by simp at hk; omega)
      rw [List.map_append, List.map_singleton] at hih
      simp only [impl_prefixesOf.l0]
      rw [if_pos (by rw [e]; exact lt_mid _ _ _), if_pos (len_nn _), if_pos (by rw [e]; exact lt_mid _ _ _), if_pos (by simpa using hlen), h1, wrap_mid (rest := rest) (by rw [← e]; simp only [maxLen]; omega)]
      exact hih
  exact key l [] k rfl hk
theorem impl_GoodTable_1_is (a n v : Int) : impl_GoodTable_1.f a n v = some (!isVal v) := by
  unfold impl_GoodTable_1.f; rw [impl_isValue_is]; rfl
def ent (e : S39) : Pr := (e.f0.f0, e.f0.f1)
def goodTable (l : List S39) : Bool := decide (l.length ≤ 30) && rising (l.map ent) && l.all (fun e => isVal e.f1)
theorem impl_GoodTable_any (k : Nat) (l : List S39) (hl : l.length ≤ 1048576) (hk : l.length < k) : slices_ContainsFunc_impl_Entry_impl_Entry.f k l = some (l.any fun e => !isVal e.f1) := by
  unfold slices_ContainsFunc_impl_Entry_impl_Entry.f slices_IndexFunc_impl_Entry_impl_Entry.f
  have key : ∀ (rest pre : List S39) (k : Nat), l = pre ++ rest → rest.length < k →
      ∃ r : Int, slices_IndexFunc_impl_Entry_impl_Entry.l0 k l (l.length : Int) (pre.length : Int) = some r ∧ (0 ≤ r ↔ (rest.any fun e => !isVal e.f1) = true) := by
    intro rest
    induction rest with
    | nil =>
      intro pre k e hk
      obtain ⟨k, rfl⟩ : ∃ m, k = m + 1 := ⟨k - 1, by omega⟩
      refine ⟨-1, ?_, by simp⟩
      simp only [slices_IndexFunc_impl_Entry_impl_Entry.l0]
      rw [if_neg (by rw [e]; simp)]
    | cons a rest ih =>
      intro pre k e hk
      obtain ⟨k, rfl⟩ : ∃ m, k = m + 1 := ⟨k - 1, by omega⟩
      have h1 : rd_T39 l (pre.length : Int) = a := by rw [e]; exact rdm_Entry _ _ _
      simp only [slices_IndexFunc_impl_Entry_impl_Entry.l0]
      rw [if_pos (by rw [e]; exact lt_mid _ _ _), if_pos (len_nn _), if_pos (by rw [e]; exact lt_mid _ _ _), h1, impl_GoodTable_1_is, Option.bind_some, wrap_mid (rest := rest) (by rw [← e]; simp only [maxLen]; omega)]
      by_cases hv : (!isVal a.f1) = true
      · rw [if_pos hv]
        exact ⟨_, rfl, by simp [hv]⟩
      · rw [if_neg hv]
        obtain ⟨r, hr, hi⟩ := ih (pre ++ [a]) k (by rw [e]; simp) (by simp at hk; omega)
        refine ⟨r, hr, ?_⟩
        rw [hi]; simp [hv]
  obtain ⟨r, hr, hi⟩ := key l [] k rfl hk
  have hr' : slices_IndexFunc_impl_Entry_impl_Entry.l0 k l (l.length : Int) 0 = some r := hr
  rw [hr', Option.bind_some]
  congr 1
  by_cases h : 0 ≤ r
  · rw [hi.1 h]; simp [h]
  · have : (l.any fun e => !isVal e.f1) = false := by
      cases hb : (l.any fun e => !isVal e.f1) with
      | false => rfl
      | true => exact absurd (hi.2 hb) h
    rw [this]; simp; omega
theorem impl_GoodTable_is (k : Nat) (l : List S39) (hl : l.length ≤ 1048576) (hk : l.length + 4 < k) : impl_GoodTable.f k l = some (goodTable l) := by
  unfold impl_GoodTable.f goodTable
  by_cases h : (l.length : Int) ≤ 30
  · rw [if_pos h, impl_prefixesOf_is k l hl (by omega), Option.bind_some, impl_areRising_is k _ (by simpa using hl) (by simpa using hk), Option.bind_some]
    have he : ((l.map fun x => (⟨x.f0.f0, x.f0.f1⟩ : S37)).map pr) = l.map ent := by rw [List.map_map]; rfl
    rw [he]
    have h30 : l.length ≤ 30 := by omega
    by_cases hr : rising (l.map ent) = true
    · rw [if_pos hr, impl_GoodTable_any k l hl (by omega), Option.bind_some]
      simp only [h30, decide_true, hr, Bool.true_and, List.not_any_eq_all_not, Bool.not_not]
    · rw [if_neg hr]
      simp [hr]
  · rw [if_neg h]
    have h30 : ¬ l.length ≤ 30 := by omega
    simp [h30]
theorem spec_GoodTable_is (k : Nat) (l : List S39) (hl : l.length ≤ 1048576) (hk : l.length + 2 < k) : spec_GoodTable.f k l = some (goodTable l) := by
  unfold spec_GoodTable.f
  have key : ∀ (rest pre : List S39) (k : Nat), l = pre ++ rest → rest.length + 2 < k →
      spec_GoodTable.l0 k l l (l.length : Int) (pre.length : Int) = some (decide (l.length ≤ 30) && risingFrom ((pre.map ent).getLast?) (rest.map ent) && rest.all (fun e => isVal e.f1)) := by
    intro rest
    induction rest with
    | nil =>
      intro pre k e hk
      obtain ⟨k, rfl⟩ : ∃ m, k = m + 1 := ⟨k - 1, by omega⟩
      simp only [spec_GoodTable.l0]
      rw [if_neg (by rw [e]; simp)]
      have : ((l.length : Int) ≤ 30) ↔ l.length ≤ 30 := by omega
      simp [risingFrom, this]
    | cons a rest ih =>
      intro pre k e hk
      obtain ⟨k, rfl⟩ : ∃ m, k = m + 1 := ⟨k - 1, by omega⟩
      have h1 : rd_T39 l (pre.length : Int) = a := by rw [e]; exact rdm_Entry _ _ _
      have hih := ih (pre ++ [a]) k (by rw [e]; simp) (by simp at hk; omega)
      rw [List.map_append, List.map_singleton, List.getLast?_concat] at hih
      simp only [spec_GoodTable.l0]
      rw [if_pos (by rw [e]; exact lt_mid _ _ _), if_pos (len_nn _), if_pos (by rw [e]; exact lt_mid _ _ _), h1, spec_GoodPrefix_is, Option.bind_some, spec_l2Value_is, Option.bind_some, wrap_mid (rest := rest) (by rw [← e]; simp only [maxLen]; omega)]
      simp only [List.map_cons, risingFrom, List.all_cons]
      by_cases hg : good a.f0.f0 a.f0.f1 = true
      · rw [if_pos hg]
        by_cases hv : isVal a.f1 = true
        · rw [if_pos hv]
          rcases snoc_cases pre with rfl | ⟨pre', q, rfl⟩
          · rw [if_neg (by simp)]
            simp only [List.nil_append, List.length_singleton] at hih
            rw [show (([] : List S39) ++ [a]).length = 1 from rfl, hih]
            simp [ent, hg, hv]
          · have h2 : wrap64 (((pre' ++ [q]).length : Int) - 1) = (pre'.length : Int) := by
              have : (pre' ++ [q] ++ a :: rest).length ≤ 1048576 := by rw [← e]; exact hl
              simp at this
              rw [List.length_append, List.length_singleton, wrap_id (by omega) (by omega)]; omega
            have h3 : rd_T39 l (pre'.length : Int) = q := by rw [e, List.append_assoc]; exact rdm_Entry _ _ _
            obtain ⟨k', rfl⟩ : ∃ m, k = m + 1 := ⟨k - 1, by simp at hk; omega⟩
            rw [if_pos (by rw [List.length_append, List.length_singleton]; omega), h2, if_pos (len_nn _), if_pos (by rw [e, List.length_append, List.length_append, List.length_singleton]; omega), h3, spec_l1Compare_is, Option.bind_some, hih, List.map_append, List.map_singleton, List.getLast?_concat]
            by_cases hc : cmpP q.f0.f0 q.f0.f1 a.f0.f0 a.f0.f1 ≥ 0
            · rw [if_pos hc]
              have : ¬ cmpP q.f0.f0 q.f0.f1 a.f0.f0 a.f0.f1 < 0 := by omega
              simp [ent, this]
            · rw [if_neg hc]
              have : cmpP q.f0.f0 q.f0.f1 a.f0.f0 a.f0.f1 < 0 := by omega
              simp [ent, hg, hv, this]
        · rw [if_neg hv]
          simp [hv]
      · rw [if_neg hg]
        simp [ent, hg]
  exact key l [] k rfl hk
theorem goodTable_good {l : List S39} (h : goodTable l = true) : ∀ e, e ∈ l → good e.f0.f0 e.f0.f1 = true := by
  intro e he
  unfold goodTable at h
  simp only [Bool.and_eq_true] at h
  exact rising_good h.1.2 (ent e) (List.mem_map.2 ⟨e, he, rfl⟩)
theorem rd_mem_Entry {l : List S39} {i : Int} (h0 : 0 ≤ i) (h1 : i < (l.length : Int)) : rd_T39 l i ∈ l := by
  unfold rd_T39
  have : i.toNat < l.length := by omega
  rw [List.getD_eq_getElem?_getD, List.getElem?_eq_getElem this]
  exact List.getElem_mem this
theorem longest_same (l : List S39) (x : Int) (hg : ∀ e, e ∈ l → good e.f0.f0 e.f0.f1 = true) (hx : 0 ≤ x ∧ x ≤ 4294967295) : ∀ (k : Nat) (b i : Int), impl_LongestIn.l0 k l x b l (l.length : Int) i = spec_l2Longest.l0 k l x b l (l.length : Int) i
  | 0, _, _ => rfl
  | k + 1, b, i => by
    simp only [impl_LongestIn.l0, spec_l2Longest.l0]
    by_cases h1 : i < (l.length : Int)
    · rw [if_pos h1, if_pos h1]
      by_cases h2 : 0 ≤ i
      · have hm := hg _ (rd_mem_Entry h2 h1)
        rw [if_pos h2, if_pos h2, if_pos h1, if_pos h1, impl_Prefix_has_is x hm, spec_l1HasAddr_is hm hx.1 hx.2]
        simp only [longest_same l x hg hx k]
      · simp only [if_neg h2, if_pos h1]
    · rw [if_neg h1, if_neg h1]
theorem longest_some (l : List S39) (x : Int) (hl : l.length ≤ 1048576) (hg : ∀ e, e ∈ l → good e.f0.f0 e.f0.f1 = true) (hx : 0 ≤ x ∧ x ≤ 4294967295) : ∀ (rest pre : List S39) (k : Nat) (b : Int), l = pre ++ rest → rest.length < k → -1 ≤ b → b < pre.length →
    ∃ r, spec_l2Longest.l0 k l x b l (l.length : Int) (pre.length : Int) = some r := by
  intro rest
  induction rest with
  | nil =>
    intro pre k b e hk h0 h1
    obtain ⟨k, rfl⟩ : ∃ m, k = m + 1 := ⟨k - 1, by omega⟩
    simp only [spec_l2Longest.l0]
    have e' : l = pre := by simpa using e
    subst e'
    rw [if_neg (by omega)]
    by_cases hb : b < 0
    · rw [if_pos hb]; exact ⟨_, rfl⟩
    · rw [if_neg hb, if_pos (by omega), if_pos h1]; exact ⟨_, rfl⟩
  | cons a rest ih =>
    intro pre k b e hk h0 h1
    obtain ⟨k, rfl⟩ : ∃ m, k = m + 1 := ⟨k - 1, by omega⟩
    have hr : rd_T39 l (pre.length : Int) = a := by rw [e]; exact rdm_Entry _ _ _
    have hm := hg a (by rw [e]; simp)
    have hlen : (pre.length : Int) < (l.length : Int) := by rw [e]; exact lt_mid _ _ _
    have hih := fun b' => ih (pre ++ [a]) k b' (by rw [e]; simp) (by simp at hk; omega)
    simp only [spec_l2Longest.l0]
    rw [if_pos hlen, if_pos (len_nn _), if_pos hlen, hr, spec_l1HasAddr_is hm hx.1 hx.2, Option.bind_some, wrap_mid (rest := rest) (by rw [← e]; simp only [maxLen]; omega)]
    have same := hih b h0 (by simp; omega)
    have this := hih (pre.length : Int) (by omega) (by simp; omega)
    by_cases hc : decide (a.f0.f0 ≤ x ∧ x ≤ a.f0.f0 + sz a.f0.f1 - 1) = true
    · rw [if_pos hc]
      by_cases hb : b < 0
      · rw [if_pos hb]; exact this
      · rw [if_neg hb, if_pos (by omega), if_pos (by omega)]
        by_cases hd : a.f0.f1 > (rd_T39 l b).f0.f1
        · rw [if_pos hd]; exact this
        · rw [if_neg hd]; exact same
    · rw [if_neg hc]; exact same
theorem LongestIn_is (k : Nat) (l : List S39) (x : Int) (hl : l.length ≤ 1048576) (hk : l.length + 5 < k) : ∃ r, spec_LongestIn.f k l x = some r ∧ impl_LongestIn.f (k + 1) l x = some r := by
  unfold spec_LongestIn.f impl_LongestIn.f
  rw [spec_GoodTable_is k l hl (by omega), impl_GoodTable_is (k + 1) l hl (by omega)]
  simp only [Option.bind_some]
  by_cases hg : goodTable l = true
  · rw [if_pos hg, if_pos hg, spec_l1Addr_is, impl_isAddr_is]
    simp only [Option.bind_some]
    by_cases hx : 0 ≤ x ∧ x ≤ 4294967295
    · have hgd := goodTable_good hg
      obtain ⟨r, hr⟩ := longest_some l x hl hgd hx l [] k (-1) rfl (by omega) (by omega) (by simp)
      have hr' : spec_l2Longest.l0 k l x (-1) l (l.length : Int) 0 = some r := hr
      obtain ⟨r2, hr2⟩ := longest_some l x hl hgd hx l [] (k - 1) (-1) rfl (by omega) (by omega) (by simp)
      refine ⟨(r.1, r.2.1, r.2.2.1, r.2.2.2), ?_, ?_⟩
      · rw [if_pos (decide_eq_true hx)]
        unfold spec_l2Longest.f
        rw [hr']; rfl
      · simp only [impl_LongestIn.j0]
        rw [if_neg (by simp [hx]), longest_same l x hgd hx k, hr']
    · refine ⟨(0, 0, 0, false), by rw [if_neg (by simpa using hx)], ?_⟩
      simp only [impl_LongestIn.j0]
      rw [if_pos (by simp; omega)]
  · refine ⟨(0, 0, 0, false), by rw [if_neg hg], ?_⟩
    rw [if_neg hg]
    simp only [impl_LongestIn.j0]
    rw [if_pos trivial]
theorem laws_szEntryS_is (l : List S77) (m0 : l.length ≤ maxLen) : ∃ r, laws_szEntryS.f l 1048576 = some r ∧ (¬ r < 0 → l.length ≤ 1048576) := by
  unfold laws_szEntryS.f
  by_cases h : wrap64 (1048576 - (l.length : Int)) < 0
  · exact ⟨_, if_pos h, fun h' => absurd (by omega) h'⟩
  · exact ⟨_, if_neg h, fun h' => sz_ok m0 (if_neg h) h'⟩
theorem map_pr_inj : ∀ {l l' : List S37}, l.map pr = l'.map pr → l = l'
  | [], [], _ => rfl
  | [], _ :: _, h => by simp at h
  | _ :: _, [], h => by simp at h
  | a :: t, b :: t', h => by
    simp only [List.map_cons, List.cons.injEq] at h
    rw [pr_inj h.1, map_pr_inj h.2]

end FnExactLongestInUses
open Go.RowKit Go.Proofs.Ytakoaogbkajkcaa.PFnExactLongestIn Go.Proofs.YtakoaogbkajkcaaW.PrintWords Go.Proofs.YtakoaogbkajkcaaW.PrintLast Go.Proofs.YtakoaogbkajkcaaW.PrintMore Go.Proofs.Ytakoaogbkajkcaa.Pfx Go.Proofs.Ytakoaogbkajkcaa.Loop Go.Proofs.Ytakoaogbkajkcaa.Tbl FnExactLongestInUses
set_option linter.unusedVariables false
theorem FnExactLongestIn (l0 : List S77) (a1 : Int) (m0 : l0.length ≤ maxLen) (w0 : ∀ a, a ∈ l0 → (((Lit.int .i64 a.f0.f0).wf = true ∧ (Lit.int .i64 a.f0.f1).wf = true) ∧ (Lit.int .i64 a.f1).wf = true)) (w1 : (Lit.int .i64 a1).wf = true) : ∃ k, laws_FnExactLongestIn.f k l0 a1 = some true := by
  unfold laws_FnExactLongestIn.f
  obtain ⟨r, hr, hb⟩ := laws_szEntryS_is l0 m0
  by_cases h : r < 0
  · exact ⟨0, by rw [hr, Option.bind_some, if_pos h]⟩
  · have hl := hb h
    obtain ⟨q, hq1, hq2⟩ := LongestIn_is (l0.length + 7) (l0.map fun p => (⟨⟨p.f0.f0, p.f0.f1⟩, p.f1⟩ : S39)) a1 (by simpa using hl) (by simp)
    have hq3 := at_rounds (fun k => spec_LongestIn.mono _ _ k) (Nat.le_succ _) hq1
    refine ⟨l0.length + 7 + 1, ?_⟩
    rw [hr, Option.bind_some, if_neg h, laws_toEntryS_is _ l0 hl (by omega)]
    simp only [Option.bind_some]
    rw [hq3, hq2]
    simp only [Option.bind_some, laws_eqEntry_is, and_self, decide_true, if_true, bne_self_eq_false]
    simp only [laws_FnExactLongestIn.j0]
    rw [if_neg (by simp), laws_toEntryS_is _ l0 hl (by omega)]
    simp only [Option.bind_some]
    rw [laws_eqEntryS_refl _ _ (by simp only [maxLen, List.length_map]; omega) (by simp)]
    simp
end Go.Proofs.Ytakoaogbkajkcaa.Pure
